/- HornerTimes: whatever the input, the law returns true; the input reads as it did: from the walk to the card's own form. Conditions: those of the card itself. -/
import Derived.Test.YtedkhdfcoaanpaaGreatFmtWit
import Derived.Test.YtedkhdfcoaanpaaGreatFmtTimes
import Derived.Deep.Slices
namespace Go.Proofs.YtedkhdfcoaanpaaGreatFmt
open Go.ChangeShapes Go.WideShapes Go.ChangeAt Go.RowKit Go.Kit Go.SurdFp
open Go.Extern.Stop Go.Stop Go.Extern

set_option maxRecDepth 100000 in
/-- two whole numbers in a row, read as an array of two -/
theorem pair_read {H : Type} {enc : TypeId × Value → H} {W : World} {base : Nat} {sp : Nat → Bool} {held : Bool} {fuel : Nat} {cs : List Value} {x : DataW H × List MemPlace} (h : DataW.trod enc Tryz.prog W base sp held fuel 23 cs = some x) :
    ∃ z0 z1 : Int, cs = [.int .i64 z0, .int .i64 z1] ∧ x.2 = [] := by
  obtain ⟨xs, m, _, ex, hl, hxl, hel⟩ := DataW.trod_array Tryz.underlying23 h
  have c1 : Tryz.prog.cellsOf 3 = 1 := by kernel_rfl
  have c2 : Tryz.prog.cellsOf 23 = 2 := by kernel_rfl
  rw [c2] at hl
  match cs, hl, xs, hxl with
  | [v0, v1], _, [y0, y1], _ =>
    have h0 := hel 0 (by decide)
    have h1 := hel 1 (by decide)
    rw [c1] at h0 h1
    simp only [Nat.zero_mul, Nat.one_mul, List.drop_zero, List.drop_succ_cons, List.take_succ_cons, List.take_zero, List.getElem?_cons_zero, List.getElem?_cons_succ] at h0 h1
    obtain ⟨n0, e0, g0, _⟩ := DataW.trod_int Tryz.underlying3 h0
    obtain ⟨n1, e1, g1, _⟩ := DataW.trod_int Tryz.underlying3 h1
    simp only [List.cons.injEq, and_true] at e0 e1
    refine ⟨n0, n1, by rw [e0, e1], ?_⟩
    rw [ex, g0, g1]; rfl

set_option maxRecDepth 100000 in
theorem pairs_open {H : Type} {enc : TypeId × Value → H} {W : World} {fuel : Nat} {a0 : Option Addr} {len cap : Nat} {x : DataW H × List MemPlace}
    (hf : DataW.trod enc Tryz.prog W 0 (fun _ => true) true fuel 22 (Value.slice a0 len cap).cells.toList = some x) :
    ∃ l : List (Int × Int), l.length = len ∧ (l = [] ∨ ∃ a, a0 = some a ∧ PairsAt a l W) := by
  rcases Deep.open_slice Tryz.underlying22 hf with ⟨hcs, _⟩ | ⟨a, len', cap', m, n, D, Pl, hcs, _, hl, hm, hmm, _, hx⟩
  · simp [Value.cells] at hcs
    obtain ⟨rfl, rfl, rfl⟩ := hcs
    exact ⟨[], rfl, .inl rfl⟩
  · simp [Value.cells] at hcs
    obtain ⟨rfl, rfl, rfl⟩ := hcs
    simp only [if_true] at hmm
    have c2 : Tryz.prog.cellsOf 23 = 2 := by kernel_rfl
    have each : ∀ i, i < len → ∃ q : Int × Int, W.cell? (a.add (i * 2)) = some (.int .i64 q.1) ∧ W.cell? (a.add (i * 2 + 1)) = some (.int .i64 q.2) := by
      intro i hi
      obtain ⟨cs', h1, h2⟩ := hx i (by omega)
      obtain ⟨z0, z1, rfl, _⟩ := pair_read h2
      rw [c2] at h1
      obtain ⟨_, hlen, hcell⟩ := World.cells?_some h1
      have g0 := hcell 0 (by decide)
      have g1 := hcell 1 (by decide)
      rw [Deep.add_add] at g0 g1
      exact ⟨(z0, z1), by simpa using g0, by simpa using g1⟩
    obtain ⟨q, hq⟩ := Deep.choose_lt each
    refine ⟨(List.range len).map q, by simp, .inr ⟨a, rfl, ⟨fun j hj => ?_, fun j hj => ?_⟩⟩⟩
    · have hj' : j < len := by simpa using hj
      rw [(hq j hj').1]; simp
    · have hj' : j < len := by simpa using hj
      rw [(hq j hj').2]; simp
set_option maxRecDepth 100000 in
theorem pair_one {H : Type} {enc : TypeId × Value → H} {W : World} {b0 : Nat} {v : Value} {d : DataW H} {p : List MemPlace} (hv : Value.okWide Tryz.prog W .any b0 23 v)
    (h : DataW.Trod enc Tryz.prog W 0 (fun _ => true) true 23 v d p) : ∃ z : Int × Int, v = .agg #[.int .i64 z.1, .int .i64 z.2] ∧ p = [] := by
  have hu := Tryz.underlying23
  have hv' := hv
  simp only [Value.okWide, hu] at hv'
  obtain ⟨cs, rfl, _, _⟩ := hv'
  obtain ⟨fuel, hf⟩ := h
  obtain ⟨z0, z1, hcs, hp⟩ := pair_read hf
  refine ⟨(z0, z1), ?_, hp⟩
  have e : cs.toList = [.int .i64 z0, .int .i64 z1] := hcs
  have e2 : cs = #[.int .i64 z0, .int .i64 z1] := by
    apply Array.toList_inj.1
    rw [e]
  rw [e2]

set_option maxRecDepth 100000 in
set_option maxHeartbeats 1600000 in
theorem times_lifted (os : Os) (started : os.Started) (H : Type) (enc : TypeId × Value → H) :
    ReturnsInTold none {} Tryz.checked os 3 .any Input.okWide ((OpenSpec.ofChange Rows.hornerTimesSpec).preRow enc Tryz.prog Tryz.f3 [] false Rows.hornerTimesRow.laid)
      (fun F => ((OpenSpec.ofChange Rows.hornerTimesSpec).at F).post enc Tryz.prog Tryz.f3 false true false false) (aloneAtReturn Tryz.prog) nothingAlways := by
  refine returnsInTold_of_row (C := Tryz.checked) (s := OpenSpec.ofChange Rows.hornerTimesSpec) (by as_aux_lemma => kernel_rfl) own started (by as_aux_lemma => kernel_rfl) Tryz.func3
    (witness_told #[.slice none 0 0, .slice none 0 0, .agg #[.int .i64 0, .int .i64 0]] (by kernel_rfl) (by kernel_rfl) (by kernel_rfl) (by kernel_rfl) (by kernel_rfl) (by kernel_rfl) (by kernel_rfl) (by kernel_rfl)) ?_
  intro F W base args ds gs before _ hF hval0 hW _ _ hsz hL _
  have hval : ∀ (j : Nat) t v, Tryz.f3.params[j]? = some t → args[j]? = some v → Value.okWide Tryz.prog W .any base t v := hval0
  have hW' := hW
  obtain ⟨p, q, hA0, hV, rfl, _, _⟩ := hW
  have hA : DataW.TrodAll enc Tryz.prog W 0 (fun _ => true) true Tryz.f3.params.toList args.toList ds p := hA0
  rw [Tryz.params3] at hA hval
  obtain ⟨v0, v1, v2, d0, d1, d2, p0, p1, p2, rfl, rfl, rfl, h0, h1, h2⟩ := trodAll_three hA
  obtain ⟨rfl, rfl⟩ := trodVars_none hV
  obtain ⟨pe, hE⟩ := env_of_laid hL (by kernel_rfl) (by simp [Rows.hornerTimesRow]) (by simp [Rows.hornerTimesRow]) (by simp [Rows.hornerTimesRow])
  have h0k := h0
  have h1k := h1
  have h2k := h2
  obtain ⟨a0, len0, cap0, rfl⟩ := okWide_slice Tryz.underlying22 (hval 0 22 v0 rfl rfl)
  obtain ⟨a1, len1, cap1, rfl⟩ := okWide_slice Tryz.underlying22 (hval 1 22 v1 rfl rfl)
  obtain ⟨z, rfl, rfl⟩ := pair_one (hval 2 23 v2 rfl rfl) h2
  obtain ⟨fuel0, hf0⟩ := h0
  obtain ⟨fuel1, hf1⟩ := h1
  obtain ⟨l0, hl0, g0⟩ := pairs_open hf0
  obtain ⟨l1, hl1, g1⟩ := pairs_open hf1
  clear hA0 hval0
  simp only [List.append_nil] at hW'
  have hp0 : ∀ x ∈ p0, x.block < W.heap.size := fun x hx => by simpa using hW'.lt x (by simp [hx])
  have hp1 : ∀ x ∈ p1, x.block < W.heap.size := fun x hx => by simpa using hW'.lt x (by simp [hx])
  have fin := Times_any pe a0 a1 cap0 cap1 l0 l1 z W hE g0 g1
  rw [hl0, hl1] at fin
  refine fin.mono fun e W' ⟨he, hnx⟩ => ?_
  subst he
  refine ⟨_, rfl, _, _, _, [], _, [], hW', ?_, trodAll_mk3 (Below.trod laidOut (by kernel_rfl) (of_decide_eq_true (by kernel_rfl)) h0k hnx hp0) (Below.trod laidOut (by kernel_rfl) (of_decide_eq_true (by kernel_rfl)) h1k hnx hp1) (Below.trod laidOut (by kernel_rfl) (of_decide_eq_true (by kernel_rfl)) h2k hnx (fun _ hx => by cases hx)), rfl, hnx.frame _, fun h => by cases h⟩
  exact trodAll_mk1 (shut_bool Tryz.underlying4 _)
end Go.Proofs.YtedkhdfcoaanpaaGreatFmt
