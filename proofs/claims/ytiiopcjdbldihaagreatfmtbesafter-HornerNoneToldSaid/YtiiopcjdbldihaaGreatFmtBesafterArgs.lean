/- The arguments of the laws on Horner's rule, opened: slices of bits, one number's bits. No condition. -/
import Derived.Test.YtiiopcjdbldihaaGreatFmtBesafterWit
import Derived.Test.YtiiopcjdbldihaaGreatFmtBesafterRows2
import Derived.Lib.SmallJoins
namespace Go.Proofs.YtiiopcjdbldihaaGreatFmtBesafter
open Go.ChangeShapes Go.WideShapes Go.ChangeAt Go.RowKit Go.Kit Go.SurdFp

set_option maxRecDepth 100000 in
theorem bits_open {H : Type} {enc : TypeId × Value → H} {W : World} {fuel : Nat} {a0 : Option Addr} {len cap : Nat} {x : DataW H × List MemPlace}
    (hf : DataW.trod enc Tryz.prog W 0 (fun _ => true) true fuel 22 (Value.slice a0 len cap).cells.toList = some x) :
    ∃ l : List CB, Arg (.slice a0 len cap) l W ∧ (∀ j (hj : j < l.length), LtC l[j]) ∧ (l = [] ∨ ∃ E S, x.1 = .slice E S ∧ l.length ≤ E.length) := by
  rcases Deep.open_slice_pairs Tryz.underlying22 Tryz.underlying25 (by kernel_rfl) rfl rfl (by kernel_rfl) (by kernel_rfl) hf with ⟨hcs, _⟩ | ⟨a, len', cap', m, n, V0, V1, D0, D1, P0, P1, hcs, _, hl, hm, hmm, hx, hcell⟩
  · simp [Value.cells] at hcs
    obtain ⟨rfl, rfl, rfl⟩ := hcs
    exact ⟨[], .inl ⟨rfl, rfl⟩, (fun j hj => absurd hj (Nat.not_lt_zero j)), .inl rfl⟩
  · simp [Value.cells] at hcs
    obtain ⟨rfl, rfl, rfl⟩ := hcs
    simp only [if_true] at hmm
    have each : ∀ i, i < len → ∃ z0 z1 : Nat, V0 i = .int .u64 (z0 : Int) ∧ V1 i = .int .u64 (z1 : Int) ∧ z0 < 2 ^ 64 ∧ z1 < 2 ^ 64 := by
      intro i hi
      obtain ⟨_, _, t0, t1⟩ := hcell i (by omega)
      obtain ⟨n0, e0, _, w0⟩ := DataW.trod_int Tryz.underlying23 t0
      obtain ⟨n1, e1, _, w1⟩ := DataW.trod_int Tryz.underlying23 t1
      obtain ⟨q0, b0⟩ := u64_nat w0
      obtain ⟨q1, b1⟩ := u64_nat w1
      simp only [List.cons.injEq, and_true] at e0 e1
      exact ⟨n0.toNat, n1.toNat, by rw [e0, q0], by rw [e1, q1], b0, b1⟩
    obtain ⟨f, hfz⟩ := Deep.choose_lt (fun i hi => (each i hi))
    obtain ⟨g, hgz⟩ := Deep.choose_lt (fun i hi => (hfz i hi))
    refine ⟨(List.range len).map fun i => (f i, g i), .inr ⟨a, cap, by simp, ⟨fun j hj => ?_, fun j hj => ?_⟩⟩, fun j hj => ?_, .inr ⟨_, _, by rw [hx], by simp⟩⟩
    · have hj' : j < len := by simpa using hj
      rw [(hcell j (by omega)).1, (hgz j hj').1]; simp
    · have hj' : j < len := by simpa using hj
      rw [(hcell j (by omega)).2.1, (hgz j hj').2.1]; simp
    · have hj' : j < len := by simpa using hj
      have := hgz j hj'
      simp only [List.getElem_map, List.getElem_range]
      exact ⟨this.2.2.1, this.2.2.2⟩
set_option maxRecDepth 100000 in
theorem bits_one {H : Type} {enc : TypeId × Value → H} {W : World} {b0 : Nat} {v : Value} {d : DataW H} {p : List MemPlace} (hv : Value.okWide Tryz.prog W .any b0 25 v)
    (h : DataW.Trod enc Tryz.prog W 0 (fun _ => true) true 25 v d p) : ∃ re im : Nat, v = .agg #[.int .u64 (re : Int), .int .u64 (im : Int)] ∧ LtC (re, im) ∧ p = [] := by
  obtain ⟨v0, v1, y0, y1, n, rfl, _, hp, t0, t1⟩ := Go.Joins.open_agg2 Tryz.underlying25 (by kernel_rfl) (by kernel_rfl) hv h
  obtain ⟨n0, e0, g0, w0⟩ := DataW.trod_int Tryz.underlying23 t0
  obtain ⟨n1, e1, g1, w1⟩ := DataW.trod_int Tryz.underlying23 t1
  obtain ⟨q0, b0⟩ := u64_nat w0
  obtain ⟨q1, b1⟩ := u64_nat w1
  simp only [List.cons.injEq, and_true] at e0 e1
  refine ⟨n0.toNat, n1.toNat, by rw [e0, e1, q0, q1], ⟨b0, b1⟩, ?_⟩
  rw [hp, g0, g1]; rfl
end Go.Proofs.YtiiopcjdbldihaaGreatFmtBesafter
