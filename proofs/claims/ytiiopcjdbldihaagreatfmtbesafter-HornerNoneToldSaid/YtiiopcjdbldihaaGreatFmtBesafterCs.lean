/- surdlaw0.Cs. No condition. -/
import Derived.Test.YtiiopcjdbldihaaGreatFmtBesafterFops
import Derived.Test.YtiiopcjdbldihaaGreatFmtBesafterScan
import Derived.LoopTactic
import Derived.Test.YtiiopcjdbldihaaGreatFmtBesafterNum
import Derived.Deep.AppendLies
import Derived.Deep.RegionLaw
import Derived.Deep.Slices
namespace Go
@[go_sem] theorem unary_neg_f64 (x : Nat) : Op.unary .neg (.float .f64 x) = pure (.float .f64 (SurdFp.ngF x)) := rfl
namespace SurdFp
theorem cn_zero : cn 0 = 0 := by decide +kernel
end SurdFp
end Go
namespace Go.Proofs.YtiiopcjdbldihaaGreatFmtBesafter
open Go.RowKit Go.SurdFp

def cval (c : CB) : Value := .complex .f64 c.1 c.2
theorem info_complex : ∃ i, Tryz.prog.info? 29 = some i ∧ i.zero = some (.complex .f64 0 0) ∧ i.size = 1 ∧ i.bytes = 16 :=
  info_parts (by kernel_rfl : (Tryz.prog.info? 29).map (fun i => (i.zero, i.size, i.bytes)) = some (some (.complex .f64 0 0), 1, 16))
theorem one_cells (u : Value) (c : CB) (h : u ∈ [cval c]) : u.oneCell' = true := by
  simp only [List.mem_singleton] at h; subst h; rfl
/-- the cells of a row of complex numbers that the call owns -/
theorem row_cells {w : World} {base : Nat} {t : TypeId} {r cap : Nat} {l : List CB} (h : w.ownsRow base t 1 (.slice (some ⟨r, 0, none⟩) l.length cap) l.length (l.map cval)) :
    ∀ j (hj : j < l.length), w.cell? ⟨r, j, none⟩ = some (.complex .f64 l[j].1 l[j].2) := by
  intro j hj
  have := h.cells (g := r) rfl j (cval l[j]) (by simp [hj])
  by_cases h0 : j = 0
  · subst h0; simpa [Addr.add, cval] using this
  · simpa [Addr.add, h0, cval] using this

theorem C_nat (x y : Nat) (w : World) : Calls Tryz.prog 6 #[.int .u64 (x : Int), .int .u64 (y : Int)] w fun e w' => e = .returned (.complex .f64 x y) ∧ w = w' := by
  have h := C_any (x : Int) (y : Int) w
  rwa [Int.toNat_natCast, Int.toNat_natCast] at h

/-- the bits of the numbers l lie behind a -/
structure BitsAt (a : Addr) (l : List CB) (w : World) : Prop where
  re : ∀ j (hj : j < l.length), w.cell? (a.add (j * 2)) = some (.int .u64 (l[j].1 : Nat))
  im : ∀ j (hj : j < l.length), w.cell? (a.add (j * 2 + 1)) = some (.int .u64 (l[j].2 : Nat))
theorem BitsAt.lt {a : Addr} {l : List CB} {w : World} (h : BitsAt a l w) {k : Nat} (hk : k < l.length) : a.block < w.heap.size := by
  have := World.block_lt_of_cell? w _ (h.re k hk)
  rwa [Go.ChangeShapes.block_add] at this
theorem BitsAt.below {a : Addr} {l : List CB} {w w' : World} (h : BitsAt a l w) {B : Nat} (b : Below B w w') (hB : w.heap.size ≤ B) : BitsAt a l w' :=
  ⟨fun j hj => (b.cell (p := a.add (j * 2)) (by rw [Go.ChangeShapes.block_add]; exact Nat.lt_of_lt_of_le (h.lt hj) hB)).trans (h.re j hj),
   fun j hj => (b.cell (p := a.add (j * 2 + 1)) (by rw [Go.ChangeShapes.block_add]; exact Nat.lt_of_lt_of_le (h.lt hj) hB)).trans (h.im j hj)⟩
/-- the argument: a slice of such bits, nil too -/
def Arg (v : Value) (l : List CB) (w : World) : Prop := (v = .slice none 0 0 ∧ l = []) ∨ ∃ a cap, v = .slice (some a) l.length cap ∧ BitsAt a l w
theorem Arg.below {v : Value} {l : List CB} {w w' : World} (h : Arg v l w) {B : Nat} (b : Below B w w') (hB : w.heap.size ≤ B) : Arg v l w' := by
  rcases h with h | ⟨a, cap, e, h⟩
  · exact .inl h
  · exact .inr ⟨a, cap, e, h.below b hB⟩

set_option maxRecDepth 100000 in
set_option maxHeartbeats 2000000 in
theorem Cs_nil (w : World) :
    Calls Tryz.prog 5 #[.slice none 0 0] w fun e w' => e = .returned (.slice none 0 0) ∧ Below w.heap.size w w' := by
  go_enter Tryz.func5, Tryz.ntmps5
  go_wp2_with (fail)
  refine wp_loop_rounds 1 ?_
  rw [rounds_succ]
  go_wp2
  go_ret
  exact ⟨rfl, Below.refl _ w⟩

set_option maxRecDepth 100000 in
set_option maxHeartbeats 2000000 in
theorem Cs_any (a : Addr) (cap : Nat) (l : List CB) (w : World) (h2 : l.length * 16 ≤ 140737488355328) (hl : BitsAt a l w) :
    Calls Tryz.prog 5 #[.slice (some a) l.length cap] w fun e w' => ∃ v, e = .returned v ∧ w'.ownsRow w.heap.size 29 1 v l.length (l.map cval) ∧ (l = [] → v = .slice none 0 0) ∧ Below w.heap.size w w' := by
  obtain ⟨i0, hi, hz0, hz1, hz2⟩ := info_complex
  go_enter Tryz.func5, Tryz.ntmps5
  go_wp2_with (fail)
  go_loopw [3, 4] (fun o i wr => ∃ k : Nat, k ≤ l.length ∧ i = .int .i64 (k : Int) ∧ wr.ownsRow w.heap.size 29 1 o k ((l.take k).map cval) ∧ (k = 0 → o = .slice none 0 0) ∧ Below w.heap.size w wr)
    (fun _ i _ => l.length - (intOf i).toNat)
  case atStart => exact ⟨0, Nat.zero_le _, rfl, World.ownsRow_nil _ _ _ _, fun _ => rfl, Below.refl _ _⟩
  case round =>
    obtain ⟨k, hk, rfl, ho, hn, hB⟩ := hrel
    by_cases hlt : k < l.length
    · have hlt' : (k : Int) < l.length := by omega
      have g0 : (0 : Int) ≤ k := by omega
      have hlw := hl.below hB (Nat.le_refl _)
      have c0 : wr.drew.cell? (a.add (k * 2)) = some (.int .u64 (l[k].1 : Nat)) := hlw.re k hlt
      have c1 : wr.drew.cell? (a.add (k * 2 + 1)) = some (.int .u64 (l[k].2 : Nat)) := hlw.im k hlt
      have ea : (a.add (k * 2)).add 1 = ⟨(a.add (k * 2)).block, (a.add (k * 2)).off + 1, none⟩ := by simp [Addr.add]
      have c1' : wr.drew.cell? ⟨(a.add (k * 2)).block, (a.add (k * 2)).off + 1, none⟩ = some (.int .u64 (l[k].2 : Nat)) := by
        rw [← ea, Go.Deep.add_add]; exact c1
      have e0 : l.take (k + 1) = l.take k ++ [l[k]] := List.take_succ_eq_append_getElem hlt
      clear ea c1
      have ho' : wr.drew.ownsRow w.heap.size 29 1 u3 k ((l.take k).map cval) := ho
      have hbase : w.heap.size ≤ wr.heap.size := hB.size
      go_wp2_with (fail)
      go_region_law (first
        | (refine step_append_lies _ rfl (.tmp 11) (.tmp 23) 27 rfl w.heap.size 29 i0 (.complex .f64 0 0) 1 16 Tryz.underlying27 hi hz0 hz1 hz2 rfl (by decide) u3 k _ rfl (ho'.alloc _) ⟨wr.heap.size, 0, none⟩ 1 1 [cval l[k]] rfl rfl (World.news_of_block (heap_alloc_new _ _ _ rfl)) (fun u hu => one_cells u _ hu) (by decide) (by simp only [maxLen]; omega) (by omega) (by simp; omega) _ rfl ?_; intro g4 cap4 w4 hown hgrow hat hlt4)
        | (go_simp; go_at_call 6; go_must (refine (C_nat l[k].1 l[k].2 _).mono ?_); go_must (rintro e w' ⟨rfl, rfl⟩)))
      all_goals
        have B4 : Below w.heap.size w w4 := ((hB.drew).alloc (by simpa using hbase) _).grown hgrow (by simp; omega) (fun q hq => (World.ownsRow.lt ho' q hq).1)
        go_wp2_with (fail)
        go_roundw
        case rel =>
          refine ⟨k + 1, by omega, by go_num, ?_, fun h => by omega, B4⟩
          rw [e0, List.map_append]
          exact hown
        case measure => simp [intOf]; omega
    · have ek : k = l.length := by omega
      have he : ¬ ((k : Int) < l.length) := by omega
      have e1 : l.take k = l := by rw [ek]; exact List.take_length
      rw [e1] at ho
      have ho' : wr.ownsRow w.heap.size 29 1 u3 l.length (l.map cval) := by rw [← ek]; exact ho
      go_wp2
      go_ret
      exact ⟨u3, rfl, ho', fun h => hn (by rw [ek, h]; rfl), hB⟩
theorem Cs_arg {v : Value} {l : List CB} {w : World} (h : Arg v l w) (h2 : l.length * 16 ≤ 140737488355328) :
    Calls Tryz.prog 5 #[v] w fun e w' => ∃ u, e = .returned u ∧ w'.ownsRow w.heap.size 29 1 u l.length (l.map cval) ∧ (l = [] → u = .slice none 0 0) ∧ Below w.heap.size w w' := by
  rcases h with ⟨rfl, rfl⟩ | ⟨a, cap, rfl, h⟩
  · refine (Cs_nil w).mono ?_
    rintro e w1 ⟨rfl, B⟩
    exact ⟨_, rfl, World.ownsRow_nil _ _ _ _, fun _ => rfl, B⟩
  · exact Cs_any a cap l w h2 h
end Go.Proofs.YtiiopcjdbldihaaGreatFmtBesafter
