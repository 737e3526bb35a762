/- horner.one, up, the three steps, down, Value, Both, Bound. No condition. -/
import Derived.Test.YtiiopcjdbldihaaGreatFmtNext
import Derived.Test.YtiiopcjdbldihaaGreatFmtScan
import Derived.Test.YtiiopcjdbldihaaGreatFmtNum
import Derived.Deep.RegionHeld3
namespace Go
@[go_sem] theorem run_store_complex_bits (P : Program) (w : World) (a : Addr) (x y : Nat) (m : Mode) : (store a (.complex .f64 x y) m).run P w = stored P w a (.complex .f64 x y) m := run_store P w a _ m rfl
@[go_sem] theorem run_store_float_bits (P : Program) (w : World) (a : Addr) (x : Nat) (m : Mode) : (store a (.float .f64 x) m).run P w = stored P w a (.float .f64 x) m := run_store P w a _ m rfl
namespace SurdFp
theorem nan_nx {x : Nat} (hx : x < 2 ^ 64) : nan (nx x) = nan x := by
  unfold nx
  by_cases hn : nan x = true
  · rw [if_pos hn]
  · rw [if_neg hn]
    have h : ¬ (2047 * 2 ^ 52 < x % 2 ^ 63) := by simpa [nan] using hn
    have e : nan x = false := by simpa using hn
    rw [e]
    split
    · split
      · exact e
      · unfold nan; rw [decide_eq_false_iff_not]; omega
    · split
      · decide
      · unfold nan; rw [decide_eq_false_iff_not]; omega
theorem cn_nx {x : Nat} (hx : x < 2 ^ 64) : cn (nx x) = nx (cn x) := by
  by_cases hn : nan x = true
  · rw [cn_nan hn, cn_nan ((nan_nx hx).trans hn)]; decide +kernel
  · have e : nan x = false := by simpa using hn
    rw [cn_not e, cn_not ((nan_nx hx).trans e)]
theorem dr_cell {w w' : World} (d : Dr w w') (a : Addr) : w'.cell? a = w.cell? a := by obtain ⟨n, rfl⟩ := d; rfl
theorem dr_frozen {w w' : World} (d : Dr w w') (a : Addr) : w'.frozen? a = w.frozen? a := by obtain ⟨n, rfl⟩ := d; rfl
theorem dr_heap {w w' : World} (d : Dr w w') : w'.heap = w.heap := by obtain ⟨n, rfl⟩ := d; rfl
theorem dr_drew (w : World) : Dr w w.drew := ⟨1, rfl⟩
theorem nx_lt {x : Nat} (h : x < 2 ^ 64) : nx x < 2 ^ 64 := by
  unfold nx; split
  · exact h
  · split
    · split <;> omega
    · split <;> omega
/-- a bound of a number's size, bits -/
def on (c : CB) : Nat := nx (fop .add (cn (c.1 % 2 ^ 63)) (cn (c.2 % 2 ^ 63)))
def upB (x y : Nat) : Nat := nx (fop .mul (cn x) (cn y))
/-- A sum on its way, in block k. -/
def LtC (c : CB) : Prop := c.1 < 2 ^ 64 ∧ c.2 < 2 ^ 64
end SurdFp
end Go
namespace Go.Proofs.YtiiopcjdbldihaaGreatFmt
open Go.RowKit Go.SurdFp

def SumAt (k : Nat) (z v s : CB) (sz er : Nat) (w : World) : Prop :=
  w.heap[k]? = some (.cells #[.complex .f64 z.1 z.2, .complex .f64 v.1 v.2, .complex .f64 s.1 s.2, .float .f64 sz, .float .f64 er] 56 (0, 0))

set_option maxRecDepth 100000 in
set_option maxHeartbeats 400000 in
theorem one_any (a b : Nat) (ha : a < 2 ^ 64) (hb : b < 2 ^ 64) (w : World) : Calls Tryz.prog 29 #[.complex .f64 a b] w fun e w' => ∃ r, e = .returned (.float .f64 r) ∧ cn r = on (a, b) ∧ r < 2 ^ 64 ∧ Dr w w' := by
  have hadd := fun x y w => run_fop (P := Tryz.prog) .add (by simp) 31 x y w
  have k1 := Abs_any a ha
  have k2 := Abs_any b hb
  have e0 : on (a, b) = nx (fop .add (cn (a % 2 ^ 63)) (cn (b % 2 ^ 63))) := rfl
  rw [e0]
  clear e0
  generalize a % 2 ^ 63 = x at *
  generalize b % 2 ^ 63 = y at *
  go_enter Tryz.func29, Tryz.ntmps29
  go_wp2_with (fail)
  refine (k1 _).mono ?_
  rintro e w1 ⟨rfl, rfl⟩
  go_wp2_with (fail)
  refine (k2 _).mono ?_
  rintro e w1 ⟨rfl, rfl⟩
  go_wp2_with (fail)
  refine (Next_any _ (fres_lt _ _ _) _).mono ?_
  rintro e w1 ⟨rfl, rfl⟩
  go_wp2
  clear hadd
  go_ret
  exact ⟨_, rfl, by rw [cn_nx (fres_lt _ _ _), cn_fres (op := .add) (.inl rfl)], nx_lt (fres_lt _ _ _), (Dr.refl w).step _ _ _⟩
set_option maxRecDepth 100000 in
set_option maxHeartbeats 400000 in
theorem up_any (x y : Nat) (w : World) : Calls Tryz.prog 32 #[.float .f64 x, .float .f64 y] w fun e w' => ∃ r, e = .returned (.float .f64 r) ∧ cn r = upB x y ∧ r < 2 ^ 64 ∧ Dr w w' := by
  have hmul := fun x y w => run_fop (P := Tryz.prog) .mul (by simp) 31 x y w
  go_enter Tryz.func32, Tryz.ntmps32
  go_wp2_with (fail)
  refine (Next_any _ (fres_lt _ _ _) _).mono ?_
  rintro e w1 ⟨rfl, rfl⟩
  go_wp2
  clear hmul
  go_ret
  exact ⟨_, rfl, by rw [cn_nx (fres_lt _ _ _), cn_fres (op := .mul) (.inr (.inr rfl))]; rfl, nx_lt (fres_lt _ _ _), (Dr.refl w).step _ _ _⟩

set_option maxRecDepth 100000 in
set_option maxHeartbeats 2000000 in
theorem value_any (k : Nat) (z v s : CB) (sz er : Nat) (c : CB) (w : World) (h : SumAt k z v s sz er w) :
    Calls Tryz.prog 26 #[.pointer (some ⟨k, 0, none⟩), .complex .f64 c.1 c.2] w fun e w' => e = .returned (.tuple #[]) ∧ ∃ u, SumAt k z u s sz er w' ∧ cnp u = cadd (cmul (cnp v) (cnp z)) (cnp c) ∧ LtC u ∧ w'.heap.size = w.heap.size ∧ OnlyB k w w' := by
  obtain ⟨z1, z2⟩ := z
  obtain ⟨v1, v2⟩ := v
  obtain ⟨c1, c2⟩ := c
  have d0 : w.drew.cell? ⟨k, 0, none⟩ = some (.complex .f64 z1 z2) := cell_of_block (w := w.drew) (o := 0) h rfl
  have d1 : w.drew.cell? ⟨k, 1, none⟩ = some (.complex .f64 v1 v2) := cell_of_block (w := w.drew) (o := 1) h rfl
  have f1 : w.drew.frozen? ⟨k, 1, none⟩ = false := free_of_block (w := w.drew) (o := 1) h
  go_enter Tryz.func26, Tryz.ntmps26
  go_wp2_with (fail)
  go_region_with (first
    | (go_at_call 31; go_must (refine (Mul_any v1 v2 z1 z2 w.drew).mono ?_); go_must (rintro e w1 ⟨r, i, rfl, hm, hr, hi, dr⟩); have e0 := (dr_cell dr ⟨k, 0, none⟩).trans d0; have e1 := (dr_cell dr ⟨k, 1, none⟩).trans d1; have g1 := (dr_frozen dr ⟨k, 1, none⟩).trans f1)
    | (go_at_call 30; go_must (refine (Add_any r i c1 c2 w1).mono ?_); go_must (rintro e w2 ⟨r', i', rfl, hm', hr', hi', dr'⟩); have x0 := (dr_cell dr' ⟨k, 0, none⟩).trans e0; have x1 := (dr_cell dr' ⟨k, 1, none⟩).trans e1; have y1 := (dr_frozen dr' ⟨k, 1, none⟩).trans g1))
  all_goals
    go_wp2
    go_end0
    have hh : w2.heap = w.heap := (dr_heap dr').trans (dr_heap (w := w.drew) dr)
    have D : Dr w w2 := ((dr_drew w).trans dr).trans dr'
    have h2 : w2.heap[k]? = _ := (congrArg (fun h => h[k]?) hh).trans h
    refine ⟨rfl, (r', i'), block_setCell h2, ?_, ⟨hr', hi'⟩, by simp [hh], ?_⟩
    · rw [hm', hm]
    · obtain ⟨n, rfl⟩ := D
      exact ((OnlyB.refl k w).drewN n).setCell 1 _

set_option maxRecDepth 100000 in
set_option maxHeartbeats 4000000 in
theorem both_any (k : Nat) (z v s : CB) (sz er : Nat) (c : CB) (w : World) (h : SumAt k z v s sz er w) :
    Calls Tryz.prog 20 #[.pointer (some ⟨k, 0, none⟩), .complex .f64 c.1 c.2] w fun e w' => e = .returned (.tuple #[]) ∧ ∃ u t, SumAt k z u t sz er w' ∧ cnp u = cadd (cmul (cnp v) (cnp z)) (cnp c) ∧ cnp t = cadd (cmul (cnp s) (cnp z)) (cnp v) ∧ LtC u ∧ LtC t ∧ w'.heap.size = w.heap.size ∧ OnlyB k w w' := by
  obtain ⟨z1, z2⟩ := z
  obtain ⟨v1, v2⟩ := v
  obtain ⟨s1, s2⟩ := s
  obtain ⟨c1, c2⟩ := c
  have d0 : w.drew.cell? ⟨k, 0, none⟩ = some (.complex .f64 z1 z2) := cell_of_block (w := w.drew) (o := 0) h rfl
  have d1 : w.drew.cell? ⟨k, 1, none⟩ = some (.complex .f64 v1 v2) := cell_of_block (w := w.drew) (o := 1) h rfl
  have d2 : w.drew.cell? ⟨k, 2, none⟩ = some (.complex .f64 s1 s2) := cell_of_block (w := w.drew) (o := 2) h rfl
  have f2 : w.drew.frozen? ⟨k, 2, none⟩ = false := free_of_block (w := w.drew) (o := 2) h
  go_enter Tryz.func20, Tryz.ntmps20
  go_wp2_with (fail)
  go_region_with (first
    | (go_at_call 31; go_must (refine (Mul_any s1 s2 z1 z2 w.drew).mono ?_); go_must (rintro e w1 ⟨r, i, rfl, hm, hr, hi, dr⟩); have e1 := (dr_cell dr ⟨k, 1, none⟩).trans d1; have e2 := (dr_cell dr ⟨k, 2, none⟩).trans d2; have g2 := (dr_frozen dr ⟨k, 2, none⟩).trans f2)
    | (go_at_call 30; go_must (refine (Add_any r i v1 v2 w1).mono ?_); go_must (rintro e w2 ⟨r', i', rfl, hm', hr', hi', dr'⟩); have x2 := (dr_cell dr' ⟨k, 2, none⟩).trans e2; have y2 := (dr_frozen dr' ⟨k, 2, none⟩).trans g2))
  all_goals
    have hh : w2.heap = w.heap := (dr_heap dr').trans (dr_heap (w := w.drew) dr)
    have D : Dr w w2 := ((dr_drew w).trans dr).trans dr'
    have h2 : w2.heap[k]? = _ := (congrArg (fun h => h[k]?) hh).trans h
    have S2 : SumAt k (z1, z2) (v1, v2) (r', i') sz er (w2.setCell ⟨k, 2, none⟩ (.complex .f64 r' i')) := block_setCell h2
    have O2 : OnlyB k w (w2.setCell ⟨k, 2, none⟩ (.complex .f64 r' i')) := by
      obtain ⟨n, rfl⟩ := D
      exact ((OnlyB.refl k w).drewN n).setCell 2 _
    have Z2 : (w2.setCell ⟨k, 2, none⟩ (.complex .f64 r' i')).heap.size = w.heap.size := by simp [hh]
    go_wp2_with (fail)
    refine (value_any k (z1, z2) (v1, v2) (r', i') sz er (c1, c2) _ S2).mono ?_
    rintro e w3 ⟨rfl, u, S3, hu, lu, z3, o3⟩
    go_wp2
    go_end0
    exact ⟨rfl, u, (r', i'), S3, hu, by rw [hm', hm], lu, ⟨hr', hi'⟩, by rw [z3, Z2], O2.trans o3⟩
end Go.Proofs.YtiiopcjdbldihaaGreatFmt
