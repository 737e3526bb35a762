/- surdlaw16.awake: true. Condition: what the walk reads of package-level variables. -/
import Derived.Test.YtiiopcjdbldihaaGreatFmtBesafterBnd
import Derived.Test.YtiiopcjdbldihaaGreatFmtBesafterNears
namespace Go.Proofs.YtiiopcjdbldihaaGreatFmtBesafter
open Go.RowKit Go.SurdFp

set_option maxRecDepth 100000 in
set_option maxHeartbeats 2000000 in
theorem SameNums_3 (a b : Nat) (x y z : Nat) (w : World)
    (a0 : w.cell? ⟨a, 0, none⟩ = some (.complex .f64 x 0)) (a1 : w.cell? ⟨a, 1, none⟩ = some (.complex .f64 y 0)) (a2 : w.cell? ⟨a, 2, none⟩ = some (.complex .f64 z 0))
    (b0 : w.cell? ⟨b, 0, none⟩ = some (.complex .f64 x 0)) (b1 : w.cell? ⟨b, 1, none⟩ = some (.complex .f64 y 0)) (b2 : w.cell? ⟨b, 2, none⟩ = some (.complex .f64 z 0)) :
    Calls Tryz.prog 17 #[.slice (some ⟨a, 0, none⟩) 3 3, .slice (some ⟨b, 0, none⟩) 3 3] w fun e w' => e = .returned (.bool true) ∧ Dr w w' := by
  have ks : ∀ x y w, Calls Tryz.prog 12 #[.complex .f64 x y, .complex .f64 x y] w fun e w' => e = .returned (.bool true) ∧ w' = w := fun x y w => by
    refine (SameC_any x y x y w).mono ?_
    rintro e w1 ⟨rfl, rfl⟩
    exact ⟨by simp, rfl⟩
  go_enter Tryz.func17, Tryz.ntmps17
  go_wp2_with (fail)
  refine wp_loop_rounds 4 ?_
  rw [rounds_succ]
  go_wp2_with (fail)
  go_quiet ((go_at_call 12; exact Calls.quiet_of_same (ks _ _ _)))
  go_wp2_with (fail)
  generalize hW1 : World.drewN w _ = W1
  have D1 : Dr w W1 := ⟨_, hW1.symm⟩
  have a1_1 := (dr_cell D1 ⟨a, 1, none⟩).trans a1
  have b1_1 := (dr_cell D1 ⟨b, 1, none⟩).trans b1
  have a2_1 := (dr_cell D1 ⟨a, 2, none⟩).trans a2
  have b2_1 := (dr_cell D1 ⟨b, 2, none⟩).trans b2
  clear hW1
  rw [rounds_succ]
  go_wp2_with (fail)
  go_quiet ((go_at_call 12; exact Calls.quiet_of_same (ks _ _ _)))
  go_wp2_with (fail)
  generalize hW2 : World.drewN W1 _ = W2
  have D2 : Dr w W2 := D1.trans ⟨_, hW2.symm⟩
  have a2_2 := (dr_cell D2 ⟨a, 2, none⟩).trans a2
  have b2_2 := (dr_cell D2 ⟨b, 2, none⟩).trans b2
  clear hW2
  rw [rounds_succ]
  go_wp2_with (fail)
  go_quiet ((go_at_call 12; exact Calls.quiet_of_same (ks _ _ _)))
  go_wp2_with (fail)
  generalize hW3 : World.drewN W2 _ = W3
  have D3 : Dr w W3 := D2.trans ⟨_, hW3.symm⟩
  clear hW3
  rw [rounds_succ]
  go_wp2
  go_ret
  exact ⟨rfl, D3⟩
theorem of_cn {r K : Nat} (h : cn r = K) (hK : nan K = false) : r = K := by
  by_cases hn : nan r = true
  · rw [cn_nan hn] at h; rw [← h, nan_nanC] at hK; cases hK
  · rw [cn_not (by simpa using hn)] at h; exact h
def l1 : List CB := [(0x3FF0000000000000, 0), (0, 0), (0x3FF0000000000000, 0)]
def l2 : List CB := [(0x3FF0000000000000, 0), (0x4000000000000000, 0), (0x4008000000000000, 0)]
def l3 : List CB := [(0x3FF0000000000000, 0), (0x4000000000000000, 0)]

set_option maxRecDepth 100000 in
set_option maxHeartbeats 4000000 in
theorem awake_true (p : Addr) (w : World) (g : Env p w) : Calls Tryz.prog 4 #[] w fun e w' => e = .returned (.bool true) ∧ Below w.heap.size w w' := by
  obtain ⟨A, hA⟩ : ∃ A, w.alloc (.cells #[.string ⟨#[49]⟩, .string ⟨#[50]⟩, .string ⟨#[51]⟩] 9) = A := ⟨_, rfl⟩
  have nA : A.heap[w.heap.size]? = some (.cells #[.string ⟨#[49]⟩, .string ⟨#[50]⟩, .string ⟨#[51]⟩] 9 (0, 0)) := by rw [← hA]; exact heap_alloc_new _ _ _ rfl
  have bA : Below w.heap.size w A := by rw [← hA]; exact (Below.refl w.heap.size w).alloc (Nat.le_refl _) _
  have gA : Env p A := g.below bA (Nat.le_refl _)
  go_enter Tryz.func4, Tryz.ntmps4
  go_wp2_with (fail)
  refine (Floats_123 w.heap.size p A gA (cell_of_block (o := 0) nA rfl) (cell_of_block (o := 1) nA rfl) (cell_of_block (o := 2) nA rfl)).mono ?_
  rintro e w1 ⟨r, rfl, nr, b1⟩
  clear hA
  go_wp2_with (go_at_call 14; refine (c_any _ _ _).mono ?_; rintro e w' ⟨rfl, rfl⟩)
  have m1 := heap_alloc_new w1 (.cells #[.complex .f64 4607182418800017408 0, .complex .f64 0 0, .complex .f64 4607182418800017408 0] 29) _ rfl
  have B1 : Below w.heap.size w w1 := bA.trans (b1.mono bA.size)
  have rw1 : r < w1.heap.size := lt_of_cell (cell_of_block (o := 0) nr rfl)
  have t1 : Below w1.heap.size w1 (w1.alloc (.cells #[.complex .f64 4607182418800017408 0, .complex .f64 0 0, .complex .f64 4607182418800017408 0] 29)) := (Below.refl _ _).alloc (Nat.le_refl _) _
  refine (Value_any w1.heap.size 3 l1 (0, 4607182418800017408) ⟨by decide, by decide⟩ _ (by decide) (by decide) (fun j hj => by
    have h3 : j < 3 := hj
    match j, h3 with
    | 0, _ => exact cell_of_block (o := 0) m1 rfl
    | 1, _ => exact cell_of_block (o := 1) m1 rfl
    | 2, _ => exact cell_of_block (o := 2) m1 rfl)).mono ?_
  rintro e w2 ⟨⟨v1, v2⟩, rfl, hv1, b2⟩
  have T2 : Below w1.heap.size w1 w2 := t1.trans (b2.mono t1.size)
  clear m1 t1 b2
  have hv1' : cnp (v1, v2) = cnp (0, 0) := hv1.trans (by decide +kernel)
  go_wp2_with (go_at_call 14; refine (c_any _ _ _).mono ?_; rintro e w' ⟨rfl, rfl⟩)
  have m2 := heap_alloc_new w2 (.cells #[.complex .f64 4607182418800017408 0, .complex .f64 4611686018427387904 0, .complex .f64 4613937818241073152 0] 29) _ rfl
  have t2 : Below w2.heap.size w2 (w2.alloc (.cells #[.complex .f64 4607182418800017408 0, .complex .f64 4611686018427387904 0, .complex .f64 4613937818241073152 0] 29)) := (Below.refl _ _).alloc (Nat.le_refl _) _
  refine (Both_any w2.heap.size 3 l2 (4611686018427387904, 0) ⟨by decide, by decide⟩ _ (by decide) (by decide) (fun j hj => by
    have h3 : j < 3 := hj
    match j, h3 with
    | 0, _ => exact cell_of_block (o := 0) m2 rfl
    | 1, _ => exact cell_of_block (o := 1) m2 rfl
    | 2, _ => exact cell_of_block (o := 2) m2 rfl)).mono ?_
  rintro e w3 ⟨⟨u1, u2⟩, ⟨s1, s2⟩, rfl, hu, hs', b3⟩
  have T3 : Below w1.heap.size w1 w3 := (T2.trans (t2.mono T2.size)).trans (b3.mono (Nat.le_trans T2.size t2.size))
  clear m2 t2 b3
  have hu' : cnp (u1, u2) = cnp (0x4031000000000000, 0) := hu.trans (by decide +kernel)
  have hs1 : cnp (s1, s2) = cnp (0x402C000000000000, 0) := hs'.trans (by decide +kernel)
  go_wp2_with (go_at_call 14; refine (c_any _ _ _).mono ?_; rintro e w' ⟨rfl, rfl⟩)
  have m3 := heap_alloc_new w3 (.cells #[.complex .f64 4607182418800017408 0, .complex .f64 4611686018427387904 0] 29) _ rfl
  have t3 : Below w3.heap.size w3 (w3.alloc (.cells #[.complex .f64 4607182418800017408 0, .complex .f64 4611686018427387904 0] 29)) := (Below.refl _ _).alloc (Nat.le_refl _) _
  refine (Bound_any w3.heap.size 2 l3 (4611686018427387904, 0) ⟨by decide, by decide⟩ _ (by decide) (by decide) (fun j hj => by
    have h3 : j < 2 := hj
    match j, h3 with
    | 0, _ => exact ⟨(by decide : (4607182418800017408 : Nat) < 2 ^ 64), (by decide : (0 : Nat) < 2 ^ 64)⟩
    | 1, _ => exact ⟨(by decide : (4611686018427387904 : Nat) < 2 ^ 64), (by decide : (0 : Nat) < 2 ^ 64)⟩) (fun j hj => by
    have h3 : j < 2 := hj
    match j, h3 with
    | 0, _ => exact cell_of_block (o := 0) m3 rfl
    | 1, _ => exact cell_of_block (o := 1) m3 rfl)).mono ?_
  rintro e w4 ⟨bd, rfl, hbd, b4⟩
  have T4 : Below w1.heap.size w1 w4 := (T3.trans (t3.mono T3.size)).trans (b4.mono (Nat.le_trans T3.size t3.size))
  clear m3 t3 b4
  obtain ⟨K, hK⟩ : ∃ K, K = be (l3.map cnp) (cnp (4611686018427387904, 0)) := ⟨_, rfl⟩
  have hk1 : nan K = false := by rw [hK]; decide +kernel
  have hk2 : (FloatKind.f64.format.order K 0 == some .gt) = true := by rw [hK]; decide +kernel
  have hk3 : (FloatKind.f64.format.order K 4607182418800017408 == some .lt) = true := by rw [hK]; decide +kernel
  have ebd : bd = K := of_cn (hbd.trans hK.symm) hk1
  subst ebd
  clear hK hbd
  have nr4 := (T4.block r rw1).trans nr
  have kv : ∀ w, Calls Tryz.prog 12 #[.complex .f64 v1 v2, .complex .f64 0 0] w fun e w' => e = .returned (.bool true) ∧ w = w' := fun w => by
    have h := SameC_any v1 v2 0 0 w
    rw [decide_eq_true hv1'] at h; exact h
  have ku : ∀ w, Calls Tryz.prog 12 #[.complex .f64 u1 u2, .complex .f64 4625478292286210048 0] w fun e w' => e = .returned (.bool true) ∧ w = w' := fun w => by
    have h := SameC_any u1 u2 4625478292286210048 0 w
    rw [decide_eq_true hu'] at h; exact h
  have ks : ∀ w, Calls Tryz.prog 12 #[.complex .f64 s1 s2, .complex .f64 4624070917402656768 0] w fun e w' => e = .returned (.bool true) ∧ w = w' := fun w => by
    have h := SameC_any s1 s2 4624070917402656768 0 w
    rw [decide_eq_true hs1] at h; exact h
  clear hv1 hv1' hu hu' hs' hs1
  go_wp2_with (first
    | (go_at_call 14; refine (c_any _ _ _).mono ?_; rintro e w' ⟨rfl, rfl⟩)
    | (go_at_call 9; refine (Num_any _ _).mono ?_; rintro e w' ⟨rfl, rfl⟩))
  have m4 := heap_alloc_new w4 (.cells #[.complex .f64 4607182418800017408 0, .complex .f64 4611686018427387904 0, .complex .f64 4613937818241073152 0] 29) _ rfl
  have t4 : Below w4.heap.size w4 (w4.alloc (.cells #[.complex .f64 4607182418800017408 0, .complex .f64 4611686018427387904 0, .complex .f64 4613937818241073152 0] 29)) := (Below.refl _ _).alloc (Nat.le_refl _) _
  have n5 := (t4.block r (Nat.lt_of_lt_of_le rw1 T4.size)).trans nr4
  refine (SameNums_3 r w4.heap.size 4607182418800017408 4611686018427387904 4613937818241073152 _ (cell_of_block (o := 0) n5 rfl) (cell_of_block (o := 1) n5 rfl) (cell_of_block (o := 2) n5 rfl) (cell_of_block (o := 0) m4 rfl) (cell_of_block (o := 1) m4 rfl) (cell_of_block (o := 2) m4 rfl)).mono ?_
  rintro e w5 ⟨rfl, D5⟩
  have T5 : Below w.heap.size w w5 := by
    obtain ⟨n, rfl⟩ := D5
    have T := (B1.trans (T4.mono B1.size)).trans (t4.mono (Nat.le_trans B1.size T4.size))
    exact ⟨T.os, T.tape, T.output, T.size, T.block⟩
  go_wp2_with (first
    | (go_at_call 14; refine (c_any _ _ _).mono ?_; rintro e w' ⟨rfl, rfl⟩))
  refine (kv _).mono ?_
  rintro e w' ⟨rfl, rfl⟩
  go_wp2_with (first
    | (go_at_call 14; refine (c_any _ _ _).mono ?_; rintro e w' ⟨rfl, rfl⟩))
  refine (ku _).mono ?_
  rintro e w' ⟨rfl, rfl⟩
  go_wp2_with (first
    | (go_at_call 14; refine (c_any _ _ _).mono ?_; rintro e w' ⟨rfl, rfl⟩))
  refine (ks _).mono ?_
  rintro e w' ⟨rfl, rfl⟩
  go_wp2
  go_ret
  exact ⟨rfl, T5⟩
end Go.Proofs.YtiiopcjdbldihaaGreatFmtBesafter
