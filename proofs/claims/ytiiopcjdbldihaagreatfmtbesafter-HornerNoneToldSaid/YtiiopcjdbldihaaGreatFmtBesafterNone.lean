/- surdlaw16.HornerNone. Condition: what the walk reads of package-level variables. -/
import Derived.Test.YtiiopcjdbldihaaGreatFmtBesafterAwake
import Derived.Test.YtiiopcjdbldihaaGreatFmtBesafterRows2
import Derived.Test.YtiiopcjdbldihaaGreatFmtBesafterLists
namespace Go
namespace SurdFp
theorem all_fin_cnp (l : List CB) : (l.map cnp).all finC = l.all finC := by
  rw [List.all_map]
  congr 1
  funext c
  show (fin (cn c.1) && fin (cn c.2)) = (fin c.1 && fin c.2)
  rw [fin_cn, fin_cn]
theorem fin_cnp (c : CB) : finC (cnp c) = finC c := by
  show (fin (cn c.1) && fin (cn c.2)) = (fin c.1 && fin c.2)
  rw [fin_cn, fin_cn]
/-- HornerNone's end -/
theorem none_end {l : List CB} {z v : CB} (hv' : cnp v = hv (l.map cnp) (cnp z)) (h0 : 0 < l.length) :
    (l.all finC = false → finC v = false) ∧ (1 < l.length → finC z = false → finC v = false) ∧ (1 < l.length → (nan z.1 = true ∨ nan z.2 = true) → nan v.1 = true ∧ nan v.2 = true) ∧ (l.length = 1 → cnp v = cnp l[0]) := by
  refine ⟨fun h => ?_, fun h1 h => ?_, fun h1 h => ?_, fun h => ?_⟩
  · rw [← fin_cnp, hv']; exact hv_nonfin_coef (by rw [all_fin_cnp]; exact h)
  · rw [← fin_cnp, hv']; exact hv_nonfin_place (by rw [fin_cnp]; exact h) (by simpa using h1)
  · have := hv_nan_place (z := cnp z) (l := l.map cnp) (by simpa [cnp, nan_cn] using h) (by simpa using h1)
    rw [← hv'] at this
    simpa [cnp, nan_cn] using this
  · match l, h with
    | [c], _ => exact hv'
end SurdFp
end Go
namespace Go.Proofs.YtiiopcjdbldihaaGreatFmtBesafter
open Go.RowKit Go.SurdFp

set_option maxRecDepth 100000 in
set_option maxHeartbeats 8000000 in
theorem None_any (p : Addr) (cv : Value) (l : List CB) (re im : Nat) (w : World) (g : Env p w) (hz : LtC (re, im)) (h2 : l.length * 16 ≤ 140737488355328) (hc : Arg cv l w) :
    Calls Tryz.prog 3 #[cv, .agg #[.int .u64 (re : Int), .int .u64 (im : Int)]] w fun e w' => e = .returned (.bool true) ∧ Below w.heap.size w w' := by
  obtain ⟨A, hA⟩ : ∃ A, w.alloc (.cells #[.int .u64 (re : Int), .int .u64 (im : Int)] 25) = A := ⟨_, rfl⟩
  have nA : A.heap[w.heap.size]? = some (.cells #[.int .u64 (re : Int), .int .u64 (im : Int)] 25 (0, 0)) := by rw [← hA]; exact heap_alloc_new _ _ _ rfl
  have bA : Below w.heap.size w A := by rw [← hA]; exact (Below.refl w.heap.size w).alloc (Nat.le_refl _) _
  have gA : Env p A := g.below bA (Nat.le_refl _)
  have cA := hc.below bA (Nat.le_refl _)
  have ltA : w.heap.size < A.heap.size := lt_of_cell (cell_of_block (o := 0) nA rfl)
  go_enter Tryz.func3, Tryz.ntmps3
  go_wp2_with (fail)
  refine (awake_true p A gA).mono ?_
  rintro e w1 ⟨rfl, B1⟩
  have n1 := (B1.block _ ltA).trans nA
  have T1 := bA.trans (B1.mono bA.size)
  clear hA
  go_wp2_with (fail)
  refine (Cs_arg (cA.below B1 (Nat.le_refl _)) h2).mono ?_
  rintro e w2 ⟨u, rfl, hu, hun, B2⟩
  have n2 := (B2.block _ (Nat.lt_of_lt_of_le ltA B1.size)).trans n1
  have T2 := T1.trans (B2.mono T1.size)
  have d0 := cell_of_block (o := 0) n2 rfl
  have d1 := cell_of_block (o := 1) n2 rfl
  have R2 : Row w1.heap.size w2 u l := hu
  go_wp2_with (fail)
  refine (C_nat re im _).mono ?_
  rintro e w3 ⟨rfl, rfl⟩
  by_cases h65 : 65 < l.length
  · obtain ⟨ao, cap, rfl, _⟩ := R2.form
    have g1 : 65 < (l.length : Int) := by omega
    go_wp2
    go_ret
    exact ⟨rfl, T2⟩
  have g1 : ¬ 65 < (l.length : Int) := by omega
  by_cases h0 : l.length = 0
  · have e0 : l = [] := List.eq_nil_of_length_eq_zero h0
    have hu0 := hun e0
    subst hu0
    go_wp2
    go_ret
    exact ⟨rfl, T2⟩
  obtain ⟨ao, cap, rfl, hnil | ⟨r, rfl, _, hr, hcr⟩⟩ := R2.form
  · exact absurd (by rw [hnil]; rfl) h0
  have g2 : ¬ (l.length : Int) = 0 := by omega
  have g3 : ((l.length : Int) == 0) = false := by rw [beq_eq_false_iff_ne]; omega
  have g4 : (0 : Int) < l.length := by omega
  go_wp2_with (fail)
  refine (CopyNums_row _ R2 hun (by omega)).mono ?_
  rintro e w3 ⟨u3, rfl, hc3, B3⟩
  go_wp2_with (fail)
  refine (Value_row hc3.vals (by omega) (re, im) hz).mono ?_
  rintro e w4 ⟨⟨v1, v2⟩, rfl, hv', B4⟩
  have T4 := (T2.trans (B3.mono T2.size)).trans (B4.mono (Nat.le_trans T2.size B3.size))
  have hc4 : ∀ j (hj : j < l.length), w4.cell? ⟨r, j, none⟩ = some (.complex .f64 l[j].1 l[j].2) := fun j hj =>
    ((B4.cell (p := ⟨r, j, none⟩) (Nat.lt_of_lt_of_le hr B3.size)).trans (B3.cell (p := ⟨r, j, none⟩) hr)).trans (hcr j hj)
  obtain ⟨k1, k2, k3, k4⟩ := none_end hv' (by omega)
  clear hv' hcr hc3 B3 B4 hu R2 n1 n2 d0 d1 nA
  go_wp2_with (fail)
  refine (Num_any 0 _).mono ?_
  rintro e w5 ⟨rfl, rfl⟩
  go_wp2_with (fail)
  refine (finite_any r cap l _ (by omega) hc4).mono ?_
  rintro e w6 ⟨rfl, D6⟩
  cases hf : l.all finC
  · have kv := fun u => Finite_any v1 v2 u
    rw [k1 hf] at kv
    go_wp2_with (fail)
    refine (kv _).mono ?_
    rintro e w7 ⟨rfl, D7⟩
    have DD := D6.trans D7
    have T7 := below_dr T4 DD
    have q1 := neq_self re
    have q2 := neq_self im
    have q3 := neq_self v1
    have q4 := neq_self v2
    by_cases hl1 : l.length = 1
    · have m1 : ((l.length : Int) == 1) = true := by rw [beq_iff_eq]; omega
      have m2 : (l.length : Int) = 1 := by omega
      have c0 := dr_cell DD ⟨r, 0, none⟩
      rw [hc4 0 (by omega)] at c0
      have kc : ∀ w, Calls Tryz.prog 12 #[.complex .f64 v1 v2, .complex .f64 (l[0]'(by omega)).1 (l[0]'(by omega)).2] w fun e w' => e = .returned (.bool true) ∧ w = w' := fun w => by
        have h := SameC_any v1 v2 (l[0]'(by omega)).1 (l[0]'(by omega)).2 w
        rw [decide_eq_true (k4 hl1)] at h; exact h
      cases e1 : nan re <;> cases e2 : nan im <;> rw [e1] at q1 <;> rw [e2] at q2 <;>
        (go_wp2_with (fail)
         refine (kc _).mono ?_
         rintro e w' ⟨rfl, rfl⟩
         go_wp2
         go_ret
         exact ⟨rfl, T7⟩)
    · have m1 : ((l.length : Int) == 1) = false := by rw [beq_eq_false_iff_ne]; omega
      have m2 : ¬ (l.length : Int) = 1 := by omega
      have m3 : 1 < (l.length : Int) := by omega
      cases e1 : nan re
      · cases e2 : nan im
        · rw [e1] at q1
          rw [e2] at q2
          go_wp2
          go_ret
          exact ⟨rfl, T7⟩
        · obtain ⟨f1, f2⟩ := k3 (by omega) (.inr e2)
          rw [e1] at q1
          rw [e2] at q2
          rw [f1] at q3
          rw [f2] at q4
          go_wp2
          go_ret
          exact ⟨rfl, T7⟩
      · obtain ⟨f1, f2⟩ := k3 (by omega) (.inl e1)
        rw [e1] at q1
        rw [f1] at q3
        rw [f2] at q4
        go_wp2
        go_ret
        exact ⟨rfl, T7⟩
  · by_cases h1 : 1 < l.length
    · have g5 : 1 < (l.length : Int) := by omega
      have kz := fun u => Finite_any re im u
      cases hzf : finC (re, im)
      · have kv := fun u => Finite_any v1 v2 u
        rw [k2 h1 hzf] at kv
        rw [hzf] at kz
        go_wp2_with (fail)
        refine (kz _).mono ?_
        rintro e w7 ⟨rfl, D7⟩
        go_wp2_with (fail)
        refine (kv _).mono ?_
        rintro e w8 ⟨rfl, D8⟩
        have DD := (D6.trans D7).trans D8
        have T8 := below_dr T4 DD
        have q1 := neq_self re
        have q2 := neq_self im
        have q3 := neq_self v1
        have q4 := neq_self v2
        by_cases hl1 : l.length = 1
        · have m1 : ((l.length : Int) == 1) = true := by rw [beq_iff_eq]; omega
          have m2 : (l.length : Int) = 1 := by omega
          have c0 := dr_cell DD ⟨r, 0, none⟩
          rw [hc4 0 (by omega)] at c0
          have kc : ∀ w, Calls Tryz.prog 12 #[.complex .f64 v1 v2, .complex .f64 (l[0]'(by omega)).1 (l[0]'(by omega)).2] w fun e w' => e = .returned (.bool true) ∧ w = w' := fun w => by
            have h := SameC_any v1 v2 (l[0]'(by omega)).1 (l[0]'(by omega)).2 w
            rw [decide_eq_true (k4 hl1)] at h; exact h
          cases e1 : nan re <;> cases e2 : nan im <;> rw [e1] at q1 <;> rw [e2] at q2 <;>
            (go_wp2_with (fail)
             refine (kc _).mono ?_
             rintro e w' ⟨rfl, rfl⟩
             go_wp2
             go_ret
             exact ⟨rfl, T8⟩)
        · have m1 : ((l.length : Int) == 1) = false := by rw [beq_eq_false_iff_ne]; omega
          have m2 : ¬ (l.length : Int) = 1 := by omega
          have m3 : 1 < (l.length : Int) := by omega
          cases e1 : nan re
          · cases e2 : nan im
            · rw [e1] at q1
              rw [e2] at q2
              go_wp2
              go_ret
              exact ⟨rfl, T8⟩
            · obtain ⟨f1, f2⟩ := k3 (by omega) (.inr e2)
              rw [e1] at q1
              rw [e2] at q2
              rw [f1] at q3
              rw [f2] at q4
              go_wp2
              go_ret
              exact ⟨rfl, T8⟩
          · obtain ⟨f1, f2⟩ := k3 (by omega) (.inl e1)
            rw [e1] at q1
            rw [f1] at q3
            rw [f2] at q4
            go_wp2
            go_ret
            exact ⟨rfl, T8⟩
      · rw [hzf] at kz
        go_wp2_with (fail)
        refine (kz _).mono ?_
        rintro e w7 ⟨rfl, D7⟩
        have DD := D6.trans D7
        have T7 := below_dr T4 DD
        have q1 := neq_self re
        have q2 := neq_self im
        have q3 := neq_self v1
        have q4 := neq_self v2
        by_cases hl1 : l.length = 1
        · have m1 : ((l.length : Int) == 1) = true := by rw [beq_iff_eq]; omega
          have m2 : (l.length : Int) = 1 := by omega
          have c0 := dr_cell DD ⟨r, 0, none⟩
          rw [hc4 0 (by omega)] at c0
          have kc : ∀ w, Calls Tryz.prog 12 #[.complex .f64 v1 v2, .complex .f64 (l[0]'(by omega)).1 (l[0]'(by omega)).2] w fun e w' => e = .returned (.bool true) ∧ w = w' := fun w => by
            have h := SameC_any v1 v2 (l[0]'(by omega)).1 (l[0]'(by omega)).2 w
            rw [decide_eq_true (k4 hl1)] at h; exact h
          cases e1 : nan re <;> cases e2 : nan im <;> rw [e1] at q1 <;> rw [e2] at q2 <;>
            (go_wp2_with (fail)
             refine (kc _).mono ?_
             rintro e w' ⟨rfl, rfl⟩
             go_wp2
             go_ret
             exact ⟨rfl, T7⟩)
        · have m1 : ((l.length : Int) == 1) = false := by rw [beq_eq_false_iff_ne]; omega
          have m2 : ¬ (l.length : Int) = 1 := by omega
          have m3 : 1 < (l.length : Int) := by omega
          cases e1 : nan re
          · cases e2 : nan im
            · rw [e1] at q1
              rw [e2] at q2
              go_wp2
              go_ret
              exact ⟨rfl, T7⟩
            · obtain ⟨f1, f2⟩ := k3 (by omega) (.inr e2)
              rw [e1] at q1
              rw [e2] at q2
              rw [f1] at q3
              rw [f2] at q4
              go_wp2
              go_ret
              exact ⟨rfl, T7⟩
          · obtain ⟨f1, f2⟩ := k3 (by omega) (.inl e1)
            rw [e1] at q1
            rw [f1] at q3
            rw [f2] at q4
            go_wp2
            go_ret
            exact ⟨rfl, T7⟩
    · have g5 : ¬ 1 < (l.length : Int) := by omega
      have DD := D6
      have T6 := below_dr T4 DD
      have q1 := neq_self re
      have q2 := neq_self im
      have q3 := neq_self v1
      have q4 := neq_self v2
      by_cases hl1 : l.length = 1
      · have m1 : ((l.length : Int) == 1) = true := by rw [beq_iff_eq]; omega
        have m2 : (l.length : Int) = 1 := by omega
        have c0 := dr_cell DD ⟨r, 0, none⟩
        rw [hc4 0 (by omega)] at c0
        have kc : ∀ w, Calls Tryz.prog 12 #[.complex .f64 v1 v2, .complex .f64 (l[0]'(by omega)).1 (l[0]'(by omega)).2] w fun e w' => e = .returned (.bool true) ∧ w = w' := fun w => by
          have h := SameC_any v1 v2 (l[0]'(by omega)).1 (l[0]'(by omega)).2 w
          rw [decide_eq_true (k4 hl1)] at h; exact h
        cases e1 : nan re <;> cases e2 : nan im <;> rw [e1] at q1 <;> rw [e2] at q2 <;>
          (go_wp2_with (fail)
           refine (kc _).mono ?_
           rintro e w' ⟨rfl, rfl⟩
           go_wp2
           go_ret
           exact ⟨rfl, T6⟩)
      · exfalso; omega
end Go.Proofs.YtiiopcjdbldihaaGreatFmtBesafter
