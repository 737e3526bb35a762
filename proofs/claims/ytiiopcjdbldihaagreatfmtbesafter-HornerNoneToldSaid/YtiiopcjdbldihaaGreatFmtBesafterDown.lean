/- horner.down with its three steps, Value, Both, Bound. No condition. -/
import Derived.Test.YtiiopcjdbldihaaGreatFmtBesafterBound
import Derived.LoopTactic
namespace Go.Proofs.YtiiopcjdbldihaaGreatFmtBesafter
open Go.RowKit Go.SurdFp

theorem enter_vals (args : Array Value) (w : World) : (callFunc 20 args).run Tryz.prog w = .ok (.enter 20 args) w := by kernel_rfl
theorem enter_val (args : Array Value) (w : World) : (callFunc 21 args).run Tryz.prog w = .ok (.enter 21 args) w := by kernel_rfl
theorem enter_boths (args : Array Value) (w : World) : (callFunc 26 args).run Tryz.prog w = .ok (.enter 26 args) w := by kernel_rfl
theorem enter_both (args : Array Value) (w : World) : (callFunc 27 args).run Tryz.prog w = .ok (.enter 27 args) w := by kernel_rfl
theorem enter_bounds (args : Array Value) (w : World) : (callFunc 28 args).run Tryz.prog w = .ok (.enter 28 args) w := by kernel_rfl
theorem enter_bound (args : Array Value) (w : World) : (callFunc 29 args).run Tryz.prog w = .ok (.enter 29 args) w := by kernel_rfl
theorem hmf_any (fn : Fn) (first cap : Array Value) (w : World) : (Instr.makeFunc fn first cap).run Tryz.prog w = .ok (.func fn first cap) w := rfl

set_option maxHeartbeats 400000 in
theorem step_value (p : Addr) (w : World) : Calls Tryz.prog 20 #[.pointer (some p)] w fun e w' => e = .returned (.func (.func 21) #[.pointer (some p)] #[]) ∧ w = w' := by
  have hmf := hmf_any
  go_enter Tryz.func20, Tryz.ntmps20
  go_wp2
  go_ret
  exact ⟨rfl, rfl⟩
set_option maxHeartbeats 400000 in
theorem step_both (p : Addr) (w : World) : Calls Tryz.prog 26 #[.pointer (some p)] w fun e w' => e = .returned (.func (.func 27) #[.pointer (some p)] #[]) ∧ w = w' := by
  have hmf := hmf_any
  go_enter Tryz.func26, Tryz.ntmps26
  go_wp2
  go_ret
  exact ⟨rfl, rfl⟩
set_option maxHeartbeats 400000 in
theorem step_bound (p : Addr) (w : World) : Calls Tryz.prog 28 #[.pointer (some p)] w fun e w' => e = .returned (.func (.func 29) #[.pointer (some p)] #[]) ∧ w = w' := by
  have hmf := hmf_any
  go_enter Tryz.func28, Tryz.ntmps28
  go_wp2
  go_ret
  exact ⟨rfl, rfl⟩

set_option maxRecDepth 100000 in
set_option maxHeartbeats 4000000 in
/-- down, whatever the step: F gives the method G bound to the sum; I d: the state behind the coefficients d. -/
theorem down_gen (F G : FuncId) (I : List CB → World → Prop) (b cap : Nat) (l : List CB) (z : CB) (hz : LtC z) (w : World) (h1 : 0 < l.length) (h2 : l.length ≤ 65)
    (hl : ∀ j (hj : j < l.length), w.cell? ⟨b, j, none⟩ = some (.complex .f64 l[j].1 l[j].2))
    (hFc : ∀ args w, (callFunc F args).run Tryz.prog w = .ok (.enter F args) w) (hGc : ∀ args w, (callFunc G args).run Tryz.prog w = .ok (.enter G args) w)
    (hF : ∀ w', Calls Tryz.prog F #[.pointer (some ⟨w.heap.size, 0, none⟩)] w' fun e w'' => e = .returned (.func (.func G) #[.pointer (some ⟨w.heap.size, 0, none⟩)] #[]) ∧ w' = w'')
    (hI0 : ∀ A sz, SumAt w.heap.size z l[l.length - 1] (0, 0) sz 0 A → cn sz = on z → I (l.drop (l.length - 1)) A)
    (hG : ∀ m (hm : m + 1 < l.length) w', I (l.drop (m + 1)) w' → Calls Tryz.prog G #[.pointer (some ⟨w.heap.size, 0, none⟩), .complex .f64 (l[m]'(by omega)).1 (l[m]'(by omega)).2] w' fun e w'' => e = .returned (.tuple #[]) ∧ I (l.drop m) w'' ∧ OnlyB w.heap.size w' w'') :
    Calls Tryz.prog 19 #[.slice (some ⟨b, 0, none⟩) l.length cap, .complex .f64 z.1 z.2, .func (.func F) #[] #[]] w fun e w' =>
      e = .returned (.tuple #[.pointer (some ⟨w.heap.size, 0, none⟩), .int .i64 0]) ∧ I l w' ∧ Below w.heap.size w w' := by
  have g1 : ¬ (65 < (l.length : Int)) := by omega
  have g2 : ¬ ((l.length : Int) = 0) := by omega
  go_enter Tryz.func19, Tryz.ntmps19
  go_wp2_with (fail)
  refine (one_any z.1 z.2 hz.1 hz.2 _).mono ?_
  rintro e w1 ⟨sz, rfl, hsz, lsz, D1⟩
  have zw1 : w1.heap.size = w.heap.size := by rw [dr_heap D1]
  have b1 : Below w.heap.size w w1 := by obtain ⟨n, rfl⟩ := D1; exact ⟨rfl, rfl, rfl, Nat.le_refl _, fun _ _ => rfl⟩
  obtain ⟨A, hA⟩ : ∃ A, w1.alloc (.cells #[.complex .f64 z.1 z.2, .complex .f64 0 0, .complex .f64 0 0, .float .f64 sz, .float .f64 0] 57) = A := ⟨_, rfl⟩
  have nA : A.heap[w.heap.size]? = some (.cells #[.complex .f64 z.1 z.2, .complex .f64 0 0, .complex .f64 0 0, .float .f64 sz, .float .f64 0] 57 (0, 0)) := by rw [← hA]; exact heap_alloc_new _ _ _ zw1.symm
  have bA : Below w.heap.size w A := by rw [← hA]; exact b1.alloc (by omega) _
  have zA : A.heap.size = w.heap.size + 1 := by rw [← hA]; simp [zw1]
  have hb : b < w.heap.size := lt_of_cell (hl 0 h1)
  have cl : A.cell? ⟨b, l.length - 1, none⟩ = some (.complex .f64 l[l.length - 1].1 l[l.length - 1].2) := (bA.cell (p := ⟨b, l.length - 1, none⟩) hb).trans (hl _ (by omega))
  have n1 := cell_of_block (o := 1) nA rfl
  have f1 := free_of_block (o := 1) nA
  have g3 : ((l.length : Int) == 0) = false := by rw [beq_eq_false_iff_ne]; omega
  have Z0 : SumAt w.heap.size z l[l.length - 1] (0, 0) sz 0 (A.setCell ⟨w.heap.size, 1, none⟩ (.complex .f64 l[l.length - 1].1 l[l.length - 1].2)) := block_setCell nA
  obtain ⟨V, hV⟩ : ∃ V, A.setCell ⟨w.heap.size, 1, none⟩ (.complex .f64 l[l.length - 1].1 l[l.length - 1].2) = V := ⟨_, rfl⟩
  rw [hV] at Z0
  have bV : Below w.heap.size w V := by rw [← hV]; exact bA.setCell (Nat.le_refl _) _
  have zV : w.heap.size < V.heap.size := by rw [← hV]; simp [zA]
  have J0 := hI0 V sz Z0 hsz
  go_wp2_with (fail)
  refine (hF _).mono ?_
  rintro e w3 ⟨rfl, rfl⟩
  clear hA hV n1 f1 cl nA Z0
  go_wp2_with (fail)
  go_loopw [10] (fun i wr => (i = .int .i64 (-1) ∧ I l wr ∧ OnlyB w.heap.size V wr) ∨ ∃ m : Nat, m + 1 < l.length ∧ i = .int .i64 (m : Int) ∧ I (l.drop (m + 1)) wr ∧ OnlyB w.heap.size V wr)
    (fun i _ => (intOf i + 1).toNat)
  case atStart =>
    by_cases he : l.length = 1
    · refine .inl ⟨?_, ?_, OnlyB.refl _ _⟩
      · congr 1; omega
      · have e : l.drop (l.length - 1) = l := by rw [he]; rfl
        rw [← e]; exact J0
    · refine .inr ⟨l.length - 2, by omega, ?_, ?_, OnlyB.refl _ _⟩
      · congr 1; omega
      · have e : l.length - 2 + 1 = l.length - 1 := by omega
        rw [e]; exact J0
  case round =>
    rcases hrel with ⟨rfl, hI, hO⟩ | ⟨m, hm, rfl, hI, hO⟩
    · go_wp2
      go_ret2
      exact ⟨rfl, hI, bV.trans (hO.below (Nat.le_refl _) bV.size)⟩
    · have hc := (hO.cell (k := b) (o := m) (Nat.lt_of_lt_of_le hb bV.size) (by omega)).trans ((bV.cell (p := ⟨b, m, none⟩) hb).trans (hl m (by omega)))
      have hlt : (m : Int) < l.length := by omega
      go_wp2_with (fail)
      refine (hG m hm wr hI).mono ?_
      rintro e w4 ⟨rfl, hI4, o4⟩
      have O4 := hO.trans o4
      go_wp2_with (fail)
      go_roundw
      case rel =>
        by_cases h0 : m = 0
        · subst h0
          exact .inl ⟨by simp, hI4, O4⟩
        · refine .inr ⟨m - 1, by omega, ?_, ?_, O4⟩
          · first | (congr 1; omega) | go_num
          · have e : m - 1 + 1 = m := by omega
            rw [e]; exact hI4
      case measure => simp [intOf]
theorem hv_drop (l : List CB) (z : CB) (m : Nat) (hm : m + 1 < l.length) : hv ((l.drop m).map cnp) z = cadd (cmul (hv ((l.drop (m + 1)).map cnp) z) z) (cnp (l[m]'(by omega))) := by
  rw [List.drop_eq_getElem_cons (show m < l.length by omega), List.drop_eq_getElem_cons hm]
  rfl
theorem hs_drop (l : List CB) (z : CB) (m : Nat) (hm : m + 1 < l.length) : hs ((l.drop m).map cnp) z = cadd (cmul (hs ((l.drop (m + 1)).map cnp) z) z) (hv ((l.drop (m + 1)).map cnp) z) := by
  rw [List.drop_eq_getElem_cons (show m < l.length by omega), List.drop_eq_getElem_cons hm]
  rfl
theorem drop_last (l : List CB) (h1 : 0 < l.length) : l.drop (l.length - 1) = [l[l.length - 1]] := by
  rw [List.drop_eq_getElem_cons (show l.length - 1 < l.length by omega)]
  congr 1
  rw [List.drop_eq_nil_iff]; omega

set_option maxRecDepth 100000 in
set_option maxHeartbeats 1000000 in
theorem Value_any (b cap : Nat) (l : List CB) (z : CB) (hz : LtC z) (w : World) (h1 : 0 < l.length) (h2 : l.length ≤ 65)
    (hl : ∀ j (hj : j < l.length), w.cell? ⟨b, j, none⟩ = some (.complex .f64 l[j].1 l[j].2)) :
    Calls Tryz.prog 7 #[.slice (some ⟨b, 0, none⟩) l.length cap, .complex .f64 z.1 z.2] w fun e w' =>
      ∃ v : CB, e = .returned (.tuple #[.complex .f64 v.1 v.2, .int .i64 0]) ∧ cnp v = hv (l.map cnp) (cnp z) ∧ Below w.heap.size w w' := by
  go_enter Tryz.func7, Tryz.ntmps7
  go_wp2_with (fail)
  refine (down_gen 20 21 (fun d w' => ∃ u sz, SumAt w.heap.size z u (0, 0) sz 0 w' ∧ cnp u = hv (d.map cnp) (cnp z)) b cap l z hz w h1 h2 hl enter_vals enter_val (step_value _) ?_ ?_).mono ?_
  · intro A sz hA _
    refine ⟨_, sz, hA, ?_⟩
    rw [drop_last l h1]
    rfl
  · rintro m hm w' ⟨u, sz, hS, hu⟩
    refine (value_any w.heap.size z u (0, 0) sz 0 (l[m]'(by omega)) w' hS).mono ?_
    rintro e w2 ⟨rfl, t, hT, ht, lt, zz, o⟩
    exact ⟨rfl, ⟨t, sz, hT, by rw [ht, hu, hv_drop l _ m hm]⟩, o⟩
  rintro e w1 ⟨rfl, ⟨u, sz, hS, hu⟩, B⟩
  have c1 : w1.cell? ⟨w.heap.size, 1, none⟩ = some (.complex .f64 u.1 u.2) := cell_of_block (o := 1) hS rfl
  go_wp2
  go_ret2
  exact ⟨u, rfl, hu, B⟩
set_option maxRecDepth 100000 in
set_option maxHeartbeats 1000000 in
theorem Both_any (b cap : Nat) (l : List CB) (z : CB) (hz : LtC z) (w : World) (h1 : 0 < l.length) (h2 : l.length ≤ 65)
    (hl : ∀ j (hj : j < l.length), w.cell? ⟨b, j, none⟩ = some (.complex .f64 l[j].1 l[j].2)) :
    Calls Tryz.prog 15 #[.slice (some ⟨b, 0, none⟩) l.length cap, .complex .f64 z.1 z.2] w fun e w' =>
      ∃ v s : CB, e = .returned (.tuple #[.complex .f64 v.1 v.2, .complex .f64 s.1 s.2, .int .i64 0]) ∧ cnp v = hv (l.map cnp) (cnp z) ∧ cnp s = hs (l.map cnp) (cnp z) ∧ Below w.heap.size w w' := by
  go_enter Tryz.func15, Tryz.ntmps15
  go_wp2_with (fail)
  refine (down_gen 26 27 (fun d w' => ∃ u s sz, SumAt w.heap.size z u s sz 0 w' ∧ cnp u = hv (d.map cnp) (cnp z) ∧ cnp s = hs (d.map cnp) (cnp z)) b cap l z hz w h1 h2 hl enter_boths enter_both (step_both _) ?_ ?_).mono ?_
  · intro A sz hA _
    refine ⟨_, _, sz, hA, ?_, ?_⟩
    · rw [drop_last l h1]; rfl
    · rw [drop_last l h1]; rfl
  · rintro m hm w' ⟨u, s, sz, hS, hu, hs'⟩
    refine (both_any w.heap.size z u s sz 0 (l[m]'(by omega)) w' hS).mono ?_
    rintro e w2 ⟨rfl, t, r, hT, ht, hr, _, _, zz, o⟩
    exact ⟨rfl, ⟨t, r, sz, hT, by rw [ht, hu, hv_drop l _ m hm], by rw [hr, hs', hu, hs_drop l _ m hm]⟩, o⟩
  rintro e w1 ⟨rfl, ⟨u, s, sz, hS, hu, hs'⟩, B⟩
  have c1 : w1.cell? ⟨w.heap.size, 1, none⟩ = some (.complex .f64 u.1 u.2) := cell_of_block (o := 1) hS rfl
  have c2 : w1.cell? ⟨w.heap.size, 2, none⟩ = some (.complex .f64 s.1 s.2) := cell_of_block (o := 2) hS rfl
  go_wp2
  go_quiet (fail)
  go_wp2
  go_ret3
  exact ⟨u, s, rfl, hu, hs', ⟨B.os, B.tape, B.output, B.size, B.block⟩⟩
end Go.Proofs.YtiiopcjdbldihaaGreatFmtBesafter
