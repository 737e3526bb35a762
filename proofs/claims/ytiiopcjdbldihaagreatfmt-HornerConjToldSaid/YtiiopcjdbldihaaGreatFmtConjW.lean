/- surdlaw16.HornerConj. Condition: what the walk reads of package-level variables. -/
import Derived.Test.YtiiopcjdbldihaaGreatFmtAwake
import Derived.Test.YtiiopcjdbldihaaGreatFmtRows2
import Derived.Test.YtiiopcjdbldihaaGreatFmtConj
namespace Go
namespace SurdFp
/-- HornerConj's end -/
theorem conj_end {l : List CB} {z v s u t : CB} {x y : Nat} (hv' : cnp v = hv (l.map cnp) (cnp z)) (hs' : cnp s = hs (l.map cnp) (cnp z))
    (hu : cnp u = hv ((l.map cjB).map cnp) (cnp (cjB z))) (ht : cnp t = hs ((l.map cjB).map cnp) (cnp (cjB z)))
    (hx : cn x = be (l.map cnp) (cnp z)) (hy : cn y = be ((l.map cjB).map cnp) (cnp (cjB z))) :
    alk x y = true ∧ alk v.1 u.1 = true ∧ alk v.2 (ngF u.2) = true ∧ alk s.1 t.1 = true ∧ alk s.2 (ngF t.2) = true := by
  have hz : evp (cnp (cjB z)) = cjE (evp (cnp z)) := by rw [evp_cnp, evp_cnp, evp_cjB]
  have hf : ∀ c : CB, evp ((cnp ∘ cjB) c) = cjE (evp (cnp c)) := fun c => by
    show evp (cnp (cjB c)) = _
    rw [evp_cnp, evp_cnp, evp_cjB]
  rw [List.map_map] at hu ht hy
  have e1 := hv_cj hz cnp (cnp ∘ cjB) hf l
  have e2 := hs_cj hz cnp (cnp ∘ cjB) hf l
  have e3 := be_cj hz cnp (cnp ∘ cjB) hf l
  rw [← hu, ← hv', evp_cnp, evp_cnp] at e1
  rw [← ht, ← hs', evp_cnp, evp_cnp] at e2
  rw [← hx, ← hy] at e3
  have a1 : ev u.1 = ev v.1 := congrArg Prod.fst e1
  have a2 : ev u.2 = negE (ev v.2) := congrArg Prod.snd e1
  have b1 : ev t.1 = ev s.1 := congrArg Prod.fst e2
  have b2 : ev t.2 = negE (ev s.2) := congrArg Prod.snd e2
  exact ⟨alk_of_ev (ev_congr e3.symm), alk_of_ev a1.symm, alk_of_ev (by rw [ev_ng, a2, negE_negE]), alk_of_ev b1.symm, alk_of_ev (by rw [ev_ng, b2, negE_negE])⟩
theorem cjB_lt {c : CB} (h : LtC c) : LtC (cjB c) := ⟨h.1, ngF_lt h.2⟩
end SurdFp
end Go
namespace Go.Proofs.YtiiopcjdbldihaaGreatFmt
open Go.RowKit Go.SurdFp

set_option maxHeartbeats 1000000 in
theorem alike_any (x y : Nat) (h : alk x y = true) (w : World) : Calls Tryz.prog 11 #[.float .f64 x, .float .f64 y] w fun e w' => e = .returned (.bool true) ∧ w = w' := by
  have q1 := neq_self x
  have q2 := neq_self y
  unfold alk at h
  cases hxy : (FloatKind.f64.format.order x y == some .eq)
  · rw [hxy, Bool.false_or, Bool.and_eq_true] at h
    rw [h.1] at q1
    rw [h.2] at q2
    go_enter Tryz.func11, Tryz.ntmps11
    go_wp2
    go_ret
    exact ⟨rfl, rfl⟩
  · go_enter Tryz.func11, Tryz.ntmps11
    go_wp2
    go_ret
    exact ⟨rfl, rfl⟩

set_option maxRecDepth 100000 in
set_option maxHeartbeats 8000000 in
theorem Conj_any (p : Addr) (cv : Value) (l : List CB) (re im : Nat) (w : World) (g : Env p w) (hz : LtC (re, im)) (hlt : ∀ j (hj : j < l.length), LtC l[j]) (h2 : l.length * 16 ≤ 140737488355328) (hc : Arg cv l w) :
    Calls Tryz.prog 3 #[cv, .agg #[.int .u64 (re : Int), .int .u64 (im : Int)]] w fun e w' => e = .returned (.bool true) ∧ Below w.heap.size w w' := by
  obtain ⟨i0, hi, hz0, hz1, hz2⟩ := info_complex
  obtain ⟨A, hA⟩ : ∃ A, w.alloc (.cells #[.int .u64 (re : Int), .int .u64 (im : Int)] 25) = A := ⟨_, rfl⟩
  have nA : A.heap[w.heap.size]? = some (.cells #[.int .u64 (re : Int), .int .u64 (im : Int)] 25 (0, 0)) := by rw [← hA]; exact heap_alloc_new _ _ _ rfl
  have bA : Below w.heap.size w A := by rw [← hA]; exact (Below.refl w.heap.size w).alloc (Nat.le_refl _) _
  have gA : Env p A := g.below bA (Nat.le_refl _)
  have cA := hc.below bA (Nat.le_refl _)
  have ltA : w.heap.size < A.heap.size := lt_of_cell (cell_of_block (o := 0) nA rfl)
  go_enter Tryz.func3, Tryz.ntmps3
  go_wp2_with (fail)
  refine (awake_true p A gA).mono ?_
  rintro e w1 ⟨rfl, B1⟩
  have n1 := (B1.block _ ltA).trans nA
  have T1 := bA.trans (B1.mono bA.size)
  clear hA
  go_wp2_with (fail)
  refine (Cs_arg (cA.below B1 (Nat.le_refl _)) h2).mono ?_
  rintro e w2 ⟨u, rfl, hu, hun, B2⟩
  have n2 := (B2.block _ (Nat.lt_of_lt_of_le ltA B1.size)).trans n1
  have T2 := T1.trans (B2.mono T1.size)
  have d0 := cell_of_block (o := 0) n2 rfl
  have d1 := cell_of_block (o := 1) n2 rfl
  have R2 : Row w1.heap.size w2 u l := hu
  go_wp2_with (fail)
  refine (C_nat re im _).mono ?_
  rintro e w3 ⟨rfl, rfl⟩
  obtain ⟨ao, cap, hue, hform⟩ := R2.form
  by_cases h65 : 65 < l.length
  · subst hue
    have g1 : 65 < (l.length : Int) := by omega
    go_wp2
    go_ret
    exact ⟨rfl, T2⟩
  have g1 : ¬ 65 < (l.length : Int) := by omega
  have h65' : l.length ≤ 65 := by omega
  subst hue
  go_wp2_with (fail)
  go_loopw [7, 8] (fun o i wr => ∃ k : Nat, k ≤ l.length ∧ i = .int .i64 (k : Int) ∧ wr.ownsRow w2.heap.size 29 1 o k (((l.take k).map cjB).map cval) ∧ Below w2.heap.size w2 wr)
    (fun _ i _ => l.length - (intOf i).toNat)
  case atStart => exact ⟨0, Nat.zero_le _, rfl, World.ownsRow_nil _ _ _ _, Below.refl _ _⟩
  case round =>
    obtain ⟨k, hk, rfl, ho, hB⟩ := hrel
    by_cases hltk : k < l.length
    · have hlt' : (k : Int) < l.length := by omega
      have g0 : (0 : Int) ≤ k := by omega
      rcases hform with hnil | ⟨r, rfl, hr0, hr, hcr⟩
      · rw [hnil] at hltk; cases hltk
      have c0 : wr.drew.cell? ⟨r, k, none⟩ = some (.complex .f64 l[k].1 l[k].2) := (hB.cell (p := ⟨r, k, none⟩) hr).trans (hcr k hltk)
      have ho' : wr.drew.ownsRow w2.heap.size 29 1 u7 k (((l.take k).map cjB).map cval) := ho
      have hbase : w2.heap.size ≤ wr.heap.size := hB.size
      have e0 : l.take (k + 1) = l.take k ++ [l[k]] := List.take_succ_eq_append_getElem hltk
      obtain ⟨⟨x0, y0⟩, hcc⟩ : ∃ c, l[k] = c := ⟨_, rfl⟩
      rw [hcc] at e0 c0
      dsimp only at c0
      have HS : Hid _ := And.intro hcr (And.intro e0 hcc)
      clear hcr e0 hcc
      go_wp2_with (fail)
      go_region_law (refine step_append_lies _ rfl (.tmp 38) (.tmp 51) 27 rfl w2.heap.size 29 i0 (.complex .f64 0 0) 1 16 Tryz.underlying27 hi hz0 hz1 hz2 rfl (by decide) u7 k _ rfl (ho'.alloc _) ⟨wr.heap.size, 0, none⟩ 1 1 [cval (cjB (x0, y0))] rfl rfl (World.news_of_block (heap_alloc_new _ _ _ rfl)) (fun u hu => one_cells u _ hu) (by decide) (by simp only [maxLen]; omega) (by omega) (by simp; omega) _ rfl ?_; intro g4 cap4 w4 hown hgrow hat hlt4)
      all_goals
        have B4 : Below w2.heap.size w2 w4 := ((hB.drew).alloc (by simpa using hbase) _).grown hgrow (by simp; omega) (fun q hq => (World.ownsRow.lt ho' q hq).1)
        have HR : Hid _ := And.intro hown B4
        clear hown hgrow hat hlt4 B4
        go_wp2_with (fail)
        go_roundw
        case rel =>
          obtain ⟨hown, B4⟩ := HR.out
          obtain ⟨hcr, e0, hcc⟩ := HS.out
          refine ⟨k + 1, by omega, by go_num, ?_, B4⟩
          rw [e0, List.map_append, List.map_append]
          exact hown
        case measure => simp [intOf]; omega
    · have ek : k = l.length := by omega
      subst ek
      have he : ¬ ((l.length : Int) < l.length) := by omega
      rw [List.take_length] at ho
      have Rb : Row w2.heap.size wr u7 (l.map cjB) := by
        show wr.ownsRow _ _ 1 u7 (l.map cjB).length _
        rw [List.length_map]; exact ho
      have Ra := R2.later hB
      have Tr := T2.trans (hB.mono T2.size)
      clear ho n1 n2 d0 d1 nA hform
      go_wp2_with (fail)
      refine (CopyNums_row _ Ra hun h65').mono ?_
      rintro e w4 ⟨u4, rfl, V4, B4⟩
      have Vb4 := Rb.vals.later B4
      have Ra4 := Ra.later B4
      have T4 := Tr.trans (B4.mono Tr.size)
      go_wp2_with (fail)
      refine (Both_row V4.vals h65' (re, im) hz).mono ?_
      rintro e w5 ⟨⟨v1, v2⟩, ⟨s1, s2⟩, rfl, hv', hs', B5⟩
      have Vb5 := Vb4.later B5
      have Ra5 := Ra4.later B5
      have T5 := T4.trans (B5.mono T4.size)
      go_wp2_with (fail)
      refine (Both_row Vb5 (by simpa using h65') (re, ngF im) (cjB_lt hz)).mono ?_
      rintro e w6 ⟨⟨u1, u2⟩, ⟨t1, t2⟩, rfl, hu', ht', B6⟩
      have Vb6 := Vb5.later B6
      have Ra6 := Ra5.later B6
      have T6 := T5.trans (B6.mono T5.size)
      go_wp2_with (fail)
      refine (CopyNums_row _ Ra6 hun h65').mono ?_
      rintro e w7 ⟨u7, rfl, V7, B7⟩
      have Vb7 := Vb6.later B7
      have T7 := T6.trans (B7.mono T6.size)
      go_wp2_with (fail)
      refine (Bound_row V7.vals h65' hlt (re, im) hz).mono ?_
      rintro e w8 ⟨x, rfl, hx, B8⟩
      have Vb8 := Vb7.later B8
      have T8 := T7.trans (B8.mono T7.size)
      go_wp2_with (fail)
      refine (Bound_row Vb8 (by simpa using h65') (fun j hj => by rw [List.getElem_map]; exact cjB_lt (hlt j (by simpa using hj))) (re, ngF im) (cjB_lt hz)).mono ?_
      rintro e w9 ⟨y, rfl, hy, B9⟩
      have T9 := T8.trans (B9.mono T8.size)
      obtain ⟨a0, a1, a2, a3, a4⟩ := conj_end hv' hs' hu' ht' hx hy
      clear hv' hs' hu' ht' hx hy Vb4 Vb5 Vb6 Vb7 Vb8 Ra Ra4 Ra5 Ra6 Rb V4 V7 B4 B5 B6 B7 B8 B9
      have ka := fun w => alike_any x y a0 w
      have k1 := fun w => alike_any v1 u1 a1 w
      have k2 := fun w => alike_any v2 (ngF u2) a2 w
      have k3 := fun w => alike_any s1 t1 a3 w
      have k4 := fun w => alike_any s2 (ngF t2) a4 w
      go_wp2_with (go_at_call 10; refine (Num_any _ _).mono ?_; rintro e w' ⟨rfl, rfl⟩)
      refine (ka _).mono ?_
      rintro e w' ⟨rfl, rfl⟩
      go_wp2_with (fail)
      refine (k1 _).mono ?_
      rintro e w' ⟨rfl, rfl⟩
      go_wp2_with (fail)
      refine (k2 _).mono ?_
      rintro e w' ⟨rfl, rfl⟩
      go_wp2_with (fail)
      refine (k3 _).mono ?_
      rintro e w' ⟨rfl, rfl⟩
      go_wp2_with (fail)
      refine (k4 _).mono ?_
      rintro e w' ⟨rfl, rfl⟩
      go_wp2
      go_ret
      exact ⟨rfl, T9⟩
end Go.Proofs.YtiiopcjdbldihaaGreatFmt
