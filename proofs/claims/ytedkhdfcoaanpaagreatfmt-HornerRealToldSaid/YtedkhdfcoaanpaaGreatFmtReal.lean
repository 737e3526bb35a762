/- surdlaw16.HornerReal. Condition: what the walk reads of package-level variables. -/
import Derived.Test.YtedkhdfcoaanpaaGreatFmtAwake
import Derived.Test.YtedkhdfcoaanpaaGreatFmtRows2
import Derived.LoopTactic
namespace Go
namespace SurdFp
def rl (l : List Nat) : List CB := l.map fun b => ((b, 0) : CB)
theorem rv_fin {x : Nat} : ∀ {l : List Nat}, rfin l x = true → l.all fin = true → fin (rv l x) = true ∧ fin (rs l x) = true
  | [], _, _ => ⟨fin_0, fin_0⟩
  | [c], _, h => ⟨by simpa [rv] using h, fin_0⟩
  | c :: d :: l, h, _ => by
    unfold rfin at h
    rw [Bool.and_eq_true, Bool.and_eq_true] at h
    exact ⟨h.2.1, h.2.2⟩
theorem rv_drop (l : List Nat) (x m : Nat) (hm : m + 1 < l.length) : rv ((l.drop m).map cn) x = fop .add (fop .mul (rv ((l.drop (m + 1)).map cn) x) x) (cn (l[m]'(by omega))) := by
  rw [List.drop_eq_getElem_cons (show m < l.length by omega), List.drop_eq_getElem_cons hm]
  rfl
theorem rs_drop (l : List Nat) (x m : Nat) (hm : m + 1 < l.length) : rs ((l.drop m).map cn) x = fop .add (fop .mul (rs ((l.drop (m + 1)).map cn) x) x) (rv ((l.drop (m + 1)).map cn) x) := by
  rw [List.drop_eq_getElem_cons (show m < l.length by omega), List.drop_eq_getElem_cons hm]
  rfl
theorem rfin_drop (l : List Nat) (x m : Nat) (hm : m + 1 < l.length) : rfin ((l.drop m).map cn) x = (rfin ((l.drop (m + 1)).map cn) x && (fin (rv ((l.drop m).map cn) x) && fin (rs ((l.drop m).map cn) x))) := by
  rw [List.drop_eq_getElem_cons (show m < l.length by omega), List.drop_eq_getElem_cons hm]
  rfl
/-- HornerReal's end: what Both gives beside the float64 rule -/
theorem real_end {l : List Nat} {x : Nat} {u t : CB} {v s : Nat} (hx : fin x = true) (hf : rfin (l.map cn) (cn x) = true) (ha : l.all fin = true)
    (hu : cnp u = hv ((rl l).map cnp) (cnp (x, 0))) (ht : cnp t = hs ((rl l).map cnp) (cnp (x, 0)))
    (hvv : cn v = rv (l.map cn) (cn x)) (hss : cn s = rs (l.map cn) (cn x)) :
    FloatKind.f64.format.order u.1 v = some .eq ∧ FloatKind.f64.format.order u.2 0 = some .eq ∧ FloatKind.f64.format.order t.1 s = some .eq ∧ FloatKind.f64.format.order t.2 0 = some .eq := by
  have ha' : (l.map cn).all fin = true := by
    rw [List.all_map]
    have e : (fin ∘ cn) = fin := funext fun b => fin_cn b
    rw [e]; exact ha
  have e1 : (rl l).map cnp = (l.map cn).map fun b => ((b, 0) : CB) := by
    unfold rl
    rw [List.map_map, List.map_map]
    refine List.map_congr_left fun b _ => ?_
    show (cn b, cn 0) = (cn b, 0)
    rw [cn_zero]
  have e2 : cnp (x, 0) = (cn x, 0) := by show (cn x, cn 0) = _; rw [cn_zero]
  rw [e1, e2] at hu ht
  obtain ⟨r1, r2, r3, r4⟩ := real_law (x := cn x) (by rw [fin_cn]; exact hx) (l.map cn) hf ha'
  obtain ⟨f1, f2⟩ := rv_fin hf ha'
  rw [← hu] at r1 r2
  rw [← ht] at r3 r4
  rw [← hvv] at r1 f1
  rw [← hss] at r3 f2
  have c1 : ev u.1 = ev v := by rw [← ev_cn u.1, ← ev_cn v]; exact r1
  have c2 : ev u.2 = .num 0 := by rw [← ev_cn u.2]; exact r2
  have c3 : ev t.1 = ev s := by rw [← ev_cn t.1, ← ev_cn s]; exact r3
  have c4 : ev t.2 = .num 0 := by rw [← ev_cn t.2]; exact r4
  rw [fin_cn] at f1 f2
  have fu : fin u.1 = true := fin_of_ev (c1.trans (ev_fin f1))
  have ft : fin t.1 = true := fin_of_ev (c3.trans (ev_fin f2))
  exact ⟨order_eq_of_ev c1 (not_nan_of_fin fu), order_eq_of_ev (c2.trans ev_0.symm) (not_nan_of_fin (fin_of_ev c2)), order_eq_of_ev c3 (not_nan_of_fin ft), order_eq_of_ev (c4.trans ev_0.symm) (not_nan_of_fin (fin_of_ev c4))⟩
end SurdFp
end Go
namespace Go.Proofs.YtedkhdfcoaanpaaGreatFmt
open Go.RowKit Go.SurdFp

theorem F_nat (x : Nat) (w : World) : Calls Tryz.prog 10 #[.int .u64 (x : Int)] w fun e w' => e = .returned (.float .f64 x) ∧ w = w' := by
  have h := F_any (x : Int) w
  rwa [Int.toNat_natCast] at h
set_option maxRecDepth 100000 in
set_option maxHeartbeats 8000000 in
theorem Real_nil (p : Addr) (x : Nat) (w : World) (g : Env p w) :
    Calls Tryz.prog 4 #[.slice none 0 0, .int .u64 (x : Int)] w fun e w' => e = .returned (.bool true) ∧ Below w.heap.size w w' := by
  go_enter Tryz.func4, Tryz.ntmps4
  go_wp2_with (fail)
  refine (awake_true p w g).mono ?_
  rintro e w1 ⟨rfl, B1⟩
  go_wp2_with (fail)
  refine (F_nat x _).mono ?_
  rintro e w2 ⟨rfl, rfl⟩
  go_wp2
  go_ret
  exact ⟨rfl, B1⟩

set_option maxRecDepth 100000 in
set_option maxHeartbeats 8000000 in
theorem Real_any (p : Addr) (a : Addr) (cap : Nat) (l : List Nat) (x : Nat) (hx64 : x < 2 ^ 64) (w : World) (g : Env p w)
    (hl : ∀ j (hj : j < l.length), w.cell? (a.add j) = some (.int .u64 (l[j] : Nat))) :
    Calls Tryz.prog 4 #[.slice (some a) l.length cap, .int .u64 (x : Int)] w fun e w' => e = .returned (.bool true) ∧ Below w.heap.size w w' := by
  obtain ⟨i0, hi, hz0, hz1, hz2⟩ := info_complex
  have kf := fun u => Finite_any x 0 u
  have ef : finC (x, 0) = fin x := by
    show (fin x && fin 0) = fin x
    rw [fin_0, Bool.and_true]
  rw [ef] at kf
  go_enter Tryz.func4, Tryz.ntmps4
  go_wp2_with (fail)
  refine (awake_true p w g).mono ?_
  rintro e w1 ⟨rfl, B1⟩
  go_wp2_with (fail)
  refine (F_nat x _).mono ?_
  rintro e w2 ⟨rfl, rfl⟩
  by_cases h0 : l.length = 0
  · have g3 : ((l.length : Int) == 0) = true := by rw [beq_iff_eq]; omega
    have g2 : (l.length : Int) = 0 := by omega
    go_wp2
    go_ret
    exact ⟨rfl, B1⟩
  by_cases h65 : 65 < l.length
  · have g3 : ((l.length : Int) == 0) = false := by rw [beq_eq_false_iff_ne]; omega
    have g2 : ¬ (l.length : Int) = 0 := by omega
    have g1 : 65 < (l.length : Int) := by omega
    go_wp2
    go_ret
    exact ⟨rfl, B1⟩
  have g3 : ((l.length : Int) == 0) = false := by rw [beq_eq_false_iff_ne]; omega
  have g2 : ¬ (l.length : Int) = 0 := by omega
  have g1 : ¬ 65 < (l.length : Int) := by omega
  go_wp2_with (fail)
  refine (kf _).mono ?_
  rintro e w2 ⟨rfl, D2⟩
  have B2 := below_dr B1 D2
  cases hx : fin x
  · go_wp2
    go_ret
    exact ⟨rfl, B2⟩
  go_wp2_with (fail)
  go_loopw [6, 7] (fun o i wr => ∃ k : Nat, k ≤ l.length ∧ i = .int .i64 (k : Int) ∧ wr.ownsRow w.heap.size 28 1 o k ((rl (l.take k)).map cval) ∧ Below w.heap.size w wr)
    (fun _ i _ => l.length - (intOf i).toNat)
  case atStart => exact ⟨0, Nat.zero_le _, rfl, World.ownsRow_nil _ _ _ _, B2⟩
  case round =>
    obtain ⟨k, hk, rfl, ho, hB⟩ := hrel
    have hcell : ∀ {w' : World}, Below w.heap.size w w' → ∀ j (hj : j < l.length), w'.cell? (a.add j) = some (.int .u64 (l[j] : Nat)) := fun B j hj =>
      (B.cell (p := a.add j) (by
        have := World.block_lt_of_cell? w _ (hl j hj)
        exact this)).trans (hl j hj)
    by_cases hltk : k < l.length
    · have hlt' : (k : Int) < l.length := by omega
      have c0 := hcell hB k hltk
      have e0 : l.take (k + 1) = l.take k ++ [l[k]] := List.take_succ_eq_append_getElem hltk
      go_wp2_with (fail)
      refine (F_nat l[k] _).mono ?_
      rintro e w3 ⟨rfl, rfl⟩
      have hbase : w.heap.size ≤ wr.heap.size := hB.size
      go_wp2_with (at_builtin; go_must (refine wpList_append_lies _ rfl _ _ 25 rfl w.heap.size 28 i0 (.complex .f64 0 0) 1 16 Tryz.underlying25 hi hz0 hz1 hz2 rfl (by decide) u6 k _ rfl (ho.alloc _) ⟨wr.heap.size, 0, none⟩ 1 1 [cval (l[k], 0)] rfl rfl (World.news_of_block (heap_alloc_new _ _ _ rfl)) (fun u hu => one_cells u _ hu) (by decide) (by simp only [maxLen]; omega) (by omega) (by simp; omega) _ rfl ?_); intro g' cap' w4 hown hgrow hat hlt4)
      have B4 : Below w.heap.size w w4 := (hB.alloc hbase _).grown hgrow (by simp; omega) (fun q hq => (World.ownsRow.lt ho q hq).1)
      go_wp2_with (fail)
      go_roundw
      case rel =>
        refine ⟨k + 1, by omega, by go_num, ?_, B4⟩
        have e5 : rl (l.take k ++ [l[k]]) = rl (l.take k) ++ [(l[k], 0)] := List.map_append
        rw [e0, e5, List.map_append]
        exact hown
      case measure => simp [intOf]; omega
    · have ek : k = l.length := by omega
      subst ek
      have he : ¬ ((l.length : Int) < l.length) := by omega
      rw [List.take_length] at ho
      have Ra : Row w.heap.size wr u6 (rl l) := by
        show wr.ownsRow _ _ 1 u6 (rl l).length _
        rw [show (rl l).length = l.length from by simp [rl]]; exact ho
      have hcW := hcell hB
      rename World => WA
      have hlast : WA.cell? (a.add (l.length - 1)) = some (.int .u64 ((l[l.length - 1]'(by omega)) : Nat)) := hcell hB (l.length - 1) (by omega)
      go_wp2_with (fail)
      refine (F_nat (l[l.length - 1]'(by omega)) _).mono ?_
      rintro e w3 ⟨rfl, rfl⟩
      have hm := fun x y w => run_fop (P := Tryz.prog) .mul (by simp) 27 x y w
      have ha := fun x y w => run_fop (P := Tryz.prog) .add (by simp) 27 x y w
      go_wp2_with (fail)
      go_loopw [8, 9, 10] (fun v s i wq => ∃ vb sb : Nat, v = .float .f64 vb ∧ s = .float .f64 sb ∧ Dr WA wq ∧
          ((i = .int .i64 (-1) ∧ cn vb = rv (l.map cn) (cn x) ∧ cn sb = rs (l.map cn) (cn x) ∧ rfin (l.map cn) (cn x) = true) ∨
           ∃ m : Nat, m + 1 < l.length ∧ i = .int .i64 (m : Int) ∧ cn vb = rv ((l.drop (m + 1)).map cn) (cn x) ∧ cn sb = rs ((l.drop (m + 1)).map cn) (cn x) ∧ rfin ((l.drop (m + 1)).map cn) (cn x) = true))
        (fun _ _ i _ => (intOf i + 1).toNat)
      case atStart =>
        have hd : l.drop (l.length - 1) = [l[l.length - 1]'(by omega)] := by
          rw [List.drop_eq_getElem_cons (show l.length - 1 < l.length by omega)]
          congr 1
          rw [List.drop_eq_nil_iff]; omega
        have j1 : cn (l[l.length - 1]'(by omega)) = rv ((l.drop (l.length - 1)).map cn) (cn x) := by rw [hd]; rfl
        have j2 : cn 0 = rs ((l.drop (l.length - 1)).map cn) (cn x) := by rw [hd]; exact cn_zero
        have j3 : rfin ((l.drop (l.length - 1)).map cn) (cn x) = true := by rw [hd]; rfl
        refine ⟨_, 0, rfl, rfl, Dr.refl _, ?_⟩
        by_cases he1 : l.length = 1
        · have e : l.drop (l.length - 1) = l := by rw [he1]; rfl
          rw [e] at j1 j2 j3
          exact .inl ⟨by congr 1; omega, j1, j2, j3⟩
        · have e : l.length - 2 + 1 = l.length - 1 := by omega
          exact .inr ⟨l.length - 2, by omega, by congr 1; omega, by rw [e]; exact j1, by rw [e]; exact j2, by rw [e]; exact j3⟩
      case round =>
        obtain ⟨vb, sb, rfl, rfl, hD, ⟨rfl, q1, q2, q3⟩ | ⟨m, hmm, rfl, q1, q2, q3⟩⟩ := hrel
        · have Rq := Ra.dr hD
          have Bq := below_dr hB hD
          obtain ⟨ao, cc, rfl, hnil | ⟨r, rfl, _, hr, hcr⟩⟩ := Rq.form
          · exact absurd (congrArg List.length hnil) (by rw [show (rl l).length = l.length from by simp [rl]]; exact h0)
          have hlen : (rl l).length = l.length := by simp [rl]
          have kfin := finite_any r cc (rl l) wr (by omega) hcr
          have HQ : Hid _ := And.intro q1 (And.intro q2 (And.intro q3 (And.intro hcr hlen)))
          clear q1 q2 q3 hcr hlen hcW hcell hlast hl
          go_wp2_with (fail)
          refine kfin.mono ?_
          rintro e w5 ⟨rfl, D5⟩
          have hfa : (rl l).all finC = l.all fin := by
            unfold rl
            rw [List.all_map]
            congr 1
            funext b
            show (fin b && fin 0) = fin b
            rw [fin_0, Bool.and_true]
          rw [hfa]
          cases hf : l.all fin
          · go_wp2
            go_ret
            exact ⟨rfl, below_dr Bq D5⟩
          obtain ⟨q1, q2, q3, hcr, hlen⟩ := HQ.out
          have hcr5 : ∀ j (hj : j < (rl l).length), w5.cell? ⟨r, j, none⟩ = some (.complex .f64 (rl l)[j].1 (rl l)[j].2) := fun j hj => (dr_cell D5 _).trans (hcr j hj)
          have B5 := below_dr Bq D5
          have kboth := Both_any r cc (rl l) (x, 0) ⟨hx64, (by decide : (0 : Nat) < 2 ^ 64)⟩ w5 (by omega) (by omega) hcr5
          have HQ2 : Hid _ := And.intro q1 (And.intro q2 (And.intro q3 (And.intro hcr5 hlen)))
          clear q1 q2 q3 hcr hcr5 hlen HQ
          go_wp2_with (fail)
          refine kboth.mono ?_
          rintro e w6 ⟨⟨u1, u2⟩, ⟨t1, t2⟩, rfl, hu, ht, B6⟩
          obtain ⟨q1, q2, q3, hcr5, hlen⟩ := HQ2.out
          have hr5 : r < w5.heap.size := lt_of_cell (hcr5 0 (by omega))
          have T6 := B5.trans (B6.mono B5.size)
          have kval := Value_any r cc (rl l) (x, 0) ⟨hx64, (by decide : (0 : Nat) < 2 ^ 64)⟩ w6 (by omega) (by omega) (fun j hj => (B6.cell (p := ⟨r, j, none⟩) hr5).trans (hcr5 j hj))
          have HQ3 : Hid _ := And.intro q1 (And.intro q2 (And.intro q3 (And.intro hu ht)))
          clear q1 q2 q3 hcr5 hlen HQ2 hu ht kboth
          go_wp2_with (fail)
          refine kval.mono ?_
          rintro e w7 ⟨⟨y1, y2⟩, rfl, hy, B7⟩
          have T7 := T6.trans (B7.mono T6.size)
          obtain ⟨q1, q2, q3, hu, ht⟩ := HQ3.out
          clear HQ3 kval
          obtain ⟨o1, o2, o3, o4⟩ := real_end (v := vb) (s := sb) hx q3 hf hu ht q1 q2
          have kc : ∀ w, Calls Tryz.prog 14 #[.complex .f64 u1 u2, .complex .f64 y1 y2] w fun e w' => e = .returned (.bool true) ∧ w = w' := fun w => by
            have h := SameC_any u1 u2 y1 y2 w
            rw [decide_eq_true (hu.trans hy.symm)] at h; exact h
          dsimp only at o1 o2 o3 o4
          have p1 : (FloatKind.f64.format.order u1 vb == some .eq) = true := by rw [o1]; rfl
          have p2 : (FloatKind.f64.format.order u2 0 == some .eq) = true := by rw [o2]; rfl
          have p3 : (FloatKind.f64.format.order t1 sb == some .eq) = true := by rw [o3]; rfl
          have p4 : (FloatKind.f64.format.order t2 0 == some .eq) = true := by rw [o4]; rfl
          clear hu ht hy q1 q2 q3 B6 B7 o1 o2 o3 o4
          go_wp2_with (go_at_call 9; refine (Num_any _ _).mono ?_; rintro e w' ⟨rfl, rfl⟩)
          refine (kc _).mono ?_
          rintro e w' ⟨rfl, rfl⟩
          go_wp2
          go_ret
          exact ⟨rfl, T7⟩
        · have hlt' : (m : Int) < l.length := by omega
          have c0 : ∀ {w' : World}, Dr WA w' → w'.cell? (a.add m) = some (.int .u64 ((l[m]'(by omega)) : Nat)) := fun D => (dr_cell D _).trans (hcW m (by omega))
          have D2 : Dr WA (fdr .add (fres .mul sb x wr) vb (fdr .mul sb x wr)) := (hD.step .mul sb x).step .add _ _
          have es : cn (fres .add (fres .mul sb x wr) vb (fdr .mul sb x wr)) = rs ((l.drop m).map cn) (cn x) := by
            rw [cn_fres (op := .add) (.inl rfl), cn_fres (op := .mul) (.inr (.inr rfl)), q1, q2, rs_drop l (cn x) m hmm]
          obtain ⟨S, hS⟩ : ∃ S, fres .add (fres .mul sb x wr) vb (fdr .mul sb x wr) = S := ⟨_, rfl⟩
          obtain ⟨W2, hW2⟩ : ∃ W2, fdr .add (fres .mul sb x wr) vb (fdr .mul sb x wr) = W2 := ⟨_, rfl⟩
          rw [hS] at es
          rw [hW2] at D2
          have D3 : Dr WA (fdr .mul vb x W2) := D2.step .mul vb x
          have c3 := c0 D3
          have ev3 : cn (fres .mul vb x W2) = fop .mul (rv ((l.drop (m + 1)).map cn) (cn x)) (cn x) := by
            rw [cn_fres (op := .mul) (.inr (.inr rfl)), q1]
          obtain ⟨M3, hM3⟩ : ∃ M3, fres .mul vb x W2 = M3 := ⟨_, rfl⟩
          obtain ⟨W3, hW3⟩ : ∃ W3, fdr .mul vb x W2 = W3 := ⟨_, rfl⟩
          rw [hM3] at ev3
          rw [hW3] at D3 c3
          go_wp2_with (fail)
          refine (F_nat (l[m]'(by omega)) _).mono ?_
          rintro e w5 ⟨rfl, rfl⟩
          clear hS hW2 hM3 hW3
          have ev4 : cn (fres .add M3 (l[m]'(by omega)) W3) = rv ((l.drop m).map cn) (cn x) := by
            rw [cn_fres (op := .add) (.inl rfl), ev3, rv_drop l (cn x) m hmm]
          have D4 : Dr WA (fdr .add M3 (l[m]'(by omega)) W3) := D3.step .add _ _
          obtain ⟨V4, hV4⟩ : ∃ V4, fres .add M3 (l[m]'(by omega)) W3 = V4 := ⟨_, rfl⟩
          obtain ⟨W4, hW4⟩ : ∃ W4, fdr .add M3 (l[m]'(by omega)) W3 = W4 := ⟨_, rfl⟩
          rw [hV4] at ev4
          rw [hW4] at D4
          go_wp2_with (fail)
          refine (Finite_any V4 S _).mono ?_
          rintro e w6 ⟨rfl, D6⟩
          clear hV4 hW4
          have D7 := D4.trans D6
          cases hfin : finC (V4, S)
          · go_wp2
            go_ret
            exact ⟨rfl, below_dr hB D7⟩
          have hff : rfin ((l.drop m).map cn) (cn x) = true := by
            rw [rfin_drop l (cn x) m hmm, q3, ← ev4, ← es, fin_cn, fin_cn]
            exact hfin
          go_wp2_with (fail)
          go_roundw
          case rel =>
            refine ⟨V4, S, rfl, rfl, D7, ?_⟩
            by_cases h00 : m = 0
            · subst h00
              exact .inl ⟨by simp, ev4, es, hff⟩
            · have e : m - 1 + 1 = m := by omega
              exact .inr ⟨m - 1, by omega, by first | (congr 1; omega) | go_num, by rw [e]; exact ev4, by rw [e]; exact es, by rw [e]; exact hff⟩
          case measure => simp [intOf]
end Go.Proofs.YtedkhdfcoaanpaaGreatFmt
