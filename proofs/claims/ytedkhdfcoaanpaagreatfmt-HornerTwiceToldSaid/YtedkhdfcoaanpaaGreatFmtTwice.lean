/- surdlaw16.HornerTwice. Condition: what the walk reads of package-level variables. -/
import Derived.Test.YtedkhdfcoaanpaaGreatFmtAwake
import Derived.Test.YtedkhdfcoaanpaaGreatFmtSmall
namespace Go.Proofs.YtedkhdfcoaanpaaGreatFmt
open Go.RowKit Go.SurdFp

theorem wpList_append_g {P : Program} (w : World) {ops : Array Oper} {rest : List Oper} {o : Oper} {a : Act} {Q : Exit → Act → World → Prop} (hw : Region.wanted o (yielded ops a.tmps) = true) (s x : Operand) (t : TypeId)
    (ho : o.op = .call { callee := .builtin .append, args := #[s, x], argTypes := #[t, t] })
    (base : Nat) (e : TypeId) (i : TypeInfo) (z : Value) (size bytes : Nat) (ht : P.underlying t = some (.slice e)) (hi : P.info? e = some i) (hz : i.zero = some z)
    (hsize : i.size = size) (hby : i.bytes = bytes) (hzs : z.cells.size = size) (hsz : 0 < size)
    (v : Value) (n : Nat) (xs : List Value) (hs : a.eval s = v) (hown : w.ownsRow base e size v n xs)
    (ad : Addr) (m c : Nat) (news : List Value) (hx : a.eval x = .slice (some ad) m c) (hl : news.length = m * size) (hnews : ∀ j u, news[j]? = some u → w.cell? (ad.add j) = some u) (h1 : ∀ u ∈ news, u.oneCell' = true)
    (hm : 0 < m) (h63 : n + m ≤ maxLen) (hbytes : (n + m) * bytes ≤ 140737488355328) (hbase : base ≤ w.heap.size) (H : Nat) (hH : w.heap.size = H)
    (h : ∀ g cap w', w'.ownsRow base e size (.slice (some ⟨g, 0, none⟩) (n + m) cap) (n + m) (xs ++ news) → w.grownBy w' v.ownBlock → (v.ownBlock = some g ∨ g = H) → g < w'.heap.size → wpList P ops Q rest (a.put o.dst (.slice (some ⟨g, 0, none⟩) (n + m) cap)) w') : wpList P ops Q (o :: rest) a w := by
  unfold wpList
  rw [if_pos hw]
  exact .inl (wp_append_lies w s x t ho base e i z size bytes ht hi hz hsize hby hzs hsz v n xs hs hown ad m c news hx hl hnews h1 hm h63 hbytes hbase H hH h)
theorem own_dr {base n : Nat} {t : TypeId} {w w' : World} {v : Value} {xs : List Value} (h : w.ownsRow base t 1 v n xs) (D : Dr w w') : w'.ownsRow base t 1 v n xs := by
  obtain ⟨m, rfl⟩ := D; exact h

set_option maxRecDepth 100000 in
set_option maxHeartbeats 8000000 in
theorem Twice_any (p : Addr) (cv : Value) (l : List CB) (re im : Nat) (b : Int) (w : World) (g : Env p w) (hz : LtC (re, im)) (h2 : l.length * 16 ≤ 140737488355328) (hc : Arg cv l w) :
    Calls Tryz.prog 5 #[cv, .agg #[.int .u64 (re : Int), .int .u64 (im : Int)], .int .i64 b] w fun e w' => e = .returned (.bool true) ∧ Below w.heap.size w w' := by
  obtain ⟨i0, hi, hz0, hz1, hz2⟩ := info_complex
  obtain ⟨A, hA⟩ : ∃ A, w.alloc (.cells #[.int .u64 (re : Int), .int .u64 (im : Int)] 45) = A := ⟨_, rfl⟩
  have nA : A.heap[w.heap.size]? = some (.cells #[.int .u64 (re : Int), .int .u64 (im : Int)] 45 (0, 0)) := by rw [← hA]; exact heap_alloc_new _ _ _ rfl
  have bA : Below w.heap.size w A := by rw [← hA]; exact (Below.refl w.heap.size w).alloc (Nat.le_refl _) _
  have gA : Env p A := g.below bA (Nat.le_refl _)
  have cA := hc.below bA (Nat.le_refl _)
  have ltA : w.heap.size < A.heap.size := lt_of_cell (cell_of_block (o := 0) nA rfl)
  go_enter Tryz.func5, Tryz.ntmps5
  go_wp2_with (fail)
  refine (awake_true p A gA).mono ?_
  rintro e w1 ⟨rfl, B1⟩
  have n1 := (B1.block _ ltA).trans nA
  have T1 := bA.trans (B1.mono bA.size)
  clear hA
  go_wp2_with (fail)
  refine (Cs_arg (cA.below B1 (Nat.le_refl _)) h2).mono ?_
  rintro e w2 ⟨u, rfl, hu, hun, B2⟩
  have n2 := (B2.block _ (Nat.lt_of_lt_of_le ltA B1.size)).trans n1
  have T2 := T1.trans (B2.mono T1.size)
  have d0 := cell_of_block (o := 0) n2 rfl
  have d1 := cell_of_block (o := 1) n2 rfl
  have R2 : Row w1.heap.size w2 u l := hu
  go_wp2_with (fail)
  refine (C_nat re im _).mono ?_
  rintro e w3 ⟨rfl, rfl⟩
  obtain ⟨ao, cap, hue, hform⟩ := R2.form
  by_cases h5 : 5 < l.length
  · subst hue
    have g1 : 5 < (l.length : Int) := by omega
    go_wp2
    go_ret
    exact ⟨rfl, T2⟩
  have g1 : ¬ 5 < (l.length : Int) := by omega
  subst hue
  clear n1 n2 d0 d1 nA
  go_wp2_with (fail)
  refine (CopyNums_row _ R2 hun (by omega)).mono ?_
  rintro e w3 ⟨u3, rfl, R3, B3⟩
  have Ra3 := R2.later B3
  have T3 := T2.trans (B3.mono T2.size)
  have ho3 : w3.ownsRow w2.heap.size 28 1 u3 l.length (l.map cval) := R3
  go_wp2_with (at_builtin; go_must (refine wpList_append_g _ (by simp [Region.wanted, yielded]; omega) _ _ 25 rfl w2.heap.size 28 i0 (.complex .f64 0 0) 1 16 Tryz.underlying25 hi hz0 hz1 hz2 rfl (by decide) u3 l.length _ rfl (ho3.alloc _) ⟨w3.heap.size, 0, none⟩ 1 1 [cval (re, im)] rfl rfl (World.news_of_block (heap_alloc_new _ _ _ rfl)) (fun u hu => one_cells u _ hu) (by decide) (by simp only [maxLen]; omega) (by omega) (by have := B3.size; simp; omega) _ rfl ?_); intro g4 cap4 w4 hown4 hgrow4 hat4 hlt4)
  have B4 : Below w2.heap.size w2 w4 := (B3.alloc B3.size _).grown hgrow4 (by have := B3.size; simp; omega) (fun q hq => (World.ownsRow.lt ho3 q hq).1)
  have Ra4 := R2.later B4
  have T4 := T2.trans (B4.mono T2.size)
  have hl4 : ∀ j (hj : j < (l ++ [(re, im)]).length), w4.cell? ⟨g4, j, none⟩ = some (.complex .f64 (l ++ [(re, im)])[j].1 (l ++ [(re, im)])[j].2) := by
    refine row_cells (cap := cap4) (base := w2.heap.size) (t := 28) ?_
    have e1 : (l ++ [(re, im)]).length = l.length + 1 := by simp
    have e2 : (l ++ [(re, im)]).map cval = l.map cval ++ [cval (re, im)] := by simp
    rw [e1, e2]; exact hown4
  have ks := small_any g4 cap4 (l ++ [(re, im)]) w4 (by simp; omega) hl4
  rw [show (l ++ [(re, im)]).length = l.length + 1 from by simp] at ks
  go_wp2_with (fail)
  refine ks.mono ?_
  rintro e w5 ⟨rfl, B5⟩
  have Ra5 := Ra4.later B5
  have B25 : Below w2.heap.size w2 w5 := B4.trans (B5.mono B4.size)
  have T5 := T4.trans (B5.mono T4.size)
  clear ks hl4 hown4 hgrow4 hat4 ho3 R3
  cases hsm : (l ++ [((re, im) : CB)]).all smallC
  · go_wp2
    go_ret
    exact ⟨rfl, T5⟩
  have hsl : ∀ c ∈ l, smallC c = true := fun c hc => List.all_eq_true.1 hsm c (List.mem_append_left _ hc)
  have hsz : smallC (re, im) = true := List.all_eq_true.1 hsm _ (List.mem_append_right _ (by simp))
  have hb63 := i64_and63 b
  obtain ⟨kk, hkk⟩ : ∃ kk, bits .and .i64 b 63 = kk := ⟨_, rfl⟩
  have hk0 : 0 ≤ kk ∧ kk < 64 := by rw [← hkk, hb63]; omega
  have hsub : IntKind.i64.wrap (kk - 32) = kk - 32 := by rw [IntKind.wrap_i64]; omega
  clear hb63
  have pw0 : (4607182418800017408 : Nat) = pw 1023 := by decide
  have dbl : ∀ m : Nat, m < 32 → ∀ w, (binOp .mul 27 (.float .f64 4611686018427387904) (.float .f64 (pw (1023 + m)))).run Tryz.prog w = .ok (.float .f64 (pw (1023 + m + 1))) w := fun m hm w => by
    have h := double_pw (32 + m) (by omega)
    rw [show 991 + (32 + m) = 1023 + m from by omega, show 992 + (32 + m) = 1023 + m + 1 from by omega] at h
    exact run_float_arith w .mul 27 .f64 _ _ _ h
  have hlf : ∀ m : Nat, m < 32 → ∀ w, (binOp .quo 27 (.float .f64 (pw (1023 - m))) (.float .f64 4611686018427387904)).run Tryz.prog w = .ok (.float .f64 (pw (1023 - (m + 1)))) w := fun m hm w => by
    have h := half_pw (31 - m) (by omega)
    rw [show 992 + (31 - m) = 1023 - m from by omega, show 991 + (31 - m) = 1023 - (m + 1) from by omega] at h
    exact run_float_arith w .quo 27 .f64 _ _ _ h
  go_wp2_with (fail)
  go_loopw [10, 11] (fun pv i wq => ∃ m : Nat, (m : Int) ≤ max (kk - 32) 0 ∧ i = .int .i64 (m : Int) ∧ pv = .float .f64 (pw (1023 + m)) ∧ wq = w5)
    (fun _ i _ => (kk - intOf i).toNat)
  case atStart => exact ⟨0, by omega, rfl, by rw [pw0], rfl⟩
  case round =>
    obtain ⟨m, hm, rfl, rfl, rfl⟩ := hrel
    by_cases hlt : (m : Int) < kk - 32
    · have hd := dbl m (by omega)
      clear dbl hlf
      go_wp2_with (fail)
      go_roundw
      case rel => exact ⟨m + 1, by omega, by go_num, (by first | with_reducible rfl | trivial | simp [Nat.add_assoc]), (by first | rfl | trivial)⟩
      case measure => simp [intOf]; omega
    have hmx : (m : Int) = max (kk - 32) 0 := by omega
    clear dbl
    go_wp2_with (fail)
    go_loopw [10, 12] (fun pv i wq => ∃ q : Nat, (q : Int) ≤ max (32 - kk) 0 ∧ i = .int .i64 (-(q : Int)) ∧ pv = .float .f64 (pw (1023 + m - q)) ∧ wq = wr)
      (fun _ i _ => (32 + intOf i).toNat)
    case atStart => exact ⟨0, by omega, rfl, rfl, rfl⟩
    case round =>
      obtain ⟨q, hq, rfl, rfl, rfl⟩ := hrel
      by_cases hgt : -(q : Int) > kk - 32
      · have hd := hlf q (by omega)
        have hm0 : m = 0 := by omega
        subst hm0
        rw [Nat.add_zero]
        have hw : IntKind.i64.wrap (-(q : Int) - 1) = -(q : Int) - 1 := by rw [IntKind.wrap_i64]; omega
        clear hlf
        go_wp2_with (fail)
        go_roundw
        case rel => exact ⟨q + 1, by omega, by first | (congr 1; omega) | go_num, (by first | with_reducible rfl | simp), (by first | rfl | trivial)⟩
        case measure => simp [intOf]; omega
      clear hlf
      obtain ⟨E, hE⟩ : ∃ E, 1023 + m - q = E := ⟨_, rfl⟩
      have hE1 : (E : Int) = 1023 + (kk - 32) := by omega
      rw [hE]
      have evE := ev_pw E (by omega) (by omega)
      have nnE : nan (pw E) = false := not_nan_of_fin (fin_of_ev evE)
      obtain ⟨P0, hP0⟩ : ∃ P0, pw E = P0 := ⟨_, rfl⟩
      rw [hP0] at evE nnE
      rw [hP0]
      clear hP0 hE pw0
      have hmul := fun x y w => run_fop (P := Tryz.prog) .mul (by simp) 27 x y w
      rename World => WB
      go_wp2_with (fail)
      go_loopw [13, 14, 15] (fun o1 o2 i wq => ∃ k : Nat, k ≤ l.length ∧ i = .int .i64 (k : Int) ∧ Below WB.heap.size WB wq ∧
          (∃ bl : List CB, bl.length = k ∧ bl.map cnp = (l.take k).map (mulp P0) ∧ wq.ownsRow WB.heap.size 28 1 o1 k (bl.map cval)) ∧
          wq.ownsRow WB.heap.size 28 1 o2 k (((List.range k).map fun m => rotB (m % 4) (l.getD m (0, 0))).map cval) ∧
          (o1.ownBlock = none ∨ o1.ownBlock ≠ o2.ownBlock))
        (fun _ _ i _ => l.length - (intOf i).toNat)
      case atStart => exact ⟨0, Nat.zero_le _, rfl, Below.refl _ _, ⟨[], rfl, rfl, World.ownsRow_nil _ _ _ _⟩, World.ownsRow_nil _ _ _ _, .inl rfl⟩
      case round =>
        obtain ⟨k, hk, rfl, hB, ⟨bl, hbl, hbm, ho1⟩, ho2, hdis⟩ := hrel
        by_cases hltk : k < l.length
        · have hlt' : (k : Int) < l.length := by omega
          have g0 : (0 : Int) ≤ k := by omega
          rcases hform with hnil | ⟨r, rfl, hr0, hr, hcr⟩
          · rw [hnil] at hltk; cases hltk
          have hck := hsl l[k] (List.getElem_mem hltk)
          obtain ⟨_, fx, fy, _, _⟩ := cnp_small hck
          have hgd : l.getD k (0, 0) = l[k] := by simp [List.getD, hltk]
          have e0 : l.take (k + 1) = l.take k ++ [l[k]] := List.take_succ_eq_append_getElem hltk
          have er : (List.range (k + 1)).map (fun m => rotB (m % 4) (l.getD m (0, 0))) = (List.range k).map (fun m => rotB (m % 4) (l.getD m (0, 0))) ++ [rotB (k % 4) l[k]] := by
            rw [List.range_succ, List.map_append, List.map_singleton, hgd]
          have c0 : wr.cell? ⟨r, k, none⟩ = some (.complex .f64 l[k].1 l[k].2) := ((hB.cell (p := ⟨r, k, none⟩) (Nat.lt_of_lt_of_le hr B25.size)).trans (B25.cell (p := ⟨r, k, none⟩) hr)).trans (hcr k hltk)
          obtain ⟨c, hcc⟩ : ∃ c, l[k] = c := ⟨_, rfl⟩
          rw [hcc] at hck fx fy e0 er c0
          obtain ⟨x0, y0⟩ := c
          dsimp only at fx fy c0
          have HS : Hid _ := And.intro hsl (And.intro hcr (And.intro e0 (And.intro er (And.intro hcc (And.intro hgd (And.intro hbm hsm))))))
          clear hsl hcr e0 er hcc hgd hbm hsm
          have cnP : cn P0 = P0 := cn_not nnE
          have D1 : Dr wr (fdr .mul P0 x0 wr) := (Dr.refl wr).step .mul P0 x0
          have eX : cn (fres .mul P0 x0 wr) = fop .mul P0 x0 := by
            rw [cn_fres (op := .mul) (.inr (.inr rfl)), cnP, cn_not (not_nan_of_fin fx)]
          obtain ⟨X1, hX1⟩ : ∃ X1, fres .mul P0 x0 wr = X1 := ⟨_, rfl⟩
          obtain ⟨Wa, hWa⟩ : ∃ Wa, fdr .mul P0 x0 wr = Wa := ⟨_, rfl⟩
          rw [hX1] at eX
          rw [hWa] at D1
          have D2 : Dr wr (fdr .mul P0 y0 Wa) := D1.step .mul P0 y0
          have eY : cn (fres .mul P0 y0 Wa) = fop .mul P0 y0 := by
            rw [cn_fres (op := .mul) (.inr (.inr rfl)), cnP, cn_not (not_nan_of_fin fy)]
          obtain ⟨Y1, hY1⟩ : ∃ Y1, fres .mul P0 y0 Wa = Y1 := ⟨_, rfl⟩
          obtain ⟨Wb, hWb⟩ : ∃ Wb, fdr .mul P0 y0 Wa = Wb := ⟨_, rfl⟩
          rw [hY1] at eY
          rw [hWb] at D2
          have ho1b := own_dr ho1 D2
          have ho2b := own_dr ho2 D2
          have hBb := below_dr hB D2
          have hbs := hBb.size
          clear cnP
          have HE : Hid _ := And.intro eX eY
          clear eX eY
          go_wp2_with (at_builtin; go_must (refine wpList_append_lies _ rfl _ _ 25 rfl WB.heap.size 28 i0 (.complex .f64 0 0) 1 16 Tryz.underlying25 hi hz0 hz1 hz2 rfl (by decide) u13 k _ rfl (ho1b.alloc _) ⟨Wb.heap.size, 0, none⟩ 1 1 [cval (X1, Y1)] rfl rfl (World.news_of_block (heap_alloc_new _ _ _ rfl)) (fun u hu => one_cells u _ hu) (by decide) (by simp only [maxLen]; omega) (by omega) (by simp; omega) _ rfl ?_); intro g6 cap6 w6 hown6 hgrow6 hat6 hlt6)
          have hne : u14.ownBlock = none ∨ u14.ownBlock ≠ u13.ownBlock := by
            rcases hdis with h | h
            · cases hh : u14.ownBlock
              · exact .inl rfl
              · exact .inr (by rw [h]; simp)
            · exact .inr (Ne.symm h)
          have ho2c := World.ownsRow.kept (ho2b.alloc (.cells #[cval (X1, Y1)] 28)) hgrow6 hne
          have B6 : Below WB.heap.size WB w6 := (hBb.alloc hbs _).grown hgrow6 (by simp; omega) (fun q hq => (World.ownsRow.lt ho1b q hq).1)
          have hb6 := B6.size
          clear hX1 hWa hY1 hWb
          have hng : u14.ownBlock ≠ some g6 := by
            intro e
            rcases hat6 with h | h
            · rcases hdis with h' | h'
              · rw [h'] at h; cases h
              · exact h' (h.trans e.symm)
            · have := (World.ownsRow.lt ho2b g6 e).2
              rw [h] at this
              simp at this
              omega
          have ho1c : w6.ownsRow WB.heap.size 28 1 (.slice (some ⟨g6, 0, none⟩) (k + 1) cap6) (k + 1) (bl.map cval ++ [cval (X1, Y1)]) := hown6
          clear hown6 hgrow6 hat6 ho1b ho2b ho1 ho2 hne hdis D1 D2 hBb hB c0
          have hb3 : bits .and .i64 (k : Int) 3 = ((k % 4 : Nat) : Int) := by
            have h : ∀ k : Nat, k < 5 → bits .and .i64 (k : Int) 3 = ((k % 4 : Nat) : Int) := by decide
            exact h k (by omega)
          obtain ⟨q4, hq4⟩ : ∃ q4, k % 4 = q4 := ⟨_, rfl⟩
          rw [hq4] at hb3
          have hq4lt : q4 < 4 := by rw [← hq4]; omega
          have HQ4 : Hid _ := hq4
          clear hq4
          go_wp2_with (fail)
          go_loopw [16, 17, 18] (fun xv yv j wq => ∃ m : Nat, m ≤ q4 ∧ j = .int .i64 (m : Int) ∧ xv = .float .f64 (rotB m (x0, y0)).1 ∧ yv = .float .f64 (rotB m (x0, y0)).2 ∧
              wq.ownsRow WB.heap.size 28 1 (.slice (some ⟨g6, 0, none⟩) (k + 1) cap6) (k + 1) (bl.map cval ++ [cval (X1, Y1)]) ∧
              wq.ownsRow WB.heap.size 28 1 u14 k (((List.range k).map fun m => rotB (m % 4) (l.getD m (0, 0))).map cval) ∧ Below WB.heap.size WB wq ∧ g6 < wq.heap.size)
            (fun _ _ j _ => q4 - (intOf j).toNat)
          case atStart => exact ⟨0, by omega, rfl, rfl, rfl, ho1c, ho2c, B6, hlt6⟩
          case round =>
            obtain ⟨m, hm4, rfl, rfl, rfl, ho1d, ho2d, B7, hlt7⟩ := hrel
            obtain ⟨⟨xm, ym⟩, hrm⟩ : ∃ c, rotB m (x0, y0) = c := ⟨_, rfl⟩
            by_cases hm5 : m < q4
            · have hm6 : (m : Int) < (q4 : Int) := by omega
              rw [hrm]
              have HR : Hid _ := And.intro ho1d (And.intro ho2d (And.intro B7 (And.intro hlt7 hrm)))
              clear ho1d ho2d B7 hlt7 hrm ho1c ho2c B6 hlt6
              go_wp2_with (fail)
              go_roundw
              case rel =>
                obtain ⟨ho1d, ho2d, B7, hlt7, hrm⟩ := HR.out
                exact ⟨m + 1, by omega, by go_num, by show _ = Value.float .f64 (rotB m (x0, y0)).2; rw [hrm], by show _ = Value.float .f64 (ngF (rotB m (x0, y0)).1); rw [hrm], ho1d, ho2d, B7, hlt7⟩
              case measure => simp [intOf]; omega
            · have hm6 : ¬ (m : Int) < (q4 : Int) := by omega
              have hmq : m = q4 := by omega
              rw [hrm]
              have hbs7 := B7.size
              go_wp2_with (at_builtin; go_must (refine wpList_append_lies _ rfl _ _ 25 rfl WB.heap.size 28 i0 (.complex .f64 0 0) 1 16 Tryz.underlying25 hi hz0 hz1 hz2 rfl (by decide) u14 k _ rfl (ho2d.alloc _) ⟨wr.heap.size, 0, none⟩ 1 1 [cval (xm, ym)] rfl rfl (World.news_of_block (heap_alloc_new _ _ _ rfl)) (fun u hu => one_cells u _ hu) (by decide) (by simp only [maxLen]; omega) (by omega) (by simp; omega) _ rfl ?_); intro g8 cap8 w8 hown8 hgrow8 hat8 hlt8)
              have ho1e := World.ownsRow.kept (ho1d.alloc (.cells #[cval (xm, ym)] 28)) hgrow8 (.inr (by rw [show (Value.slice (some ⟨g6, 0, none⟩) (k + 1) cap6).ownBlock = some g6 from rfl]; exact Ne.symm hng))
              have B8 : Below WB.heap.size WB w8 := (B7.alloc hbs7 _).grown hgrow8 (by simp; omega) (fun q hq => (World.ownsRow.lt ho2d q hq).1)
              have hd8 : (Value.slice (some ⟨g6, 0, none⟩) (k + 1) cap6).ownBlock ≠ (Value.slice (some ⟨g8, 0, none⟩) (k + 1) cap8).ownBlock := by
                show some g6 ≠ some g8
                intro e
                rcases hat8 with h | h
                · exact hng (h.trans e.symm)
                · injection e with e
                  rw [← e] at h
                  simp at h
                  omega
              have HR : Hid _ := And.intro ho1e (And.intro hown8 (And.intro B8 (And.intro hd8 (And.intro hrm hmq))))
              clear ho1d ho2d B7 hlt7 hrm ho1c ho2c B6 hlt6 hgrow8 hat8 hlt8 hown8 ho1e B8 hd8 hmq
              go_wp2_with (fail)
              go_roundw
              case rel =>
                obtain ⟨ho1e, hown8, B8, hd8, hrm, hmq⟩ := HR.out
                obtain ⟨hsl, hcr, e0, er, hcc, hgd, hbm, hsm⟩ := HS.out
                obtain ⟨eX, eY⟩ := HE.out
                refine ⟨k + 1, by omega, by go_num, B8, ⟨bl ++ [(X1, Y1)], by simp [hbl], ?_, ?_⟩, ?_, .inr hd8⟩
                · rw [e0, List.map_append, List.map_append, hbm]
                  congr 1
                  show [(cn X1, cn Y1)] = [(fop .mul P0 x0, fop .mul P0 y0)]
                  rw [eX, eY]
                · rw [List.map_append]; exact ho1e
                · rw [er, List.map_append, HQ4.out, ← hmq, hrm]; exact hown8
              case measure => simp [intOf]; omega
        · have ek : k = l.length := by omega
          subst ek
          have he : ¬ ((l.length : Int) < l.length) := by omega
          rw [List.take_length] at hbm
          have Rb : Row WB.heap.size wr u13 bl := by
            show wr.ownsRow _ _ 1 u13 bl.length _
            rw [hbl]; exact ho1
          obtain ⟨cl, hcl⟩ : ∃ cl : List CB, cl = (List.range l.length).map fun m => rotB (m % 4) (l.getD m (0, 0)) := ⟨_, rfl⟩
          have hcll : cl.length = l.length := by rw [hcl]; simp
          rw [← hcl] at ho2
          have Rc : Row WB.heap.size wr u14 cl := by
            show wr.ownsRow _ _ 1 u14 cl.length _
            rw [hcll]; exact ho2
          have Ra6 := Ra5.later hB
          have T6 := T5.trans (hB.mono T5.size)
          have hP : (2 : Int) ^ (51 + E) * 2 ^ (1023 - E) = 2 ^ (1074 + (E - 1023)) := by
            rw [← Int.pow_add]; congr 1; omega
          have HS : Hid _ := And.intro hsl (And.intro hbm (And.intro hcl (And.intro hP (And.intro evE (And.intro hsm hsz)))))
          clear hsl hbm hcl hP evE hsm ho1 ho2 hform hu hdis hsz
          go_wp2_with (fail)
          refine (CopyNums_row _ Ra6 hun (by omega)).mono ?_
          rintro e w8 ⟨u8, rfl, R8, B8⟩
          have Vb8 := Rb.vals.later B8
          have Vc8 := Rc.vals.later B8
          have T8 := T6.trans (B8.mono T6.size)
          go_wp2_with (fail)
          refine (Both_row R8.vals (by omega) (re, im) hz).mono ?_
          rintro e w9 ⟨⟨v1, v2⟩, ⟨s1, s2⟩, rfl, hv', hs', B9⟩
          have Vb9 := Vb8.later B9
          have Vc9 := Vc8.later B9
          have T9 := T8.trans (B9.mono T8.size)
          have HV : Hid _ := And.intro hv' hs'
          clear hv' hs'
          go_wp2_with (fail)
          refine (Both_row Vb9 (by omega) (re, im) hz).mono ?_
          rintro e w10 ⟨⟨a1, a2⟩, ⟨t1, t2⟩, rfl, hua, hta, B10⟩
          have Vc10 := Vc9.later B10
          have T10 := T9.trans (B10.mono T9.size)
          have HU : Hid _ := And.intro hua hta
          clear hua hta
          go_wp2_with (fail)
          refine (Value_row Vc10 (by omega) (ngF im, re) ⟨ngF_lt hz.2, hz.1⟩).mono ?_
          rintro e w11 ⟨⟨y1, y2⟩, rfl, hy, B11⟩
          have T11 := T10.trans (B11.mono T10.size)
          have cnP : cn P0 = P0 := cn_not nnE
          obtain ⟨r1, hr1⟩ : ∃ r, fres .mul P0 v1 w11 = r := ⟨_, rfl⟩
          obtain ⟨W1, hW1⟩ : ∃ W, fdr .mul P0 v1 w11 = W := ⟨_, rfl⟩
          obtain ⟨r2, hr2⟩ : ∃ r, fres .mul P0 v2 W1 = r := ⟨_, rfl⟩
          obtain ⟨W2, hW2⟩ : ∃ W, fdr .mul P0 v2 W1 = W := ⟨_, rfl⟩
          obtain ⟨r3, hr3⟩ : ∃ r, fres .mul P0 s1 W2 = r := ⟨_, rfl⟩
          obtain ⟨W3, hW3⟩ : ∃ W, fdr .mul P0 s1 W2 = W := ⟨_, rfl⟩
          obtain ⟨r4, hr4⟩ : ∃ r, fres .mul P0 s2 W3 = r := ⟨_, rfl⟩
          obtain ⟨W4, hW4⟩ : ∃ W, fdr .mul P0 s2 W3 = W := ⟨_, rfl⟩
          have D4 : Dr w11 W4 := by
            rw [← hW4, ← hW3, ← hW2, ← hW1]
            exact ((((Dr.refl w11).step .mul P0 v1).step .mul P0 v2).step .mul P0 s1).step .mul P0 s2
          obtain ⟨hsl, hbm, hcl, hP, evE, hsm, hsz⟩ := HS.out
          obtain ⟨hv', hs'⟩ := HV.out
          obtain ⟨hua, hta⟩ := HU.out
          obtain ⟨o1, o2, o3, o4, o5, o6⟩ := twice_end (v := (v1, v2)) (s := (s1, s2)) (u := (a1, a2)) (t := (t1, t2)) (w := (y1, y2)) (p := P0) (r1 := r1) (r2 := r2) (r3 := r3) (r4 := r4) (by omega) hsl hsz evE hP (by omega) (by omega) hbm hcl hv' hs' hua hta hy
            (by rw [← hr1]; exact cn_fres (.inr (.inr rfl)) _ _ _) (by rw [← hr2]; exact cn_fres (.inr (.inr rfl)) _ _ _) (by rw [← hr3]; exact cn_fres (.inr (.inr rfl)) _ _ _) (by rw [← hr4]; exact cn_fres (.inr (.inr rfl)) _ _ _)
          dsimp only at o1 o2 o3 o4 o5 o6
          have p1 : (FloatKind.f64.format.order a1 r1 == some .eq) = true := by rw [o1]; rfl
          have p2 : (FloatKind.f64.format.order a2 r2 == some .eq) = true := by rw [o2]; rfl
          have p3 : (FloatKind.f64.format.order t1 r3 == some .eq) = true := by rw [o3]; rfl
          have p4 : (FloatKind.f64.format.order t2 r4 == some .eq) = true := by rw [o4]; rfl
          have p5 : (FloatKind.f64.format.order y1 v1 == some .eq) = true := by rw [o5]; rfl
          have p6 : (FloatKind.f64.format.order y2 v2 == some .eq) = true := by rw [o6]; rfl
          clear hsl hbm hcl hP evE hsm hsz hv' hs' hua hta hy o1 o2 o3 o4 o5 o6 HS HV HU cnP
          go_wp2_with (go_at_call 9; refine (Num_any _ _).mono ?_; rintro e w' ⟨rfl, rfl⟩)
          go_wp2
          go_ret
          exact ⟨rfl, below_dr T11 D4⟩
end Go.Proofs.YtedkhdfcoaanpaaGreatFmt
