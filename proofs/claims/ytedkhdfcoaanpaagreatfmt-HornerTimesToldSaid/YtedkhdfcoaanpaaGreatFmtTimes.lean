/- surdlaw16.HornerTimes. Condition: what the walk reads of package-level variables. -/
import Derived.Test.YtedkhdfcoaanpaaGreatFmtAwake
import Derived.Test.YtedkhdfcoaanpaaGreatFmtGauss
import Derived.Deep.OwnRows
import Derived.BigRegion
namespace Go
namespace SurdFp
theorem fb_of_IZ {op : BinOp} {x y : Nat} {n : Int} (h : IZ (fop op x y) n) : floatBits op .f64 x y = some (fop op x y) := by
  cases hb : floatBits op .f64 x y with
  | some r => simp [fop, hb]
  | none =>
    have e : fop op x y = nanC := by simp [fop, hb]
    rw [e] at h
    unfold IZ at h
    rw [ev_nan nan_nanC] at h; cases h
theorem madeCells_list (n : Nat) : madeCells #[Value.complex .f64 0 0] n = ((List.replicate n ((0, 0) : CB)).map fun c => Value.complex .f64 c.1 c.2).toArray := by
  apply Array.ext
  · simp [madeCells]
  · intro i h1 h2
    simp [madeCells, Nat.mod_one]
/-- what is reached at (i, k): the list of the products' coefficients -/
structure Prods (X Y : List GI) (z : GI) (N i k : Nat) (M : List CB) : Prop where
  len : M.length = N
  ex : ∃ G : List GI, G.length = N ∧ (∀ t (h : t < M.length) (h' : t < G.length), IZC M[t] G[t] ∧ Bd (7938 * (i * Y.length + k)) G[t]) ∧ hvG G z = part X Y z i k
theorem Prods.start (X Y : List GI) (z : GI) (N : Nat) : Prods X Y z N 0 0 (List.replicate N (0, 0)) := by
  refine ⟨by simp, List.replicate N (0, 0), by simp, fun t h h' => ?_, ?_⟩
  · simp only [List.getElem_replicate]
    exact ⟨⟨IZ_zero, IZ_zero⟩, ⟨by simp, by simp⟩⟩
  · rw [hvG_replicate, part_start]
theorem Prods.row {X Y : List GI} {z : GI} {N i : Nat} {M : List CB} (h : Prods X Y z N i Y.length M) (hi : i < X.length) : Prods X Y z N (i + 1) 0 M := by
  obtain ⟨l, G, e1, e2, e3⟩ := h
  refine ⟨l, G, e1, fun t h h' => ⟨(e2 t h h').1, (e2 t h h').2.weak ?_⟩, by rw [e3, part_row X Y z i hi]⟩
  rw [Nat.add_mul, Nat.one_mul, Nat.add_zero]
  exact Nat.le_refl _
theorem Prods.step {X Y : List GI} {z : GI} {N i k : Nat} {M : List CB} (h : Prods X Y z N i k M) (hi : i < X.length) (hk : k < Y.length) (ht : i + k < M.length) {x y : CB} (hx : IZC x X[i]) (hy : IZC y Y[k]) (bx : Bd 63 X[i]) (by' : Bd 63 Y[k])
    (hs : i * Y.length + k < 16) : Prods X Y z N i (k + 1) (M.set (i + k) (cadd M[i + k] (cmul x y))) := by
  obtain ⟨l, G, e1, e2, e3⟩ := h
  have ht' : i + k < G.length := by omega
  have hp := IZC.mul hx hy bx by' (by decide)
  have bp := Bd.mul bx by'
  obtain ⟨m1, m2⟩ := e2 (i + k) ht ht'
  have hb : 7938 * (i * Y.length + k) + 2 * (63 * 63) ≤ 7938 * (i * Y.length + (k + 1)) := by omega
  refine ⟨by simp [l], G.set (i + k) (gadd G[i + k] (gmul X[i] Y[k])), by simp [e1], fun t h h' => ?_, ?_⟩
  · by_cases h0 : i + k = t
    · subst h0
      simp only [List.getElem_set_self]
      exact ⟨m1.add hp m2 bp (by omega), (m2.add bp).weak hb⟩
    · simp only [List.getElem_set_ne h0]
      have := e2 t (by simpa using h) (by simpa using h')
      exact ⟨this.1, this.2.weak (by omega)⟩
  · rw [hvG_set, e3, part_step X Y z i k hi hk]
theorem iz_cnp {c : CB} {g : GI} (h : IZC c g) : IZC (cnp c) g := ⟨h.1.to_cn, h.2.to_cn⟩
theorem hb_63 : ∀ m, m ≤ 4 → hb 63 m ≤ 1759653 := by decide
theorem sizes_63 : ∀ m, m ≤ 4 → hb 63 m < 2 ^ 53 := by decide
/-- the value of a list of small numbers -/
theorem value_iz {l : List (Int × Int)} {z : Int × Int} {u : CB} (hl : l.length ≤ 4) (hu : cnp u = hv ((l.map (gq 64)).map cnp) (cnp (gq 16 z))) :
    IZC u (hvG (l.map (gg 64)) (gg 16 z)) ∧ Bd 1759653 (hvG (l.map (gg 64)) (gg 16 z)) := by
  obtain ⟨h1, h2⟩ := hv_int (iz_cnp (gq_16 z).1) (gq_16 z).2 63 ((l.map (gq 64)).map cnp) (l.map (gg 64)) (by simp) (fun j h h' => by
    simp only [List.getElem_map]
    exact ⟨iz_cnp (gq_64 _).1, (gq_64 _).2⟩) (fun m hm => sizes_63 m (by simp at hm; omega))
  rw [← hu] at h1
  exact ⟨⟨h1.1.cn, h1.2.cn⟩, h2.weak (hb_63 _ (by simpa using hl))⟩
theorem times_end {l1 l2 : List (Int × Int)} {z : Int × Int} {N : Nat} {M : List CB} {u v w : CB} (h1 : l1.length ≤ 4) (h2 : l2.length ≤ 4) (hN : N ≤ 7)
    (hM : Prods (l1.map (gg 64)) (l2.map (gg 64)) (gg 16 z) N l1.length 0 M)
    (hu : cnp u = hv ((l1.map (gq 64)).map cnp) (cnp (gq 16 z))) (hv' : cnp v = hv ((l2.map (gq 64)).map cnp) (cnp (gq 16 z))) (hw : cnp w = hv (M.map cnp) (cnp (gq 16 z))) :
    ∃ a b c d e f g h : Int, IZ (fop .mul u.1 v.1) a ∧ IZ (fop .mul u.2 v.2) b ∧ IZ (fop .sub (fop .mul u.1 v.1) (fop .mul u.2 v.2)) c ∧ IZ (fop .mul u.1 v.2) d ∧ IZ (fop .mul u.2 v.1) e ∧ IZ (fop .add (fop .mul u.1 v.2) (fop .mul u.2 v.1)) f ∧ IZ w.1 g ∧ IZ w.2 h ∧ c = g ∧ f = h := by
  obtain ⟨iu, bu⟩ := value_iz h1 hu
  obtain ⟨iv, bv⟩ := value_iz h2 hv'
  obtain ⟨lM, G, e1, e2, e3⟩ := hM
  have hsz : l1.length * (l2.map (gg 64)).length + 0 ≤ 16 := by
    rw [List.length_map, Nat.add_zero]
    exact Nat.mul_le_mul h1 h2
  obtain ⟨q1, _⟩ := hv_int (iz_cnp (gq_16 z).1) (gq_16 z).2 127008 (M.map cnp) G (by simp [lM, e1]) (fun j h h' => by
    have := e2 j (by simpa using h) h'
    simp only [List.getElem_map]
    exact ⟨iz_cnp this.1, this.2.weak (by omega)⟩) (fun m hm => sizes_ok m (by simp at hm; omega))
  rw [← hw] at q1
  have e4 : part (l1.map (gg 64)) (l2.map (gg 64)) (gg 16 z) l1.length 0 = gmul (hvG (l1.map (gg 64)) (gg 16 z)) (hvG (l2.map (gg 64)) (gg 16 z)) := by
    have := part_end (l1.map (gg 64)) (l2.map (gg 64)) (gg 16 z)
    rwa [List.length_map] at this
  rw [e3, e4] at q1
  generalize hvG (l1.map (gg 64)) (gg 16 z) = U at *
  generalize hvG (l2.map (gg 64)) (gg 16 z) = V at *
  have m1 := natAbs_mul_le bu.1 bv.1
  have m2 := natAbs_mul_le bu.2 bv.2
  have m3 := natAbs_mul_le bu.1 bv.2
  have m4 := natAbs_mul_le bu.2 bv.1
  have x1 := iu.1.mul iv.1 (by omega)
  have x2 := iu.2.mul iv.2 (by omega)
  have x3 := iu.1.mul iv.2 (by omega)
  have x4 := iu.2.mul iv.1 (by omega)
  exact ⟨_, _, _, _, _, _, _, _, x1, x2, x1.sub x2 (by omega), x3, x4, x3.add x4 (by omega), q1.1.cn, q1.2.cn, rfl, rfl⟩
end SurdFp
end Go
namespace Go.Proofs.YtedkhdfcoaanpaaGreatFmt
open Go.RowKit Go.SurdFp

set_option maxRecDepth 100000 in
set_option maxHeartbeats 8000000 in
theorem Times_any (p : Addr) (ao1 ao2 : Option Addr) (cap1 cap2 : Nat) (l1 l2 : List (Int × Int)) (z : Int × Int) (w : World) (g : Env p w)
    (h1 : l1 = [] ∨ ∃ a, ao1 = some a ∧ PairsAt a l1 w) (h2 : l2 = [] ∨ ∃ a, ao2 = some a ∧ PairsAt a l2 w) :
    Calls Tryz.prog 3 #[.slice ao1 l1.length cap1, .slice ao2 l2.length cap2, .agg #[.int .i64 z.1, .int .i64 z.2]] w fun e w' => e = .returned (.bool true) ∧ Below w.heap.size w w' := by
  obtain ⟨A, hA⟩ : ∃ A, w.alloc (.cells #[.int .i64 z.1, .int .i64 z.2] 23) = A := ⟨_, rfl⟩
  have nA : A.heap[w.heap.size]? = some (.cells #[.int .i64 z.1, .int .i64 z.2] 23 (0, 0)) := by rw [← hA]; exact heap_alloc_new _ _ _ rfl
  have bA : Below w.heap.size w A := by rw [← hA]; exact (Below.refl w.heap.size w).alloc (Nat.le_refl _) _
  have gA : Env p A := g.below bA (Nat.le_refl _)
  have ltA : w.heap.size < A.heap.size := lt_of_cell (cell_of_block (o := 0) nA rfl)
  have hcv : ∀ n w, (convert 3 27 (.int .i64 n)).run Tryz.prog w = .ok (.float .f64 (floatOfInt .f64 n)) w := fun n w => run_convert_int_float w 3 27 .i64 .f64 n (by kernel_rfl) (by kernel_rfl)
  have hinf : (Tryz.prog.info? 28).map (fun i => (i.zero, i.size, i.bytes)) = some (some (.complex .f64 0 0), 1, 16) := by kernel_rfl
  go_enter Tryz.func3, Tryz.ntmps3
  go_wp2_with (fail)
  refine (awake_true p A gA).mono ?_
  rintro e w1 ⟨rfl, B1⟩
  have n1 := (B1.block _ ltA).trans nA
  have T1 := bA.trans (B1.mono bA.size)
  have hp1 : l1 = [] ∨ ∃ a, ao1 = some a ∧ PairsAt a l1 w1 := h1.imp id fun ⟨a, e, h⟩ => ⟨a, e, h.below T1 (Nat.le_refl _)⟩
  have hp2 : l2 = [] ∨ ∃ a, ao2 = some a ∧ PairsAt a l2 w1 := h2.imp id fun ⟨a, e, h⟩ => ⟨a, e, h.below T1 (Nat.le_refl _)⟩
  clear hA h1 h2 nA
  by_cases q1 : 4 < l1.length
  · have g1 : 4 < (l1.length : Int) := by omega
    go_wp2
    go_ret
    exact ⟨rfl, T1⟩
  have g1 : ¬ 4 < (l1.length : Int) := by omega
  by_cases q2 : 4 < l2.length
  · have g2 : 4 < (l2.length : Int) := by omega
    go_wp2
    go_ret
    exact ⟨rfl, T1⟩
  have g2 : ¬ 4 < (l2.length : Int) := by omega
  by_cases q3 : l1.length = 0
  · have g3 : ((l1.length : Int) == 0) = true := by rw [beq_iff_eq]; omega
    have g3' : (l1.length : Int) = 0 := by omega
    go_wp2
    go_ret
    exact ⟨rfl, T1⟩
  have g3 : ((l1.length : Int) == 0) = false := by rw [beq_eq_false_iff_ne]; omega
  have g3' : ¬ (l1.length : Int) = 0 := by omega
  by_cases q4 : l2.length = 0
  · have g4 : ((l2.length : Int) == 0) = true := by rw [beq_iff_eq]; omega
    have g4' : (l2.length : Int) = 0 := by omega
    go_wp2
    go_ret
    exact ⟨rfl, T1⟩
  have g4 : ((l2.length : Int) == 0) = false := by rw [beq_eq_false_iff_ne]; omega
  have g4' : ¬ (l2.length : Int) = 0 := by omega
  rcases hp1 with h0 | ⟨a1, rfl, P1⟩
  · rw [h0] at q3; exact absurd rfl q3
  rcases hp2 with h0 | ⟨a2, rfl, P2⟩
  · rw [h0] at q4; exact absurd rfl q4
  have kg1 := gauss_any a1 cap1 l1 w1 (by omega) P1
  go_wp2_with (fail)
  refine kg1.mono ?_
  rintro e w2 ⟨x, rfl, Rx, B2⟩
  have T2 := T1.trans (B2.mono T1.size)
  have n2 := (B2.block _ (Nat.lt_of_lt_of_le ltA B1.size)).trans n1
  have kg2 := gauss_any a2 cap2 l2 w2 (by omega) (P2.below B2 (Nat.le_refl _))
  clear kg1
  go_wp2_with (fail)
  refine kg2.mono ?_
  rintro e w3 ⟨y, rfl, Ry, B3⟩
  have T3 := T2.trans (B3.mono T2.size)
  have n3 := (B3.block _ (Nat.lt_of_lt_of_le ltA (Nat.le_trans B1.size B2.size))).trans n2
  have Rx3 := Rx.later B3
  clear kg2 P1 P2 n1 n2 Rx
  obtain ⟨N, hN⟩ : ∃ N : Nat, l1.length + l2.length = N + 1 := ⟨l1.length + l2.length - 1, by omega⟩
  have hN1 : IntKind.i64.wrap ((l1.length : Int) + l2.length) = (N : Int) + 1 := by rw [IntKind.wrap_i64]; omega
  have hN2 : IntKind.i64.wrap ((N : Int) + 1 - 1) = (N : Int) := by rw [IntKind.wrap_i64]; omega
  have hmk := run_make_row' (P := Tryz.prog) 25 28 (.complex .f64 0 0) 16 Tryz.underlying25 hinf rfl .i64 .i64 N (by omega) (by omega)
  have hlx : (l1.map (gq 64)).length = l1.length := List.length_map _
  have hly : (l2.map (gq 64)).length = l2.length := List.length_map _
  have Vx := Rx3.vals
  have Vy := Ry.vals
  obtain ⟨aox, capx, rfl, hx0 | ⟨rx, rfl, _, hrx, hcx⟩⟩ := Rx3.form
  · exact absurd (by rw [← hlx, hx0]; rfl) q3
  obtain ⟨aoy, capy, rfl, hy0 | ⟨ry, rfl, _, hry, hcy⟩⟩ := Ry.form
  · exact absurd (by rw [← hly, hy0]; rfl) q4
  rw [hlx] at Vx
  rw [hly] at Vy
  rw [hlx, hly]
  obtain ⟨Bm, hBm⟩ : ∃ Bm, w3.heap.size = Bm := ⟨_, rfl⟩
  have HC : Hid _ := And.intro hcx (And.intro hcy (And.intro Vx (And.intro Vy (And.intro n3 T3))))
  clear hcx hcy Vx Vy n3 T3 Rx3 Ry B1 B2 B3 T1 T2 gA bA
  go_wp2_with (fail)
  have nM0 : (w3.alloc (.cells (madeCells #[Value.complex .f64 0 0] N) 28)).heap[Bm]? = some (.cells ((List.replicate N ((0, 0) : CB)).map cval).toArray 28 (0, 0)) := by
    have e := madeCells_list N
    have h := heap_alloc_new w3 (.cells (madeCells #[Value.complex .f64 0 0] N) 28) Bm hBm.symm
    rw [h, e]; rfl
  have bM0 : Below Bm w3 (w3.alloc (.cells (madeCells #[Value.complex .f64 0 0] N) 28)) := (Below.refl Bm w3).alloc (by omega) _
  go_loopw [10] (fun i wr => ∃ ii : Nat, ii ≤ l1.length ∧ i = .int .i64 (ii : Int) ∧ Below Bm w3 wr ∧
      ∃ M : List CB, wr.heap[Bm]? = some (.cells (M.map cval).toArray 28 (0, 0)) ∧ Prods (l1.map (gg 64)) (l2.map (gg 64)) (gg 16 z) N ii 0 M)
    (fun i _ => l1.length - (intOf i).toNat)
  case atStart => exact ⟨0, Nat.zero_le _, rfl, bM0, _, nM0, Prods.start _ _ _ _⟩
  case round =>
    obtain ⟨ii, hii, rfl, hB, M, hM, hPr⟩ := hrel
    clear hmk nM0 bM0
    by_cases hlt : ii < l1.length
    · have hlt' : (ii : Int) < l1.length := by omega
      rename World => WA
      go_wp2_with (fail)
      go_loopw [11] (fun j wq => ∃ k : Nat, k ≤ l2.length ∧ j = .int .i64 (k : Int) ∧ Below Bm w3 wq ∧
          ∃ M : List CB, wq.heap[Bm]? = some (.cells (M.map cval).toArray 28 (0, 0)) ∧ Prods (l1.map (gg 64)) (l2.map (gg 64)) (gg 16 z) N ii k M)
        (fun j _ => l2.length - (intOf j).toNat)
      case atStart => exact ⟨0, Nat.zero_le _, rfl, hB, M, hM, hPr⟩
      case round =>
        obtain ⟨k, hk, rfl, hBk, Mk, hMk, hPk⟩ := hrel
        clear hM hPr hB
        by_cases hltk : k < l2.length
        · have hltk' : (k : Int) < l2.length := by omega
          obtain ⟨hcx, hcy, Vx, Vy, n3, T3⟩ := HC.out
          obtain ⟨⟨xr, xi⟩, hx⟩ : ∃ c, gq 64 l1[ii] = c := ⟨_, rfl⟩
          obtain ⟨⟨yr, yi⟩, hy⟩ : ∃ c, gq 64 l2[k] = c := ⟨_, rfl⟩
          have ix := (gq_64 l1[ii]).1
          have iy := (gq_64 l2[k]).1
          have bx := (gq_64 l1[ii]).2
          have by' := (gq_64 l2[k]).2
          rw [hx] at ix
          rw [hy] at iy
          have dx : w3.cell? ⟨rx, ii, none⟩ = some (.complex .f64 xr xi) := by
            have := hcx ii (by omega)
            rw [List.getElem_map, hx] at this; exact this
          have dy : w3.cell? ⟨ry, k, none⟩ = some (.complex .f64 yr yi) := by
            have := hcy k (by omega)
            rw [List.getElem_map, hy] at this; exact this
          have hlM : Mk.length = N := hPk.len
          have htk : ii + k < Mk.length := by omega
          have hss : ii * (l2.map (gg 64)).length + k < 16 := by
            rw [List.length_map]
            have : ii * l2.length ≤ 3 * 4 := Nat.mul_le_mul (by omega) (by omega)
            omega
          have hnext := hPk.step (x := (xr, xi)) (y := (yr, yi)) (by simpa using hlt) (by simpa using hltk) htk (by simpa using ix) (by simpa using iy) (by simpa using bx) (by simpa using by') hss
          obtain ⟨lM, G, eG, mG, _⟩ := hPk
          obtain ⟨mt, bt⟩ := mG (ii + k) htk (by omega)
          obtain ⟨⟨mr, mi⟩, hm⟩ : ∃ c, Mk[ii + k] = c := ⟨_, rfl⟩
          rw [hm] at mt hnext
          have m1 := natAbs_mul_le bx.1 by'.1
          have m2 := natAbs_mul_le bx.2 by'.2
          have m3 := natAbs_mul_le bx.1 by'.2
          have m4 := natAbs_mul_le bx.2 by'.1
          have z1 := ix.1.mul iy.1 (by omega)
          have z2 := ix.2.mul iy.2 (by omega)
          have z3 := ix.1.mul iy.2 (by omega)
          have z4 := ix.2.mul iy.1 (by omega)
          have z5 := z1.sub z2 (by omega)
          have z6 := z3.add z4 (by omega)
          have b5 := bt.1
          have b6 := bt.2
          have hbt : 7938 * (ii * (l2.map (gg 64)).length + k) ≤ 7938 * 16 := Nat.mul_le_mul_left _ (by omega)
          have z7 := mt.1.add z5 (by omega)
          have z8 := mt.2.add z6 (by omega)
          dsimp only at z1 z2 z3 z4 z5 z6 z7 z8
          have e1 := fun w => run_float_arith (P := Tryz.prog) w .mul 27 .f64 _ _ _ (fb_of_IZ z1)
          have e2 := fun w => run_float_arith (P := Tryz.prog) w .mul 27 .f64 _ _ _ (fb_of_IZ z2)
          have e3 := fun w => run_float_arith (P := Tryz.prog) w .mul 27 .f64 _ _ _ (fb_of_IZ z3)
          have e4 := fun w => run_float_arith (P := Tryz.prog) w .mul 27 .f64 _ _ _ (fb_of_IZ z4)
          have e5 := fun w => run_float_arith (P := Tryz.prog) w .sub 27 .f64 _ _ _ (fb_of_IZ z5)
          have e6 := fun w => run_float_arith (P := Tryz.prog) w .add 27 .f64 _ _ _ (fb_of_IZ z6)
          have e7 := fun w => run_float_arith (P := Tryz.prog) w .add 27 .f64 _ _ _ (fb_of_IZ z7)
          have e8 := fun w => run_float_arith (P := Tryz.prog) w .add 27 .f64 _ _ _ (fb_of_IZ z8)
          have eset : cadd (mr, mi) (cmul (xr, xi) (yr, yi)) = (fop .add mr (fop .sub (fop .mul xr yr) (fop .mul xi yi)), fop .add mi (fop .add (fop .mul xr yi) (fop .mul xi yr))) := rfl
          rw [eset] at hnext
          clear z1 z2 z3 z4 z5 z6 z7 z8 m1 m2 m3 m4 mt bt mG eG lM hcx hcy ix iy bx by' hx hy eset b5 b6 hbt
          generalize fop .add mr (fop .sub (fop .mul xr yr) (fop .mul xi yi)) = R7 at *
          generalize fop .add mi (fop .add (fop .mul xr yi) (fop .mul xi yr)) = R8 at *
          generalize fop .sub (fop .mul xr yr) (fop .mul xi yi) = R5 at *
          generalize fop .add (fop .mul xr yi) (fop .mul xi yr) = R6 at *
          generalize fop .mul xr yr = R1 at *
          generalize fop .mul xi yi = R2 at *
          generalize fop .mul xr yi = R3 at *
          generalize fop .mul xi yr = R4 at *
          have fx : ∀ {w' : World}, Dr wr w' → w'.cell? ⟨rx, ii, none⟩ = some (.complex .f64 xr xi) := fun D => (dr_cell D _).trans ((hBk.cell (p := ⟨rx, ii, none⟩) (show rx < Bm by omega)).trans dx)
          have fy : ∀ {w' : World}, Dr wr w' → w'.cell? ⟨ry, k, none⟩ = some (.complex .f64 yr yi) := fun D => (dr_cell D _).trans ((hBk.cell (p := ⟨ry, k, none⟩) (show ry < Bm by omega)).trans dy)
          have cm : wr.cell? ⟨Bm, ii + k, none⟩ = some (.complex .f64 mr mi) := cell_of_block (o := ii + k) hMk (by simp [htk, hm, cval])
          have fm : wr.frozen? ⟨Bm, ii + k, none⟩ = false := free_of_block (o := ii + k) hMk
          clear dx dy hm
          have c1 := fx (Dr.refl wr)
          have c2 := fy (Dr.refl wr)
          have g0 : (0 : Int) ≤ ii := by omega
          have g0k : (0 : Int) ≤ k := by omega
          have HX : Hid _ := And.intro hnext (And.intro hMk (And.intro hBk (And.intro hlM htk)))
          clear hnext hMk hBk hlM
          go_wp2_with (fail)
          go_quiet (fail)
          go_wp2_with (fail)
          generalize hW1 : World.drewN wr _ = W1
          have D1 : Dr wr W1 := ⟨_, hW1.symm⟩
          have c3 := fx D1
          have c4 := fy D1
          clear hW1 c1 c2
          go_quiet (fail)
          go_wp2_with (fail)
          generalize hW2 : World.drewN W1 _ = W2
          have D2 : Dr wr W2 := D1.trans ⟨_, hW2.symm⟩
          have D2d := D2.trans (dr_drew W2)
          have c5 := (dr_cell D2d _).trans cm
          have f5 := (dr_frozen D2d _).trans fm
          have hik : IntKind.i64.wrap ((ii : Int) + k) = ((ii + k : Nat) : Int) := by rw [IntKind.wrap_i64]; omega
          have hik2 : (ii : Int) + k < N := by omega
          have hik3 : (0 : Int) ≤ (ii : Int) + k := by omega
          clear hW2 c3 c4 cm fm
          go_region
          all_goals
            go_wp2_with (fail)
            go_roundw
            case rel =>
              obtain ⟨hnext, hMk, hBk, hlM, htk⟩ := HX.out
              refine ⟨k + 1, by omega, by go_num, (below_dr hBk D2d).setCell (Nat.le_refl _) _, Mk.set (ii + k) (R7, R8), ?_, hnext⟩
              have hM2 : W2.drew.heap[Bm]? = some (.cells (Mk.map cval).toArray 28 (0, 0)) := (congrArg (fun h => h[Bm]?) (dr_heap D2d)).trans hMk
              have hM3 := block_setCell (o := ii + k) (v := cval (R7, R8)) hM2
              have e9 : (Mk.map cval).toArray.setIfInBounds (ii + k) (cval (R7, R8)) = ((Mk.set (ii + k) (R7, R8)).map cval).toArray := by
                rw [List.map_set]; simp
              rw [e9] at hM3
              exact hM3
            case measure => simp [intOf]; omega
        · have ek : k = l2.length := by omega
          subst ek
          have he : ¬ ((l2.length : Int) < l2.length) := by omega
          have hp : Prods (l1.map (gg 64)) (l2.map (gg 64)) (gg 16 z) N ii (l2.map (gg 64)).length Mk := by rw [List.length_map]; exact hPk
          have HX : Hid _ := And.intro (hp.row (by simpa using hlt)) (And.intro hMk hBk)
          clear hp hPk hMk hBk
          go_wp2_with (fail)
          go_roundw
          case rel =>
            obtain ⟨hp, hMk, hBk⟩ := HX.out
            exact ⟨ii + 1, by omega, by go_num, hBk, Mk, hMk, hp⟩
          case measure => simp [intOf]; omega
    · have ek : ii = l1.length := by omega
      subst ek
      have he : ¬ ((l1.length : Int) < l1.length) := by omega
      obtain ⟨hcx, hcy, Vx, Vy, n3, T3⟩ := HC.out
      have hB' : Below w3.heap.size w3 wr := hBm ▸ hB
      have ltb : w.heap.size < w3.heap.size := lt_of_cell (cell_of_block (o := 0) n3 rfl)
      have nb := (hB'.block _ ltb).trans n3
      have b0 := cell_of_block (o := 0) nb rfl
      have b1 := cell_of_block (o := 1) nb rfl
      have Vx4 := Vx.later hB'
      have Vy4 := Vy.later hB'
      have hlM : M.length = N := hPr.len
      have Vm : Vals wr (.slice (some ⟨Bm, 0, none⟩) N N) M := ⟨_, N, by rw [hlM], .inr ⟨Bm, rfl, fun j hj => cell_of_block (o := j) hM (by simp [hj, cval])⟩⟩
      have T4 := T3.trans (hB'.mono T3.size)
      have HP : Hid _ := hPr
      clear hcx hcy Vx Vy n3 T3 hB hM hPr nb HC
      have kx := Value_row Vx4 (by rw [hlx]; omega) (gq 16 z) (gq_lt 16 z)
      go_wp2_with (fail)
      refine kx.mono ?_
      rintro e w5 ⟨⟨u1, u2⟩, rfl, hu, B5⟩
      have Vy5 := Vy4.later B5
      have Vm5 := Vm.later B5
      have T5 := T4.trans (B5.mono T4.size)
      have ky := Value_row Vy5 (by rw [hly]; omega) (gq 16 z) (gq_lt 16 z)
      have HU : Hid _ := hu
      clear hu kx
      go_wp2_with (fail)
      refine ky.mono ?_
      rintro e w6 ⟨⟨v1, v2⟩, rfl, hv', B6⟩
      have Vm6 := Vm5.later B6
      have T6 := T5.trans (B6.mono T5.size)
      have km := Value_row Vm6 (by omega) (gq 16 z) (gq_lt 16 z)
      have HV : Hid _ := hv'
      clear hv' ky
      go_wp2_with (fail)
      refine km.mono ?_
      rintro e w7 ⟨⟨y1, y2⟩, rfl, hw, B7⟩
      have T7 := T6.trans (B7.mono T6.size)
      obtain ⟨i1, i2, i3, i4, i5, i6, i7, i8, z1, z2, z3, z4, z5, z6, z7, z8, q9, q10⟩ := times_end (u := (u1, u2)) (v := (v1, v2)) (w := (y1, y2)) (by omega) (by omega) (by omega) HP.out HU.out HV.out hw
      subst q9 q10
      dsimp only at z1 z2 z3 z4 z5 z6 z7 z8
      have e1 := fun w => run_float_arith (P := Tryz.prog) w .mul 27 .f64 _ _ _ (fb_of_IZ z1)
      have e2 := fun w => run_float_arith (P := Tryz.prog) w .mul 27 .f64 _ _ _ (fb_of_IZ z2)
      have e3 := fun w => run_float_arith (P := Tryz.prog) w .sub 27 .f64 _ _ _ (fb_of_IZ z3)
      have e4 := fun w => run_float_arith (P := Tryz.prog) w .mul 27 .f64 _ _ _ (fb_of_IZ z4)
      have e5 := fun w => run_float_arith (P := Tryz.prog) w .mul 27 .f64 _ _ _ (fb_of_IZ z5)
      have e6 := fun w => run_float_arith (P := Tryz.prog) w .add 27 .f64 _ _ _ (fb_of_IZ z6)
      have p1 : (FloatKind.f64.format.order y1 (fop .sub (fop .mul u1 v1) (fop .mul u2 v2)) == some .eq) = true := by rw [z7.eq z3]; rfl
      have p2 : (FloatKind.f64.format.order y2 (fop .add (fop .mul u1 v2) (fop .mul u2 v1)) == some .eq) = true := by rw [z8.eq z6]; rfl
      clear z1 z2 z3 z4 z5 z6 z7 z8 hw HU HV HP km
      generalize fop .sub (fop .mul u1 v1) (fop .mul u2 v2) = R3 at *
      generalize fop .add (fop .mul u1 v2) (fop .mul u2 v1) = R6 at *
      generalize fop .mul u1 v1 = R1 at *
      generalize fop .mul u2 v2 = R2 at *
      generalize fop .mul u1 v2 = R4 at *
      generalize fop .mul u2 v1 = R5 at *
      go_wp2_with (go_at_call 9; refine (Num_any _ _).mono ?_; rintro e w' ⟨rfl, rfl⟩)
      go_wp2
      go_ret
      exact ⟨rfl, T7⟩
end Go.Proofs.YtedkhdfcoaanpaaGreatFmt
