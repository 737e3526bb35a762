/- Plain laws for HornerTwice's end; surdlaw16.small. No condition. -/
import Derived.Test.YtedkhdfcoaanpaaGreatFmtRows2
namespace Go
theorem i64_and63 (n : Int) : bits .and .i64 n 63 = n % 64 := by
  have h63 : (BitVec.ofInt 64 63).toNat = 2 ^ 6 - 1 := by decide
  have key : (BitVec.ofInt 64 n &&& BitVec.ofInt 64 63).toNat = (n % ((2 ^ 64 : Nat) : Int)).toNat % 2 ^ 6 := by
    rw [BitVec.toNat_and, BitVec.toNat_ofInt, h63, Nat.and_two_pow_sub_one_eq_mod]
  show IntKind.i64.wrap ((BitVec.ofInt 64 n &&& BitVec.ofInt 64 63).toNat : Nat) = n % 64
  rw [key, IntKind.wrap_i64]
  omega
namespace SurdFp
def smallC (c : CB) : Bool := smallB c.1 && smallB c.2
/-- times p -/
def mulp (p : Nat) (c : CB) : CB := (fop .mul p c.1, fop .mul p c.2)
/-- turned by -i, m times, in bits -/
def rotB : Nat → CB → CB
  | 0, c => c
  | m + 1, c => ((rotB m c).2, ngF (rotB m c).1)
theorem evp_rotB (m : Nat) (c : CB) : evp (rotB m c) = tqs m (evp c) := by
  induction m with
  | zero => rfl
  | succ m ih =>
    show (ev (rotB m c).2, ev (ngF (rotB m c).1)) = tq (tqs m (evp c))
    rw [ev_ng, ← ih]; rfl
theorem tqs_zero (m : Nat) : tqs m (.num 0, .num 0) = (.num 0, .num 0) := by
  induction m with
  | zero => rfl
  | succ m ih => show tq (tqs m _) = _; rw [ih]; rfl
theorem cnp_small {c : CB} (h : smallC c = true) : cnp c = c ∧ fin c.1 = true ∧ fin c.2 = true ∧ MidV (vl c.1) ∧ MidV (vl c.2) := by
  unfold smallC at h
  rw [Bool.and_eq_true] at h
  obtain ⟨f1, m1⟩ := small_midv h.1
  obtain ⟨f2, m2⟩ := small_midv h.2
  refine ⟨?_, f1, f2, m1, m2⟩
  show (cn c.1, cn c.2) = c
  rw [cn_not (not_nan_of_fin f1), cn_not (not_nan_of_fin f2)]
theorem order_of_ev {x y : Nat} (h : ev x = ev y) {a : Int} (hx : ev x = .num a) : FloatKind.f64.format.order x y = some .eq :=
  order_eq_of_ev h (not_nan_of_fin (fin_of_ev hx))

/-- HornerTwice's end -/
theorem twice_end {l bl cl : List CB} {z v s u t w : CB} {p i j r1 r2 r3 r4 : Nat} {P : Int} (hl : l.length ≤ 5) (hs : ∀ c ∈ l, smallC c = true) (hz : smallC z = true)
    (hp : ev p = .num P) (hP : P * 2 ^ j = 2 ^ (1074 + i)) (hi : i ≤ 31) (hj : j ≤ 32)
    (hb : bl.map cnp = l.map (mulp p)) (hc : cl = (List.range l.length).map fun m => rotB (m % 4) (l.getD m (0, 0)))
    (hv' : cnp v = hv (l.map cnp) (cnp z)) (hs' : cnp s = Go.SurdFp.hs (l.map cnp) (cnp z))
    (hu : cnp u = hv (bl.map cnp) (cnp z)) (ht : cnp t = Go.SurdFp.hs (bl.map cnp) (cnp z))
    (hw : cnp w = hv (cl.map cnp) (cnp (ngF z.2, z.1)))
    (k1 : cn r1 = fop .mul (cn p) (cn v.1)) (k2 : cn r2 = fop .mul (cn p) (cn v.2)) (k3 : cn r3 = fop .mul (cn p) (cn s.1)) (k4 : cn r4 = fop .mul (cn p) (cn s.2)) :
    FloatKind.f64.format.order u.1 r1 = some .eq ∧ FloatKind.f64.format.order u.2 r2 = some .eq ∧ FloatKind.f64.format.order t.1 r3 = some .eq ∧ FloatKind.f64.format.order t.2 r4 = some .eq ∧
    FloatKind.f64.format.order w.1 v.1 = some .eq ∧ FloatKind.f64.format.order w.2 v.2 = some .eq := by
  obtain ⟨ez, fz1, fz2, mz1, mz2⟩ := cnp_small hz
  have el : l.map cnp = l := by
    conv => rhs; rw [← List.map_id l]
    exact List.map_congr_left fun c hc => (cnp_small (hs c hc)).1
  rw [el, ez] at hv' hs'
  rw [hb, ez] at hu ht
  obtain ⟨R1, R2⟩ := hv_rel (i := i) (j := j) (z := z) (mulp p) (ev_fin fz1) (ev_fin fz2) (mid_of mz1) (mid_of mz2) l hl (fun c hc => by
    obtain ⟨_, f1, f2, m1, m2⟩ := cnp_small (hs c hc)
    exact ⟨coef_rel f1 m1 hp hP hi hj, coef_rel f2 m2 hp hP hi hj⟩)
  rw [← hv', ← hu] at R1
  rw [← hs', ← ht] at R2
  have prod : ∀ {X Y r : Nat} {g B : Nat}, RelS i j g B (ev (cn X)) (ev (cn Y)) → cn r = fop .mul (cn p) (cn X) → FloatKind.f64.format.order Y r = some .eq := by
    intro X Y r g B h k
    have h' := h
    obtain ⟨a, b, e1, e2, _⟩ := h'
    have hn : numE (ev (cn Y)) := ⟨b, e2, isF_of_ev e2⟩
    have sb := scale_back h hP hn
    have er : ev r = ev Y := by
      rw [← ev_cn r, k, ev_mul, ev_cn p, hp, sb, ev_cn]
    rw [ev_cn] at e2
    exact order_of_ev er.symm e2
  have evz2 : evp (cnp (ngF z.2, z.1)) = (negE (ev z.2), ev z.1) := by
    show (ev (cn (ngF z.2)), ev (cn z.1)) = _
    rw [ev_cn, ev_cn, ev_ng]
  have turned : evp w = evp v := by
    have e1 : evp w = evp (hv (cl.map cnp) (cnp (ngF z.2, z.1))) := by
      rw [← hw]; show _ = (ev (cn w.1), ev (cn w.2)); rw [ev_cn, ev_cn]; rfl
    have e2 : evp v = evp (hv l z) := by
      rw [← hv']; show _ = (ev (cn v.1), ev (cn v.2)); rw [ev_cn, ev_cn]; rfl
    rw [e1, e2]
    by_cases h0 : l = []
    · subst h0
      subst hc
      rfl
    · have hlen : l.length = (cl.map cnp).length := by rw [hc]; simp
      have := turn_law (z := z) evz2 l (cl.map cnp) 0 hlen (fun m => by
        rw [Nat.zero_add]
        by_cases hm : m < l.length
        · have g1 : (cl.map cnp).getD m (0, 0) = cnp (rotB (m % 4) (l.getD m (0, 0))) := by
            rw [hc]; simp [List.getD, hm]
          rw [g1]
          show (ev (cn _), ev (cn _)) = _
          rw [ev_cn, ev_cn]
          show evp (rotB (m % 4) (l.getD m (0, 0))) = _
          rw [evp_rotB, tqs_mod]
        · have g1 : (cl.map cnp).getD m (0, 0) = (0, 0) := by
            have : (cl.map cnp)[m]? = none := List.getElem?_eq_none (by omega)
            simp only [List.getD, this]; rfl
          have g2 : l.getD m (0, 0) = (0, 0) := by
            have : l[m]? = none := List.getElem?_eq_none (by omega)
            simp only [List.getD, this]; rfl
          rw [g1, g2]
          show (ev 0, ev 0) = tqs m (ev 0, ev 0)
          rw [ev_0, tqs_zero]) h0
      rw [this]; rfl
  have w1 : ev w.1 = ev v.1 := congrArg Prod.fst turned
  have w2 : ev w.2 = ev v.2 := congrArg Prod.snd turned
  obtain ⟨⟨a1, _, e1, _⟩, ⟨a2, _, e2, _⟩⟩ := R1
  have e1' : ev v.1 = .num a1 := by rw [← ev_cn v.1]; exact e1
  have e2' : ev v.2 = .num a2 := by rw [← ev_cn v.2]; exact e2
  have hR1 := hv_rel (i := i) (j := j) (z := z) (mulp p) (ev_fin fz1) (ev_fin fz2) (mid_of mz1) (mid_of mz2) l hl (fun c hc => by
    obtain ⟨_, f1, f2, m1, m2⟩ := cnp_small (hs c hc)
    exact ⟨coef_rel f1 m1 hp hP hi hj, coef_rel f2 m2 hp hP hi hj⟩)
  rw [← hv', ← hu] at hR1
  exact ⟨prod hR1.1.1 k1, prod hR1.1.2 k2, prod R2.1 k3, prod R2.2 k4, order_of_ev w1 (w1.trans e1'), order_of_ev w2 (w2.trans e2')⟩
end SurdFp
end Go
namespace Go.Proofs.YtedkhdfcoaanpaaGreatFmt
open Go.RowKit Go.SurdFp

set_option maxRecDepth 100000 in
set_option maxHeartbeats 4000000 in
theorem small_any (b cap : Nat) (l : List CB) (w : World) (h2 : l.length ≤ 65)
    (hl : ∀ j (hj : j < l.length), w.cell? ⟨b, j, none⟩ = some (.complex .f64 l[j].1 l[j].2)) :
    Calls Tryz.prog 17 #[.slice (some ⟨b, 0, none⟩) l.length cap] w fun e w' => e = .returned (.bool (l.all smallC)) ∧ Below w.heap.size w w' := by
  go_enter Tryz.func17, Tryz.ntmps17
  go_wp2_with (fail)
  go_loopw [3] (fun i wr => ∃ k : Nat, k ≤ l.length ∧ i = .int .i64 (k : Int) ∧ (l.take k).all smallC = true ∧ Below w.heap.size w wr)
    (fun i _ => l.length - (intOf i).toNat)
  case atStart => exact ⟨0, Nat.zero_le _, rfl, rfl, Below.refl _ _⟩
  case round =>
    obtain ⟨k, hk, rfl, hf, hB⟩ := hrel
    by_cases hlt : k < l.length
    · have hlt' : (k : Int) < l.length := by omega
      have g0 : (0 : Int) ≤ k := by omega
      have hb : b < w.heap.size := lt_of_cell (hl k hlt)
      have e0 : l.take (k + 1) = l.take k ++ [l[k]] := List.take_succ_eq_append_getElem hlt
      obtain ⟨x, hx⟩ : ∃ x, l[k].1 = x := ⟨_, rfl⟩
      obtain ⟨y, hy⟩ : ∃ y, l[k].2 = y := ⟨_, rfl⟩
      have c0 : wr.drew.cell? ⟨b, k, none⟩ = some (.complex .f64 x y) := by
        rw [← hx, ← hy]; exact (hB.cell (p := ⟨b, k, none⟩) hb).trans (hl k hlt)
      go_wp2_with (fail)
      go_region
      all_goals
        have nW : (wr.drew.alloc (.cells #[.float .f64 x, .float .f64 y] 27)).heap[wr.heap.size]? = some (.cells #[.float .f64 x, .float .f64 y] 27 (0, 0)) := heap_alloc_new wr.drew _ _ rfl
        have bW := (hB.drew).alloc (show w.heap.size ≤ wr.drew.heap.size from hB.size) (.cells #[.float .f64 x, .float .f64 y] 27)
        obtain ⟨W, hW⟩ : ∃ W, wr.drew.alloc (.cells #[.float .f64 x, .float .f64 y] 27) = W := ⟨_, rfl⟩
        rw [hW] at nW bW
        have x0 := cell_of_block (o := 0) nW rfl
        have x1 := cell_of_block (o := 1) nW rfl
        go_wp2_with (fail)
        go_loopw [5] (fun j wq => ∃ m : Nat, m ≤ 2 ∧ j = .int .i64 (m : Int) ∧ wq = W ∧ (0 < m → smallB x = true) ∧ (1 < m → smallB y = true)) (fun j _ => 2 - (intOf j).toNat)
        case atStart => exact ⟨0, by omega, rfl, by first | rfl | exact hW, fun h => by omega, fun h => by omega⟩
        case round =>
          obtain ⟨m, hm, rfl, rfl, hx', hy'⟩ := hrel
          by_cases hm2 : m < 2
          · by_cases hm0 : m = 0
            · subst hm0
              cases hs : (FloatKind.f64.format.order x 0 == some .lt)
              · have eA : smA x = x := by unfold smA ord; rw [hs]; rfl
                cases b1 : (FloatKind.f64.format.order x x != some .eq)
                · cases b2 : (FloatKind.f64.format.order x 0 != some .eq)
                  · have hsb : smallB x = true := by
                      unfold smallB ord; rw [eA, b1, b2]; rfl
                    go_wp2_with (fail)
                    go_roundw
                    case rel => exact ⟨0+1, by omega, by go_num, (by first | rfl | trivial), fun _ => hsb, fun h => by omega⟩
                    case measure => simp [intOf]
                  · cases b3 : (FloatKind.f64.format.order x 4336966441157787648 == some .lt)
                    · cases b4 : (FloatKind.f64.format.order x 4877398396442247168 == some .gt)
                      · have hsb : smallB x = true := by
                          unfold smallB ord; rw [eA, b1, b2, b3, b4]; rfl
                        go_wp2_with (fail)
                        go_roundw
                        case rel => exact ⟨0+1, by omega, by go_num, (by first | rfl | trivial), fun _ => hsb, fun h => by omega⟩
                        case measure => simp [intOf]
                      · have hsb : smallB x = false := by
                          unfold smallB ord; rw [eA, b1, b2, b3, b4]; rfl
                        have hall : l.all smallC = false := by
                          rw [List.all_eq_false]
                          refine ⟨l[k], List.getElem_mem hlt, ?_⟩
                          unfold smallC
                          rw [hx, hy, hsb]; simp
                        go_wp2
                        go_ret
                        exact ⟨by first | rfl | (rw [hall]; rfl), bW⟩
                    · have hsb : smallB x = false := by
                        unfold smallB ord; rw [eA, b1, b2, b3]; rfl
                      have hall : l.all smallC = false := by
                        rw [List.all_eq_false]
                        refine ⟨l[k], List.getElem_mem hlt, ?_⟩
                        unfold smallC
                        rw [hx, hy, hsb]; simp
                      go_wp2
                      go_ret
                      exact ⟨by first | rfl | (rw [hall]; rfl), bW⟩
                · have hsb : smallB x = false := by
                    unfold smallB ord; rw [eA, b1]; rfl
                  have hall : l.all smallC = false := by
                    rw [List.all_eq_false]
                    refine ⟨l[k], List.getElem_mem hlt, ?_⟩
                    unfold smallC
                    rw [hx, hy, hsb]; simp
                  go_wp2
                  go_ret
                  exact ⟨by first | rfl | (rw [hall]; rfl), bW⟩
              · obtain ⟨z, hz⟩ : ∃ z, ngF x = z := ⟨_, rfl⟩
                have eA : smA x = z := by unfold smA ord; rw [hs]; exact hz
                cases b1 : (FloatKind.f64.format.order z z != some .eq)
                · cases b2 : (FloatKind.f64.format.order z 0 != some .eq)
                  · have hsb : smallB x = true := by
                      unfold smallB ord; rw [eA, b1, b2]; rfl
                    go_wp2_with (fail)
                    go_roundw
                    case rel => exact ⟨0+1, by omega, by go_num, (by first | rfl | trivial), fun _ => hsb, fun h => by omega⟩
                    case measure => simp [intOf]
                  · cases b3 : (FloatKind.f64.format.order z 4336966441157787648 == some .lt)
                    · cases b4 : (FloatKind.f64.format.order z 4877398396442247168 == some .gt)
                      · have hsb : smallB x = true := by
                          unfold smallB ord; rw [eA, b1, b2, b3, b4]; rfl
                        go_wp2_with (fail)
                        go_roundw
                        case rel => exact ⟨0+1, by omega, by go_num, (by first | rfl | trivial), fun _ => hsb, fun h => by omega⟩
                        case measure => simp [intOf]
                      · have hsb : smallB x = false := by
                          unfold smallB ord; rw [eA, b1, b2, b3, b4]; rfl
                        have hall : l.all smallC = false := by
                          rw [List.all_eq_false]
                          refine ⟨l[k], List.getElem_mem hlt, ?_⟩
                          unfold smallC
                          rw [hx, hy, hsb]; simp
                        go_wp2
                        go_ret
                        exact ⟨by first | rfl | (rw [hall]; rfl), bW⟩
                    · have hsb : smallB x = false := by
                        unfold smallB ord; rw [eA, b1, b2, b3]; rfl
                      have hall : l.all smallC = false := by
                        rw [List.all_eq_false]
                        refine ⟨l[k], List.getElem_mem hlt, ?_⟩
                        unfold smallC
                        rw [hx, hy, hsb]; simp
                      go_wp2
                      go_ret
                      exact ⟨by first | rfl | (rw [hall]; rfl), bW⟩
                · have hsb : smallB x = false := by
                    unfold smallB ord; rw [eA, b1]; rfl
                  have hall : l.all smallC = false := by
                    rw [List.all_eq_false]
                    refine ⟨l[k], List.getElem_mem hlt, ?_⟩
                    unfold smallC
                    rw [hx, hy, hsb]; simp
                  go_wp2
                  go_ret
                  exact ⟨by first | rfl | (rw [hall]; rfl), bW⟩
            · have hm1 : m = 1 := by omega
              subst hm1
              cases hs : (FloatKind.f64.format.order y 0 == some .lt)
              · have eA : smA y = y := by unfold smA ord; rw [hs]; rfl
                cases b1 : (FloatKind.f64.format.order y y != some .eq)
                · cases b2 : (FloatKind.f64.format.order y 0 != some .eq)
                  · have hsb : smallB y = true := by
                      unfold smallB ord; rw [eA, b1, b2]; rfl
                    go_wp2_with (fail)
                    go_roundw
                    case rel => exact ⟨1+1, by omega, by go_num, (by first | rfl | trivial), fun _ => hx' (by omega), fun _ => hsb⟩
                    case measure => simp [intOf]
                  · cases b3 : (FloatKind.f64.format.order y 4336966441157787648 == some .lt)
                    · cases b4 : (FloatKind.f64.format.order y 4877398396442247168 == some .gt)
                      · have hsb : smallB y = true := by
                          unfold smallB ord; rw [eA, b1, b2, b3, b4]; rfl
                        go_wp2_with (fail)
                        go_roundw
                        case rel => exact ⟨1+1, by omega, by go_num, (by first | rfl | trivial), fun _ => hx' (by omega), fun _ => hsb⟩
                        case measure => simp [intOf]
                      · have hsb : smallB y = false := by
                          unfold smallB ord; rw [eA, b1, b2, b3, b4]; rfl
                        have hall : l.all smallC = false := by
                          rw [List.all_eq_false]
                          refine ⟨l[k], List.getElem_mem hlt, ?_⟩
                          unfold smallC
                          rw [hx, hy, hsb]; simp
                        go_wp2
                        go_ret
                        exact ⟨by first | rfl | (rw [hall]; rfl), bW⟩
                    · have hsb : smallB y = false := by
                        unfold smallB ord; rw [eA, b1, b2, b3]; rfl
                      have hall : l.all smallC = false := by
                        rw [List.all_eq_false]
                        refine ⟨l[k], List.getElem_mem hlt, ?_⟩
                        unfold smallC
                        rw [hx, hy, hsb]; simp
                      go_wp2
                      go_ret
                      exact ⟨by first | rfl | (rw [hall]; rfl), bW⟩
                · have hsb : smallB y = false := by
                    unfold smallB ord; rw [eA, b1]; rfl
                  have hall : l.all smallC = false := by
                    rw [List.all_eq_false]
                    refine ⟨l[k], List.getElem_mem hlt, ?_⟩
                    unfold smallC
                    rw [hx, hy, hsb]; simp
                  go_wp2
                  go_ret
                  exact ⟨by first | rfl | (rw [hall]; rfl), bW⟩
              · obtain ⟨z, hz⟩ : ∃ z, ngF y = z := ⟨_, rfl⟩
                have eA : smA y = z := by unfold smA ord; rw [hs]; exact hz
                cases b1 : (FloatKind.f64.format.order z z != some .eq)
                · cases b2 : (FloatKind.f64.format.order z 0 != some .eq)
                  · have hsb : smallB y = true := by
                      unfold smallB ord; rw [eA, b1, b2]; rfl
                    go_wp2_with (fail)
                    go_roundw
                    case rel => exact ⟨1+1, by omega, by go_num, (by first | rfl | trivial), fun _ => hx' (by omega), fun _ => hsb⟩
                    case measure => simp [intOf]
                  · cases b3 : (FloatKind.f64.format.order z 4336966441157787648 == some .lt)
                    · cases b4 : (FloatKind.f64.format.order z 4877398396442247168 == some .gt)
                      · have hsb : smallB y = true := by
                          unfold smallB ord; rw [eA, b1, b2, b3, b4]; rfl
                        go_wp2_with (fail)
                        go_roundw
                        case rel => exact ⟨1+1, by omega, by go_num, (by first | rfl | trivial), fun _ => hx' (by omega), fun _ => hsb⟩
                        case measure => simp [intOf]
                      · have hsb : smallB y = false := by
                          unfold smallB ord; rw [eA, b1, b2, b3, b4]; rfl
                        have hall : l.all smallC = false := by
                          rw [List.all_eq_false]
                          refine ⟨l[k], List.getElem_mem hlt, ?_⟩
                          unfold smallC
                          rw [hx, hy, hsb]; simp
                        go_wp2
                        go_ret
                        exact ⟨by first | rfl | (rw [hall]; rfl), bW⟩
                    · have hsb : smallB y = false := by
                        unfold smallB ord; rw [eA, b1, b2, b3]; rfl
                      have hall : l.all smallC = false := by
                        rw [List.all_eq_false]
                        refine ⟨l[k], List.getElem_mem hlt, ?_⟩
                        unfold smallC
                        rw [hx, hy, hsb]; simp
                      go_wp2
                      go_ret
                      exact ⟨by first | rfl | (rw [hall]; rfl), bW⟩
                · have hsb : smallB y = false := by
                    unfold smallB ord; rw [eA, b1]; rfl
                  have hall : l.all smallC = false := by
                    rw [List.all_eq_false]
                    refine ⟨l[k], List.getElem_mem hlt, ?_⟩
                    unfold smallC
                    rw [hx, hy, hsb]; simp
                  go_wp2
                  go_ret
                  exact ⟨by first | rfl | (rw [hall]; rfl), bW⟩
          · have hm1 : m = 2 := by omega
            subst hm1
            have hsk : smallC l[k] = true := by
              unfold smallC
              rw [hx, hy, hx' (by omega), hy' (by omega)]; rfl
            go_wp2_with (fail)
            go_roundw
            case rel => exact ⟨k + 1, by omega, by go_num, by rw [e0, List.all_append, hf]; simpa using hsk, bW⟩
            case measure => simp [intOf]; omega
    · have he : ¬ ((k : Int) < l.length) := by omega
      have ek : k = l.length := by omega
      have hall : l.all smallC = true := by rw [ek, List.take_length] at hf; exact hf
      go_wp2
      go_ret
      exact ⟨rfl, hB⟩
end Go.Proofs.YtedkhdfcoaanpaaGreatFmt
