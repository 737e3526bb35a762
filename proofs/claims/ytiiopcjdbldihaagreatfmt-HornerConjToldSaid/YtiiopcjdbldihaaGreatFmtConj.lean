/- Plain laws: Horner's rule on conjugated numbers; numbers that are alike. No condition. -/
import Derived.Test.YtiiopcjdbldihaaGreatFmtBnd
namespace Go
namespace SurdFp
def cjE (z : EE) : EE := (z.1, negE z.2)
theorem cj_addC (z w : EE) : addC (cjE z) (cjE w) = cjE (addC z w) := by
  unfold addC cjE; simp only [addE_neg]
theorem cj_mulC (z w : EE) : mulC (cjE z) (cjE w) = cjE (mulC z w) := by
  unfold mulC cjE subE; simp only [mulE_neg_left, mulE_neg_right, negE_negE, addE_neg]
theorem hv_cj {z z' : CB} (hz : evp z' = cjE (evp z)) (f g : CB → CB) (h : ∀ c, evp (g c) = cjE (evp (f c))) : ∀ l : List CB, evp (hv (l.map g) z') = cjE (evp (hv (l.map f) z))
  | [] => by
    show evp (0, 0) = cjE (evp (0, 0))
    decide +kernel
  | [c] => h c
  | c :: d :: l => by
    have ih := hv_cj hz f g h (d :: l)
    show evp (cadd (cmul (hv ((d :: l).map g) z') z') (g c)) = cjE (evp (cadd (cmul (hv ((d :: l).map f) z) z) (f c)))
    rw [evp_cadd, evp_cmul, ih, hz, h c, cj_mulC, cj_addC, evp_cadd, evp_cmul]
theorem hs_cj {z z' : CB} (hz : evp z' = cjE (evp z)) (f g : CB → CB) (h : ∀ c, evp (g c) = cjE (evp (f c))) : ∀ l : List CB, evp (hs (l.map g) z') = cjE (evp (hs (l.map f) z))
  | [] => by
    show evp (0, 0) = cjE (evp (0, 0))
    decide +kernel
  | [c] => by
    show evp (0, 0) = cjE (evp (0, 0))
    decide +kernel
  | c :: d :: l => by
    have ih := hs_cj hz f g h (d :: l)
    have iv := hv_cj hz f g h (d :: l)
    show evp (cadd (cmul (hs ((d :: l).map g) z') z') (hv ((d :: l).map g) z')) = cjE (evp (cadd (cmul (hs ((d :: l).map f) z) z) (hv ((d :: l).map f) z)))
    rw [evp_cadd, evp_cmul, ih, hz, iv, cj_mulC, cj_addC, evp_cadd, evp_cmul]
def aE : Ext → Ext
  | .none => .none
  | .inf _ => .inf false
  | .num a => .num a.natAbs
theorem aE_neg (x : Ext) : aE (negE x) = aE x := by
  cases x <;> simp [aE, negE]
theorem aE_ev (x : Nat) : aE (ev x) = if fin x then .num (mv (x % 2 ^ 63)) else if nan x then .none else .inf false := by
  unfold ev
  split
  · show Ext.num ((sgn (sg x) (mv (x % 2 ^ 63))).natAbs : Int) = _
    rw [sgn_natAbs]
  · split <;> rfl
theorem abs_inf {x : Nat} (h1 : fin x = false) (h2 : nan x = false) : x % 2 ^ 63 = 2047 * 2 ^ 52 := by
  unfold fin at h1; unfold nan at h2
  rw [decide_eq_false_iff_not] at h1 h2
  omega
theorem cn_abs_of {x y : Nat} (h : aE (ev x) = aE (ev y)) : cn (x % 2 ^ 63) = cn (y % 2 ^ 63) := by
  rw [aE_ev, aE_ev] at h
  cases hx : fin x <;> cases hy : fin y <;> cases nx : nan x <;> cases ny : nan y <;> simp only [hx, hy, nx, ny, if_true, Bool.false_eq_true, if_false] at h
  all_goals first
    | (cases h; done)
    | (rw [abs_inf hx nx, abs_inf hy ny]; done)
    | (rw [cn_nan (x := x % 2 ^ 63) (by rw [nan_mod]; exact nx), cn_nan (x := y % 2 ^ 63) (by rw [nan_mod]; exact ny)]; done)
    | (injection h with h; rw [mv_inj (mod_lt_of_fin hx) (mod_lt_of_fin hy) (Int.ofNat.inj h)]; done)
theorem on_cj {u u' : CB} (h : evp u' = cjE (evp u)) : on u' = on u := by
  have h1 : ev u'.1 = ev u.1 := congrArg Prod.fst h
  have h2 : ev u'.2 = negE (ev u.2) := congrArg Prod.snd h
  unfold on
  rw [cn_abs_of (congrArg aE h1), cn_abs_of (x := u'.2) (y := u.2) (by rw [h2, aE_neg])]
theorem be_cj {z z' : CB} (hz : evp z' = cjE (evp z)) (f g : CB → CB) (h : ∀ c, evp (g c) = cjE (evp (f c))) : ∀ l : List CB, be (l.map g) z' = be (l.map f) z
  | [] => rfl
  | [_] => rfl
  | c :: d :: l => by
    have ih := be_cj hz f g h (d :: l)
    have i1 := on_cj (hv_cj hz f g h (d :: l))
    have i2 := on_cj (hv_cj hz f g h (c :: d :: l))
    show bdE (on (hv ((d :: l).map g) z')) (on (hv ((c :: d :: l).map g) z')) (on z') (be ((d :: l).map g) z') = bdE (on (hv ((d :: l).map f) z)) (on (hv ((c :: d :: l).map f) z)) (on z) (be ((d :: l).map f) z)
    rw [i1, i2, on_cj hz, ih]
def cjB (c : CB) : CB := (c.1, ngF c.2)
theorem evp_cnp (c : CB) : evp (cnp c) = evp c := by unfold evp cnp; rw [ev_cn, ev_cn]
theorem evp_cjB (c : CB) : evp (cjB c) = cjE (evp c) := by
  unfold evp cjB cjE; rw [ev_ng]
/-- parts that are the same, but for the signs of noughts -/
def alk (x y : Nat) : Bool := (FloatKind.f64.format.order x y == some .eq) || (nan x && nan y)
theorem alk_of_ev {x y : Nat} (h : ev x = ev y) : alk x y = true := by
  unfold alk
  cases hn : nan x
  · rw [order_eq_of_ev h hn]; rfl
  · have : nan y = true := by
      rw [ev_nan hn] at h
      cases hy : nan y
      · cases fy : fin y
        · rw [ev_inf fy hy] at h; cases h
        · rw [ev_fin fy] at h; cases h
      · rfl
    rw [this]; simp
end SurdFp
end Go
