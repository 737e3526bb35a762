/- Plain laws: small whole numbers in float64: sums, products, Horner's rule on Gaussian numbers, exact. No condition. -/
import Derived.Test.YtedkhdfcoaanpaaGreatFmtFloat
import Derived.Laws.Cover2
namespace Go
namespace SurdFp
/-- the float x is the whole number n -/
def IZ (x : Nat) (n : Int) : Prop := ev x = .num (n * 2 ^ 1074)
theorem mul_pow_neg (n : Int) (k : Nat) : (n * 2 ^ k < 0) = (n < 0) := by
  have hp : (0 : Int) < 2 ^ k := Int.pow_pos (by decide)
  by_cases h : n < 0
  · simp only [h, eq_iff_iff, iff_true]; exact Int.mul_neg_of_neg_of_pos h hp
  · have : 0 ≤ n * 2 ^ k := Int.mul_nonneg (by omega) (by omega)
    simp only [h, eq_iff_iff, iff_false]; omega
theorem rdE_scale (n : Int) (k : Nat) (p : Int) : rdE (n * 2 ^ k) (p - k) = rdE n p := by
  unfold rdE
  rw [natAbs_mul_pow, rung_scale]
  simp only [mul_pow_neg]
theorem rdE_int {n : Int} (h : n.natAbs < 2 ^ 53) : rdE (n * 2 ^ 1074) (-1074) = .num (n * 2 ^ 1074) := by
  by_cases h0 : n = 0
  · subst h0; rw [Int.zero_mul]; rfl
  have hm0 : n.natAbs ≠ 0 := by omega
  have hl : n.natAbs.log2 < 53 := (Nat.log2_lt hm0).2 h
  have e0 : (n * 2 ^ 1074).natAbs = n.natAbs * 2 ^ 1074 := natAbs_mul_pow n 1074
  have e1 : (n * 2 ^ 1074).natAbs.log2 = n.natAbs.log2 + 1074 := (congrArg Nat.log2 e0).trans (log2_mul_pow _ 1074 hm0)
  have hr := rdE_normal (n := n * 2 ^ 1074) (t := 0) (by rw [e1]; omega) (by rw [e1]; omega)
  rw [show (-1074 : Int) - ((0 : Nat) : Int) = -1074 from rfl] at hr
  rw [hr, e1, e0, Nat.sub_zero]
  congr 1
  obtain ⟨c, hc⟩ : ∃ c, n.natAbs.log2 + c = 52 := ⟨52 - n.natAbs.log2, by omega⟩
  have e2 : n.natAbs.log2 + 1074 - 52 = 1074 - c := by omega
  have e3 : n.natAbs * 2 ^ 1074 = n.natAbs * 2 ^ c * 2 ^ (1074 - c) := by
    rw [Nat.mul_assoc, ← Nat.pow_add]; congr 2; omega
  rw [e2, e3, rnd_exact _ _ (Nat.two_pow_pos _), ← e3, ← e0]
  simp only [mul_pow_neg]
  by_cases hn : n < 0
  · have := mul_pow_neg n 1074
    have h1 : n * 2 ^ 1074 < 0 := by rw [this]; exact hn
    simp only [hn, decide_true, sgn, if_true]
    omega
  · have h1 : 0 ≤ n * 2 ^ 1074 := Int.mul_nonneg (by omega) (Int.le_of_lt (Int.pow_pos (by decide)))
    simp only [hn, decide_false, sgn, Bool.false_eq_true, if_false]
    omega
theorem IZ.add {x y : Nat} {a b : Int} (hx : IZ x a) (hy : IZ y b) (h : (a + b).natAbs < 2 ^ 53) : IZ (fop .add x y) (a + b) := by
  unfold IZ at *
  rw [ev_add, hx, hy]
  show rdE (a * 2 ^ 1074 + b * 2 ^ 1074) (-1074) = _
  rw [← Int.add_mul, rdE_int h]
theorem IZ.sub {x y : Nat} {a b : Int} (hx : IZ x a) (hy : IZ y b) (h : (a - b).natAbs < 2 ^ 53) : IZ (fop .sub x y) (a - b) := by
  unfold IZ at *
  rw [ev_sub, hx, hy]
  show rdE (a * 2 ^ 1074 + -(b * 2 ^ 1074)) (-1074) = _
  rw [← Int.sub_eq_add_neg, ← Int.sub_mul, rdE_int h]
theorem IZ.mul {x y : Nat} {a b : Int} (hx : IZ x a) (hy : IZ y b) (h : (a * b).natAbs < 2 ^ 53) : IZ (fop .mul x y) (a * b) := by
  unfold IZ at *
  rw [ev_mul, hx, hy]
  show rdE (a * 2 ^ 1074 * (b * 2 ^ 1074)) (-2148) = _
  have e : a * 2 ^ 1074 * (b * 2 ^ 1074) = a * b * 2 ^ 1074 * 2 ^ 1074 := by
    generalize (2 : Int) ^ 1074 = t
    rw [Int.mul_assoc, Int.mul_assoc, Int.mul_assoc, Int.mul_left_comm t b t]
  rw [e]
  have := rdE_scale (a * b * 2 ^ 1074) 1074 (-1074)
  rw [show (-1074 : Int) - ((1074 : Nat) : Int) = -2148 from rfl] at this
  rw [this, rdE_int h]
theorem IZ_of_int {n : Int} (h : n.natAbs < 2 ^ 53) : IZ (floatOfInt .f64 n) n := by
  have e : floatOfInt .f64 n = nearW (decide (n < 0)) n.natAbs 0 := by
    show wr (.number (decide (n < 0)) n.natAbs 0) = _
    rw [wr_num]
  have := rdE_scale n 1074 0
  rw [show (0 : Int) - ((1074 : Nat) : Int) = -1074 from rfl, rdE_int h] at this
  unfold IZ
  rw [e, ev_nearW _ _ _ (fun _ => rfl), ← this]
theorem IZ.cn {x : Nat} {a : Int} (h : IZ (SurdFp.cn x) a) : IZ x a := by unfold IZ at *; rwa [ev_cn] at h
theorem IZ.to_cn {x : Nat} {a : Int} (h : IZ x a) : IZ (SurdFp.cn x) a := by unfold IZ at *; rwa [ev_cn]

/-! ### Gaussian numbers -/
abbrev GI := Int × Int
def gmul (a b : GI) : GI := (a.1 * b.1 - a.2 * b.2, a.1 * b.2 + a.2 * b.1)
def gadd (a b : GI) : GI := (a.1 + b.1, a.2 + b.2)
def gpow (z : GI) : Nat → GI
  | 0 => (1, 0)
  | n + 1 => gmul (gpow z n) z
def hvG : List GI → GI → GI
  | [], _ => (0, 0)
  | c :: l, z => gadd (gmul (hvG l z) z) c
theorem gmul_comm (a b : GI) : gmul a b = gmul b a := by
  unfold gmul; rw [Int.mul_comm a.1, Int.mul_comm a.2, Int.mul_comm a.1 b.2, Int.mul_comm a.2 b.1, Int.add_comm]
theorem gmul_assoc (a b c : GI) : gmul (gmul a b) c = gmul a (gmul b c) := by
  unfold gmul; refine Prod.ext ?_ ?_ <;> dsimp only <;> grind
theorem gmul_add (a b c : GI) : gmul a (gadd b c) = gadd (gmul a b) (gmul a c) := by
  unfold gmul gadd; refine Prod.ext ?_ ?_ <;> dsimp only <;> grind
theorem add_gmul (a b c : GI) : gmul (gadd a b) c = gadd (gmul a c) (gmul b c) := by
  rw [gmul_comm, gmul_add, gmul_comm c a, gmul_comm c b]
theorem gadd_assoc (a b c : GI) : gadd (gadd a b) c = gadd a (gadd b c) := by
  unfold gadd; refine Prod.ext ?_ ?_ <;> dsimp only <;> omega
theorem gadd_comm (a b : GI) : gadd a b = gadd b a := by
  unfold gadd; refine Prod.ext ?_ ?_ <;> dsimp only <;> omega
theorem gadd_zero (a : GI) : gadd a (0, 0) = a := by unfold gadd; simp
theorem zero_gadd (a : GI) : gadd (0, 0) a = a := by unfold gadd; simp
theorem zero_gmul (a : GI) : gmul (0, 0) a = (0, 0) := by unfold gmul; simp
theorem gmul_zero (a : GI) : gmul a (0, 0) = (0, 0) := by unfold gmul; simp
theorem gmul_one (a : GI) : gmul a (1, 0) = a := by unfold gmul; simp
theorem one_gmul (a : GI) : gmul (1, 0) a = a := by unfold gmul; simp
theorem gpow_add (z : GI) (m n : Nat) : gpow z (m + n) = gmul (gpow z m) (gpow z n) := by
  induction n with
  | zero => show gpow z m = gmul (gpow z m) (1, 0); rw [gmul_one]
  | succ n ih => show gmul (gpow z (m + n)) z = gmul (gpow z m) (gmul (gpow z n) z); rw [ih, gmul_assoc]
/-- one coefficient more, by a -/
theorem hvG_set (z a : GI) : ∀ (l : List GI) (t : Nat) (ht : t < l.length), hvG (l.set t (gadd l[t] a)) z = gadd (hvG l z) (gmul a (gpow z t))
  | c :: l, 0, _ => by
    show gadd (gmul (hvG l z) z) (gadd c a) = gadd (gadd (gmul (hvG l z) z) c) (gmul a (1, 0))
    rw [gmul_one, gadd_assoc]
  | c :: l, t + 1, ht => by
    have ht' : t < l.length := by simpa using ht
    have ih := hvG_set z a l t ht'
    show gadd (gmul (hvG (l.set t (gadd l[t] a)) z) z) c = gadd (gadd (gmul (hvG l z) z) c) (gmul a (gmul (gpow z t) z))
    rw [ih, add_gmul, gmul_assoc, gadd_assoc, gadd_assoc, gadd_comm c]
theorem hvG_append (z : GI) : ∀ (l : List GI) (a : GI), hvG (l ++ [a]) z = gadd (hvG l z) (gmul a (gpow z l.length))
  | [], a => by
    show gadd (gmul (0, 0) z) a = gadd (0, 0) (gmul a (1, 0))
    rw [zero_gmul, gmul_one]
  | c :: l, a => by
    have ih := hvG_append z l a
    show gadd (gmul (hvG (l ++ [a]) z) z) c = gadd (gadd (gmul (hvG l z) z) c) (gmul a (gmul (gpow z l.length) z))
    rw [ih, add_gmul, gmul_assoc, gadd_assoc, gadd_assoc, gadd_comm c]
theorem hvG_take (z : GI) (l : List GI) (i : Nat) (h : i < l.length) : hvG (l.take (i + 1)) z = gadd (hvG (l.take i) z) (gmul l[i] (gpow z i)) := by
  rw [List.take_succ_eq_append_getElem h, hvG_append, List.length_take, Nat.min_eq_left (by omega)]
theorem hvG_replicate (z : GI) : ∀ n, hvG (List.replicate n (0, 0)) z = (0, 0)
  | 0 => rfl
  | n + 1 => by
    show gadd (gmul (hvG (List.replicate n (0, 0)) z) z) (0, 0) = _
    rw [hvG_replicate z n, zero_gmul, gadd_zero]
theorem getD_at (l : List GI) {i : Nat} (h : i < l.length) : l.getD i (0, 0) = l[i] := by simp [List.getD, h]
/-- the product, coefficient by coefficient: what is reached at (i, k) -/
def part (x y : List GI) (z : GI) (i k : Nat) : GI :=
  gadd (gmul (hvG (x.take i) z) (hvG y z)) (gmul (gmul (x.getD i (0, 0)) (gpow z i)) (hvG (y.take k) z))
theorem part_start (x y : List GI) (z : GI) : part x y z 0 0 = (0, 0) := by
  unfold part
  rw [List.take_zero, List.take_zero]
  show gadd (gmul (0, 0) _) (gmul _ (0, 0)) = _
  rw [zero_gmul, gmul_zero]; rfl
theorem part_zero (x y : List GI) (z : GI) (i : Nat) : part x y z i 0 = gmul (hvG (x.take i) z) (hvG y z) := by
  unfold part
  rw [List.take_zero]
  show gadd _ (gmul _ (0, 0)) = _
  rw [gmul_zero, gadd_zero]
theorem part_row (x y : List GI) (z : GI) (i : Nat) (hi : i < x.length) : part x y z i y.length = part x y z (i + 1) 0 := by
  rw [part_zero, hvG_take z x i hi, add_gmul]
  unfold part
  rw [List.take_length, getD_at _ hi]
theorem part_step (x y : List GI) (z : GI) (i k : Nat) (hi : i < x.length) (hk : k < y.length) :
    part x y z i (k + 1) = gadd (part x y z i k) (gmul (gmul x[i] y[k]) (gpow z (i + k))) := by
  unfold part
  rw [hvG_take z y k hk, gmul_add, ← gadd_assoc, getD_at _ hi, gpow_add]
  congr 1
  generalize x[i] = a
  generalize y[k] = b
  generalize gpow z i = p
  generalize gpow z k = q
  rw [gmul_assoc, gmul_assoc, ← gmul_assoc p b q, gmul_comm p b, gmul_assoc b p q]
theorem part_end (x y : List GI) (z : GI) : part x y z x.length 0 = gmul (hvG x z) (hvG y z) := by
  rw [part_zero, List.take_length]

/-! ### sizes -/
def Bd (B : Nat) (g : GI) : Prop := g.1.natAbs ≤ B ∧ g.2.natAbs ≤ B
def IZC (c : CB) (g : GI) : Prop := IZ c.1 g.1 ∧ IZ c.2 g.2
theorem natAbs_mul_le {a b : Int} {A B : Nat} (ha : a.natAbs ≤ A) (hb : b.natAbs ≤ B) : (a * b).natAbs ≤ A * B := by
  rw [Int.natAbs_mul]; exact Nat.mul_le_mul ha hb
theorem Bd.mul {A B : Nat} {a b : GI} (ha : Bd A a) (hb : Bd B b) : Bd (2 * (A * B)) (gmul a b) := by
  have h1 := natAbs_mul_le ha.1 hb.1
  have h2 := natAbs_mul_le ha.2 hb.2
  have h3 := natAbs_mul_le ha.1 hb.2
  have h4 := natAbs_mul_le ha.2 hb.1
  unfold gmul
  constructor <;> dsimp only <;> omega
theorem Bd.add {A B : Nat} {a b : GI} (ha : Bd A a) (hb : Bd B b) : Bd (A + B) (gadd a b) := by
  unfold gadd
  have := ha.1
  have := ha.2
  have := hb.1
  have := hb.2
  constructor <;> dsimp only <;> omega
theorem Bd.weak {A B : Nat} {a : GI} (h : Bd A a) (hAB : A ≤ B) : Bd B a := ⟨Nat.le_trans h.1 hAB, Nat.le_trans h.2 hAB⟩
theorem IZC.mul {c d : CB} {a b : GI} {A B : Nat} (hc : IZC c a) (hd : IZC d b) (ha : Bd A a) (hb : Bd B b) (h : 2 * (A * B) < 2 ^ 53) : IZC (cmul c d) (gmul a b) := by
  have h1 := natAbs_mul_le ha.1 hb.1
  have h2 := natAbs_mul_le ha.2 hb.2
  have h3 := natAbs_mul_le ha.1 hb.2
  have h4 := natAbs_mul_le ha.2 hb.1
  have hg := Bd.mul ha hb
  unfold gmul at hg
  exact ⟨(hc.1.mul hd.1 (by omega)).sub (hc.2.mul hd.2 (by omega)) (by have := hg.1; dsimp only at this; omega), (hc.1.mul hd.2 (by omega)).add (hc.2.mul hd.1 (by omega)) (by have := hg.2; dsimp only at this; omega)⟩
theorem IZC.add {c d : CB} {a b : GI} {A B : Nat} (hc : IZC c a) (hd : IZC d b) (ha : Bd A a) (hb : Bd B b) (h : A + B < 2 ^ 53) : IZC (cadd c d) (gadd a b) := by
  have hg := Bd.add ha hb
  unfold gadd at hg
  exact ⟨hc.1.add hd.1 (by have := hg.1; dsimp only at this; omega), hc.2.add hd.2 (by have := hg.2; dsimp only at this; omega)⟩
theorem IZ_zero : IZ 0 0 := by
  unfold IZ
  rw [Int.zero_mul]; exact ev_0
/-- the greatest part of a value of n coefficients below C, at a place below 16 -/
def hb (C : Nat) : Nat → Nat
  | 0 => 0
  | 1 => C
  | n + 2 => 2 * (hb C (n + 1) * 15) + C
theorem hv_int {z : CB} {zg : GI} (hz : IZC z zg) (bz : Bd 15 zg) (C : Nat) : ∀ (l : List CB) (g : List GI), l.length = g.length → (∀ j (h : j < l.length) (h' : j < g.length), IZC l[j] g[j] ∧ Bd C g[j]) → (∀ m, m ≤ l.length → hb C m < 2 ^ 53) →
    IZC (hv l z) (hvG g zg) ∧ Bd (hb C l.length) (hvG g zg)
  | [], [], _, _, _ => ⟨⟨IZ_zero, IZ_zero⟩, by simp [Bd, hvG]⟩
  | [c], [a], _, h, _ => by
    have h0 := h 0 (by simp) (by simp)
    have e : hvG [a] zg = a := by show gadd (gmul (0, 0) zg) a = a; rw [zero_gmul, zero_gadd]
    rw [e]
    exact h0
  | c :: d :: l, a :: b :: g, hl, h, hm => by
    have ih := hv_int hz bz C (d :: l) (b :: g) (by simpa using hl) (fun j h1 h2 => h (j + 1) (by simpa using h1) (by simpa using h2)) (fun m hm' => hm m (by simp at hm' ⊢; omega))
    have h0 := h 0 (by simp) (by simp)
    have hM := hm (l.length + 2) (by simp)
    have e1 : (d :: l).length = l.length + 1 := rfl
    have e2 : (c :: d :: l).length = l.length + 2 := rfl
    rw [e1] at ih
    rw [e2]
    have e3 : hb C (l.length + 2) = 2 * (hb C (l.length + 1) * 15) + C := rfl
    rw [e3] at hM ⊢
    have p1 := ih.1.mul hz ih.2 bz (by omega)
    have p2 := Bd.mul ih.2 bz
    exact ⟨p1.add h0.1 p2 h0.2 (by omega), p2.add h0.2⟩
theorem not_nan_of_IZ {x : Nat} {a : Int} (h : IZ x a) : nan x = false := not_nan_of_fin (fin_of_ev h)
theorem IZ.eq {x y : Nat} {a : Int} (hx : IZ x a) (hy : IZ y a) : FloatKind.f64.format.order x y = some .eq :=
  order_eq_of_ev (hx.trans hy.symm) (not_nan_of_IZ hx)
theorem sizes_ok : ∀ m, m ≤ 7 → hb 127008 m < 2 ^ 53 := by decide
end SurdFp
end Go
