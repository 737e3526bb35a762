/- Plain laws on IEEE 754 double precision numbers as the model has them: values, rounding, Horner's rule on bits. No condition. No program is in sight here. -/
import Derived.Laws.FloatArith
namespace Go
namespace SurdFp
open Ieee

def rd (x : Nat) : Datum := FloatKind.f64.format.read x
def sg (x : Nat) : Bool := x / 2 ^ 63 % 2 == 1
/-- finite -/
def fin (x : Nat) : Bool := decide (x % 2 ^ 63 < 2047 * 2 ^ 52)
/-- no number -/
def nan (x : Nat) : Bool := decide (2047 * 2 ^ 52 < x % 2 ^ 63)

theorem rd_eq (x : Nat) : rd x = if x % 2 ^ 63 < 2 ^ 52 then .number (sg x) (x % 2 ^ 63) (-1074)
    else if x % 2 ^ 63 < 2047 * 2 ^ 52 then .number (sg x) (2 ^ 52 + x % 2 ^ 63 % 2 ^ 52) (-1074 + ((x % 2 ^ 63 / 2 ^ 52 - 1 : Nat) : Int))
    else if x % 2 ^ 63 = 2047 * 2 ^ 52 then .infinity (sg x) else .nan (sg x) (x % 2 ^ 63 - 2047 * 2 ^ 52) := rfl

/-- the significand and the place of a rung -/
def mg (r : Nat) : Nat := if r < 2 ^ 52 then r else 2 ^ 52 + r % 2 ^ 52
def pl (r : Nat) : Nat := r / 2 ^ 52 - 1

theorem rd_fin {x : Nat} (h : fin x = true) : rd x = .number (sg x) (mg (x % 2 ^ 63)) (-1074 + (pl (x % 2 ^ 63) : Int)) := by
  rw [rd_eq]
  have h' : x % 2 ^ 63 < 2047 * 2 ^ 52 := by simpa [fin] using h
  unfold mg pl
  by_cases h1 : x % 2 ^ 63 < 2 ^ 52
  · rw [if_pos h1, if_pos h1]
    have : x % 2 ^ 63 / 2 ^ 52 = 0 := Nat.div_eq_of_lt h1
    rw [this]; rfl
  · rw [if_neg h1, if_neg h1, if_pos h']

theorem rd_nan {x : Nat} (h : nan x = true) : ∃ t, rd x = .nan (sg x) t := by
  have h' : 2047 * 2 ^ 52 < x % 2 ^ 63 := by simpa [nan] using h
  rw [rd_eq, if_neg (by omega), if_neg (by omega), if_neg (by omega)]
  exact ⟨_, rfl⟩

theorem rd_inf {x : Nat} (h1 : fin x = false) (h2 : nan x = false) : rd x = .infinity (sg x) := by
  have h1' : ¬ x % 2 ^ 63 < 2047 * 2 ^ 52 := by simpa [fin] using h1
  have h2' : ¬ 2047 * 2 ^ 52 < x % 2 ^ 63 := by simpa [nan] using h2
  rw [rd_eq, if_neg (by omega), if_neg (by omega), if_pos (by omega)]

theorem not_nan_of_fin {x : Nat} (h : fin x = true) : nan x = false := by
  have h' : x % 2 ^ 63 < 2047 * 2 ^ 52 := by simpa [fin] using h
  simp [nan]; omega
theorem not_fin_of_nan {x : Nat} (h : nan x = true) : fin x = false := by
  have h' : 2047 * 2 ^ 52 < x % 2 ^ 63 := by simpa [nan] using h
  simp [fin]; omega

/-- What may come of an operation: the bits, or, of an invalid one, some NaN. -/
def FOp (op : BinOp) (x y r : Nat) : Prop := floatBits op .f64 x y = some r ∨ (floatBits op .f64 x y = none ∧ nan r = true)

def wr (d : Datum) : Nat := FloatKind.f64.format.write d

theorem fb_add (x y : Nat) : floatBits .add .f64 x y = ((rd x).sum (rd y)).map wr := rfl
theorem fb_sub (x y : Nat) : floatBits .sub .f64 x y = ((rd x).sum (rd y).opposite).map wr := rfl
theorem fb_mul (x y : Nat) : floatBits .mul .f64 x y = ((rd x).product (rd y)).map wr := rfl

theorem wr_inf (s : Bool) : fin (wr (.infinity s)) = false ∧ nan (wr (.infinity s)) = false ∧ sg (wr (.infinity s)) = s := by
  cases s <;> decide +kernel

/-! ### what is no number stays none -/

theorem mul_nonfin {x y r : Nat} (h : FOp .mul x y r) (hx : fin x = false ∨ fin y = false) : fin r = false := by
  unfold FOp at h
  rw [fb_mul] at h
  rcases h with h | ⟨-, h⟩
  · revert h
    cases hnx : nan x
    · cases hny : nan y
      · cases hfx : fin x
        · rw [rd_inf hfx hnx]
          cases hfy : fin y
          · rw [rd_inf hfy hny]
            intro h; simp [Datum.product] at h; subst h; exact (wr_inf _).1
          · rw [rd_fin hfy]
            intro h; simp only [Datum.product] at h
            split at h
            · simp at h
            · simp at h; subst h; exact (wr_inf _).1
        · cases hfy : fin y
          · rw [rd_fin hfx, rd_inf hfy hny]
            intro h; simp only [Datum.product] at h
            split at h
            · simp at h
            · simp at h; subst h; exact (wr_inf _).1
          · simp [hfx, hfy] at hx
      · obtain ⟨t, e⟩ := rd_nan hny
        rw [e]; cases rd x <;> simp [Datum.product]
    · obtain ⟨t, e⟩ := rd_nan hnx
      rw [e]; simp [Datum.product]
  · exact not_fin_of_nan h

theorem mul_nan {x y r : Nat} (h : FOp .mul x y r) (hx : nan x = true ∨ nan y = true) : nan r = true := by
  unfold FOp at h
  rw [fb_mul] at h
  rcases h with h | ⟨-, h⟩
  · exfalso
    rcases hx with hx | hx
    · obtain ⟨t, e⟩ := rd_nan hx
      rw [e] at h; simp [Datum.product] at h
    · obtain ⟨t, e⟩ := rd_nan hx
      rw [e] at h; cases hh : rd x <;> rw [hh] at h <;> simp [Datum.product] at h
  · exact h

theorem sum_nonfin {x : Nat} {d : Datum} {r : Nat} (hx : fin x = false) (h : ((rd x).sum d).map wr = some r) : fin r = false := by
  revert h
  cases hnx : nan x
  · rw [rd_inf hx hnx]
    cases d with
    | number s m e => intro h; simp [Datum.sum] at h; subst h; exact (wr_inf _).1
    | infinity t =>
      intro h; simp only [Datum.sum] at h
      split at h
      · simp at h; subst h; exact (wr_inf _).1
      · simp at h
    | nan => simp [Datum.sum]
  · obtain ⟨t, e⟩ := rd_nan hnx
    rw [e]; simp [Datum.sum]

theorem sum_nonfin' {x : Nat} {d : Datum} {r : Nat} (hx : fin x = false) (f : Bool) (h : (d.sum (if f then (rd x).opposite else rd x)).map wr = some r) : fin r = false := by
  revert h
  cases hnx : nan x
  · rw [rd_inf hx hnx]
    cases d with
    | number s m e => intro h; cases f <;> simp [Datum.sum, Datum.opposite] at h <;> subst h <;> exact (wr_inf _).1
    | infinity t =>
      intro h; cases f <;> simp only [Datum.sum, Datum.opposite, if_true, if_false, Bool.false_eq_true] at h
      all_goals
        split at h
        · simp at h; subst h; exact (wr_inf _).1
        · simp at h
    | nan => simp [Datum.sum]
  · obtain ⟨t, e⟩ := rd_nan hnx
    rw [e]; cases f <;> cases d <;> simp [Datum.sum, Datum.opposite]

theorem add_nonfin {x y r : Nat} (h : FOp .add x y r) (hx : fin x = false ∨ fin y = false) : fin r = false := by
  unfold FOp at h
  rw [fb_add] at h
  rcases h with h | ⟨-, h⟩
  · rcases hx with hx | hx
    · exact sum_nonfin hx h
    · exact sum_nonfin' hx false h
  · exact not_fin_of_nan h

theorem sub_nonfin {x y r : Nat} (h : FOp .sub x y r) (hx : fin x = false ∨ fin y = false) : fin r = false := by
  unfold FOp at h
  rw [fb_sub] at h
  rcases h with h | ⟨-, h⟩
  · rcases hx with hx | hx
    · exact sum_nonfin hx h
    · exact sum_nonfin' hx true h
  · exact not_fin_of_nan h

theorem sum_nan (d e : Datum) (h : d.isNaN = true ∨ e.isNaN = true) : d.sum e = none := by
  cases d <;> cases e <;> simp [Datum.isNaN] at h <;> simp [Datum.sum]

theorem isNaN_rd {x : Nat} (h : nan x = true) : (rd x).isNaN = true := by
  obtain ⟨t, e⟩ := rd_nan h
  rw [e]; rfl
theorem isNaN_opp {x : Nat} (h : nan x = true) : (rd x).opposite.isNaN = true := by
  obtain ⟨t, e⟩ := rd_nan h
  rw [e]; rfl

theorem add_nan {x y r : Nat} (h : FOp .add x y r) (hx : nan x = true ∨ nan y = true) : nan r = true := by
  unfold FOp at h
  rw [fb_add, sum_nan _ _ (hx.imp isNaN_rd isNaN_rd)] at h
  simpa using h

theorem sub_nan {x y r : Nat} (h : FOp .sub x y r) (hx : nan x = true ∨ nan y = true) : nan r = true := by
  unfold FOp at h
  rw [fb_sub, sum_nan _ _ (hx.imp isNaN_rd isNaN_opp)] at h
  simpa using h

/-- 'x - x' is no number just where x is not finite. -/
theorem sub_self_nan {x r : Nat} (h : FOp .sub x x r) : nan r = !fin x := by
  cases hf : fin x
  · unfold FOp at h
    rw [fb_sub] at h
    cases hn : nan x
    · rw [rd_inf hf hn] at h
      cases hs : sg x <;> simp [Datum.sum, Datum.opposite, hs] at h <;> simpa using h
    · rw [sum_nan _ _ (.inl (isNaN_rd hn))] at h
      simpa using h
  · unfold FOp at h
    rw [fb_sub, rd_fin hf] at h
    have e : ∀ (s : Bool) (m : Nat) (p : Int), ((Datum.number s m p).sum (Datum.number s m p).opposite) = some (.number false 0 p) := by
      intro s m p
      have z : ∀ k, signed s m k + signed (!s) m k = 0 := by intro k; cases s <;> simp [signed] <;> omega
      simp [Datum.sum, Datum.opposite, z]
    rw [e] at h
    simp at h
    have : wr (.number false 0 (-1074 + (pl (x % 2 ^ 63) : Int))) = 0 := rfl
    rw [this] at h
    subst h; rfl

/-! ### comparing -/
theorem order_nan (x y : Nat) (h : nan x = true ∨ nan y = true) : FloatKind.f64.format.order x y = none := by
  show (rd x).order (rd y) = none
  rcases h with h | h
  · obtain ⟨t, e⟩ := rd_nan h
    rw [e]; simp [Datum.order]
  · obtain ⟨t, e⟩ := rd_nan h
    rw [e]; cases rd x <;> simp [Datum.order]

theorem order_self (x : Nat) (h : nan x = false) : FloatKind.f64.format.order x x = some .eq := by
  show (rd x).order (rd x) = some .eq
  cases hf : fin x
  · rw [rd_inf hf h]; simp [Datum.order]
  · rw [rd_fin hf]; simp [Datum.order]

/-- Go's 'x != x'. -/
theorem neq_self (x : Nat) : (FloatKind.f64.format.order x x != some .eq) = nan x := by
  cases h : nan x
  · rw [order_self x h]; rfl
  · rw [order_nan x x (.inl h)]; rfl
theorem eql_self (x : Nat) : (FloatKind.f64.format.order x x == some .eq) = !nan x := by
  cases h : nan x
  · rw [order_self x h]; rfl
  · rw [order_nan x x (.inl h)]; rfl

end SurdFp
end Go
namespace Go
namespace SurdFp
open Ieee

/-! ### rounding: n / g to the nearest, ties to even -/
def up1 (n g : Nat) : Nat := if g < 2 * (n % g) ∨ (g = 2 * (n % g) ∧ n / g % 2 = 1) then 1 else 0
def rnd (n g : Nat) : Nat := n / g + up1 n g

theorem rnd_mul (n g c : Nat) (hc : 0 < c) : rnd (n * c) (g * c) = rnd n g := by
  unfold rnd up1
  rw [Nat.mul_div_mul_right _ _ hc, Nat.mul_mod_mul_right]
  have h1 : (g * c < 2 * (n % g * c)) ↔ g < 2 * (n % g) := by
    rw [← Nat.mul_assoc]; exact Nat.mul_lt_mul_right hc
  have h2 : (g * c = 2 * (n % g * c)) ↔ g = 2 * (n % g) := by
    rw [← Nat.mul_assoc]; exact Nat.mul_right_cancel_iff hc
  simp only [h1, h2]

theorem rnd_one (n : Nat) : rnd n 1 = n := by
  unfold rnd up1; rw [Nat.mod_one, Nat.div_one, if_neg (by omega)]; rfl

theorem rnd_exact (n g : Nat) (hg : 0 < g) : rnd (n * g) g = n := by
  have := rnd_mul n 1 g hg
  rw [Nat.one_mul] at this
  rw [this, rnd_one]

theorem rnd_small (n g : Nat) (h : 2 * n < g) : rnd n g = 0 := by
  unfold rnd up1
  rw [Nat.div_eq_of_lt (by omega), Nat.mod_eq_of_lt (by omega), if_neg (by omega)]

theorem cut_eq (neg : Bool) (n drop : Nat) : Toward.even.cut neg n drop = rnd n (2 ^ drop) := by
  unfold Toward.cut
  by_cases h : drop ≤ n.log2 + 2
  · rw [Nat.min_eq_left h]
    simp only [Nat.one_shiftLeft]
    unfold rnd up1
    congr 1
    split
    · rename_i hh
      have : (decide (2 ^ drop < 2 * (n % 2 ^ drop)) || (2 ^ drop == 2 * (n % 2 ^ drop)) && (n / 2 ^ drop % 2 == 1)) = true := by
        simpa using hh
      rw [this]; rfl
    · rename_i hh
      have : (decide (2 ^ drop < 2 * (n % 2 ^ drop)) || (2 ^ drop == 2 * (n % 2 ^ drop)) && (n / 2 ^ drop % 2 == 1)) = false := by
        rw [Bool.eq_false_iff]; intro hc; exact hh (by simpa using hc)
      rw [this]; rfl
  · rw [Nat.min_eq_right (by omega)]
    have hn : n < 2 ^ (n.log2 + 1) := Nat.lt_log2_self
    have h2 : 2 ^ (n.log2 + 2) = 2 * 2 ^ (n.log2 + 1) := by rw [Nat.pow_succ]; omega
    simp only [Nat.one_shiftLeft]
    rw [Nat.div_eq_of_lt (by omega), Nat.mod_eq_of_lt (by omega)]
    have e : (decide (2 ^ (n.log2 + 2) < 2 * n) || (2 ^ (n.log2 + 2) == 2 * n) && (0 % 2 == 1)) = false := by
      rw [Bool.eq_false_iff]; intro hc; simp at hc; omega
    rw [e]
    have hd : 2 ^ (n.log2 + 2) ≤ 2 ^ drop := Nat.pow_le_pow_right (by omega) (by omega)
    rw [rnd_small n _ (by omega)]; rfl

/-- the place of the last digit that is kept -/
def lastOf (n : Nat) (p : Int) : Int := max (p + n.log2 - 52) (-1074)
/-- the rung to which 'n * 2 ^ p' is rounded, infinity's at the most -/
def rung (n : Nat) (p : Int) : Nat :=
  if n = 0 then 0 else
  min ((lastOf n p + 1074).toNat * 2 ^ 52 + rnd (n * 2 ^ (p - lastOf n p).toNat) (2 ^ (lastOf n p - p).toNat)) (2047 * 2 ^ 52)

theorem nearest_eq (s : Bool) (n : Nat) (p : Int) : FloatKind.f64.format.nearest s n p = FloatKind.f64.format.word s (rung n p) := by
  unfold Format.nearest rung
  by_cases h : n = 0
  · rw [if_pos h, if_pos h]
  · rw [if_neg h, if_neg h]
    dsimp only
    rw [cut_eq, Nat.shiftLeft_eq]
    rfl

theorem word_eq (s : Bool) (r : Nat) : FloatKind.f64.format.word s r = if s then 2 ^ 63 + r else r := rfl

theorem log2_mul_pow (n k : Nat) (hn : n ≠ 0) : (n * 2 ^ k).log2 = n.log2 + k := by
  have h1 : 2 ^ n.log2 ≤ n := Nat.log2_self_le hn
  have h2 : n < 2 ^ (n.log2 + 1) := Nat.lt_log2_self
  have hp : 0 < 2 ^ k := Nat.two_pow_pos k
  have hne : n * 2 ^ k ≠ 0 := Nat.mul_ne_zero hn (by omega)
  rw [Nat.log2_eq_iff hne]
  constructor
  · rw [Nat.pow_add]; exact Nat.mul_le_mul_right _ h1
  · rw [show n.log2 + k + 1 = n.log2 + 1 + k from by omega, Nat.pow_add]; exact Nat.mul_lt_mul_of_pos_right h2 hp

/-- The rung hangs on the number alone. -/
theorem rung_scale (n k : Nat) (p : Int) : rung (n * 2 ^ k) (p - k) = rung n p := by
  unfold rung
  by_cases h : n = 0
  · subst h; simp
  · have hne : n * 2 ^ k ≠ 0 := Nat.mul_ne_zero h (by have := Nat.two_pow_pos k; omega)
    rw [if_neg h, if_neg hne]
    have hl : lastOf (n * 2 ^ k) (p - k) = lastOf n p := by
      unfold lastOf; rw [log2_mul_pow n k h]; congr 1; omega
    rw [hl]
    generalize lastOf n p = L
    congr 2
    by_cases h1 : (k : Int) ≤ p - L
    · have e1 : (p - (k : Int) - L).toNat + k = (p - L).toNat := by omega
      have e2 : (L - (p - k)).toNat = 0 := by omega
      have e3 : (L - p).toNat = 0 := by omega
      rw [e2, e3, Nat.mul_assoc, ← Nat.pow_add, Nat.add_comm k, e1]
    · by_cases h2 : 0 ≤ p - L
      · obtain ⟨c, hc⟩ : ∃ c : Nat, (c : Int) = k - (p - L) := ⟨(k - (p - L)).toNat, by omega⟩
        have e1 : (p - (k : Int) - L).toNat = 0 := by omega
        have e2 : (L - (p - k)).toNat = c := by omega
        have e3 : (L - p).toNat = 0 := by omega
        have e4 : k = (p - L).toNat + c := by omega
        rw [e1, e2, e3, Nat.pow_zero, Nat.mul_one]
        rw [show n * 2 ^ k = n * 2 ^ (p - L).toNat * 2 ^ c from by rw [Nat.mul_assoc, ← Nat.pow_add, ← e4]]
        have := rnd_mul (n * 2 ^ (p - L).toNat) 1 (2 ^ c) (Nat.two_pow_pos _)
        rw [Nat.one_mul] at this; rw [this]
      · have e1 : (p - (k : Int) - L).toNat = 0 := by omega
        have e3 : (p - L).toNat = 0 := by omega
        have e2 : (L - (p - k)).toNat = (L - p).toNat + k := by omega
        rw [e1, e2, e3, Nat.pow_zero, Nat.mul_one, Nat.mul_one, Nat.pow_add]
        exact rnd_mul _ _ _ (Nat.two_pow_pos _)

/-- the same number written in two ways -/
theorem rung_congr {n n' : Nat} {p p' : Int} {a b : Nat} (hp : p - a = p' - b) (hn : n * 2 ^ a = n' * 2 ^ b) : rung n p = rung n' p' := by
  rw [← rung_scale n a p, ← rung_scale n' b p', hp, hn]

theorem mg_pos {r : Nat} (h : r ≠ 0) : mg r ≠ 0 := by unfold mg; split <;> omega
theorem mg_lt (r : Nat) : mg r < 2 ^ 53 := by unfold mg; split <;> omega

/-- A float is rounded to itself. -/
theorem rung_mg (r : Nat) (h : r < 2047 * 2 ^ 52) : rung (mg r) (-1074 + (pl r : Int)) = r := by
  unfold rung
  by_cases h0 : r = 0
  · subst h0; rfl
  · rw [if_neg (mg_pos h0)]
    by_cases h1 : r < 2 ^ 52
    · have hm : mg r = r := by unfold mg; rw [if_pos h1]
      have hp : pl r = 0 := by unfold pl; rw [Nat.div_eq_of_lt h1]
      rw [hm, hp]
      have hl : r.log2 < 52 := (Nat.log2_lt h0).2 h1
      have hL : lastOf r (-1074 + ((0 : Nat) : Int)) = -1074 := by unfold lastOf; omega
      rw [hL]
      simp only [show ((-1074 : Int) + 1074).toNat = 0 from rfl, show (-1074 + ((0 : Nat) : Int) - -1074).toNat = 0 from rfl, show ((-1074 : Int) - (-1074 + ((0 : Nat) : Int))).toNat = 0 from rfl, Nat.pow_zero, Nat.mul_one, rnd_one]
      omega
    · have hm : mg r = 2 ^ 52 + r % 2 ^ 52 := by unfold mg; rw [if_neg h1]
      have hl : (mg r).log2 = 52 := by
        rw [Nat.log2_eq_iff (mg_pos h0), hm]; omega
      have hL : lastOf (mg r) (-1074 + (pl r : Int)) = -1074 + (pl r : Int) := by unfold lastOf; rw [hl]; omega
      rw [hL]
      have e1 : (-1074 + (pl r : Int) + 1074).toNat = pl r := by omega
      have e2 : (-1074 + (pl r : Int) - (-1074 + (pl r : Int))).toNat = 0 := by omega
      rw [e1, e2, Nat.pow_zero, Nat.mul_one, rnd_one, hm]
      unfold pl
      omega

end SurdFp
end Go
namespace Go
namespace SurdFp
open Ieee

/-! ### values: a finite float is a whole number of 2 ^ -1074 -/
/-- the magnitude of a rung -/
def mv (r : Nat) : Nat := mg r * 2 ^ pl r
def sgn (s : Bool) (n : Nat) : Int := if s then -(n : Int) else n
def vl (x : Nat) : Int := sgn (sg x) (mv (x % 2 ^ 63))

theorem mv_inj {r r' : Nat} (h : r < 2047 * 2 ^ 52) (h' : r' < 2047 * 2 ^ 52) (e : mv r = mv r') : r = r' := by
  rw [← rung_mg r h, ← rung_mg r' h']
  exact rung_congr (a := pl r) (b := pl r') (by omega) e
theorem mv_zero {r : Nat} (h : mv r = 0) : r = 0 := by
  unfold mv at h
  rcases Nat.mul_eq_zero.1 h with h | h
  · by_cases h0 : r = 0
    · exact h0
    · exact absurd h (mg_pos h0)
  · have := Nat.two_pow_pos (pl r); omega

theorem sgn_natAbs (s : Bool) (n : Nat) : (sgn s n).natAbs = n := by cases s <;> simp [sgn]
theorem signed_eq (s : Bool) (m k : Nat) : signed s m k = sgn s (m * 2 ^ k) := by
  unfold signed sgn; rw [Nat.shiftLeft_eq]
theorem sgn_mul_pow (s : Bool) (n k : Nat) : sgn s (n * 2 ^ k) = sgn s n * 2 ^ k := by
  have e : ((n * 2 ^ k : Nat) : Int) = (n : Int) * 2 ^ k := by simp
  unfold sgn; split
  · rw [e, Int.neg_mul]
  · exact e

def nearW (s : Bool) (n : Nat) (p : Int) : Nat := if s then 2 ^ 63 + rung n p else rung n p
theorem wr_num (s : Bool) (n : Nat) (p : Int) : wr (.number s n p) = nearW s n p := by
  show FloatKind.f64.format.nearest s n p = _
  rw [nearest_eq, word_eq]; rfl

theorem rung_le (n : Nat) (p : Int) : rung n p ≤ 2047 * 2 ^ 52 := by
  unfold rung; split
  · omega
  · exact Nat.min_le_right _ _
theorem nearW_mod (s : Bool) (n : Nat) (p : Int) : nearW s n p % 2 ^ 63 = rung n p := by
  have := rung_le n p; unfold nearW; split <;> omega
theorem nearW_sg (s : Bool) (n : Nat) (p : Int) : sg (nearW s n p) = s := by
  have := rung_le n p
  unfold nearW sg; cases s
  · rw [if_neg (by simp), Nat.div_eq_of_lt (by omega)]; rfl
  · rw [if_pos rfl, show (2 ^ 63 + rung n p) / 2 ^ 63 = 1 from by omega]; rfl
theorem nearW_nan (s : Bool) (n : Nat) (p : Int) : nan (nearW s n p) = false := by
  have := rung_le n p; unfold nan; rw [nearW_mod]; simp; omega
theorem nearW_fin (s : Bool) (n : Nat) (p : Int) : fin (nearW s n p) = decide (rung n p < 2047 * 2 ^ 52) := by
  unfold fin; rw [nearW_mod]

/-- what a float stands for, the signs of noughts and the bits of NaNs struck -/
inductive Ext where
  | none
  | inf (s : Bool)
  | num (v : Int)
  deriving DecidableEq

def ev (x : Nat) : Ext := if fin x then .num (vl x) else if nan x then .none else .inf (sg x)

theorem ev_fin {x : Nat} (h : fin x = true) : ev x = .num (vl x) := by unfold ev; rw [if_pos h]
theorem ev_nan {x : Nat} (h : nan x = true) : ev x = .none := by unfold ev; rw [if_neg (by simp [not_fin_of_nan h]), if_pos h]
theorem ev_inf {x : Nat} (h : fin x = false) (h' : nan x = false) : ev x = .inf (sg x) := by unfold ev; rw [if_neg (by simp [h]), if_neg (by simp [h'])]

/-- 'n' units of 2 ^ p rounded -/
def rdE (n : Int) (p : Int) : Ext :=
  if rung n.natAbs p < 2047 * 2 ^ 52 then .num (sgn (decide (n < 0)) (mv (rung n.natAbs p))) else .inf (decide (n < 0))

theorem rung_zero (p : Int) : rung 0 p = 0 := rfl
theorem mv_0 : mv 0 = 0 := rfl
theorem ev_nearW (s : Bool) (n : Int) (p : Int) (h : n ≠ 0 → s = decide (n < 0)) : ev (nearW s n.natAbs p) = rdE n p := by
  by_cases h0 : n = 0
  · subst h0
    have e : rung (0 : Int).natAbs p = 0 := rung_zero p
    rw [ev_fin (by rw [nearW_fin, e]; rfl)]
    unfold rdE vl
    rw [nearW_mod, e, if_pos (by omega), nearW_sg, mv_0]
    cases s <;> rfl
  · rw [h h0]
    unfold rdE
    by_cases h1 : rung n.natAbs p < 2047 * 2 ^ 52
    · rw [if_pos h1, ev_fin (by rw [nearW_fin]; simpa using h1)]
      unfold vl; rw [nearW_sg, nearW_mod]
    · rw [if_neg h1, ev_inf (by rw [nearW_fin]; simpa using h1) (nearW_nan _ _ _), nearW_sg]

def addE : Ext → Ext → Ext
  | .none, _ | _, .none => .none
  | .inf s, .inf t => if s = t then .inf s else .none
  | .inf s, .num _ | .num _, .inf s => .inf s
  | .num a, .num b => rdE (a + b) (-1074)
def negE : Ext → Ext
  | .none => .none
  | .inf s => .inf (!s)
  | .num a => .num (-a)
def subE (x y : Ext) : Ext := addE x (negE y)
def mulE : Ext → Ext → Ext
  | .none, _ | _, .none => .none
  | .inf s, .inf t => .inf (s ^^ t)
  | .inf s, .num b | .num b, .inf s => if b = 0 then .none else .inf (s ^^ decide (b < 0))
  | .num a, .num b => rdE (a * b) (-2148)

/-- a datum that is read off a float (or its opposite) -/
def evD : Datum → Ext
  | .nan .. => .none
  | .infinity s => .inf s
  | .number s m p => .num (sgn s (m * 2 ^ (p + 1074).toNat))
def Low : Datum → Prop
  | .number _ _ p => -1074 ≤ p
  | _ => True

theorem evD_rd (x : Nat) : evD (rd x) = ev x := by
  cases hf : fin x
  · cases hn : nan x
    · rw [rd_inf hf hn, ev_inf hf hn]; rfl
    · obtain ⟨t, e⟩ := rd_nan hn
      rw [e, ev_nan hn]; rfl
  · rw [rd_fin hf, ev_fin hf]
    show Ext.num _ = _
    unfold vl mv
    rw [show (-1074 + (pl (x % 2 ^ 63) : Int) + 1074).toNat = pl (x % 2 ^ 63) from by omega]
theorem low_rd (x : Nat) : Low (rd x) := by
  cases hf : fin x
  · cases hn : nan x
    · rw [rd_inf hf hn]; trivial
    · obtain ⟨t, e⟩ := rd_nan hn
      rw [e]; trivial
  · rw [rd_fin hf]; show (-1074 : Int) ≤ _; omega
theorem evD_opp (d : Datum) : evD d.opposite = negE (evD d) := by
  cases d with
  | number s m p => cases s <;> simp [Datum.opposite, evD, negE, sgn]
  | infinity s => rfl
  | nan s t => rfl
theorem low_opp (d : Datum) (h : Low d) : Low d.opposite := by cases d <;> exact h

theorem wr_inf' (s : Bool) : ev (wr (.infinity s)) = .inf s := by
  rw [ev_inf (wr_inf s).1 (wr_inf s).2.1, (wr_inf s).2.2]

theorem sum_ev (d e : Datum) (hd : Low d) (he : Low e) :
    match d.sum e with
    | some c => ev (wr c) = addE (evD d) (evD e)
    | none => addE (evD d) (evD e) = .none := by
  cases d with
  | nan => simp [Datum.sum, evD, addE]
  | infinity s =>
    cases e with
    | nan => simp [Datum.sum, evD, addE]
    | infinity t =>
      by_cases h : s = t
      · subst h; simp [Datum.sum, evD, addE, wr_inf']
      · simp [Datum.sum, evD, addE, h]
    | number t n q => simp [Datum.sum, evD, addE, wr_inf']
  | number s m p =>
    cases e with
    | nan => simp [Datum.sum, evD, addE]
    | infinity t => simp [Datum.sum, evD, addE, wr_inf']
    | number t n q =>
      simp only [Datum.sum, evD, addE, signed_eq]
      have hd' : -1074 ≤ p := hd
      have he' : -1074 ≤ q := he
      obtain ⟨b, hb⟩ : ∃ b : Nat, (b : Int) = min p q + 1074 := ⟨(min p q + 1074).toNat, by omega⟩
      have e1 : (p + 1074).toNat = (p - min p q).toNat + b := by omega
      have e2 : (q + 1074).toNat = (q - min p q).toNat + b := by omega
      rw [e1, e2, Nat.pow_add, Nat.pow_add, ← Nat.mul_assoc, ← Nat.mul_assoc, sgn_mul_pow s (m * 2 ^ (p - min p q).toNat) b, sgn_mul_pow t (n * 2 ^ (q - min p q).toNat) b, ← Int.add_mul]
      generalize hT : sgn s (m * 2 ^ (p - min p q).toNat) + sgn t (n * 2 ^ (q - min p q).toNat) = T
      rw [wr_num]
      have hab : (T * 2 ^ b).natAbs = T.natAbs * 2 ^ b := by rw [Int.natAbs_mul]; simp [Int.natAbs_pow]
      have hr : rung T.natAbs (min p q) = rung (T * 2 ^ b).natAbs (-1074) := by
        rw [hab, ← rung_scale T.natAbs b (min p q)]; congr 1; omega
      have hneg : (T < 0) ↔ (T * 2 ^ b < 0) := by
        have hp : (0 : Int) < 2 ^ b := by exact_mod_cast Nat.two_pow_pos b
        constructor
        · intro h; exact Int.mul_neg_of_neg_of_pos h hp
        · intro h
          by_cases h' : T < 0
          · exact h'
          · exact absurd (Int.mul_nonneg (by omega : 0 ≤ T) (Int.le_of_lt hp)) (by omega)
      have : nearW (if T = 0 then s && t else decide (T < 0)) T.natAbs (min p q) = nearW (if T = 0 then s && t else decide (T < 0)) (T * 2 ^ b).natAbs (-1074) := by
        unfold nearW; rw [hr]
      rw [this]
      apply ev_nearW
      intro hne
      have hT0 : T ≠ 0 := by intro h; subst h; simp at hne
      rw [if_neg hT0]
      exact decide_eq_decide.2 hneg

theorem prod_ev (d e : Datum) (hd : Low d) (he : Low e) :
    match d.product e with
    | some c => ev (wr c) = mulE (evD d) (evD e)
    | none => mulE (evD d) (evD e) = .none := by
  have hz : ∀ (t : Bool) (n : Nat) (q : Int), sgn t (n * 2 ^ (q + 1074).toNat) = 0 ↔ n = 0 := by
    intro t n q
    have := Nat.two_pow_pos (q + 1074).toNat
    constructor
    · intro h
      have h2 : n * 2 ^ (q + 1074).toNat = 0 := by rw [← sgn_natAbs t (n * 2 ^ (q + 1074).toNat), h]; rfl
      rcases Nat.mul_eq_zero.1 h2 with h | h
      · exact h
      · omega
    · intro h; subst h; cases t <;> simp [sgn]
  have hs : ∀ (t : Bool) (n : Nat) (q : Int), n ≠ 0 → decide (sgn t (n * 2 ^ (q + 1074).toNat) < 0) = t := by
    intro t n q hn
    have hpos : 0 < n * 2 ^ (q + 1074).toNat := Nat.mul_pos (by omega) (Nat.two_pow_pos _)
    cases t <;> simp only [sgn, Bool.false_eq_true, if_false, if_true, decide_eq_true_eq, decide_eq_false_iff_not] <;> omega
  cases d with
  | nan => simp [Datum.product, evD, mulE]
  | infinity s =>
    cases e with
    | nan => simp [Datum.product, evD, mulE]
    | infinity t => simp [Datum.product, evD, mulE, wr_inf']
    | number t n q =>
      simp only [Datum.product, evD, mulE]
      by_cases h : n = 0
      · rw [if_pos h, if_pos ((hz _ _ _).2 h)]
      · rw [if_neg h, if_neg (fun h' => h ((hz _ _ _).1 h')), hs _ _ _ h]
        exact wr_inf' _
  | number s m p =>
    cases e with
    | nan => simp [Datum.product, evD, mulE]
    | infinity t =>
      simp only [Datum.product, evD, mulE]
      by_cases h : m = 0
      · rw [if_pos h, if_pos ((hz _ _ _).2 h)]
      · rw [if_neg h, if_neg (fun h' => h ((hz _ _ _).1 h')), hs _ _ _ h]
        exact wr_inf' _
    | number t n q =>
      simp only [Datum.product, evD, mulE]
      have hd' : -1074 ≤ p := hd
      have he' : -1074 ≤ q := he
      rw [wr_num]
      have hab : (sgn s (m * 2 ^ (p + 1074).toNat) * sgn t (n * 2 ^ (q + 1074).toNat)).natAbs = m * n * 2 ^ ((p + 1074).toNat + (q + 1074).toNat) := by
        rw [Int.natAbs_mul, sgn_natAbs, sgn_natAbs, Nat.pow_add]
        simp only [Nat.mul_assoc, Nat.mul_left_comm]
      have hr : rung (m * n) (p + q) = rung (sgn s (m * 2 ^ (p + 1074).toNat) * sgn t (n * 2 ^ (q + 1074).toNat)).natAbs (-2148) := by
        rw [hab, ← rung_scale (m * n) ((p + 1074).toNat + (q + 1074).toNat) (p + q)]; congr 1; omega
      have : nearW (s ^^ t) (m * n) (p + q) = nearW (s ^^ t) (sgn s (m * 2 ^ (p + 1074).toNat) * sgn t (n * 2 ^ (q + 1074).toNat)).natAbs (-2148) := by
        unfold nearW; rw [hr]
      rw [this]
      apply ev_nearW
      intro hne
      have hm : m ≠ 0 := by intro h; apply hne; rw [h, Nat.zero_mul, show sgn s 0 = 0 from by cases s <;> rfl, Int.zero_mul]
      have hn : n ≠ 0 := by intro h; apply hne; rw [h, Nat.zero_mul, show sgn t 0 = 0 from by cases t <;> rfl, Int.mul_zero]
      have hp1 : (0 : Int) < ((m * 2 ^ (p + 1074).toNat : Nat) : Int) := by
        exact Int.natCast_pos.2 (Nat.mul_pos (by omega) (Nat.two_pow_pos _))
      have hp2 : (0 : Int) < ((n * 2 ^ (q + 1074).toNat : Nat) : Int) := by
        exact Int.natCast_pos.2 (Nat.mul_pos (by omega) (Nat.two_pow_pos _))
      have hpp := Int.mul_pos hp1 hp2
      unfold sgn
      generalize ((m * 2 ^ (p + 1074).toNat : Nat) : Int) = A at *
      generalize ((n * 2 ^ (q + 1074).toNat : Nat) : Int) = B at *
      cases s <;> cases t <;> simp only [Bool.false_eq_true, if_false, if_true, Int.neg_mul, Int.mul_neg, Int.neg_neg, Bool.xor_false, Bool.xor_true, Bool.not_false, Bool.not_true] <;> symm <;> simp only [decide_eq_true_eq, decide_eq_false_iff_not] <;> omega

theorem fop_ev_add {x y r : Nat} (h : FOp .add x y r) : ev r = addE (ev x) (ev y) := by
  have := sum_ev (rd x) (rd y) (low_rd x) (low_rd y)
  rw [evD_rd, evD_rd] at this
  unfold FOp at h
  rw [fb_add] at h
  revert this h
  cases (rd x).sum (rd y) with
  | none => intro h2 h1; simp at h2; rw [ev_nan h2, h1]
  | some c => intro h2 h1; simp at h2; rw [← h2]; exact h1
theorem fop_ev_sub {x y r : Nat} (h : FOp .sub x y r) : ev r = subE (ev x) (ev y) := by
  have := sum_ev (rd x) (rd y).opposite (low_rd x) (low_opp _ (low_rd y))
  rw [evD_rd, evD_opp, evD_rd] at this
  unfold FOp at h
  rw [fb_sub] at h
  revert this h
  cases (rd x).sum (rd y).opposite with
  | none => intro h2 h1; simp at h2; rw [ev_nan h2]; exact h1.symm
  | some c => intro h2 h1; simp at h2; rw [← h2]; exact h1
theorem fop_ev_mul {x y r : Nat} (h : FOp .mul x y r) : ev r = mulE (ev x) (ev y) := by
  have := prod_ev (rd x) (rd y) (low_rd x) (low_rd y)
  rw [evD_rd, evD_rd] at this
  unfold FOp at h
  rw [fb_mul] at h
  revert this h
  cases (rd x).product (rd y) with
  | none => intro h2 h1; simp at h2; rw [ev_nan h2, h1]
  | some c => intro h2 h1; simp at h2; rw [← h2]; exact h1

end SurdFp
end Go
namespace Go
namespace SurdFp
open Ieee

/-! ### bits, all NaNs one -/
def nanC : Nat := 0x7ff8000000000001
def cn (x : Nat) : Nat := if nan x then nanC else x
def fop (op : BinOp) (x y : Nat) : Nat := (floatBits op .f64 x y).getD nanC

theorem nan_nanC : nan nanC = true := by decide +kernel
theorem cn_nan {x : Nat} (h : nan x = true) : cn x = nanC := by unfold cn; rw [if_pos h]
theorem cn_not {x : Nat} (h : nan x = false) : cn x = x := by unfold cn; rw [if_neg (by simp [h])]
theorem nan_cn (x : Nat) : nan (cn x) = nan x := by
  cases h : nan x
  · rw [cn_not h, h]
  · rw [cn_nan h, nan_nanC]
theorem fin_cn (x : Nat) : fin (cn x) = fin x := by
  cases h : nan x
  · rw [cn_not h]
  · rw [cn_nan h, not_fin_of_nan h, not_fin_of_nan nan_nanC]
theorem ev_cn (x : Nat) : ev (cn x) = ev x := by
  cases h : nan x
  · rw [cn_not h]
  · rw [cn_nan h, ev_nan h, ev_nan nan_nanC]
theorem ev_congr {x y : Nat} (h : cn x = cn y) : ev x = ev y := by rw [← ev_cn x, h, ev_cn]

/-- the three operations that are looked at -/
def Arith (op : BinOp) : Prop := op = .add ∨ op = .sub ∨ op = .mul

theorem floatBits_nan {op : BinOp} (ho : Arith op) {x y : Nat} (h : nan x = true ∨ nan y = true) : floatBits op .f64 x y = none := by
  rcases ho with rfl | rfl | rfl
  · rw [fb_add, sum_nan _ _ (h.imp isNaN_rd isNaN_rd)]; rfl
  · rw [fb_sub, sum_nan _ _ (h.imp isNaN_rd isNaN_opp)]; rfl
  · rw [fb_mul]
    rcases h with h | h
    · obtain ⟨t, e⟩ := rd_nan h
      rw [e]; simp [Datum.product]
    · obtain ⟨t, e⟩ := rd_nan h
      rw [e]; cases rd x <;> simp [Datum.product]

theorem floatBits_not_nan {op : BinOp} (ho : Arith op) {x y r : Nat} (h : floatBits op .f64 x y = some r) : nan r = false := by
  have hw : ∀ d : Datum, d.isNaN = false → nan (wr d) = false := by
    intro d hd
    cases d with
    | number s m p => rw [wr_num]; exact nearW_nan _ _ _
    | infinity s => exact (wr_inf s).2.1
    | nan => simp [Datum.isNaN] at hd
  have hs : ∀ d e c : Datum, d.sum e = some c → c.isNaN = false := by
    intro d e c h
    cases d <;> cases e <;> simp [Datum.sum] at h
    all_goals first | (obtain ⟨-, rfl⟩ := h; rfl) | (subst h; rfl)
  have hp : ∀ d e c : Datum, d.product e = some c → c.isNaN = false := by
    intro d e c h
    cases d <;> cases e <;> simp [Datum.product] at h
    all_goals first | (obtain ⟨-, rfl⟩ := h; rfl) | (subst h; rfl)
  have key : ∀ o : Option Datum, (∀ c, o = some c → c.isNaN = false) → o.map wr = some r → nan r = false := by
    intro o ho h
    cases o with
    | none => simp at h
    | some c => simp at h; subst h; exact hw c (ho c rfl)
  rcases ho with rfl | rfl | rfl
  · rw [fb_add] at h; exact key _ (hs _ _) h
  · rw [fb_sub] at h; exact key _ (hs _ _) h
  · rw [fb_mul] at h; exact key _ (hp _ _) h

theorem FOp.cn {op : BinOp} (ho : Arith op) {x y r : Nat} (h : FOp op x y r) : SurdFp.cn r = fop op (SurdFp.cn x) (SurdFp.cn y) := by
  have e : floatBits op .f64 (SurdFp.cn x) (SurdFp.cn y) = floatBits op .f64 x y := by
    by_cases hn : nan x = true ∨ nan y = true
    · rw [floatBits_nan ho hn, floatBits_nan ho (by rw [nan_cn, nan_cn]; exact hn)]
    · rw [cn_not (x := x) (by simpa using fun h => hn (.inl h)), cn_not (x := y) (by simpa using fun h => hn (.inr h))]
  unfold fop
  rw [e]
  rcases h with h | ⟨h, hr⟩
  · rw [h, cn_not (floatBits_not_nan ho h)]; rfl
  · rw [h, cn_nan hr]; rfl

theorem fop_is (op : BinOp) (x y : Nat) : FOp op x y (fop op x y) := by
  unfold FOp fop
  cases h : floatBits op .f64 x y with
  | none => exact .inr ⟨rfl, nan_nanC⟩
  | some r => exact .inl rfl

theorem ev_add (x y : Nat) : ev (fop .add x y) = addE (ev x) (ev y) := fop_ev_add (fop_is _ _ _)
theorem ev_sub (x y : Nat) : ev (fop .sub x y) = subE (ev x) (ev y) := fop_ev_sub (fop_is _ _ _)
theorem ev_mul (x y : Nat) : ev (fop .mul x y) = mulE (ev x) (ev y) := fop_ev_mul (fop_is _ _ _)

/-! ### comparing by values -/
theorem order_eq_of_ev {x y : Nat} (h : ev x = ev y) (hn : nan x = false) : FloatKind.f64.format.order x y = some .eq := by
  show (rd x).order (rd y) = some .eq
  cases hf : fin x
  · rw [ev_inf hf hn] at h
    cases hf' : fin y
    · cases hn' : nan y
      · rw [ev_inf hf' hn'] at h
        rw [rd_inf hf hn, rd_inf hf' hn']
        injection h with h; rw [h]; simp [Datum.order]
      · rw [ev_nan hn'] at h; cases h
    · rw [ev_fin hf'] at h; cases h
  · rw [ev_fin hf] at h
    cases hf' : fin y
    · cases hn' : nan y
      · rw [ev_inf hf' hn'] at h; cases h
      · rw [ev_nan hn'] at h; cases h
    · rw [ev_fin hf'] at h
      injection h with h
      rw [rd_fin hf, rd_fin hf']
      simp only [Datum.order, signed_eq]
      congr 1
      rw [show ∀ a b : Int, (compare a b = .eq) = (a = b) from fun a b => by simp [compare, compareOfLessAndEq]; constructor <;> (intro h; (try split at h) <;> (try split at h) <;> first | assumption | simp_all)]
      have e : ∀ z : Nat, vl z = sgn (sg z) (mg (z % 2 ^ 63) * 2 ^ ((-1074 + (pl (z % 2 ^ 63) : Int)) + 1074).toNat) := by
        intro z; unfold vl mv; congr 3; omega
      rw [e, e] at h
      have hb : ∃ b : Nat, (b : Int) = min (-1074 + (pl (x % 2 ^ 63) : Int)) (-1074 + (pl (y % 2 ^ 63) : Int)) + 1074 := ⟨(min (-1074 + (pl (x % 2 ^ 63) : Int)) (-1074 + (pl (y % 2 ^ 63) : Int)) + 1074).toNat, by omega⟩
      obtain ⟨b, hb⟩ := hb
      rw [show (-1074 + (pl (x % 2 ^ 63) : Int) + 1074).toNat = (-1074 + (pl (x % 2 ^ 63) : Int) - min (-1074 + (pl (x % 2 ^ 63) : Int)) (-1074 + (pl (y % 2 ^ 63) : Int))).toNat + b from by omega,
        show (-1074 + (pl (y % 2 ^ 63) : Int) + 1074).toNat = (-1074 + (pl (y % 2 ^ 63) : Int) - min (-1074 + (pl (x % 2 ^ 63) : Int)) (-1074 + (pl (y % 2 ^ 63) : Int))).toNat + b from by omega,
        Nat.pow_add, Nat.pow_add, ← Nat.mul_assoc, ← Nat.mul_assoc, sgn_mul_pow _ _ b, sgn_mul_pow _ _ b] at h
      have hp : (2 ^ b : Int) ≠ 0 := Int.ne_of_gt (Int.pow_pos (show (0 : Int) < 2 from by omega))
      exact Int.eq_of_mul_eq_mul_right hp h

/-! ### Ext's laws -/
theorem rdE_neg (n : Int) (p : Int) : rdE (-n) p = negE (rdE n p) := by
  by_cases h0 : n = 0
  · subst h0; unfold rdE negE; simp [rung_zero, mv_0, sgn]
  · unfold rdE
    rw [Int.natAbs_neg]
    have e : decide (-n < 0) = !decide (n < 0) := by
      by_cases h : n < 0
      · simp [h]; omega
      · simp [h]; omega
    rw [e]
    split
    · cases decide (n < 0) <;> simp [negE, sgn]
    · rfl

theorem negE_negE (x : Ext) : negE (negE x) = x := by cases x <;> simp [negE]
theorem addE_comm (x y : Ext) : addE x y = addE y x := by
  cases x <;> cases y <;> simp [addE, Int.add_comm]
  rename_i s t
  by_cases h : s = t
  · subst h; rfl
  · rw [if_neg h, if_neg (fun h' => h h'.symm)]
theorem mulE_comm (x y : Ext) : mulE x y = mulE y x := by
  cases x <;> cases y <;> simp [mulE, Int.mul_comm, Bool.xor_comm]
theorem addE_neg (x y : Ext) : addE (negE x) (negE y) = negE (addE x y) := by
  cases x with
  | none => cases y <;> rfl
  | inf s =>
    cases y with
    | none => rfl
    | inf t => cases s <;> cases t <;> simp [addE, negE]
    | num b => rfl
  | num a =>
    cases y with
    | none => rfl
    | inf t => rfl
    | num b => show rdE (-a + -b) _ = negE (rdE (a + b) _); rw [← Int.neg_add, rdE_neg]
theorem mulE_neg_left (x y : Ext) : mulE (negE x) y = negE (mulE x y) := by
  cases x with
  | none => cases y <;> rfl
  | inf s =>
    cases y with
    | none => rfl
    | inf t => simp [mulE, negE]
    | num b => simp only [mulE, negE]; split <;> simp
  | num a =>
    cases y with
    | none => rfl
    | inf t =>
      simp only [mulE, negE]
      by_cases h : a = 0
      · subst h; rfl
      · rw [if_neg h, if_neg (by omega)]
        have e : decide (-a < 0) = !decide (a < 0) := by
          by_cases h' : a < 0
          · simp [h']; omega
          · simp [h']; omega
        rw [e]; simp
    | num b => show rdE (-a * b) _ = negE (rdE (a * b) _); rw [Int.neg_mul, rdE_neg]
theorem mulE_neg_right (x y : Ext) : mulE x (negE y) = negE (mulE x y) := by
  rw [mulE_comm, mulE_neg_left, mulE_comm]

/-- a finite float's value -/
def IsF (a : Int) : Prop := ∃ x, fin x = true ∧ vl x = a
theorem isF_0 : IsF 0 := ⟨0, by decide +kernel, by decide +kernel⟩
theorem mod_lt_of_fin {x : Nat} (h : fin x = true) : x % 2 ^ 63 < 2047 * 2 ^ 52 := by simpa [fin] using h
theorem rdE_isF {a : Int} (h : IsF a) : rdE a (-1074) = .num a := by
  obtain ⟨x, hf, rfl⟩ := h
  have hr := mod_lt_of_fin hf
  have e : rung (vl x).natAbs (-1074) = x % 2 ^ 63 := by
    unfold vl; rw [sgn_natAbs]; unfold mv
    rw [show (-1074 : Int) = (-1074 + (pl (x % 2 ^ 63) : Int)) - (pl (x % 2 ^ 63) : Int) from by omega, rung_scale, rung_mg _ hr]
  unfold rdE
  rw [e, if_pos hr]
  congr 1
  unfold vl
  cases hs : sg x
  · have : decide (sgn false (mv (x % 2 ^ 63)) < 0) = false := by simp [sgn]
    rw [this]
  · by_cases h0 : mv (x % 2 ^ 63) = 0
    · rw [h0]; rfl
    · have : decide (sgn true (mv (x % 2 ^ 63)) < 0) = true := by simp only [sgn, if_true, decide_eq_true_eq]; omega
      rw [this]
theorem isF_of_ev {x : Nat} {a : Int} (h : ev x = .num a) : IsF a := by
  cases hf : fin x
  · cases hn : nan x
    · rw [ev_inf hf hn] at h; cases h
    · rw [ev_nan hn] at h; cases h
  · rw [ev_fin hf] at h; injection h with h; exact ⟨x, hf, h⟩
theorem fin_of_ev {x : Nat} {a : Int} (h : ev x = .num a) : fin x = true := by
  cases hf : fin x
  · cases hn : nan x
    · rw [ev_inf hf hn] at h; cases h
    · rw [ev_nan hn] at h; cases h
  · rfl

theorem addE_zero {a : Int} (h : IsF a) : addE (.num a) (.num 0) = .num a := by
  show rdE (a + 0) _ = _; rw [Int.add_zero, rdE_isF h]
theorem subE_zero {a : Int} (h : IsF a) : subE (.num a) (.num 0) = .num a := addE_zero h
theorem mulE_zero (a : Int) : mulE (.num a) (.num 0) = .num 0 := by
  show rdE (a * 0) _ = _; rw [Int.mul_zero]; rfl
theorem zero_mulE (a : Int) : mulE (.num 0) (.num a) = .num 0 := by rw [mulE_comm, mulE_zero]

end SurdFp
end Go
namespace Go
namespace SurdFp
open Ieee

/-! ### Horner's rule on bits -/
abbrev CB := Nat × Nat
def cmul (z w : CB) : CB := (fop .sub (fop .mul z.1 w.1) (fop .mul z.2 w.2), fop .add (fop .mul z.1 w.2) (fop .mul z.2 w.1))
def cadd (z w : CB) : CB := (fop .add z.1 w.1, fop .add z.2 w.2)
def hv : List CB → CB → CB
  | [], _ => (0, 0)
  | [c], _ => c
  | c :: d :: l, z => cadd (cmul (hv (d :: l) z) z) c
def hs : List CB → CB → CB
  | [], _ => (0, 0)
  | [_], _ => (0, 0)
  | _ :: d :: l, z => cadd (cmul (hs (d :: l) z) z) (hv (d :: l) z)
def cnp (c : CB) : CB := (cn c.1, cn c.2)
def finC (c : CB) : Bool := fin c.1 && fin c.2

theorem fop_nonfin_add {x y : Nat} (h : fin x = false ∨ fin y = false) : fin (fop .add x y) = false := add_nonfin (fop_is _ _ _) h
theorem fop_nonfin_sub {x y : Nat} (h : fin x = false ∨ fin y = false) : fin (fop .sub x y) = false := sub_nonfin (fop_is _ _ _) h
theorem fop_nonfin_mul {x y : Nat} (h : fin x = false ∨ fin y = false) : fin (fop .mul x y) = false := mul_nonfin (fop_is _ _ _) h
theorem fop_nan_add {x y : Nat} (h : nan x = true ∨ nan y = true) : nan (fop .add x y) = true := add_nan (fop_is _ _ _) h
theorem fop_nan_sub {x y : Nat} (h : nan x = true ∨ nan y = true) : nan (fop .sub x y) = true := sub_nan (fop_is _ _ _) h
theorem fop_nan_mul {x y : Nat} (h : nan x = true ∨ nan y = true) : nan (fop .mul x y) = true := mul_nan (fop_is _ _ _) h

theorem finC_false {c : CB} (h : finC c = false) : fin c.1 = false ∨ fin c.2 = false := by
  unfold finC at h; exact Bool.and_eq_false_iff.1 h
theorem finC_of {c : CB} (h : fin c.1 = false ∨ fin c.2 = false) : finC c = false := by
  unfold finC; exact Bool.and_eq_false_iff.2 h

theorem cmul_nonfin {z w : CB} (h : finC z = false ∨ finC w = false) : finC (cmul z w) = false := by
  refine finC_of (.inl ?_)
  unfold cmul
  apply fop_nonfin_sub
  rcases h with h | h
  · rcases finC_false h with h | h
    · exact .inl (fop_nonfin_mul (.inl h))
    · exact .inr (fop_nonfin_mul (.inl h))
  · rcases finC_false h with h | h
    · exact .inl (fop_nonfin_mul (.inr h))
    · exact .inr (fop_nonfin_mul (.inr h))
theorem cadd_nonfin {z w : CB} (h : finC z = false ∨ finC w = false) : finC (cadd z w) = false := by
  refine finC_of ?_
  unfold cadd
  rcases h with h | h
  · rcases finC_false h with h | h
    · exact .inl (fop_nonfin_add (.inl h))
    · exact .inr (fop_nonfin_add (.inl h))
  · rcases finC_false h with h | h
    · exact .inl (fop_nonfin_add (.inr h))
    · exact .inr (fop_nonfin_add (.inr h))

theorem hv_nonfin_coef {z : CB} : ∀ {l : List CB}, l.all finC = false → finC (hv l z) = false
  | [], h => by simp at h
  | [c], h => by simpa [hv] using h
  | c :: d :: l, h => by
    rw [List.all_cons, Bool.and_eq_false_iff] at h
    unfold hv
    rcases h with h | h
    · exact cadd_nonfin (.inr h)
    · exact cadd_nonfin (.inl (cmul_nonfin (.inl (hv_nonfin_coef h))))

theorem hv_nonfin_place {z : CB} (hz : finC z = false) {l : List CB} (h : 1 < l.length) : finC (hv l z) = false := by
  match l, h with
  | c :: d :: l, _ => exact cadd_nonfin (.inl (cmul_nonfin (.inr hz)))

theorem hv_nan_place {z : CB} (hz : nan z.1 = true ∨ nan z.2 = true) {l : List CB} (h : 1 < l.length) : nan (hv l z).1 = true ∧ nan (hv l z).2 = true := by
  match l, h with
  | c :: d :: l, _ =>
    unfold hv cadd cmul
    dsimp only
    constructor
    · apply fop_nan_add; left
      apply fop_nan_sub
      rcases hz with hz | hz
      · exact .inl (fop_nan_mul (.inr hz))
      · exact .inr (fop_nan_mul (.inr hz))
    · apply fop_nan_add; left
      apply fop_nan_add
      rcases hz with hz | hz
      · exact .inr (fop_nan_mul (.inr hz))
      · exact .inl (fop_nan_mul (.inr hz))

/-! ### HornerReal: the float64 rule -/
def rv : List Nat → Nat → Nat
  | [], _ => 0
  | [c], _ => c
  | c :: d :: l, x => fop .add (fop .mul (rv (d :: l) x) x) c
def rs : List Nat → Nat → Nat
  | [], _ => 0
  | [_], _ => 0
  | _ :: d :: l, x => fop .add (fop .mul (rs (d :: l) x) x) (rv (d :: l) x)
/-- every value and slope on the way is finite -/
def rfin : List Nat → Nat → Bool
  | [], _ => true
  | [_], _ => true
  | c :: d :: l, x => rfin (d :: l) x && (fin (rv (c :: d :: l) x) && fin (rs (c :: d :: l) x))

def numE (e : Ext) : Prop := ∃ a, e = .num a ∧ IsF a
theorem numE_fin {x : Nat} (h : fin x = true) : numE (ev x) := ⟨vl x, ev_fin h, x, h, rfl⟩
theorem ev_0 : ev 0 = .num 0 := by rw [ev_fin (by decide +kernel)]; rfl

theorem fin_of_fin_add {x y : Nat} (h : fin (fop .add x y) = true) : fin x = true ∧ fin y = true := by
  constructor
  · cases hx : fin x
    · rw [fop_nonfin_add (.inl hx)] at h; cases h
    · rfl
  · cases hy : fin y
    · rw [fop_nonfin_add (.inr hy)] at h; cases h
    · rfl
theorem fin_of_fin_mul {x y : Nat} (h : fin (fop .mul x y) = true) : fin x = true ∧ fin y = true := by
  constructor
  · cases hx : fin x
    · rw [fop_nonfin_mul (.inl hx)] at h; cases h
    · rfl
  · cases hy : fin y
    · rw [fop_nonfin_mul (.inr hy)] at h; cases h
    · rfl

/-- one step at real numbers -/
theorem step_real {u v : CB} {x p c : Nat} {q : CB} (hx : fin x = true) (h1 : ev u.1 = ev p) (h2 : ev u.2 = .num 0) (hv : v = q) (hq1 : ev q.1 = ev c) (hq2 : ev q.2 = .num 0)
    (hf : fin (fop .add (fop .mul p x) c) = true) :
    ev (cadd (cmul u (x, 0)) v).1 = ev (fop .add (fop .mul p x) c) ∧ ev (cadd (cmul u (x, 0)) v).2 = .num 0 := by
  subst hv
  obtain ⟨hm, hc⟩ := fin_of_fin_add hf
  obtain ⟨hp, -⟩ := fin_of_fin_mul hm
  obtain ⟨a, ha, fa⟩ := numE_fin hm
  unfold cadd cmul
  dsimp only
  rw [ev_mul, ev_fin hp, ev_fin hx] at ha
  simp only [ev_add, ev_sub, ev_mul, h1, h2, ev_0, hq1, hq2, ev_fin hx, ev_fin hp, zero_mulE, mulE_zero]
  refine ⟨?_, ?_⟩
  · rw [ha, subE_zero fa]
  · rw [addE_zero isF_0, addE_zero isF_0]

theorem real_law {x : Nat} (hx : fin x = true) : ∀ (l : List Nat), rfin l x = true → l.all fin = true →
    ev (hv (l.map fun b => (b, 0)) (x, 0)).1 = ev (rv l x) ∧ ev (hv (l.map fun b => (b, 0)) (x, 0)).2 = .num 0 ∧
    ev (hs (l.map fun b => (b, 0)) (x, 0)).1 = ev (rs l x) ∧ ev (hs (l.map fun b => (b, 0)) (x, 0)).2 = .num 0
  | [], _, _ => ⟨rfl, ev_0, rfl, ev_0⟩
  | [c], _, _ => ⟨rfl, ev_0, rfl, ev_0⟩
  | c :: d :: l, h, hc => by
    unfold rfin at h
    rw [Bool.and_eq_true, Bool.and_eq_true] at h
    obtain ⟨h1, h2, h3⟩ := h
    have ih := real_law hx (d :: l) h1 (by simp at hc ⊢; exact hc.2)
    simp only [List.map_cons] at ih ⊢
    obtain ⟨i1, i2, i3, i4⟩ := ih
    unfold hv hs
    unfold rv at h2
    unfold rs at h3
    have a := step_real (v := (c, 0)) (q := (c, 0)) (c := c) hx i1 i2 rfl rfl ev_0 h2
    have b := step_real (v := hv ((d, 0) :: l.map fun b => (b, 0)) (x, 0)) (c := rv (d :: l) x) hx i3 i4 rfl i1 i2 h3
    exact ⟨a.1, a.2, b.1, b.2⟩

end SurdFp
end Go
namespace Go
namespace SurdFp
open Ieee

/-! ### HornerTwice: numbers of middle size, times a power of two -/
theorem rung_normal {n t : Nat} (h1 : t + 52 ≤ n.log2) (h2 : n.log2 < t + 52 + 2045) :
    rung n (-1074 - (t : Int)) < 2047 * 2 ^ 52 ∧ mv (rung n (-1074 - (t : Int))) = rnd n (2 ^ (n.log2 - 52)) * 2 ^ (n.log2 - 52 - t) ∧ rnd n (2 ^ (n.log2 - 52)) ≤ 2 ^ 53 := by
  have h0 : n ≠ 0 := by intro h; subst h; simp at h1
  have hlo : 2 ^ n.log2 ≤ n := Nat.log2_self_le h0
  have hhi : n < 2 ^ (n.log2 + 1) := Nat.lt_log2_self
  obtain ⟨e, he⟩ : ∃ e, n.log2 = e + 52 := ⟨n.log2 - 52, by omega⟩
  have hL : lastOf n (-1074 - (t : Int)) = -1074 - (t : Int) + e := by unfold lastOf; rw [he]; omega
  have e1 : n.log2 - 52 = e := by omega
  have e2 : (lastOf n (-1074 - (t : Int)) + 1074).toNat = e - t := by rw [hL]; omega
  have e3 : (-1074 - (t : Int) - lastOf n (-1074 - (t : Int))).toNat = 0 := by rw [hL]; omega
  have e4 : (lastOf n (-1074 - (t : Int)) - (-1074 - (t : Int))).toNat = e := by rw [hL]; omega
  have hr : rung n (-1074 - (t : Int)) = min ((e - t) * 2 ^ 52 + rnd n (2 ^ e)) (2047 * 2 ^ 52) := by
    unfold rung; rw [if_neg h0, e2, e3, e4, Nat.pow_zero, Nat.mul_one]
  rw [e1, hr]
  have hpe : 0 < 2 ^ e := Nat.two_pow_pos e
  have hd1 : 2 ^ 52 ≤ n / 2 ^ e := by
    rw [Nat.le_div_iff_mul_le hpe, ← Nat.pow_add, show 52 + e = n.log2 from by omega]; exact hlo
  have hd2 : n / 2 ^ e < 2 ^ 53 := by
    rw [Nat.div_lt_iff_lt_mul hpe, ← Nat.pow_add, show 53 + e = n.log2 + 1 from by omega]; exact hhi
  have hk1 : 2 ^ 52 ≤ rnd n (2 ^ e) := by unfold rnd; omega
  have hk2 : rnd n (2 ^ e) ≤ 2 ^ 53 := by unfold rnd up1; split <;> omega
  generalize rnd n (2 ^ e) = K at *
  have hlt : (e - t) * 2 ^ 52 + K < 2047 * 2 ^ 52 := by
    have : e - t ≤ 2044 := by omega
    have : (e - t) * 2 ^ 52 ≤ 2044 * 2 ^ 52 := Nat.mul_le_mul_right _ this
    omega
  rw [Nat.min_eq_left (by omega)]
  refine ⟨hlt, ?_, hk2⟩
  by_cases hK : K < 2 ^ 53
  · have hm : mg ((e - t) * 2 ^ 52 + K) = K := by unfold mg; rw [if_neg (by omega)]; omega
    have hp : pl ((e - t) * 2 ^ 52 + K) = e - t := by unfold pl; omega
    unfold mv; rw [hm, hp]
  · have hK' : K = 2 ^ 53 := by omega
    subst hK'
    have hm : mg ((e - t) * 2 ^ 52 + 2 ^ 53) = 2 ^ 52 := by unfold mg; rw [if_neg (by omega)]; omega
    have hp : pl ((e - t) * 2 ^ 52 + 2 ^ 53) = e - t + 1 := by unfold pl; omega
    unfold mv; rw [hm, hp, Nat.pow_succ]; omega

theorem rdE_normal {n : Int} {t : Nat} (h1 : t + 52 ≤ n.natAbs.log2) (h2 : n.natAbs.log2 < t + 52 + 2045) :
    rdE n (-1074 - (t : Int)) = .num (sgn (decide (n < 0)) (rnd n.natAbs (2 ^ (n.natAbs.log2 - 52)) * 2 ^ (n.natAbs.log2 - 52 - t))) := by
  obtain ⟨a, b, -⟩ := rung_normal h1 h2
  unfold rdE; rw [if_pos a, b]

/-- Two numbers: 'v' times 2 ^ i is 'w' times 2 ^ j; both on the grid of 2 ^ g, both below 2 ^ B. -/
def RelS (i j g B : Nat) (X Y : Ext) : Prop :=
  ∃ v w : Int, X = .num v ∧ Y = .num w ∧ v * 2 ^ i = w * 2 ^ j ∧ 2 ^ g ∣ v.natAbs ∧ 2 ^ g ∣ w.natAbs ∧ v.natAbs < 2 ^ B ∧ w.natAbs < 2 ^ B

theorem RelS.weak {i j g B g' B' : Nat} {X Y : Ext} (h : RelS i j g B X Y) (hg : g' ≤ g) (hB : B ≤ B') : RelS i j g' B' X Y := by
  obtain ⟨v, w, a, b, c, d, e, f, k⟩ := h
  exact ⟨v, w, a, b, c, Nat.dvd_trans (Nat.pow_dvd_pow 2 hg) d, Nat.dvd_trans (Nat.pow_dvd_pow 2 hg) e,
    Nat.lt_of_lt_of_le f (Nat.pow_le_pow_right (by omega) hB), Nat.lt_of_lt_of_le k (Nat.pow_le_pow_right (by omega) hB)⟩

theorem RelS.zero (i j g B : Nat) : RelS i j g B (.num 0) (.num 0) :=
  ⟨0, 0, rfl, rfl, by simp, by simp, by simp, by simpa using Nat.two_pow_pos B, by simpa using Nat.two_pow_pos B⟩

theorem log2_bounds {n G C : Nat} (h0 : n ≠ 0) (hd : 2 ^ G ∣ n) (hC : n < 2 ^ C) : G ≤ n.log2 ∧ n.log2 < C := by
  refine ⟨(Nat.le_log2 h0).2 (Nat.le_of_dvd (by omega) hd), (Nat.log2_lt h0).2 hC⟩

/-- the size and the grid of a rounded number -/
theorem rounded {n C t g : Nat} (h0 : n ≠ 0) (hd : 2 ^ (g + t) ∣ n) (hC : n < 2 ^ (C + t)) (h1 : t + 52 ≤ n.log2) :
    2 ^ g ∣ rnd n (2 ^ (n.log2 - 52)) * 2 ^ (n.log2 - 52 - t) ∧ rnd n (2 ^ (n.log2 - 52)) * 2 ^ (n.log2 - 52 - t) < 2 ^ (C + 1) := by
  obtain ⟨hb1, hb2⟩ := log2_bounds h0 hd hC
  obtain ⟨e, he⟩ : ∃ e, n.log2 = e + 52 := ⟨n.log2 - 52, by omega⟩
  have e1 : n.log2 - 52 = e := by omega
  rw [e1]
  have hpe : 0 < 2 ^ e := Nat.two_pow_pos e
  have hhi : n < 2 ^ (n.log2 + 1) := Nat.lt_log2_self
  have hk2 : rnd n (2 ^ e) ≤ 2 ^ 53 := by
    have hd2 : n / 2 ^ e < 2 ^ 53 := by
      rw [Nat.div_lt_iff_lt_mul hpe, ← Nat.pow_add, show 53 + e = n.log2 + 1 from by omega]; exact hhi
    unfold rnd up1; split <;> omega
  constructor
  · by_cases hge : g ≤ e - t
    · exact Nat.dvd_trans (Nat.pow_dvd_pow 2 hge) (Nat.dvd_mul_left _ _)
    · obtain ⟨q, hq⟩ := hd
      have : n = q * 2 ^ (g + t - e) * 2 ^ e := by
        rw [Nat.mul_assoc, ← Nat.pow_add, show g + t - e + e = g + t from by omega, Nat.mul_comm]; exact hq
      rw [this, rnd_exact _ _ hpe, Nat.mul_assoc, ← Nat.pow_add, show g + t - e + (e - t) = g from by omega]
      exact Nat.dvd_mul_left _ _
  · have : rnd n (2 ^ e) * 2 ^ (e - t) ≤ 2 ^ 53 * 2 ^ (e - t) := Nat.mul_le_mul_right _ hk2
    rw [← Nat.pow_add] at this
    refine Nat.lt_of_le_of_lt this (Nat.pow_lt_pow_right (by omega) (by omega))

theorem rdE_rel {n m : Int} {i j g C t : Nat} (hnm : n * 2 ^ i = m * 2 ^ j) (hdn : 2 ^ (g + t) ∣ n.natAbs) (hdm : 2 ^ (g + t) ∣ m.natAbs)
    (hcn : n.natAbs < 2 ^ (C + t)) (hcm : m.natAbs < 2 ^ (C + t)) (hg : 52 ≤ g) (hC : C ≤ 2097) :
    RelS i j g (C + 1) (rdE n (-1074 - (t : Int))) (rdE m (-1074 - (t : Int))) := by
  have hpi : (2 : Int) ^ i ≠ 0 := Int.ne_of_gt (Int.pow_pos (show (0 : Int) < 2 from by omega))
  have hpj : (2 : Int) ^ j ≠ 0 := Int.ne_of_gt (Int.pow_pos (show (0 : Int) < 2 from by omega))
  by_cases h0 : n = 0
  · have hm : m = 0 := by
      subst h0; rw [Int.zero_mul] at hnm
      rcases Int.mul_eq_zero.1 hnm.symm with h | h
      · exact h
      · exact absurd h hpj
    subst h0; subst hm
    have : rdE 0 (-1074 - (t : Int)) = .num 0 := by unfold rdE; rw [show (0 : Int).natAbs = 0 from rfl, rung_zero]; rfl
    rw [this]; exact RelS.zero ..
  · have hm : m ≠ 0 := by
      intro h; subst h; rw [Int.zero_mul] at hnm
      rcases Int.mul_eq_zero.1 hnm with h | h
      · exact h0 h
      · exact absurd h hpi
    have hn' : n.natAbs ≠ 0 := by omega
    have hm' : m.natAbs ≠ 0 := by omega
    obtain ⟨a1, a2⟩ := log2_bounds hn' hdn hcn
    obtain ⟨b1, b2⟩ := log2_bounds hm' hdm hcm
    rw [rdE_normal (n := n) (t := t) (by omega) (by omega), rdE_normal (n := m) (t := t) (by omega) (by omega)]
    obtain ⟨c1, c2⟩ := rounded hn' hdn hcn (by omega)
    obtain ⟨d1, d2⟩ := rounded hm' hdm hcm (by omega)
    refine ⟨_, _, rfl, rfl, ?_, by rw [sgn_natAbs]; exact c1, by rw [sgn_natAbs]; exact d1, by rw [sgn_natAbs]; exact c2, by rw [sgn_natAbs]; exact d2⟩
    have hN : n.natAbs * 2 ^ i = m.natAbs * 2 ^ j := by
      have := congrArg Int.natAbs hnm
      rw [Int.natAbs_mul, Int.natAbs_mul, Int.natAbs_pow, Int.natAbs_pow] at this
      exact this
    have hs : decide (n < 0) = decide (m < 0) := by
      apply decide_eq_decide.2
      have p1 : (0 : Int) < 2 ^ i := Int.pow_pos (by omega)
      have p2 : (0 : Int) < 2 ^ j := Int.pow_pos (by omega)
      constructor
      · intro h
        have := Int.mul_neg_of_neg_of_pos h p1
        rw [hnm] at this
        by_cases h' : m < 0
        · exact h'
        · exact absurd (Int.mul_nonneg (by omega : 0 ≤ m) (Int.le_of_lt p2)) (by omega)
      · intro h
        have := Int.mul_neg_of_neg_of_pos h p2
        rw [← hnm] at this
        by_cases h' : n < 0
        · exact h'
        · exact absurd (Int.mul_nonneg (by omega : 0 ≤ n) (Int.le_of_lt p1)) (by omega)
    have hl : n.natAbs.log2 + i = m.natAbs.log2 + j := by
      rw [← log2_mul_pow _ _ hn', ← log2_mul_pow _ _ hm', hN]
    have hK : rnd n.natAbs (2 ^ (n.natAbs.log2 - 52)) = rnd m.natAbs (2 ^ (m.natAbs.log2 - 52)) := by
      rw [← rnd_mul n.natAbs _ (2 ^ i) (Nat.two_pow_pos _), ← rnd_mul m.natAbs _ (2 ^ j) (Nat.two_pow_pos _), hN, ← Nat.pow_add, ← Nat.pow_add]
      congr 2; omega
    rw [hs, ← sgn_mul_pow, ← sgn_mul_pow, hK, Nat.mul_assoc, Nat.mul_assoc, ← Nat.pow_add, ← Nat.pow_add]
    congr 3; omega

theorem RelS.add {i j g B : Nat} {X Y X' Y' : Ext} (h : RelS i j g B X Y) (h' : RelS i j g B X' Y') (hg : 52 ≤ g) (hB : B ≤ 2096) :
    RelS i j g (B + 2) (addE X X') (addE Y Y') := by
  obtain ⟨v, w, rfl, rfl, c, d, e, f, k⟩ := h
  obtain ⟨v', w', rfl, rfl, c', d', e', f', k'⟩ := h'
  have dv : ∀ a b : Int, 2 ^ g ∣ a.natAbs → 2 ^ g ∣ b.natAbs → 2 ^ g ∣ (a + b).natAbs := by
    intro a b ha hb
    rw [← Int.ofNat_dvd_left] at ha hb ⊢
    exact Int.dvd_add ha hb
  have sz : ∀ a b : Int, a.natAbs < 2 ^ B → b.natAbs < 2 ^ B → (a + b).natAbs < 2 ^ (B + 1) := by
    intro a b ha hb; rw [Nat.pow_succ]; omega
  have := rdE_rel (n := v + v') (m := w + w') (i := i) (j := j) (g := g) (C := B + 1) (t := 0) (by rw [Int.add_mul, Int.add_mul, c, c']) (dv _ _ d d') (dv _ _ e e') (sz _ _ f f') (sz _ _ k k') hg (by omega)
  exact this

theorem RelS.neg {i j g B : Nat} {X Y : Ext} (h : RelS i j g B X Y) : RelS i j g B (negE X) (negE Y) := by
  obtain ⟨v, w, rfl, rfl, c, d, e, f, k⟩ := h
  exact ⟨-v, -w, rfl, rfl, by rw [Int.neg_mul, Int.neg_mul, c], by simpa using d, by simpa using e, by simpa using f, by simpa using k⟩
theorem RelS.sub {i j g B : Nat} {X Y X' Y' : Ext} (h : RelS i j g B X Y) (h' : RelS i j g B X' Y') (hg : 52 ≤ g) (hB : B ≤ 2096) :
    RelS i j g (B + 2) (subE X X') (subE Y Y') := h.add h'.neg hg hB

theorem RelS.mul {i j g gx B gz Bz : Nat} {X Y : Ext} {z : Int} (h : RelS i j gx B X Y) (hz : 2 ^ gz ∣ z.natAbs) (hzB : z.natAbs < 2 ^ Bz) (hgg : g + 1074 ≤ gx + gz) (hg : 52 ≤ g) (hB : B + Bz ≤ 3171) (hB' : 1074 ≤ B + Bz) :
    RelS i j g (B + Bz - 1074 + 1) (mulE X (.num z)) (mulE Y (.num z)) := by
  obtain ⟨v, w, rfl, rfl, c, d, e, f, k⟩ := h
  have dv : ∀ a : Int, 2 ^ gx ∣ a.natAbs → 2 ^ (g + 1074) ∣ (a * z).natAbs := by
    intro a ha
    rw [Int.natAbs_mul]
    refine Nat.dvd_trans (Nat.pow_dvd_pow 2 hgg) ?_
    rw [Nat.pow_add]
    exact Nat.mul_dvd_mul ha hz
  have sz : ∀ a : Int, a.natAbs < 2 ^ B → (a * z).natAbs < 2 ^ (B + Bz - 1074 + 1074) := by
    intro a ha
    rw [Int.natAbs_mul, show B + Bz - 1074 + 1074 = B + Bz from by omega, Nat.pow_add]
    exact Nat.mul_lt_mul'' ha hzB
  have hn : v * z * 2 ^ i = w * z * 2 ^ j := by
    rw [Int.mul_right_comm, c, Int.mul_right_comm]
  exact rdE_rel (n := v * z) (m := w * z) (i := i) (j := j) (g := g) (C := B + Bz - 1074) (t := 1074) hn (dv _ d) (dv _ e) (sz _ f) (sz _ k) hg (by omega)

end SurdFp
end Go
namespace Go
namespace SurdFp
open Ieee

def RelC (i j g B : Nat) (c c' : CB) : Prop := RelS i j g B (ev c.1) (ev c'.1) ∧ RelS i j g B (ev c.2) (ev c'.2)
theorem RelC.weak {i j g B g' B' : Nat} {c c' : CB} (h : RelC i j g B c c') (hg : g' ≤ g) (hB : B ≤ B') : RelC i j g' B' c c' := ⟨h.1.weak hg hB, h.2.weak hg hB⟩
theorem RelC.add {i j g B : Nat} {c c' d d' : CB} (h : RelC i j g B c c') (h' : RelC i j g B d d') (hg : 52 ≤ g) (hB : B ≤ 2096) : RelC i j g (B + 2) (cadd c d) (cadd c' d') := by
  unfold cadd RelC
  dsimp only
  rw [ev_add, ev_add, ev_add, ev_add]
  exact ⟨h.1.add h'.1 hg hB, h.2.add h'.2 hg hB⟩
/-- the place: both parts on the grid of 2 ^ 962, below 2 ^ 1135 -/
def Mid (a : Int) : Prop := 2 ^ 962 ∣ a.natAbs ∧ a.natAbs < 2 ^ 1135
theorem RelC.mul {i j g B : Nat} {c c' z : CB} {x y : Int} (h : RelC i j (g + 112) B c c') (hx : ev z.1 = .num x) (hy : ev z.2 = .num y) (mx : Mid x) (my : Mid y)
    (hg : 52 ≤ g) (hB : B ≤ 2000) : RelC i j g (B + 64) (cmul c z) (cmul c' z) := by
  obtain ⟨a, b⟩ := h
  unfold cmul RelC
  dsimp only
  simp only [ev_add, ev_sub, ev_mul, hx, hy]
  have ac := a.mul (g := g) mx.1 mx.2 (by omega) (by omega) (by omega) (by omega)
  have bd := b.mul (g := g) my.1 my.2 (by omega) (by omega) (by omega) (by omega)
  have ad := a.mul (g := g) my.1 my.2 (by omega) (by omega) (by omega) (by omega)
  have bc := b.mul (g := g) mx.1 mx.2 (by omega) (by omega) (by omega) (by omega)
  exact ⟨(ac.sub bd (by omega) (by omega)).weak (Nat.le_refl _) (by omega), (ad.add bc (by omega) (by omega)).weak (Nat.le_refl _) (by omega)⟩

theorem RelC.zero (i j g B : Nat) : RelC i j g B (0, 0) (0, 0) := by
  unfold RelC; dsimp only; rw [ev_0]; exact ⟨RelS.zero .., RelS.zero ..⟩

theorem hv_rel {i j : Nat} {z : CB} {x y : Int} (f : CB → CB) (hx : ev z.1 = .num x) (hy : ev z.2 = .num y) (mx : Mid x) (my : Mid y) :
    ∀ (l : List CB), l.length ≤ 5 → (∀ c ∈ l, RelC i j 930 1167 c (f c)) →
      RelC i j (930 - 112 * (l.length - 1)) (1167 + 66 * (l.length - 1)) (hv l z) (hv (l.map f) z) ∧
      RelC i j (930 - 112 * (l.length - 1)) (1167 + 66 * (l.length - 1)) (hs l z) (hs (l.map f) z)
  | [], _, _ => ⟨RelC.zero .., RelC.zero ..⟩
  | [c], _, h => ⟨h c (by simp), RelC.zero ..⟩
  | c :: d :: l, hl, h => by
    have hl' : l.length ≤ 3 := by simpa using hl
    obtain ⟨h1, h2⟩ := hv_rel f hx hy mx my (d :: l) (by simp; omega) (fun c hc => h c (List.mem_cons_of_mem _ hc))
    simp only [List.map_cons] at h1 h2 ⊢
    simp only [List.length_cons, Nat.add_sub_cancel] at h1 h2 ⊢
    have e1 : 930 - 112 * l.length = 930 - 112 * (l.length + 1) + 112 := by omega
    have e2 : 1167 + 66 * (l.length + 1) = 1167 + 66 * l.length + 64 + 2 := by omega
    have hg : 52 ≤ 930 - 112 * (l.length + 1) := by omega
    have hB : 1167 + 66 * l.length ≤ 2000 := by omega
    rw [e1] at h1 h2
    rw [e2]
    generalize 930 - 112 * (l.length + 1) = g at *
    generalize 1167 + 66 * l.length = B at *
    unfold hv hs
    have hc := h c (by simp)
    have m1 := h1.mul hx hy mx my hg hB
    have m2 := h2.mul hx hy mx my hg hB
    exact ⟨m1.add (hc.weak (by omega) (by omega)) hg (by omega), m2.add (h1.weak (by omega) (by omega)) hg (by omega)⟩

theorem natAbs_mul_pow (a : Int) (k : Nat) : (a * 2 ^ k).natAbs = a.natAbs * 2 ^ k := by rw [Int.natAbs_mul, Int.natAbs_pow]; rfl
theorem natAbs_pow_mul (a : Int) (k : Nat) : (2 ^ k * a).natAbs = 2 ^ k * a.natAbs := by rw [Int.natAbs_mul, Int.natAbs_pow]; rfl

/-- what is 2 ^ (i - j) times as much, told by the product with that power -/
theorem scale_back {i j g B : Nat} {X Y : Ext} {P : Int} (h : RelS i j g B X Y) (hP : P * 2 ^ j = 2 ^ (1074 + i)) (hY : numE Y) : mulE (.num P) X = Y := by
  obtain ⟨v, w, rfl, rfl, c, -⟩ := h
  obtain ⟨w', e, hw⟩ := hY
  injection e with e; subst e
  have hpj : (2 : Int) ^ j ≠ 0 := Int.ne_of_gt (Int.pow_pos (show (0 : Int) < 2 from by omega))
  have e : P * v = w * 2 ^ 1074 := by
    apply Int.eq_of_mul_eq_mul_right hpj
    rw [Int.mul_right_comm, hP, Int.pow_add, Int.mul_assoc, Int.mul_comm (2 ^ i) v, c, Int.mul_comm, Int.mul_right_comm]
  show rdE (P * v) _ = _
  rw [e, ← rdE_isF hw]
  have hp : (0 : Int) < 2 ^ 1074 := Int.pow_pos (by omega)
  have hab : (w * 2 ^ 1074).natAbs = w.natAbs * 2 ^ 1074 := natAbs_mul_pow _ _
  have hr : rung (w * 2 ^ 1074).natAbs (-2148) = rung w.natAbs (-1074) := by
    rw [hab, ← rung_scale w.natAbs 1074 (-1074)]; rfl
  have hs : decide (w * 2 ^ 1074 < 0) = decide (w < 0) := by
    apply decide_eq_decide.2
    constructor
    · intro h
      by_cases h' : w < 0
      · exact h'
      · exact absurd (Int.mul_nonneg (by omega : 0 ≤ w) (Int.le_of_lt hp)) (by omega)
    · intro h; exact Int.mul_neg_of_neg_of_pos h hp
  unfold rdE
  rw [hr, hs]

/-- a part of middle size: 0, or from 2 ^ -60 to 2 ^ 60 in size -/
def MidV (v : Int) : Prop := v = 0 ∨ (2 ^ 1014 ≤ v.natAbs ∧ v.natAbs ≤ 2 ^ 1134)

theorem dvd_of_big {m k : Nat} (E G : Nat) (hE : E + 1 = 53 + G) (hm : m < 2 ^ 53) (h : 2 ^ E ≤ m * 2 ^ k) : 2 ^ G ∣ m * 2 ^ k := by
  have hp : G ≤ k := by
    by_cases hp : G ≤ k
    · exact hp
    · exfalso
      have a : m * 2 ^ (k + 1) ≤ m * 2 ^ G := Nat.mul_le_mul_left _ (Nat.pow_le_pow_right (by decide) (by omega))
      have b : m * 2 ^ G < 2 ^ 53 * 2 ^ G := Nat.mul_lt_mul_of_pos_right hm (Nat.two_pow_pos G)
      rw [← Nat.pow_add, ← hE, Nat.pow_succ] at b
      rw [Nat.pow_succ, ← Nat.mul_assoc] at a
      omega
  exact Nat.dvd_trans (Nat.pow_dvd_pow 2 hp) (Nat.dvd_mul_left _ _)

theorem mid_of {x : Nat} (h : MidV (vl x)) : Mid (vl x) := by
  rcases h with h | ⟨h1, h2⟩
  · rw [h]; exact ⟨Nat.dvd_zero _, Nat.two_pow_pos 1135⟩
  · refine ⟨?_, Nat.lt_of_le_of_lt h2 (@Nat.pow_lt_pow_right 2 1134 1135 (by decide) (by decide))⟩
    have e : (vl x).natAbs = mg (x % 2 ^ 63) * 2 ^ pl (x % 2 ^ 63) := by unfold vl; rw [sgn_natAbs]; rfl
    rewrite [e] at h1 ⊢
    exact dvd_of_big 1014 962 (by decide) (mg_lt _) h1

theorem pow_split {P : Int} {i j : Nat} (hP : P * 2 ^ j = 2 ^ (1074 + i)) (hj : j ≤ 1074) : P = 2 ^ (1074 + i - j) := by
  have hpj : (2 : Int) ^ j ≠ 0 := Int.ne_of_gt (Int.pow_pos (show (0 : Int) < 2 from by decide))
  apply Int.eq_of_mul_eq_mul_right hpj
  rw [hP, ← Int.pow_add]; congr 1; omega
theorem dvd_pow_mul {v : Nat} (G H k : Nat) (d : 2 ^ G ∣ v) (hk : H ≤ k + G) : 2 ^ H ∣ 2 ^ k * v := by
  refine Nat.dvd_trans (Nat.pow_dvd_pow 2 hk) ?_
  rw [Nat.pow_add]
  exact Nat.mul_dvd_mul_left _ d
theorem lt_pow_mul {v : Nat} (B C k : Nat) (s : v < 2 ^ B) (hk : k + B ≤ C) : 2 ^ k * v < 2 ^ C := by
  have : 2 ^ k * v < 2 ^ k * 2 ^ B := Nat.mul_lt_mul_of_pos_left s (Nat.two_pow_pos _)
  rw [← Nat.pow_add] at this
  exact Nat.lt_of_lt_of_le this (Nat.pow_le_pow_right (by decide) hk)

theorem rdE_rel' {n m : Int} {i j g C t H C' : Nat} (hH : H = g + t) (hC' : C' = C + t) (hnm : n * 2 ^ i = m * 2 ^ j) (hdn : 2 ^ H ∣ n.natAbs) (hdm : 2 ^ H ∣ m.natAbs)
    (hcn : n.natAbs < 2 ^ C') (hcm : m.natAbs < 2 ^ C') (hg : 52 ≤ g) (hC : C ≤ 2097) :
    RelS i j g (C + 1) (rdE n (-1074 - (t : Int))) (rdE m (-1074 - (t : Int))) := by
  subst hH; subst hC'; exact rdE_rel hnm hdn hdm hcn hcm hg hC
theorem dvd_mul_pow (v : Int) (G H k : Nat) (d : 2 ^ G ∣ v.natAbs) (hk : H ≤ k + G) : 2 ^ H ∣ (v * 2 ^ k).natAbs := by
  rw [natAbs_mul_pow, Nat.mul_comm]; exact dvd_pow_mul G H k d hk
theorem lt_mul_pow (v : Int) (B C k : Nat) (s : v.natAbs < 2 ^ B) (hk : k + B ≤ C) : (v * 2 ^ k).natAbs < 2 ^ C := by
  rw [natAbs_mul_pow, Nat.mul_comm]; exact lt_pow_mul B C k s hk
theorem dvd_P {P v : Int} {k : Nat} (hP : P = 2 ^ k) (G H : Nat) (d : 2 ^ G ∣ v.natAbs) (hk : H ≤ k + G) : 2 ^ H ∣ (P * v).natAbs := by
  rw [hP, Int.mul_comm]; exact dvd_mul_pow v G H k d hk
theorem lt_P {P v : Int} {k : Nat} (hP : P = 2 ^ k) (B C : Nat) (s : v.natAbs < 2 ^ B) (hk : k + B ≤ C) : (P * v).natAbs < 2 ^ C := by
  rw [hP, Int.mul_comm]; exact lt_mul_pow v B C k s hk

/-- a coefficient's part times the power of two -/
theorem coef_rel {i j p x : Nat} {P : Int} (hf : fin x = true) (hm : MidV (vl x)) (hp : ev p = .num P) (hP : P * 2 ^ j = 2 ^ (1074 + i)) (hi : i ≤ 31) (hj : j ≤ 32) :
    RelS i j 930 1167 (ev x) (ev (fop .mul p x)) := by
  obtain ⟨d, s⟩ := mid_of hm
  have k1 : 930 + 1074 ≤ 1074 + i - j + 962 := by clear d s hm hP; omega
  have k2 : 1074 + i - j + 1135 ≤ 1166 + 1074 := by clear d s hm hP; omega
  have k3 : j ≤ 1074 := by clear d s hm hP; omega
  rw [ev_mul, hp, ev_fin hf]
  have hF : IsF (vl x) := ⟨x, hf, rfl⟩
  have e0 : Ext.num (vl x) = rdE (vl x * 2 ^ 1074) (-2148) := by
    have := scale_back (i := 0) (j := 0) (g := 0) (B := 1135) (P := 2 ^ 1074) (X := .num (vl x)) (Y := .num (vl x)) ⟨_, _, rfl, rfl, rfl, Nat.one_dvd _, Nat.one_dvd _, s, s⟩ (by rw [Int.pow_zero, Int.mul_one]) ⟨_, rfl, hF⟩
    rw [← this]; show rdE (2 ^ 1074 * vl x) _ = _; rw [Int.mul_comm]
  show RelS i j 930 1167 (Ext.num (vl x)) (rdE (P * vl x) (-2148))
  rw [e0]
  have hPe := pow_split hP k3
  have hn : vl x * 2 ^ 1074 * 2 ^ i = P * vl x * 2 ^ j := by
    rw [Int.mul_right_comm P, hP, Int.mul_assoc, ← Int.pow_add, Int.mul_comm]
  obtain ⟨H, hH⟩ : ∃ H : Nat, H = 930 + 1074 := ⟨_, rfl⟩
  obtain ⟨C', hC⟩ : ∃ H : Nat, H = 1166 + 1074 := ⟨_, rfl⟩
  rw [← hH] at k1
  rw [← hC] at k2
  exact rdE_rel' (t := 1074) (C := 1166) (g := 930) hH hC hn (dvd_mul_pow _ 962 H 1074 d (hH ▸ by decide)) (dvd_P hPe 962 H d k1) (lt_mul_pow _ 1135 C' 1074 s (hC ▸ by decide)) (lt_P hPe 1135 C' s k2) (by decide) (by decide)

/-! ### the place turned by a quarter, the coefficients turned back -/
abbrev EE := Ext × Ext
def evp (c : CB) : EE := (ev c.1, ev c.2)
def mulC (z w : EE) : EE := (subE (mulE z.1 w.1) (mulE z.2 w.2), addE (mulE z.1 w.2) (mulE z.2 w.1))
def addC (z w : EE) : EE := (addE z.1 w.1, addE z.2 w.2)
/-- times -i -/
def tq (z : EE) : EE := (z.2, negE z.1)
def tqs : Nat → EE → EE
  | 0, z => z
  | n + 1, z => tq (tqs n z)
theorem evp_cmul (z w : CB) : evp (cmul z w) = mulC (evp z) (evp w) := by
  unfold evp cmul mulC; dsimp only; rw [ev_sub, ev_add, ev_mul, ev_mul, ev_mul, ev_mul]
theorem evp_cadd (z w : CB) : evp (cadd z w) = addC (evp z) (evp w) := by
  unfold evp cadd addC; dsimp only; rw [ev_add, ev_add]
theorem tq_addC (z w : EE) : addC (tq z) (tq w) = tq (addC z w) := by
  unfold addC tq; dsimp only; rw [addE_neg]
theorem tqs_addC (n : Nat) (z w : EE) : addC (tqs n z) (tqs n w) = tqs n (addC z w) := by
  induction n with
  | zero => rfl
  | succ n ih => unfold tqs; rw [tq_addC, ih]
theorem tq_mulC (z w : EE) : mulC (tq z) w = tq (mulC z w) := by
  unfold mulC tq subE; dsimp only
  rw [mulE_neg_left, mulE_neg_left, negE_negE, ← addE_neg, negE_negE, addE_comm (mulE z.2 w.1), addE_comm (mulE z.2 w.2)]
theorem tqs_mulC (n : Nat) (z w : EE) : mulC (tqs n z) w = tqs n (mulC z w) := by
  induction n with
  | zero => rfl
  | succ n ih => unfold tqs; rw [tq_mulC, ih]
theorem tq_turn (z w : EE) : mulC (tq z) (negE w.2, w.1) = mulC z w := by
  unfold mulC tq subE; dsimp only
  rw [mulE_neg_left, negE_negE, mulE_neg_right, mulE_neg_left, mulE_neg_right, negE_negE, addE_comm (negE _), addE_comm (mulE z.2 w.1)]
theorem tq4 (z : EE) : tqs 4 z = z := by
  unfold tqs tqs tqs tqs tqs tq; dsimp only; rw [negE_negE, negE_negE]
theorem tqs_add (m n : Nat) (z : EE) : tqs (m + n) z = tqs m (tqs n z) := by
  induction m with
  | zero => rw [Nat.zero_add]; rfl
  | succ m ih => rw [Nat.succ_add]; unfold tqs; rw [ih]
theorem tqs_mod (n : Nat) (z : EE) : tqs (n % 4) z = tqs n z := by
  have : ∀ q r, tqs (4 * q + r) z = tqs r z := by
    intro q
    induction q with
    | zero => intro r; rw [Nat.mul_zero, Nat.zero_add]
    | succ q ih => intro r; rw [show 4 * (q + 1) + r = 4 + (4 * q + r) from by omega, tqs_add, tq4, ih]
  conv => rhs; rw [← Nat.div_add_mod n 4, this]

theorem turn_law {z z' : CB} (hz : evp z' = (negE (ev z.2), ev z.1)) : ∀ (l l' : List CB) (n : Nat), l.length = l'.length →
    (∀ i, evp (l'.getD i (0, 0)) = tqs (n + i) (evp (l.getD i (0, 0)))) → l ≠ [] → evp (hv l' z') = tqs n (evp (hv l z))
  | [], _, _, _, _, h => absurd rfl h
  | [c], [c'], n, _, h, _ => by have := h 0; simp only [List.getD_cons_zero, Nat.add_zero] at this; exact this
  | c :: d :: l, c' :: d' :: l', n, hl, h, _ => by
    have ih := turn_law hz (d :: l) (d' :: l') (n + 1) (by simpa using hl) (fun i => by
      have := h (i + 1); rw [show n + (i + 1) = n + 1 + i from by omega] at this; simpa using this) (by simp)
    have h0 := h 0
    simp only [List.getD_cons_zero, Nat.add_zero] at h0
    unfold hv
    rw [evp_cadd, evp_cadd, evp_cmul, evp_cmul, ih, h0, hz, ← tqs_addC, ← tqs_mulC]
    congr 1
    exact tq_turn _ (evp z)

end SurdFp
end Go
namespace Go
namespace SurdFp
open Ieee

/-! ### the sign turned -/
def ngF (b : Nat) : Nat := b ^^^ 2 ^ 63
theorem ngF_mod (b : Nat) : ngF b % 2 ^ 63 = b % 2 ^ 63 := by
  unfold ngF; rw [Nat.xor_mod_two_pow]; simp
theorem ngF_sg (b : Nat) : sg (ngF b) = !sg b := by
  unfold ngF sg
  rw [Nat.xor_div_two_pow, show (2 ^ 63 / 2 ^ 63 : Nat) = 1 from rfl]
  have : ∀ a : Nat, (a ^^^ 1) % 2 = 1 - a % 2 := by
    intro a
    have h := Nat.xor_mod_two_pow (a := a) (b := 1) (n := 1)
    rw [Nat.pow_one] at h
    rw [h]
    rcases Nat.mod_two_eq_zero_or_one a with e | e <;> rw [e] <;> rfl
  rw [this]
  rcases Nat.mod_two_eq_zero_or_one (b / 2 ^ 63) with e | e <;> rw [e] <;> rfl
theorem ngF_fin (b : Nat) : fin (ngF b) = fin b := by unfold fin; rw [ngF_mod]
theorem ngF_nan (b : Nat) : nan (ngF b) = nan b := by unfold nan; rw [ngF_mod]
theorem ngF_vl (b : Nat) : vl (ngF b) = - vl b := by
  unfold vl; rw [ngF_mod, ngF_sg]; cases sg b <;> simp [sgn]
theorem ev_ng (b : Nat) : ev (ngF b) = negE (ev b) := by
  cases hf : fin b
  · cases hn : nan b
    · rw [ev_inf hf hn, ev_inf (by rw [ngF_fin, hf]) (by rw [ngF_nan, hn]), ngF_sg]; rfl
    · rw [ev_nan hn, ev_nan (by rw [ngF_nan, hn])]; rfl
  · rw [ev_fin hf, ev_fin (by rw [ngF_fin, hf]), ngF_vl]; rfl
theorem ngF_lt {b : Nat} (h : b < 2 ^ 64) : ngF b < 2 ^ 64 := Nat.xor_lt_two_pow h (by decide)

/-! ### comparing -/
def ord (x y : Nat) : Option Ordering := FloatKind.f64.format.order x y
theorem compare_mul {a b c : Int} (hc : 0 < c) : compare (a * c) (b * c) = compare a b := by
  have h1 : a * c < b * c ↔ a < b := Int.mul_lt_mul_right hc
  have h2 : a * c = b * c ↔ a = b := ⟨fun h => Int.eq_of_mul_eq_mul_right (Int.ne_of_gt hc) h, fun h => by rw [h]⟩
  simp only [compare, compareOfLessAndEq, h1, h2]
theorem ord_aux (s t : Bool) (m n : Nat) (p q : Int) (hp : -1074 ≤ p) (hq : -1074 ≤ q) :
    compare (sgn s (m * 2 ^ (p - min p q).toNat)) (sgn t (n * 2 ^ (q - min p q).toNat)) = compare (sgn s (m * 2 ^ (p + 1074).toNat)) (sgn t (n * 2 ^ (q + 1074).toNat)) := by
  obtain ⟨b, hb⟩ : ∃ b : Nat, (b : Int) = min p q + 1074 := ⟨(min p q + 1074).toNat, by omega⟩
  have e1 : (p + 1074).toNat = (p - min p q).toNat + b := by omega
  have e2 : (q + 1074).toNat = (q - min p q).toNat + b := by omega
  rw [e1, e2, Nat.pow_add, Nat.pow_add, ← Nat.mul_assoc, ← Nat.mul_assoc, sgn_mul_pow s (m * 2 ^ (p - min p q).toNat) b, sgn_mul_pow t (n * 2 ^ (q - min p q).toNat) b,
    compare_mul (Int.pow_pos (by decide))]
theorem ord_fin {x y : Nat} (hx : fin x = true) (hy : fin y = true) : ord x y = some (compare (vl x) (vl y)) := by
  show (rd x).order (rd y) = _
  rw [rd_fin hx, rd_fin hy]
  simp only [Datum.order, signed_eq]
  congr 1
  rw [ord_aux _ _ _ _ _ _ (by omega) (by omega)]
  unfold vl mv
  rw [show (-1074 + (pl (x % 2 ^ 63) : Int) + 1074).toNat = pl (x % 2 ^ 63) from by omega, show (-1074 + (pl (y % 2 ^ 63) : Int) + 1074).toNat = pl (y % 2 ^ 63) from by omega]
theorem ord_inf_left {x y : Nat} (h : fin x = false) (hn : nan x = false) (hy : fin y = true) : ord x y = some (if sg x then .lt else .gt) := by
  show (rd x).order (rd y) = _
  rw [rd_inf h hn, rd_fin hy]; rfl
theorem ord_nan {x y : Nat} (h : nan x = true ∨ nan y = true) : ord x y = none := order_nan x y h

/-- HornerTwice's test of one part, as the code asks it -/
def smA (x : Nat) : Nat := if ord x 0 == some .lt then ngF x else x
def smallB (x : Nat) : Bool :=
  !(ord (smA x) (smA x) != some .eq || (ord (smA x) 0 != some .eq && (ord (smA x) 0x3C30000000000000 == some .lt || ord (smA x) 0x43B0000000000000 == some .gt)))

theorem vl_lo : vl 0x3C30000000000000 = 2 ^ 1014 := by decide +kernel
theorem vl_hi : vl 0x43B0000000000000 = 2 ^ 1134 := by decide +kernel
theorem fin_lo : fin 0x3C30000000000000 = true := by decide +kernel
theorem fin_hi : fin 0x43B0000000000000 = true := by decide +kernel
theorem fin_0 : fin 0 = true := by decide +kernel
theorem vl_0 : vl 0 = 0 := rfl
theorem compare_lt {a b : Int} : compare a b = .lt ↔ a < b := by
  simp only [compare, compareOfLessAndEq]
  by_cases h : a < b
  · simp [h]
  · by_cases h2 : a = b
    · simp [h2]
    · simp [h, h2]
theorem compare_gt {a b : Int} : compare a b = .gt ↔ b < a := by
  simp only [compare, compareOfLessAndEq]
  by_cases h : a < b
  · simp [h]; omega
  · by_cases h2 : a = b
    · simp [h2]
    · simp [h, h2]; omega
theorem compare_eq {a b : Int} : compare a b = .eq ↔ a = b := by
  simp only [compare, compareOfLessAndEq]
  by_cases h : a < b
  · simp [h]; omega
  · by_cases h2 : a = b
    · simp [h2]
    · simp [h, h2]

theorem pow_le_of_not_lt (n k : Nat) (h : ¬ (n : Int) < 2 ^ k) : 2 ^ k ≤ n := by
  have : ((2 ^ k : Nat) : Int) ≤ n := by rw [Int.natCast_pow]; exact Int.not_lt.1 h
  exact Int.ofNat_le.1 this
theorem le_pow_of_not_lt (n k : Nat) (h : ¬ (2 : Int) ^ k < (n : Int)) : n ≤ 2 ^ k := by
  have : (n : Int) ≤ ((2 ^ k : Nat) : Int) := by rw [Int.natCast_pow]; exact Int.not_lt.1 h
  exact Int.ofNat_le.1 this
theorem small_midv {x : Nat} (h : smallB x = true) : fin x = true ∧ MidV (vl x) := by
  unfold smallB at h
  rw [Bool.not_eq_true', Bool.or_eq_false_iff] at h
  obtain ⟨h1, h2⟩ := h
  have hfa : fin (smA x) = fin x := by unfold smA; split <;> simp [ngF_fin]
  have hna : nan (smA x) = nan x := by unfold smA; split <;> simp [ngF_nan]
  have hn : nan x = false := by
    rw [← hna]
    have := neq_self (smA x)
    rw [show FloatKind.f64.format.order (smA x) (smA x) = ord (smA x) (smA x) from rfl, h1] at this
    exact this.symm
  have hf : fin x = true := by
    cases hf : fin x
    · exfalso
      have a1 : sg (smA x) = false := by
        unfold smA
        rw [ord_inf_left hf hn fin_0]
        cases hs : sg x
        · simp [hs]
        · simp [ngF_sg, hs]
      rw [ord_inf_left (by rw [hfa, hf]) (by rw [hna, hn]) fin_0, ord_inf_left (by rw [hfa, hf]) (by rw [hna, hn]) fin_hi, a1] at h2
      simp at h2
    · rfl
  refine ⟨hf, ?_⟩
  have ha : vl (smA x) = (vl x).natAbs := by
    unfold smA
    rw [ord_fin hf fin_0, vl_0]
    by_cases hlt : vl x < 0
    · rw [compare_lt.2 hlt]; simp only [beq_self_eq_true, if_true]; rw [ngF_vl]; omega
    · have : (some (compare (vl x) 0) == some Ordering.lt) = false := by
        rw [beq_eq_false_iff_ne]; intro hc; injection hc with hc; exact hlt (compare_lt.1 hc)
      rw [this]; simp only [Bool.false_eq_true, if_false]; omega
  rw [ord_fin (by rw [hfa, hf]) fin_0, ord_fin (by rw [hfa, hf]) fin_lo, ord_fin (by rw [hfa, hf]) fin_hi, ha, vl_0, vl_lo, vl_hi, Bool.and_eq_false_iff, Bool.or_eq_false_iff] at h2
  rcases h2 with h2 | ⟨h3, h4⟩
  · left
    have : compare (((vl x).natAbs : Nat) : Int) 0 = .eq := by simpa using h2
    have := compare_eq.1 this
    omega
  · right
    rw [beq_eq_false_iff_ne] at h3 h4
    have a : ¬ (((vl x).natAbs : Nat) : Int) < 2 ^ 1014 := fun hc => h3 (congrArg some (compare_lt.2 hc))
    have b : ¬ (2 ^ 1134 : Int) < (((vl x).natAbs : Nat) : Int) := fun hc => h4 (congrArg some (compare_gt.2 hc))
    exact ⟨pow_le_of_not_lt _ 1014 a, le_pow_of_not_lt _ 1134 b⟩

/-! ### the power of two -/
/-- the bits of 2 ^ (e - 1023) -/
def pw (e : Nat) : Nat := e * 2 ^ 52
theorem double_pw : ∀ e, e < 64 → floatBits .mul .f64 0x4000000000000000 (pw (991 + e)) = some (pw (992 + e)) := by decide +kernel
theorem half_pw : ∀ e, e < 64 → floatBits .quo .f64 (pw (992 + e)) 0x4000000000000000 = some (pw (991 + e)) := by decide +kernel
theorem ev_pw (e : Nat) (h0 : 1 ≤ e) (h : e < 2047) : ev (pw e) = .num (2 ^ (51 + e)) := by
  have hm : pw e % 2 ^ 63 = e * 2 ^ 52 := by unfold pw; omega
  have hf : fin (pw e) = true := by unfold fin; rw [hm]; simp; omega
  have hs : sg (pw e) = false := by unfold sg pw; rw [Nat.div_eq_of_lt (by omega)]; rfl
  rw [ev_fin hf]
  congr 1
  unfold vl mv
  rw [hm, hs]
  have h1 : mg (e * 2 ^ 52) = 2 ^ 52 := by unfold mg; rw [if_neg (by omega)]; omega
  have h2 : pl (e * 2 ^ 52) = e - 1 := by unfold pl; omega
  rw [h1, h2, ← Nat.pow_add, show 52 + (e - 1) = 51 + e from by omega]
  show ((2 ^ (51 + e) : Nat) : Int) = _
  rw [Int.natCast_pow]; rfl

end SurdFp
end Go
