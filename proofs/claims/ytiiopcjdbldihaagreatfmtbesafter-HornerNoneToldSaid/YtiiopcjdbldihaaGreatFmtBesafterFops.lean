/- Contracts of the functions on floats and complex numbers that have no loop: bits, NaN, sizes, sums, products, what is the same. No condition. -/
import Derived.Test.YtiiopcjdbldihaaGreatFmtBesafterFloat
import Derived.Test.YtiiopcjdbldihaaGreatFmtBesafterProg
import Derived.WalkKit
import Derived.WalkSpells
import Derived.WalkLawsBesides
import Derived.Handy
import Derived.Laws.Externs
import Derived.Laws.BitsAll
import Derived.Deep.Draws
namespace Go
namespace SurdFp
/-- the bits that come of an operation: of an invalid one what the tape says -/
def fres (op : BinOp) (x y : Nat) (w : World) : Nat := (floatBits op .f64 x y).getD ((Question.nanBits .f64 x y).cut (w.tape w.drawn (.nanBits .f64 x y)))
def fdr (op : BinOp) (x y : Nat) (w : World) : World := if (floatBits op .f64 x y).isNone then w.drew else w
theorem run_fop {P : Program} (op : BinOp) (ho : op = .add ∨ op = .sub ∨ op = .mul ∨ op = .quo) (t : TypeId) (x y : Nat) (w : World) :
    (binOp op t (.float .f64 x) (.float .f64 y)).run P w = .ok (.float .f64 (fres op x y w)) (fdr op x y w) := by
  unfold fres fdr
  cases h : floatBits op .f64 x y with
  | some r => rw [run_float_arith w op t .f64 x y r h]; rfl
  | none =>
    unfold floatBits at h
    rcases ho with rfl | rfl | rfl | rfl <;> simp only at h <;> simp [binOp, Op.floatArith, h, choose] <;> rfl
theorem fdr_drewN (op : BinOp) (x y : Nat) (w : World) : ∃ n, fdr op x y w = w.drewN n := by
  unfold fdr; split
  · exact ⟨1, rfl⟩
  · exact ⟨0, rfl⟩
theorem fop_fres (op : BinOp) (x y : Nat) (w : World) : FOp op x y (fres op x y w) := by
  unfold FOp fres
  cases h : floatBits op .f64 x y with
  | some r => exact .inl rfl
  | none =>
    refine .inr ⟨rfl, ?_⟩
    show nan ((Question.nanBits .f64 x y).cut _) = true
    generalize w.tape w.drawn (.nanBits .f64 x y) = t
    have e : (Question.nanBits .f64 x y).cut t = (t % 2) * 2 ^ 63 + 0x7ff0000000000000 + 1 + (t / 2) % (2 ^ 52 - 1) := rfl
    rw [e]
    unfold nan
    have h1 : t % 2 = 0 ∨ t % 2 = 1 := Nat.mod_two_eq_zero_or_one t
    have h2 : t / 2 % (2 ^ 52 - 1) < 2 ^ 52 - 1 := Nat.mod_lt _ (by decide)
    generalize t / 2 % (2 ^ 52 - 1) = u at *
    rw [decide_eq_true_eq]
    rcases h1 with h1 | h1 <;> rw [h1] <;> omega
theorem fres_lt {op : BinOp} (x y : Nat) (w : World) : fres op x y w < 2 ^ 64 := by
  unfold fres
  cases h : floatBits op .f64 x y with
  | some r =>
    have := floatBits_wf h
    simpa [Lit.wf] using this
  | none =>
    show (Question.nanBits .f64 x y).cut _ < 2 ^ 64
    generalize w.tape w.drawn (.nanBits .f64 x y) = t
    have e : (Question.nanBits .f64 x y).cut t = (t % 2) * 2 ^ 63 + 0x7ff0000000000000 + 1 + (t / 2) % (2 ^ 52 - 1) := rfl
    rw [e]
    have h1 : t % 2 = 0 ∨ t % 2 = 1 := Nat.mod_two_eq_zero_or_one t
    have h2 : t / 2 % (2 ^ 52 - 1) < 2 ^ 52 - 1 := Nat.mod_lt _ (by decide)
    rcases h1 with h1 | h1 <;> rw [h1] <;> omega
theorem cn_fres {op : BinOp} (ho : Arith op) (x y : Nat) (w : World) : cn (fres op x y w) = fop op (cn x) (cn y) := FOp.cn ho (fop_fres op x y w)
/-- w' is w behind some draws. -/
def Dr (w w' : World) : Prop := ∃ n, w' = w.drewN n
theorem Dr.refl (w : World) : Dr w w := ⟨0, rfl⟩
theorem Dr.step {w w' : World} (h : Dr w w') (op : BinOp) (x y : Nat) : Dr w (fdr op x y w') := by
  obtain ⟨n, rfl⟩ := h
  obtain ⟨m, e⟩ := fdr_drewN op x y (w.drewN n)
  exact ⟨n + m, by rw [e, World.drewN_drewN]⟩
theorem Dr.trans {u v w : World} (h : Dr u v) (k : Dr v w) : Dr u w := by
  obtain ⟨n, rfl⟩ := h
  obtain ⟨m, rfl⟩ := k
  exact ⟨n + m, by rw [World.drewN_drewN]⟩
end SurdFp
end Go
namespace Go.Proofs.YtiiopcjdbldihaaGreatFmtBesafter
open Go.RowKit Go.SurdFp

theorem run_bits (x : Nat) (w : World) : (callFunc 34 #[.float .f64 x]).run Tryz.prog w = .ok (.value (.int .u64 x)) w := by
  rw [run_callFunc_extern (fn := Tryz.f34) (e := Extern.MathFloatBits.float64bits) (by kernel_rfl) (by kernel_rfl) (by kernel_rfl) (by kernel_rfl) (by kernel_rfl)]
  rfl
theorem run_frombits (x : Int) (w : World) : (callFunc 30 #[.int .u64 x]).run Tryz.prog w = .ok (.value (.float .f64 x.toNat)) w := by
  rw [run_callFunc_extern (fn := Tryz.f30) (e := Extern.MathFloatBits.float64frombits) (by kernel_rfl) (by kernel_rfl) (by kernel_rfl) (by kernel_rfl) (by kernel_rfl)]
  rfl
/-- the bits below the sign's -/
theorem andNot_top (x : Nat) (hx : x < 2 ^ 64) : bits .andNot .u64 (x : Int) 9223372036854775808 = ((x % 2 ^ 63 : Nat) : Int) := by
  have e := u64_andNot_nat x 9223372036854775808 (by simpa using hx) (by decide)
  have e2 : x &&& (18446744073709551615 - 9223372036854775808) = x % 2 ^ 63 := Nat.and_two_pow_sub_one_eq_mod x 63
  rw [e2] at e
  simpa using e

set_option maxRecDepth 100000 in
set_option maxHeartbeats 400000 in
theorem Abs_any (x : Nat) (hx : x < 2 ^ 64) (w : World) : Calls Tryz.prog 44 #[.float .f64 x] w fun e w' => e = .returned (.float .f64 (x % 2 ^ 63)) ∧ w = w' := by
  obtain ⟨y, hy⟩ : ∃ y, y = x % 2 ^ 63 := ⟨_, rfl⟩
  have h1 := run_bits x w
  have h2 : (callFunc 30 #[.int .u64 (y : Int)]).run Tryz.prog w = .ok (.value (.float .f64 y)) w := by
    rw [run_frombits, Int.toNat_natCast]
  have h3 : bits .andNot .u64 (x : Int) 9223372036854775808 = (y : Int) := by rw [hy]; exact andNot_top x hx
  rw [← hy]
  clear hy
  go_enter Tryz.func44, Tryz.ntmps44
  go_wp2
  go_ret
  exact ⟨rfl, rfl⟩

set_option maxHeartbeats 400000 in
theorem IsNaN_any (x : Nat) (w : World) : Calls Tryz.prog 22 #[.float .f64 x] w fun e w' => e = .returned (.bool (nan x)) ∧ w = w' := by
  have hn := neq_self x
  go_enter Tryz.func22, Tryz.ntmps22
  go_wp2
  go_ret
  exact ⟨rfl, rfl⟩

set_option maxHeartbeats 1000000 in
theorem Mul_any (a b c d : Nat) (w : World) : Calls Tryz.prog 33 #[.complex .f64 a b, .complex .f64 c d] w fun e w' => ∃ r i, e = .returned (.complex .f64 r i) ∧ cnp (r, i) = cmul (cnp (a, b)) (cnp (c, d)) ∧ r < 2 ^ 64 ∧ i < 2 ^ 64 ∧ Dr w w' := by
  have hm := fun x y w => run_fop (P := Tryz.prog) .mul (by simp) 38 x y w
  have hs := fun x y w => run_fop (P := Tryz.prog) .sub (by simp) 38 x y w
  have ha := fun x y w => run_fop (P := Tryz.prog) .add (by simp) 38 x y w
  go_enter Tryz.func33, Tryz.ntmps33
  go_wp2
  clear hm hs ha
  go_ret
  refine ⟨_, _, rfl, ?_, fres_lt _ _ _, fres_lt _ _ _, ?_⟩
  · simp only [cnp, cmul, cn_fres (op := .mul) (.inr (.inr rfl)), cn_fres (op := .sub) (.inr (.inl rfl)), cn_fres (op := .add) (.inl rfl)]
  · exact (((((Dr.refl w).step _ _ _).step _ _ _).step _ _ _).step _ _ _).step _ _ _ |>.step _ _ _

set_option maxHeartbeats 1000000 in
theorem Add_any (a b c d : Nat) (w : World) : Calls Tryz.prog 32 #[.complex .f64 a b, .complex .f64 c d] w fun e w' => ∃ r i, e = .returned (.complex .f64 r i) ∧ cnp (r, i) = cadd (cnp (a, b)) (cnp (c, d)) ∧ r < 2 ^ 64 ∧ i < 2 ^ 64 ∧ Dr w w' := by
  have ha := fun x y w => run_fop (P := Tryz.prog) .add (by simp) 38 x y w
  go_enter Tryz.func32, Tryz.ntmps32
  go_wp2
  clear ha
  go_ret
  refine ⟨_, _, rfl, ?_, fres_lt _ _ _, fres_lt _ _ _, ?_⟩
  · simp only [cnp, cadd, cn_fres (op := .add) (.inl rfl)]
  · exact ((Dr.refl w).step _ _ _).step _ _ _

set_option maxHeartbeats 1000000 in
theorem F_any (x : Int) (w : World) : Calls Tryz.prog 18 #[.int .u64 x] w fun e w' => e = .returned (.float .f64 x.toNat) ∧ w = w' := by
  have h2 := run_frombits x
  go_enter Tryz.func18, Tryz.ntmps18
  go_wp2
  go_ret
  exact ⟨rfl, rfl⟩

set_option maxHeartbeats 1000000 in
theorem C_any (x y : Int) (w : World) : Calls Tryz.prog 6 #[.int .u64 x, .int .u64 y] w fun e w' => e = .returned (.complex .f64 x.toNat y.toNat) ∧ w = w' := by
  go_enter Tryz.func6, Tryz.ntmps6
  go_wp2_with (fail)
  refine (F_any x _).mono ?_
  rintro e w1 ⟨rfl, rfl⟩
  go_wp2_with (fail)
  refine (F_any y _).mono ?_
  rintro e w1 ⟨rfl, rfl⟩
  go_wp2
  go_ret
  exact ⟨rfl, rfl⟩
theorem same_cn {x y : Nat} (hx : nan x = false) : ((x : Int) == (y : Int)) = decide (cn x = cn y) := by
  by_cases hy : nan y = true
  · have h1 : cn x ≠ cn y := fun h => by
      have := nan_cn x; rw [h, nan_cn, hy, hx] at this; cases this
    have h2 : ¬ ((x : Int) = (y : Int)) := fun h => h1 (by rw [Int.ofNat.inj h])
    simp [h1, h2]
  · rw [cn_not hx, cn_not (by simpa using hy)]
    rw [Bool.eq_iff_iff, beq_iff_eq, decide_eq_true_eq]
    omega
theorem same_cn' {x y : Nat} (hy : nan y = false) : ((x : Int) == (y : Int)) = decide (cn x = cn y) := by
  rw [show ((x : Int) == (y : Int)) = ((y : Int) == (x : Int)) from by rw [Bool.eq_iff_iff, beq_iff_eq, beq_iff_eq]; omega, same_cn hy]
  simp [eq_comm]

set_option maxHeartbeats 1000000 in
theorem SameF_any (x y : Nat) (w : World) : Calls Tryz.prog 23 #[.float .f64 x, .float .f64 y] w fun e w' => e = .returned (.bool (decide (cn x = cn y))) ∧ w = w' := by
  have hn1 := neq_self x
  have hn2 := neq_self y
  have h1 := run_bits x w
  have h2 := run_bits y w
  by_cases hx : nan x = true
  · by_cases hy : nan y = true
    · rw [cn_nan hx, cn_nan hy]
      go_enter Tryz.func23, Tryz.ntmps23
      go_wp2
      go_ret
      exact ⟨by simp, rfl⟩
    · rw [← same_cn' (by simpa using hy)]
      go_enter Tryz.func23, Tryz.ntmps23
      go_wp2
      go_ret
      exact ⟨rfl, rfl⟩
  · rw [← same_cn (by simpa using hx)]
    go_enter Tryz.func23, Tryz.ntmps23
    go_wp2
    go_ret
    exact ⟨rfl, rfl⟩

set_option maxHeartbeats 1000000 in
theorem SameC_any (a b c d : Nat) (w : World) : Calls Tryz.prog 12 #[.complex .f64 a b, .complex .f64 c d] w fun e w' => e = .returned (.bool (decide (cnp (a, b) = cnp (c, d)))) ∧ w = w' := by
  have e0 : decide (cnp (a, b) = cnp (c, d)) = (decide (cn a = cn c) && decide (cn b = cn d)) := by simp [cnp]
  rw [e0]
  have k1 := SameF_any a c
  have k2 := SameF_any b d
  clear e0
  generalize decide (cn a = cn c) = p at *
  generalize decide (cn b = cn d) = q at *
  cases p
  · rw [Bool.false_and]
    go_enter Tryz.func12, Tryz.ntmps12
    go_wp2_with (fail)
    refine (k1 _).mono ?_
    rintro e w1 ⟨rfl, rfl⟩
    go_wp2
    go_ret
    exact ⟨rfl, rfl⟩
  · rw [Bool.true_and]
    go_enter Tryz.func12, Tryz.ntmps12
    go_wp2_with (fail)
    refine (k1 _).mono ?_
    rintro e w1 ⟨rfl, rfl⟩
    go_wp2_with (fail)
    refine (k2 _).mono ?_
    rintro e w1 ⟨rfl, rfl⟩
    go_wp2
    go_ret
    exact ⟨rfl, rfl⟩

set_option maxHeartbeats 1000000 in
theorem c_any (x y : Nat) (w : World) : Calls Tryz.prog 14 #[.float .f64 x, .float .f64 y] w fun e w' => e = .returned (.complex .f64 x y) ∧ w = w' := by
  go_enter Tryz.func14, Tryz.ntmps14
  go_wp2
  go_ret
  exact ⟨rfl, rfl⟩
set_option maxHeartbeats 1000000 in
theorem Num_any (x : Int) (w : World) : Calls Tryz.prog 9 #[.int .i64 x] w fun e w' => e = .returned (.int .i64 x) ∧ w = w' := by
  go_enter Tryz.func9, Tryz.ntmps9
  go_wp2
  go_ret
  exact ⟨rfl, rfl⟩
end Go.Proofs.YtiiopcjdbldihaaGreatFmtBesafter
