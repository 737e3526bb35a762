/- ieee.Next of any float; horner.one, up. No condition. -/
import Derived.Test.YtiiopcjdbldihaaGreatFmtFops
namespace Go
namespace SurdFp
/-- the next float's bits -/
def nx (x : Nat) : Nat :=
  if nan x then x else if x < 2 ^ 63 then (if x = 2047 * 2 ^ 52 then x else x + 1) else if x = 2 ^ 63 then 0 else x - 1
end SurdFp
end Go
namespace Go.Proofs.YtiiopcjdbldihaaGreatFmt
open Go.RowKit Go.SurdFp

set_option maxRecDepth 100000 in
set_option maxHeartbeats 400000 in
theorem size_any (x : Nat) (hx : x < 2 ^ 64) (w : World) : Calls Tryz.prog 61 #[.float .f64 x] w fun e w' => e = .returned (.int .u64 ((x % 2 ^ 63 : Nat) : Int)) ∧ w = w' := by
  obtain ⟨y, hy⟩ : ∃ y, y = x % 2 ^ 63 := ⟨_, rfl⟩
  have h1 := run_bits x w
  have h3 : bits .andNot .u64 (x : Int) 9223372036854775808 = (y : Int) := by rw [hy]; exact andNot_top x hx
  rw [← hy]
  clear hy
  go_enter Tryz.func61, Tryz.ntmps61
  go_wp2
  go_ret
  exact ⟨rfl, rfl⟩
set_option maxRecDepth 100000 in
set_option maxHeartbeats 400000 in
theorem none_any (x : Nat) (hx : x < 2 ^ 64) (w : World) : Calls Tryz.prog 43 #[.float .f64 x] w fun e w' => e = .returned (.bool (nan x)) ∧ w = w' := by
  have k := size_any x hx w
  have e0 : decide (9218868437227405312 < ((x % 2 ^ 63 : Nat) : Int)) = nan x := by
    unfold nan; rw [decide_eq_decide]; omega
  rw [← e0]
  clear e0
  generalize x % 2 ^ 63 = y at *
  go_enter Tryz.func43, Tryz.ntmps43
  go_wp2_with (fail)
  refine k.mono ?_
  rintro e w1 ⟨rfl, rfl⟩
  go_wp2
  go_ret
  exact ⟨rfl, rfl⟩
set_option maxRecDepth 100000 in
set_option maxHeartbeats 400000 in
theorem place_nan (x : Nat) (hx : x < 2 ^ 64) (hn : nan x = true) (w : World) : Calls Tryz.prog 44 #[.float .f64 x] w fun e w' => e = .returned (.int .i64 9223372036854775807) ∧ w = w' := by
  have k := none_any x hx w
  rw [hn] at k
  go_enter Tryz.func44, Tryz.ntmps44
  go_wp2_with (fail)
  refine k.mono ?_
  rintro e w1 ⟨rfl, rfl⟩
  go_wp2
  go_ret
  exact ⟨rfl, rfl⟩
set_option maxRecDepth 100000 in
set_option maxHeartbeats 400000 in
theorem place_pos (x : Nat) (hx : x < 2 ^ 63) (hn : nan x = false) (w : World) : Calls Tryz.prog 44 #[.float .f64 x] w fun e w' => e = .returned (.int .i64 x) ∧ w = w' := by
  have k := none_any x (by omega) w
  rw [hn] at k
  have h1 := run_bits x w
  have h3 : bits .and .u64 (x : Int) 9223372036854775808 = 0 := by
    have e := u64_and_nat x 9223372036854775808 (by omega) (by decide)
    have e2 : x &&& 9223372036854775808 = 0 := by rw [nat_bit63]; omega
    rw [e2] at e
    simpa using e
  have h4 : IntKind.i64.wrap (x : Int) = x := by rw [IntKind.wrap_i64]; omega
  go_enter Tryz.func44, Tryz.ntmps44
  go_wp2_with (fail)
  refine k.mono ?_
  rintro e w1 ⟨rfl, rfl⟩
  go_wp2
  go_ret
  exact ⟨rfl, rfl⟩
set_option maxRecDepth 100000 in
set_option maxHeartbeats 400000 in
theorem place_neg (x y : Nat) (hy : y < 2 ^ 63) (hx : x = y + 9223372036854775808) (hn : nan x = false) (w : World) : Calls Tryz.prog 44 #[.float .f64 x] w fun e w' => e = .returned (.int .i64 (-1 - (y : Int))) ∧ w = w' := by
  have k := none_any x (by omega) w
  rw [hn] at k
  have h1 := run_bits x w
  have h3 : bits .and .u64 (x : Int) 9223372036854775808 = 9223372036854775808 := by
    have e := u64_and_nat x 9223372036854775808 (by omega) (by decide)
    have e2 : x &&& 9223372036854775808 = 9223372036854775808 := by rw [nat_bit63]; omega
    rw [e2] at e
    simpa using e
  have h5 : bits .andNot .u64 (x : Int) 9223372036854775808 = (y : Int) := by rw [andNot_top x (by omega)]; congr 1; omega
  have h4 : IntKind.i64.wrap (y : Int) = y := by rw [IntKind.wrap_i64]; omega
  have h6 : IntKind.i64.wrap (-1 - (y : Int)) = -1 - (y : Int) := by rw [IntKind.wrap_i64]; omega
  clear hx hn
  go_enter Tryz.func44, Tryz.ntmps44
  go_wp2_with (fail)
  refine k.mono ?_
  rintro e w1 ⟨rfl, rfl⟩
  go_wp2
  go_ret
  exact ⟨rfl, rfl⟩
set_option maxRecDepth 100000 in
set_option maxHeartbeats 400000 in
theorem at_pos (x : Nat) (hx : x < 2 ^ 63) (w : World) : Calls Tryz.prog 45 #[.int .i64 x] w fun e w' => e = .returned (.float .f64 x) ∧ w = w' := by
  have h0 : ¬ ((x : Int) < 0) := by omega
  have h2 : (callFunc 28 #[.int .u64 (x : Int)]).run Tryz.prog w = .ok (.value (.float .f64 x)) w := by
    rw [run_frombits, Int.toNat_natCast]
  have h4 : IntKind.u64.wrap (x : Int) = x := by rw [IntKind.wrap_u64]; omega
  go_enter Tryz.func45, Tryz.ntmps45
  go_wp2
  go_ret
  exact ⟨rfl, rfl⟩
set_option maxRecDepth 100000 in
set_option maxHeartbeats 400000 in
theorem at_neg (y x : Nat) (v : Int) (hy : y < 2 ^ 63) (hx : x = y + 9223372036854775808) (hv : v = -1 - (y : Int)) (w : World) : Calls Tryz.prog 45 #[.int .i64 v] w fun e w' => e = .returned (.float .f64 x) ∧ w = w' := by
  have h0 : v < 0 := by omega
  have h2 : (callFunc 28 #[.int .u64 (x : Int)]).run Tryz.prog w = .ok (.value (.float .f64 x)) w := by
    rw [run_frombits, Int.toNat_natCast]
  have h3 : IntKind.i64.wrap (-1 - v) = (y : Int) := by rw [IntKind.wrap_i64]; omega
  have h4 : IntKind.u64.wrap (y : Int) = y := by rw [IntKind.wrap_u64]; omega
  have h5 : bits .or .u64 (y : Int) 9223372036854775808 = (x : Int) := by
    have e := u64_or_nat y 9223372036854775808 (by omega) (by decide)
    have e2 : y ||| 9223372036854775808 = x := by rw [nat_join63' 9223372036854775808 y (by decide) (by omega)]; omega
    rw [e2] at e
    simpa using e
  clear hv hx
  go_enter Tryz.func45, Tryz.ntmps45
  go_wp2
  go_ret
  exact ⟨rfl, rfl⟩

set_option maxRecDepth 100000 in
set_option maxHeartbeats 1000000 in
theorem Next_any (x : Nat) (hx : x < 2 ^ 64) (w : World) : Calls Tryz.prog 33 #[.float .f64 x] w fun e w' => e = .returned (.float .f64 (nx x)) ∧ w = w' := by
  have k0 := none_any x hx
  by_cases hn : nan x = true
  · have e0 : nx x = x := by unfold nx; rw [if_pos hn]
    rw [e0]
    rw [hn] at k0
    go_enter Tryz.func33, Tryz.ntmps33
    go_wp2_with (fail)
    refine (k0 _).mono ?_
    rintro e w1 ⟨rfl, rfl⟩
    go_wp2
    go_ret
    exact ⟨rfl, rfl⟩
  have hn' : nan x = false := by simpa using hn
  rw [hn'] at k0
  by_cases hp : x < 2 ^ 63
  · have k1 := place_pos x hp hn'
    by_cases hi : x = 2047 * 2 ^ 52
    · have e0 : nx x = x := by unfold nx; rw [if_neg hn, if_pos hp, if_pos hi]
      rw [e0]
      have hi' : ((x : Int) == 9218868437227405312) = true := by rw [hi]; decide
      clear hn hn' hp hi hx e0
      go_enter Tryz.func33, Tryz.ntmps33
      go_wp2_with (fail)
      refine (k0 _).mono ?_
      rintro e w1 ⟨rfl, rfl⟩
      go_wp2_with (fail)
      refine (k1 _).mono ?_
      rintro e w1 ⟨rfl, rfl⟩
      go_wp2
      go_ret
      exact ⟨rfl, rfl⟩
    · have e0 : nx x = x + 1 := by unfold nx; rw [if_neg hn, if_pos hp, if_neg hi]
      have hl : x < 2047 * 2 ^ 52 := by
        have := hn'; unfold nan at this; rw [decide_eq_false_iff_not] at this; omega
      rw [e0]
      have hi' : ((x : Int) == 9218868437227405312) = false := by rw [beq_eq_false_iff_ne]; omega
      have h6 : IntKind.i64.wrap ((x : Int) + 1) = ((x + 1 : Nat) : Int) := by rw [IntKind.wrap_i64]; omega
      have k2 := at_pos (x + 1) (by omega)
      clear hn hn' hp hi hx e0 hl
      generalize x + 1 = t at *
      go_enter Tryz.func33, Tryz.ntmps33
      go_wp2_with (fail)
      refine (k0 _).mono ?_
      rintro e w1 ⟨rfl, rfl⟩
      go_wp2_with (fail)
      refine (k1 _).mono ?_
      rintro e w1 ⟨rfl, rfl⟩
      go_wp2_with (fail)
      refine (k1 _).mono ?_
      rintro e w1 ⟨rfl, rfl⟩
      go_wp2_with (fail)
      refine (k2 _).mono ?_
      rintro e w1 ⟨rfl, rfl⟩
      go_wp2
      go_ret
      exact ⟨rfl, rfl⟩
  · obtain ⟨y, hy⟩ : ∃ y, x = y + 9223372036854775808 := ⟨x - 9223372036854775808, by omega⟩
    have k1 := place_neg x y (by omega) hy hn'
    have hi' : ((-1 - (y : Int)) == 9218868437227405312) = false := by rw [beq_eq_false_iff_ne]; omega
    have k2 : ∀ w, Calls Tryz.prog 45 #[.int .i64 (-(y : Int))] w fun e w' => e = .returned (.float .f64 (nx x)) ∧ w = w' := by
      by_cases h0 : y = 0
      · have e0 : nx x = 0 := by unfold nx; rw [if_neg hn, if_neg hp, if_pos (by omega)]
        rw [e0, h0]
        exact at_pos 0 (by decide)
      · have e0 : nx x = x - 1 := by unfold nx; rw [if_neg hn, if_neg hp, if_neg (by omega)]
        rw [e0]
        exact at_neg (y - 1) (x - 1) _ (by omega) (by omega) (by omega)
    have h6 : IntKind.i64.wrap (-1 - (y : Int) + 1) = -(y : Int) := by rw [IntKind.wrap_i64]; omega
    generalize nx x = r at *
    obtain ⟨v, hv⟩ : ∃ v, v = -1 - (y : Int) := ⟨_, rfl⟩
    obtain ⟨u, hu⟩ : ∃ u, u = -(y : Int) := ⟨_, rfl⟩
    rw [← hv] at k1 hi' h6
    rw [← hu] at h6 k2
    clear hv hu hy hn hn' hp hx
    go_enter Tryz.func33, Tryz.ntmps33
    go_wp2_with (fail)
    refine (k0 _).mono ?_
    rintro e w1 ⟨rfl, rfl⟩
    go_wp2_with (fail)
    refine (k1 _).mono ?_
    rintro e w1 ⟨rfl, rfl⟩
    go_wp2_with (fail)
    refine (k1 _).mono ?_
    rintro e w1 ⟨rfl, rfl⟩
    go_wp2_with (fail)
    refine (k2 _).mono ?_
    rintro e w1 ⟨rfl, rfl⟩
    go_wp2
    go_ret
    exact ⟨rfl, rfl⟩
end Go.Proofs.YtiiopcjdbldihaaGreatFmt
