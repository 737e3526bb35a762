/- math.Log2 at 10, bits.Len, as itoa asks them: constants. No condition. -/
import Derived.Test.YtiiopcjdbldihaaGreatFmtFops
import Derived.Test.YtiiopcjdbldihaaGreatFmtProg
import Derived.WalkKit
import Derived.WalkSpells
import Derived.WalkLawsBesides
import Derived.Handy
import Derived.Laws.Externs
import Derived.BigQuiet
import Derived.Deep.QuietTactic
namespace Go.Proofs.YtiiopcjdbldihaaGreatFmt
open Go.RowKit Go.SurdFp

theorem Abs_10 (w : World) : Calls Tryz.prog 42 #[.float .f64 0x4024000000000000] w fun e w' => e = .returned (.float .f64 0x4024000000000000) ∧ w = w' := Abs_any 0x4024000000000000 (by decide) w

set_option maxHeartbeats 1000000 in
theorem IsInf_10 (w : World) : Calls Tryz.prog 201 #[.float .f64 0x4024000000000000, .int .i64 0] w fun e w' => e = .returned (.bool false) ∧ w = w' := by
  have e2 : (FloatKind.f64.format.order 0x4024000000000000 0x7FEFFFFFFFFFFFFF == some .gt) = false := by kernel_rfl
  go_enter Tryz.func201, Tryz.ntmps201
  go_wp2_with (fail)
  refine (Abs_10 _).mono ?_
  rintro e w1 ⟨rfl, rfl⟩
  go_wp2
  go_ret
  exact ⟨rfl, rfl⟩
set_option maxHeartbeats 1000000 in
theorem IsNaN_10 (w : World) : Calls Tryz.prog 202 #[.float .f64 0x4024000000000000] w fun e w' => e = .returned (.bool false) ∧ w = w' := IsNaN_any 0x4024000000000000 w
set_option maxHeartbeats 1000000 in
theorem normalize_10 (w : World) : Calls Tryz.prog 203 #[.float .f64 0x4024000000000000] w fun e w' => e = .returned (.tuple #[.float .f64 0x4024000000000000, .int .i64 0]) ∧ w = w' := by
  have e2 : (FloatKind.f64.format.order 0x4024000000000000 4503599627370496 == some .lt) = false := by kernel_rfl
  go_enter Tryz.func203, Tryz.ntmps203
  go_wp2_with (fail)
  refine (Abs_10 _).mono ?_
  rintro e w1 ⟨rfl, rfl⟩
  go_wp2
  go_ret2
  exact ⟨rfl, rfl⟩

set_option maxRecDepth 100000 in
set_option maxHeartbeats 1000000 in
theorem frexp_10 (w : World) : Calls Tryz.prog 154 #[.float .f64 0x4024000000000000] w fun e w' => e = .returned (.tuple #[.float .f64 0x3FE4000000000000, .int .i64 4]) ∧ w = w' := by
  have e1 : (FloatKind.f64.format.order 0x4024000000000000 0 == some .eq) = false := by kernel_rfl
  have h1 : (callFunc 41 #[.float .f64 0x4024000000000000]).run Tryz.prog w = .ok (.value (.int .u64 0x4024000000000000)) w := run_bits 0x4024000000000000 w
  have h2 : (callFunc 28 #[.int .u64 0x3FE4000000000000]).run Tryz.prog w = .ok (.value (.float .f64 0x3FE4000000000000)) w := run_frombits 0x3FE4000000000000 w
  have b2 : bits .andNot .u64 0x4024000000000000 9218868437227405312 = 0x0004000000000000 := by decide +kernel
  have b3 : bits .or .u64 0x0004000000000000 4602678819172646912 = 0x3FE4000000000000 := by decide +kernel
  have b4 : bits .and .u64 1026 2047 = 1026 := by decide +kernel
  go_enter Tryz.func154, Tryz.ntmps154
  go_wp2_with (fail)
  refine (IsInf_10 _).mono ?_
  rintro e w1 ⟨rfl, rfl⟩
  go_wp2_with (fail)
  refine (IsNaN_10 _).mono ?_
  rintro e w1 ⟨rfl, rfl⟩
  go_wp2_with (fail)
  refine (normalize_10 _).mono ?_
  rintro e w1 ⟨rfl, rfl⟩
  go_wp2
  go_ret2
  exact ⟨rfl, rfl⟩
set_option maxHeartbeats 1000000 in
theorem Frexp_10 (w : World) : Calls Tryz.prog 138 #[.float .f64 0x4024000000000000] w fun e w' => e = .returned (.tuple #[.float .f64 0x3FE4000000000000, .int .i64 4]) ∧ w = w' := by
  go_enter Tryz.func138, Tryz.ntmps138
  go_wp2_with (fail)
  refine (frexp_10 _).mono ?_
  rintro e w1 ⟨rfl, rfl⟩
  go_wp2
  go_ret2
  exact ⟨rfl, rfl⟩
theorem run_archLog_10 (w : World) : (callFunc 155 #[.float .f64 0x3FE4000000000000]).run Tryz.prog w = .ok (.value (.float .f64 0xbfde148a1a2726ce)) w := by
  rw [run_callFunc_extern (fn := Tryz.f155) (e := Extern.MathLog.archLog) (by kernel_rfl) (by kernel_rfl) (by kernel_rfl) (by kernel_rfl) (by kernel_rfl)]
  have h : (Extern.MathLog.archLog #[.float .f64 0x3FE4000000000000]).run Tryz.prog w = .ok (.float .f64 0xbfde148a1a2726ce) w := by kernel_rfl
  rw [h]
  rfl
set_option maxRecDepth 100000 in
set_option maxHeartbeats 1000000 in
theorem Log_10 (w : World) : Calls Tryz.prog 139 #[.float .f64 0x3FE4000000000000] w fun e w' => e = .returned (.float .f64 0xbfde148a1a2726ce) ∧ w = w' := by
  have h1 := run_archLog_10 w
  go_enter Tryz.func139, Tryz.ntmps139
  go_wp2
  go_ret
  exact ⟨rfl, rfl⟩
set_option maxRecDepth 100000 in
set_option maxHeartbeats 1000000 in
theorem log2_10 (w : World) : Calls Tryz.prog 120 #[.float .f64 0x4024000000000000] w fun e w' => e = .returned (.float .f64 0x400a934f0979a371) ∧ w = w' := by
  have e1 : (FloatKind.f64.format.order 0x3FE4000000000000 4602678819172646912 == some .eq) = false := by kernel_rfl
  have h1 : (binOp .mul 31 (.float .f64 0xbfde148a1a2726ce) (.float .f64 4609176140021203710)).run Tryz.prog w = .ok (.float .f64 0xbfe5b2c3da19723b) w :=
    run_float_arith w .mul 31 .f64 _ _ _ (by kernel_rfl)
  have h2 : (convert 3 31 (.int .i64 4)).run Tryz.prog w = .ok (.float .f64 0x4010000000000000) w := by kernel_rfl
  have h3 : (binOp .add 31 (.float .f64 0xbfe5b2c3da19723b) (.float .f64 0x4010000000000000)).run Tryz.prog w = .ok (.float .f64 0x400a934f0979a371) w :=
    run_float_arith w .add 31 .f64 _ _ _ (by kernel_rfl)
  go_enter Tryz.func120, Tryz.ntmps120
  go_wp2_with (fail)
  refine (Frexp_10 _).mono ?_
  rintro e w1 ⟨rfl, rfl⟩
  go_wp2_with (fail)
  refine (Log_10 _).mono ?_
  rintro e w1 ⟨rfl, rfl⟩
  go_wp2
  go_ret
  exact ⟨rfl, rfl⟩
set_option maxRecDepth 100000 in
set_option maxHeartbeats 1000000 in
theorem Log2_10 (w : World) : Calls Tryz.prog 106 #[.float .f64 0x4024000000000000] w fun e w' => e = .returned (.float .f64 0x400a934f0979a371) ∧ w = w' := by
  go_enter Tryz.func106, Tryz.ntmps106
  go_wp2_with (fail)
  refine (log2_10 _).mono ?_
  rintro e w1 ⟨rfl, rfl⟩
  go_wp2
  go_ret
  exact ⟨rfl, rfl⟩
end Go.Proofs.YtiiopcjdbldihaaGreatFmt
