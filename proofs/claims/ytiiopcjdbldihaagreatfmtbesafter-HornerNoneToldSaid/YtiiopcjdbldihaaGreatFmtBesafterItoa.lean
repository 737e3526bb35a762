/- (nat).itoa at one word of one digit, base 10, and what it calls. No condition. -/
import Derived.Test.YtiiopcjdbldihaaGreatFmtBesafterLog
import Derived.Test.YtiiopcjdbldihaaGreatFmtBesafterBack
import Derived.Test.YtiiopcjdbldihaaGreatFmtBesafterProg
import Derived.WalkKit
import Derived.WalkSpells
import Derived.WalkLawsBesides
import Derived.Handy
import Derived.Defers
import Derived.BigQuiet
import Derived.Deep.QuietTactic
namespace Go.Proofs.YtiiopcjdbldihaaGreatFmtBesafter
open Go.RowKit Go.SurdFp

theorem below_drewN {B : Nat} {a w : World} (h : Below B a w) (n : Nat) : Below B a (w.drewN n) := ⟨h.os, h.tape, h.output, h.size, h.block⟩
theorem below_dr {B : Nat} {a w w' : World} (h : Below B a w) (d : Dr w w') : Below B a w' := by
  obtain ⟨n, rfl⟩ := d
  exact below_drewN h n

set_option maxHeartbeats 1000000 in
theorem make_own (q : Nat) (w : World) : Calls Tryz.prog 79 #[.slice (some ⟨q, 0, none⟩) 1 1, .int .i64 1] w fun e' w' => e' = .returned (.slice (some ⟨q, 0, none⟩) 1 1) ∧ w = w' := by
  go_enter Tryz.func79, Tryz.ntmps79
  go_wp2
  go_ret
  exact ⟨rfl, rfl⟩
set_option maxHeartbeats 1000000 in
theorem norm_0 (q : Nat) (w : World) (h : w.heap[q]? = some (.cells #[.int .u64 0] 103 (0, 0))) :
    Calls Tryz.prog 82 #[.slice (some ⟨q, 0, none⟩) 1 1] w fun e' w' => e' = .returned (.slice (some ⟨q, 0, none⟩) 0 1) ∧ w = w' := by
  have c2 := cell_of_block (o := 0) h rfl
  go_enter Tryz.func82, Tryz.ntmps82
  go_wp2
  go_rounds 2
  go_wp2
  go_ret
  exact ⟨rfl, rfl⟩

set_option maxRecDepth 100000 in
set_option maxHeartbeats 1000000 in
theorem divisors_1 (k : Nat) (w : World) (h : w.cell? ⟨5, 0, none⟩ = some (.int .i64 8)) :
    Calls Tryz.prog 112 #[.pointer (some ⟨k, 0, none⟩), .int .i64 1, .int .u64 10, .int .i64 19, .int .u64 10000000000000000000] w fun e' w' => e' = .returned (.slice none 0 0) ∧ w = w' := by
  go_enter Tryz.func112, Tryz.ntmps112
  go_wp2
  go_ret
  exact ⟨rfl, rfl⟩
set_option maxHeartbeats 1000000 in
theorem getStack_new (w : World) : Calls Tryz.prog 109 #[] w fun e' w' => e' = .returned (.pointer (some ⟨w.heap.size, 0, none⟩)) ∧ w' = w.alloc (.cells #[.pointer none] 173) := by
  go_enter Tryz.func109, Tryz.ntmps109
  go_wp2
  go_ret
  exact ⟨rfl, rfl⟩
set_option maxHeartbeats 1000000 in
theorem free_deferred (k : Nat) (u : FrameMode) (w : World) (h : w.heap[k]? = some (.cells #[.pointer none] 173 (0, 0))) :
    CallsD Tryz.prog 110 #[.pointer (some ⟨k, 0, none⟩)] u w fun e u' w' => u' = u ∧ (e = .returned (.tuple #[]) ∧ w = w') := by
  have c0 := cell_of_block (o := 0) h rfl
  go_enter_d Tryz.func110, Tryz.ntmps110
  go_wp2
  go_end0
  exact ⟨rfl, rfl⟩

set_option maxRecDepth 100000 in
set_option maxHeartbeats 1000000 in
theorem Len64_1 (w : World) : Calls Tryz.prog 92 #[.int .u64 1] w fun e w' => e = .returned (.int .i64 1) ∧ w = w' := by
  go_enter Tryz.func92, Tryz.ntmps92
  go_wp2
  go_ret
  exact ⟨by kernel_rfl, rfl⟩
set_option maxHeartbeats 1000000 in
theorem Len_1 (w : World) : Calls Tryz.prog 69 #[.int .u64 1] w fun e w' => e = .returned (.int .i64 1) ∧ w = w' := by
  go_enter Tryz.func69, Tryz.ntmps69
  go_wp2_with (fail)
  refine (Len64_1 _).mono ?_
  rintro e w1 ⟨rfl, rfl⟩
  go_wp2
  go_ret
  exact ⟨rfl, rfl⟩
set_option maxRecDepth 100000 in
set_option maxHeartbeats 1000000 in
theorem Len64_2 (w : World) : Calls Tryz.prog 92 #[.int .u64 2] w fun e w' => e = .returned (.int .i64 2) ∧ w = w' := by
  go_enter Tryz.func92, Tryz.ntmps92
  go_wp2
  go_ret
  exact ⟨by kernel_rfl, rfl⟩
set_option maxHeartbeats 1000000 in
theorem Len_2 (w : World) : Calls Tryz.prog 69 #[.int .u64 2] w fun e w' => e = .returned (.int .i64 2) ∧ w = w' := by
  go_enter Tryz.func69, Tryz.ntmps69
  go_wp2_with (fail)
  refine (Len64_2 _).mono ?_
  rintro e w1 ⟨rfl, rfl⟩
  go_wp2
  go_ret
  exact ⟨rfl, rfl⟩
set_option maxRecDepth 100000 in
set_option maxHeartbeats 1000000 in
theorem Len64_3 (w : World) : Calls Tryz.prog 92 #[.int .u64 3] w fun e w' => e = .returned (.int .i64 2) ∧ w = w' := by
  go_enter Tryz.func92, Tryz.ntmps92
  go_wp2
  go_ret
  exact ⟨by kernel_rfl, rfl⟩
set_option maxHeartbeats 1000000 in
theorem Len_3 (w : World) : Calls Tryz.prog 69 #[.int .u64 3] w fun e w' => e = .returned (.int .i64 2) ∧ w = w' := by
  go_enter Tryz.func69, Tryz.ntmps69
  go_wp2_with (fail)
  refine (Len64_3 _).mono ?_
  rintro e w1 ⟨rfl, rfl⟩
  go_wp2
  go_ret
  exact ⟨rfl, rfl⟩

set_option maxHeartbeats 1000000 in
theorem bitLen_1 (q : Nat) (w : World) (h : w.heap[q]? = some (.cells #[.int .u64 1] 103 (0, 0))) :
    Calls Tryz.prog 57 #[.slice (some ⟨q, 0, none⟩) 1 1] w fun e w' => e = .returned (.int .i64 1) ∧ w = w' := by
  have c1 := cell_of_block (o := 0) h rfl
  have b1 : bits .or .u64 1 0 = 1 := by decide +kernel
  have b2 : bits .or .u64 1 0 = 1 := by decide +kernel
  go_enter Tryz.func57, Tryz.ntmps57
  go_wp2_with (fail)
  refine (Len_1 _).mono ?_
  rintro e w1 ⟨rfl, rfl⟩
  go_wp2
  go_ret
  exact ⟨rfl, rfl⟩
set_option maxRecDepth 100000 in
set_option maxHeartbeats 1000000 in
theorem Div64_1 (w : World) : Calls Tryz.prog 236 #[.int .u64 0, .int .u64 1, .int .u64 10000000000000000000] w fun e w' => e = .returned (.tuple #[.int .u64 0, .int .u64 1]) ∧ ∃ n, w' = w.drewN n := by
  go_enter Tryz.func236, Tryz.ntmps236
  go_wp2
  go_quiet (fail)
  go_wp2
  go_ret2
  exact ⟨rfl, ⟨_, rfl⟩⟩
set_option maxRecDepth 100000 in
set_option maxHeartbeats 1000000 in
theorem Div_1 (w : World) : Calls Tryz.prog 192 #[.int .u64 0, .int .u64 1, .int .u64 10000000000000000000] w fun e w' => e = .returned (.tuple #[.int .u64 0, .int .u64 1]) ∧ ∃ n, w' = w.drewN n := by
  go_enter Tryz.func192, Tryz.ntmps192
  go_wp2_with (fail)
  refine (Div64_1 _).mono ?_
  rintro e w1 ⟨rfl, n, rfl⟩
  go_wp2
  go_ret2
  exact ⟨rfl, _, rfl⟩
set_option maxRecDepth 100000 in
set_option maxHeartbeats 1000000 in
theorem divWVW_1 (q : Nat) (w : World) (h : w.heap[q]? = some (.cells #[.int .u64 1] 103 (0, 0))) :
    Calls Tryz.prog 153 #[.slice (some ⟨q, 0, none⟩) 1 1, .int .u64 0, .slice (some ⟨q, 0, none⟩) 1 1, .int .u64 10000000000000000000] w fun e w' =>
      e = .returned (.int .u64 1) ∧ ∃ n, w' = (w.drewN n).setCell ⟨q, 0, none⟩ (.int .u64 0) := by
  have c1 := cell_of_block (o := 0) h rfl
  have f1 := free_of_block (o := 0) h
  go_enter Tryz.func153, Tryz.ntmps153
  go_wp2_with (fail)
  refine (Div_1 _).mono ?_
  rintro e w1 ⟨rfl, n, rfl⟩
  have c2 : (w.drewN n).cell? ⟨q, 0, none⟩ = some (.int .u64 1) := c1
  have f2 : (w.drewN n).frozen? ⟨q, 0, none⟩ = false := f1
  go_wp2
  go_ret
  exact ⟨rfl, n, rfl⟩
set_option maxRecDepth 100000 in
set_option maxHeartbeats 1000000 in
theorem divW_1 (q : Nat) (w : World) (h : w.heap[q]? = some (.cells #[.int .u64 1] 103 (0, 0))) :
    Calls Tryz.prog 132 #[.slice (some ⟨q, 0, none⟩) 1 1, .slice (some ⟨q, 0, none⟩) 1 1, .int .u64 10000000000000000000] w fun e w' =>
      e = .returned (.tuple #[.slice (some ⟨q, 0, none⟩) 0 1, .int .u64 1]) ∧ ∃ n, w' = (w.drewN n).setCell ⟨q, 0, none⟩ (.int .u64 0) := by
  go_enter Tryz.func132, Tryz.ntmps132
  go_wp2_with (fail)
  refine (make_own q _).mono ?_
  rintro e w1 ⟨rfl, rfl⟩
  go_wp2_with (fail)
  refine (divWVW_1 q _ h).mono ?_
  rintro e w1 ⟨rfl, n, rfl⟩
  go_wp2_with (fail)
  refine (norm_0 q _ (block_setCell (w := w.drewN n) h)).mono ?_
  rintro e w1 ⟨rfl, rfl⟩
  go_wp2
  go_ret2
  exact ⟨rfl, n, rfl⟩
set_option maxRecDepth 100000 in
set_option maxHeartbeats 1000000 in
theorem convertWords_1 (q s : Nat) (k : Value) (w : World) (hqs : q ≠ s) (h : w.heap[q]? = some (.cells #[.int .u64 1] 103 (0, 0))) (hs : w.heap[s]? = some (.cells #[.int .u8 0] 5 (0, 0))) :
    Calls Tryz.prog 113 #[.slice (some ⟨q, 0, none⟩) 1 1, k, .slice (some ⟨s, 0, none⟩) 1 1, .int .u64 10, .int .i64 19, .int .u64 10000000000000000000, .slice none 0 0] w fun e w' =>
      e = .returned (.tuple #[]) ∧ ∃ n, w' = ((w.drewN n).setCell ⟨q, 0, none⟩ (.int .u64 0)).setCell ⟨s, 0, none⟩ (.int .u8 49) := by
  go_enter Tryz.func113, Tryz.ntmps113
  go_wp2_with (fail)
  refine wp_loop_rounds 2 ?_
  rw [rounds_succ]
  go_wp2_with (fail)
  refine (divW_1 q _ h).mono ?_
  rintro e w1 ⟨rfl, n, rfl⟩
  have hs1 : ((w.drewN n).setCell ⟨q, 0, none⟩ (.int .u64 0)).heap[s]? = some (.cells #[.int .u8 0] 5 (0, 0)) := other_setCell (w := w.drewN n) hs (Ne.symm hqs)
  have c1 := cell_of_block (o := 0) hs1 rfl
  have f1 := free_of_block (o := 0) hs1
  go_wp2_with (fail)
  refine wp_loop_rounds 2 ?_
  rw [rounds_succ]
  go_wp2
  rw [rounds_succ]
  go_wp2
  rw [rounds_succ]
  go_wp2
  refine wp_loop_rounds 1 ?_
  rw [rounds_succ]
  go_wp2
  go_end0
  exact ⟨rfl, n, rfl⟩
set_option maxHeartbeats 1000000 in
theorem bitLen_2 (q : Nat) (w : World) (h : w.heap[q]? = some (.cells #[.int .u64 2] 103 (0, 0))) :
    Calls Tryz.prog 57 #[.slice (some ⟨q, 0, none⟩) 1 1] w fun e w' => e = .returned (.int .i64 2) ∧ w = w' := by
  have c1 := cell_of_block (o := 0) h rfl
  have b1 : bits .or .u64 2 1 = 3 := by decide +kernel
  have b2 : bits .or .u64 3 0 = 3 := by decide +kernel
  go_enter Tryz.func57, Tryz.ntmps57
  go_wp2_with (fail)
  refine (Len_3 _).mono ?_
  rintro e w1 ⟨rfl, rfl⟩
  go_wp2
  go_ret
  exact ⟨rfl, rfl⟩
set_option maxRecDepth 100000 in
set_option maxHeartbeats 1000000 in
theorem Div64_2 (w : World) : Calls Tryz.prog 236 #[.int .u64 0, .int .u64 2, .int .u64 10000000000000000000] w fun e w' => e = .returned (.tuple #[.int .u64 0, .int .u64 2]) ∧ ∃ n, w' = w.drewN n := by
  go_enter Tryz.func236, Tryz.ntmps236
  go_wp2
  go_quiet (fail)
  go_wp2
  go_ret2
  exact ⟨rfl, ⟨_, rfl⟩⟩
set_option maxRecDepth 100000 in
set_option maxHeartbeats 1000000 in
theorem Div_2 (w : World) : Calls Tryz.prog 192 #[.int .u64 0, .int .u64 2, .int .u64 10000000000000000000] w fun e w' => e = .returned (.tuple #[.int .u64 0, .int .u64 2]) ∧ ∃ n, w' = w.drewN n := by
  go_enter Tryz.func192, Tryz.ntmps192
  go_wp2_with (fail)
  refine (Div64_2 _).mono ?_
  rintro e w1 ⟨rfl, n, rfl⟩
  go_wp2
  go_ret2
  exact ⟨rfl, _, rfl⟩
set_option maxRecDepth 100000 in
set_option maxHeartbeats 1000000 in
theorem divWVW_2 (q : Nat) (w : World) (h : w.heap[q]? = some (.cells #[.int .u64 2] 103 (0, 0))) :
    Calls Tryz.prog 153 #[.slice (some ⟨q, 0, none⟩) 1 1, .int .u64 0, .slice (some ⟨q, 0, none⟩) 1 1, .int .u64 10000000000000000000] w fun e w' =>
      e = .returned (.int .u64 2) ∧ ∃ n, w' = (w.drewN n).setCell ⟨q, 0, none⟩ (.int .u64 0) := by
  have c1 := cell_of_block (o := 0) h rfl
  have f1 := free_of_block (o := 0) h
  go_enter Tryz.func153, Tryz.ntmps153
  go_wp2_with (fail)
  refine (Div_2 _).mono ?_
  rintro e w1 ⟨rfl, n, rfl⟩
  have c2 : (w.drewN n).cell? ⟨q, 0, none⟩ = some (.int .u64 2) := c1
  have f2 : (w.drewN n).frozen? ⟨q, 0, none⟩ = false := f1
  go_wp2
  go_ret
  exact ⟨rfl, n, rfl⟩
set_option maxRecDepth 100000 in
set_option maxHeartbeats 1000000 in
theorem divW_2 (q : Nat) (w : World) (h : w.heap[q]? = some (.cells #[.int .u64 2] 103 (0, 0))) :
    Calls Tryz.prog 132 #[.slice (some ⟨q, 0, none⟩) 1 1, .slice (some ⟨q, 0, none⟩) 1 1, .int .u64 10000000000000000000] w fun e w' =>
      e = .returned (.tuple #[.slice (some ⟨q, 0, none⟩) 0 1, .int .u64 2]) ∧ ∃ n, w' = (w.drewN n).setCell ⟨q, 0, none⟩ (.int .u64 0) := by
  go_enter Tryz.func132, Tryz.ntmps132
  go_wp2_with (fail)
  refine (make_own q _).mono ?_
  rintro e w1 ⟨rfl, rfl⟩
  go_wp2_with (fail)
  refine (divWVW_2 q _ h).mono ?_
  rintro e w1 ⟨rfl, n, rfl⟩
  go_wp2_with (fail)
  refine (norm_0 q _ (block_setCell (w := w.drewN n) h)).mono ?_
  rintro e w1 ⟨rfl, rfl⟩
  go_wp2
  go_ret2
  exact ⟨rfl, n, rfl⟩
set_option maxRecDepth 100000 in
set_option maxHeartbeats 1000000 in
theorem convertWords_2 (q s : Nat) (k : Value) (w : World) (hqs : q ≠ s) (h : w.heap[q]? = some (.cells #[.int .u64 2] 103 (0, 0))) (hs : w.heap[s]? = some (.cells #[.int .u8 0] 5 (0, 0))) :
    Calls Tryz.prog 113 #[.slice (some ⟨q, 0, none⟩) 1 1, k, .slice (some ⟨s, 0, none⟩) 1 1, .int .u64 10, .int .i64 19, .int .u64 10000000000000000000, .slice none 0 0] w fun e w' =>
      e = .returned (.tuple #[]) ∧ ∃ n, w' = ((w.drewN n).setCell ⟨q, 0, none⟩ (.int .u64 0)).setCell ⟨s, 0, none⟩ (.int .u8 50) := by
  go_enter Tryz.func113, Tryz.ntmps113
  go_wp2_with (fail)
  refine wp_loop_rounds 2 ?_
  rw [rounds_succ]
  go_wp2_with (fail)
  refine (divW_2 q _ h).mono ?_
  rintro e w1 ⟨rfl, n, rfl⟩
  have hs1 : ((w.drewN n).setCell ⟨q, 0, none⟩ (.int .u64 0)).heap[s]? = some (.cells #[.int .u8 0] 5 (0, 0)) := other_setCell (w := w.drewN n) hs (Ne.symm hqs)
  have c1 := cell_of_block (o := 0) hs1 rfl
  have f1 := free_of_block (o := 0) hs1
  go_wp2_with (fail)
  refine wp_loop_rounds 2 ?_
  rw [rounds_succ]
  go_wp2
  rw [rounds_succ]
  go_wp2
  rw [rounds_succ]
  go_wp2
  refine wp_loop_rounds 1 ?_
  rw [rounds_succ]
  go_wp2
  go_end0
  exact ⟨rfl, n, rfl⟩
set_option maxHeartbeats 1000000 in
theorem bitLen_3 (q : Nat) (w : World) (h : w.heap[q]? = some (.cells #[.int .u64 3] 103 (0, 0))) :
    Calls Tryz.prog 57 #[.slice (some ⟨q, 0, none⟩) 1 1] w fun e w' => e = .returned (.int .i64 2) ∧ w = w' := by
  have c1 := cell_of_block (o := 0) h rfl
  have b1 : bits .or .u64 3 1 = 3 := by decide +kernel
  have b2 : bits .or .u64 3 0 = 3 := by decide +kernel
  go_enter Tryz.func57, Tryz.ntmps57
  go_wp2_with (fail)
  refine (Len_3 _).mono ?_
  rintro e w1 ⟨rfl, rfl⟩
  go_wp2
  go_ret
  exact ⟨rfl, rfl⟩
set_option maxRecDepth 100000 in
set_option maxHeartbeats 1000000 in
theorem Div64_3 (w : World) : Calls Tryz.prog 236 #[.int .u64 0, .int .u64 3, .int .u64 10000000000000000000] w fun e w' => e = .returned (.tuple #[.int .u64 0, .int .u64 3]) ∧ ∃ n, w' = w.drewN n := by
  go_enter Tryz.func236, Tryz.ntmps236
  go_wp2
  go_quiet (fail)
  go_wp2
  go_ret2
  exact ⟨rfl, ⟨_, rfl⟩⟩
set_option maxRecDepth 100000 in
set_option maxHeartbeats 1000000 in
theorem Div_3 (w : World) : Calls Tryz.prog 192 #[.int .u64 0, .int .u64 3, .int .u64 10000000000000000000] w fun e w' => e = .returned (.tuple #[.int .u64 0, .int .u64 3]) ∧ ∃ n, w' = w.drewN n := by
  go_enter Tryz.func192, Tryz.ntmps192
  go_wp2_with (fail)
  refine (Div64_3 _).mono ?_
  rintro e w1 ⟨rfl, n, rfl⟩
  go_wp2
  go_ret2
  exact ⟨rfl, _, rfl⟩
set_option maxRecDepth 100000 in
set_option maxHeartbeats 1000000 in
theorem divWVW_3 (q : Nat) (w : World) (h : w.heap[q]? = some (.cells #[.int .u64 3] 103 (0, 0))) :
    Calls Tryz.prog 153 #[.slice (some ⟨q, 0, none⟩) 1 1, .int .u64 0, .slice (some ⟨q, 0, none⟩) 1 1, .int .u64 10000000000000000000] w fun e w' =>
      e = .returned (.int .u64 3) ∧ ∃ n, w' = (w.drewN n).setCell ⟨q, 0, none⟩ (.int .u64 0) := by
  have c1 := cell_of_block (o := 0) h rfl
  have f1 := free_of_block (o := 0) h
  go_enter Tryz.func153, Tryz.ntmps153
  go_wp2_with (fail)
  refine (Div_3 _).mono ?_
  rintro e w1 ⟨rfl, n, rfl⟩
  have c2 : (w.drewN n).cell? ⟨q, 0, none⟩ = some (.int .u64 3) := c1
  have f2 : (w.drewN n).frozen? ⟨q, 0, none⟩ = false := f1
  go_wp2
  go_ret
  exact ⟨rfl, n, rfl⟩
set_option maxRecDepth 100000 in
set_option maxHeartbeats 1000000 in
theorem divW_3 (q : Nat) (w : World) (h : w.heap[q]? = some (.cells #[.int .u64 3] 103 (0, 0))) :
    Calls Tryz.prog 132 #[.slice (some ⟨q, 0, none⟩) 1 1, .slice (some ⟨q, 0, none⟩) 1 1, .int .u64 10000000000000000000] w fun e w' =>
      e = .returned (.tuple #[.slice (some ⟨q, 0, none⟩) 0 1, .int .u64 3]) ∧ ∃ n, w' = (w.drewN n).setCell ⟨q, 0, none⟩ (.int .u64 0) := by
  go_enter Tryz.func132, Tryz.ntmps132
  go_wp2_with (fail)
  refine (make_own q _).mono ?_
  rintro e w1 ⟨rfl, rfl⟩
  go_wp2_with (fail)
  refine (divWVW_3 q _ h).mono ?_
  rintro e w1 ⟨rfl, n, rfl⟩
  go_wp2_with (fail)
  refine (norm_0 q _ (block_setCell (w := w.drewN n) h)).mono ?_
  rintro e w1 ⟨rfl, rfl⟩
  go_wp2
  go_ret2
  exact ⟨rfl, n, rfl⟩
set_option maxRecDepth 100000 in
set_option maxHeartbeats 1000000 in
theorem convertWords_3 (q s : Nat) (k : Value) (w : World) (hqs : q ≠ s) (h : w.heap[q]? = some (.cells #[.int .u64 3] 103 (0, 0))) (hs : w.heap[s]? = some (.cells #[.int .u8 0] 5 (0, 0))) :
    Calls Tryz.prog 113 #[.slice (some ⟨q, 0, none⟩) 1 1, k, .slice (some ⟨s, 0, none⟩) 1 1, .int .u64 10, .int .i64 19, .int .u64 10000000000000000000, .slice none 0 0] w fun e w' =>
      e = .returned (.tuple #[]) ∧ ∃ n, w' = ((w.drewN n).setCell ⟨q, 0, none⟩ (.int .u64 0)).setCell ⟨s, 0, none⟩ (.int .u8 51) := by
  go_enter Tryz.func113, Tryz.ntmps113
  go_wp2_with (fail)
  refine wp_loop_rounds 2 ?_
  rw [rounds_succ]
  go_wp2_with (fail)
  refine (divW_3 q _ h).mono ?_
  rintro e w1 ⟨rfl, n, rfl⟩
  have hs1 : ((w.drewN n).setCell ⟨q, 0, none⟩ (.int .u64 0)).heap[s]? = some (.cells #[.int .u8 0] 5 (0, 0)) := other_setCell (w := w.drewN n) hs (Ne.symm hqs)
  have c1 := cell_of_block (o := 0) hs1 rfl
  have f1 := free_of_block (o := 0) hs1
  go_wp2_with (fail)
  refine wp_loop_rounds 2 ?_
  rw [rounds_succ]
  go_wp2
  rw [rounds_succ]
  go_wp2
  rw [rounds_succ]
  go_wp2
  refine wp_loop_rounds 1 ?_
  rw [rounds_succ]
  go_wp2
  go_end0
  exact ⟨rfl, n, rfl⟩
theorem mk_b1 (w : World) : (Instr.makeSlice 130 (.int .i64 1) (.int .i64 1)).run Tryz.prog w = .ok (.slice (some ⟨w.heap.size, 0, none⟩) 1 1) (w.alloc (.cells #[.int .u8 0] 5)) := by kernel_rfl

set_option maxRecDepth 100000 in
set_option maxHeartbeats 1000000 in
theorem itoa_1 (q : Nat) (p : Addr) (w : World) (g : Env p w) (h : w.heap[q]? = some (.cells #[.int .u64 1] 103 (0, 0))) :
    Calls Tryz.prog 90 #[.slice (some ⟨q, 0, none⟩) 1 1, .bool false, .int .i64 10] w fun e w' =>
      ∃ s, e = .returned (.slice (some ⟨s, 0, none⟩) 1 1) ∧ w'.heap[s]? = some (.cells #[.int .u8 49] 5 (0, 0)) ∧ Below w.heap.size w w' := by
  have hmk := mk_b1
  have e1 : ∀ w, (convert 3 38 (.int .i64 1)).run Tryz.prog w = .ok (.float .f64 4607182418800017408) w := fun w => by kernel_rfl
  have e2 : ∀ w, (convert 3 38 (.int .i64 10)).run Tryz.prog w = .ok (.float .f64 0x4024000000000000) w := fun w => by kernel_rfl
  have e3 : ∀ w, (binOp .quo 38 (.float .f64 4607182418800017408) (.float .f64 0x400a934f0979a371)).run Tryz.prog w = .ok (.float .f64 4599094494223104511) w := fun w =>
    run_float_arith w .quo 38 .f64 _ _ _ (by kernel_rfl)
  have e4 : ∀ w, (convert 38 3 (.float .f64 4599094494223104511)).run Tryz.prog w = .ok (.int .i64 0) w := fun w => by kernel_rfl
  have b1 : bits .and .u64 10 18446744073709551606 = 2 := by decide +kernel
  have c2 := cell_of_block (o := 0) h rfl
  have hq : q < w.heap.size := lt_of_cell c2
  have hl : ∀ w' B, Below B w w' → w.heap.size ≤ B → w'.cell? ⟨5, 0, none⟩ = some (.int .i64 8) := fun w' B b hB => (g.below b hB).leaf
  go_enter_defers Tryz.func90, Tryz.ntmps90
  go_wp2_with (fail)
  refine (bitLen_1 q _ h).mono ?_
  rintro e w1 ⟨rfl, rfl⟩
  go_wp2_with (fail)
  refine (Log2_10 _).mono ?_
  rintro e w1 ⟨rfl, rfl⟩
  go_wp2_with (fail)
  refine (getStack_new _).mono ?_
  rintro e w1 ⟨rfl, rfl⟩
  go_wp2_with (fail)
  refine (maxPow_10 _).mono ?_
  rintro e w1 ⟨rfl, rfl⟩
  have B2 : Below w.heap.size w ((w.alloc (.cells #[.int .u8 0] 5)).alloc (.cells #[.pointer none] 173)) := ((Below.refl w.heap.size w).alloc (Nat.le_refl _) _).alloc (by go_size) _
  have hs2 : ((w.alloc (.cells #[.int .u8 0] 5)).alloc (.cells #[.pointer none] 173)).heap[w.heap.size]? = some (.cells #[.int .u8 0] 5 (0, 0)) :=
    ((Below.refl (w.heap.size + 1) (w.alloc (.cells #[.int .u8 0] 5))).alloc (by go_size) _).block w.heap.size (by omega) |>.trans (heap_alloc_new w _ _ rfl)
  have hk2 : ((w.alloc (.cells #[.int .u8 0] 5)).alloc (.cells #[.pointer none] 173)).heap[w.heap.size + 1]? = some (.cells #[.pointer none] 173 (0, 0)) := heap_alloc_new _ _ _ (by go_size)
  have hz2 : ((w.alloc (.cells #[.int .u8 0] 5)).alloc (.cells #[.pointer none] 173)).heap.size = w.heap.size + 2 := by simp
  have hq2 := (B2.block q hq).trans h
  go_wp2_with (fail)
  refine (divisors_1 _ _ (hl _ _ B2 (Nat.le_refl _))).mono ?_
  rintro e w1 ⟨rfl, rfl⟩
  go_wp2_with (fail)
  refine (set_1 q _ _ hq2).mono ?_
  rintro e w3 ⟨rfl, z3, n3, b3⟩
  rw [hz2] at z3 n3 b3
  have hs3 := (b3.block w.heap.size (by omega)).trans hs2
  have hk3 := (b3.block (w.heap.size + 1) (by omega)).trans hk2
  have B3 : Below w.heap.size w w3 := B2.trans (b3.mono (by omega))
  rw [hz2]
  go_wp2_with (fail)
  refine (convertWords_1 _ _ _ _ (by omega) n3 hs3).mono ?_
  rintro e w4 ⟨rfl, n, hw4⟩
  have hs4 : w4.heap[w.heap.size]? = some (.cells #[.int .u8 49] 5 (0, 0)) := by
    rw [hw4]; exact block_setCell (other_setCell (w := w3.drewN n) hs3 (by omega))
  have hk4 : w4.heap[w.heap.size + 1]? = some (.cells #[.pointer none] 173 (0, 0)) := by
    rw [hw4]; exact other_setCell (other_setCell (w := w3.drewN n) hk3 (by omega)) (by omega)
  have B4 : Below w.heap.size w w4 := by
    rw [hw4]; exact ((below_drewN B3 n).setCell (by go_size) _).setCell (by go_size) _
  clear hw4
  have c4 := cell_of_block (o := 0) hs4 rfl
  go_wp2_with (fail)
  refine wp_loop_rounds 1 ?_
  rw [rounds_succ]
  go_wp2
  refine leaves_cons (f := 110) (args := #[.pointer (some ⟨w.heap.size + 1, 0, none⟩)]) (by simp) (by simp [go_sem]) ?_
  refine (free_deferred _ .returning _ hk4).mono ?_
  rintro e u' w'' ⟨rfl, rfl, rfl⟩
  exact ⟨_, results_tmp rfl _ _ _, w.heap.size, rfl, hs4, B4⟩
set_option maxRecDepth 100000 in
set_option maxHeartbeats 1000000 in
theorem itoa_2 (q : Nat) (p : Addr) (w : World) (g : Env p w) (h : w.heap[q]? = some (.cells #[.int .u64 2] 103 (0, 0))) :
    Calls Tryz.prog 90 #[.slice (some ⟨q, 0, none⟩) 1 1, .bool false, .int .i64 10] w fun e w' =>
      ∃ s, e = .returned (.slice (some ⟨s, 0, none⟩) 1 1) ∧ w'.heap[s]? = some (.cells #[.int .u8 50] 5 (0, 0)) ∧ Below w.heap.size w w' := by
  have hmk := mk_b1
  have e1 : ∀ w, (convert 3 38 (.int .i64 2)).run Tryz.prog w = .ok (.float .f64 4611686018427387904) w := fun w => by kernel_rfl
  have e2 : ∀ w, (convert 3 38 (.int .i64 10)).run Tryz.prog w = .ok (.float .f64 0x4024000000000000) w := fun w => by kernel_rfl
  have e3 : ∀ w, (binOp .quo 38 (.float .f64 4611686018427387904) (.float .f64 0x400a934f0979a371)).run Tryz.prog w = .ok (.float .f64 4603598093850475007) w := fun w =>
    run_float_arith w .quo 38 .f64 _ _ _ (by kernel_rfl)
  have e4 : ∀ w, (convert 38 3 (.float .f64 4603598093850475007)).run Tryz.prog w = .ok (.int .i64 0) w := fun w => by kernel_rfl
  have b1 : bits .and .u64 10 18446744073709551606 = 2 := by decide +kernel
  have c2 := cell_of_block (o := 0) h rfl
  have hq : q < w.heap.size := lt_of_cell c2
  have hl : ∀ w' B, Below B w w' → w.heap.size ≤ B → w'.cell? ⟨5, 0, none⟩ = some (.int .i64 8) := fun w' B b hB => (g.below b hB).leaf
  go_enter_defers Tryz.func90, Tryz.ntmps90
  go_wp2_with (fail)
  refine (bitLen_2 q _ h).mono ?_
  rintro e w1 ⟨rfl, rfl⟩
  go_wp2_with (fail)
  refine (Log2_10 _).mono ?_
  rintro e w1 ⟨rfl, rfl⟩
  go_wp2_with (fail)
  refine (getStack_new _).mono ?_
  rintro e w1 ⟨rfl, rfl⟩
  go_wp2_with (fail)
  refine (maxPow_10 _).mono ?_
  rintro e w1 ⟨rfl, rfl⟩
  have B2 : Below w.heap.size w ((w.alloc (.cells #[.int .u8 0] 5)).alloc (.cells #[.pointer none] 173)) := ((Below.refl w.heap.size w).alloc (Nat.le_refl _) _).alloc (by go_size) _
  have hs2 : ((w.alloc (.cells #[.int .u8 0] 5)).alloc (.cells #[.pointer none] 173)).heap[w.heap.size]? = some (.cells #[.int .u8 0] 5 (0, 0)) :=
    ((Below.refl (w.heap.size + 1) (w.alloc (.cells #[.int .u8 0] 5))).alloc (by go_size) _).block w.heap.size (by omega) |>.trans (heap_alloc_new w _ _ rfl)
  have hk2 : ((w.alloc (.cells #[.int .u8 0] 5)).alloc (.cells #[.pointer none] 173)).heap[w.heap.size + 1]? = some (.cells #[.pointer none] 173 (0, 0)) := heap_alloc_new _ _ _ (by go_size)
  have hz2 : ((w.alloc (.cells #[.int .u8 0] 5)).alloc (.cells #[.pointer none] 173)).heap.size = w.heap.size + 2 := by simp
  have hq2 := (B2.block q hq).trans h
  go_wp2_with (fail)
  refine (divisors_1 _ _ (hl _ _ B2 (Nat.le_refl _))).mono ?_
  rintro e w1 ⟨rfl, rfl⟩
  go_wp2_with (fail)
  refine (set_1 q _ _ hq2).mono ?_
  rintro e w3 ⟨rfl, z3, n3, b3⟩
  rw [hz2] at z3 n3 b3
  have hs3 := (b3.block w.heap.size (by omega)).trans hs2
  have hk3 := (b3.block (w.heap.size + 1) (by omega)).trans hk2
  have B3 : Below w.heap.size w w3 := B2.trans (b3.mono (by omega))
  rw [hz2]
  go_wp2_with (fail)
  refine (convertWords_2 _ _ _ _ (by omega) n3 hs3).mono ?_
  rintro e w4 ⟨rfl, n, hw4⟩
  have hs4 : w4.heap[w.heap.size]? = some (.cells #[.int .u8 50] 5 (0, 0)) := by
    rw [hw4]; exact block_setCell (other_setCell (w := w3.drewN n) hs3 (by omega))
  have hk4 : w4.heap[w.heap.size + 1]? = some (.cells #[.pointer none] 173 (0, 0)) := by
    rw [hw4]; exact other_setCell (other_setCell (w := w3.drewN n) hk3 (by omega)) (by omega)
  have B4 : Below w.heap.size w w4 := by
    rw [hw4]; exact ((below_drewN B3 n).setCell (by go_size) _).setCell (by go_size) _
  clear hw4
  have c4 := cell_of_block (o := 0) hs4 rfl
  go_wp2_with (fail)
  refine wp_loop_rounds 1 ?_
  rw [rounds_succ]
  go_wp2
  refine leaves_cons (f := 110) (args := #[.pointer (some ⟨w.heap.size + 1, 0, none⟩)]) (by simp) (by simp [go_sem]) ?_
  refine (free_deferred _ .returning _ hk4).mono ?_
  rintro e u' w'' ⟨rfl, rfl, rfl⟩
  exact ⟨_, results_tmp rfl _ _ _, w.heap.size, rfl, hs4, B4⟩
set_option maxRecDepth 100000 in
set_option maxHeartbeats 1000000 in
theorem itoa_3 (q : Nat) (p : Addr) (w : World) (g : Env p w) (h : w.heap[q]? = some (.cells #[.int .u64 3] 103 (0, 0))) :
    Calls Tryz.prog 90 #[.slice (some ⟨q, 0, none⟩) 1 1, .bool false, .int .i64 10] w fun e w' =>
      ∃ s, e = .returned (.slice (some ⟨s, 0, none⟩) 1 1) ∧ w'.heap[s]? = some (.cells #[.int .u8 51] 5 (0, 0)) ∧ Below w.heap.size w w' := by
  have hmk := mk_b1
  have e1 : ∀ w, (convert 3 38 (.int .i64 2)).run Tryz.prog w = .ok (.float .f64 4611686018427387904) w := fun w => by kernel_rfl
  have e2 : ∀ w, (convert 3 38 (.int .i64 10)).run Tryz.prog w = .ok (.float .f64 0x4024000000000000) w := fun w => by kernel_rfl
  have e3 : ∀ w, (binOp .quo 38 (.float .f64 4611686018427387904) (.float .f64 0x400a934f0979a371)).run Tryz.prog w = .ok (.float .f64 4603598093850475007) w := fun w =>
    run_float_arith w .quo 38 .f64 _ _ _ (by kernel_rfl)
  have e4 : ∀ w, (convert 38 3 (.float .f64 4603598093850475007)).run Tryz.prog w = .ok (.int .i64 0) w := fun w => by kernel_rfl
  have b1 : bits .and .u64 10 18446744073709551606 = 2 := by decide +kernel
  have c2 := cell_of_block (o := 0) h rfl
  have hq : q < w.heap.size := lt_of_cell c2
  have hl : ∀ w' B, Below B w w' → w.heap.size ≤ B → w'.cell? ⟨5, 0, none⟩ = some (.int .i64 8) := fun w' B b hB => (g.below b hB).leaf
  go_enter_defers Tryz.func90, Tryz.ntmps90
  go_wp2_with (fail)
  refine (bitLen_3 q _ h).mono ?_
  rintro e w1 ⟨rfl, rfl⟩
  go_wp2_with (fail)
  refine (Log2_10 _).mono ?_
  rintro e w1 ⟨rfl, rfl⟩
  go_wp2_with (fail)
  refine (getStack_new _).mono ?_
  rintro e w1 ⟨rfl, rfl⟩
  go_wp2_with (fail)
  refine (maxPow_10 _).mono ?_
  rintro e w1 ⟨rfl, rfl⟩
  have B2 : Below w.heap.size w ((w.alloc (.cells #[.int .u8 0] 5)).alloc (.cells #[.pointer none] 173)) := ((Below.refl w.heap.size w).alloc (Nat.le_refl _) _).alloc (by go_size) _
  have hs2 : ((w.alloc (.cells #[.int .u8 0] 5)).alloc (.cells #[.pointer none] 173)).heap[w.heap.size]? = some (.cells #[.int .u8 0] 5 (0, 0)) :=
    ((Below.refl (w.heap.size + 1) (w.alloc (.cells #[.int .u8 0] 5))).alloc (by go_size) _).block w.heap.size (by omega) |>.trans (heap_alloc_new w _ _ rfl)
  have hk2 : ((w.alloc (.cells #[.int .u8 0] 5)).alloc (.cells #[.pointer none] 173)).heap[w.heap.size + 1]? = some (.cells #[.pointer none] 173 (0, 0)) := heap_alloc_new _ _ _ (by go_size)
  have hz2 : ((w.alloc (.cells #[.int .u8 0] 5)).alloc (.cells #[.pointer none] 173)).heap.size = w.heap.size + 2 := by simp
  have hq2 := (B2.block q hq).trans h
  go_wp2_with (fail)
  refine (divisors_1 _ _ (hl _ _ B2 (Nat.le_refl _))).mono ?_
  rintro e w1 ⟨rfl, rfl⟩
  go_wp2_with (fail)
  refine (set_1 q _ _ hq2).mono ?_
  rintro e w3 ⟨rfl, z3, n3, b3⟩
  rw [hz2] at z3 n3 b3
  have hs3 := (b3.block w.heap.size (by omega)).trans hs2
  have hk3 := (b3.block (w.heap.size + 1) (by omega)).trans hk2
  have B3 : Below w.heap.size w w3 := B2.trans (b3.mono (by omega))
  rw [hz2]
  go_wp2_with (fail)
  refine (convertWords_3 _ _ _ _ (by omega) n3 hs3).mono ?_
  rintro e w4 ⟨rfl, n, hw4⟩
  have hs4 : w4.heap[w.heap.size]? = some (.cells #[.int .u8 51] 5 (0, 0)) := by
    rw [hw4]; exact block_setCell (other_setCell (w := w3.drewN n) hs3 (by omega))
  have hk4 : w4.heap[w.heap.size + 1]? = some (.cells #[.pointer none] 173 (0, 0)) := by
    rw [hw4]; exact other_setCell (other_setCell (w := w3.drewN n) hk3 (by omega)) (by omega)
  have B4 : Below w.heap.size w w4 := by
    rw [hw4]; exact ((below_drewN B3 n).setCell (by go_size) _).setCell (by go_size) _
  clear hw4
  have c4 := cell_of_block (o := 0) hs4 rfl
  go_wp2_with (fail)
  refine wp_loop_rounds 1 ?_
  rw [rounds_succ]
  go_wp2
  refine leaves_cons (f := 110) (args := #[.pointer (some ⟨w.heap.size + 1, 0, none⟩)]) (by simp) (by simp [go_sem]) ?_
  refine (free_deferred _ .returning _ hk4).mono ?_
  rintro e u' w'' ⟨rfl, rfl, rfl⟩
  exact ⟨_, results_tmp rfl _ _ _, w.heap.size, rfl, hs4, B4⟩
set_option maxHeartbeats 1000000 in
theorem Sign_1 (k q : Nat) (w : World) (h : IntAt k q 1 w) :
    Calls Tryz.prog 40 #[.pointer (some ⟨k, 0, none⟩)] w fun e w' => e = .returned (.int .i64 1) ∧ w = w' := by
  have c0 := cell_of_block (o := 0) h.1 rfl
  have c1 := cell_of_block (o := 1) h.1 rfl
  go_enter Tryz.func40, Tryz.ntmps40
  go_wp2
  go_ret
  exact ⟨rfl, rfl⟩
set_option maxHeartbeats 1000000 in
theorem BitLen_1 (k q : Nat) (w : World) (h : IntAt k q 1 w) :
    Calls Tryz.prog 39 #[.pointer (some ⟨k, 0, none⟩)] w fun e w' => e = .returned (.int .i64 1) ∧ w = w' := by
  have c0 := cell_of_block (o := 0) h.1 rfl
  have c1 := cell_of_block (o := 1) h.1 rfl
  go_enter Tryz.func39, Tryz.ntmps39
  go_wp2_with (fail)
  refine (bitLen_1 q _ h.2).mono ?_
  rintro e w1 ⟨rfl, rfl⟩
  go_wp2
  go_ret
  exact ⟨rfl, rfl⟩
set_option maxHeartbeats 1000000 in
theorem Sign_2 (k q : Nat) (w : World) (h : IntAt k q 2 w) :
    Calls Tryz.prog 40 #[.pointer (some ⟨k, 0, none⟩)] w fun e w' => e = .returned (.int .i64 1) ∧ w = w' := by
  have c0 := cell_of_block (o := 0) h.1 rfl
  have c1 := cell_of_block (o := 1) h.1 rfl
  go_enter Tryz.func40, Tryz.ntmps40
  go_wp2
  go_ret
  exact ⟨rfl, rfl⟩
set_option maxHeartbeats 1000000 in
theorem BitLen_2 (k q : Nat) (w : World) (h : IntAt k q 2 w) :
    Calls Tryz.prog 39 #[.pointer (some ⟨k, 0, none⟩)] w fun e w' => e = .returned (.int .i64 2) ∧ w = w' := by
  have c0 := cell_of_block (o := 0) h.1 rfl
  have c1 := cell_of_block (o := 1) h.1 rfl
  go_enter Tryz.func39, Tryz.ntmps39
  go_wp2_with (fail)
  refine (bitLen_2 q _ h.2).mono ?_
  rintro e w1 ⟨rfl, rfl⟩
  go_wp2
  go_ret
  exact ⟨rfl, rfl⟩
set_option maxHeartbeats 1000000 in
theorem Sign_3 (k q : Nat) (w : World) (h : IntAt k q 3 w) :
    Calls Tryz.prog 40 #[.pointer (some ⟨k, 0, none⟩)] w fun e w' => e = .returned (.int .i64 1) ∧ w = w' := by
  have c0 := cell_of_block (o := 0) h.1 rfl
  have c1 := cell_of_block (o := 1) h.1 rfl
  go_enter Tryz.func40, Tryz.ntmps40
  go_wp2
  go_ret
  exact ⟨rfl, rfl⟩
set_option maxHeartbeats 1000000 in
theorem BitLen_3 (k q : Nat) (w : World) (h : IntAt k q 3 w) :
    Calls Tryz.prog 39 #[.pointer (some ⟨k, 0, none⟩)] w fun e w' => e = .returned (.int .i64 2) ∧ w = w' := by
  have c0 := cell_of_block (o := 0) h.1 rfl
  have c1 := cell_of_block (o := 1) h.1 rfl
  go_enter Tryz.func39, Tryz.ntmps39
  go_wp2_with (fail)
  refine (bitLen_3 q _ h.2).mono ?_
  rintro e w1 ⟨rfl, rfl⟩
  go_wp2
  go_ret
  exact ⟨rfl, rfl⟩
end Go.Proofs.YtiiopcjdbldihaaGreatFmtBesafter
