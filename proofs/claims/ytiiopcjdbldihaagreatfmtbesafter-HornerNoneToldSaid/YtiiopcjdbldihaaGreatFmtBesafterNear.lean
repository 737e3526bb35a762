/- big.Float: rounding to 53 bits, Set, Float64, at the numbers 1, 2, 3. No condition. -/
import Derived.Test.YtiiopcjdbldihaaGreatFmtBesafterBig
import Derived.Test.YtiiopcjdbldihaaGreatFmtBesafterText
namespace Go.Proofs.YtiiopcjdbldihaaGreatFmtBesafter
open Go.RowKit Go.SurdFp

set_option maxRecDepth 100000 in
set_option maxHeartbeats 1000000 in
theorem sticky_1 (q : Nat) (w : World) (h : w.heap[q]? = some (.cells #[.int .u64 9223372036854775808] 103 (0, 0))) :
    Calls Tryz.prog 97 #[.slice (some ⟨q, 0, none⟩) 1 1, .int .u64 10] w fun e' w' => e' = .returned (.int .u64 0) ∧ w = w' := by
  have c0 := cell_of_block (o := 0) h rfl
  have b1 : IntKind.u64.wrap 166153499473114484112975882535043072 = 0 := by decide +kernel
  have b2 : IntKind.u64.wrap 54 = 54 := by decide +kernel
  go_enter Tryz.func97, Tryz.ntmps97
  go_wp2
  go_rounds 1
  go_wp2
  go_ret
  exact ⟨rfl, rfl⟩
set_option maxRecDepth 100000 in
set_option maxHeartbeats 1000000 in
theorem bit_1 (q : Nat) (w : World) (h : w.heap[q]? = some (.cells #[.int .u64 9223372036854775808] 103 (0, 0))) :
    Calls Tryz.prog 135 #[.slice (some ⟨q, 0, none⟩) 1 1, .int .u64 10] w fun e' w' => e' = .returned (.int .u64 0) ∧ w = w' := by
  have c0 := cell_of_block (o := 0) h rfl
  have b1 : bits .and .u64 9007199254740992 1 = 0 := by decide +kernel
  go_enter Tryz.func135, Tryz.ntmps135
  go_wp2
  go_ret
  exact ⟨rfl, rfl⟩
set_option maxRecDepth 100000 in
set_option maxHeartbeats 1000000 in
theorem round_53_1 (z q : Nat) (e : Int) (w : World) (hz : w.heap[z]? = some (.cells #[.int .u32 53, .int .u8 0, .int .i8 0, .int .u8 1, .bool false, .slice (some ⟨q, 0, none⟩) 1 1, .int .i32 e] 114 (0, 0))) (hq : w.heap[q]? = some (.cells #[.int .u64 9223372036854775808] 103 (0, 0))) (hqz : q ≠ z) :
    Calls Tryz.prog 116 #[.pointer (some ⟨z, 0, none⟩), .int .u64 0] w fun e' w' => e' = .returned (.tuple #[]) ∧ w' = (w.setCell ⟨z, 2, none⟩ (.int .i8 0)).setCell ⟨q, 0, none⟩ (.int .u64 9223372036854775808) := by
  have c0 := cell_of_block (o := 0) hz rfl
  have c1 := cell_of_block (o := 1) hz rfl
  have c2 := cell_of_block (o := 2) hz rfl
  have c3 := cell_of_block (o := 3) hz rfl
  have c5 := cell_of_block (o := 5) hz rfl
  have f2 := free_of_block (o := 2) hz
  have d0 := cell_of_block (o := 0) hq rfl
  have g0 := free_of_block (o := 0) hq
  have b0 : bits .and .u64 0 1 = 0 := by decide +kernel
  have b1 : bits .or .u64 0 0 = 0 := by decide +kernel
  have b2 : bits .andNot .u64 9223372036854775808 2047 = 9223372036854775808 := by decide +kernel
  go_enter Tryz.func116, Tryz.ntmps116
  go_wp2_with (fail)
  refine (bit_1 q _ (other_setCell hq hqz)).mono ?_
  rintro e w1 ⟨rfl, rfl⟩
  go_wp2_with (fail)
  refine (sticky_1 q _ (other_setCell hq hqz)).mono ?_
  rintro e w1 ⟨rfl, rfl⟩
  go_wp2_with (fail)
  go_end0
  exact ⟨rfl, rfl⟩

set_option maxRecDepth 100000 in
set_option maxHeartbeats 2000000 in
theorem Set_53_1 (z x q : Nat) (e : Int) (w : World) (hz : w.heap[z]? = some (.cells #[.int .u32 53, .int .u8 0, .int .i8 0, .int .u8 0, .bool false, .slice none 0 0, .int .i32 0] 114 (0, 0))) (h : FAt x q 9223372036854775808 e w) (hzx : x ≠ z) (hqz : q ≠ z) :
    Calls Tryz.prog 98 #[.pointer (some ⟨z, 0, none⟩), .pointer (some ⟨x, 0, none⟩)] w fun e' w' => e' = .returned (.pointer (some ⟨z, 0, none⟩)) ∧ w'.heap.size = w.heap.size + 1 ∧ w'.heap[z]? = some (.cells #[.int .u32 53, .int .u8 0, .int .i8 0, .int .u8 1, .bool false, .slice (some ⟨w.heap.size, 0, none⟩) 1 1, .int .i32 e] 114 (0, 0)) ∧ w'.heap[w.heap.size]? = some (.cells #[.int .u64 9223372036854775808] 103 (0, 0)) ∧ OnlyB z w w' := by
  have d2 := cell_of_block (o := 2) hz rfl
  have d3 := cell_of_block (o := 3) hz rfl
  have d4 := cell_of_block (o := 4) hz rfl
  have d6 := cell_of_block (o := 6) hz rfl
  have hzl : z < w.heap.size := lt_of_cell d2
  have hx : x < w.heap.size := lt_of_cell (cell_of_block (o := 0) h.1 rfl)
  have hq : q < w.heap.size := lt_of_cell (cell_of_block (o := 0) h.2 rfl)
  have c3 := cell_of_block (o := 3) h.1 rfl
  have c4 := cell_of_block (o := 4) h.1 rfl
  have c6 := cell_of_block (o := 6) h.1 rfl
  have f2 := free_of_block (o := 2) hz
  have f3 := free_of_block (o := 3) hz
  have f4 := free_of_block (o := 4) hz
  have f6 := free_of_block (o := 6) hz
  have hne := neq_F (w.setCell ⟨z, 2, none⟩ (.int .i8 0)) (Ne.symm hzx) (block_setCell hz) (other_setCell h.1 hzx)
  obtain ⟨W, hW⟩ : ∃ W, (((w.setCell ⟨z, 2, none⟩ (.int .i8 0)).setCell ⟨z, 3, none⟩ (.int .u8 1)).setCell ⟨z, 4, none⟩ (.bool false)).setCell ⟨z, 6, none⟩ (.int .i32 e) = W := ⟨_, rfl⟩
  have nW : W.heap[z]? = some (.cells #[.int .u32 53, .int .u8 0, .int .i8 0, .int .u8 1, .bool false, .slice none 0 0, .int .i32 e] 114 (0, 0)) := by
    rw [← hW]; exact block_setCell (block_setCell (block_setCell (block_setCell hz)))
  have oW : OnlyB z w W := by rw [← hW]; exact ((((OnlyB.refl z w).setCell _ _).setCell _ _).setCell _ _).setCell _ _
  have zW : W.heap.size = w.heap.size := by rw [← hW]; simp
  have iW : FAt x q 9223372036854775808 e W := ⟨(oW.block x hx hzx).trans h.1, (oW.block q hq hqz).trans h.2⟩
  have r5 := cell_of_block (o := 5) iW.1 rfl
  have s5 := cell_of_block (o := 5) nW rfl
  have g5 := free_of_block (o := 5) nW
  go_enter Tryz.func98, Tryz.ntmps98
  go_wp2_with (fail)
  clear d2 d3 d4 d6 f2 f3 f4 f6 c3 c4 c6 hne
  go_region_with (go_at_call 78; go_must (refine (set_1 q 9223372036854775808 W.drew (by exact iW.2)).mono ?_); go_must (rintro e w1 ⟨rfl, z1, m1, b1⟩); go_must (have n1 := (b1.block z (by show z < W.heap.size; omega)).trans nW); have s5 := cell_of_block (o := 5) n1 rfl; have t5 := free_of_block (o := 5) n1; have s0 := cell_of_block (o := 0) n1 rfl; have u0 := (b1.cell (p := ⟨x, 0, none⟩) (by show x < W.heap.size; omega)).trans (cell_of_block (o := 0) iW.1 rfl))
  all_goals
    have z1' : w1.heap.size = w.heap.size + 1 := by rw [z1]; show W.heap.size + 1 = _; rw [zW]
    have m1' : w1.heap[w.heap.size]? = some (.cells #[.int .u64 9223372036854775808] 103 (0, 0)) := by rw [← zW]; exact m1
    have B1 : OnlyB z w w1 := oW.trans ⟨b1.os, b1.tape, b1.output, b1.size, fun i hi _ => b1.block i hi⟩
    have n2 := block_setCell (o := 5) (v := .slice (some ⟨w.heap.size, 0, none⟩) 1 1) n1
    have m2 := other_setCell (j := z) (o := 5) (v := .slice (some ⟨w.heap.size, 0, none⟩) 1 1) m1' (by omega)
    go_wp2_with (fail)
    go_quiet (fail)
    go_wp2_with (fail)
    refine (round_53_1 z w.heap.size e _ (by exact n2) (by exact m2) (by omega)).mono ?_
    rintro e' w3 ⟨rfl, rfl⟩
    go_wp2
    go_ret
    exact ⟨rfl, by simpa using z1', other_setCell (block_setCell (o := 2) (v := .int .i8 0) n2) (by omega), block_setCell (other_setCell (j := z) (o := 2) (v := .int .i8 0) m2 (by omega)), (((B1.setCell 5 _).drewN _).setCell 2 _).setNew (Nat.le_refl _) 0 _⟩
set_option maxRecDepth 100000 in
set_option maxHeartbeats 1000000 in
theorem sticky_3 (q : Nat) (w : World) (h : w.heap[q]? = some (.cells #[.int .u64 13835058055282163712] 103 (0, 0))) :
    Calls Tryz.prog 97 #[.slice (some ⟨q, 0, none⟩) 1 1, .int .u64 10] w fun e' w' => e' = .returned (.int .u64 0) ∧ w = w' := by
  have c0 := cell_of_block (o := 0) h rfl
  have b1 : IntKind.u64.wrap 249230249209671726169463823802564608 = 0 := by decide +kernel
  have b2 : IntKind.u64.wrap 54 = 54 := by decide +kernel
  go_enter Tryz.func97, Tryz.ntmps97
  go_wp2
  go_rounds 1
  go_wp2
  go_ret
  exact ⟨rfl, rfl⟩
set_option maxRecDepth 100000 in
set_option maxHeartbeats 1000000 in
theorem bit_3 (q : Nat) (w : World) (h : w.heap[q]? = some (.cells #[.int .u64 13835058055282163712] 103 (0, 0))) :
    Calls Tryz.prog 135 #[.slice (some ⟨q, 0, none⟩) 1 1, .int .u64 10] w fun e' w' => e' = .returned (.int .u64 0) ∧ w = w' := by
  have c0 := cell_of_block (o := 0) h rfl
  have b1 : bits .and .u64 13510798882111488 1 = 0 := by decide +kernel
  go_enter Tryz.func135, Tryz.ntmps135
  go_wp2
  go_ret
  exact ⟨rfl, rfl⟩
set_option maxRecDepth 100000 in
set_option maxHeartbeats 1000000 in
theorem round_53_3 (z q : Nat) (e : Int) (w : World) (hz : w.heap[z]? = some (.cells #[.int .u32 53, .int .u8 0, .int .i8 0, .int .u8 1, .bool false, .slice (some ⟨q, 0, none⟩) 1 1, .int .i32 e] 114 (0, 0))) (hq : w.heap[q]? = some (.cells #[.int .u64 13835058055282163712] 103 (0, 0))) (hqz : q ≠ z) :
    Calls Tryz.prog 116 #[.pointer (some ⟨z, 0, none⟩), .int .u64 0] w fun e' w' => e' = .returned (.tuple #[]) ∧ w' = (w.setCell ⟨z, 2, none⟩ (.int .i8 0)).setCell ⟨q, 0, none⟩ (.int .u64 13835058055282163712) := by
  have c0 := cell_of_block (o := 0) hz rfl
  have c1 := cell_of_block (o := 1) hz rfl
  have c2 := cell_of_block (o := 2) hz rfl
  have c3 := cell_of_block (o := 3) hz rfl
  have c5 := cell_of_block (o := 5) hz rfl
  have f2 := free_of_block (o := 2) hz
  have d0 := cell_of_block (o := 0) hq rfl
  have g0 := free_of_block (o := 0) hq
  have b0 : bits .and .u64 0 1 = 0 := by decide +kernel
  have b1 : bits .or .u64 0 0 = 0 := by decide +kernel
  have b2 : bits .andNot .u64 13835058055282163712 2047 = 13835058055282163712 := by decide +kernel
  go_enter Tryz.func116, Tryz.ntmps116
  go_wp2_with (fail)
  refine (bit_3 q _ (other_setCell hq hqz)).mono ?_
  rintro e w1 ⟨rfl, rfl⟩
  go_wp2_with (fail)
  refine (sticky_3 q _ (other_setCell hq hqz)).mono ?_
  rintro e w1 ⟨rfl, rfl⟩
  go_wp2_with (fail)
  go_end0
  exact ⟨rfl, rfl⟩

set_option maxRecDepth 100000 in
set_option maxHeartbeats 2000000 in
theorem Set_53_3 (z x q : Nat) (e : Int) (w : World) (hz : w.heap[z]? = some (.cells #[.int .u32 53, .int .u8 0, .int .i8 0, .int .u8 0, .bool false, .slice none 0 0, .int .i32 0] 114 (0, 0))) (h : FAt x q 13835058055282163712 e w) (hzx : x ≠ z) (hqz : q ≠ z) :
    Calls Tryz.prog 98 #[.pointer (some ⟨z, 0, none⟩), .pointer (some ⟨x, 0, none⟩)] w fun e' w' => e' = .returned (.pointer (some ⟨z, 0, none⟩)) ∧ w'.heap.size = w.heap.size + 1 ∧ w'.heap[z]? = some (.cells #[.int .u32 53, .int .u8 0, .int .i8 0, .int .u8 1, .bool false, .slice (some ⟨w.heap.size, 0, none⟩) 1 1, .int .i32 e] 114 (0, 0)) ∧ w'.heap[w.heap.size]? = some (.cells #[.int .u64 13835058055282163712] 103 (0, 0)) ∧ OnlyB z w w' := by
  have d2 := cell_of_block (o := 2) hz rfl
  have d3 := cell_of_block (o := 3) hz rfl
  have d4 := cell_of_block (o := 4) hz rfl
  have d6 := cell_of_block (o := 6) hz rfl
  have hzl : z < w.heap.size := lt_of_cell d2
  have hx : x < w.heap.size := lt_of_cell (cell_of_block (o := 0) h.1 rfl)
  have hq : q < w.heap.size := lt_of_cell (cell_of_block (o := 0) h.2 rfl)
  have c3 := cell_of_block (o := 3) h.1 rfl
  have c4 := cell_of_block (o := 4) h.1 rfl
  have c6 := cell_of_block (o := 6) h.1 rfl
  have f2 := free_of_block (o := 2) hz
  have f3 := free_of_block (o := 3) hz
  have f4 := free_of_block (o := 4) hz
  have f6 := free_of_block (o := 6) hz
  have hne := neq_F (w.setCell ⟨z, 2, none⟩ (.int .i8 0)) (Ne.symm hzx) (block_setCell hz) (other_setCell h.1 hzx)
  obtain ⟨W, hW⟩ : ∃ W, (((w.setCell ⟨z, 2, none⟩ (.int .i8 0)).setCell ⟨z, 3, none⟩ (.int .u8 1)).setCell ⟨z, 4, none⟩ (.bool false)).setCell ⟨z, 6, none⟩ (.int .i32 e) = W := ⟨_, rfl⟩
  have nW : W.heap[z]? = some (.cells #[.int .u32 53, .int .u8 0, .int .i8 0, .int .u8 1, .bool false, .slice none 0 0, .int .i32 e] 114 (0, 0)) := by
    rw [← hW]; exact block_setCell (block_setCell (block_setCell (block_setCell hz)))
  have oW : OnlyB z w W := by rw [← hW]; exact ((((OnlyB.refl z w).setCell _ _).setCell _ _).setCell _ _).setCell _ _
  have zW : W.heap.size = w.heap.size := by rw [← hW]; simp
  have iW : FAt x q 13835058055282163712 e W := ⟨(oW.block x hx hzx).trans h.1, (oW.block q hq hqz).trans h.2⟩
  have r5 := cell_of_block (o := 5) iW.1 rfl
  have s5 := cell_of_block (o := 5) nW rfl
  have g5 := free_of_block (o := 5) nW
  go_enter Tryz.func98, Tryz.ntmps98
  go_wp2_with (fail)
  clear d2 d3 d4 d6 f2 f3 f4 f6 c3 c4 c6 hne
  go_region_with (go_at_call 78; go_must (refine (set_1 q 13835058055282163712 W.drew (by exact iW.2)).mono ?_); go_must (rintro e w1 ⟨rfl, z1, m1, b1⟩); go_must (have n1 := (b1.block z (by show z < W.heap.size; omega)).trans nW); have s5 := cell_of_block (o := 5) n1 rfl; have t5 := free_of_block (o := 5) n1; have s0 := cell_of_block (o := 0) n1 rfl; have u0 := (b1.cell (p := ⟨x, 0, none⟩) (by show x < W.heap.size; omega)).trans (cell_of_block (o := 0) iW.1 rfl))
  all_goals
    have z1' : w1.heap.size = w.heap.size + 1 := by rw [z1]; show W.heap.size + 1 = _; rw [zW]
    have m1' : w1.heap[w.heap.size]? = some (.cells #[.int .u64 13835058055282163712] 103 (0, 0)) := by rw [← zW]; exact m1
    have B1 : OnlyB z w w1 := oW.trans ⟨b1.os, b1.tape, b1.output, b1.size, fun i hi _ => b1.block i hi⟩
    have n2 := block_setCell (o := 5) (v := .slice (some ⟨w.heap.size, 0, none⟩) 1 1) n1
    have m2 := other_setCell (j := z) (o := 5) (v := .slice (some ⟨w.heap.size, 0, none⟩) 1 1) m1' (by omega)
    go_wp2_with (fail)
    go_quiet (fail)
    go_wp2_with (fail)
    refine (round_53_3 z w.heap.size e _ (by exact n2) (by exact m2) (by omega)).mono ?_
    rintro e' w3 ⟨rfl, rfl⟩
    go_wp2
    go_ret
    exact ⟨rfl, by simpa using z1', other_setCell (block_setCell (o := 2) (v := .int .i8 0) n2) (by omega), block_setCell (other_setCell (j := z) (o := 2) (v := .int .i8 0) m2 (by omega)), (((B1.setCell 5 _).drewN _).setCell 2 _).setNew (Nat.le_refl _) 0 _⟩

theorem msb64_any (q : Nat) (M : Int) (w : World) (h : w.heap[q]? = some (.cells #[.int .u64 M] 103 (0, 0))) :
    Calls Tryz.prog 100 #[.slice (some ⟨q, 0, none⟩) 1 1] w fun e' w' => e' = .returned (.int .u64 M) ∧ w = w' := by
  have c0 := cell_of_block (o := 0) h rfl
  go_enter Tryz.func100, Tryz.ntmps100
  go_wp2
  go_ret
  exact ⟨rfl, rfl⟩

set_option maxRecDepth 100000 in
set_option maxHeartbeats 2000000 in
theorem Float64_1 (x q : Nat) (w : World) (h : FAt x q 9223372036854775808 1 w) :
    Calls Tryz.prog 73 #[.pointer (some ⟨x, 0, none⟩)] w fun e' w' => e' = .returned (.tuple #[.float .f64 4607182418800017408, .int .i8 0]) ∧ Below w.heap.size w w' := by
  have c3 := cell_of_block (o := 3) h.1 rfl
  have c4 := cell_of_block (o := 4) h.1 rfl
  have c6 := cell_of_block (o := 6) h.1 rfl
  have hx : x < w.heap.size := lt_of_cell c3
  have hq : q < w.heap.size := lt_of_cell (cell_of_block (o := 0) h.2 rfl)
  have hfb : ∀ w, (callFunc 30 #[.int .u64 4607182418800017408]).run Tryz.prog w = .ok (.value (.float .f64 4607182418800017408)) w := fun w => run_frombits 4607182418800017408 w
  have b1 : bits .and .u64 4503599627370496 4503599627370495 = 0 := by decide +kernel
  have b2 : bits .or .u64 0 4607182418800017408 = 4607182418800017408 := by decide +kernel
  have b3 : bits .or .u64 4607182418800017408 0 = 4607182418800017408 := by decide +kernel
  have BW : Below w.heap.size w (w.alloc (.cells #[.int .u32 53, .int .u8 0, .int .i8 0, .int .u8 0, .bool false, .slice none 0 0, .int .i32 0] 114)) := (Below.refl w.heap.size w).alloc (Nat.le_refl _) _
  go_enter Tryz.func73, Tryz.ntmps73
  go_wp2_with (fail)
  refine (Set_53_1 w.heap.size x q 1 _ (heap_alloc_new _ _ _ rfl) ⟨(BW.block x hx).trans h.1, (BW.block q hq).trans h.2⟩ (by omega) (by omega)).mono ?_
  rintro e w1 ⟨rfl, z1, n1, m1, o1⟩
  have zW : (w.alloc (.cells #[.int .u32 53, .int .u8 0, .int .i8 0, .int .u8 0, .bool false, .slice none 0 0, .int .i32 0] 114)).heap.size = w.heap.size + 1 := by simp
  rw [zW] at z1 n1 m1
  have e2 := cell_of_block (o := 2) n1 rfl
  have e3 := cell_of_block (o := 3) n1 rfl
  have e5 := cell_of_block (o := 5) n1 rfl
  have e6 := cell_of_block (o := 6) n1 rfl
  have B1 : Below w.heap.size w w1 := BW.trans (o1.below (Nat.le_refl _) (by omega))
  have x4 := (B1.cell (p := ⟨x, 4, none⟩) hx).trans c4
  go_wp2_with (fail)
  refine (msb64_any _ _ _ m1).mono ?_
  rintro e w2 ⟨rfl, rfl⟩
  go_wp2_with (fail)
  go_quiet (fail)
  go_wp2
  go_ret2
  exact ⟨rfl, below_drewN B1 _⟩
set_option maxRecDepth 100000 in
set_option maxHeartbeats 2000000 in
theorem Float64_2 (x q : Nat) (w : World) (h : FAt x q 9223372036854775808 2 w) :
    Calls Tryz.prog 73 #[.pointer (some ⟨x, 0, none⟩)] w fun e' w' => e' = .returned (.tuple #[.float .f64 4611686018427387904, .int .i8 0]) ∧ Below w.heap.size w w' := by
  have c3 := cell_of_block (o := 3) h.1 rfl
  have c4 := cell_of_block (o := 4) h.1 rfl
  have c6 := cell_of_block (o := 6) h.1 rfl
  have hx : x < w.heap.size := lt_of_cell c3
  have hq : q < w.heap.size := lt_of_cell (cell_of_block (o := 0) h.2 rfl)
  have hfb : ∀ w, (callFunc 30 #[.int .u64 4611686018427387904]).run Tryz.prog w = .ok (.value (.float .f64 4611686018427387904)) w := fun w => run_frombits 4611686018427387904 w
  have b1 : bits .and .u64 4503599627370496 4503599627370495 = 0 := by decide +kernel
  have b2 : bits .or .u64 0 4611686018427387904 = 4611686018427387904 := by decide +kernel
  have b3 : bits .or .u64 4611686018427387904 0 = 4611686018427387904 := by decide +kernel
  have BW : Below w.heap.size w (w.alloc (.cells #[.int .u32 53, .int .u8 0, .int .i8 0, .int .u8 0, .bool false, .slice none 0 0, .int .i32 0] 114)) := (Below.refl w.heap.size w).alloc (Nat.le_refl _) _
  go_enter Tryz.func73, Tryz.ntmps73
  go_wp2_with (fail)
  refine (Set_53_1 w.heap.size x q 2 _ (heap_alloc_new _ _ _ rfl) ⟨(BW.block x hx).trans h.1, (BW.block q hq).trans h.2⟩ (by omega) (by omega)).mono ?_
  rintro e w1 ⟨rfl, z1, n1, m1, o1⟩
  have zW : (w.alloc (.cells #[.int .u32 53, .int .u8 0, .int .i8 0, .int .u8 0, .bool false, .slice none 0 0, .int .i32 0] 114)).heap.size = w.heap.size + 1 := by simp
  rw [zW] at z1 n1 m1
  have e2 := cell_of_block (o := 2) n1 rfl
  have e3 := cell_of_block (o := 3) n1 rfl
  have e5 := cell_of_block (o := 5) n1 rfl
  have e6 := cell_of_block (o := 6) n1 rfl
  have B1 : Below w.heap.size w w1 := BW.trans (o1.below (Nat.le_refl _) (by omega))
  have x4 := (B1.cell (p := ⟨x, 4, none⟩) hx).trans c4
  go_wp2_with (fail)
  refine (msb64_any _ _ _ m1).mono ?_
  rintro e w2 ⟨rfl, rfl⟩
  go_wp2_with (fail)
  go_quiet (fail)
  go_wp2
  go_ret2
  exact ⟨rfl, below_drewN B1 _⟩
set_option maxRecDepth 100000 in
set_option maxHeartbeats 2000000 in
theorem Float64_3 (x q : Nat) (w : World) (h : FAt x q 13835058055282163712 2 w) :
    Calls Tryz.prog 73 #[.pointer (some ⟨x, 0, none⟩)] w fun e' w' => e' = .returned (.tuple #[.float .f64 4613937818241073152, .int .i8 0]) ∧ Below w.heap.size w w' := by
  have c3 := cell_of_block (o := 3) h.1 rfl
  have c4 := cell_of_block (o := 4) h.1 rfl
  have c6 := cell_of_block (o := 6) h.1 rfl
  have hx : x < w.heap.size := lt_of_cell c3
  have hq : q < w.heap.size := lt_of_cell (cell_of_block (o := 0) h.2 rfl)
  have hfb : ∀ w, (callFunc 30 #[.int .u64 4613937818241073152]).run Tryz.prog w = .ok (.value (.float .f64 4613937818241073152)) w := fun w => run_frombits 4613937818241073152 w
  have b1 : bits .and .u64 6755399441055744 4503599627370495 = 2251799813685248 := by decide +kernel
  have b2 : bits .or .u64 0 4611686018427387904 = 4611686018427387904 := by decide +kernel
  have b3 : bits .or .u64 4611686018427387904 2251799813685248 = 4613937818241073152 := by decide +kernel
  have BW : Below w.heap.size w (w.alloc (.cells #[.int .u32 53, .int .u8 0, .int .i8 0, .int .u8 0, .bool false, .slice none 0 0, .int .i32 0] 114)) := (Below.refl w.heap.size w).alloc (Nat.le_refl _) _
  go_enter Tryz.func73, Tryz.ntmps73
  go_wp2_with (fail)
  refine (Set_53_3 w.heap.size x q 2 _ (heap_alloc_new _ _ _ rfl) ⟨(BW.block x hx).trans h.1, (BW.block q hq).trans h.2⟩ (by omega) (by omega)).mono ?_
  rintro e w1 ⟨rfl, z1, n1, m1, o1⟩
  have zW : (w.alloc (.cells #[.int .u32 53, .int .u8 0, .int .i8 0, .int .u8 0, .bool false, .slice none 0 0, .int .i32 0] 114)).heap.size = w.heap.size + 1 := by simp
  rw [zW] at z1 n1 m1
  have e2 := cell_of_block (o := 2) n1 rfl
  have e3 := cell_of_block (o := 3) n1 rfl
  have e5 := cell_of_block (o := 5) n1 rfl
  have e6 := cell_of_block (o := 6) n1 rfl
  have B1 : Below w.heap.size w w1 := BW.trans (o1.below (Nat.le_refl _) (by omega))
  have x4 := (B1.cell (p := ⟨x, 4, none⟩) hx).trans c4
  go_wp2_with (fail)
  refine (msb64_any _ _ _ m1).mono ?_
  rintro e w2 ⟨rfl, rfl⟩
  go_wp2_with (fail)
  go_quiet (fail)
  go_wp2
  go_ret2
  exact ⟨rfl, below_drewN B1 _⟩
end Go.Proofs.YtiiopcjdbldihaaGreatFmtBesafter
