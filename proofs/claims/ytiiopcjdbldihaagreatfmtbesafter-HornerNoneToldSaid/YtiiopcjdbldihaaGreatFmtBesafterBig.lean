/- big.Float at the numbers 1 and 3: SetInt, SetMantExp, Float64. No condition. -/
import Derived.Test.YtiiopcjdbldihaaGreatFmtBesafterItoa
import Derived.LaidEqlPtr
import Derived.Deep.Cut
namespace Go.Proofs.YtiiopcjdbldihaaGreatFmtBesafter
open Go.RowKit Go.SurdFp

theorem OnlyB.setNew {b : Nat} {v w : World} (h : OnlyB b v w) {k : Nat} (hk : v.heap.size ≤ k) (o : Nat) (u : Value) : OnlyB b v (w.setCell ⟨k, o, none⟩ u) :=
  ⟨h.os, h.tape, h.output, by simpa using h.size, fun i hi hb => (Below.heap_setCell w ⟨k, o, none⟩ u i (by show i ≠ k; omega)).trans (h.block i hi hb)⟩
/-- A number of one word, rounded, in memory. -/
def FAt (z q : Nat) (M e : Int) (w : World) : Prop :=
  w.heap[z]? = some (.cells #[.int .u32 64, .int .u8 0, .int .i8 0, .int .u8 1, .bool false, .slice (some ⟨q, 0, none⟩) 1 1, .int .i32 e] 114 (0, 0)) ∧ w.heap[q]? = some (.cells #[.int .u64 M] 103 (0, 0))
theorem twin_lshVU (x y z : Value) (w : World) : (Extern.Twins.call "math/big.lshVU_g" #[87, 87, 85] #[103] #[x, y, z]).run Tryz.prog w = .ok (.enter 53 #[x, y, z]) w := by kernel_rfl

set_option maxHeartbeats 1000000 in
theorem LeadingZeros_1 (w : World) : Calls Tryz.prog 136 #[.int .u64 1] w fun e w' => e = .returned (.int .i64 63) ∧ w = w' := by
  go_enter Tryz.func136, Tryz.ntmps136
  go_wp2_with (fail)
  refine (Len_1 _).mono ?_
  rintro e w1 ⟨rfl, rfl⟩
  go_wp2
  go_ret
  exact ⟨rfl, rfl⟩
set_option maxHeartbeats 1000000 in
theorem nlz_1 (w : World) : Calls Tryz.prog 117 #[.int .u64 1] w fun e w' => e = .returned (.int .u64 63) ∧ w = w' := by
  go_enter Tryz.func117, Tryz.ntmps117
  go_wp2_with (fail)
  refine (LeadingZeros_1 _).mono ?_
  rintro e w1 ⟨rfl, rfl⟩
  go_wp2
  go_ret
  exact ⟨rfl, rfl⟩
set_option maxRecDepth 100000 in
set_option maxHeartbeats 1000000 in
theorem lshVU_g_1 (q : Nat) (w : World) (h : w.heap[q]? = some (.cells #[.int .u64 1] 103 (0, 0))) :
    Calls Tryz.prog 53 #[.slice (some ⟨q, 0, none⟩) 1 1, .slice (some ⟨q, 0, none⟩) 1 1, .int .u64 63] w fun e' w' => e' = .returned (.int .u64 0) ∧ w' = w.setCell ⟨q, 0, none⟩ (.int .u64 9223372036854775808) := by
  have c1 := cell_of_block (o := 0) h rfl
  have f1 := free_of_block (o := 0) h
  have e1 : bits BinOp.and IntKind.u64 63 63 = 63 := by decide +kernel
  have e2 : IntKind.u64.wrap 1 = 1 := by decide +kernel
  have e3 : bits BinOp.and IntKind.u64 1 63 = 1 := by decide +kernel
  go_enter Tryz.func53, Tryz.ntmps53
  go_wp2
  go_rounds 1
  go_ret
  exact ⟨rfl, rfl⟩
set_option maxRecDepth 100000 in
set_option maxHeartbeats 1000000 in
theorem fnorm_1 (q : Nat) (w : World) (h : w.heap[q]? = some (.cells #[.int .u64 1] 103 (0, 0))) :
    Calls Tryz.prog 96 #[.slice (some ⟨q, 0, none⟩) 1 1] w fun e' w' => e' = .returned (.int .i64 63) ∧ w' = w.setCell ⟨q, 0, none⟩ (.int .u64 9223372036854775808) := by
  have htw := twin_lshVU
  have c1 := cell_of_block (o := 0) h rfl
  go_enter Tryz.func96, Tryz.ntmps96
  go_wp2_with (fail)
  refine (nlz_1 _).mono ?_
  rintro e w1 ⟨rfl, rfl⟩
  go_wp2_with (fail)
  refine (lshVU_g_1 q _ h).mono ?_
  rintro e w1 ⟨rfl, rfl⟩
  go_wp2
  go_ret
  exact ⟨rfl, rfl⟩
set_option maxHeartbeats 1000000 in
theorem LeadingZeros_3 (w : World) : Calls Tryz.prog 136 #[.int .u64 3] w fun e w' => e = .returned (.int .i64 62) ∧ w = w' := by
  go_enter Tryz.func136, Tryz.ntmps136
  go_wp2_with (fail)
  refine (Len_3 _).mono ?_
  rintro e w1 ⟨rfl, rfl⟩
  go_wp2
  go_ret
  exact ⟨rfl, rfl⟩
set_option maxHeartbeats 1000000 in
theorem nlz_3 (w : World) : Calls Tryz.prog 117 #[.int .u64 3] w fun e w' => e = .returned (.int .u64 62) ∧ w = w' := by
  go_enter Tryz.func117, Tryz.ntmps117
  go_wp2_with (fail)
  refine (LeadingZeros_3 _).mono ?_
  rintro e w1 ⟨rfl, rfl⟩
  go_wp2
  go_ret
  exact ⟨rfl, rfl⟩
set_option maxRecDepth 100000 in
set_option maxHeartbeats 1000000 in
theorem lshVU_g_3 (q : Nat) (w : World) (h : w.heap[q]? = some (.cells #[.int .u64 3] 103 (0, 0))) :
    Calls Tryz.prog 53 #[.slice (some ⟨q, 0, none⟩) 1 1, .slice (some ⟨q, 0, none⟩) 1 1, .int .u64 62] w fun e' w' => e' = .returned (.int .u64 0) ∧ w' = w.setCell ⟨q, 0, none⟩ (.int .u64 13835058055282163712) := by
  have c1 := cell_of_block (o := 0) h rfl
  have f1 := free_of_block (o := 0) h
  have e1 : bits BinOp.and IntKind.u64 62 63 = 62 := by decide +kernel
  have e2 : IntKind.u64.wrap 2 = 2 := by decide +kernel
  have e3 : bits BinOp.and IntKind.u64 2 63 = 2 := by decide +kernel
  go_enter Tryz.func53, Tryz.ntmps53
  go_wp2
  go_rounds 1
  go_ret
  exact ⟨rfl, rfl⟩
set_option maxRecDepth 100000 in
set_option maxHeartbeats 1000000 in
theorem fnorm_3 (q : Nat) (w : World) (h : w.heap[q]? = some (.cells #[.int .u64 3] 103 (0, 0))) :
    Calls Tryz.prog 96 #[.slice (some ⟨q, 0, none⟩) 1 1] w fun e' w' => e' = .returned (.int .i64 62) ∧ w' = w.setCell ⟨q, 0, none⟩ (.int .u64 13835058055282163712) := by
  have htw := twin_lshVU
  have c1 := cell_of_block (o := 0) h rfl
  go_enter Tryz.func96, Tryz.ntmps96
  go_wp2_with (fail)
  refine (nlz_3 _).mono ?_
  rintro e w1 ⟨rfl, rfl⟩
  go_wp2_with (fail)
  refine (lshVU_g_3 q _ h).mono ?_
  rintro e w1 ⟨rfl, rfl⟩
  go_wp2
  go_ret
  exact ⟨rfl, rfl⟩

set_option maxRecDepth 100000 in
set_option maxHeartbeats 1000000 in
theorem round_64 (z q : Nat) (M e : Int) (w : World) (h : FAt z q M e w) :
    Calls Tryz.prog 116 #[.pointer (some ⟨z, 0, none⟩), .int .u64 0] w fun e' w' => e' = .returned (.tuple #[]) ∧ w' = w.setCell ⟨z, 2, none⟩ (.int .i8 0) := by
  have c0 := cell_of_block (o := 0) h.1 rfl
  have c2 := cell_of_block (o := 2) h.1 rfl
  have c3 := cell_of_block (o := 3) h.1 rfl
  have c5 := cell_of_block (o := 5) h.1 rfl
  have f2 := free_of_block (o := 2) h.1
  go_enter Tryz.func116, Tryz.ntmps116
  go_wp2
  refine bodyPost_ret (results_none rfl _ _ _) rfl ?_
  exact ⟨rfl, rfl⟩

set_option maxRecDepth 100000 in
set_option maxHeartbeats 1000000 in
theorem setExp_64 (z q : Nat) (M e f x : Int) (w : World) (he : e = 1 ∨ e = 2) (hz : w.heap[z]? = some (.cells #[.int .u32 64, .int .u8 0, .int .i8 0, .int .u8 f, .bool false, .slice (some ⟨q, 0, none⟩) 1 1, .int .i32 x] 114 (0, 0))) (hq : w.heap[q]? = some (.cells #[.int .u64 M] 103 (0, 0))) (hzq : q ≠ z) :
    Calls Tryz.prog 95 #[.pointer (some ⟨z, 0, none⟩), .int .i64 e, .int .u64 0] w fun e' w' => e' = .returned (.tuple #[]) ∧ w'.heap.size = w.heap.size ∧ FAt z q M e w' ∧ OnlyB z w w' := by
  have c3 := cell_of_block (o := 3) hz rfl
  have c6 := cell_of_block (o := 6) hz rfl
  have f3 := free_of_block (o := 3) hz
  have f6 := free_of_block (o := 6) hz
  have F : FAt z q M e ((w.setCell ⟨z, 3, none⟩ (.int .u8 1)).setCell ⟨z, 6, none⟩ (.int .i32 e)) := ⟨block_setCell (block_setCell hz), other_setCell (other_setCell hq hzq) hzq⟩
  rcases he with rfl | rfl
  all_goals
    go_enter Tryz.func95, Tryz.ntmps95
    go_wp2_with (fail)
    refine (round_64 z q M _ _ F).mono ?_
    rintro e w1 ⟨rfl, rfl⟩
    go_wp2
    go_end0
    exact ⟨rfl, by simp, ⟨block_setCell F.1, other_setCell F.2 hzq⟩, (((OnlyB.refl z w).setCell _ _).setCell _ _).setCell _ _⟩

set_option maxRecDepth 100000 in
set_option maxHeartbeats 1000000 in
theorem SetInt_1 (z k q : Nat) (w : World) (hz : w.heap[z]? = some (.cells #[.int .u32 0, .int .u8 0, .int .i8 0, .int .u8 0, .bool false, .slice none 0 0, .int .i32 0] 114 (0, 0))) (h : IntAt k q 1 w) (hzk : k ≠ z) (hqz : q ≠ z) :
    Calls Tryz.prog 72 #[.pointer (some ⟨z, 0, none⟩), .pointer (some ⟨k, 0, none⟩)] w fun e' w' => e' = .returned (.pointer (some ⟨z, 0, none⟩)) ∧ w'.heap.size = w.heap.size + 1 ∧ FAt z w.heap.size 9223372036854775808 1 w' ∧ OnlyB z w w' := by
  have c0 := cell_of_block (o := 0) h.1 rfl
  have c1 := cell_of_block (o := 1) h.1 rfl
  have d0 := cell_of_block (o := 0) hz rfl
  have d2 := cell_of_block (o := 2) hz rfl
  have d3 := cell_of_block (o := 3) hz rfl
  have d4 := cell_of_block (o := 4) hz rfl
  have d5 := cell_of_block (o := 5) hz rfl
  have f0 := free_of_block (o := 0) hz
  have f2 := free_of_block (o := 2) hz
  have f3 := free_of_block (o := 3) hz
  have f4 := free_of_block (o := 4) hz
  have f5 := free_of_block (o := 5) hz
  go_enter Tryz.func72, Tryz.ntmps72
  go_wp2_with (fail)
  refine (BitLen_1 k q _ h).mono ?_
  rintro e w1 ⟨rfl, rfl⟩
  go_wp2_with (fail)
  have hq : q < w.heap.size := lt_of_cell (cell_of_block (o := 0) h.2 rfl)
  have hk : k < w.heap.size := lt_of_cell c0
  have hzl : z < w.heap.size := lt_of_cell d0
  obtain ⟨W, hW⟩ : ∃ W, ((w.setCell ⟨z, 0, none⟩ (.int .u32 64)).setCell ⟨z, 2, none⟩ (.int .i8 0)).setCell ⟨z, 4, none⟩ (.bool false) = W := ⟨_, rfl⟩
  have nW : W.heap[z]? = some (.cells #[.int .u32 64, .int .u8 0, .int .i8 0, .int .u8 0, .bool false, .slice none 0 0, .int .i32 0] 114 (0, 0)) := by
    rw [← hW]; exact block_setCell (block_setCell (block_setCell hz))
  have oW : OnlyB z w W := by rw [← hW]; exact (((OnlyB.refl z w).setCell _ _).setCell _ _).setCell _ _
  have zW : W.heap.size = w.heap.size := by rw [← hW]; simp
  have iW : IntAt k q 1 W := ⟨(oW.block k hk hzk).trans h.1, (oW.block q hq hqz).trans h.2⟩
  have r1 := cell_of_block (o := 1) iW.1 rfl
  have r5 := cell_of_block (o := 5) nW rfl
  have g5 := free_of_block (o := 5) nW
  clear d0 d2 d3 d4 d5 f0 f2 f3 f4 f5 c0 c1
  go_region_with (go_at_call 78; go_must (refine (set_1 q 1 W.drew (by exact iW.2)).mono ?_); go_must (rintro e w1 ⟨rfl, z1, m1, b1⟩); go_must (have n1 := (b1.block z (by show z < W.heap.size; omega)).trans nW); have s5 := cell_of_block (o := 5) n1 rfl; have t5 := free_of_block (o := 5) n1)
  all_goals
    have z1' : w1.heap.size = w.heap.size + 1 := by rw [z1]; show W.heap.size + 1 = _; rw [zW]
    have m1' : w1.heap[w.heap.size]? = some (.cells #[.int .u64 1] 103 (0, 0)) := by rw [← zW]; exact m1
    have B1 : OnlyB z w w1 := oW.trans ⟨b1.os, b1.tape, b1.output, b1.size, fun i hi _ => b1.block i hi⟩
    go_wp2_with (fail)
    refine (fnorm_1 w.heap.size _ (other_setCell m1' (by omega))).mono ?_
    rintro e w2 ⟨rfl, rfl⟩
    have n3 := other_setCell (j := w.heap.size) (o := 0) (v := .int .u64 9223372036854775808) (block_setCell (o := 5) (v := .slice (some ⟨w.heap.size, 0, none⟩) 1 1) n1) (show z ≠ w.heap.size by omega)
    have m3 := block_setCell (o := 0) (v := .int .u64 9223372036854775808) (other_setCell (j := z) (o := 5) (v := .slice (some ⟨w.heap.size, 0, none⟩) 1 1) m1' (by omega))
    go_wp2_with (fail)
    refine (setExp_64 z w.heap.size 9223372036854775808 1 0 0 _ (by decide) (by exact n3) (by exact m3) (by omega)).mono ?_
    rintro e w3 ⟨rfl, z3, F3, o3⟩
    go_wp2
    go_ret
    exact ⟨rfl, by rw [z3]; simpa using z1', F3, ((B1.setCell 5 _).setNew (Nat.le_refl _) 0 _).trans o3⟩
set_option maxRecDepth 100000 in
set_option maxHeartbeats 1000000 in
theorem SetInt_3 (z k q : Nat) (w : World) (hz : w.heap[z]? = some (.cells #[.int .u32 0, .int .u8 0, .int .i8 0, .int .u8 0, .bool false, .slice none 0 0, .int .i32 0] 114 (0, 0))) (h : IntAt k q 3 w) (hzk : k ≠ z) (hqz : q ≠ z) :
    Calls Tryz.prog 72 #[.pointer (some ⟨z, 0, none⟩), .pointer (some ⟨k, 0, none⟩)] w fun e' w' => e' = .returned (.pointer (some ⟨z, 0, none⟩)) ∧ w'.heap.size = w.heap.size + 1 ∧ FAt z w.heap.size 13835058055282163712 2 w' ∧ OnlyB z w w' := by
  have c0 := cell_of_block (o := 0) h.1 rfl
  have c1 := cell_of_block (o := 1) h.1 rfl
  have d0 := cell_of_block (o := 0) hz rfl
  have d2 := cell_of_block (o := 2) hz rfl
  have d3 := cell_of_block (o := 3) hz rfl
  have d4 := cell_of_block (o := 4) hz rfl
  have d5 := cell_of_block (o := 5) hz rfl
  have f0 := free_of_block (o := 0) hz
  have f2 := free_of_block (o := 2) hz
  have f3 := free_of_block (o := 3) hz
  have f4 := free_of_block (o := 4) hz
  have f5 := free_of_block (o := 5) hz
  go_enter Tryz.func72, Tryz.ntmps72
  go_wp2_with (fail)
  refine (BitLen_3 k q _ h).mono ?_
  rintro e w1 ⟨rfl, rfl⟩
  go_wp2_with (fail)
  have hq : q < w.heap.size := lt_of_cell (cell_of_block (o := 0) h.2 rfl)
  have hk : k < w.heap.size := lt_of_cell c0
  have hzl : z < w.heap.size := lt_of_cell d0
  obtain ⟨W, hW⟩ : ∃ W, ((w.setCell ⟨z, 0, none⟩ (.int .u32 64)).setCell ⟨z, 2, none⟩ (.int .i8 0)).setCell ⟨z, 4, none⟩ (.bool false) = W := ⟨_, rfl⟩
  have nW : W.heap[z]? = some (.cells #[.int .u32 64, .int .u8 0, .int .i8 0, .int .u8 0, .bool false, .slice none 0 0, .int .i32 0] 114 (0, 0)) := by
    rw [← hW]; exact block_setCell (block_setCell (block_setCell hz))
  have oW : OnlyB z w W := by rw [← hW]; exact (((OnlyB.refl z w).setCell _ _).setCell _ _).setCell _ _
  have zW : W.heap.size = w.heap.size := by rw [← hW]; simp
  have iW : IntAt k q 3 W := ⟨(oW.block k hk hzk).trans h.1, (oW.block q hq hqz).trans h.2⟩
  have r1 := cell_of_block (o := 1) iW.1 rfl
  have r5 := cell_of_block (o := 5) nW rfl
  have g5 := free_of_block (o := 5) nW
  clear d0 d2 d3 d4 d5 f0 f2 f3 f4 f5 c0 c1
  go_region_with (go_at_call 78; go_must (refine (set_1 q 3 W.drew (by exact iW.2)).mono ?_); go_must (rintro e w1 ⟨rfl, z1, m1, b1⟩); go_must (have n1 := (b1.block z (by show z < W.heap.size; omega)).trans nW); have s5 := cell_of_block (o := 5) n1 rfl; have t5 := free_of_block (o := 5) n1)
  all_goals
    have z1' : w1.heap.size = w.heap.size + 1 := by rw [z1]; show W.heap.size + 1 = _; rw [zW]
    have m1' : w1.heap[w.heap.size]? = some (.cells #[.int .u64 3] 103 (0, 0)) := by rw [← zW]; exact m1
    have B1 : OnlyB z w w1 := oW.trans ⟨b1.os, b1.tape, b1.output, b1.size, fun i hi _ => b1.block i hi⟩
    go_wp2_with (fail)
    refine (fnorm_3 w.heap.size _ (other_setCell m1' (by omega))).mono ?_
    rintro e w2 ⟨rfl, rfl⟩
    have n3 := other_setCell (j := w.heap.size) (o := 0) (v := .int .u64 13835058055282163712) (block_setCell (o := 5) (v := .slice (some ⟨w.heap.size, 0, none⟩) 1 1) n1) (show z ≠ w.heap.size by omega)
    have m3 := block_setCell (o := 0) (v := .int .u64 13835058055282163712) (other_setCell (j := z) (o := 5) (v := .slice (some ⟨w.heap.size, 0, none⟩) 1 1) m1' (by omega))
    go_wp2_with (fail)
    refine (setExp_64 z w.heap.size 13835058055282163712 2 0 0 _ (by decide) (by exact n3) (by exact m3) (by omega)).mono ?_
    rintro e w3 ⟨rfl, z3, F3, o3⟩
    go_wp2
    go_ret
    exact ⟨rfl, by rw [z3]; simpa using z1', F3, ((B1.setCell 5 _).setNew (Nat.le_refl _) 0 _).trans o3⟩

theorem neq_F {a b : Nat} {ca cb : Array Value} (w : World) (hne : a ≠ b) (ha : w.heap[a]? = some (.cells ca 114 (0, 0))) (hb : w.heap[b]? = some (.cells cb 114 (0, 0))) :
    (binOp .neq 109 (.pointer (some ⟨a, 0, none⟩)) (.pointer (some ⟨b, 0, none⟩))).run Tryz.prog w = .ok (.bool true) w := by
  have hi : (Tryz.prog.info? 114).map (fun i => decide (i.size = 0)) = some false := by kernel_rfl
  obtain ⟨j, hte, hsz0⟩ := Option.map_eq_some_iff.1 hi
  have hsz : j.size ≠ 0 := by simpa using hsz0
  have hp : Tryz.prog.underlying 109 = some (.pointer 114) := Tryz.underlying109
  have hne' : (⟨a, 0, none⟩ : Addr) ≠ ⟨b, 0, none⟩ := fun h => hne (congrArg Addr.block h)
  have h : ∀ d : Nat, (Op.equalIn (d + 1) 109 (.pointer (some ⟨a, 0, none⟩)) (.pointer (some ⟨b, 0, none⟩))).run Tryz.prog w = .ok false w := fun d => by
    simp [Op.equalIn, run_underlying hp, sizeOf, typeInfo, hte, hsz, run_sameAddr_other w hne' ha hb]
  simp only [binOp]
  simp [Op.equal, Op.maxDepth, h 9999]

set_option maxRecDepth 100000 in
set_option maxHeartbeats 1000000 in
theorem Copy_any (z x q : Nat) (M e : Int) (w : World) (hz : w.heap[z]? = some (.cells #[.int .u32 0, .int .u8 0, .int .i8 0, .int .u8 0, .bool false, .slice none 0 0, .int .i32 0] 114 (0, 0))) (h : FAt x q M e w) (hzx : x ≠ z) (hqz : q ≠ z) :
    Calls Tryz.prog 94 #[.pointer (some ⟨z, 0, none⟩), .pointer (some ⟨x, 0, none⟩)] w fun e' w' => e' = .returned (.pointer (some ⟨z, 0, none⟩)) ∧ w'.heap.size = w.heap.size + 1 ∧ FAt z w.heap.size M e w' ∧ OnlyB z w w' := by
  have d0 := cell_of_block (o := 0) hz rfl
  have hzl : z < w.heap.size := lt_of_cell d0
  have hx : x < w.heap.size := lt_of_cell (cell_of_block (o := 0) h.1 rfl)
  have hq : q < w.heap.size := lt_of_cell (cell_of_block (o := 0) h.2 rfl)
  have c0 := cell_of_block (o := 0) h.1 rfl
  have c1 := cell_of_block (o := 1) h.1 rfl
  have c2 := cell_of_block (o := 2) h.1 rfl
  have c3 := cell_of_block (o := 3) h.1 rfl
  have c4 := cell_of_block (o := 4) h.1 rfl
  have d1 := cell_of_block (o := 1) hz rfl
  have d2 := cell_of_block (o := 2) hz rfl
  have d3 := cell_of_block (o := 3) hz rfl
  have d4 := cell_of_block (o := 4) hz rfl
  have f0 := free_of_block (o := 0) hz
  have f1 := free_of_block (o := 1) hz
  have f2 := free_of_block (o := 2) hz
  have f3 := free_of_block (o := 3) hz
  have f4 := free_of_block (o := 4) hz
  have hne := neq_F w (Ne.symm hzx) hz h.1
  obtain ⟨W, hW⟩ : ∃ W, ((((w.setCell ⟨z, 0, none⟩ (.int .u32 64)).setCell ⟨z, 1, none⟩ (.int .u8 0)).setCell ⟨z, 2, none⟩ (.int .i8 0)).setCell ⟨z, 3, none⟩ (.int .u8 1)).setCell ⟨z, 4, none⟩ (.bool false) = W := ⟨_, rfl⟩
  have nW : W.heap[z]? = some (.cells #[.int .u32 64, .int .u8 0, .int .i8 0, .int .u8 1, .bool false, .slice none 0 0, .int .i32 0] 114 (0, 0)) := by
    rw [← hW]; exact block_setCell (block_setCell (block_setCell (block_setCell (block_setCell hz))))
  have oW : OnlyB z w W := by rw [← hW]; exact (((((OnlyB.refl z w).setCell _ _).setCell _ _).setCell _ _).setCell _ _).setCell _ _
  have zW : W.heap.size = w.heap.size := by rw [← hW]; simp
  have iW : FAt x q M e W := ⟨(oW.block x hx hzx).trans h.1, (oW.block q hq hqz).trans h.2⟩
  have r5 := cell_of_block (o := 5) iW.1 rfl
  have r3 := cell_of_block (o := 3) nW rfl
  have s5 := cell_of_block (o := 5) nW rfl
  have g5 := free_of_block (o := 5) nW
  go_enter Tryz.func94, Tryz.ntmps94
  go_wp2_with (fail)
  clear d0 d1 d2 d3 d4 f0 f1 f2 f3 f4 c0 c1 c2 c3 c4 hne
  go_region_with (go_at_call 78; go_must (refine (set_1 q M W.drew (by exact iW.2)).mono ?_); go_must (rintro e w1 ⟨rfl, z1, m1, b1⟩); go_must (have n1 := (b1.block z (by show z < W.heap.size; omega)).trans nW); have s5 := cell_of_block (o := 5) n1 rfl; have t5 := free_of_block (o := 5) n1; have s6 := cell_of_block (o := 6) n1 rfl; have t6 := free_of_block (o := 6) n1; have u6 := (b1.cell (p := ⟨x, 6, none⟩) (by show x < W.heap.size; omega)).trans (cell_of_block (o := 6) iW.1 rfl))
  all_goals
    have z1' : w1.heap.size = w.heap.size + 1 := by rw [z1]; show W.heap.size + 1 = _; rw [zW]
    have m1' : w1.heap[w.heap.size]? = some (.cells #[.int .u64 M] 103 (0, 0)) := by rw [← zW]; exact m1
    have B1 : OnlyB z w w1 := oW.trans ⟨b1.os, b1.tape, b1.output, b1.size, fun i hi _ => b1.block i hi⟩
    go_wp2
    go_ret
    exact ⟨rfl, by simpa using z1', ⟨block_setCell (block_setCell n1), other_setCell (other_setCell m1' (by omega)) (by omega)⟩, (B1.setCell 5 _).setCell 6 _⟩

set_option maxRecDepth 100000 in
set_option maxHeartbeats 1000000 in
theorem SetMantExp_1 (z x q : Nat) (w : World) (hz : w.heap[z]? = some (.cells #[.int .u32 0, .int .u8 0, .int .i8 0, .int .u8 0, .bool false, .slice none 0 0, .int .i32 0] 114 (0, 0))) (h : FAt x q 9223372036854775808 1 w) (hzx : x ≠ z) (hqz : q ≠ z) :
    Calls Tryz.prog 71 #[.pointer (some ⟨z, 0, none⟩), .pointer (some ⟨x, 0, none⟩), .int .i64 0] w fun e' w' => e' = .returned (.pointer (some ⟨z, 0, none⟩)) ∧ w'.heap.size = w.heap.size + 1 ∧ FAt z w.heap.size 9223372036854775808 1 w' ∧ OnlyB z w w' := by
  have hzl : z < w.heap.size := lt_of_cell (cell_of_block (o := 0) hz rfl)
  go_enter Tryz.func71, Tryz.ntmps71
  go_wp2_with (fail)
  refine (Copy_any z x q 9223372036854775808 1 w hz h hzx hqz).mono ?_
  rintro e w1 ⟨rfl, z1, F1, o1⟩
  have r3 := cell_of_block (o := 3) F1.1 rfl
  have r6 := cell_of_block (o := 6) F1.1 rfl
  go_wp2_with (fail)
  refine (setExp_64 z w.heap.size 9223372036854775808 1 1 1 w1 (by decide) F1.1 F1.2 (by omega)).mono ?_
  rintro e w2 ⟨rfl, z2, F2, o2⟩
  go_wp2
  go_ret
  exact ⟨rfl, by rw [z2]; exact z1, F2, o1.trans o2⟩
set_option maxRecDepth 100000 in
set_option maxHeartbeats 1000000 in
theorem SetMantExp_2 (z x q : Nat) (w : World) (hz : w.heap[z]? = some (.cells #[.int .u32 0, .int .u8 0, .int .i8 0, .int .u8 0, .bool false, .slice none 0 0, .int .i32 0] 114 (0, 0))) (h : FAt x q 9223372036854775808 1 w) (hzx : x ≠ z) (hqz : q ≠ z) :
    Calls Tryz.prog 71 #[.pointer (some ⟨z, 0, none⟩), .pointer (some ⟨x, 0, none⟩), .int .i64 1] w fun e' w' => e' = .returned (.pointer (some ⟨z, 0, none⟩)) ∧ w'.heap.size = w.heap.size + 1 ∧ FAt z w.heap.size 9223372036854775808 2 w' ∧ OnlyB z w w' := by
  have hzl : z < w.heap.size := lt_of_cell (cell_of_block (o := 0) hz rfl)
  go_enter Tryz.func71, Tryz.ntmps71
  go_wp2_with (fail)
  refine (Copy_any z x q 9223372036854775808 1 w hz h hzx hqz).mono ?_
  rintro e w1 ⟨rfl, z1, F1, o1⟩
  have r3 := cell_of_block (o := 3) F1.1 rfl
  have r6 := cell_of_block (o := 6) F1.1 rfl
  go_wp2_with (fail)
  refine (setExp_64 z w.heap.size 9223372036854775808 2 1 1 w1 (by decide) F1.1 F1.2 (by omega)).mono ?_
  rintro e w2 ⟨rfl, z2, F2, o2⟩
  go_wp2
  go_ret
  exact ⟨rfl, by rw [z2]; exact z1, F2, o1.trans o2⟩
set_option maxRecDepth 100000 in
set_option maxHeartbeats 1000000 in
theorem SetMantExp_3 (z x q : Nat) (w : World) (hz : w.heap[z]? = some (.cells #[.int .u32 0, .int .u8 0, .int .i8 0, .int .u8 0, .bool false, .slice none 0 0, .int .i32 0] 114 (0, 0))) (h : FAt x q 13835058055282163712 2 w) (hzx : x ≠ z) (hqz : q ≠ z) :
    Calls Tryz.prog 71 #[.pointer (some ⟨z, 0, none⟩), .pointer (some ⟨x, 0, none⟩), .int .i64 0] w fun e' w' => e' = .returned (.pointer (some ⟨z, 0, none⟩)) ∧ w'.heap.size = w.heap.size + 1 ∧ FAt z w.heap.size 13835058055282163712 2 w' ∧ OnlyB z w w' := by
  have hzl : z < w.heap.size := lt_of_cell (cell_of_block (o := 0) hz rfl)
  go_enter Tryz.func71, Tryz.ntmps71
  go_wp2_with (fail)
  refine (Copy_any z x q 13835058055282163712 2 w hz h hzx hqz).mono ?_
  rintro e w1 ⟨rfl, z1, F1, o1⟩
  have r3 := cell_of_block (o := 3) F1.1 rfl
  have r6 := cell_of_block (o := 6) F1.1 rfl
  go_wp2_with (fail)
  refine (setExp_64 z w.heap.size 13835058055282163712 2 1 2 w1 (by decide) F1.1 F1.2 (by omega)).mono ?_
  rintro e w2 ⟨rfl, z2, F2, o2⟩
  go_wp2
  go_ret
  exact ⟨rfl, by rw [z2]; exact z1, F2, o1.trans o2⟩
end Go.Proofs.YtiiopcjdbldihaaGreatFmtBesafter
