/- exact.Int, exact.Worst, exact.Poly at the constant polynomial 1 + 2 x + 3 x^2. Condition: io.EOF holds an error's pointer. -/
import Derived.Test.YtiiopcjdbldihaaGreatFmtNum
namespace Go.Proofs.YtiiopcjdbldihaaGreatFmt
open Go.RowKit

set_option maxHeartbeats 400000 in
theorem formed_1 (w : World) :
    Calls Tryz.prog 46 #[.string ⟨#[49]⟩] w fun e' w' => e' = .returned (.bool true) ∧ w = w' := by
  go_enter Tryz.func46, Tryz.ntmps46
  go_wp2
  go_rounds 2
  all_goals (go_ret; exact ⟨rfl, rfl⟩)
set_option maxHeartbeats 400000 in
theorem digits_1 (w : World) :
    Calls Tryz.prog 47 #[.string ⟨#[49]⟩] w fun e' w' => e' = .returned (.int .i64 1) ∧ w = w' := by
  go_enter Tryz.func47, Tryz.ntmps47
  go_wp2
  go_ret
  exact ⟨rfl, rfl⟩
set_option maxHeartbeats 400000 in
theorem Int_1 (p : Addr) (w : World) (g : EofAt p w) :
    Calls Tryz.prog 34 #[.string ⟨#[49]⟩] w fun e' w' =>
      e' = .returned (.tuple #[.pointer (some ⟨w.heap.size, 0, none⟩), .int .i64 0]) ∧ w'.heap.size = w.heap.size + 3 ∧ Below w.heap.size w w' ∧ IntAt w.heap.size (w.heap.size + 2) 1 w' := by
  go_enter Tryz.func34, Tryz.ntmps34
  go_wp2_with (fail)
  refine (formed_1 _).mono ?_
  rintro e w' ⟨rfl, rfl⟩
  go_wp2_with (fail)
  refine (digits_1 _).mono ?_
  rintro e w' ⟨rfl, rfl⟩
  go_wp2_with (fail)
  refine (number_1 p _ g).mono ?_
  rintro e w1 ⟨rfl, z1, b1, n1⟩
  go_wp2
  go_ret2
  exact ⟨rfl, z1, b1, n1⟩
set_option maxHeartbeats 400000 in
theorem formed_2 (w : World) :
    Calls Tryz.prog 46 #[.string ⟨#[50]⟩] w fun e' w' => e' = .returned (.bool true) ∧ w = w' := by
  go_enter Tryz.func46, Tryz.ntmps46
  go_wp2
  go_rounds 2
  all_goals (go_ret; exact ⟨rfl, rfl⟩)
set_option maxHeartbeats 400000 in
theorem digits_2 (w : World) :
    Calls Tryz.prog 47 #[.string ⟨#[50]⟩] w fun e' w' => e' = .returned (.int .i64 1) ∧ w = w' := by
  go_enter Tryz.func47, Tryz.ntmps47
  go_wp2
  go_ret
  exact ⟨rfl, rfl⟩
set_option maxHeartbeats 400000 in
theorem Int_2 (p : Addr) (w : World) (g : EofAt p w) :
    Calls Tryz.prog 34 #[.string ⟨#[50]⟩] w fun e' w' =>
      e' = .returned (.tuple #[.pointer (some ⟨w.heap.size, 0, none⟩), .int .i64 0]) ∧ w'.heap.size = w.heap.size + 3 ∧ Below w.heap.size w w' ∧ IntAt w.heap.size (w.heap.size + 2) 2 w' := by
  go_enter Tryz.func34, Tryz.ntmps34
  go_wp2_with (fail)
  refine (formed_2 _).mono ?_
  rintro e w' ⟨rfl, rfl⟩
  go_wp2_with (fail)
  refine (digits_2 _).mono ?_
  rintro e w' ⟨rfl, rfl⟩
  go_wp2_with (fail)
  refine (number_2 p _ g).mono ?_
  rintro e w1 ⟨rfl, z1, b1, n1⟩
  go_wp2
  go_ret2
  exact ⟨rfl, z1, b1, n1⟩
set_option maxHeartbeats 400000 in
theorem formed_3 (w : World) :
    Calls Tryz.prog 46 #[.string ⟨#[51]⟩] w fun e' w' => e' = .returned (.bool true) ∧ w = w' := by
  go_enter Tryz.func46, Tryz.ntmps46
  go_wp2
  go_rounds 2
  all_goals (go_ret; exact ⟨rfl, rfl⟩)
set_option maxHeartbeats 400000 in
theorem digits_3 (w : World) :
    Calls Tryz.prog 47 #[.string ⟨#[51]⟩] w fun e' w' => e' = .returned (.int .i64 1) ∧ w = w' := by
  go_enter Tryz.func47, Tryz.ntmps47
  go_wp2
  go_ret
  exact ⟨rfl, rfl⟩
set_option maxHeartbeats 400000 in
theorem Int_3 (p : Addr) (w : World) (g : EofAt p w) :
    Calls Tryz.prog 34 #[.string ⟨#[51]⟩] w fun e' w' =>
      e' = .returned (.tuple #[.pointer (some ⟨w.heap.size, 0, none⟩), .int .i64 0]) ∧ w'.heap.size = w.heap.size + 3 ∧ Below w.heap.size w w' ∧ IntAt w.heap.size (w.heap.size + 2) 3 w' := by
  go_enter Tryz.func34, Tryz.ntmps34
  go_wp2_with (fail)
  refine (formed_3 _).mono ?_
  rintro e w' ⟨rfl, rfl⟩
  go_wp2_with (fail)
  refine (digits_3 _).mono ?_
  rintro e w' ⟨rfl, rfl⟩
  go_wp2_with (fail)
  refine (number_3 p _ g).mono ?_
  rintro e w1 ⟨rfl, z1, b1, n1⟩
  go_wp2
  go_ret2
  exact ⟨rfl, z1, b1, n1⟩

set_option maxHeartbeats 400000 in
theorem Worst_00 (k : Nat) (w : World) (h0 : w.cell? ⟨k, 0, none⟩ = some (.int .i64 0)) (h1 : w.cell? ⟨k, 1, none⟩ = some (.int .i64 0)) :
    Calls Tryz.prog 35 #[.slice (some ⟨k, 0, none⟩) 2 2] w fun e' w' => e' = .returned (.int .i64 0) ∧ w = w' := by
  go_enter Tryz.func35, Tryz.ntmps35
  go_wp2
  go_rounds 3
  go_ret
  exact ⟨rfl, rfl⟩

theorem mk_ptrs3 (w : World) : (Instr.makeSlice 57 (.int .i64 0) (.int .i64 3)).run Tryz.prog w = .ok (.slice (some ⟨w.heap.size, 0, none⟩) 0 3) (w.alloc (.cells #[.pointer none, .pointer none, .pointer none] 65)) := by kernel_rfl

set_option maxRecDepth 100000 in
set_option maxHeartbeats 1000000 in
theorem Poly_123 (k : Nat) (p : Addr) (w : World) (g : EofAt p w) (h0 : w.cell? ⟨k, 0, none⟩ = some (.string ⟨#[49]⟩)) (h1 : w.cell? ⟨k, 1, none⟩ = some (.string ⟨#[50]⟩)) (h2 : w.cell? ⟨k, 2, none⟩ = some (.string ⟨#[51]⟩)) :
    Calls Tryz.prog 23 #[.slice (some ⟨k, 0, none⟩) 3 3] w fun e' w' => ∃ v, e' = .returned (.tuple #[v, .int .i64 0]) ∧ Below w.heap.size w w' := by
  have hmk := mk_ptrs3
  have hk : k < w.heap.size := lt_of_cell h0
  have hg : 2 < w.heap.size := lt_of_cell g
  go_enter Tryz.func23, Tryz.ntmps23
  go_wp2_with (fail)
  have q0 := heap_alloc_new w (Obj.cells #[.pointer none, .pointer none, .pointer none] 65) _ rfl
  have b0 : Below w.heap.size w (w.alloc (Obj.cells #[.pointer none, .pointer none, .pointer none] 65)) := (Below.refl w.heap.size w).alloc (Nat.le_refl _) _
  have s0 : (w.alloc (Obj.cells #[.pointer none, .pointer none, .pointer none] 65)).heap.size = w.heap.size + 1 := by simp
  refine wp_loop_rounds 4 ?_
  rw [rounds_succ]
  go_wp2_with (fail)
  refine (Int_1 p _ (b0.cell (p := ⟨2, 0, none⟩) hg |>.trans g)).mono ?_
  rintro e u1 ⟨rfl, z1, b1, n1⟩
  rw [s0] at z1 b1 n1
  have z1' : u1.heap.size = w.heap.size + 4 := z1
  have B1 : Below w.heap.size w u1 := b0.trans (b1.mono (by omega))
  have q1 := (b1.block _ (by omega)).trans q0
  go_wp2_with (fail)
  refine (Worst_00 _ _ (cell_of_block (heap_alloc_new _ _ _ z1.symm) rfl) (cell_of_block (heap_alloc_new _ _ _ z1.symm) rfl)).mono ?_
  rintro e w' ⟨rfl, rfl⟩
  have r1 := (Below.heap_alloc (u1.alloc (Obj.cells #[.int .i64 0, .int .i64 0] 32)) (Obj.cells #[.pointer (some ⟨w.heap.size + 1, 0, none⟩)] 65) w.heap.size (by simp; omega)).trans ((Below.heap_alloc u1 (Obj.cells #[.int .i64 0, .int .i64 0] 32) w.heap.size (by omega)).trans q1)
  go_wp2_with (at_builtin; go_must (refine wpList_append1 _ rfl _ _ 57 rfl 65 Tryz.underlying57 (by kernel_rfl) w.heap.size 0 3 _ rfl r1 ⟨w.heap.size + 5, 0, none⟩ (.pointer (some ⟨w.heap.size + 1, 0, none⟩)) rfl ?c1 rfl (by decide) (by simp) ?_))
  case c1 => exact cell_of_block (heap_alloc_new _ _ _ (by simp [z1'])) rfl
  intro v1 m1 y1 o1
  have y1' : v1.heap.size = w.heap.size + 6 := by omega
  clear y1
  have y1 := y1'
  have C1 : Below w.heap.size w v1 := ((B1.alloc (by go_size) _).alloc (by go_size) _).trans (o1.below (Nat.le_refl _) (by go_size))
  have l1 : v1.cell? ⟨k, 1, none⟩ = some (.string ⟨#[50]⟩) := (C1.cell (p := ⟨k, 1, none⟩) hk).trans h1
  go_wp2_with (fail)
  rw [rounds_succ]
  go_wp2_with (fail)
  refine (Int_2 p _ (C1.cell (p := ⟨2, 0, none⟩) hg |>.trans g)).mono ?_
  rintro e u2 ⟨rfl, z2, b2, n2⟩
  rw [y1] at z2 b2 n2
  have z2' : u2.heap.size = w.heap.size + 9 := z2
  have B2 : Below w.heap.size w u2 := C1.trans (b2.mono (by omega))
  have q2 := (b2.block _ (by omega)).trans m1
  go_wp2_with (fail)
  refine (Worst_00 _ _ (cell_of_block (heap_alloc_new _ _ _ z2.symm) rfl) (cell_of_block (heap_alloc_new _ _ _ z2.symm) rfl)).mono ?_
  rintro e w' ⟨rfl, rfl⟩
  have r2 := (Below.heap_alloc (u2.alloc (Obj.cells #[.int .i64 0, .int .i64 0] 32)) (Obj.cells #[.pointer (some ⟨w.heap.size + 6, 0, none⟩)] 65) w.heap.size (by simp; omega)).trans ((Below.heap_alloc u2 (Obj.cells #[.int .i64 0, .int .i64 0] 32) w.heap.size (by omega)).trans q2)
  go_wp2_with (at_builtin; go_must (refine wpList_append1 _ rfl _ _ 57 rfl 65 Tryz.underlying57 (by kernel_rfl) w.heap.size 1 3 _ rfl r2 ⟨w.heap.size + 10, 0, none⟩ (.pointer (some ⟨w.heap.size + 6, 0, none⟩)) rfl ?c2 rfl (by decide) (by simp) ?_))
  case c2 => exact cell_of_block (heap_alloc_new _ _ _ (by simp [z2'])) rfl
  intro v2 m2 y2 o2
  have y2' : v2.heap.size = w.heap.size + 11 := by omega
  clear y2
  have y2 := y2'
  have C2 : Below w.heap.size w v2 := ((B2.alloc (by go_size) _).alloc (by go_size) _).trans (o2.below (Nat.le_refl _) (by go_size))
  have l2 : v2.cell? ⟨k, 2, none⟩ = some (.string ⟨#[51]⟩) := (C2.cell (p := ⟨k, 2, none⟩) hk).trans h2
  go_wp2_with (fail)
  rw [rounds_succ]
  go_wp2_with (fail)
  refine (Int_3 p _ (C2.cell (p := ⟨2, 0, none⟩) hg |>.trans g)).mono ?_
  rintro e u3 ⟨rfl, z3, b3, n3⟩
  rw [y2] at z3 b3 n3
  have z3' : u3.heap.size = w.heap.size + 14 := z3
  have B3 : Below w.heap.size w u3 := C2.trans (b3.mono (by omega))
  have q3 := (b3.block _ (by omega)).trans m2
  go_wp2_with (fail)
  refine (Worst_00 _ _ (cell_of_block (heap_alloc_new _ _ _ z3.symm) rfl) (cell_of_block (heap_alloc_new _ _ _ z3.symm) rfl)).mono ?_
  rintro e w' ⟨rfl, rfl⟩
  have r3 := (Below.heap_alloc (u3.alloc (Obj.cells #[.int .i64 0, .int .i64 0] 32)) (Obj.cells #[.pointer (some ⟨w.heap.size + 11, 0, none⟩)] 65) w.heap.size (by simp; omega)).trans ((Below.heap_alloc u3 (Obj.cells #[.int .i64 0, .int .i64 0] 32) w.heap.size (by omega)).trans q3)
  go_wp2_with (at_builtin; go_must (refine wpList_append1 _ rfl _ _ 57 rfl 65 Tryz.underlying57 (by kernel_rfl) w.heap.size 2 3 _ rfl r3 ⟨w.heap.size + 15, 0, none⟩ (.pointer (some ⟨w.heap.size + 11, 0, none⟩)) rfl ?c3 rfl (by decide) (by simp) ?_))
  case c3 => exact cell_of_block (heap_alloc_new _ _ _ (by simp [z3'])) rfl
  intro v3 m3 y3 o3
  have y3' : v3.heap.size = w.heap.size + 16 := by omega
  clear y3
  have y3 := y3'
  have C3 : Below w.heap.size w v3 := ((B3.alloc (by go_size) _).alloc (by go_size) _).trans (o3.below (Nat.le_refl _) (by go_size))
  have l3 : v3.cell? ⟨k, 2, none⟩ = some (.string ⟨#[51]⟩) := (C3.cell (p := ⟨k, 2, none⟩) hk).trans h2
  go_wp2_with (fail)
  rw [rounds_succ]
  go_wp2
  go_ret2
  exact ⟨_, rfl, C3⟩

end Go.Proofs.YtiiopcjdbldihaaGreatFmt
