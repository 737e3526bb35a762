/- exact.Whole, Exp, Dyad; dyad.near, Near; horner.near, Floats at "1", "2", "3". Condition: what the walk reads of package-level variables. -/
import Derived.Test.YtiiopcjdbldihaaGreatFmtBesafterNear
import Derived.Test.YtiiopcjdbldihaaGreatFmtBesafterPoly
import Derived.Deep.RegionHeld3
namespace Go.Proofs.YtiiopcjdbldihaaGreatFmtBesafter
open Go.RowKit Go.SurdFp

set_option maxHeartbeats 1000000 in
theorem Exp_1 (w : World) : Calls Tryz.prog 70 #[.int .i64 0] w fun e w' => e = .returned (.int .i64 0) ∧ w = w' := by
  go_enter Tryz.func70, Tryz.ntmps70
  go_wp2
  go_ret
  exact ⟨rfl, rfl⟩
set_option maxHeartbeats 1000000 in
theorem Exp_2 (w : World) : Calls Tryz.prog 70 #[.int .i64 1] w fun e w' => e = .returned (.int .i64 0) ∧ w = w' := by
  go_enter Tryz.func70, Tryz.ntmps70
  go_wp2
  go_ret
  exact ⟨rfl, rfl⟩
set_option maxHeartbeats 1000000 in
theorem Exp_3 (w : World) : Calls Tryz.prog 70 #[.int .i64 0] w fun e w' => e = .returned (.int .i64 0) ∧ w = w' := by
  go_enter Tryz.func70, Tryz.ntmps70
  go_wp2
  go_ret
  exact ⟨rfl, rfl⟩
set_option maxHeartbeats 1000000 in
theorem Whole_any (k : Addr) (w : World) : Calls Tryz.prog 37 #[.pointer (some k)] w fun e w' => e = .returned (.agg #[.pointer (some k), .int .i64 0]) ∧ Below w.heap.size w w' := by
  go_enter Tryz.func37, Tryz.ntmps37
  go_wp2
  have n0 := heap_alloc_new w (.cells #[.pointer (some k), .int .i64 0] 74) _ rfl
  have y0 := cell_of_block (o := 0) n0 rfl
  have y1 := cell_of_block (o := 1) n0 rfl
  refine bodyPost_ret (v := .agg #[.pointer (some k), .int .i64 0]) ?_ rfl ?_
  · simp [results, Tryz.results37, go_sem, y0, y1]
  · exact ⟨rfl, (Below.refl w.heap.size w).alloc (Nat.le_refl _) _⟩

set_option maxRecDepth 100000 in
set_option maxHeartbeats 1000000 in
theorem Dyad_1 (p : Addr) (w : World) (g : EofAt p w) : Calls Tryz.prog 58 #[.agg #[.string ⟨#[49]⟩, .int .i64 0]] w fun e w' =>
    ∃ k q, e = .returned (.tuple #[.agg #[.pointer (some ⟨k, 0, none⟩), .int .i64 0], .int .i64 0]) ∧ IntAt k q 1 w' ∧ Below w.heap.size w w' := by
  obtain ⟨W, hW⟩ : ∃ W, (w.alloc (.cells #[.string ⟨#[49]⟩, .int .i64 0] 72)).alloc (.cells #[.pointer none, .int .i64 0] 74) = W := ⟨_, rfl⟩
  have zW : W.heap.size = w.heap.size + 2 := by rw [← hW]; simp
  have bW : Below w.heap.size w W := by rw [← hW]; exact ((Below.refl w.heap.size w).alloc (Nat.le_refl _) _).alloc (by go_size) _
  have n1 : W.heap[w.heap.size]? = some (.cells #[.string ⟨#[49]⟩, .int .i64 0] 72 (0, 0)) := by
    rw [← hW]; exact ((Below.refl (w.heap.size + 1) (w.alloc (.cells #[.string ⟨#[49]⟩, .int .i64 0] 72))).alloc (by go_size) _).block w.heap.size (by omega) |>.trans (heap_alloc_new w _ _ rfl)
  have n2 : W.heap[w.heap.size + 1]? = some (.cells #[.pointer none, .int .i64 0] 74 (0, 0)) := by
    rw [← hW]; exact heap_alloc_new _ _ _ (by go_size)
  have d0 := cell_of_block (o := 0) n1 rfl
  have d1 := cell_of_block (o := 1) n1 rfl
  go_enter Tryz.func58, Tryz.ntmps58
  go_wp2_with (fail)
  refine (formed_1 _).mono ?_
  rintro e w1 ⟨rfl, rfl⟩
  go_wp2_with (fail)
  refine (Exp_1 _).mono ?_
  rintro e w1 ⟨rfl, rfl⟩
  go_wp2_with (fail)
  refine (digits_1 _).mono ?_
  rintro e w1 ⟨rfl, rfl⟩
  go_wp2_with (fail)
  have gW : EofAt p W.drew := (bW.cell (p := ⟨2, 0, none⟩) (lt_of_cell g)).trans g
  go_region_with (go_at_call 47; go_must (refine (number_1 p W.drew (by exact gW)).mono ?_); go_must (rintro e w1 ⟨rfl, z1, b1, i1⟩); have e0 := (b1.cell (p := ⟨w.heap.size, 0, none⟩) (by show w.heap.size < W.heap.size; omega)).trans d0; have e1 := (b1.cell (p := ⟨w.heap.size, 1, none⟩) (by show w.heap.size < W.heap.size; omega)).trans d1; have m2 := (b1.block (w.heap.size + 1) (by show w.heap.size + 1 < W.heap.size; omega)).trans n2; have r0 := cell_of_block (o := 0) m2 rfl; have r1 := cell_of_block (o := 1) m2 rfl; have t0 := free_of_block (o := 0) m2; have t1 := free_of_block (o := 1) m2)
  all_goals
    have z0 : W.drew.heap.size = w.heap.size + 2 := zW
    rw [z0] at z1 b1 i1
    go_wp2
    have x2 := block_setCell (o := 1) (v := .int .i64 0) (block_setCell (o := 0) (v := .pointer (some ⟨w.heap.size + 2, 0, none⟩)) m2)
    have y0 := cell_of_block (o := 0) x2 rfl
    have y1 := cell_of_block (o := 1) x2 rfl
    refine bodyPost_ret (v := .tuple #[.agg #[.pointer (some ⟨w.heap.size + 2, 0, none⟩), .int .i64 0], .int .i64 0]) ?_ rfl ?_
    · simp [results, Tryz.results58, go_sem, y0, y1]
    · exact ⟨_, _, rfl, ⟨other_setCell (other_setCell i1.1 (by omega)) (by omega), other_setCell (other_setCell i1.2 (by omega)) (by omega)⟩, (((Below.drew bW).trans (b1.mono (by omega))).setCell (by show _ ≤ w.heap.size + 1; omega) _).setCell (by show _ ≤ w.heap.size + 1; omega) _⟩
set_option maxRecDepth 100000 in
set_option maxHeartbeats 1000000 in
theorem Dyad_2 (p : Addr) (w : World) (g : EofAt p w) : Calls Tryz.prog 58 #[.agg #[.string ⟨#[49]⟩, .int .i64 1]] w fun e w' =>
    ∃ k q, e = .returned (.tuple #[.agg #[.pointer (some ⟨k, 0, none⟩), .int .i64 1], .int .i64 0]) ∧ IntAt k q 1 w' ∧ Below w.heap.size w w' := by
  obtain ⟨W, hW⟩ : ∃ W, (w.alloc (.cells #[.string ⟨#[49]⟩, .int .i64 1] 72)).alloc (.cells #[.pointer none, .int .i64 0] 74) = W := ⟨_, rfl⟩
  have zW : W.heap.size = w.heap.size + 2 := by rw [← hW]; simp
  have bW : Below w.heap.size w W := by rw [← hW]; exact ((Below.refl w.heap.size w).alloc (Nat.le_refl _) _).alloc (by go_size) _
  have n1 : W.heap[w.heap.size]? = some (.cells #[.string ⟨#[49]⟩, .int .i64 1] 72 (0, 0)) := by
    rw [← hW]; exact ((Below.refl (w.heap.size + 1) (w.alloc (.cells #[.string ⟨#[49]⟩, .int .i64 1] 72))).alloc (by go_size) _).block w.heap.size (by omega) |>.trans (heap_alloc_new w _ _ rfl)
  have n2 : W.heap[w.heap.size + 1]? = some (.cells #[.pointer none, .int .i64 0] 74 (0, 0)) := by
    rw [← hW]; exact heap_alloc_new _ _ _ (by go_size)
  have d0 := cell_of_block (o := 0) n1 rfl
  have d1 := cell_of_block (o := 1) n1 rfl
  go_enter Tryz.func58, Tryz.ntmps58
  go_wp2_with (fail)
  refine (formed_1 _).mono ?_
  rintro e w1 ⟨rfl, rfl⟩
  go_wp2_with (fail)
  refine (Exp_2 _).mono ?_
  rintro e w1 ⟨rfl, rfl⟩
  go_wp2_with (fail)
  refine (digits_1 _).mono ?_
  rintro e w1 ⟨rfl, rfl⟩
  go_wp2_with (fail)
  have gW : EofAt p W.drew := (bW.cell (p := ⟨2, 0, none⟩) (lt_of_cell g)).trans g
  go_region_with (go_at_call 47; go_must (refine (number_1 p W.drew (by exact gW)).mono ?_); go_must (rintro e w1 ⟨rfl, z1, b1, i1⟩); have e0 := (b1.cell (p := ⟨w.heap.size, 0, none⟩) (by show w.heap.size < W.heap.size; omega)).trans d0; have e1 := (b1.cell (p := ⟨w.heap.size, 1, none⟩) (by show w.heap.size < W.heap.size; omega)).trans d1; have m2 := (b1.block (w.heap.size + 1) (by show w.heap.size + 1 < W.heap.size; omega)).trans n2; have r0 := cell_of_block (o := 0) m2 rfl; have r1 := cell_of_block (o := 1) m2 rfl; have t0 := free_of_block (o := 0) m2; have t1 := free_of_block (o := 1) m2)
  all_goals
    have z0 : W.drew.heap.size = w.heap.size + 2 := zW
    rw [z0] at z1 b1 i1
    go_wp2
    have x2 := block_setCell (o := 1) (v := .int .i64 1) (block_setCell (o := 0) (v := .pointer (some ⟨w.heap.size + 2, 0, none⟩)) m2)
    have y0 := cell_of_block (o := 0) x2 rfl
    have y1 := cell_of_block (o := 1) x2 rfl
    refine bodyPost_ret (v := .tuple #[.agg #[.pointer (some ⟨w.heap.size + 2, 0, none⟩), .int .i64 1], .int .i64 0]) ?_ rfl ?_
    · simp [results, Tryz.results58, go_sem, y0, y1]
    · exact ⟨_, _, rfl, ⟨other_setCell (other_setCell i1.1 (by omega)) (by omega), other_setCell (other_setCell i1.2 (by omega)) (by omega)⟩, (((Below.drew bW).trans (b1.mono (by omega))).setCell (by show _ ≤ w.heap.size + 1; omega) _).setCell (by show _ ≤ w.heap.size + 1; omega) _⟩
set_option maxRecDepth 100000 in
set_option maxHeartbeats 1000000 in
theorem Dyad_3 (p : Addr) (w : World) (g : EofAt p w) : Calls Tryz.prog 58 #[.agg #[.string ⟨#[51]⟩, .int .i64 0]] w fun e w' =>
    ∃ k q, e = .returned (.tuple #[.agg #[.pointer (some ⟨k, 0, none⟩), .int .i64 0], .int .i64 0]) ∧ IntAt k q 3 w' ∧ Below w.heap.size w w' := by
  obtain ⟨W, hW⟩ : ∃ W, (w.alloc (.cells #[.string ⟨#[51]⟩, .int .i64 0] 72)).alloc (.cells #[.pointer none, .int .i64 0] 74) = W := ⟨_, rfl⟩
  have zW : W.heap.size = w.heap.size + 2 := by rw [← hW]; simp
  have bW : Below w.heap.size w W := by rw [← hW]; exact ((Below.refl w.heap.size w).alloc (Nat.le_refl _) _).alloc (by go_size) _
  have n1 : W.heap[w.heap.size]? = some (.cells #[.string ⟨#[51]⟩, .int .i64 0] 72 (0, 0)) := by
    rw [← hW]; exact ((Below.refl (w.heap.size + 1) (w.alloc (.cells #[.string ⟨#[51]⟩, .int .i64 0] 72))).alloc (by go_size) _).block w.heap.size (by omega) |>.trans (heap_alloc_new w _ _ rfl)
  have n2 : W.heap[w.heap.size + 1]? = some (.cells #[.pointer none, .int .i64 0] 74 (0, 0)) := by
    rw [← hW]; exact heap_alloc_new _ _ _ (by go_size)
  have d0 := cell_of_block (o := 0) n1 rfl
  have d1 := cell_of_block (o := 1) n1 rfl
  go_enter Tryz.func58, Tryz.ntmps58
  go_wp2_with (fail)
  refine (formed_3 _).mono ?_
  rintro e w1 ⟨rfl, rfl⟩
  go_wp2_with (fail)
  refine (Exp_3 _).mono ?_
  rintro e w1 ⟨rfl, rfl⟩
  go_wp2_with (fail)
  refine (digits_3 _).mono ?_
  rintro e w1 ⟨rfl, rfl⟩
  go_wp2_with (fail)
  have gW : EofAt p W.drew := (bW.cell (p := ⟨2, 0, none⟩) (lt_of_cell g)).trans g
  go_region_with (go_at_call 47; go_must (refine (number_3 p W.drew (by exact gW)).mono ?_); go_must (rintro e w1 ⟨rfl, z1, b1, i1⟩); have e0 := (b1.cell (p := ⟨w.heap.size, 0, none⟩) (by show w.heap.size < W.heap.size; omega)).trans d0; have e1 := (b1.cell (p := ⟨w.heap.size, 1, none⟩) (by show w.heap.size < W.heap.size; omega)).trans d1; have m2 := (b1.block (w.heap.size + 1) (by show w.heap.size + 1 < W.heap.size; omega)).trans n2; have r0 := cell_of_block (o := 0) m2 rfl; have r1 := cell_of_block (o := 1) m2 rfl; have t0 := free_of_block (o := 0) m2; have t1 := free_of_block (o := 1) m2)
  all_goals
    have z0 : W.drew.heap.size = w.heap.size + 2 := zW
    rw [z0] at z1 b1 i1
    go_wp2
    have x2 := block_setCell (o := 1) (v := .int .i64 0) (block_setCell (o := 0) (v := .pointer (some ⟨w.heap.size + 2, 0, none⟩)) m2)
    have y0 := cell_of_block (o := 0) x2 rfl
    have y1 := cell_of_block (o := 1) x2 rfl
    refine bodyPost_ret (v := .tuple #[.agg #[.pointer (some ⟨w.heap.size + 2, 0, none⟩), .int .i64 0], .int .i64 0]) ?_ rfl ?_
    · simp [results, Tryz.results58, go_sem, y0, y1]
    · exact ⟨_, _, rfl, ⟨other_setCell (other_setCell i1.1 (by omega)) (by omega), other_setCell (other_setCell i1.2 (by omega)) (by omega)⟩, (((Below.drew bW).trans (b1.mono (by omega))).setCell (by show _ ≤ w.heap.size + 1; omega) _).setCell (by show _ ≤ w.heap.size + 1; omega) _⟩
/-- A big.Float of zeros. -/
def F0 : Obj := .cells #[.int .u32 0, .int .u8 0, .int .i8 0, .int .u8 0, .bool false, .slice none 0 0, .int .i32 0] 114 (0, 0)

set_option maxRecDepth 100000 in
set_option maxHeartbeats 4000000 in
theorem dnear_1 (k q : Nat) (w : World) (h : IntAt k q 1 w) : Calls Tryz.prog 59 #[.agg #[.pointer (some ⟨k, 0, none⟩), .int .i64 0]] w fun e w' =>
    e = .returned (.float .f64 4607182418800017408) ∧ Below w.heap.size w w' := by
  have hk : k < w.heap.size := lt_of_cell (cell_of_block (o := 0) h.1 rfl)
  have hq : q < w.heap.size := lt_of_cell (cell_of_block (o := 0) h.2 rfl)
  obtain ⟨W, hW⟩ : ∃ W, w.alloc (.cells #[.pointer (some ⟨k, 0, none⟩), .int .i64 0] 74) = W := ⟨_, rfl⟩
  obtain ⟨V1, hV1⟩ : ∃ V1, W.drew.alloc F0 = V1 := ⟨_, rfl⟩
  obtain ⟨V2, hV2⟩ : ∃ V2, V1.alloc F0 = V2 := ⟨_, rfl⟩
  have zW : W.heap.size = w.heap.size + 1 := by rw [← hW]; simp
  have z1 : V1.heap.size = w.heap.size + 2 := by rw [← hV1]; simp [zW]
  have z2 : V2.heap.size = w.heap.size + 3 := by rw [← hV2]; simp [z1]
  have bW : Below w.heap.size w W := by rw [← hW]; exact (Below.refl w.heap.size w).alloc (Nat.le_refl _) _
  have b1 : Below W.heap.size W V1 := by rw [← hV1]; exact (Below.drew (Below.refl W.heap.size W)).alloc (Nat.le_refl _) _
  have b2 : Below V1.heap.size V1 V2 := by rw [← hV2]; exact (Below.refl V1.heap.size V1).alloc (Nat.le_refl _) _
  have B1 : Below w.heap.size w V1 := bW.trans (b1.mono (by omega))
  have B2 : Below w.heap.size w V2 := B1.trans (b2.mono (by omega))
  have nW : W.heap[w.heap.size]? = some (.cells #[.pointer (some ⟨k, 0, none⟩), .int .i64 0] 74 (0, 0)) := by rw [← hW]; exact heap_alloc_new _ _ _ rfl
  have n11 : V1.heap[w.heap.size + 1]? = some F0 := by rw [← hV1]; exact heap_alloc_new _ _ _ zW.symm
  have n21 : V2.heap[w.heap.size + 1]? = some F0 := (b2.block _ (by omega)).trans n11
  have n22 : V2.heap[w.heap.size + 2]? = some F0 := by rw [← hV2]; exact heap_alloc_new _ _ _ z1.symm
  have i1 : IntAt k q 1 V1 := h.below B1 hk hq
  have i2 : IntAt k q 1 V2 := h.below B2 hk hq
  have m1 := (b1.block w.heap.size (by omega)).trans nW
  have m2 := (b2.block w.heap.size (by omega)).trans m1
  have SW : W.drew.cell? ⟨w.heap.size, 0, none⟩ = some (.pointer (some ⟨k, 0, none⟩)) ∧ W.drew.cell? ⟨w.heap.size, 1, none⟩ = some (.int .i64 0) := ⟨cell_of_block (w := W.drew) (o := 0) nW rfl, cell_of_block (w := W.drew) (o := 1) nW rfl⟩
  have S1 : V1.cell? ⟨w.heap.size, 0, none⟩ = some (.pointer (some ⟨k, 0, none⟩)) ∧ V1.cell? ⟨w.heap.size, 1, none⟩ = some (.int .i64 0) := ⟨cell_of_block (o := 0) m1 rfl, cell_of_block (o := 1) m1 rfl⟩
  have S2 : V2.cell? ⟨w.heap.size, 0, none⟩ = some (.pointer (some ⟨k, 0, none⟩)) ∧ V2.cell? ⟨w.heap.size, 1, none⟩ = some (.int .i64 0) := ⟨cell_of_block (o := 0) m2 rfl, cell_of_block (o := 1) m2 rfl⟩
  clear m1 m2
  unfold F0 at hV1 hV2 n11 n21 n22
  have kn1 : k ≠ w.heap.size + 1 := by omega
  have kn2 : k ≠ w.heap.size + 2 := by omega
  have qn1 : q ≠ w.heap.size + 1 := by omega
  have qn2 : q ≠ w.heap.size + 2 := by omega
  have l21 : w.heap.size < V1.heap.size := by omega
  have l22 : w.heap.size < V2.heap.size := by omega
  have l23 : w.heap.size + 1 < V2.heap.size := by omega
  have l24 : w.heap.size + 2 < V2.heap.size := by omega
  have le1 : w.heap.size ≤ V1.heap.size := by omega
  have le2 : w.heap.size ≤ V2.heap.size := by omega
  have lz1 : w.heap.size ≤ w.heap.size + 1 := by omega
  have lz2 : w.heap.size ≤ w.heap.size + 2 := by omega
  have lz3 : w.heap.size ≤ w.heap.size + 3 := by omega
  have e1 : w.heap.size ≠ w.heap.size + 1 := by omega
  have e2 : w.heap.size ≠ w.heap.size + 2 := by omega
  have e3 : w.heap.size ≠ w.heap.size + 3 := by omega
  have e12 : w.heap.size + 1 ≠ w.heap.size + 2 := by omega
  have e13 : w.heap.size + 1 ≠ w.heap.size + 3 := by omega
  have e23 : w.heap.size + 2 ≠ w.heap.size + 3 := by omega
  go_enter Tryz.func59, Tryz.ntmps59
  go_wp2_with (fail)
  clear hW
  go_region_held3 (fun w' => w'.cell? ⟨w.heap.size, 0, none⟩ = some (.pointer (some ⟨k, 0, none⟩)) ∧ w'.cell? ⟨w.heap.size, 1, none⟩ = some (.int .i64 0))
    (with_reducible assumption)
    (first
    | (go_at_call 72; first
        | (with_reducible refine (SetInt_1 (w.heap.size + 2) k q V2 n22 i2 kn2 qn2).mono ?_
           rintro e w1 ⟨rfl, s1, G1, o1⟩
           have A : w1.cell? ⟨w.heap.size, 0, none⟩ = some (.pointer (some ⟨k, 0, none⟩)) ∧ w1.cell? ⟨w.heap.size, 1, none⟩ = some (.int .i64 0) := ⟨(o1.cell (k := w.heap.size) (o := 0) (by omega) (by omega)).trans S2.1, (o1.cell (k := w.heap.size) (o := 1) (by omega) (by omega)).trans S2.2⟩
           have a2 := (o1.block (w.heap.size + 1) (by omega) (by omega)).trans n21
           have BB : Below w.heap.size w w1 := B2.trans (o1.below (by omega) (by omega))
           rw [z2] at s1 G1)
        | (with_reducible refine (SetInt_1 (w.heap.size + 1) k q V2 n21 i2 kn1 qn1).mono ?_
           rintro e w1 ⟨rfl, s1, G1, o1⟩
           have A : w1.cell? ⟨w.heap.size, 0, none⟩ = some (.pointer (some ⟨k, 0, none⟩)) ∧ w1.cell? ⟨w.heap.size, 1, none⟩ = some (.int .i64 0) := ⟨(o1.cell (k := w.heap.size) (o := 0) (by omega) (by omega)).trans S2.1, (o1.cell (k := w.heap.size) (o := 1) (by omega) (by omega)).trans S2.2⟩
           have a2 := (o1.block (w.heap.size + 2) (by omega) (by omega)).trans n22
           have BB : Below w.heap.size w w1 := B2.trans (o1.below (by omega) (by omega))
           rw [z2] at s1 G1)
        | (with_reducible refine (SetInt_1 (w.heap.size + 1) k q V1 n11 i1 kn1 qn1).mono ?_
           rintro e w1 ⟨rfl, s1, G1, o1⟩
           have A : w1.cell? ⟨w.heap.size, 0, none⟩ = some (.pointer (some ⟨k, 0, none⟩)) ∧ w1.cell? ⟨w.heap.size, 1, none⟩ = some (.int .i64 0) := ⟨(o1.cell (k := w.heap.size) (o := 0) (by omega) (by omega)).trans S1.1, (o1.cell (k := w.heap.size) (o := 1) (by omega) (by omega)).trans S1.2⟩
           have BB : Below w.heap.size w w1 := B1.trans (o1.below (by omega) (by omega))
           rw [z1] at s1 G1
           obtain ⟨w2, hw2⟩ : ∃ w2, w1.alloc F0 = w2 := ⟨_, rfl⟩
           have s2 : w2.heap.size = w.heap.size + 4 := by rw [← hw2]; simp [s1]
           have t2 : Below w1.heap.size w1 w2 := by rw [← hw2]; exact (Below.refl w1.heap.size w1).alloc (Nat.le_refl _) _
           have A' : w2.cell? ⟨w.heap.size, 0, none⟩ = some (.pointer (some ⟨k, 0, none⟩)) ∧ w2.cell? ⟨w.heap.size, 1, none⟩ = some (.int .i64 0) := ⟨(t2.cell (p := ⟨w.heap.size, 0, none⟩) (by show w.heap.size < _; omega)).trans A.1, (t2.cell (p := ⟨w.heap.size, 1, none⟩) (by show w.heap.size < _; omega)).trans A.2⟩
           have a2 : w2.heap[w.heap.size + 3]? = some F0 := by rw [← hw2]; exact heap_alloc_new _ _ _ s1.symm
           have G2 : FAt (w.heap.size + 1) (w.heap.size + 2) 9223372036854775808 1 w2 := ⟨(t2.block _ (by omega)).trans G1.1, (t2.block _ (by omega)).trans G1.2⟩
           have BB2 : Below w.heap.size w w2 := BB.trans (t2.mono (by omega))
           unfold F0 at hw2 a2))
    | (go_at_call 71; first
        | (with_reducible refine (SetMantExp_1 (w.heap.size + 1) (w.heap.size + 2) (w.heap.size + 3) w1 a2 G1 e12.symm e13.symm).mono ?_
           rintro e w3 ⟨rfl, s3, G3, o3⟩
           have D3 : Below w.heap.size w w3 := BB.trans (o3.below (by omega) (by omega))
           have X : w3.cell? ⟨w.heap.size, 0, none⟩ = some (.pointer (some ⟨k, 0, none⟩)) ∧ w3.cell? ⟨w.heap.size, 1, none⟩ = some (.int .i64 0) := ⟨(o3.cell (k := w.heap.size) (o := 0) (by omega) (by omega)).trans A.1, (o3.cell (k := w.heap.size) (o := 1) (by omega) (by omega)).trans A.2⟩
           rw [s1] at G3 s3)
        | (with_reducible refine (SetMantExp_1 (w.heap.size + 2) (w.heap.size + 1) (w.heap.size + 3) w1 a2 G1 e12 e23.symm).mono ?_
           rintro e w3 ⟨rfl, s3, G3, o3⟩
           have D3 : Below w.heap.size w w3 := BB.trans (o3.below (by omega) (by omega))
           have X : w3.cell? ⟨w.heap.size, 0, none⟩ = some (.pointer (some ⟨k, 0, none⟩)) ∧ w3.cell? ⟨w.heap.size, 1, none⟩ = some (.int .i64 0) := ⟨(o3.cell (k := w.heap.size) (o := 0) (by omega) (by omega)).trans A.1, (o3.cell (k := w.heap.size) (o := 1) (by omega) (by omega)).trans A.2⟩
           rw [s1] at G3 s3)
        | (with_reducible refine (SetMantExp_1 (w.heap.size + 3) (w.heap.size + 1) (w.heap.size + 2) w2 a2 G2 e13 e23).mono ?_
           rintro e w3 ⟨rfl, s3, G3, o3⟩
           have D3 : Below w.heap.size w w3 := BB2.trans (o3.below (by omega) (by omega))
           have X : w3.cell? ⟨w.heap.size, 0, none⟩ = some (.pointer (some ⟨k, 0, none⟩)) ∧ w3.cell? ⟨w.heap.size, 1, none⟩ = some (.int .i64 0) := ⟨(o3.cell (k := w.heap.size) (o := 0) (by omega) (by omega)).trans A'.1, (o3.cell (k := w.heap.size) (o := 1) (by omega) (by omega)).trans A'.2⟩
           rw [s2] at G3 s3))
    | (go_at_call 73; first
        | (with_reducible refine (Float64_1 (w.heap.size + 1) (w.heap.size + 4) w3 G3).mono ?_
           rintro e w4 ⟨rfl, b4⟩
           have Y : w4.cell? ⟨w.heap.size, 0, none⟩ = some (.pointer (some ⟨k, 0, none⟩)) ∧ w4.cell? ⟨w.heap.size, 1, none⟩ = some (.int .i64 0) := ⟨(b4.cell (p := ⟨w.heap.size, 0, none⟩) (by show w.heap.size < _; omega)).trans X.1, (b4.cell (p := ⟨w.heap.size, 1, none⟩) (by show w.heap.size < _; omega)).trans X.2⟩)
        | (with_reducible refine (Float64_1 (w.heap.size + 2) (w.heap.size + 4) w3 G3).mono ?_
           rintro e w4 ⟨rfl, b4⟩
           have Y : w4.cell? ⟨w.heap.size, 0, none⟩ = some (.pointer (some ⟨k, 0, none⟩)) ∧ w4.cell? ⟨w.heap.size, 1, none⟩ = some (.int .i64 0) := ⟨(b4.cell (p := ⟨w.heap.size, 0, none⟩) (by show w.heap.size < _; omega)).trans X.1, (b4.cell (p := ⟨w.heap.size, 1, none⟩) (by show w.heap.size < _; omega)).trans X.2⟩)
        | (with_reducible refine (Float64_1 (w.heap.size + 3) (w.heap.size + 4) w3 G3).mono ?_
           rintro e w4 ⟨rfl, b4⟩
           have Y : w4.cell? ⟨w.heap.size, 0, none⟩ = some (.pointer (some ⟨k, 0, none⟩)) ∧ w4.cell? ⟨w.heap.size, 1, none⟩ = some (.int .i64 0) := ⟨(b4.cell (p := ⟨w.heap.size, 0, none⟩) (by show w.heap.size < _; omega)).trans X.1, (b4.cell (p := ⟨w.heap.size, 1, none⟩) (by show w.heap.size < _; omega)).trans X.2⟩)))
  all_goals
    go_wp2
    go_ret
    exact ⟨rfl, D3.trans (b4.mono D3.size)⟩
set_option maxRecDepth 100000 in
set_option maxHeartbeats 4000000 in
theorem dnear_2 (k q : Nat) (w : World) (h : IntAt k q 1 w) : Calls Tryz.prog 59 #[.agg #[.pointer (some ⟨k, 0, none⟩), .int .i64 1]] w fun e w' =>
    e = .returned (.float .f64 4611686018427387904) ∧ Below w.heap.size w w' := by
  have hk : k < w.heap.size := lt_of_cell (cell_of_block (o := 0) h.1 rfl)
  have hq : q < w.heap.size := lt_of_cell (cell_of_block (o := 0) h.2 rfl)
  obtain ⟨W, hW⟩ : ∃ W, w.alloc (.cells #[.pointer (some ⟨k, 0, none⟩), .int .i64 1] 74) = W := ⟨_, rfl⟩
  obtain ⟨V1, hV1⟩ : ∃ V1, W.drew.alloc F0 = V1 := ⟨_, rfl⟩
  obtain ⟨V2, hV2⟩ : ∃ V2, V1.alloc F0 = V2 := ⟨_, rfl⟩
  have zW : W.heap.size = w.heap.size + 1 := by rw [← hW]; simp
  have z1 : V1.heap.size = w.heap.size + 2 := by rw [← hV1]; simp [zW]
  have z2 : V2.heap.size = w.heap.size + 3 := by rw [← hV2]; simp [z1]
  have bW : Below w.heap.size w W := by rw [← hW]; exact (Below.refl w.heap.size w).alloc (Nat.le_refl _) _
  have b1 : Below W.heap.size W V1 := by rw [← hV1]; exact (Below.drew (Below.refl W.heap.size W)).alloc (Nat.le_refl _) _
  have b2 : Below V1.heap.size V1 V2 := by rw [← hV2]; exact (Below.refl V1.heap.size V1).alloc (Nat.le_refl _) _
  have B1 : Below w.heap.size w V1 := bW.trans (b1.mono (by omega))
  have B2 : Below w.heap.size w V2 := B1.trans (b2.mono (by omega))
  have nW : W.heap[w.heap.size]? = some (.cells #[.pointer (some ⟨k, 0, none⟩), .int .i64 1] 74 (0, 0)) := by rw [← hW]; exact heap_alloc_new _ _ _ rfl
  have n11 : V1.heap[w.heap.size + 1]? = some F0 := by rw [← hV1]; exact heap_alloc_new _ _ _ zW.symm
  have n21 : V2.heap[w.heap.size + 1]? = some F0 := (b2.block _ (by omega)).trans n11
  have n22 : V2.heap[w.heap.size + 2]? = some F0 := by rw [← hV2]; exact heap_alloc_new _ _ _ z1.symm
  have i1 : IntAt k q 1 V1 := h.below B1 hk hq
  have i2 : IntAt k q 1 V2 := h.below B2 hk hq
  have m1 := (b1.block w.heap.size (by omega)).trans nW
  have m2 := (b2.block w.heap.size (by omega)).trans m1
  have SW : W.drew.cell? ⟨w.heap.size, 0, none⟩ = some (.pointer (some ⟨k, 0, none⟩)) ∧ W.drew.cell? ⟨w.heap.size, 1, none⟩ = some (.int .i64 1) := ⟨cell_of_block (w := W.drew) (o := 0) nW rfl, cell_of_block (w := W.drew) (o := 1) nW rfl⟩
  have S1 : V1.cell? ⟨w.heap.size, 0, none⟩ = some (.pointer (some ⟨k, 0, none⟩)) ∧ V1.cell? ⟨w.heap.size, 1, none⟩ = some (.int .i64 1) := ⟨cell_of_block (o := 0) m1 rfl, cell_of_block (o := 1) m1 rfl⟩
  have S2 : V2.cell? ⟨w.heap.size, 0, none⟩ = some (.pointer (some ⟨k, 0, none⟩)) ∧ V2.cell? ⟨w.heap.size, 1, none⟩ = some (.int .i64 1) := ⟨cell_of_block (o := 0) m2 rfl, cell_of_block (o := 1) m2 rfl⟩
  clear m1 m2
  unfold F0 at hV1 hV2 n11 n21 n22
  have kn1 : k ≠ w.heap.size + 1 := by omega
  have kn2 : k ≠ w.heap.size + 2 := by omega
  have qn1 : q ≠ w.heap.size + 1 := by omega
  have qn2 : q ≠ w.heap.size + 2 := by omega
  have l21 : w.heap.size < V1.heap.size := by omega
  have l22 : w.heap.size < V2.heap.size := by omega
  have l23 : w.heap.size + 1 < V2.heap.size := by omega
  have l24 : w.heap.size + 2 < V2.heap.size := by omega
  have le1 : w.heap.size ≤ V1.heap.size := by omega
  have le2 : w.heap.size ≤ V2.heap.size := by omega
  have lz1 : w.heap.size ≤ w.heap.size + 1 := by omega
  have lz2 : w.heap.size ≤ w.heap.size + 2 := by omega
  have lz3 : w.heap.size ≤ w.heap.size + 3 := by omega
  have e1 : w.heap.size ≠ w.heap.size + 1 := by omega
  have e2 : w.heap.size ≠ w.heap.size + 2 := by omega
  have e3 : w.heap.size ≠ w.heap.size + 3 := by omega
  have e12 : w.heap.size + 1 ≠ w.heap.size + 2 := by omega
  have e13 : w.heap.size + 1 ≠ w.heap.size + 3 := by omega
  have e23 : w.heap.size + 2 ≠ w.heap.size + 3 := by omega
  go_enter Tryz.func59, Tryz.ntmps59
  go_wp2_with (fail)
  clear hW
  go_region_held3 (fun w' => w'.cell? ⟨w.heap.size, 0, none⟩ = some (.pointer (some ⟨k, 0, none⟩)) ∧ w'.cell? ⟨w.heap.size, 1, none⟩ = some (.int .i64 1))
    (with_reducible assumption)
    (first
    | (go_at_call 72; first
        | (with_reducible refine (SetInt_1 (w.heap.size + 2) k q V2 n22 i2 kn2 qn2).mono ?_
           rintro e w1 ⟨rfl, s1, G1, o1⟩
           have A : w1.cell? ⟨w.heap.size, 0, none⟩ = some (.pointer (some ⟨k, 0, none⟩)) ∧ w1.cell? ⟨w.heap.size, 1, none⟩ = some (.int .i64 1) := ⟨(o1.cell (k := w.heap.size) (o := 0) (by omega) (by omega)).trans S2.1, (o1.cell (k := w.heap.size) (o := 1) (by omega) (by omega)).trans S2.2⟩
           have a2 := (o1.block (w.heap.size + 1) (by omega) (by omega)).trans n21
           have BB : Below w.heap.size w w1 := B2.trans (o1.below (by omega) (by omega))
           rw [z2] at s1 G1)
        | (with_reducible refine (SetInt_1 (w.heap.size + 1) k q V2 n21 i2 kn1 qn1).mono ?_
           rintro e w1 ⟨rfl, s1, G1, o1⟩
           have A : w1.cell? ⟨w.heap.size, 0, none⟩ = some (.pointer (some ⟨k, 0, none⟩)) ∧ w1.cell? ⟨w.heap.size, 1, none⟩ = some (.int .i64 1) := ⟨(o1.cell (k := w.heap.size) (o := 0) (by omega) (by omega)).trans S2.1, (o1.cell (k := w.heap.size) (o := 1) (by omega) (by omega)).trans S2.2⟩
           have a2 := (o1.block (w.heap.size + 2) (by omega) (by omega)).trans n22
           have BB : Below w.heap.size w w1 := B2.trans (o1.below (by omega) (by omega))
           rw [z2] at s1 G1)
        | (with_reducible refine (SetInt_1 (w.heap.size + 1) k q V1 n11 i1 kn1 qn1).mono ?_
           rintro e w1 ⟨rfl, s1, G1, o1⟩
           have A : w1.cell? ⟨w.heap.size, 0, none⟩ = some (.pointer (some ⟨k, 0, none⟩)) ∧ w1.cell? ⟨w.heap.size, 1, none⟩ = some (.int .i64 1) := ⟨(o1.cell (k := w.heap.size) (o := 0) (by omega) (by omega)).trans S1.1, (o1.cell (k := w.heap.size) (o := 1) (by omega) (by omega)).trans S1.2⟩
           have BB : Below w.heap.size w w1 := B1.trans (o1.below (by omega) (by omega))
           rw [z1] at s1 G1
           obtain ⟨w2, hw2⟩ : ∃ w2, w1.alloc F0 = w2 := ⟨_, rfl⟩
           have s2 : w2.heap.size = w.heap.size + 4 := by rw [← hw2]; simp [s1]
           have t2 : Below w1.heap.size w1 w2 := by rw [← hw2]; exact (Below.refl w1.heap.size w1).alloc (Nat.le_refl _) _
           have A' : w2.cell? ⟨w.heap.size, 0, none⟩ = some (.pointer (some ⟨k, 0, none⟩)) ∧ w2.cell? ⟨w.heap.size, 1, none⟩ = some (.int .i64 1) := ⟨(t2.cell (p := ⟨w.heap.size, 0, none⟩) (by show w.heap.size < _; omega)).trans A.1, (t2.cell (p := ⟨w.heap.size, 1, none⟩) (by show w.heap.size < _; omega)).trans A.2⟩
           have a2 : w2.heap[w.heap.size + 3]? = some F0 := by rw [← hw2]; exact heap_alloc_new _ _ _ s1.symm
           have G2 : FAt (w.heap.size + 1) (w.heap.size + 2) 9223372036854775808 1 w2 := ⟨(t2.block _ (by omega)).trans G1.1, (t2.block _ (by omega)).trans G1.2⟩
           have BB2 : Below w.heap.size w w2 := BB.trans (t2.mono (by omega))
           unfold F0 at hw2 a2))
    | (go_at_call 71; first
        | (with_reducible refine (SetMantExp_2 (w.heap.size + 1) (w.heap.size + 2) (w.heap.size + 3) w1 a2 G1 e12.symm e13.symm).mono ?_
           rintro e w3 ⟨rfl, s3, G3, o3⟩
           have D3 : Below w.heap.size w w3 := BB.trans (o3.below (by omega) (by omega))
           have X : w3.cell? ⟨w.heap.size, 0, none⟩ = some (.pointer (some ⟨k, 0, none⟩)) ∧ w3.cell? ⟨w.heap.size, 1, none⟩ = some (.int .i64 1) := ⟨(o3.cell (k := w.heap.size) (o := 0) (by omega) (by omega)).trans A.1, (o3.cell (k := w.heap.size) (o := 1) (by omega) (by omega)).trans A.2⟩
           rw [s1] at G3 s3)
        | (with_reducible refine (SetMantExp_2 (w.heap.size + 2) (w.heap.size + 1) (w.heap.size + 3) w1 a2 G1 e12 e23.symm).mono ?_
           rintro e w3 ⟨rfl, s3, G3, o3⟩
           have D3 : Below w.heap.size w w3 := BB.trans (o3.below (by omega) (by omega))
           have X : w3.cell? ⟨w.heap.size, 0, none⟩ = some (.pointer (some ⟨k, 0, none⟩)) ∧ w3.cell? ⟨w.heap.size, 1, none⟩ = some (.int .i64 1) := ⟨(o3.cell (k := w.heap.size) (o := 0) (by omega) (by omega)).trans A.1, (o3.cell (k := w.heap.size) (o := 1) (by omega) (by omega)).trans A.2⟩
           rw [s1] at G3 s3)
        | (with_reducible refine (SetMantExp_2 (w.heap.size + 3) (w.heap.size + 1) (w.heap.size + 2) w2 a2 G2 e13 e23).mono ?_
           rintro e w3 ⟨rfl, s3, G3, o3⟩
           have D3 : Below w.heap.size w w3 := BB2.trans (o3.below (by omega) (by omega))
           have X : w3.cell? ⟨w.heap.size, 0, none⟩ = some (.pointer (some ⟨k, 0, none⟩)) ∧ w3.cell? ⟨w.heap.size, 1, none⟩ = some (.int .i64 1) := ⟨(o3.cell (k := w.heap.size) (o := 0) (by omega) (by omega)).trans A'.1, (o3.cell (k := w.heap.size) (o := 1) (by omega) (by omega)).trans A'.2⟩
           rw [s2] at G3 s3))
    | (go_at_call 73; first
        | (with_reducible refine (Float64_2 (w.heap.size + 1) (w.heap.size + 4) w3 G3).mono ?_
           rintro e w4 ⟨rfl, b4⟩
           have Y : w4.cell? ⟨w.heap.size, 0, none⟩ = some (.pointer (some ⟨k, 0, none⟩)) ∧ w4.cell? ⟨w.heap.size, 1, none⟩ = some (.int .i64 1) := ⟨(b4.cell (p := ⟨w.heap.size, 0, none⟩) (by show w.heap.size < _; omega)).trans X.1, (b4.cell (p := ⟨w.heap.size, 1, none⟩) (by show w.heap.size < _; omega)).trans X.2⟩)
        | (with_reducible refine (Float64_2 (w.heap.size + 2) (w.heap.size + 4) w3 G3).mono ?_
           rintro e w4 ⟨rfl, b4⟩
           have Y : w4.cell? ⟨w.heap.size, 0, none⟩ = some (.pointer (some ⟨k, 0, none⟩)) ∧ w4.cell? ⟨w.heap.size, 1, none⟩ = some (.int .i64 1) := ⟨(b4.cell (p := ⟨w.heap.size, 0, none⟩) (by show w.heap.size < _; omega)).trans X.1, (b4.cell (p := ⟨w.heap.size, 1, none⟩) (by show w.heap.size < _; omega)).trans X.2⟩)
        | (with_reducible refine (Float64_2 (w.heap.size + 3) (w.heap.size + 4) w3 G3).mono ?_
           rintro e w4 ⟨rfl, b4⟩
           have Y : w4.cell? ⟨w.heap.size, 0, none⟩ = some (.pointer (some ⟨k, 0, none⟩)) ∧ w4.cell? ⟨w.heap.size, 1, none⟩ = some (.int .i64 1) := ⟨(b4.cell (p := ⟨w.heap.size, 0, none⟩) (by show w.heap.size < _; omega)).trans X.1, (b4.cell (p := ⟨w.heap.size, 1, none⟩) (by show w.heap.size < _; omega)).trans X.2⟩)))
  all_goals
    go_wp2
    go_ret
    exact ⟨rfl, D3.trans (b4.mono D3.size)⟩
set_option maxRecDepth 100000 in
set_option maxHeartbeats 4000000 in
theorem dnear_3 (k q : Nat) (w : World) (h : IntAt k q 3 w) : Calls Tryz.prog 59 #[.agg #[.pointer (some ⟨k, 0, none⟩), .int .i64 0]] w fun e w' =>
    e = .returned (.float .f64 4613937818241073152) ∧ Below w.heap.size w w' := by
  have hk : k < w.heap.size := lt_of_cell (cell_of_block (o := 0) h.1 rfl)
  have hq : q < w.heap.size := lt_of_cell (cell_of_block (o := 0) h.2 rfl)
  obtain ⟨W, hW⟩ : ∃ W, w.alloc (.cells #[.pointer (some ⟨k, 0, none⟩), .int .i64 0] 74) = W := ⟨_, rfl⟩
  obtain ⟨V1, hV1⟩ : ∃ V1, W.drew.alloc F0 = V1 := ⟨_, rfl⟩
  obtain ⟨V2, hV2⟩ : ∃ V2, V1.alloc F0 = V2 := ⟨_, rfl⟩
  have zW : W.heap.size = w.heap.size + 1 := by rw [← hW]; simp
  have z1 : V1.heap.size = w.heap.size + 2 := by rw [← hV1]; simp [zW]
  have z2 : V2.heap.size = w.heap.size + 3 := by rw [← hV2]; simp [z1]
  have bW : Below w.heap.size w W := by rw [← hW]; exact (Below.refl w.heap.size w).alloc (Nat.le_refl _) _
  have b1 : Below W.heap.size W V1 := by rw [← hV1]; exact (Below.drew (Below.refl W.heap.size W)).alloc (Nat.le_refl _) _
  have b2 : Below V1.heap.size V1 V2 := by rw [← hV2]; exact (Below.refl V1.heap.size V1).alloc (Nat.le_refl _) _
  have B1 : Below w.heap.size w V1 := bW.trans (b1.mono (by omega))
  have B2 : Below w.heap.size w V2 := B1.trans (b2.mono (by omega))
  have nW : W.heap[w.heap.size]? = some (.cells #[.pointer (some ⟨k, 0, none⟩), .int .i64 0] 74 (0, 0)) := by rw [← hW]; exact heap_alloc_new _ _ _ rfl
  have n11 : V1.heap[w.heap.size + 1]? = some F0 := by rw [← hV1]; exact heap_alloc_new _ _ _ zW.symm
  have n21 : V2.heap[w.heap.size + 1]? = some F0 := (b2.block _ (by omega)).trans n11
  have n22 : V2.heap[w.heap.size + 2]? = some F0 := by rw [← hV2]; exact heap_alloc_new _ _ _ z1.symm
  have i1 : IntAt k q 3 V1 := h.below B1 hk hq
  have i2 : IntAt k q 3 V2 := h.below B2 hk hq
  have m1 := (b1.block w.heap.size (by omega)).trans nW
  have m2 := (b2.block w.heap.size (by omega)).trans m1
  have SW : W.drew.cell? ⟨w.heap.size, 0, none⟩ = some (.pointer (some ⟨k, 0, none⟩)) ∧ W.drew.cell? ⟨w.heap.size, 1, none⟩ = some (.int .i64 0) := ⟨cell_of_block (w := W.drew) (o := 0) nW rfl, cell_of_block (w := W.drew) (o := 1) nW rfl⟩
  have S1 : V1.cell? ⟨w.heap.size, 0, none⟩ = some (.pointer (some ⟨k, 0, none⟩)) ∧ V1.cell? ⟨w.heap.size, 1, none⟩ = some (.int .i64 0) := ⟨cell_of_block (o := 0) m1 rfl, cell_of_block (o := 1) m1 rfl⟩
  have S2 : V2.cell? ⟨w.heap.size, 0, none⟩ = some (.pointer (some ⟨k, 0, none⟩)) ∧ V2.cell? ⟨w.heap.size, 1, none⟩ = some (.int .i64 0) := ⟨cell_of_block (o := 0) m2 rfl, cell_of_block (o := 1) m2 rfl⟩
  clear m1 m2
  unfold F0 at hV1 hV2 n11 n21 n22
  have kn1 : k ≠ w.heap.size + 1 := by omega
  have kn2 : k ≠ w.heap.size + 2 := by omega
  have qn1 : q ≠ w.heap.size + 1 := by omega
  have qn2 : q ≠ w.heap.size + 2 := by omega
  have l21 : w.heap.size < V1.heap.size := by omega
  have l22 : w.heap.size < V2.heap.size := by omega
  have l23 : w.heap.size + 1 < V2.heap.size := by omega
  have l24 : w.heap.size + 2 < V2.heap.size := by omega
  have le1 : w.heap.size ≤ V1.heap.size := by omega
  have le2 : w.heap.size ≤ V2.heap.size := by omega
  have lz1 : w.heap.size ≤ w.heap.size + 1 := by omega
  have lz2 : w.heap.size ≤ w.heap.size + 2 := by omega
  have lz3 : w.heap.size ≤ w.heap.size + 3 := by omega
  have e1 : w.heap.size ≠ w.heap.size + 1 := by omega
  have e2 : w.heap.size ≠ w.heap.size + 2 := by omega
  have e3 : w.heap.size ≠ w.heap.size + 3 := by omega
  have e12 : w.heap.size + 1 ≠ w.heap.size + 2 := by omega
  have e13 : w.heap.size + 1 ≠ w.heap.size + 3 := by omega
  have e23 : w.heap.size + 2 ≠ w.heap.size + 3 := by omega
  go_enter Tryz.func59, Tryz.ntmps59
  go_wp2_with (fail)
  clear hW
  go_region_held3 (fun w' => w'.cell? ⟨w.heap.size, 0, none⟩ = some (.pointer (some ⟨k, 0, none⟩)) ∧ w'.cell? ⟨w.heap.size, 1, none⟩ = some (.int .i64 0))
    (with_reducible assumption)
    (first
    | (go_at_call 72; first
        | (with_reducible refine (SetInt_3 (w.heap.size + 2) k q V2 n22 i2 kn2 qn2).mono ?_
           rintro e w1 ⟨rfl, s1, G1, o1⟩
           have A : w1.cell? ⟨w.heap.size, 0, none⟩ = some (.pointer (some ⟨k, 0, none⟩)) ∧ w1.cell? ⟨w.heap.size, 1, none⟩ = some (.int .i64 0) := ⟨(o1.cell (k := w.heap.size) (o := 0) (by omega) (by omega)).trans S2.1, (o1.cell (k := w.heap.size) (o := 1) (by omega) (by omega)).trans S2.2⟩
           have a2 := (o1.block (w.heap.size + 1) (by omega) (by omega)).trans n21
           have BB : Below w.heap.size w w1 := B2.trans (o1.below (by omega) (by omega))
           rw [z2] at s1 G1)
        | (with_reducible refine (SetInt_3 (w.heap.size + 1) k q V2 n21 i2 kn1 qn1).mono ?_
           rintro e w1 ⟨rfl, s1, G1, o1⟩
           have A : w1.cell? ⟨w.heap.size, 0, none⟩ = some (.pointer (some ⟨k, 0, none⟩)) ∧ w1.cell? ⟨w.heap.size, 1, none⟩ = some (.int .i64 0) := ⟨(o1.cell (k := w.heap.size) (o := 0) (by omega) (by omega)).trans S2.1, (o1.cell (k := w.heap.size) (o := 1) (by omega) (by omega)).trans S2.2⟩
           have a2 := (o1.block (w.heap.size + 2) (by omega) (by omega)).trans n22
           have BB : Below w.heap.size w w1 := B2.trans (o1.below (by omega) (by omega))
           rw [z2] at s1 G1)
        | (with_reducible refine (SetInt_3 (w.heap.size + 1) k q V1 n11 i1 kn1 qn1).mono ?_
           rintro e w1 ⟨rfl, s1, G1, o1⟩
           have A : w1.cell? ⟨w.heap.size, 0, none⟩ = some (.pointer (some ⟨k, 0, none⟩)) ∧ w1.cell? ⟨w.heap.size, 1, none⟩ = some (.int .i64 0) := ⟨(o1.cell (k := w.heap.size) (o := 0) (by omega) (by omega)).trans S1.1, (o1.cell (k := w.heap.size) (o := 1) (by omega) (by omega)).trans S1.2⟩
           have BB : Below w.heap.size w w1 := B1.trans (o1.below (by omega) (by omega))
           rw [z1] at s1 G1
           obtain ⟨w2, hw2⟩ : ∃ w2, w1.alloc F0 = w2 := ⟨_, rfl⟩
           have s2 : w2.heap.size = w.heap.size + 4 := by rw [← hw2]; simp [s1]
           have t2 : Below w1.heap.size w1 w2 := by rw [← hw2]; exact (Below.refl w1.heap.size w1).alloc (Nat.le_refl _) _
           have A' : w2.cell? ⟨w.heap.size, 0, none⟩ = some (.pointer (some ⟨k, 0, none⟩)) ∧ w2.cell? ⟨w.heap.size, 1, none⟩ = some (.int .i64 0) := ⟨(t2.cell (p := ⟨w.heap.size, 0, none⟩) (by show w.heap.size < _; omega)).trans A.1, (t2.cell (p := ⟨w.heap.size, 1, none⟩) (by show w.heap.size < _; omega)).trans A.2⟩
           have a2 : w2.heap[w.heap.size + 3]? = some F0 := by rw [← hw2]; exact heap_alloc_new _ _ _ s1.symm
           have G2 : FAt (w.heap.size + 1) (w.heap.size + 2) 13835058055282163712 2 w2 := ⟨(t2.block _ (by omega)).trans G1.1, (t2.block _ (by omega)).trans G1.2⟩
           have BB2 : Below w.heap.size w w2 := BB.trans (t2.mono (by omega))
           unfold F0 at hw2 a2))
    | (go_at_call 71; first
        | (with_reducible refine (SetMantExp_3 (w.heap.size + 1) (w.heap.size + 2) (w.heap.size + 3) w1 a2 G1 e12.symm e13.symm).mono ?_
           rintro e w3 ⟨rfl, s3, G3, o3⟩
           have D3 : Below w.heap.size w w3 := BB.trans (o3.below (by omega) (by omega))
           have X : w3.cell? ⟨w.heap.size, 0, none⟩ = some (.pointer (some ⟨k, 0, none⟩)) ∧ w3.cell? ⟨w.heap.size, 1, none⟩ = some (.int .i64 0) := ⟨(o3.cell (k := w.heap.size) (o := 0) (by omega) (by omega)).trans A.1, (o3.cell (k := w.heap.size) (o := 1) (by omega) (by omega)).trans A.2⟩
           rw [s1] at G3 s3)
        | (with_reducible refine (SetMantExp_3 (w.heap.size + 2) (w.heap.size + 1) (w.heap.size + 3) w1 a2 G1 e12 e23.symm).mono ?_
           rintro e w3 ⟨rfl, s3, G3, o3⟩
           have D3 : Below w.heap.size w w3 := BB.trans (o3.below (by omega) (by omega))
           have X : w3.cell? ⟨w.heap.size, 0, none⟩ = some (.pointer (some ⟨k, 0, none⟩)) ∧ w3.cell? ⟨w.heap.size, 1, none⟩ = some (.int .i64 0) := ⟨(o3.cell (k := w.heap.size) (o := 0) (by omega) (by omega)).trans A.1, (o3.cell (k := w.heap.size) (o := 1) (by omega) (by omega)).trans A.2⟩
           rw [s1] at G3 s3)
        | (with_reducible refine (SetMantExp_3 (w.heap.size + 3) (w.heap.size + 1) (w.heap.size + 2) w2 a2 G2 e13 e23).mono ?_
           rintro e w3 ⟨rfl, s3, G3, o3⟩
           have D3 : Below w.heap.size w w3 := BB2.trans (o3.below (by omega) (by omega))
           have X : w3.cell? ⟨w.heap.size, 0, none⟩ = some (.pointer (some ⟨k, 0, none⟩)) ∧ w3.cell? ⟨w.heap.size, 1, none⟩ = some (.int .i64 0) := ⟨(o3.cell (k := w.heap.size) (o := 0) (by omega) (by omega)).trans A'.1, (o3.cell (k := w.heap.size) (o := 1) (by omega) (by omega)).trans A'.2⟩
           rw [s2] at G3 s3))
    | (go_at_call 73; first
        | (with_reducible refine (Float64_3 (w.heap.size + 1) (w.heap.size + 4) w3 G3).mono ?_
           rintro e w4 ⟨rfl, b4⟩
           have Y : w4.cell? ⟨w.heap.size, 0, none⟩ = some (.pointer (some ⟨k, 0, none⟩)) ∧ w4.cell? ⟨w.heap.size, 1, none⟩ = some (.int .i64 0) := ⟨(b4.cell (p := ⟨w.heap.size, 0, none⟩) (by show w.heap.size < _; omega)).trans X.1, (b4.cell (p := ⟨w.heap.size, 1, none⟩) (by show w.heap.size < _; omega)).trans X.2⟩)
        | (with_reducible refine (Float64_3 (w.heap.size + 2) (w.heap.size + 4) w3 G3).mono ?_
           rintro e w4 ⟨rfl, b4⟩
           have Y : w4.cell? ⟨w.heap.size, 0, none⟩ = some (.pointer (some ⟨k, 0, none⟩)) ∧ w4.cell? ⟨w.heap.size, 1, none⟩ = some (.int .i64 0) := ⟨(b4.cell (p := ⟨w.heap.size, 0, none⟩) (by show w.heap.size < _; omega)).trans X.1, (b4.cell (p := ⟨w.heap.size, 1, none⟩) (by show w.heap.size < _; omega)).trans X.2⟩)
        | (with_reducible refine (Float64_3 (w.heap.size + 3) (w.heap.size + 4) w3 G3).mono ?_
           rintro e w4 ⟨rfl, b4⟩
           have Y : w4.cell? ⟨w.heap.size, 0, none⟩ = some (.pointer (some ⟨k, 0, none⟩)) ∧ w4.cell? ⟨w.heap.size, 1, none⟩ = some (.int .i64 0) := ⟨(b4.cell (p := ⟨w.heap.size, 0, none⟩) (by show w.heap.size < _; omega)).trans X.1, (b4.cell (p := ⟨w.heap.size, 1, none⟩) (by show w.heap.size < _; omega)).trans X.2⟩)))
  all_goals
    go_wp2
    go_ret
    exact ⟨rfl, D3.trans (b4.mono D3.size)⟩
end Go.Proofs.YtiiopcjdbldihaaGreatFmtBesafter
