/- dyad.Near, horner.near, horner.Floats at "1", "2", "3". Condition: what the walk reads of package-level variables. -/
import Derived.Test.YtiiopcjdbldihaaGreatFmtBesafterFloats
namespace Go.Proofs.YtiiopcjdbldihaaGreatFmtBesafter
open Go.RowKit Go.SurdFp

set_option maxRecDepth 100000 in
set_option maxHeartbeats 1000000 in
theorem Near_1 (p : Addr) (w : World) (g : Env p w) : Calls Tryz.prog 41 #[.agg #[.string ⟨#[49]⟩, .int .i64 0]] w fun e w' =>
    e = .returned (.tuple #[.float .f64 4607182418800017408, .int .i64 0]) ∧ Below w.heap.size w w' := by
  obtain ⟨W, hW⟩ : ∃ W, w.alloc (.cells #[.string ⟨#[49]⟩, .int .i64 0] 72) = W := ⟨_, rfl⟩
  have zW : W.heap.size = w.heap.size + 1 := by rw [← hW]; simp
  have bW : Below w.heap.size w W := by rw [← hW]; exact (Below.refl w.heap.size w).alloc (Nat.le_refl _) _
  have nW : W.heap[w.heap.size]? = some (.cells #[.string ⟨#[49]⟩, .int .i64 0] 72 (0, 0)) := by rw [← hW]; exact heap_alloc_new _ _ _ rfl
  have gW : Env p W := g.below bW (Nat.le_refl _)
  have d0 := cell_of_block (o := 0) nW rfl
  have d1 := cell_of_block (o := 1) nW rfl
  go_enter Tryz.func41, Tryz.ntmps41
  go_wp2_with (fail)
  refine (Dyad_1 p _ gW.eof).mono ?_
  rintro e w1 ⟨k, q, rfl, i1, b1⟩
  have B1 : Below w.heap.size w w1 := bW.trans (b1.mono (by omega))
  have hk : k < w1.heap.size := lt_of_cell (cell_of_block (o := 0) i1.1 rfl)
  have hq : q < w1.heap.size := lt_of_cell (cell_of_block (o := 0) i1.2 rfl)
  obtain ⟨U, hU⟩ : ∃ U, w1.alloc (.cells #[.pointer none, .int .i64 0] 74) = U := ⟨_, rfl⟩
  have bU : Below w1.heap.size w1 U := by rw [← hU]; exact (Below.refl w1.heap.size w1).alloc (Nat.le_refl _) _
  have nU : U.heap[w1.heap.size]? = some (.cells #[.pointer none, .int .i64 0] 74 (0, 0)) := by rw [← hU]; exact heap_alloc_new _ _ _ rfl
  have u0 := cell_of_block (o := 0) nU rfl
  have u1 := cell_of_block (o := 1) nU rfl
  have v0 := free_of_block (o := 0) nU
  have v1 := free_of_block (o := 1) nU
  obtain ⟨V, hV⟩ : ∃ V, (U.setCell ⟨w1.heap.size, 0, none⟩ (.pointer (some ⟨k, 0, none⟩))).setCell ⟨w1.heap.size, 1, none⟩ (.int .i64 0) = V := ⟨_, rfl⟩
  have bV : Below w1.heap.size w1 V := by rw [← hV]; exact (bU.setCell (Nat.le_refl _) _).setCell (Nat.le_refl _) _
  have nV : V.heap[w1.heap.size]? = some (.cells #[.pointer (some ⟨k, 0, none⟩), .int .i64 0] 74 (0, 0)) := by rw [← hV]; exact block_setCell (block_setCell nU)
  have e0 := cell_of_block (o := 0) nV rfl
  have e1 := cell_of_block (o := 1) nV rfl
  have iV : IntAt k q 1 V := i1.below bV hk hq
  go_wp2_with (fail)
  refine (dnear_1 k q _ (by exact iV)).mono ?_
  rintro e w2 ⟨rfl, b2⟩
  go_wp2
  go_ret2
  exact ⟨rfl, (B1.trans (bV.mono B1.size)).trans (b2.mono (Nat.le_trans B1.size bV.size))⟩
set_option maxRecDepth 100000 in
set_option maxHeartbeats 1000000 in
theorem hnear_1 (p : Addr) (w : World) (g : Env p w) : Calls Tryz.prog 25 #[.string ⟨#[49]⟩] w fun e w' =>
    e = .returned (.float .f64 4607182418800017408) ∧ Below w.heap.size w w' := by
  go_enter Tryz.func25, Tryz.ntmps25
  go_wp2_with (fail)
  refine (Int_1 p _ g.eof).mono ?_
  rintro e w1 ⟨rfl, z1, b1, i1⟩
  have g1 : Env p w1 := g.below b1 (Nat.le_refl _)
  go_wp2_with (fail)
  refine (Whole_any _ _).mono ?_
  rintro e w2 ⟨rfl, b2⟩
  have g2 : Env p w2 := g1.below b2 (Nat.le_refl _)
  have i2 : IntAt w.heap.size (w.heap.size + 2) 1 w2 := i1.below b2 (by omega) (by omega)
  go_wp2_with (fail)
  refine (Back_1 _ _ p _ g2 i2).mono ?_
  rintro e w3 ⟨rfl, b3⟩
  have g3 : Env p w3 := g2.below b3 (Nat.le_refl _)
  have i3 : IntAt w.heap.size (w.heap.size + 2) 1 w3 := i2.below b3 (by have := b2.size; omega) (by have := b2.size; omega)
  have B3 : Below w.heap.size w w3 := (b1.trans (b2.mono b1.size)).trans (b3.mono (Nat.le_trans b1.size b2.size))
  obtain ⟨U, hU⟩ : ∃ U, w3.alloc (.cells #[.string ⟨#[]⟩, .int .i64 0] 72) = U := ⟨_, rfl⟩
  have bU : Below w3.heap.size w3 U := by rw [← hU]; exact (Below.refl w3.heap.size w3).alloc (Nat.le_refl _) _
  have nU : U.heap[w3.heap.size]? = some (.cells #[.string ⟨#[]⟩, .int .i64 0] 72 (0, 0)) := by rw [← hU]; exact heap_alloc_new _ _ _ rfl
  have u0 := cell_of_block (o := 0) nU rfl
  have u1 := cell_of_block (o := 1) nU rfl
  have v0 := free_of_block (o := 0) nU
  have v1 := free_of_block (o := 1) nU
  obtain ⟨V, hV⟩ : ∃ V, (U.setCell ⟨w3.heap.size, 0, none⟩ (.string ⟨#[49]⟩)).setCell ⟨w3.heap.size, 1, none⟩ (.int .i64 0) = V := ⟨_, rfl⟩
  have bV : Below w3.heap.size w3 V := by rw [← hV]; exact (bU.setCell (Nat.le_refl _) _).setCell (Nat.le_refl _) _
  have nV : V.heap[w3.heap.size]? = some (.cells #[.string ⟨#[49]⟩, .int .i64 0] 72 (0, 0)) := by rw [← hV]; exact block_setCell (block_setCell nU)
  have e0 := cell_of_block (o := 0) nV rfl
  have e1 := cell_of_block (o := 1) nV rfl
  have gV : Env p V := g3.below bV (Nat.le_refl _)
  have iV : IntAt w.heap.size (w.heap.size + 2) 1 V := i3.below bV (by have := b2.size; have := b3.size; omega) (by have := b2.size; have := b3.size; omega)
  go_wp2_with (fail)
  refine (BitLen_1 _ _ _ iV).mono ?_
  rintro e w4 ⟨rfl, rfl⟩
  go_wp2_with (fail)
  refine (Near_1 p _ gV).mono ?_
  rintro e w4 ⟨rfl, b4⟩
  go_wp2
  go_ret
  exact ⟨rfl, (B3.trans (bV.mono B3.size)).trans (b4.mono (Nat.le_trans B3.size bV.size))⟩
set_option maxRecDepth 100000 in
set_option maxHeartbeats 1000000 in
theorem Near_2 (p : Addr) (w : World) (g : Env p w) : Calls Tryz.prog 41 #[.agg #[.string ⟨#[49]⟩, .int .i64 1]] w fun e w' =>
    e = .returned (.tuple #[.float .f64 4611686018427387904, .int .i64 0]) ∧ Below w.heap.size w w' := by
  obtain ⟨W, hW⟩ : ∃ W, w.alloc (.cells #[.string ⟨#[49]⟩, .int .i64 1] 72) = W := ⟨_, rfl⟩
  have zW : W.heap.size = w.heap.size + 1 := by rw [← hW]; simp
  have bW : Below w.heap.size w W := by rw [← hW]; exact (Below.refl w.heap.size w).alloc (Nat.le_refl _) _
  have nW : W.heap[w.heap.size]? = some (.cells #[.string ⟨#[49]⟩, .int .i64 1] 72 (0, 0)) := by rw [← hW]; exact heap_alloc_new _ _ _ rfl
  have gW : Env p W := g.below bW (Nat.le_refl _)
  have d0 := cell_of_block (o := 0) nW rfl
  have d1 := cell_of_block (o := 1) nW rfl
  go_enter Tryz.func41, Tryz.ntmps41
  go_wp2_with (fail)
  refine (Dyad_2 p _ gW.eof).mono ?_
  rintro e w1 ⟨k, q, rfl, i1, b1⟩
  have B1 : Below w.heap.size w w1 := bW.trans (b1.mono (by omega))
  have hk : k < w1.heap.size := lt_of_cell (cell_of_block (o := 0) i1.1 rfl)
  have hq : q < w1.heap.size := lt_of_cell (cell_of_block (o := 0) i1.2 rfl)
  obtain ⟨U, hU⟩ : ∃ U, w1.alloc (.cells #[.pointer none, .int .i64 0] 74) = U := ⟨_, rfl⟩
  have bU : Below w1.heap.size w1 U := by rw [← hU]; exact (Below.refl w1.heap.size w1).alloc (Nat.le_refl _) _
  have nU : U.heap[w1.heap.size]? = some (.cells #[.pointer none, .int .i64 0] 74 (0, 0)) := by rw [← hU]; exact heap_alloc_new _ _ _ rfl
  have u0 := cell_of_block (o := 0) nU rfl
  have u1 := cell_of_block (o := 1) nU rfl
  have v0 := free_of_block (o := 0) nU
  have v1 := free_of_block (o := 1) nU
  obtain ⟨V, hV⟩ : ∃ V, (U.setCell ⟨w1.heap.size, 0, none⟩ (.pointer (some ⟨k, 0, none⟩))).setCell ⟨w1.heap.size, 1, none⟩ (.int .i64 1) = V := ⟨_, rfl⟩
  have bV : Below w1.heap.size w1 V := by rw [← hV]; exact (bU.setCell (Nat.le_refl _) _).setCell (Nat.le_refl _) _
  have nV : V.heap[w1.heap.size]? = some (.cells #[.pointer (some ⟨k, 0, none⟩), .int .i64 1] 74 (0, 0)) := by rw [← hV]; exact block_setCell (block_setCell nU)
  have e0 := cell_of_block (o := 0) nV rfl
  have e1 := cell_of_block (o := 1) nV rfl
  have iV : IntAt k q 1 V := i1.below bV hk hq
  go_wp2_with (fail)
  refine (dnear_2 k q _ (by exact iV)).mono ?_
  rintro e w2 ⟨rfl, b2⟩
  go_wp2
  go_ret2
  exact ⟨rfl, (B1.trans (bV.mono B1.size)).trans (b2.mono (Nat.le_trans B1.size bV.size))⟩
set_option maxRecDepth 100000 in
set_option maxHeartbeats 1000000 in
theorem hnear_2 (p : Addr) (w : World) (g : Env p w) : Calls Tryz.prog 25 #[.string ⟨#[50]⟩] w fun e w' =>
    e = .returned (.float .f64 4611686018427387904) ∧ Below w.heap.size w w' := by
  go_enter Tryz.func25, Tryz.ntmps25
  go_wp2_with (fail)
  refine (Int_2 p _ g.eof).mono ?_
  rintro e w1 ⟨rfl, z1, b1, i1⟩
  have g1 : Env p w1 := g.below b1 (Nat.le_refl _)
  go_wp2_with (fail)
  refine (Whole_any _ _).mono ?_
  rintro e w2 ⟨rfl, b2⟩
  have g2 : Env p w2 := g1.below b2 (Nat.le_refl _)
  have i2 : IntAt w.heap.size (w.heap.size + 2) 2 w2 := i1.below b2 (by omega) (by omega)
  go_wp2_with (fail)
  refine (Back_2 _ _ p _ g2 i2).mono ?_
  rintro e w3 ⟨rfl, b3⟩
  have g3 : Env p w3 := g2.below b3 (Nat.le_refl _)
  have i3 : IntAt w.heap.size (w.heap.size + 2) 2 w3 := i2.below b3 (by have := b2.size; omega) (by have := b2.size; omega)
  have B3 : Below w.heap.size w w3 := (b1.trans (b2.mono b1.size)).trans (b3.mono (Nat.le_trans b1.size b2.size))
  obtain ⟨U, hU⟩ : ∃ U, w3.alloc (.cells #[.string ⟨#[]⟩, .int .i64 0] 72) = U := ⟨_, rfl⟩
  have bU : Below w3.heap.size w3 U := by rw [← hU]; exact (Below.refl w3.heap.size w3).alloc (Nat.le_refl _) _
  have nU : U.heap[w3.heap.size]? = some (.cells #[.string ⟨#[]⟩, .int .i64 0] 72 (0, 0)) := by rw [← hU]; exact heap_alloc_new _ _ _ rfl
  have u0 := cell_of_block (o := 0) nU rfl
  have u1 := cell_of_block (o := 1) nU rfl
  have v0 := free_of_block (o := 0) nU
  have v1 := free_of_block (o := 1) nU
  obtain ⟨V, hV⟩ : ∃ V, (U.setCell ⟨w3.heap.size, 0, none⟩ (.string ⟨#[49]⟩)).setCell ⟨w3.heap.size, 1, none⟩ (.int .i64 1) = V := ⟨_, rfl⟩
  have bV : Below w3.heap.size w3 V := by rw [← hV]; exact (bU.setCell (Nat.le_refl _) _).setCell (Nat.le_refl _) _
  have nV : V.heap[w3.heap.size]? = some (.cells #[.string ⟨#[49]⟩, .int .i64 1] 72 (0, 0)) := by rw [← hV]; exact block_setCell (block_setCell nU)
  have e0 := cell_of_block (o := 0) nV rfl
  have e1 := cell_of_block (o := 1) nV rfl
  have gV : Env p V := g3.below bV (Nat.le_refl _)
  have iV : IntAt w.heap.size (w.heap.size + 2) 2 V := i3.below bV (by have := b2.size; have := b3.size; omega) (by have := b2.size; have := b3.size; omega)
  go_wp2_with (fail)
  refine (BitLen_2 _ _ _ iV).mono ?_
  rintro e w4 ⟨rfl, rfl⟩
  go_wp2_with (fail)
  refine (Near_2 p _ gV).mono ?_
  rintro e w4 ⟨rfl, b4⟩
  go_wp2
  go_ret
  exact ⟨rfl, (B3.trans (bV.mono B3.size)).trans (b4.mono (Nat.le_trans B3.size bV.size))⟩
set_option maxRecDepth 100000 in
set_option maxHeartbeats 1000000 in
theorem Near_3 (p : Addr) (w : World) (g : Env p w) : Calls Tryz.prog 41 #[.agg #[.string ⟨#[51]⟩, .int .i64 0]] w fun e w' =>
    e = .returned (.tuple #[.float .f64 4613937818241073152, .int .i64 0]) ∧ Below w.heap.size w w' := by
  obtain ⟨W, hW⟩ : ∃ W, w.alloc (.cells #[.string ⟨#[51]⟩, .int .i64 0] 72) = W := ⟨_, rfl⟩
  have zW : W.heap.size = w.heap.size + 1 := by rw [← hW]; simp
  have bW : Below w.heap.size w W := by rw [← hW]; exact (Below.refl w.heap.size w).alloc (Nat.le_refl _) _
  have nW : W.heap[w.heap.size]? = some (.cells #[.string ⟨#[51]⟩, .int .i64 0] 72 (0, 0)) := by rw [← hW]; exact heap_alloc_new _ _ _ rfl
  have gW : Env p W := g.below bW (Nat.le_refl _)
  have d0 := cell_of_block (o := 0) nW rfl
  have d1 := cell_of_block (o := 1) nW rfl
  go_enter Tryz.func41, Tryz.ntmps41
  go_wp2_with (fail)
  refine (Dyad_3 p _ gW.eof).mono ?_
  rintro e w1 ⟨k, q, rfl, i1, b1⟩
  have B1 : Below w.heap.size w w1 := bW.trans (b1.mono (by omega))
  have hk : k < w1.heap.size := lt_of_cell (cell_of_block (o := 0) i1.1 rfl)
  have hq : q < w1.heap.size := lt_of_cell (cell_of_block (o := 0) i1.2 rfl)
  obtain ⟨U, hU⟩ : ∃ U, w1.alloc (.cells #[.pointer none, .int .i64 0] 74) = U := ⟨_, rfl⟩
  have bU : Below w1.heap.size w1 U := by rw [← hU]; exact (Below.refl w1.heap.size w1).alloc (Nat.le_refl _) _
  have nU : U.heap[w1.heap.size]? = some (.cells #[.pointer none, .int .i64 0] 74 (0, 0)) := by rw [← hU]; exact heap_alloc_new _ _ _ rfl
  have u0 := cell_of_block (o := 0) nU rfl
  have u1 := cell_of_block (o := 1) nU rfl
  have v0 := free_of_block (o := 0) nU
  have v1 := free_of_block (o := 1) nU
  obtain ⟨V, hV⟩ : ∃ V, (U.setCell ⟨w1.heap.size, 0, none⟩ (.pointer (some ⟨k, 0, none⟩))).setCell ⟨w1.heap.size, 1, none⟩ (.int .i64 0) = V := ⟨_, rfl⟩
  have bV : Below w1.heap.size w1 V := by rw [← hV]; exact (bU.setCell (Nat.le_refl _) _).setCell (Nat.le_refl _) _
  have nV : V.heap[w1.heap.size]? = some (.cells #[.pointer (some ⟨k, 0, none⟩), .int .i64 0] 74 (0, 0)) := by rw [← hV]; exact block_setCell (block_setCell nU)
  have e0 := cell_of_block (o := 0) nV rfl
  have e1 := cell_of_block (o := 1) nV rfl
  have iV : IntAt k q 3 V := i1.below bV hk hq
  go_wp2_with (fail)
  refine (dnear_3 k q _ (by exact iV)).mono ?_
  rintro e w2 ⟨rfl, b2⟩
  go_wp2
  go_ret2
  exact ⟨rfl, (B1.trans (bV.mono B1.size)).trans (b2.mono (Nat.le_trans B1.size bV.size))⟩
set_option maxRecDepth 100000 in
set_option maxHeartbeats 1000000 in
theorem hnear_3 (p : Addr) (w : World) (g : Env p w) : Calls Tryz.prog 25 #[.string ⟨#[51]⟩] w fun e w' =>
    e = .returned (.float .f64 4613937818241073152) ∧ Below w.heap.size w w' := by
  go_enter Tryz.func25, Tryz.ntmps25
  go_wp2_with (fail)
  refine (Int_3 p _ g.eof).mono ?_
  rintro e w1 ⟨rfl, z1, b1, i1⟩
  have g1 : Env p w1 := g.below b1 (Nat.le_refl _)
  go_wp2_with (fail)
  refine (Whole_any _ _).mono ?_
  rintro e w2 ⟨rfl, b2⟩
  have g2 : Env p w2 := g1.below b2 (Nat.le_refl _)
  have i2 : IntAt w.heap.size (w.heap.size + 2) 3 w2 := i1.below b2 (by omega) (by omega)
  go_wp2_with (fail)
  refine (Back_3 _ _ p _ g2 i2).mono ?_
  rintro e w3 ⟨rfl, b3⟩
  have g3 : Env p w3 := g2.below b3 (Nat.le_refl _)
  have i3 : IntAt w.heap.size (w.heap.size + 2) 3 w3 := i2.below b3 (by have := b2.size; omega) (by have := b2.size; omega)
  have B3 : Below w.heap.size w w3 := (b1.trans (b2.mono b1.size)).trans (b3.mono (Nat.le_trans b1.size b2.size))
  obtain ⟨U, hU⟩ : ∃ U, w3.alloc (.cells #[.string ⟨#[]⟩, .int .i64 0] 72) = U := ⟨_, rfl⟩
  have bU : Below w3.heap.size w3 U := by rw [← hU]; exact (Below.refl w3.heap.size w3).alloc (Nat.le_refl _) _
  have nU : U.heap[w3.heap.size]? = some (.cells #[.string ⟨#[]⟩, .int .i64 0] 72 (0, 0)) := by rw [← hU]; exact heap_alloc_new _ _ _ rfl
  have u0 := cell_of_block (o := 0) nU rfl
  have u1 := cell_of_block (o := 1) nU rfl
  have v0 := free_of_block (o := 0) nU
  have v1 := free_of_block (o := 1) nU
  obtain ⟨V, hV⟩ : ∃ V, (U.setCell ⟨w3.heap.size, 0, none⟩ (.string ⟨#[51]⟩)).setCell ⟨w3.heap.size, 1, none⟩ (.int .i64 0) = V := ⟨_, rfl⟩
  have bV : Below w3.heap.size w3 V := by rw [← hV]; exact (bU.setCell (Nat.le_refl _) _).setCell (Nat.le_refl _) _
  have nV : V.heap[w3.heap.size]? = some (.cells #[.string ⟨#[51]⟩, .int .i64 0] 72 (0, 0)) := by rw [← hV]; exact block_setCell (block_setCell nU)
  have e0 := cell_of_block (o := 0) nV rfl
  have e1 := cell_of_block (o := 1) nV rfl
  have gV : Env p V := g3.below bV (Nat.le_refl _)
  have iV : IntAt w.heap.size (w.heap.size + 2) 3 V := i3.below bV (by have := b2.size; have := b3.size; omega) (by have := b2.size; have := b3.size; omega)
  go_wp2_with (fail)
  refine (BitLen_3 _ _ _ iV).mono ?_
  rintro e w4 ⟨rfl, rfl⟩
  go_wp2_with (fail)
  refine (Near_3 p _ gV).mono ?_
  rintro e w4 ⟨rfl, b4⟩
  go_wp2
  go_ret
  exact ⟨rfl, (B3.trans (bV.mono B3.size)).trans (b4.mono (Nat.le_trans B3.size bV.size))⟩
theorem mk_cpx3 (w : World) : (Instr.makeSlice 27 (.int .i64 0) (.int .i64 3)).run Tryz.prog w = .ok (.slice (some ⟨w.heap.size, 0, none⟩) 0 3) (w.alloc (.cells #[.complex .f64 0 0, .complex .f64 0 0, .complex .f64 0 0] 29)) := by kernel_rfl
set_option maxRecDepth 100000 in
set_option maxHeartbeats 2000000 in
theorem Floats_123 (k : Nat) (p : Addr) (w : World) (g : Env p w) (h0 : w.cell? ⟨k, 0, none⟩ = some (.string ⟨#[49]⟩)) (h1 : w.cell? ⟨k, 1, none⟩ = some (.string ⟨#[50]⟩)) (h2 : w.cell? ⟨k, 2, none⟩ = some (.string ⟨#[51]⟩)) :
    Calls Tryz.prog 13 #[.slice (some ⟨k, 0, none⟩) 3 3] w fun e w' => ∃ r, e = .returned (.tuple #[.slice (some ⟨r, 0, none⟩) 3 3, .int .i64 0]) ∧
      w'.heap[r]? = some (.cells #[.complex .f64 4607182418800017408 0, .complex .f64 4611686018427387904 0, .complex .f64 4613937818241073152 0] 29 (0, 0)) ∧ Below w.heap.size w w' := by
  have hmk := mk_cpx3
  have hk : k < w.heap.size := lt_of_cell h0
  go_enter Tryz.func13, Tryz.ntmps13
  go_wp2_with (fail)
  refine (Poly_123 k p w g.eof h0 h1 h2).mono ?_
  rintro e u0 ⟨v, rfl, B0⟩
  have g0 : Env p u0 := g.below B0 (Nat.le_refl _)
  obtain ⟨R, hR⟩ : ∃ R, u0.heap.size = R := ⟨_, rfl⟩
  have wR : w.heap.size ≤ R := hR ▸ B0.size
  obtain ⟨a0, ha0⟩ : ∃ a0, u0.alloc (.cells #[.complex .f64 0 0, .complex .f64 0 0, .complex .f64 0 0] 29) = a0 := ⟨_, rfl⟩
  have q0 : a0.heap[R]? = some (.cells #[.complex .f64 0 0, .complex .f64 0 0, .complex .f64 0 0] 29 (0, 0)) := by rw [← ha0]; exact heap_alloc_new _ _ _ hR.symm
  have y0 : R < a0.heap.size := by rw [← ha0]; simp; omega
  have A0 : Below w.heap.size w a0 := by rw [← ha0]; exact B0.alloc B0.size _
  have k0 : Env p a0 := g.below A0 (Nat.le_refl _)
  have l0 : a0.cell? ⟨k, 0, none⟩ = some (.string ⟨#[49]⟩) := (A0.cell (p := ⟨k, 0, none⟩) hk).trans h0
  go_wp2_with (fail)
  refine wp_loop_rounds 4 ?_
  rw [rounds_succ]
  go_wp2_with (fail)
  refine (hnear_1 p _ k0).mono ?_
  rintro e u1 ⟨rfl, b1⟩
  have z1 : R < u1.heap.size := Nat.lt_of_lt_of_le y0 b1.size
  have B1 : Below w.heap.size w u1 := A0.trans (b1.mono A0.size)
  have s1 := (b1.block R y0).trans q0
  have r1 := (Below.heap_alloc u1 (Obj.cells #[.complex .f64 4607182418800017408 0] 29) R z1).trans s1
  go_wp2_with (at_builtin; go_must (refine wpList_append1 _ rfl _ _ 27 rfl 29 Tryz.underlying27 (by kernel_rfl) R 0 3 _ rfl r1 ⟨u1.heap.size, 0, none⟩ (.complex .f64 4607182418800017408 0) rfl ?c1 rfl (by decide) (by simp) ?_))
  case c1 => exact cell_of_block (heap_alloc_new _ _ _ rfl) rfl
  intro a1 m1 x1 o1
  have q1 : a1.heap[R]? = some (.cells #[.complex .f64 4607182418800017408 0, .complex .f64 0 0, .complex .f64 0 0] 29 (0, 0)) := m1
  have y1 : R < a1.heap.size := by have := o1.size; simp at this; omega
  have A1 : Below w.heap.size w a1 := (B1.alloc B1.size _).trans (o1.below wR (by simp; have := B1.size; omega))
  have k1 : Env p a1 := g.below A1 (Nat.le_refl _)
  have l1 : a1.cell? ⟨k, 1, none⟩ = some (.string ⟨#[50]⟩) := (A1.cell (p := ⟨k, 1, none⟩) hk).trans h1
  go_wp2_with (fail)
  rw [rounds_succ]
  go_wp2_with (fail)
  refine (hnear_2 p _ k1).mono ?_
  rintro e u2 ⟨rfl, b2⟩
  have z2 : R < u2.heap.size := Nat.lt_of_lt_of_le y1 b2.size
  have B2 : Below w.heap.size w u2 := A1.trans (b2.mono A1.size)
  have s2 := (b2.block R y1).trans q1
  have r2 := (Below.heap_alloc u2 (Obj.cells #[.complex .f64 4611686018427387904 0] 29) R z2).trans s2
  go_wp2_with (at_builtin; go_must (refine wpList_append1 _ rfl _ _ 27 rfl 29 Tryz.underlying27 (by kernel_rfl) R 1 3 _ rfl r2 ⟨u2.heap.size, 0, none⟩ (.complex .f64 4611686018427387904 0) rfl ?c1 rfl (by decide) (by simp) ?_))
  case c1 => exact cell_of_block (heap_alloc_new _ _ _ rfl) rfl
  intro a2 m2 x2 o2
  have q2 : a2.heap[R]? = some (.cells #[.complex .f64 4607182418800017408 0, .complex .f64 4611686018427387904 0, .complex .f64 0 0] 29 (0, 0)) := m2
  have y2 : R < a2.heap.size := by have := o2.size; simp at this; omega
  have A2 : Below w.heap.size w a2 := (B2.alloc B2.size _).trans (o2.below wR (by simp; have := B2.size; omega))
  have k2 : Env p a2 := g.below A2 (Nat.le_refl _)
  have l2 : a2.cell? ⟨k, 2, none⟩ = some (.string ⟨#[51]⟩) := (A2.cell (p := ⟨k, 2, none⟩) hk).trans h2
  go_wp2_with (fail)
  rw [rounds_succ]
  go_wp2_with (fail)
  refine (hnear_3 p _ k2).mono ?_
  rintro e u3 ⟨rfl, b3⟩
  have z3 : R < u3.heap.size := Nat.lt_of_lt_of_le y2 b3.size
  have B3 : Below w.heap.size w u3 := A2.trans (b3.mono A2.size)
  have s3 := (b3.block R y2).trans q2
  have r3 := (Below.heap_alloc u3 (Obj.cells #[.complex .f64 4613937818241073152 0] 29) R z3).trans s3
  go_wp2_with (at_builtin; go_must (refine wpList_append1 _ rfl _ _ 27 rfl 29 Tryz.underlying27 (by kernel_rfl) R 2 3 _ rfl r3 ⟨u3.heap.size, 0, none⟩ (.complex .f64 4613937818241073152 0) rfl ?c1 rfl (by decide) (by simp) ?_))
  case c1 => exact cell_of_block (heap_alloc_new _ _ _ rfl) rfl
  intro a3 m3 x3 o3
  have q3 : a3.heap[R]? = some (.cells #[.complex .f64 4607182418800017408 0, .complex .f64 4611686018427387904 0, .complex .f64 4613937818241073152 0] 29 (0, 0)) := m3
  have y3 : R < a3.heap.size := by have := o3.size; simp at this; omega
  have A3 : Below w.heap.size w a3 := (B3.alloc B3.size _).trans (o3.below wR (by simp; have := B3.size; omega))
  go_wp2_with (fail)
  rw [rounds_succ]
  go_wp2
  go_ret2
  exact ⟨R, rfl, q3, A3⟩
end Go.Proofs.YtiiopcjdbldihaaGreatFmtBesafter
