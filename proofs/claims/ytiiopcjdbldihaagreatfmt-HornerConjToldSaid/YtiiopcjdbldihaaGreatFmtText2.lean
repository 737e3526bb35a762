/- (*Int).Text, String, Sign, BitLen, exact.Dy.Back at numbers 1, 2, 3. No condition but io.EOF etc. laid. -/
import Derived.Test.YtiiopcjdbldihaaGreatFmtItoa
import Derived.Laws.IdiomStrings
import Derived.Test.YtiiopcjdbldihaaGreatFmtText1
namespace Go.Proofs.YtiiopcjdbldihaaGreatFmt
open Go.RowKit Go.SurdFp

theorem str_2 (s : Nat) (w : World) (h : w.cell? ⟨s, 0, none⟩ = some (.int .u8 50)) :
    (convert 128 9 (.slice (some ⟨s, 0, none⟩) 1 1)).run Tryz.prog w = .ok (.string ⟨#[50]⟩) w :=
  run_convert_bytes_back w 128 9 5 ⟨s, 0, none⟩ 1 [50] (by kernel_rfl) (by kernel_rfl) (by kernel_rfl) (fun j hj => by
    have e : j = 0 := by simpa using hj
    subst e
    exact h)
set_option maxRecDepth 100000 in
set_option maxHeartbeats 1000000 in
theorem Text_2 (k q : Nat) (p : Addr) (w : World) (g : Env p w) (h : IntAt k q 2 w) :
    Calls Tryz.prog 67 #[.pointer (some ⟨k, 0, none⟩), .int .i64 10] w fun e w' => e = .returned (.string ⟨#[50]⟩) ∧ Below w.heap.size w w' := by
  have c0 := cell_of_block (o := 0) h.1 rfl
  have c1 := cell_of_block (o := 1) h.1 rfl
  have hk : k < w.heap.size := lt_of_cell c0
  have gd : Env p w.drew := g.below (Below.drew (Below.refl w.heap.size w)) (Nat.le_refl _)
  go_enter Tryz.func67, Tryz.ntmps67
  go_wp2
  go_region_with (go_at_call 88; refine (itoa_2 q p w.drew (by exact gd) (by exact h.2)).mono ?_; rintro e w1 ⟨s, rfl, hs, b1⟩; have e0 := (b1.cell (p := ⟨k, 0, none⟩) hk).trans c0; have e1 := (b1.cell (p := ⟨k, 1, none⟩) hk).trans c1; have d0 := str_2 s _ (cell_of_block (o := 0) hs rfl))
  all_goals
    go_wp2
    go_ret
    exact ⟨rfl, (Below.drew (Below.refl w.heap.size w)).trans b1⟩
set_option maxHeartbeats 1000000 in
theorem String_2 (k q : Nat) (p : Addr) (w : World) (g : Env p w) (h : IntAt k q 2 w) :
    Calls Tryz.prog 51 #[.pointer (some ⟨k, 0, none⟩)] w fun e w' => e = .returned (.string ⟨#[50]⟩) ∧ Below w.heap.size w w' := by
  go_enter Tryz.func51, Tryz.ntmps51
  go_wp2_with (fail)
  refine (Text_2 k q p _ g h).mono ?_
  rintro e w1 ⟨rfl, b1⟩
  go_wp2
  go_ret
  exact ⟨rfl, b1⟩

set_option maxRecDepth 100000 in
set_option maxHeartbeats 1000000 in
theorem Back_2 (k q : Nat) (p : Addr) (w : World) (g : Env p w) (h : IntAt k q 2 w) :
    Calls Tryz.prog 37 #[.agg #[.pointer (some ⟨k, 0, none⟩), .int .i64 0]] w fun e w' => e = .returned (.agg #[.string ⟨#[49]⟩, .int .i64 1]) ∧ Below w.heap.size w w' := by
  have c0 := cell_of_block (o := 0) h.1 rfl
  have c1 := cell_of_block (o := 1) h.1 rfl
  have hk : k < w.heap.size := lt_of_cell c0
  obtain ⟨W, hW⟩ : ∃ W, (w.alloc (.cells #[.pointer (some ⟨k, 0, none⟩), .int .i64 0] 72)).alloc (.cells #[.string ⟨#[]⟩, .int .i64 0] 70) = W := ⟨_, rfl⟩
  have zW : W.heap.size = w.heap.size + 2 := by rw [← hW]; simp
  have bW : Below w.heap.size w W := by rw [← hW]; exact ((Below.refl w.heap.size w).alloc (Nat.le_refl _) _).alloc (by go_size) _
  have n1 : W.heap[w.heap.size]? = some (.cells #[.pointer (some ⟨k, 0, none⟩), .int .i64 0] 72 (0, 0)) := by
    rw [← hW]; exact ((Below.refl (w.heap.size + 1) (w.alloc (.cells #[.pointer (some ⟨k, 0, none⟩), .int .i64 0] 72))).alloc (by go_size) _).block w.heap.size (by omega) |>.trans (heap_alloc_new w _ _ rfl)
  have n2 : W.heap[w.heap.size + 1]? = some (.cells #[.string ⟨#[]⟩, .int .i64 0] 70 (0, 0)) := by
    rw [← hW]; exact heap_alloc_new _ _ _ (by go_size)
  have gW : Env p W := g.below bW (Nat.le_refl _)
  have hq : q < w.heap.size := lt_of_cell (cell_of_block (o := 0) h.2 rfl)
  have iW : IntAt k q 2 W := h.below bW hk hq
  have d0 := cell_of_block (o := 0) n1 rfl
  have d1 := cell_of_block (o := 1) n1 rfl
  have s0 := cell_of_block (o := 0) n2 rfl
  have s1 := cell_of_block (o := 1) n2 rfl
  have f0 := free_of_block (o := 0) n2
  have f1 := free_of_block (o := 1) n2
  -- behind the region's draw: the new number
  obtain ⟨V, hV⟩ : ∃ V, W.drew.alloc (.cells #[.bool false, .slice none 0 0] 90) = V := ⟨_, rfl⟩
  have zV : V.heap.size = w.heap.size + 3 := by rw [← hV]; simp [zW]
  have bV : Below W.heap.size W V := by rw [← hV]; exact (Below.drew (Below.refl W.heap.size W)).alloc (Nat.le_refl _) _
  have iV : IntAt k q 2 V := iW.below bV (by omega) (by omega)
  have nV : V.heap[w.heap.size + 2]? = some (.cells #[.bool false, .slice none 0 0] 90 (0, 0)) := by rw [← hV]; exact heap_alloc_new _ _ _ (by simp [zW])
  have gV : Env p V := gW.below bV (Nat.le_refl _)
  have BV : Below w.heap.size w V := bW.trans (bV.mono (by omega))
  have v1 := (bV.cell (p := ⟨w.heap.size, 1, none⟩) (by show w.heap.size < _; omega)).trans d1
  have vr := (bV.block (w.heap.size + 1) (by omega)).trans n2
  have v0 := (bV.cell (p := ⟨w.heap.size, 0, none⟩) (by show w.heap.size < _; omega)).trans d0
  have wr : IntKind.i64.wrap 1 = 1 := by decide +kernel
  go_enter Tryz.func37, Tryz.ntmps37
  go_wp2_with (fail)
  refine (Sign_2 k q _ iW).mono ?_
  rintro e w1 ⟨rfl, rfl⟩
  go_wp2_with (fail)
  refine (Tzb_2 k q p _ gW iW).mono ?_
  rintro e w1 ⟨rfl, rfl⟩
  go_wp2_with (fail)
  go_region_with (first
    | (go_at_call 50; go_must (refine (Rsh_2 (w.heap.size + 2) k q V (by exact nV) (by exact iV)).mono ?_); go_must (rintro e w1 ⟨rfl, z1, i1, o1⟩); go_must (have b1 : Below w.heap.size w w1 := BV.trans (o1.below (by omega) (by omega))); go_must (have g1 : Env p w1 := g.below b1 (Nat.le_refl _)); go_must (have e0 := (o1.cell (k := w.heap.size) (o := 0) (by omega) (by omega)).trans v0); have e1 := (o1.cell (k := w.heap.size) (o := 1) (by omega) (by omega)).trans v1; have m1 := (o1.block (w.heap.size + 1) (by omega) (by omega)).trans vr)
    | (go_at_call 51; go_must (refine (String_1 (w.heap.size + 2) V.heap.size p _ (by exact g1) (by exact i1)).mono ?_); go_must (rintro e w2 ⟨rfl, b2⟩); go_must (have e3 := (b2.cell (p := ⟨w.heap.size, 1, none⟩) (by show w.heap.size < _; omega)).trans e1); go_must (have m2 := (b2.block (w.heap.size + 1) (by omega)).trans m1); have r0 := cell_of_block (o := 0) m2 rfl; have r1 := cell_of_block (o := 1) m2 rfl; have t0 := free_of_block (o := 0) m2; have t1 := free_of_block (o := 1) m2))
  all_goals
    go_wp2
    have x2 := block_setCell (o := 1) (v := .int .i64 1) (block_setCell (o := 0) (v := .string ⟨#[49]⟩) m2)
    have y0 := cell_of_block (o := 0) x2 rfl
    have y1 := cell_of_block (o := 1) x2 rfl
    refine bodyPost_ret (v := .agg #[.string ⟨#[49]⟩, .int .i64 1]) ?_ rfl ?_
    · simp [results, Tryz.results37, go_sem, y0, y1]
    · exact ⟨rfl, ((b1.trans (b2.mono b1.size)).setCell (by show _ ≤ w.heap.size + 1; omega) _).setCell (by show _ ≤ w.heap.size + 1; omega) _⟩
end Go.Proofs.YtiiopcjdbldihaaGreatFmt
