/- exact.number, exact.Int, exact.Dyad's reading at a text of one digit 1, 2 or 3: the number in memory. Conditions: io.EOF holds an error's pointer. -/
import Derived.Test.YtiiopcjdbldihaaGreatFmtSet
namespace Go.Proofs.YtiiopcjdbldihaaGreatFmt
open Go.RowKit

theorem cell_of_block {w : World} {k o : Nat} {cs : Array Value} {t : TypeId} {v : Value} (h : w.heap[k]? = some (.cells cs t (0, 0))) (hv : cs[o]? = some v) : w.cell? ⟨k, o, none⟩ = some v := by
  unfold World.cell?; rw [h]; simpa using hv
theorem free_of_block {w : World} {k o : Nat} {cs : Array Value} {t : TypeId} (h : w.heap[k]? = some (.cells cs t (0, 0))) : w.frozen? ⟨k, o, none⟩ = false := by
  unfold World.frozen?; rw [h]; simp
theorem block_setCell {w : World} {k o : Nat} {cs : Array Value} {t : TypeId} {v : Value} (h : w.heap[k]? = some (.cells cs t (0, 0))) : (w.setCell ⟨k, o, none⟩ v).heap[k]? = some (.cells (cs.setIfInBounds o v) t (0, 0)) := by
  simp [World.setCell, Array.getElem?_modify, h]

theorem other_setCell {w : World} {k j o : Nat} {v : Value} {x : Option Obj} (h : w.heap[k]? = x) (hk : k ≠ j) : (w.setCell ⟨j, o, none⟩ v).heap[k]? = x := by
  rw [Below.heap_setCell w ⟨j, o, none⟩ v k hk]; exact h
theorem cell_other {w : World} {k j o o' : Nat} {v u : Value} (h : w.cell? ⟨k, o, none⟩ = some u) (hk : k ≠ j) : (w.setCell ⟨j, o', none⟩ v).cell? ⟨k, o, none⟩ = some u :=
  (World.cell?_of_block (w := w) (Below.heap_setCell w ⟨j, o', none⟩ v k hk)).trans h
theorem Rdr.setCell {b : Nat} {s : ByteArray} {i : Int} {w : World} (h : Rdr b s i w) {j : Nat} (hj : b ≠ j) (o : Nat) (v : Value) : Rdr b s i (w.setCell ⟨j, o, none⟩ v) :=
  ⟨cell_other h.c0 hj, cell_other h.c1 hj, cell_other h.c2 hj, by simpa using h.f1, by simpa using h.f2⟩

/-- io.EOF holds an error made by errors.New. -/
def EofAt (a : Addr) (w : World) : Prop := w.cell? ⟨2, 0, none⟩ = some (.iface 361 (.pointer (some a)))

/-- A number of one word in memory, in block k. -/
def IntAt (k q : Nat) (d : Int) (w : World) : Prop :=
  w.heap[k]? = some (.cells #[.bool false, .slice (some ⟨q, 0, none⟩) 1 1] 90 (0, 0)) ∧ w.heap[q]? = some (.cells #[.int .u64 d] 101 (0, 0))

set_option maxHeartbeats 1000000 in
theorem intScan_1 (B a b : Nat) (p : Addr) (w : World) (g : EofAt p w) (hg : 2 < B) (ha : B ≤ a) (hb : B ≤ b) (hab : a ≠ b) (hz : w.heap[a]? = some (.cells #[.bool false, .slice none 0 0] 90 (0, 0))) (h : Rdr b ⟨#[49]⟩ 0 w) :
    Calls Tryz.prog 99 #[.pointer (some ⟨a, 0, none⟩), .iface 117 (.pointer (some ⟨b, 0, none⟩)), .int .i64 10] w fun e' w' =>
      e' = .returned (.tuple #[.pointer (some ⟨a, 0, none⟩), .int .i64 10, .nilIface]) ∧ w'.heap.size = w.heap.size + 1 ∧ Below B w w' ∧ Rdr b ⟨#[49]⟩ 1 w' ∧ w'.heap[w.heap.size]? = some (.cells #[.int .u64 1] 101 (0, 0)) ∧
      w'.heap[a]? = some (.cells #[.bool false, .slice (some ⟨w.heap.size, 0, none⟩) 1 1] 90 (0, 0)) := by
  have hlt : b < w.heap.size := lt_of_cell h.c0
  have c0 := cell_of_block (o := 0) hz rfl
  have c1 := cell_of_block (o := 1) hz rfl
  have f0 := free_of_block (o := 0) hz
  have f1 := free_of_block (o := 1) hz
  have halt : a < w.heap.size := lt_of_cell c0
  go_enter Tryz.func99, Tryz.ntmps99
  go_wp2_with (fail)
  refine (scanSign_1 b _ h).mono ?_
  rintro e w1 ⟨rfl, z1, o1, r1⟩
  have g1 : EofAt p w1 := (o1.cell (by omega) (by omega)).trans g
  have hz1 := (o1.block a halt hab).trans hz
  have d1 := cell_of_block (o := 1) hz1 rfl
  go_wp2_with (fail)
  refine (natScan_1 b p _ g1 ⟨by omega, by omega⟩ r1).mono ?_
  rintro e w2 ⟨rfl, z2, o2, r2, n2⟩
  have hz2 := (o2.block a (by omega) hab).trans hz1
  have e0 := cell_of_block (o := 0) hz2 rfl
  have e1 := cell_of_block (o := 1) hz2 rfl
  have k0 := free_of_block (o := 0) hz2
  have k1 := free_of_block (o := 1) hz2
  rw [z1] at n2 z2
  go_wp2
  go_ret3
  exact ⟨rfl, by simp [z2], (((o1.trans o2).below hb (by omega)).setCell ha _).setCell ha _, (r2.setCell (Ne.symm hab) _ _).setCell (Ne.symm hab) _ _,
    other_setCell (other_setCell n2 (by omega)) (by omega), block_setCell (block_setCell hz2)⟩

set_option maxHeartbeats 1000000 in
theorem setFrom_1 (B a b : Nat) (p : Addr) (w : World) (g : EofAt p w) (hg : 2 < B) (ha : B ≤ a) (hb : B ≤ b) (hab : a ≠ b) (hz : w.heap[a]? = some (.cells #[.bool false, .slice none 0 0] 90 (0, 0))) (h : Rdr b ⟨#[49]⟩ 0 w) :
    Calls Tryz.prog 73 #[.pointer (some ⟨a, 0, none⟩), .iface 117 (.pointer (some ⟨b, 0, none⟩)), .int .i64 10] w fun e' w' =>
      e' = .returned (.tuple #[.pointer (some ⟨a, 0, none⟩), .bool true]) ∧ w'.heap.size = w.heap.size + 1 ∧ Below B w w' ∧ w'.heap[w.heap.size]? = some (.cells #[.int .u64 1] 101 (0, 0)) ∧
      w'.heap[a]? = some (.cells #[.bool false, .slice (some ⟨w.heap.size, 0, none⟩) 1 1] 90 (0, 0)) := by
  have hq := neq_same p
  have hlt : b < w.heap.size := lt_of_cell h.c0
  have halt : a < w.heap.size := lt_of_cell (cell_of_block (o := 0) hz rfl)
  go_enter Tryz.func73, Tryz.ntmps73
  go_wp2_with (fail)
  refine (intScan_1 B a b p _ g hg ha hb hab hz h).mono ?_
  rintro e w1 ⟨rfl, z1, b1, r1, n1, m1⟩
  have g1 : EofAt p w1 := (b1.cell (p := ⟨2, 0, none⟩) hg).trans g
  go_wp2_with (fail)
  refine (ReadByte_end_1 b _ _ g1 r1).mono ?_
  rintro e w2 ⟨rfl, z2, o2, r2⟩
  have g2 : EofAt p w2 := (o2.cell (by omega) (by omega)).trans g1
  unfold EofAt at g2
  go_wp2
  go_ret2
  exact ⟨rfl, z2.trans z1, b1.trans (o2.below hb (by omega)), (o2.block _ (by omega) (by omega)).trans n1, (o2.block _ (by omega) hab).trans m1⟩

set_option maxHeartbeats 1000000 in
theorem number_1 (p : Addr) (w : World) (g : EofAt p w) :
    Calls Tryz.prog 48 #[.string ⟨#[49]⟩] w fun e' w' =>
      e' = .returned (.pointer (some ⟨w.heap.size, 0, none⟩)) ∧ w'.heap.size = w.heap.size + 3 ∧ Below w.heap.size w w' ∧ IntAt w.heap.size (w.heap.size + 2) 1 w' := by
  have hg : 2 < w.heap.size := lt_of_cell g
  go_enter Tryz.func48, Tryz.ntmps48
  go_wp2_with (first | (go_at_call 62; go_in) | (go_at_call 74; go_in))
  have hW : ((w.alloc (Obj.cells #[.bool false, .slice none 0 0] 90)).alloc (Obj.cells #[.string ⟨#[49]⟩, .int .i64 0, .int .i64 (-1)] 147)).heap.size = w.heap.size + 2 := by simp
  have hR : ((w.alloc (Obj.cells #[.bool false, .slice none 0 0] 90)).alloc (Obj.cells #[.string ⟨#[49]⟩, .int .i64 0, .int .i64 (-1)] 147)).heap[w.heap.size + 1]? = some (Obj.cells #[.string ⟨#[49]⟩, .int .i64 0, .int .i64 (-1)] 147) := heap_alloc_new _ _ _ (by simp)
  refine (setFrom_1 w.heap.size w.heap.size (w.heap.size + 1) p _ ?_ hg (Nat.le_refl _) (Nat.le_succ _) (by omega) ?_ ?_).mono ?_
  · exact (((Below.refl w.heap.size w).alloc (Nat.le_refl _) _).alloc (by simp) _).cell (p := ⟨2, 0, none⟩) hg |>.trans g
  · rw [Below.heap_alloc _ _ _ (by simp)]; exact heap_alloc_new _ _ _ rfl
  · exact ⟨cell_of_block hR rfl, cell_of_block hR rfl, cell_of_block hR rfl, free_of_block hR, free_of_block hR⟩
  rintro e w1 ⟨rfl, z1, b1, n1, m1⟩
  rw [hW] at z1 n1 m1
  have bb : Below w.heap.size w w1 := (((Below.refl w.heap.size w).alloc (Nat.le_refl _) _).alloc (by simp) _).trans b1
  go_wp2
  go_ret
  exact ⟨rfl, z1, bb, m1, n1⟩
set_option maxHeartbeats 1000000 in
theorem intScan_2 (B a b : Nat) (p : Addr) (w : World) (g : EofAt p w) (hg : 2 < B) (ha : B ≤ a) (hb : B ≤ b) (hab : a ≠ b) (hz : w.heap[a]? = some (.cells #[.bool false, .slice none 0 0] 90 (0, 0))) (h : Rdr b ⟨#[50]⟩ 0 w) :
    Calls Tryz.prog 99 #[.pointer (some ⟨a, 0, none⟩), .iface 117 (.pointer (some ⟨b, 0, none⟩)), .int .i64 10] w fun e' w' =>
      e' = .returned (.tuple #[.pointer (some ⟨a, 0, none⟩), .int .i64 10, .nilIface]) ∧ w'.heap.size = w.heap.size + 1 ∧ Below B w w' ∧ Rdr b ⟨#[50]⟩ 1 w' ∧ w'.heap[w.heap.size]? = some (.cells #[.int .u64 2] 101 (0, 0)) ∧
      w'.heap[a]? = some (.cells #[.bool false, .slice (some ⟨w.heap.size, 0, none⟩) 1 1] 90 (0, 0)) := by
  have hlt : b < w.heap.size := lt_of_cell h.c0
  have c0 := cell_of_block (o := 0) hz rfl
  have c1 := cell_of_block (o := 1) hz rfl
  have f0 := free_of_block (o := 0) hz
  have f1 := free_of_block (o := 1) hz
  have halt : a < w.heap.size := lt_of_cell c0
  go_enter Tryz.func99, Tryz.ntmps99
  go_wp2_with (fail)
  refine (scanSign_2 b _ h).mono ?_
  rintro e w1 ⟨rfl, z1, o1, r1⟩
  have g1 : EofAt p w1 := (o1.cell (by omega) (by omega)).trans g
  have hz1 := (o1.block a halt hab).trans hz
  have d1 := cell_of_block (o := 1) hz1 rfl
  go_wp2_with (fail)
  refine (natScan_2 b p _ g1 ⟨by omega, by omega⟩ r1).mono ?_
  rintro e w2 ⟨rfl, z2, o2, r2, n2⟩
  have hz2 := (o2.block a (by omega) hab).trans hz1
  have e0 := cell_of_block (o := 0) hz2 rfl
  have e1 := cell_of_block (o := 1) hz2 rfl
  have k0 := free_of_block (o := 0) hz2
  have k1 := free_of_block (o := 1) hz2
  rw [z1] at n2 z2
  go_wp2
  go_ret3
  exact ⟨rfl, by simp [z2], (((o1.trans o2).below hb (by omega)).setCell ha _).setCell ha _, (r2.setCell (Ne.symm hab) _ _).setCell (Ne.symm hab) _ _,
    other_setCell (other_setCell n2 (by omega)) (by omega), block_setCell (block_setCell hz2)⟩

set_option maxHeartbeats 1000000 in
theorem setFrom_2 (B a b : Nat) (p : Addr) (w : World) (g : EofAt p w) (hg : 2 < B) (ha : B ≤ a) (hb : B ≤ b) (hab : a ≠ b) (hz : w.heap[a]? = some (.cells #[.bool false, .slice none 0 0] 90 (0, 0))) (h : Rdr b ⟨#[50]⟩ 0 w) :
    Calls Tryz.prog 73 #[.pointer (some ⟨a, 0, none⟩), .iface 117 (.pointer (some ⟨b, 0, none⟩)), .int .i64 10] w fun e' w' =>
      e' = .returned (.tuple #[.pointer (some ⟨a, 0, none⟩), .bool true]) ∧ w'.heap.size = w.heap.size + 1 ∧ Below B w w' ∧ w'.heap[w.heap.size]? = some (.cells #[.int .u64 2] 101 (0, 0)) ∧
      w'.heap[a]? = some (.cells #[.bool false, .slice (some ⟨w.heap.size, 0, none⟩) 1 1] 90 (0, 0)) := by
  have hq := neq_same p
  have hlt : b < w.heap.size := lt_of_cell h.c0
  have halt : a < w.heap.size := lt_of_cell (cell_of_block (o := 0) hz rfl)
  go_enter Tryz.func73, Tryz.ntmps73
  go_wp2_with (fail)
  refine (intScan_2 B a b p _ g hg ha hb hab hz h).mono ?_
  rintro e w1 ⟨rfl, z1, b1, r1, n1, m1⟩
  have g1 : EofAt p w1 := (b1.cell (p := ⟨2, 0, none⟩) hg).trans g
  go_wp2_with (fail)
  refine (ReadByte_end_2 b _ _ g1 r1).mono ?_
  rintro e w2 ⟨rfl, z2, o2, r2⟩
  have g2 : EofAt p w2 := (o2.cell (by omega) (by omega)).trans g1
  unfold EofAt at g2
  go_wp2
  go_ret2
  exact ⟨rfl, z2.trans z1, b1.trans (o2.below hb (by omega)), (o2.block _ (by omega) (by omega)).trans n1, (o2.block _ (by omega) hab).trans m1⟩

set_option maxHeartbeats 1000000 in
theorem number_2 (p : Addr) (w : World) (g : EofAt p w) :
    Calls Tryz.prog 48 #[.string ⟨#[50]⟩] w fun e' w' =>
      e' = .returned (.pointer (some ⟨w.heap.size, 0, none⟩)) ∧ w'.heap.size = w.heap.size + 3 ∧ Below w.heap.size w w' ∧ IntAt w.heap.size (w.heap.size + 2) 2 w' := by
  have hg : 2 < w.heap.size := lt_of_cell g
  go_enter Tryz.func48, Tryz.ntmps48
  go_wp2_with (first | (go_at_call 62; go_in) | (go_at_call 74; go_in))
  have hW : ((w.alloc (Obj.cells #[.bool false, .slice none 0 0] 90)).alloc (Obj.cells #[.string ⟨#[50]⟩, .int .i64 0, .int .i64 (-1)] 147)).heap.size = w.heap.size + 2 := by simp
  have hR : ((w.alloc (Obj.cells #[.bool false, .slice none 0 0] 90)).alloc (Obj.cells #[.string ⟨#[50]⟩, .int .i64 0, .int .i64 (-1)] 147)).heap[w.heap.size + 1]? = some (Obj.cells #[.string ⟨#[50]⟩, .int .i64 0, .int .i64 (-1)] 147) := heap_alloc_new _ _ _ (by simp)
  refine (setFrom_2 w.heap.size w.heap.size (w.heap.size + 1) p _ ?_ hg (Nat.le_refl _) (Nat.le_succ _) (by omega) ?_ ?_).mono ?_
  · exact (((Below.refl w.heap.size w).alloc (Nat.le_refl _) _).alloc (by simp) _).cell (p := ⟨2, 0, none⟩) hg |>.trans g
  · rw [Below.heap_alloc _ _ _ (by simp)]; exact heap_alloc_new _ _ _ rfl
  · exact ⟨cell_of_block hR rfl, cell_of_block hR rfl, cell_of_block hR rfl, free_of_block hR, free_of_block hR⟩
  rintro e w1 ⟨rfl, z1, b1, n1, m1⟩
  rw [hW] at z1 n1 m1
  have bb : Below w.heap.size w w1 := (((Below.refl w.heap.size w).alloc (Nat.le_refl _) _).alloc (by simp) _).trans b1
  go_wp2
  go_ret
  exact ⟨rfl, z1, bb, m1, n1⟩
set_option maxHeartbeats 1000000 in
theorem intScan_3 (B a b : Nat) (p : Addr) (w : World) (g : EofAt p w) (hg : 2 < B) (ha : B ≤ a) (hb : B ≤ b) (hab : a ≠ b) (hz : w.heap[a]? = some (.cells #[.bool false, .slice none 0 0] 90 (0, 0))) (h : Rdr b ⟨#[51]⟩ 0 w) :
    Calls Tryz.prog 99 #[.pointer (some ⟨a, 0, none⟩), .iface 117 (.pointer (some ⟨b, 0, none⟩)), .int .i64 10] w fun e' w' =>
      e' = .returned (.tuple #[.pointer (some ⟨a, 0, none⟩), .int .i64 10, .nilIface]) ∧ w'.heap.size = w.heap.size + 1 ∧ Below B w w' ∧ Rdr b ⟨#[51]⟩ 1 w' ∧ w'.heap[w.heap.size]? = some (.cells #[.int .u64 3] 101 (0, 0)) ∧
      w'.heap[a]? = some (.cells #[.bool false, .slice (some ⟨w.heap.size, 0, none⟩) 1 1] 90 (0, 0)) := by
  have hlt : b < w.heap.size := lt_of_cell h.c0
  have c0 := cell_of_block (o := 0) hz rfl
  have c1 := cell_of_block (o := 1) hz rfl
  have f0 := free_of_block (o := 0) hz
  have f1 := free_of_block (o := 1) hz
  have halt : a < w.heap.size := lt_of_cell c0
  go_enter Tryz.func99, Tryz.ntmps99
  go_wp2_with (fail)
  refine (scanSign_3 b _ h).mono ?_
  rintro e w1 ⟨rfl, z1, o1, r1⟩
  have g1 : EofAt p w1 := (o1.cell (by omega) (by omega)).trans g
  have hz1 := (o1.block a halt hab).trans hz
  have d1 := cell_of_block (o := 1) hz1 rfl
  go_wp2_with (fail)
  refine (natScan_3 b p _ g1 ⟨by omega, by omega⟩ r1).mono ?_
  rintro e w2 ⟨rfl, z2, o2, r2, n2⟩
  have hz2 := (o2.block a (by omega) hab).trans hz1
  have e0 := cell_of_block (o := 0) hz2 rfl
  have e1 := cell_of_block (o := 1) hz2 rfl
  have k0 := free_of_block (o := 0) hz2
  have k1 := free_of_block (o := 1) hz2
  rw [z1] at n2 z2
  go_wp2
  go_ret3
  exact ⟨rfl, by simp [z2], (((o1.trans o2).below hb (by omega)).setCell ha _).setCell ha _, (r2.setCell (Ne.symm hab) _ _).setCell (Ne.symm hab) _ _,
    other_setCell (other_setCell n2 (by omega)) (by omega), block_setCell (block_setCell hz2)⟩

set_option maxHeartbeats 1000000 in
theorem setFrom_3 (B a b : Nat) (p : Addr) (w : World) (g : EofAt p w) (hg : 2 < B) (ha : B ≤ a) (hb : B ≤ b) (hab : a ≠ b) (hz : w.heap[a]? = some (.cells #[.bool false, .slice none 0 0] 90 (0, 0))) (h : Rdr b ⟨#[51]⟩ 0 w) :
    Calls Tryz.prog 73 #[.pointer (some ⟨a, 0, none⟩), .iface 117 (.pointer (some ⟨b, 0, none⟩)), .int .i64 10] w fun e' w' =>
      e' = .returned (.tuple #[.pointer (some ⟨a, 0, none⟩), .bool true]) ∧ w'.heap.size = w.heap.size + 1 ∧ Below B w w' ∧ w'.heap[w.heap.size]? = some (.cells #[.int .u64 3] 101 (0, 0)) ∧
      w'.heap[a]? = some (.cells #[.bool false, .slice (some ⟨w.heap.size, 0, none⟩) 1 1] 90 (0, 0)) := by
  have hq := neq_same p
  have hlt : b < w.heap.size := lt_of_cell h.c0
  have halt : a < w.heap.size := lt_of_cell (cell_of_block (o := 0) hz rfl)
  go_enter Tryz.func73, Tryz.ntmps73
  go_wp2_with (fail)
  refine (intScan_3 B a b p _ g hg ha hb hab hz h).mono ?_
  rintro e w1 ⟨rfl, z1, b1, r1, n1, m1⟩
  have g1 : EofAt p w1 := (b1.cell (p := ⟨2, 0, none⟩) hg).trans g
  go_wp2_with (fail)
  refine (ReadByte_end_3 b _ _ g1 r1).mono ?_
  rintro e w2 ⟨rfl, z2, o2, r2⟩
  have g2 : EofAt p w2 := (o2.cell (by omega) (by omega)).trans g1
  unfold EofAt at g2
  go_wp2
  go_ret2
  exact ⟨rfl, z2.trans z1, b1.trans (o2.below hb (by omega)), (o2.block _ (by omega) (by omega)).trans n1, (o2.block _ (by omega) hab).trans m1⟩

set_option maxHeartbeats 1000000 in
theorem number_3 (p : Addr) (w : World) (g : EofAt p w) :
    Calls Tryz.prog 48 #[.string ⟨#[51]⟩] w fun e' w' =>
      e' = .returned (.pointer (some ⟨w.heap.size, 0, none⟩)) ∧ w'.heap.size = w.heap.size + 3 ∧ Below w.heap.size w w' ∧ IntAt w.heap.size (w.heap.size + 2) 3 w' := by
  have hg : 2 < w.heap.size := lt_of_cell g
  go_enter Tryz.func48, Tryz.ntmps48
  go_wp2_with (first | (go_at_call 62; go_in) | (go_at_call 74; go_in))
  have hW : ((w.alloc (Obj.cells #[.bool false, .slice none 0 0] 90)).alloc (Obj.cells #[.string ⟨#[51]⟩, .int .i64 0, .int .i64 (-1)] 147)).heap.size = w.heap.size + 2 := by simp
  have hR : ((w.alloc (Obj.cells #[.bool false, .slice none 0 0] 90)).alloc (Obj.cells #[.string ⟨#[51]⟩, .int .i64 0, .int .i64 (-1)] 147)).heap[w.heap.size + 1]? = some (Obj.cells #[.string ⟨#[51]⟩, .int .i64 0, .int .i64 (-1)] 147) := heap_alloc_new _ _ _ (by simp)
  refine (setFrom_3 w.heap.size w.heap.size (w.heap.size + 1) p _ ?_ hg (Nat.le_refl _) (Nat.le_succ _) (by omega) ?_ ?_).mono ?_
  · exact (((Below.refl w.heap.size w).alloc (Nat.le_refl _) _).alloc (by simp) _).cell (p := ⟨2, 0, none⟩) hg |>.trans g
  · rw [Below.heap_alloc _ _ _ (by simp)]; exact heap_alloc_new _ _ _ rfl
  · exact ⟨cell_of_block hR rfl, cell_of_block hR rfl, cell_of_block hR rfl, free_of_block hR, free_of_block hR⟩
  rintro e w1 ⟨rfl, z1, b1, n1, m1⟩
  rw [hW] at z1 n1 m1
  have bb : Below w.heap.size w w1 := (((Below.refl w.heap.size w).alloc (Nat.le_refl _) _).alloc (by simp) _).trans b1
  go_wp2
  go_ret
  exact ⟨rfl, z1, bb, m1, n1⟩

end Go.Proofs.YtiiopcjdbldihaaGreatFmt
