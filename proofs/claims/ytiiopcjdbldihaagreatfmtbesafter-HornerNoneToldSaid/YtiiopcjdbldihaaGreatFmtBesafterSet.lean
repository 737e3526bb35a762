/- SetString at a text of one digit 1, 2 or 3. -/
import Derived.Test.YtiiopcjdbldihaaGreatFmtBesafterScan
import Derived.LaidEql
namespace Go.Proofs.YtiiopcjdbldihaaGreatFmtBesafter
open Go.RowKit

theorem info_eofT : ∃ i, Tryz.prog.info? 363 = some i ∧ i.comparable = true := by
  have h : (Tryz.prog.info? 363).any (fun i => i.comparable) = true := by kernel_rfl
  cases hh : Tryz.prog.info? 363 with
  | none => rw [hh] at h; cases h
  | some i => rw [hh] at h; exact ⟨i, rfl, h⟩
theorem info_eofE : ∃ i, Tryz.prog.info? 382 = some i := by
  have h : (Tryz.prog.info? 382).isSome = true := by kernel_rfl
  exact Option.isSome_iff_exists.1 h
theorem eql_same (a : Addr) (w : World) : (binOp .eql 143 (.iface 363 (.pointer (some a))) (.iface 363 (.pointer (some a)))).run Tryz.prog w = .ok (.bool true) w := by
  obtain ⟨i, hi, hc⟩ := info_eofT
  obtain ⟨j, hj⟩ := info_eofE
  exact run_eql_iface_ptr_same w a Tryz.underlying143 Tryz.underlying363 hi hc hj
theorem neq_same (a : Addr) (w : World) : (binOp .neq 143 (.iface 363 (.pointer (some a))) (.iface 363 (.pointer (some a)))).run Tryz.prog w = .ok (.bool false) w := by
  obtain ⟨i, hi, hc⟩ := info_eofT
  obtain ⟨j, hj⟩ := info_eofE
  simp only [binOp]
  simp [Op.equal, Op.maxDepth, run_equalIn_iface_ptr_same w 9998 a Tryz.underlying143 Tryz.underlying363 hi hc hj]

theorem mk_1 (w : World) : (Instr.makeSlice 88 (.int .i64 1) (.int .i64 1)).run Tryz.prog w = .ok (.slice (some ⟨w.heap.size, 0, none⟩) 1 1) (w.alloc (.cells #[.int .u64 0] 103)) := by kernel_rfl

set_option maxHeartbeats 400000 in
theorem scanSign_1 (b : Nat) (w : World) (h : Rdr b ⟨#[49]⟩ 0 w) :
    Calls Tryz.prog 119 #[.iface 119 (.pointer (some ⟨b, 0, none⟩))] w fun e' w' => e' = .returned (.tuple #[.bool false, .nilIface]) ∧ w'.heap.size = w.heap.size ∧ OnlyB b w w' ∧ Rdr b ⟨#[49]⟩ 0 w' := by
  go_enter Tryz.func119, Tryz.ntmps119
  go_wp2_with (fail)
  refine (ReadByte_1 b _ h).mono ?_
  rintro e w1 ⟨rfl, z1, o1, r1⟩
  go_wp2_with (fail)
  refine (UnreadByte_1 b _ r1).mono ?_
  rintro e w2 ⟨rfl, z2, o2, r2⟩
  go_wp2
  go_ret2
  exact ⟨rfl, z2.trans z1, o1.trans o2, r2⟩

set_option maxRecDepth 100000 in
set_option maxHeartbeats 1000000 in
theorem natScan_1 (b : Nat) (a : Addr) (w : World) (g : w.cell? ⟨2, 0, none⟩ = some (.iface 363 (.pointer (some a)))) (hb : 2 < w.heap.size ∧ 2 ≠ b) (h : Rdr b ⟨#[49]⟩ 0 w) :
    Calls Tryz.prog 120 #[.slice none 0 0, .iface 119 (.pointer (some ⟨b, 0, none⟩)), .int .i64 10, .bool false] w fun e' w' =>
      e' = .returned (.tuple #[.slice (some ⟨w.heap.size, 0, none⟩) 1 1, .int .i64 10, .int .i64 1, .nilIface]) ∧ w'.heap.size = w.heap.size + 1 ∧ OnlyB b w w' ∧ Rdr b ⟨#[49]⟩ 1 w' ∧ w'.heap[w.heap.size]? = some (.cells #[.int .u64 1] 103 (0, 0)) := by
  have hq := eql_same a
  have hmk := mk_1
  go_enter Tryz.func120, Tryz.ntmps120
  go_wp2_with (fail)
  refine (ReadByte_1 b _ h).mono ?_
  rintro e w1 ⟨rfl, z1, o1, r1⟩
  have g1 : w1.cell? ⟨2, 0, none⟩ = some (.iface 363 (.pointer (some a))) := (o1.cell hb.1 hb.2).trans g
  go_wp2_with (fail)
  refine (maxPow_10 _).mono ?_
  rintro e w' ⟨rfl, rfl⟩
  go_wp2_with (fail)
  refine wp_loop_rounds 2 ?_
  rw [rounds_succ]
  go_wp2_with (fail)
  refine (ReadByte_end_1 b _ _ g1 r1).mono ?_
  rintro e w2 ⟨rfl, z2, o2, r2⟩
  have g2 : w2.cell? ⟨2, 0, none⟩ = some (.iface 363 (.pointer (some a))) := (o2.cell (by rw [z1]; exact hb.1) hb.2).trans g1
  go_wp2_with (fail)
  rw [rounds_succ]
  go_wp2_with (fail)
  refine (pow_10_1 _).mono ?_
  rintro e w' ⟨rfl, rfl⟩
  go_wp2
  refine bodyPost_ret (v := .tuple #[.slice (some ⟨w.heap.size, 0, none⟩) 1 1, .int .i64 10, .int .i64 1, .nilIface]) ?_ rfl ?_
  · simp [results, Tryz.results120, go_sem]
  · exact ⟨rfl, by simp [z1, z2], (o1.trans o2).alloc _, r2.alloc _, heap_alloc_new _ _ _ (by rw [z2, z1])⟩
set_option maxHeartbeats 400000 in
theorem scanSign_2 (b : Nat) (w : World) (h : Rdr b ⟨#[50]⟩ 0 w) :
    Calls Tryz.prog 119 #[.iface 119 (.pointer (some ⟨b, 0, none⟩))] w fun e' w' => e' = .returned (.tuple #[.bool false, .nilIface]) ∧ w'.heap.size = w.heap.size ∧ OnlyB b w w' ∧ Rdr b ⟨#[50]⟩ 0 w' := by
  go_enter Tryz.func119, Tryz.ntmps119
  go_wp2_with (fail)
  refine (ReadByte_2 b _ h).mono ?_
  rintro e w1 ⟨rfl, z1, o1, r1⟩
  go_wp2_with (fail)
  refine (UnreadByte_2 b _ r1).mono ?_
  rintro e w2 ⟨rfl, z2, o2, r2⟩
  go_wp2
  go_ret2
  exact ⟨rfl, z2.trans z1, o1.trans o2, r2⟩

set_option maxRecDepth 100000 in
set_option maxHeartbeats 1000000 in
theorem natScan_2 (b : Nat) (a : Addr) (w : World) (g : w.cell? ⟨2, 0, none⟩ = some (.iface 363 (.pointer (some a)))) (hb : 2 < w.heap.size ∧ 2 ≠ b) (h : Rdr b ⟨#[50]⟩ 0 w) :
    Calls Tryz.prog 120 #[.slice none 0 0, .iface 119 (.pointer (some ⟨b, 0, none⟩)), .int .i64 10, .bool false] w fun e' w' =>
      e' = .returned (.tuple #[.slice (some ⟨w.heap.size, 0, none⟩) 1 1, .int .i64 10, .int .i64 1, .nilIface]) ∧ w'.heap.size = w.heap.size + 1 ∧ OnlyB b w w' ∧ Rdr b ⟨#[50]⟩ 1 w' ∧ w'.heap[w.heap.size]? = some (.cells #[.int .u64 2] 103 (0, 0)) := by
  have hq := eql_same a
  have hmk := mk_1
  go_enter Tryz.func120, Tryz.ntmps120
  go_wp2_with (fail)
  refine (ReadByte_2 b _ h).mono ?_
  rintro e w1 ⟨rfl, z1, o1, r1⟩
  have g1 : w1.cell? ⟨2, 0, none⟩ = some (.iface 363 (.pointer (some a))) := (o1.cell hb.1 hb.2).trans g
  go_wp2_with (fail)
  refine (maxPow_10 _).mono ?_
  rintro e w' ⟨rfl, rfl⟩
  go_wp2_with (fail)
  refine wp_loop_rounds 2 ?_
  rw [rounds_succ]
  go_wp2_with (fail)
  refine (ReadByte_end_2 b _ _ g1 r1).mono ?_
  rintro e w2 ⟨rfl, z2, o2, r2⟩
  have g2 : w2.cell? ⟨2, 0, none⟩ = some (.iface 363 (.pointer (some a))) := (o2.cell (by rw [z1]; exact hb.1) hb.2).trans g1
  go_wp2_with (fail)
  rw [rounds_succ]
  go_wp2_with (fail)
  refine (pow_10_1 _).mono ?_
  rintro e w' ⟨rfl, rfl⟩
  go_wp2
  refine bodyPost_ret (v := .tuple #[.slice (some ⟨w.heap.size, 0, none⟩) 1 1, .int .i64 10, .int .i64 1, .nilIface]) ?_ rfl ?_
  · simp [results, Tryz.results120, go_sem]
  · exact ⟨rfl, by simp [z1, z2], (o1.trans o2).alloc _, r2.alloc _, heap_alloc_new _ _ _ (by rw [z2, z1])⟩
set_option maxHeartbeats 400000 in
theorem scanSign_3 (b : Nat) (w : World) (h : Rdr b ⟨#[51]⟩ 0 w) :
    Calls Tryz.prog 119 #[.iface 119 (.pointer (some ⟨b, 0, none⟩))] w fun e' w' => e' = .returned (.tuple #[.bool false, .nilIface]) ∧ w'.heap.size = w.heap.size ∧ OnlyB b w w' ∧ Rdr b ⟨#[51]⟩ 0 w' := by
  go_enter Tryz.func119, Tryz.ntmps119
  go_wp2_with (fail)
  refine (ReadByte_3 b _ h).mono ?_
  rintro e w1 ⟨rfl, z1, o1, r1⟩
  go_wp2_with (fail)
  refine (UnreadByte_3 b _ r1).mono ?_
  rintro e w2 ⟨rfl, z2, o2, r2⟩
  go_wp2
  go_ret2
  exact ⟨rfl, z2.trans z1, o1.trans o2, r2⟩

set_option maxRecDepth 100000 in
set_option maxHeartbeats 1000000 in
theorem natScan_3 (b : Nat) (a : Addr) (w : World) (g : w.cell? ⟨2, 0, none⟩ = some (.iface 363 (.pointer (some a)))) (hb : 2 < w.heap.size ∧ 2 ≠ b) (h : Rdr b ⟨#[51]⟩ 0 w) :
    Calls Tryz.prog 120 #[.slice none 0 0, .iface 119 (.pointer (some ⟨b, 0, none⟩)), .int .i64 10, .bool false] w fun e' w' =>
      e' = .returned (.tuple #[.slice (some ⟨w.heap.size, 0, none⟩) 1 1, .int .i64 10, .int .i64 1, .nilIface]) ∧ w'.heap.size = w.heap.size + 1 ∧ OnlyB b w w' ∧ Rdr b ⟨#[51]⟩ 1 w' ∧ w'.heap[w.heap.size]? = some (.cells #[.int .u64 3] 103 (0, 0)) := by
  have hq := eql_same a
  have hmk := mk_1
  go_enter Tryz.func120, Tryz.ntmps120
  go_wp2_with (fail)
  refine (ReadByte_3 b _ h).mono ?_
  rintro e w1 ⟨rfl, z1, o1, r1⟩
  have g1 : w1.cell? ⟨2, 0, none⟩ = some (.iface 363 (.pointer (some a))) := (o1.cell hb.1 hb.2).trans g
  go_wp2_with (fail)
  refine (maxPow_10 _).mono ?_
  rintro e w' ⟨rfl, rfl⟩
  go_wp2_with (fail)
  refine wp_loop_rounds 2 ?_
  rw [rounds_succ]
  go_wp2_with (fail)
  refine (ReadByte_end_3 b _ _ g1 r1).mono ?_
  rintro e w2 ⟨rfl, z2, o2, r2⟩
  have g2 : w2.cell? ⟨2, 0, none⟩ = some (.iface 363 (.pointer (some a))) := (o2.cell (by rw [z1]; exact hb.1) hb.2).trans g1
  go_wp2_with (fail)
  rw [rounds_succ]
  go_wp2_with (fail)
  refine (pow_10_1 _).mono ?_
  rintro e w' ⟨rfl, rfl⟩
  go_wp2
  refine bodyPost_ret (v := .tuple #[.slice (some ⟨w.heap.size, 0, none⟩) 1 1, .int .i64 10, .int .i64 1, .nilIface]) ?_ rfl ?_
  · simp [results, Tryz.results120, go_sem]
  · exact ⟨rfl, by simp [z1, z2], (o1.trans o2).alloc _, r2.alloc _, heap_alloc_new _ _ _ (by rw [z2, z1])⟩

end Go.Proofs.YtiiopcjdbldihaaGreatFmtBesafter
