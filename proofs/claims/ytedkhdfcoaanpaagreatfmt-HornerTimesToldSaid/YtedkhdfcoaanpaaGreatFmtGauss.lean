/- surdlaw16.gauss. No condition. -/
import Derived.Test.YtedkhdfcoaanpaaGreatFmtRows2
import Derived.Test.YtedkhdfcoaanpaaGreatFmtInt
namespace Go
namespace SurdFp
/-- whole numbers cut down by a modulus, as floats and as they are -/
def gq (m : Int) (q : Int × Int) : CB := (floatOfInt .f64 (q.1.tmod m), floatOfInt .f64 (q.2.tmod m))
def gg (m : Int) (q : Int × Int) : GI := (q.1.tmod m, q.2.tmod m)
theorem gq_lt (m : Int) (q : Int × Int) : LtC (gq m q) := by
  have h := fun n => floatOfInt_wf .f64 n
  constructor
  · have := h (q.1.tmod m); simpa [Lit.wf, gq] using this
  · have := h (q.2.tmod m); simpa [Lit.wf, gq] using this
theorem gq_64 (q : Int × Int) : IZC (gq 64 q) (gg 64 q) ∧ Bd 63 (gg 64 q) := by
  have h1 : (q.1.tmod 64).natAbs < 64 := by rw [Int.natAbs_tmod]; exact Nat.mod_lt _ (by decide)
  have h2 : (q.2.tmod 64).natAbs < 64 := by rw [Int.natAbs_tmod]; exact Nat.mod_lt _ (by decide)
  exact ⟨⟨IZ_of_int (by show (q.1.tmod 64).natAbs < _; omega), IZ_of_int (by show (q.2.tmod 64).natAbs < _; omega)⟩, ⟨by show (q.1.tmod 64).natAbs ≤ 63; omega, by show (q.2.tmod 64).natAbs ≤ 63; omega⟩⟩
theorem gq_16 (q : Int × Int) : IZC (gq 16 q) (gg 16 q) ∧ Bd 15 (gg 16 q) := by
  have h1 : (q.1.tmod 16).natAbs < 16 := by rw [Int.natAbs_tmod]; exact Nat.mod_lt _ (by decide)
  have h2 : (q.2.tmod 16).natAbs < 16 := by rw [Int.natAbs_tmod]; exact Nat.mod_lt _ (by decide)
  exact ⟨⟨IZ_of_int (by show (q.1.tmod 16).natAbs < _; omega), IZ_of_int (by show (q.2.tmod 16).natAbs < _; omega)⟩, ⟨by show (q.1.tmod 16).natAbs ≤ 15; omega, by show (q.2.tmod 16).natAbs ≤ 15; omega⟩⟩
end SurdFp
end Go
namespace Go.Proofs.YtedkhdfcoaanpaaGreatFmt
open Go.RowKit Go.SurdFp

/-- pairs of whole numbers lie behind a -/
structure PairsAt (a : Addr) (l : List (Int × Int)) (w : World) : Prop where
  re : ∀ j (hj : j < l.length), w.cell? (a.add (j * 2)) = some (.int .i64 l[j].1)
  im : ∀ j (hj : j < l.length), w.cell? (a.add (j * 2 + 1)) = some (.int .i64 l[j].2)
theorem PairsAt.lt {a : Addr} {l : List (Int × Int)} {w : World} (h : PairsAt a l w) {k : Nat} (hk : k < l.length) : a.block < w.heap.size := by
  have := World.block_lt_of_cell? w _ (h.re k hk)
  rwa [Go.ChangeShapes.block_add] at this
theorem PairsAt.below {a : Addr} {l : List (Int × Int)} {w w' : World} (h : PairsAt a l w) {B : Nat} (b : Below B w w') (hB : w.heap.size ≤ B) : PairsAt a l w' :=
  ⟨fun j hj => (b.cell (p := a.add (j * 2)) (by rw [Go.ChangeShapes.block_add]; exact Nat.lt_of_lt_of_le (h.lt hj) hB)).trans (h.re j hj),
   fun j hj => (b.cell (p := a.add (j * 2 + 1)) (by rw [Go.ChangeShapes.block_add]; exact Nat.lt_of_lt_of_le (h.lt hj) hB)).trans (h.im j hj)⟩

set_option maxRecDepth 100000 in
set_option maxHeartbeats 4000000 in
theorem gauss_any (a : Addr) (cap : Nat) (l : List (Int × Int)) (w : World) (h2 : l.length ≤ 4) (hl : PairsAt a l w) :
    Calls Tryz.prog 7 #[.slice (some a) l.length cap] w fun e w' => ∃ v, e = .returned v ∧ Row w.heap.size w' v (l.map (gq 64)) ∧ Below w.heap.size w w' := by
  obtain ⟨i0, hi, hz0, hz1, hz2⟩ := info_complex
  have hcv : ∀ n w, (convert 3 27 (.int .i64 n)).run Tryz.prog w = .ok (.float .f64 (floatOfInt .f64 n)) w := fun n w => run_convert_int_float w 3 27 .i64 .f64 n (by kernel_rfl) (by kernel_rfl)
  go_enter Tryz.func7, Tryz.ntmps7
  go_wp2_with (fail)
  go_loopw [3, 4] (fun o i wr => ∃ k : Nat, k ≤ l.length ∧ i = .int .i64 (k : Int) ∧ wr.ownsRow w.heap.size 28 1 o k (((l.take k).map (gq 64)).map cval) ∧ Below w.heap.size w wr)
    (fun _ i _ => l.length - (intOf i).toNat)
  case atStart => exact ⟨0, Nat.zero_le _, rfl, World.ownsRow_nil _ _ _ _, Below.refl _ _⟩
  case round =>
    obtain ⟨k, hk, rfl, ho, hB⟩ := hrel
    by_cases hlt : k < l.length
    · have hlt' : (k : Int) < l.length := by omega
      have g0 : (0 : Int) ≤ k := by omega
      have hlw := hl.below hB (Nat.le_refl _)
      have c0 : wr.drew.cell? (a.add (k * 2)) = some (.int .i64 l[k].1) := hlw.re k hlt
      have c1 : wr.drew.cell? (a.add (k * 2 + 1)) = some (.int .i64 l[k].2) := hlw.im k hlt
      have ea : (a.add (k * 2)).add 1 = ⟨(a.add (k * 2)).block, (a.add (k * 2)).off + 1, none⟩ := by simp [Addr.add]
      have c1' : wr.drew.cell? ⟨(a.add (k * 2)).block, (a.add (k * 2)).off + 1, none⟩ = some (.int .i64 l[k].2) := by
        rw [← ea, Go.Deep.add_add]; exact c1
      have e0 : l.take (k + 1) = l.take k ++ [l[k]] := List.take_succ_eq_append_getElem hlt
      clear ea c1
      have ho' : wr.drew.ownsRow w.heap.size 28 1 u3 k (((l.take k).map (gq 64)).map cval) := ho
      have hbase : w.heap.size ≤ wr.heap.size := hB.size
      go_wp2_with (fail)
      go_region_law (refine step_append_lies _ rfl (.tmp 11) (.tmp 27) 25 rfl w.heap.size 28 i0 (.complex .f64 0 0) 1 16 Tryz.underlying25 hi hz0 hz1 hz2 rfl (by decide) u3 k _ rfl (ho'.alloc _) ⟨wr.heap.size, 0, none⟩ 1 1 [cval (gq 64 l[k])] rfl rfl (World.news_of_block (heap_alloc_new _ _ _ rfl)) (fun u hu => one_cells u _ hu) (by decide) (by simp only [maxLen]; omega) (by omega) (by simp; omega) _ rfl ?_; intro g4 cap4 w4 hown hgrow hat hlt4)
      all_goals
        have B4 : Below w.heap.size w w4 := ((hB.drew).alloc (by simpa using hbase) _).grown hgrow (by simp; omega) (fun q hq => (World.ownsRow.lt ho' q hq).1)
        go_wp2_with (fail)
        go_roundw
        case rel =>
          refine ⟨k + 1, by omega, by go_num, ?_, B4⟩
          rw [e0, List.map_append, List.map_append]
          exact hown
        case measure => simp [intOf]; omega
    · have ek : k = l.length := by omega
      have he : ¬ ((k : Int) < l.length) := by omega
      have e1 : l.take k = l := by rw [ek]; exact List.take_length
      rw [e1] at ho
      have ho' : Row w.heap.size wr u3 (l.map (gq 64)) := by
        show wr.ownsRow _ _ 1 u3 (l.map (gq 64)).length _
        rw [List.length_map, ← ek]; exact ho
      go_wp2
      go_ret
      exact ⟨u3, rfl, ho', hB⟩
end Go.Proofs.YtedkhdfcoaanpaaGreatFmt
