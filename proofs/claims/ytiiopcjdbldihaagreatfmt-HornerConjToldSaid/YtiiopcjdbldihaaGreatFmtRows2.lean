/- Rows of complex numbers that the call owns, the empty one too: horner.Value, Both, Bound, CopyNums, finite over them. No condition. -/
import Derived.Test.YtiiopcjdbldihaaGreatFmtCs
import Derived.Test.YtiiopcjdbldihaaGreatFmtCopy
import Derived.Test.YtiiopcjdbldihaaGreatFmtBnd
namespace Go.Proofs.YtiiopcjdbldihaaGreatFmt
open Go.RowKit Go.SurdFp

/-- v holds the numbers l, in a block of the call's own (base: from which block on) -/
def Row (base : Nat) (w : World) (v : Value) (l : List CB) : Prop := w.ownsRow base 29 1 v l.length (l.map cval)
theorem Row.form {base : Nat} {w : World} {v : Value} {l : List CB} (h : Row base w v l) :
    ∃ ao cap, v = .slice ao l.length cap ∧ (l = [] ∨ ∃ r, ao = some ⟨r, 0, none⟩ ∧ base ≤ r ∧ r < w.heap.size ∧ ∀ j (hj : j < l.length), w.cell? ⟨r, j, none⟩ = some (.complex .f64 l[j].1 l[j].2)) := by
  rcases h.2 with ⟨rfl, h0⟩ | ⟨g, cap, cur, rfl, hb, hg, _⟩
  · exact ⟨none, 0, by rw [h0], .inl (List.eq_nil_of_length_eq_zero h0)⟩
  · refine ⟨some ⟨g, 0, none⟩, cap, rfl, .inr ⟨g, rfl, hb, ?_, row_cells h⟩⟩
    exact (World.ownsRow.lt h g rfl).2
theorem Row.later {base : Nat} {w w' : World} {v : Value} {l : List CB} (h : Row base w v l) (B : Below w.heap.size w w') : Row base w' v l :=
  World.ownsRow.kept (row := none) h ⟨B.os, B.tape, B.output, B.size, fun k hk _ => B.block k hk⟩ (by
    cases hv : v.ownBlock
    · exact .inl rfl
    · exact .inr (by simp))
/-- v holds the numbers l -/
def Vals (w : World) (v : Value) (l : List CB) : Prop :=
  ∃ ao cap, v = .slice ao l.length cap ∧ (l = [] ∨ ∃ r, ao = some ⟨r, 0, none⟩ ∧ ∀ j (hj : j < l.length), w.cell? ⟨r, j, none⟩ = some (.complex .f64 l[j].1 l[j].2))
theorem Row.vals {base : Nat} {w : World} {v : Value} {l : List CB} (h : Row base w v l) : Vals w v l := by
  obtain ⟨ao, cap, e, h0 | ⟨r, hr, _, _, hc⟩⟩ := h.form
  · exact ⟨ao, cap, e, .inl h0⟩
  · exact ⟨ao, cap, e, .inr ⟨r, hr, hc⟩⟩
theorem Vals.later {w w' : World} {v : Value} {l : List CB} (h : Vals w v l) (B : Below w.heap.size w w') : Vals w' v l := by
  obtain ⟨ao, cap, e, h0 | ⟨r, hr, hc⟩⟩ := h
  · exact ⟨ao, cap, e, .inl h0⟩
  · exact ⟨ao, cap, e, .inr ⟨r, hr, fun j hj => (B.cell (p := ⟨r, j, none⟩) (lt_of_cell (hc j hj))).trans (hc j hj)⟩⟩
theorem Row.dr {base : Nat} {w w' : World} {v : Value} {l : List CB} (h : Row base w v l) (D : Dr w w') : Row base w' v l := by
  obtain ⟨n, rfl⟩ := D
  exact h.later ⟨rfl, rfl, rfl, Nat.le_refl _, fun _ _ => rfl⟩
theorem below_dr {B : Nat} {a w w' : World} (h : Below B a w) (D : Dr w w') : Below B a w' := by
  obtain ⟨n, rfl⟩ := D
  exact ⟨h.os, h.tape, h.output, h.size, h.block⟩

set_option maxRecDepth 100000 in
set_option maxHeartbeats 4000000 in
theorem down_nil (F : FuncId) (ao : Option Addr) (cap : Nat) (z : CB) (hz : LtC z) (w : World) :
    Calls Tryz.prog 18 #[.slice ao 0 cap, .complex .f64 z.1 z.2, .func (.func F) #[] #[]] w fun e w' => ∃ sz,
      e = .returned (.tuple #[.pointer (some ⟨w.heap.size, 0, none⟩), .int .i64 0]) ∧ SumAt w.heap.size z (0, 0) (0, 0) sz 0 w' ∧ Below w.heap.size w w' := by
  go_enter Tryz.func18, Tryz.ntmps18
  go_wp2_with (fail)
  refine (one_any z.1 z.2 hz.1 hz.2 _).mono ?_
  rintro e w1 ⟨sz, rfl, hsz, lsz, D1⟩
  have zw1 : w1.heap.size = w.heap.size := by rw [dr_heap D1]
  have b1 : Below w.heap.size w w1 := below_dr (Below.refl _ w) D1
  have nA := heap_alloc_new w1 (.cells #[.complex .f64 z.1 z.2, .complex .f64 0 0, .complex .f64 0 0, .float .f64 sz, .float .f64 0] 56) _ rfl
  have bA := b1.alloc (by omega) (.cells #[.complex .f64 z.1 z.2, .complex .f64 0 0, .complex .f64 0 0, .float .f64 sz, .float .f64 0] 56)
  rw [zw1] at nA
  go_wp2
  go_ret2
  exact ⟨sz, by simp, nA, bA⟩

set_option maxRecDepth 100000 in
set_option maxHeartbeats 4000000 in
theorem Value_nil (ao : Option Addr) (cap : Nat) (z : CB) (hz : LtC z) (w : World) :
    Calls Tryz.prog 13 #[.slice ao 0 cap, .complex .f64 z.1 z.2] w fun e w' => e = .returned (.tuple #[.complex .f64 0 0, .int .i64 0]) ∧ Below w.heap.size w w' := by
  go_enter Tryz.func13, Tryz.ntmps13
  go_wp2_with (fail)
  refine (down_nil 25 ao cap z hz w).mono ?_
  rintro e w1 ⟨sz, rfl, hS, B⟩
  have c1 : w1.cell? ⟨w.heap.size, 1, none⟩ = some (.complex .f64 0 0) := cell_of_block (o := 1) hS rfl
  go_wp2
  go_ret2
  exact ⟨rfl, B⟩
set_option maxRecDepth 100000 in
set_option maxHeartbeats 4000000 in
theorem Both_nil (ao : Option Addr) (cap : Nat) (z : CB) (hz : LtC z) (w : World) :
    Calls Tryz.prog 7 #[.slice ao 0 cap, .complex .f64 z.1 z.2] w fun e w' => e = .returned (.tuple #[.complex .f64 0 0, .complex .f64 0 0, .int .i64 0]) ∧ Below w.heap.size w w' := by
  go_enter Tryz.func7, Tryz.ntmps7
  go_wp2_with (fail)
  refine (down_nil 19 ao cap z hz w).mono ?_
  rintro e w1 ⟨sz, rfl, hS, B⟩
  have c1 : w1.cell? ⟨w.heap.size, 1, none⟩ = some (.complex .f64 0 0) := cell_of_block (o := 1) hS rfl
  have c2 : w1.cell? ⟨w.heap.size, 2, none⟩ = some (.complex .f64 0 0) := cell_of_block (o := 2) hS rfl
  go_wp2
  go_quiet (fail)
  go_wp2
  go_ret3
  exact ⟨rfl, ⟨B.os, B.tape, B.output, B.size, B.block⟩⟩
set_option maxRecDepth 100000 in
set_option maxHeartbeats 4000000 in
theorem Bound_nil (ao : Option Addr) (cap : Nat) (z : CB) (hz : LtC z) (w : World) :
    Calls Tryz.prog 9 #[.slice ao 0 cap, .complex .f64 z.1 z.2] w fun e w' => e = .returned (.tuple #[.float .f64 0, .int .i64 0]) ∧ Below w.heap.size w w' := by
  go_enter Tryz.func9, Tryz.ntmps9
  go_wp2_with (fail)
  refine (down_nil 21 ao cap z hz w).mono ?_
  rintro e w1 ⟨sz, rfl, hS, B⟩
  have c4 : w1.cell? ⟨w.heap.size, 4, none⟩ = some (.float .f64 0) := cell_of_block (o := 4) hS rfl
  go_wp2
  go_ret2
  exact ⟨rfl, B⟩

theorem Value_row {v : Value} {l : List CB} {w : World} (h : Vals w v l) (h2 : l.length ≤ 65) (z : CB) (hz : LtC z) :
    Calls Tryz.prog 13 #[v, .complex .f64 z.1 z.2] w fun e w' =>
      ∃ u : CB, e = .returned (.tuple #[.complex .f64 u.1 u.2, .int .i64 0]) ∧ cnp u = hv (l.map cnp) (cnp z) ∧ Below w.heap.size w w' := by
  obtain ⟨ao, cap, rfl, rfl | ⟨r, rfl, hc⟩⟩ := h
  · refine (Value_nil ao cap z hz w).mono ?_
    rintro e w1 ⟨rfl, B⟩
    exact ⟨(0, 0), rfl, by show (cn 0, cn 0) = (0, 0); rw [cn_zero], B⟩
  · by_cases h0 : 0 < l.length
    · exact Value_any r cap l z hz w h0 h2 hc
    · have e : l = [] := List.eq_nil_of_length_eq_zero (by omega)
      subst e
      refine (Value_nil _ cap z hz w).mono ?_
      rintro e w1 ⟨rfl, B⟩
      exact ⟨(0, 0), rfl, by show (cn 0, cn 0) = (0, 0); rw [cn_zero], B⟩
theorem Both_row {v : Value} {l : List CB} {w : World} (h : Vals w v l) (h2 : l.length ≤ 65) (z : CB) (hz : LtC z) :
    Calls Tryz.prog 7 #[v, .complex .f64 z.1 z.2] w fun e w' =>
      ∃ u s : CB, e = .returned (.tuple #[.complex .f64 u.1 u.2, .complex .f64 s.1 s.2, .int .i64 0]) ∧ cnp u = hv (l.map cnp) (cnp z) ∧ cnp s = hs (l.map cnp) (cnp z) ∧ Below w.heap.size w w' := by
  obtain ⟨ao, cap, rfl, rfl | ⟨r, rfl, hc⟩⟩ := h
  · refine (Both_nil ao cap z hz w).mono ?_
    rintro e w1 ⟨rfl, B⟩
    exact ⟨(0, 0), (0, 0), rfl, by show (cn 0, cn 0) = (0, 0); rw [cn_zero], by show (cn 0, cn 0) = (0, 0); rw [cn_zero], B⟩
  · by_cases h0 : 0 < l.length
    · exact Both_any r cap l z hz w h0 h2 hc
    · have e : l = [] := List.eq_nil_of_length_eq_zero (by omega)
      subst e
      refine (Both_nil _ cap z hz w).mono ?_
      rintro e w1 ⟨rfl, B⟩
      exact ⟨(0, 0), (0, 0), rfl, by show (cn 0, cn 0) = (0, 0); rw [cn_zero], by show (cn 0, cn 0) = (0, 0); rw [cn_zero], B⟩
theorem Bound_row {v : Value} {l : List CB} {w : World} (h : Vals w v l) (h2 : l.length ≤ 65) (hlt : ∀ j (hj : j < l.length), LtC l[j]) (z : CB) (hz : LtC z) :
    Calls Tryz.prog 9 #[v, .complex .f64 z.1 z.2] w fun e w' =>
      ∃ r, e = .returned (.tuple #[.float .f64 r, .int .i64 0]) ∧ cn r = be (l.map cnp) (cnp z) ∧ Below w.heap.size w w' := by
  obtain ⟨ao, cap, rfl, rfl | ⟨r, rfl, hc⟩⟩ := h
  · refine (Bound_nil ao cap z hz w).mono ?_
    rintro e w1 ⟨rfl, B⟩
    exact ⟨0, rfl, cn_zero, B⟩
  · by_cases h0 : 0 < l.length
    · exact Bound_any r cap l z hz w h0 h2 hlt hc
    · have e : l = [] := List.eq_nil_of_length_eq_zero (by omega)
      subst e
      refine (Bound_nil _ cap z hz w).mono ?_
      rintro e w1 ⟨rfl, B⟩
      exact ⟨0, rfl, cn_zero, B⟩
set_option maxRecDepth 100000 in
set_option maxHeartbeats 1000000 in
theorem CopyNums_none (w : World) :
    Calls Tryz.prog 8 #[.slice none 0 0] w fun e w' => e = .returned (.slice (some ⟨w.heap.size, 0, none⟩) 0 0) ∧ w' = w.alloc (.cells #[] 29) := by
  go_enter Tryz.func8, Tryz.ntmps8
  go_wp2
  go_ret
  exact ⟨rfl, rfl⟩
theorem CopyNums_row {v : Value} {l : List CB} {w : World} (base : Nat) (h : Row base w v l) (hn : l = [] → v = .slice none 0 0) (h2 : l.length ≤ 65) :
    Calls Tryz.prog 8 #[v] w fun e w' => ∃ u, e = .returned u ∧ Row w.heap.size w' u l ∧ Below w.heap.size w w' := by
  by_cases h0 : 0 < l.length
  · obtain ⟨ao, cap, rfl, rfl | ⟨r, rfl, _, _, hc⟩⟩ := h.form
    · cases h0
    · exact CopyNums_any r cap l w h2 h0 hc
  · have e : l = [] := List.eq_nil_of_length_eq_zero (by omega)
    rw [hn e, e]
    refine (CopyNums_none w).mono ?_
    rintro e w1 ⟨rfl, rfl⟩
    exact ⟨_, rfl, World.ownsRow_made w #[] 0 (Nat.le_refl _) (by decide) rfl, (Below.refl _ w).alloc (Nat.le_refl _) _⟩
end Go.Proofs.YtiiopcjdbldihaaGreatFmt
