/- horner's step of the bound. No condition. -/
import Derived.Test.YtiiopcjdbldihaaGreatFmtBesafterHorn
import Derived.BigQuiet
import Derived.Deep.QuietTactic
namespace Go
namespace SurdFp
theorem cn_cn (x : Nat) : cn (cn x) = cn x := by
  by_cases h : nan x = true
  · rw [cn_nan h]; exact cn_nan nan_nanC
  · have e : nan x = false := by simpa using h
    rw [cn_not e, cn_not e]
theorem upB_cn (x y : Nat) : upB (cn x) y = upB x y := by unfold upB; rw [cn_cn]
/-- the step of the bound, in bits: of the sizes ov, ov' of value and next value -/
def bdE (ov ov' sz er : Nat) : Nat :=
  nx (fop .add (nx (fop .add (upB er sz) (upB (upB ov sz) 4377498837804122112))) (nx (fop .add (upB ov' 4372995238176751616) 16)))
end SurdFp
end Go
namespace Go.Proofs.YtiiopcjdbldihaaGreatFmtBesafter
open Go.RowKit Go.SurdFp

theorem SumAt.dr {k : Nat} {z v s : CB} {sz er : Nat} {w w' : World} (h : SumAt k z v s sz er w) (d : Dr w w') : SumAt k z v s sz er w' := (congrArg (fun h => h[k]?) (dr_heap d)).trans h
theorem OnlyB.dr {k : Nat} {u w w' : World} (h : OnlyB k u w) (d : Dr w w') : OnlyB k u w' := by obtain ⟨n, rfl⟩ := d; exact h.drewN n

set_option maxRecDepth 100000 in
set_option maxHeartbeats 4000000 in
theorem bound_any (k : Nat) (z v s : CB) (sz er : Nat) (c : CB) (w : World) (h : SumAt k z v s sz er w) (hv : LtC v) :
    Calls Tryz.prog 29 #[.pointer (some ⟨k, 0, none⟩), .complex .f64 c.1 c.2] w fun e w' => e = .returned (.tuple #[]) ∧ ∃ u r, SumAt k z u s sz r w' ∧ cnp u = cadd (cmul (cnp v) (cnp z)) (cnp c) ∧ cn r = bdE (on v) (on u) sz er ∧ LtC u ∧ w'.heap.size = w.heap.size ∧ OnlyB k w w' := by
  obtain ⟨v1, v2⟩ := v
  have hadd := fun x y w => run_fop (P := Tryz.prog) .add (by simp) 38 x y w
  have d1 : w.cell? ⟨k, 1, none⟩ = some (.complex .f64 v1 v2) := cell_of_block (o := 1) h rfl
  go_enter Tryz.func29, Tryz.ntmps29
  go_wp2_with (fail)
  refine (one_any v1 v2 hv.1 hv.2 _).mono ?_
  rintro e w1 ⟨ahead, rfl, hah, lah, D1⟩
  have S1 := h.dr D1
  go_wp2_with (fail)
  refine (value_any k z (v1, v2) s sz er c _ S1).mono ?_
  rintro e w2 ⟨rfl, ⟨u1, u2⟩, S2, hu, lu, z2, o2⟩
  have c3 : w2.cell? ⟨k, 3, none⟩ = some (.float .f64 sz) := cell_of_block (o := 3) S2 rfl
  go_wp2_with (fail)
  refine (up_any ahead sz _).mono ?_
  rintro e w3 ⟨p1, rfl, hp1, lp1, D3⟩
  go_wp2_with (fail)
  refine (up_any p1 4377498837804122112 _).mono ?_
  rintro e w4 ⟨p2, rfl, hp2, lp2, D4⟩
  have S4 := (S2.dr D3).dr D4
  have c1 : w4.cell? ⟨k, 1, none⟩ = some (.complex .f64 u1 u2) := cell_of_block (o := 1) S4 rfl
  go_wp2_with (fail)
  refine (one_any u1 u2 lu.1 lu.2 _).mono ?_
  rintro e w5 ⟨o5, rfl, ho5, lo5, D5⟩
  go_wp2_with (fail)
  refine (up_any o5 4372995238176751616 _).mono ?_
  rintro e w6 ⟨p6, rfl, hp6, lp6, D6⟩
  go_wp2_with (fail)
  refine (Next_any _ (fres_lt _ _ _) _).mono ?_
  rintro e w7 ⟨rfl, rfl⟩
  have S7 := ((S4.dr D5).dr D6).dr ((Dr.refl _).step .add p6 16)
  obtain ⟨W, hW⟩ : ∃ W, fdr .add p6 16 w6 = W := ⟨_, rfl⟩
  rw [hW] at S7
  have D7 : Dr w6 W := by rw [← hW]; exact (Dr.refl _).step .add p6 16
  have a3 : W.drew.cell? ⟨k, 3, none⟩ = some (.float .f64 sz) := cell_of_block (w := W.drew) (o := 3) S7 rfl
  have a4 : W.drew.cell? ⟨k, 4, none⟩ = some (.float .f64 er) := cell_of_block (w := W.drew) (o := 4) S7 rfl
  go_wp2_with (fail)
  go_region_with (go_at_call 42; go_must (refine (up_any er sz W.drew).mono ?_); go_must (rintro e w8 ⟨p8, rfl, hp8, lp8, D8⟩); have b3 := (dr_cell D8 ⟨k, 3, none⟩).trans a3; have b4 := (dr_cell D8 ⟨k, 4, none⟩).trans a4)
  all_goals
    have S8 := S7.dr ((dr_drew W).trans D8)
    have O8 : OnlyB k w w8 := ((((((((OnlyB.refl k w).dr D1).trans o2).dr D3).dr D4).dr D5).dr D6).dr D7).dr ((dr_drew W).trans D8)
    have Z8 : w8.heap.size = w.heap.size := by
      rw [dr_heap D8]; show W.heap.size = _
      rw [dr_heap D7, dr_heap D6, dr_heap D5, dr_heap D4, dr_heap D3, z2, dr_heap D1]
    go_wp2_with (fail)
    refine (Next_any _ (fres_lt _ _ _) _).mono ?_
    rintro e w9 ⟨rfl, rfl⟩
    go_wp2_with (fail)
    refine (Next_any _ (fres_lt _ _ _) _).mono ?_
    rintro e w10 ⟨rfl, rfl⟩
    obtain ⟨W9, hW9⟩ : ∃ x, fdr .add (nx (fres .add p8 p2 w8)) (nx (fres .add p6 16 w6)) (fdr .add p8 p2 w8) = x := ⟨_, rfl⟩
    obtain ⟨R, hR⟩ : ∃ x, nx (fres .add (nx (fres .add p8 p2 w8)) (nx (fres .add p6 16 w6)) (fdr .add p8 p2 w8)) = x := ⟨_, rfl⟩
    rw [hW9, hR]
    have D9 : Dr w8 W9 := by rw [← hW9]; exact ((Dr.refl _).step _ _ _).step _ _ _
    have hcn : cn R = bdE (on (v1, v2)) (on (u1, u2)) sz er := by
      rw [← hR, cn_nx (fres_lt _ _ _), cn_fres (op := .add) (.inl rfl), cn_nx (fres_lt _ _ _), cn_fres (op := .add) (.inl rfl), cn_nx (fres_lt _ _ _), cn_fres (op := .add) (.inl rfl), hp8, hp2, hp6, ← upB_cn p1, hp1, ← upB_cn ahead, hah, ← upB_cn o5, ho5]
      rfl
    have S9 := S8.dr D9
    have q4 : W9.cell? ⟨k, 4, none⟩ = some (.float .f64 er) := cell_of_block (o := 4) S9 rfl
    have f4 : W9.frozen? ⟨k, 4, none⟩ = false := free_of_block (o := 4) S9
    clear hW hW9 hR
    go_wp2
    clear hadd
    go_end0
    exact ⟨rfl, (u1, u2), R, block_setCell S9, hu, hcn, lu, by simp [dr_heap D9, Z8], (O8.dr D9).setCell 4 _⟩
end Go.Proofs.YtiiopcjdbldihaaGreatFmtBesafter
