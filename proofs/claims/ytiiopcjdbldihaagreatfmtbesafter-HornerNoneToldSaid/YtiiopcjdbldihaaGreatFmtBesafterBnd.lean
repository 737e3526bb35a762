/- horner.Bound. No condition. -/
import Derived.Test.YtiiopcjdbldihaaGreatFmtBesafterDown
namespace Go
namespace SurdFp
theorem nan_mod (x : Nat) : nan (x % 2 ^ 63) = nan x := by unfold nan; rw [Nat.mod_mod]
theorem cn_mod (x : Nat) : cn (cn x % 2 ^ 63) = cn (x % 2 ^ 63) := by
  by_cases h : nan x = true
  · rw [cn_nan h, cn_nan (x := x % 2 ^ 63) (by rw [nan_mod]; exact h)]
    decide +kernel
  · rw [cn_not (x := x) (by simpa using h)]
theorem on_cnp (c : CB) : on (cnp c) = on c := by
  unfold on cnp
  rw [cn_mod, cn_mod]
theorem bdE_cn (a b s e : Nat) : bdE a b (cn s) (cn e) = bdE a b s e := by
  unfold bdE upB
  rw [cn_cn, cn_cn]
/-- the bound in bits -/
def be : List CB → CB → Nat
  | [], _ => 0
  | [_], _ => 0
  | c :: d :: l, z => bdE (on (hv (d :: l) z)) (on (hv (c :: d :: l) z)) (on z) (be (d :: l) z)
end SurdFp
end Go
namespace Go.Proofs.YtiiopcjdbldihaaGreatFmtBesafter
open Go.RowKit Go.SurdFp

theorem be_drop (l : List CB) (z : CB) (m : Nat) (hm : m + 1 < l.length) : be ((l.drop m).map cnp) z = bdE (on (hv ((l.drop (m + 1)).map cnp) z)) (on (hv ((l.drop m).map cnp) z)) (on z) (be ((l.drop (m + 1)).map cnp) z) := by
  rw [List.drop_eq_getElem_cons (show m < l.length by omega), List.drop_eq_getElem_cons hm]
  rfl

set_option maxRecDepth 100000 in
set_option maxHeartbeats 1000000 in
theorem Bound_any (b cap : Nat) (l : List CB) (z : CB) (hz : LtC z) (w : World) (h1 : 0 < l.length) (h2 : l.length ≤ 65) (hlt : ∀ j (hj : j < l.length), LtC l[j])
    (hl : ∀ j (hj : j < l.length), w.cell? ⟨b, j, none⟩ = some (.complex .f64 l[j].1 l[j].2)) :
    Calls Tryz.prog 16 #[.slice (some ⟨b, 0, none⟩) l.length cap, .complex .f64 z.1 z.2] w fun e w' =>
      ∃ r, e = .returned (.tuple #[.float .f64 r, .int .i64 0]) ∧ cn r = be (l.map cnp) (cnp z) ∧ Below w.heap.size w w' := by
  go_enter Tryz.func16, Tryz.ntmps16
  go_wp2_with (fail)
  refine (down_gen 28 29 (fun d w' => ∃ u sz er, SumAt w.heap.size z u (0, 0) sz er w' ∧ cn sz = on z ∧ LtC u ∧ cnp u = hv (d.map cnp) (cnp z) ∧ cn er = be (d.map cnp) (cnp z)) b cap l z hz w h1 h2 hl enter_bounds enter_bound (step_bound _) ?_ ?_).mono ?_
  · intro A sz hA hsz
    refine ⟨_, sz, 0, hA, hsz, hlt _ _, ?_, ?_⟩
    · rw [drop_last l h1]; rfl
    · rw [drop_last l h1]; rfl
  · rintro m hm w' ⟨u, sz, er, hS, hsz, lu, hu, he⟩
    refine (bound_any w.heap.size z u (0, 0) sz er (l[m]'(by omega)) w' hS lu).mono ?_
    rintro e w2 ⟨rfl, t, r, hT, ht, hr, lt, zz, o⟩
    have ht' : cnp t = hv ((l.drop m).map cnp) (cnp z) := by rw [ht, hu, hv_drop l _ m hm]
    refine ⟨rfl, ⟨t, sz, r, hT, hsz, lt, ht', ?_⟩, o⟩
    rw [hr, be_drop l _ m hm, ← hu, ← ht', ← he, on_cnp, on_cnp, on_cnp, ← hsz, bdE_cn]
  rintro e w1 ⟨rfl, ⟨u, sz, er, hS, hsz, lu, hu, he⟩, B⟩
  have c4 : w1.cell? ⟨w.heap.size, 4, none⟩ = some (.float .f64 er) := cell_of_block (o := 4) hS rfl
  go_wp2
  go_ret2
  exact ⟨er, rfl, he, B⟩
end Go.Proofs.YtiiopcjdbldihaaGreatFmtBesafter
