/- surdref16.Finite, surdlaw16.finite. No condition. -/
import Derived.Test.YtiiopcjdbldihaaGreatFmtBesafterFops
import Derived.Test.YtiiopcjdbldihaaGreatFmtBesafterScan
import Derived.LoopTactic
namespace Go.Proofs.YtiiopcjdbldihaaGreatFmtBesafter
open Go.RowKit Go.SurdFp

set_option maxHeartbeats 1000000 in
theorem Finite_any (a b : Nat) (w : World) : Calls Tryz.prog 11 #[.complex .f64 a b] w fun e w' => e = .returned (.bool (finC (a, b))) ∧ Dr w w' := by
  have hs := fun x y w => run_fop (P := Tryz.prog) .sub (by simp) 38 x y w
  have e0 : finC (a, b) = (fin a && fin b) := rfl
  rw [e0]
  have ea : ∀ v, nan (fres .sub a a v) = !fin a := fun v => sub_self_nan (fop_fres .sub a a v)
  have eb : ∀ v, nan (fres .sub b b v) = !fin b := fun v => sub_self_nan (fop_fres .sub b b v)
  have k1 : ∀ v u, Calls Tryz.prog 22 #[.float .f64 (fres .sub a a v)] u fun e w' => e = .returned (.bool (!fin a)) ∧ u = w' := fun v u => by rw [← ea v]; exact IsNaN_any _ _
  have k2 : ∀ v u, Calls Tryz.prog 22 #[.float .f64 (fres .sub b b v)] u fun e w' => e = .returned (.bool (!fin b)) ∧ u = w' := fun v u => by rw [← eb v]; exact IsNaN_any _ _
  clear e0 ea eb
  generalize fin a = p at *
  generalize fin b = q at *
  cases p
  · rw [Bool.false_and]
    go_enter Tryz.func11, Tryz.ntmps11
    go_wp2_with (fail)
    refine (k1 _ _).mono ?_
    rintro e w1 ⟨rfl, rfl⟩
    go_wp2
    clear hs
    go_ret
    exact ⟨rfl, (Dr.refl w).step _ _ _⟩
  · rw [Bool.true_and]
    go_enter Tryz.func11, Tryz.ntmps11
    go_wp2_with (fail)
    refine (k1 _ _).mono ?_
    rintro e w1 ⟨rfl, rfl⟩
    go_wp2_with (fail)
    refine (k2 _ _).mono ?_
    rintro e w1 ⟨rfl, rfl⟩
    go_wp2
    clear hs
    go_ret
    exact ⟨by simp, ((Dr.refl w).step _ _ _).step _ _ _⟩

set_option maxRecDepth 100000 in
set_option maxHeartbeats 1000000 in
theorem finite_any (b cap : Nat) (l : List CB) (w : World) (h2 : l.length ≤ 9223372036854775807)
    (hl : ∀ j (hj : j < l.length), w.cell? ⟨b, j, none⟩ = some (.complex .f64 l[j].1 l[j].2)) :
    Calls Tryz.prog 10 #[.slice (some ⟨b, 0, none⟩) l.length cap] w fun e w' => e = .returned (.bool (l.all finC)) ∧ Dr w w' := by
  go_enter Tryz.func10, Tryz.ntmps10
  go_wp2_with (fail)
  go_loopw [3] (fun i wr => ∃ k : Nat, k ≤ l.length ∧ i = .int .i64 (k : Int) ∧ (l.take k).all finC = true ∧ Dr w wr)
    (fun i _ => l.length - (intOf i).toNat)
  case atStart => exact ⟨0, Nat.zero_le _, rfl, rfl, Dr.refl w⟩
  case round =>
    obtain ⟨k, hk, rfl, hf, hd⟩ := hrel
    by_cases hlt : k < l.length
    · have hc : wr.cell? ⟨b, k, none⟩ = some (.complex .f64 l[k].1 l[k].2) := by
        obtain ⟨n, rfl⟩ := hd; exact hl k hlt
      have hlt' : (k : Int) < l.length := by omega
      have kf := fun u => Finite_any l[k].1 l[k].2 u
      have e0 : l.take (k + 1) = l.take k ++ [l[k]] := List.take_succ_eq_append_getElem hlt
      by_cases hp : finC (l[k].1, l[k].2) = true
      · rw [hp] at kf
        go_wp2_with (fail)
        refine (kf _).mono ?_
        rintro e w2 ⟨rfl, d2⟩
        have D2 := hd.trans d2
        go_wp2_with (fail)
        go_roundw
        case rel => exact ⟨k + 1, by omega, by go_num, by rw [e0, List.all_append, hf]; simpa using hp, D2⟩
        case measure => simp [intOf]; omega
      · have hp' : finC (l[k].1, l[k].2) = false := by simpa using hp
        rw [hp'] at kf
        have hall : l.all finC = false := by
          rw [List.all_eq_false]
          exact ⟨l[k], List.getElem_mem hlt, by simpa using hp'⟩
        go_wp2_with (fail)
        refine (kf _).mono ?_
        rintro e w2 ⟨rfl, d2⟩
        have D2 := hd.trans d2
        go_wp2
        go_ret
        exact ⟨by first | rfl | (rw [hall]; rfl), D2⟩
    · have he : ¬ ((k : Int) < l.length) := by omega
      have ek : k = l.length := by omega
      have hall : l.all finC = true := by rw [ek, List.take_length] at hf; exact hf
      go_wp2
      go_ret
      exact ⟨by first | rfl | (rw [hall]; rfl), hd⟩
end Go.Proofs.YtiiopcjdbldihaaGreatFmtBesafter
