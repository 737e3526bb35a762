/- surdlaw16.finite, surdlaw0.CopyNums, Cs: lists of complex numbers. No condition. -/
import Derived.Test.YtedkhdfcoaanpaaGreatFmtFops
import Derived.Test.YtedkhdfcoaanpaaGreatFmtScan
import Derived.LoopTactic
namespace Go.Proofs.YtedkhdfcoaanpaaGreatFmt
open Go.RowKit Go.SurdFp

set_option maxRecDepth 100000 in
set_option maxHeartbeats 1000000 in
theorem finite_any (b cap : Nat) (l : List CB) (w : World) (h2 : l.length ≤ 9223372036854775807)
    (hl : ∀ j (hj : j < l.length), w.cell? ⟨b, j, none⟩ = some (.complex .f64 l[j].1 l[j].2)) :
    Calls Tryz.prog 12 #[.slice (some ⟨b, 0, none⟩) l.length cap] w fun e w' => e = .returned (.bool (l.all finC)) ∧ Dr w w' := by
  go_enter Tryz.func12, Tryz.ntmps12
  go_wp2_with (fail)
  go_loopw [3] (fun i wr => ∃ k : Nat, k ≤ l.length ∧ i = .int .i64 (k : Int) ∧ (l.take k).all finC = true ∧ Dr w wr)
    (fun i _ => l.length - (intOf i).toNat)
  case atStart => exact ⟨0, Nat.zero_le _, rfl, rfl, Dr.refl w⟩
  case round =>
    obtain ⟨k, hk, rfl, hf, hd⟩ := hrel
    by_cases hlt : k < l.length
    · have hc : wr.cell? ⟨b, k, none⟩ = some (.complex .f64 l[k].1 l[k].2) := by
        obtain ⟨n, rfl⟩ := hd; exact hl k hlt
      have hlt' : (k : Int) < l.length := by omega
      have kf := fun u => Finite_any l[k].1 l[k].2 u
      have e0 : l.take (k + 1) = l.take k ++ [l[k]] := List.take_succ_eq_append_getElem hlt
      by_cases hp : finC (l[k].1, l[k].2) = true
      · rw [hp] at kf
        go_wp2_with (fail)
        refine (kf _).mono ?_
        rintro e w2 ⟨rfl, d2⟩
        have D2 := hd.trans d2
        go_wp2_with (fail)
        go_roundw
        case rel => exact ⟨k + 1, by omega, by go_num, by rw [e0, List.all_append, hf]; simpa using hp, D2⟩
        case measure => simp [intOf]; omega
      · have hp' : finC (l[k].1, l[k].2) = false := by simpa using hp
        rw [hp'] at kf
        have hall : l.all finC = false := by
          rw [List.all_eq_false]
          exact ⟨l[k], List.getElem_mem hlt, by simpa using hp'⟩
        go_wp2_with (fail)
        refine (kf _).mono ?_
        rintro e w2 ⟨rfl, d2⟩
        have D2 := hd.trans d2
        go_wp2
        go_ret
        exact ⟨by first | rfl | (rw [hall]; rfl), D2⟩
    · have he : ¬ ((k : Int) < l.length) := by omega
      have ek : k = l.length := by omega
      have hall : l.all finC = true := by rw [ek, List.take_length] at hf; exact hf
      go_wp2
      go_ret
      exact ⟨by first | rfl | (rw [hall]; rfl), hd⟩
end Go.Proofs.YtedkhdfcoaanpaaGreatFmt
