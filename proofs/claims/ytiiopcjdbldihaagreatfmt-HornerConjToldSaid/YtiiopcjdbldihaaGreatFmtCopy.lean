/- surdlaw0.CopyNums. No condition. -/
import Derived.Test.YtiiopcjdbldihaaGreatFmtFops
import Derived.Test.YtiiopcjdbldihaaGreatFmtScan
import Derived.LoopTactic
import Derived.Test.YtiiopcjdbldihaaGreatFmtNum
import Derived.Maps.AppendAt
namespace Go.Proofs.YtiiopcjdbldihaaGreatFmt
open Go.RowKit Go.SurdFp

set_option maxRecDepth 100000 in
set_option maxHeartbeats 1000000 in
theorem CopyNums_any (b cap : Nat) (l : List CB) (w : World) (h2 : l.length ≤ 65) (h1 : 0 < l.length)
    (hl : ∀ j (hj : j < l.length), w.cell? ⟨b, j, none⟩ = some (.complex .f64 l[j].1 l[j].2)) :
    Calls Tryz.prog 8 #[.slice (some ⟨b, 0, none⟩) l.length cap] w fun e w' => ∃ v, e = .returned v ∧ w'.ownsRow w.heap.size 29 1 v l.length (l.map fun c : CB => Value.complex .f64 c.1 c.2) ∧ Below w.heap.size w w' := by
  have hinf : (Tryz.prog.info? 29).map (fun i => (i.zero, i.size, i.bytes)) = some (some (.complex .f64 0 0), 1, 16) := by kernel_rfl
  obtain ⟨i0, hi, hz0, hz1, hz2⟩ := info_parts hinf
  have hb : b < w.heap.size := lt_of_cell (hl 0 h1)
  have hown : (w.alloc (.cells #[] 29)).ownsRow w.heap.size 29 1 (.slice (some ⟨w.heap.size, 0, none⟩) 0 0) 0 [] :=
    ⟨rfl, .inr ⟨w.heap.size, 0, #[], rfl, Nat.le_refl _, heap_alloc_new _ _ _ rfl, Nat.le_refl _, by decide, rfl, rfl⟩⟩
  have hnews : ∀ j u, (l.map (fun c : CB => Value.complex .f64 c.1 c.2))[j]? = some u → (w.alloc (.cells #[] 29)).cell? ((⟨b, 0, none⟩ : Addr).add j) = some u := by
    intro j u hj
    obtain ⟨hlt, he⟩ := List.getElem?_eq_some_iff.1 hj
    have hlt' : j < l.length := by simpa using hlt
    have h := (((Below.refl w.heap.size w).alloc (Nat.le_refl _) (.cells #[] 29)).cell (p := ⟨b, j, none⟩) hb).trans (hl j hlt')
    rw [← he]
    by_cases h0 : j = 0
    · subst h0; simpa [Addr.add] using h
    · simpa [Addr.add, h0] using h
  have hone : ∀ u ∈ l.map (fun c : CB => Value.complex .f64 c.1 c.2), u.oneCell' = true := by
    intro u hu
    obtain ⟨c, _, rfl⟩ := List.mem_map.1 hu
    rfl
  go_enter Tryz.func8, Tryz.ntmps8
  go_wp2_with (at_builtin; go_must (refine wpList_append_own_at _ rfl _ _ 27 rfl w.heap.size 29 i0 (.complex .f64 0 0) 1 16 Tryz.underlying27 hi hz0 hz1 hz2 rfl (by decide) (.slice (some ⟨w.heap.size, 0, none⟩) 0 0) 0 [] rfl hown ⟨b, 0, none⟩ l.length cap _ rfl (by simp) hnews hone ?c1 ?c2 ?c3 ?_))
  case c1 => simp only [maxLen]; omega
  case c2 => omega
  case c3 => simp
  intro v' w1 ho hg hn hat
  have B1 : Below w.heap.size w w1 := Below.grown ((Below.refl w.heap.size w).alloc (Nat.le_refl _) _) hg (by simp) (fun k hk => by
    simp only [Value.ownBlock, Option.some.injEq] at hk; omega)
  go_wp2
  go_ret
  exact ⟨v', by simp, ho, B1⟩
end Go.Proofs.YtiiopcjdbldihaaGreatFmt
