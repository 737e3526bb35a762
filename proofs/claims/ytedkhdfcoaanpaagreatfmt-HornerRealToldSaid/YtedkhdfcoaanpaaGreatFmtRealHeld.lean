/- HornerReal: whatever the input, the law returns true; the input reads as it did: from the walk to the card's own form. Conditions: those of the card itself (the listed package-level variables hold what the program's own text lays in them). -/
import Derived.Test.YtedkhdfcoaanpaaGreatFmtWit
import Derived.Test.YtedkhdfcoaanpaaGreatFmtReal
import Derived.ChangeSlices
namespace Go.Proofs.YtedkhdfcoaanpaaGreatFmt
open Go.ChangeShapes Go.WideShapes Go.ChangeAt Go.RowKit Go.Kit Go.SurdFp
open Go.Extern.Stop Go.Stop Go.Extern

set_option maxRecDepth 100000 in
set_option maxHeartbeats 1600000 in
theorem real_lifted (os : Os) (started : os.Started) (H : Type) (enc : TypeId × Value → H) :
    ReturnsInTold none {} Tryz.checked os 4 .any Input.okWide ((OpenSpec.ofChange Rows.hornerRealSpec).preRow enc Tryz.prog Tryz.f4 [] false Rows.hornerRealRow.laid)
      (fun F => ((OpenSpec.ofChange Rows.hornerRealSpec).at F).post enc Tryz.prog Tryz.f4 false true false false) (aloneAtReturn Tryz.prog) nothingAlways := by
  refine returnsInTold_of_row (C := Tryz.checked) (s := OpenSpec.ofChange Rows.hornerRealSpec) (by kernel_rfl) own started (by kernel_rfl) Tryz.func4
    (witness_told #[.slice none 0 0, .int .u64 0] (by kernel_rfl) (by kernel_rfl) (by kernel_rfl) (by kernel_rfl) (by kernel_rfl) (by kernel_rfl) (by kernel_rfl) (by kernel_rfl)) ?_
  intro F W base args ds gs before _ hF hval0 hW _ _ hsz hL _
  have hval : ∀ (j : Nat) t v, Tryz.f4.params[j]? = some t → args[j]? = some v → Value.okWide Tryz.prog W .any base t v := hval0
  have hW' := hW
  obtain ⟨p, q, hA0, hV, rfl, _, _⟩ := hW
  have hA : DataW.TrodAll enc Tryz.prog W 0 (fun _ => true) true Tryz.f4.params.toList args.toList ds p := hA0
  rw [Tryz.params4] at hA hval
  obtain ⟨v0, v1, d0, d1, p0, p1, rfl, rfl, rfl, h0, h1⟩ := trodAll_two hA
  obtain ⟨rfl, rfl⟩ := trodVars_none hV
  obtain ⟨pe, hE⟩ := env_of_laid hL (by kernel_rfl) (by simp [Rows.hornerRealRow]) (by simp [Rows.hornerRealRow]) (by simp [Rows.hornerRealRow])
  have h0k := h0
  have h1k := h1
  obtain ⟨a0, len, cap, rfl⟩ := okWide_slice Tryz.underlying34 (hval 0 34 v0 rfl rfl)
  obtain ⟨x, rfl, rfl, rfl, wx⟩ := open_int Tryz.underlying35 (hval 1 35 v1 rfl rfl) h1
  obtain ⟨fuel, hf⟩ := h0
  clear hA0 hval0
  simp only [List.append_nil] at hW'
  have hlt : ∀ x ∈ p0, x.block < W.heap.size := fun x hx => by simpa using hW'.lt x (by simp [hx])
  have fin : Calls Tryz.prog 4 #[.slice a0 len cap, .int .u64 x] W fun e w' => e = .returned (.bool true) ∧ Below W.heap.size W w' := by
    obtain ⟨ex, hx64⟩ := u64_nat wx
    rw [← ex]
    rcases open_ints Tryz.underlying34 Tryz.underlying35 (by kernel_rfl) hf with ⟨hcs, _⟩ | ⟨a, len', cap', zs, hcs, _, hl, hm, hz, _, hcell, hwz⟩
    · simp [Value.cells] at hcs
      obtain ⟨rfl, rfl, rfl⟩ := hcs
      exact Real_nil pe _ W hE
    · simp [Value.cells] at hcs
      obtain ⟨rfl, rfl, rfl⟩ := hcs
      simp only [if_true] at hz
      have hlen : ((zs.take len).map Int.toNat).length = len := by rw [List.length_map, List.length_take]; omega
      have hr := Real_any pe a cap ((zs.take len).map Int.toNat) x.toNat hx64 W hE (fun j hj => by
        have hj' : j < len := by omega
        have hjz : j < zs.length := by omega
        rw [hcell j hjz]
        have e1 : zs.getD j 0 = zs[j] := by simp [List.getD, hjz]
        have e2 : ((zs.take len).map Int.toNat)[j] = zs[j].toNat := by simp
        rw [e1, e2, (u64_nat (hwz _ (List.getElem_mem hjz))).1])
      rw [hlen] at hr
      exact hr
  refine fin.mono fun e W' ⟨he, hnx⟩ => ?_
  subst he
  refine ⟨_, rfl, _, _, _, [], _, [], hW', ?_, trodAll_mk2 (Below.trod laidOut (by kernel_rfl) (of_decide_eq_true (by kernel_rfl)) h0k hnx hlt) (Below.trod laidOut (by kernel_rfl) (of_decide_eq_true (by kernel_rfl)) h1k hnx (fun _ hx => by cases hx)), rfl, hnx.frame _, fun h => by cases h⟩
  exact trodAll_mk1 (shut_bool Tryz.underlying4 _)

end Go.Proofs.YtedkhdfcoaanpaaGreatFmt
