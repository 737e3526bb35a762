/- HornerConj: whatever the input, the law returns true; the input reads as it did: from the walk to the card's own form. Conditions: those of the card itself. -/
import Derived.Test.YtiiopcjdbldihaaGreatFmtArgs
import Derived.Test.YtiiopcjdbldihaaGreatFmtConjW
namespace Go.Proofs.YtiiopcjdbldihaaGreatFmt
open Go.ChangeShapes Go.WideShapes Go.ChangeAt Go.RowKit Go.Kit Go.SurdFp
open Go.Extern.Stop Go.Stop Go.Extern

set_option maxRecDepth 100000 in
set_option maxHeartbeats 1600000 in
theorem conj_lifted (os : Os) (started : os.Started) (H : Type) (enc : TypeId × Value → H) :
    ReturnsInTold none {} Tryz.checked os 3 .any Input.okWide ((OpenSpec.ofChange Rows.hornerConjSpec).preRow enc Tryz.prog Tryz.f3 [] false Rows.hornerConjRow.laid)
      (fun F => ((OpenSpec.ofChange Rows.hornerConjSpec).at F).post enc Tryz.prog Tryz.f3 false true false false) (aloneAtReturn Tryz.prog) nothingAlways := by
  refine returnsInTold_of_row (C := Tryz.checked) (s := OpenSpec.ofChange Rows.hornerConjSpec) (by as_aux_lemma => kernel_rfl) own started (by as_aux_lemma => kernel_rfl) Tryz.func3
    (witness_told #[.slice none 0 0, .agg #[.int .u64 0, .int .u64 0]] (by kernel_rfl) (by kernel_rfl) (by kernel_rfl) (by kernel_rfl) (by kernel_rfl) (by kernel_rfl) (by kernel_rfl) (by kernel_rfl)) ?_
  intro F W base args ds gs before _ hF hval0 hW _ _ hsz hL _
  have hval : ∀ (j : Nat) t v, Tryz.f3.params[j]? = some t → args[j]? = some v → Value.okWide Tryz.prog W .any base t v := hval0
  have hW' := hW
  obtain ⟨p, q, hA0, hV, rfl, _, _⟩ := hW
  have hA : DataW.TrodAll enc Tryz.prog W 0 (fun _ => true) true Tryz.f3.params.toList args.toList ds p := hA0
  rw [Tryz.params3] at hA hval
  obtain ⟨v0, v1, d0, d1, p0, p1, rfl, rfl, rfl, h0, h1⟩ := trodAll_two hA
  obtain ⟨rfl, rfl⟩ := trodVars_none hV
  obtain ⟨pe, hE⟩ := env_of_laid hL (by kernel_rfl) (by simp [Rows.hornerConjRow]) (by simp [Rows.hornerConjRow]) (by simp [Rows.hornerConjRow])
  have h0k := h0
  have h1k := h1
  obtain ⟨a0, len, cap, rfl⟩ := okWide_slice Tryz.underlying22 (hval 0 22 v0 rfl rfl)
  obtain ⟨re, im, rfl, hz, rfl⟩ := bits_one (hval 1 25 v1 rfl rfl) h1
  obtain ⟨fuel, hf⟩ := h0
  obtain ⟨l, hArg, hlt, hlen⟩ := bits_open hf
  have h16 : l.length * 16 ≤ 140737488355328 := by
    rcases hlen with rfl | ⟨E, S, hd, hle⟩
    · decide
    · dsimp only at hd
      subst hd
      have hsl := sized_slice hsz (j := 0) (t := 22) (e := 25) rfl rfl Tryz.underlying22
      have hr47 := reachBytes_lt
      have hb : Tryz.checked.prog.bytesOf 25 = 16 := by kernel_rfl
      rw [hb] at hsl
      omega
  clear hA0 hval0
  simp only [List.append_nil] at hW'
  have hpl : ∀ x ∈ p0, x.block < W.heap.size := fun x hx => by simpa using hW'.lt x (by simp [hx])
  refine (Conj_any pe _ l re im W hE hz hlt h16 hArg).mono fun e W' ⟨he, hnx⟩ => ?_
  subst he
  refine ⟨_, rfl, _, _, _, [], _, [], hW', ?_, trodAll_mk2 (Below.trod laidOut (by kernel_rfl) (of_decide_eq_true (by kernel_rfl)) h0k hnx hpl) (Below.trod laidOut (by kernel_rfl) (of_decide_eq_true (by kernel_rfl)) h1k hnx (fun _ hx => by cases hx)), rfl, hnx.frame _, fun h => by cases h⟩
  exact trodAll_mk1 (shut_bool Tryz.underlying4 _)
end Go.Proofs.YtiiopcjdbldihaaGreatFmt
