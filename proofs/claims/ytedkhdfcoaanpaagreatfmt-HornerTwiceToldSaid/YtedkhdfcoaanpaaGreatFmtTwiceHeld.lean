/- HornerTwice: whatever the input, the law returns true; the input reads as it did: from the walk to the card's own form. Conditions: those of the card itself. -/
import Derived.Test.YtedkhdfcoaanpaaGreatFmtArgs
import Derived.Test.YtedkhdfcoaanpaaGreatFmtTwice
namespace Go.Proofs.YtedkhdfcoaanpaaGreatFmt
open Go.ChangeShapes Go.WideShapes Go.ChangeAt Go.RowKit Go.Kit Go.SurdFp
open Go.Extern.Stop Go.Stop Go.Extern

set_option maxRecDepth 100000 in
set_option maxHeartbeats 1600000 in
theorem twice_lifted (os : Os) (started : os.Started) (H : Type) (enc : TypeId × Value → H) :
    ReturnsInTold none {} Tryz.checked os 5 .any Input.okWide ((OpenSpec.ofChange Rows.hornerTwiceSpec).preRow enc Tryz.prog Tryz.f5 [] false Rows.hornerTwiceRow.laid)
      (fun F => ((OpenSpec.ofChange Rows.hornerTwiceSpec).at F).post enc Tryz.prog Tryz.f5 false true false false) (aloneAtReturn Tryz.prog) nothingAlways := by
  refine returnsInTold_of_row (C := Tryz.checked) (s := OpenSpec.ofChange Rows.hornerTwiceSpec) (by as_aux_lemma => kernel_rfl) own started (by as_aux_lemma => kernel_rfl) Tryz.func5
    (witness_told #[.slice none 0 0, .agg #[.int .u64 0, .int .u64 0], .int .i64 0] (by kernel_rfl) (by kernel_rfl) (by kernel_rfl) (by kernel_rfl) (by kernel_rfl) (by kernel_rfl) (by kernel_rfl) (by kernel_rfl)) ?_
  intro F W base args ds gs before _ hF hval0 hW _ _ hsz hL _
  have hval : ∀ (j : Nat) t v, Tryz.f5.params[j]? = some t → args[j]? = some v → Value.okWide Tryz.prog W .any base t v := hval0
  have hW' := hW
  obtain ⟨p, q, hA0, hV, rfl, _, _⟩ := hW
  have hA : DataW.TrodAll enc Tryz.prog W 0 (fun _ => true) true Tryz.f5.params.toList args.toList ds p := hA0
  rw [Tryz.params5] at hA hval
  obtain ⟨v0, v1, v2, d0, d1, d2, p0, p1, p2, rfl, rfl, rfl, h0, h1, h2⟩ := trodAll_three hA
  obtain ⟨rfl, rfl⟩ := trodVars_none hV
  obtain ⟨pe, hE⟩ := env_of_laid hL (by kernel_rfl) (by simp [Rows.hornerTwiceRow]) (by simp [Rows.hornerTwiceRow]) (by simp [Rows.hornerTwiceRow])
  have h0k := h0
  have h1k := h1
  have h2k := h2
  obtain ⟨a0, len, cap, rfl⟩ := okWide_slice Tryz.underlying43 (hval 0 43 v0 rfl rfl)
  obtain ⟨re, im, rfl, hz, rfl⟩ := bits_one (hval 1 45 v1 rfl rfl) h1
  obtain ⟨b, rfl, rfl, rfl, wb⟩ := open_int Tryz.underlying3 (hval 2 3 v2 rfl rfl) h2
  obtain ⟨fuel, hf⟩ := h0
  obtain ⟨l, hArg, hlt, hlen⟩ := bits_open hf
  have h16 : l.length * 16 ≤ 140737488355328 := by
    rcases hlen with rfl | ⟨E, S, hd, hle⟩
    · decide
    · dsimp only at hd
      subst hd
      have hsl := sized_slice hsz (j := 0) (t := 43) (e := 45) rfl rfl Tryz.underlying43
      have hr47 := reachBytes_lt
      have hb : Tryz.checked.prog.bytesOf 45 = 16 := by kernel_rfl
      rw [hb] at hsl
      omega
  clear hA0 hval0
  simp only [List.append_nil] at hW'
  have hpl : ∀ x ∈ p0, x.block < W.heap.size := fun x hx => by simpa using hW'.lt x (by simp [hx])
  refine (Twice_any pe _ l re im b W hE hz h16 hArg).mono fun e W' ⟨he, hnx⟩ => ?_
  subst he
  refine ⟨_, rfl, _, _, _, [], _, [], hW', ?_, trodAll_mk3 (Below.trod laidOut (by kernel_rfl) (of_decide_eq_true (by kernel_rfl)) h0k hnx hpl) (Below.trod laidOut (by kernel_rfl) (of_decide_eq_true (by kernel_rfl)) h1k hnx (fun _ hx => by cases hx)) (Below.trod laidOut (by kernel_rfl) (of_decide_eq_true (by kernel_rfl)) h2k hnx (fun _ hx => by cases hx)), rfl, hnx.frame _, fun h => by cases h⟩
  exact trodAll_mk1 (shut_bool Tryz.underlying4 _)
end Go.Proofs.YtedkhdfcoaanpaaGreatFmt
