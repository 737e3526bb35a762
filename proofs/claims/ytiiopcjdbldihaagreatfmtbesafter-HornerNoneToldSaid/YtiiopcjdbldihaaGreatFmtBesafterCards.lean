/-
  DERIVED. GIVEN WITH THE SEED: THE CARDS: each row of YtiiopcjdbldihaaGreatFmtBesafterRows.lean that lists a variable, with what it lists TIED to the program's text (the seventh form; the later family's looks); each row that meets fmt, with fmt's text TOLD by the authors' own Lean function (tested against real Go, not proved from fmt's source: count such statements apart). THE CARD IS WHAT COUNTS. Prove the row's statement (the work); the ties are given (YtiiopcjdbldihaaGreatFmtBesafterTie.lean); close each card by the builder's one call (the guide's Derived/Test/ToyasCard.lean, 'card_holds'). Laid BY PROGRAM, IN A SANDBOX (cutbox-door.mjs). By AI agents, Wed Nov 11 2026. No macro, syntax, notation, axiom, sorry.
-/
import Derived.Test.YtiiopcjdbldihaaGreatFmtBesafterRows
import GoSem.ClaimSeven
namespace Go.Proofs.YtiiopcjdbldihaaGreatFmtBesafter
namespace Rows

/-- THE TOLD AND TIED CARD OF 'surdlaw16.HornerNone'. -/
def hornerNoneCard : Claim7 := { stood := { row := hornerNoneRow, standIns := [], harness := (true, "6810093775a308e073daae7895d4a87ca0f6f0cda905fb434ec012adcc05042f"), looks := true }, told := true, laidByText := true, laidKinds := [.data, .data, .data, .data, .sentinel, .sentinel, .sentinel, .data, .data, .data, .data, .data, .pinned], laidTests := true, laidLooks := .later, goes := false }
def HornerNoneToldSaid : Prop := Claim7.holds Tryz.pinned (.plain (OpenSpec.ofChange hornerNoneSpec)) hornerNoneCard
/-- ITS FALSE NEIGHBOUR. Refute it at one input. -/
def HornerNoneToldWrongFalsely : Prop := Claim7.holds Tryz.pinned (.plain (OpenSpec.ofChange hornerNoneWrong)) hornerNoneCard
end Rows
end Go.Proofs.YtiiopcjdbldihaaGreatFmtBesafter
