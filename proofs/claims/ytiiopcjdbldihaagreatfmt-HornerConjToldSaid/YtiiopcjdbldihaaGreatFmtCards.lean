/-
  DERIVED. GIVEN WITH THE SEED: THE CARDS: each row of YtiiopcjdbldihaaGreatFmtRows.lean that lists a variable, with what it lists TIED to the program's text (the seventh form; the later family's looks); each row that meets fmt, with fmt's text TOLD by the authors' own Lean function (tested against real Go, not proved from fmt's source: count such statements apart). THE CARD IS WHAT COUNTS. Prove the row's statement (the work); the ties are given (YtiiopcjdbldihaaGreatFmtTie.lean); close each card by the builder's one call (the guide's Derived/Test/ToyasCard.lean, 'card_holds'). Laid BY PROGRAM, IN A SANDBOX (cutbox-door.mjs). By AI agents, Wed Nov 11 2026. No macro, syntax, notation, axiom, sorry.
-/
import Derived.Test.YtiiopcjdbldihaaGreatFmtRows
import GoSem.ClaimSeven
namespace Go.Proofs.YtiiopcjdbldihaaGreatFmt
namespace Rows

/-- THE TOLD AND TIED CARD OF 'surdlaw16.HornerConj'. -/
def hornerConjCard : Claim7 := { stood := { row := hornerConjRow, standIns := [], harness := (true, "d485bcbcc5f8aba7c73a0a5902ef7d605401ce66e68a7767a9b6ace411098b4f"), looks := true }, told := true, laidByText := true, laidKinds := [.data, .data, .data, .data, .sentinel, .sentinel, .sentinel, .data, .data, .data, .data, .data, .pinned], laidTests := true, laidLooks := .later, goes := false }
def HornerConjToldSaid : Prop := Claim7.holds Tryz.pinned (.plain (OpenSpec.ofChange hornerConjSpec)) hornerConjCard
/-- ITS FALSE NEIGHBOUR. Refute it at one input. -/
def HornerConjToldWrongFalsely : Prop := Claim7.holds Tryz.pinned (.plain (OpenSpec.ofChange hornerConjWrong)) hornerConjCard
end Rows
end Go.Proofs.YtiiopcjdbldihaaGreatFmt
