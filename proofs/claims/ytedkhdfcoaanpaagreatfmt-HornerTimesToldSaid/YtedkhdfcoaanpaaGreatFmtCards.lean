/-
  DERIVED. GIVEN WITH THE SEED: THE CARDS: each row of YtedkhdfcoaanpaaGreatFmtRows.lean that lists a variable, with what it lists TIED to the program's text (the seventh form; the later family's looks); each row that meets fmt, with fmt's text TOLD by the authors' own Lean function (tested against real Go, not proved from fmt's source: count such statements apart). THE CARD IS WHAT COUNTS. Prove the row's statement (the work); the ties are given (YtedkhdfcoaanpaaGreatFmtTie.lean); close each card by the builder's one call (the guide's Derived/Test/ToyasCard.lean, 'card_holds'). Laid BY PROGRAM, IN A SANDBOX (cutbox-door.mjs). By AI agents, Wed Nov 11 2026. No macro, syntax, notation, axiom, sorry.
-/
import Derived.Test.YtedkhdfcoaanpaaGreatFmtRows
import GoSem.ClaimSeven
namespace Go.Proofs.YtedkhdfcoaanpaaGreatFmt
namespace Rows

/-- THE TOLD AND TIED CARD OF 'surdlaw16.HornerTimes'. -/
def hornerTimesCard : Claim7 := { stood := { row := hornerTimesRow, standIns := [], harness := (true, "c48f0689756ca0f83af194c1793be00ac65f310beffeda6c32cf83012baae28b"), looks := true }, told := true, laidByText := true, laidKinds := [.data, .data, .data, .data, .sentinel, .sentinel, .sentinel, .data, .data, .data, .data, .data, .pinned], laidTests := true, laidLooks := .later, goes := false }
def HornerTimesToldSaid : Prop := Claim7.holds Tryz.pinned (.plain (OpenSpec.ofChange hornerTimesSpec)) hornerTimesCard
/-- ITS FALSE NEIGHBOUR. Refute it at one input. -/
def HornerTimesToldWrongFalsely : Prop := Claim7.holds Tryz.pinned (.plain (OpenSpec.ofChange hornerTimesWrong)) hornerTimesCard

/-- THE TOLD AND TIED CARD OF 'surdlaw16.HornerReal'. -/
def hornerRealCard : Claim7 := { stood := { row := hornerRealRow, standIns := [], harness := (true, "c48f0689756ca0f83af194c1793be00ac65f310beffeda6c32cf83012baae28b"), looks := true }, told := true, laidByText := true, laidKinds := [.data, .data, .data, .data, .sentinel, .sentinel, .sentinel, .data, .data, .data, .data, .data, .pinned], laidTests := true, laidLooks := .later, goes := false }
def HornerRealToldSaid : Prop := Claim7.holds Tryz.pinned (.plain (OpenSpec.ofChange hornerRealSpec)) hornerRealCard
/-- ITS FALSE NEIGHBOUR. Refute it at one input. -/
def HornerRealToldWrongFalsely : Prop := Claim7.holds Tryz.pinned (.plain (OpenSpec.ofChange hornerRealWrong)) hornerRealCard

/-- THE TOLD AND TIED CARD OF 'surdlaw16.HornerTwice'. -/
def hornerTwiceCard : Claim7 := { stood := { row := hornerTwiceRow, standIns := [], harness := (true, "c48f0689756ca0f83af194c1793be00ac65f310beffeda6c32cf83012baae28b"), looks := true }, told := true, laidByText := true, laidKinds := [.data, .data, .data, .data, .sentinel, .sentinel, .sentinel, .data, .data, .data, .data, .data, .pinned], laidTests := true, laidLooks := .later, goes := false }
def HornerTwiceToldSaid : Prop := Claim7.holds Tryz.pinned (.plain (OpenSpec.ofChange hornerTwiceSpec)) hornerTwiceCard
/-- ITS FALSE NEIGHBOUR. Refute it at one input. -/
def HornerTwiceToldWrongFalsely : Prop := Claim7.holds Tryz.pinned (.plain (OpenSpec.ofChange hornerTwiceWrong)) hornerTwiceCard
end Rows
end Go.Proofs.YtedkhdfcoaanpaaGreatFmt
