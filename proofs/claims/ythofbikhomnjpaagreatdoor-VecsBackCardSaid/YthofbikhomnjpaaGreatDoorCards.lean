/-
  DERIVED. GIVEN WITH THE SEED: THE CARDS: each row of YthofbikhomnjpaaGreatDoorRows.lean that lists a variable, with what it lists TIED to the program's text (the seventh form; the later family's looks); each row that meets fmt, with fmt's text TOLD by the authors' own Lean function (tested against real Go, not proved from fmt's source: count such statements apart). THE CARD IS WHAT COUNTS. Prove the row's statement (the work); the ties are given (YthofbikhomnjpaaGreatDoorTie.lean); close each card by the builder's one call (the guide's Derived/Test/ToyasCard.lean, 'card_holds'). Laid BY PROGRAM, IN A SANDBOX (cutbox-door.mjs). By AI agents, Wed Nov 11 2026. No macro, syntax, notation, axiom, sorry.
-/
import Derived.Test.YthofbikhomnjpaaGreatDoorRows
import GoSem.ClaimSeven
namespace Go.Proofs.YthofbikhomnjpaaGreatDoor
namespace Rows

/-- THE TIED CARD OF 'assayerlaw16.PivotsSame'. -/
def pivotsSameCard : Claim7 := { stood := { row := pivotsSameRow, standIns := [], harness := (true, "9c1496c2dff5c1ba7fa218225ecf03136108809d955def5611f7994313e4def3"), looks := false }, kinds := [], alts := [], laidByText := true, laidKinds := [.data], laidTests := true, laidLooks := .later }
def PivotsSameCardSaid : Prop := Claim7.holds Tryz.pinned (.plain (OpenSpec.ofChange pivotsSameSpec)) pivotsSameCard

/-- THE TIED CARD OF 'assayerlaw04.VecsLinear'. -/
def vecsLinearCard : Claim7 := { stood := { row := vecsLinearRow, standIns := [], harness := (true, "9c1496c2dff5c1ba7fa218225ecf03136108809d955def5611f7994313e4def3"), looks := false }, kinds := [], alts := [], laidByText := true, laidKinds := [.data, .data, .pinned], laidTests := true, laidLooks := .later }
def VecsLinearCardSaid : Prop := Claim7.holds Tryz.pinned (.plain (OpenSpec.ofChange vecsLinearSpec)) vecsLinearCard

/-- THE TIED CARD OF 'assayerlaw04.VecsParts'. -/
def vecsPartsCard : Claim7 := { stood := { row := vecsPartsRow, standIns := [], harness := (true, "9c1496c2dff5c1ba7fa218225ecf03136108809d955def5611f7994313e4def3"), looks := false }, kinds := [], alts := [], laidByText := true, laidKinds := [.data, .data, .pinned], laidTests := true, laidLooks := .later }
def VecsPartsCardSaid : Prop := Claim7.holds Tryz.pinned (.plain (OpenSpec.ofChange vecsPartsSpec)) vecsPartsCard

/-- THE TIED CARD OF 'assayerlaw04.VecsTurned'. -/
def vecsTurnedCard : Claim7 := { stood := { row := vecsTurnedRow, standIns := [], harness := (true, "9c1496c2dff5c1ba7fa218225ecf03136108809d955def5611f7994313e4def3"), looks := false }, kinds := [], alts := [], laidByText := true, laidKinds := [.data, .data, .pinned], laidTests := true, laidLooks := .later }
def VecsTurnedCardSaid : Prop := Claim7.holds Tryz.pinned (.plain (OpenSpec.ofChange vecsTurnedSpec)) vecsTurnedCard

/-- THE TIED CARD OF 'assayerlaw04.VecsBack'. -/
def vecsBackCard : Claim7 := { stood := { row := vecsBackRow, standIns := [], harness := (true, "9c1496c2dff5c1ba7fa218225ecf03136108809d955def5611f7994313e4def3"), looks := false }, kinds := [], alts := [], laidByText := true, laidKinds := [.data, .data, .pinned], laidTests := true, laidLooks := .later }
def VecsBackCardSaid : Prop := Claim7.holds Tryz.pinned (.plain (OpenSpec.ofChange vecsBackSpec)) vecsBackCard

/-- THE TIED CARD OF 'assayerlaw04.VecsOdd'. -/
def vecsOddCard : Claim7 := { stood := { row := vecsOddRow, standIns := [], harness := (true, "9c1496c2dff5c1ba7fa218225ecf03136108809d955def5611f7994313e4def3"), looks := false }, kinds := [], alts := [], laidByText := true, laidKinds := [.data, .data, .pinned], laidTests := true, laidLooks := .later }
def VecsOddCardSaid : Prop := Claim7.holds Tryz.pinned (.plain (OpenSpec.ofChange vecsOddSpec)) vecsOddCard

/-- THE SECOND FORM's CARD OF 'assayerlaw16.PivotsSame'. -/
def pivotsSameUptoCard : Claim7 := { stood := { row := pivotsSameUptoRow, standIns := [], harness := (true, "9c1496c2dff5c1ba7fa218225ecf03136108809d955def5611f7994313e4def3"), looks := false }, kinds := [], alts := [], laidByText := true, laidKinds := [.data], laidTests := true, laidLooks := .later }
def PivotsSameUptoCardSaid : Prop := Claim7.holds Tryz.pinned (.plain (OpenSpec.upto pivotsSameSpec)) pivotsSameUptoCard

/-- THE SECOND FORM's CARD OF 'assayerlaw04.VecsLinear'. -/
def vecsLinearUptoCard : Claim7 := { stood := { row := vecsLinearUptoRow, standIns := [], harness := (true, "9c1496c2dff5c1ba7fa218225ecf03136108809d955def5611f7994313e4def3"), looks := false }, kinds := [], alts := [], laidByText := true, laidKinds := [.data, .data, .pinned], laidTests := true, laidLooks := .later }
def VecsLinearUptoCardSaid : Prop := Claim7.holds Tryz.pinned (.plain (OpenSpec.upto vecsLinearSpec)) vecsLinearUptoCard

/-- THE SECOND FORM's CARD OF 'assayerlaw04.VecsParts'. -/
def vecsPartsUptoCard : Claim7 := { stood := { row := vecsPartsUptoRow, standIns := [], harness := (true, "9c1496c2dff5c1ba7fa218225ecf03136108809d955def5611f7994313e4def3"), looks := false }, kinds := [], alts := [], laidByText := true, laidKinds := [.data, .data, .pinned], laidTests := true, laidLooks := .later }
def VecsPartsUptoCardSaid : Prop := Claim7.holds Tryz.pinned (.plain (OpenSpec.upto vecsPartsSpec)) vecsPartsUptoCard

/-- THE SECOND FORM's CARD OF 'assayerlaw04.VecsTurned'. -/
def vecsTurnedUptoCard : Claim7 := { stood := { row := vecsTurnedUptoRow, standIns := [], harness := (true, "9c1496c2dff5c1ba7fa218225ecf03136108809d955def5611f7994313e4def3"), looks := false }, kinds := [], alts := [], laidByText := true, laidKinds := [.data, .data, .pinned], laidTests := true, laidLooks := .later }
def VecsTurnedUptoCardSaid : Prop := Claim7.holds Tryz.pinned (.plain (OpenSpec.upto vecsTurnedSpec)) vecsTurnedUptoCard

/-- THE SECOND FORM's CARD OF 'assayerlaw04.VecsBack'. -/
def vecsBackUptoCard : Claim7 := { stood := { row := vecsBackUptoRow, standIns := [], harness := (true, "9c1496c2dff5c1ba7fa218225ecf03136108809d955def5611f7994313e4def3"), looks := false }, kinds := [], alts := [], laidByText := true, laidKinds := [.data, .data, .pinned], laidTests := true, laidLooks := .later }
def VecsBackUptoCardSaid : Prop := Claim7.holds Tryz.pinned (.plain (OpenSpec.upto vecsBackSpec)) vecsBackUptoCard

/-- THE SECOND FORM's CARD OF 'assayerlaw04.VecsOdd'. -/
def vecsOddUptoCard : Claim7 := { stood := { row := vecsOddUptoRow, standIns := [], harness := (true, "9c1496c2dff5c1ba7fa218225ecf03136108809d955def5611f7994313e4def3"), looks := false }, kinds := [], alts := [], laidByText := true, laidKinds := [.data, .data, .pinned], laidTests := true, laidLooks := .later }
def VecsOddUptoCardSaid : Prop := Claim7.holds Tryz.pinned (.plain (OpenSpec.upto vecsOddSpec)) vecsOddUptoCard
end Rows
end Go.Proofs.YthofbikhomnjpaaGreatDoor
