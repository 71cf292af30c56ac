/-
  DERIVED. GIVEN WITH THE SEED: THE CARDS: each row of YthofbikhomnjpaaDoorRows.lean that lists a variable, with what it lists TIED to the program's text (the seventh form; the later family's looks); each row that meets fmt, with fmt's text TOLD by the authors' own Lean function (tested against real Go, not proved from fmt's source: count such statements apart). THE CARD IS WHAT COUNTS. Prove the row's statement (the work); the ties are given (YthofbikhomnjpaaDoorTie.lean); close each card by the builder's one call (the guide's Derived/Test/ToyasCard.lean, 'card_holds'). Laid BY PROGRAM, IN A SANDBOX (cutbox-door.mjs). By AI agents, Wed Nov 11 2026. No macro, syntax, notation, axiom, sorry.
-/
import Derived.Test.YthofbikhomnjpaaDoorRows
import GoSem.ClaimSeven
namespace Go.Proofs.YthofbikhomnjpaaDoor
namespace Rows

/-- THE TIED CARD OF 'assayerlaw05.GridsOnes'. -/
def gridsOnesCard : Claim7 := { stood := { row := gridsOnesRow, standIns := [], harness := (true, "c82436b825a02c040e31e49ebc3dbc85a45fe5c02466c60e986fc37f948e33b1"), looks := false }, kinds := [], alts := [], laidByText := true, laidKinds := [.data], laidTests := true, laidLooks := .later }
def GridsOnesCardSaid : Prop := Claim7.holds Tryd.pinned (.plain (OpenSpec.ofChange gridsOnesSpec)) gridsOnesCard

/-- THE TIED CARD OF 'assayerlaw04.VecsScaled'. -/
def vecsScaledCard : Claim7 := { stood := { row := vecsScaledRow, standIns := [], harness := (true, "c82436b825a02c040e31e49ebc3dbc85a45fe5c02466c60e986fc37f948e33b1"), looks := false }, kinds := [], alts := [], laidByText := true, laidKinds := [.data, .data, .pinned], laidTests := true, laidLooks := .later }
def VecsScaledCardSaid : Prop := Claim7.holds Tryd.pinned (.plain (OpenSpec.ofChange vecsScaledSpec)) vecsScaledCard

/-- THE SECOND FORM's CARD OF 'assayerlaw05.GridsOnes'. -/
def gridsOnesUptoCard : Claim7 := { stood := { row := gridsOnesUptoRow, standIns := [], harness := (true, "c82436b825a02c040e31e49ebc3dbc85a45fe5c02466c60e986fc37f948e33b1"), looks := false }, kinds := [], alts := [], laidByText := true, laidKinds := [.data], laidTests := true, laidLooks := .later }
def GridsOnesUptoCardSaid : Prop := Claim7.holds Tryd.pinned (.plain (OpenSpec.upto gridsOnesSpec)) gridsOnesUptoCard

/-- THE SECOND FORM's CARD OF 'assayerlaw04.VecsScaled'. -/
def vecsScaledUptoCard : Claim7 := { stood := { row := vecsScaledUptoRow, standIns := [], harness := (true, "c82436b825a02c040e31e49ebc3dbc85a45fe5c02466c60e986fc37f948e33b1"), looks := false }, kinds := [], alts := [], laidByText := true, laidKinds := [.data, .data, .pinned], laidTests := true, laidLooks := .later }
def VecsScaledUptoCardSaid : Prop := Claim7.holds Tryd.pinned (.plain (OpenSpec.upto vecsScaledSpec)) vecsScaledUptoCard
end Rows
end Go.Proofs.YthofbikhomnjpaaDoor
