/-
  DERIVED. GIVEN WITH THE SEED: THE CARDS: each row of YteekelelcbfekaaDoorRows.lean that lists a variable, with what it lists TIED to the program's text (the seventh form; the later family's looks); each row that meets fmt, with fmt's text TOLD by the authors' own Lean function (tested against real Go, not proved from fmt's source: count such statements apart). THE CARD IS WHAT COUNTS. Prove the row's statement (the work); the ties are given (YteekelelcbfekaaDoorTie.lean); close each card by the builder's one call (the guide's Derived/Test/ToyasCard.lean, 'card_holds'). Laid BY PROGRAM, IN A SANDBOX (cutbox-door.mjs). By AI agents, Wed Nov 11 2026. No macro, syntax, notation, axiom, sorry.
-/
import Derived.Test.YteekelelcbfekaaDoorRows
import GoSem.ClaimSeven
namespace Go.Proofs.YteekelelcbfekaaDoor
namespace Rows

/-- THE TIED CARD OF 'fascialaw25.SafeOne'. -/
def safeOneCard : Claim7 := { stood := { row := safeOneRow, standIns := [], harness := (true, "d3708d084e834163b077530a97942ca8d1a06dd4aa9a0630c71b5a7ca17f64a7"), looks := false }, kinds := [], alts := [], laidByText := true, laidKinds := [.data, .pinned, .pinned], laidTests := true, laidLooks := .later }
def SafeOneCardSaid : Prop := Claim7.holds Tryd.pinned (.plain (OpenSpec.ofChange safeOneSpec)) safeOneCard

/-- THE TIED CARD OF 'fascialaw25.SafeBack'. -/
def safeBackCard : Claim7 := { stood := { row := safeBackRow, standIns := [], harness := (true, "d3708d084e834163b077530a97942ca8d1a06dd4aa9a0630c71b5a7ca17f64a7"), looks := false }, kinds := [], alts := [], laidByText := true, laidKinds := [.data, .data, .data, .pinned, .pinned], laidTests := true, laidLooks := .later }
def SafeBackCardSaid : Prop := Claim7.holds Tryd.pinned (.plain (OpenSpec.ofChange safeBackSpec)) safeBackCard

/-- THE SECOND FORM's CARD OF 'fascialaw25.SafeOne'. -/
def safeOneUptoCard : Claim7 := { stood := { row := safeOneUptoRow, standIns := [], harness := (true, "d3708d084e834163b077530a97942ca8d1a06dd4aa9a0630c71b5a7ca17f64a7"), looks := false }, kinds := [], alts := [], laidByText := true, laidKinds := [.data, .pinned, .pinned], laidTests := true, laidLooks := .later }
def SafeOneUptoCardSaid : Prop := Claim7.holds Tryd.pinned (.plain (OpenSpec.upto safeOneSpec)) safeOneUptoCard

/-- THE SECOND FORM's CARD OF 'fascialaw25.SafeBack'. -/
def safeBackUptoCard : Claim7 := { stood := { row := safeBackUptoRow, standIns := [], harness := (true, "d3708d084e834163b077530a97942ca8d1a06dd4aa9a0630c71b5a7ca17f64a7"), looks := false }, kinds := [], alts := [], laidByText := true, laidKinds := [.data, .data, .data, .pinned, .pinned], laidTests := true, laidLooks := .later }
def SafeBackUptoCardSaid : Prop := Claim7.holds Tryd.pinned (.plain (OpenSpec.upto safeBackSpec)) safeBackUptoCard
end Rows
end Go.Proofs.YteekelelcbfekaaDoor
