/-
  No cell of these rows narrows 'for every input' (looked for: loops, veiled, ifaces, maps, wideKeys, modest, calm, conditions, laid).
  DERIVED. THE GIVEN ROWS OF THIS SEAT. 11 by the template 'for every input the law returns true; each argument reads behind the call as it read before'; 0 by the template 'total and deterministic' (their statements: YtbnaepdeakcljaaTotals.lean).
  GIVEN WITH THE SEED: the statements are not yours to turn. If you find one false, say at which input.
  Laid BY PROGRAM, IN A SANDBOX (cutbox-rows.mjs): the forced cells as the released guide's own fill.sh prints them over the translation cdde9e9f711375de… (all of the seat's roots in one cut). By AI agents, Wed Nov 11 2026. No macro, syntax, notation, axiom, sorry.
-/
import Derived.Test.YtbnaepdeakcljaaChecked
import GoSem.Claim
import GoSem.ClaimJoined
import GoSem.ClaimMapViews
import Derived.JoinedTies
import Derived.KernelRfl
namespace Go.Proofs.Ytbnaepdeakcljaa
/- THE CELL 'sum', in the pinned program and in every row, IS THE sha256 OF THE DUMP (.gsa) THAT YtbnaepdeakcljaaProg.lean LOADS. Nothing in Lean hashes anything: it is a label: what it is worth is what the hold of that sum in a sandbox is worth. -/
noncomputable def Try.pinned : Pinned := { name := "ytbnaepdeakcljaa", sum := "cdde9e9f711375de45371e7b7a40ee01ffada1cb976918b023641e99e4804df1", checked := Try.checked }
namespace Rows
def none {H : Type} : Left H := { results := [], args := [] }

/-- 'fascialaw01.UtfParts': WHATEVER THE INPUT: true; the input reads as it did. -/
def utfPartsSpec : ChangeSpec := { name := "utfParts", fn := fun _ => fun
  | [d1, d2, d3, d4] => { results := [.lit (.bool true)], args := [d1, d2, d3, d4] }
  | _ => none }
def utfPartsRow : OpenClaim := { program := "ytbnaepdeakcljaa", sum := "cdde9e9f711375de45371e7b7a40ee01ffada1cb976918b023641e99e4804df1", func := "fascia/fascialaw01.UtfParts", spec := "utfParts", unfollowed := true, recurses := true, plainKeys := false, apart := false }
def UtfPartsSaid : Prop := utfPartsRow.holds Try.pinned (OpenSpec.ofChange utfPartsSpec)

/-- ITS FALSE NEIGHBOUR: 'it returns false'. Refute it at one input. -/
def utfPartsWrong : ChangeSpec := { name := "utfParts", fn := fun _ => fun
  | [d1, d2, d3, d4] => { results := [.lit (.bool false)], args := [d1, d2, d3, d4] }
  | _ => none }
def UtfPartsWrongFalsely : Prop := utfPartsRow.holds Try.pinned (OpenSpec.ofChange utfPartsWrong)

/-- 'fascialaw01.UtfOrder': WHATEVER THE INPUT: true; the input reads as it did. -/
def utfOrderSpec : ChangeSpec := { name := "utfOrder", fn := fun _ => fun
  | [d1, d2] => { results := [.lit (.bool true)], args := [d1, d2] }
  | _ => none }
def utfOrderRow : OpenClaim := { program := "ytbnaepdeakcljaa", sum := "cdde9e9f711375de45371e7b7a40ee01ffada1cb976918b023641e99e4804df1", func := "fascia/fascialaw01.UtfOrder", spec := "utfOrder", unfollowed := true, recurses := true, plainKeys := false, apart := false }
def UtfOrderSaid : Prop := utfOrderRow.holds Try.pinned (OpenSpec.ofChange utfOrderSpec)

/-- ITS FALSE NEIGHBOUR: 'it returns false'. Refute it at one input. -/
def utfOrderWrong : ChangeSpec := { name := "utfOrder", fn := fun _ => fun
  | [d1, d2] => { results := [.lit (.bool false)], args := [d1, d2] }
  | _ => none }
def UtfOrderWrongFalsely : Prop := utfOrderRow.holds Try.pinned (OpenSpec.ofChange utfOrderWrong)

/-- 'fascialaw01.UtfOne': WHATEVER THE INPUT: true; the input reads as it did. -/
def utfOneSpec : ChangeSpec := { name := "utfOne", fn := fun _ => fun
  | [d1, d2, d3] => { results := [.lit (.bool true)], args := [d1, d2, d3] }
  | _ => none }
def utfOneRow : OpenClaim := { program := "ytbnaepdeakcljaa", sum := "cdde9e9f711375de45371e7b7a40ee01ffada1cb976918b023641e99e4804df1", func := "fascia/fascialaw01.UtfOne", spec := "utfOne", unfollowed := true, recurses := true, plainKeys := false, apart := false }
def UtfOneSaid : Prop := utfOneRow.holds Try.pinned (OpenSpec.ofChange utfOneSpec)

/-- ITS FALSE NEIGHBOUR: 'it returns false'. Refute it at one input. -/
def utfOneWrong : ChangeSpec := { name := "utfOne", fn := fun _ => fun
  | [d1, d2, d3] => { results := [.lit (.bool false)], args := [d1, d2, d3] }
  | _ => none }
def UtfOneWrongFalsely : Prop := utfOneRow.holds Try.pinned (OpenSpec.ofChange utfOneWrong)

/-- 'fascialaw01.UtfTells': WHATEVER THE INPUT: true; the input reads as it did. -/
def utfTellsSpec : ChangeSpec := { name := "utfTells", fn := fun _ => fun
  | [d1, d2, d3] => { results := [.lit (.bool true)], args := [d1, d2, d3] }
  | _ => none }
def utfTellsRow : OpenClaim := { program := "ytbnaepdeakcljaa", sum := "cdde9e9f711375de45371e7b7a40ee01ffada1cb976918b023641e99e4804df1", func := "fascia/fascialaw01.UtfTells", spec := "utfTells", unfollowed := true, recurses := true, plainKeys := false, apart := false }
def UtfTellsSaid : Prop := utfTellsRow.holds Try.pinned (OpenSpec.ofChange utfTellsSpec)

/-- ITS FALSE NEIGHBOUR: 'it returns false'. Refute it at one input. -/
def utfTellsWrong : ChangeSpec := { name := "utfTells", fn := fun _ => fun
  | [d1, d2, d3] => { results := [.lit (.bool false)], args := [d1, d2, d3] }
  | _ => none }
def UtfTellsWrongFalsely : Prop := utfTellsRow.holds Try.pinned (OpenSpec.ofChange utfTellsWrong)

/-- 'fascialaw01.UtfBack': WHATEVER THE INPUT: true; the input reads as it did. -/
def utfBackSpec : ChangeSpec := { name := "utfBack", fn := fun _ => fun
  | [d1, d2] => { results := [.lit (.bool true)], args := [d1, d2] }
  | _ => none }
def utfBackRow : OpenClaim := { program := "ytbnaepdeakcljaa", sum := "cdde9e9f711375de45371e7b7a40ee01ffada1cb976918b023641e99e4804df1", func := "fascia/fascialaw01.UtfBack", spec := "utfBack", unfollowed := true, recurses := true, plainKeys := false, apart := false }
def UtfBackSaid : Prop := utfBackRow.holds Try.pinned (OpenSpec.ofChange utfBackSpec)

/-- ITS FALSE NEIGHBOUR: 'it returns false'. Refute it at one input. -/
def utfBackWrong : ChangeSpec := { name := "utfBack", fn := fun _ => fun
  | [d1, d2] => { results := [.lit (.bool false)], args := [d1, d2] }
  | _ => none }
def UtfBackWrongFalsely : Prop := utfBackRow.holds Try.pinned (OpenSpec.ofChange utfBackWrong)

/-- 'fascialaw01.UtfCuts': WHATEVER THE INPUT: true; the input reads as it did. -/
def utfCutsSpec : ChangeSpec := { name := "utfCuts", fn := fun _ => fun
  | [d] => { results := [.lit (.bool true)], args := [d] }
  | _ => none }
def utfCutsRow : OpenClaim := { program := "ytbnaepdeakcljaa", sum := "cdde9e9f711375de45371e7b7a40ee01ffada1cb976918b023641e99e4804df1", func := "fascia/fascialaw01.UtfCuts", spec := "utfCuts", unfollowed := true, recurses := true, plainKeys := false, apart := false }
def UtfCutsSaid : Prop := utfCutsRow.holds Try.pinned (OpenSpec.ofChange utfCutsSpec)

/-- ITS FALSE NEIGHBOUR: 'it returns false'. Refute it at one input. -/
def utfCutsWrong : ChangeSpec := { name := "utfCuts", fn := fun _ => fun
  | [d] => { results := [.lit (.bool false)], args := [d] }
  | _ => none }
def UtfCutsWrongFalsely : Prop := utfCutsRow.holds Try.pinned (OpenSpec.ofChange utfCutsWrong)

/-- 'fascialaw02.UcdTells': WHATEVER THE INPUT: true; the input reads as it did. -/
def ucdTellsSpec : ChangeSpec := { name := "ucdTells", fn := fun _ => fun
  | [d1, d2] => { results := [.lit (.bool true)], args := [d1, d2] }
  | _ => none }
def ucdTellsRow : OpenClaim := { program := "ytbnaepdeakcljaa", sum := "cdde9e9f711375de45371e7b7a40ee01ffada1cb976918b023641e99e4804df1", func := "fascia/fascialaw02.UcdTells", spec := "ucdTells", unfollowed := true, recurses := true, plainKeys := false, apart := false }
def UcdTellsSaid : Prop := ucdTellsRow.holds Try.pinned (OpenSpec.ofChange ucdTellsSpec)

/-- ITS FALSE NEIGHBOUR: 'it returns false'. Refute it at one input. -/
def ucdTellsWrong : ChangeSpec := { name := "ucdTells", fn := fun _ => fun
  | [d1, d2] => { results := [.lit (.bool false)], args := [d1, d2] }
  | _ => none }
def UcdTellsWrongFalsely : Prop := ucdTellsRow.holds Try.pinned (OpenSpec.ofChange ucdTellsWrong)

/-- 'fascialaw02.UcdRows': WHATEVER THE INPUT: true; the input reads as it did. -/
def ucdRowsSpec : ChangeSpec := { name := "ucdRows", fn := fun _ => fun
  | [d1, d2, d3] => { results := [.lit (.bool true)], args := [d1, d2, d3] }
  | _ => none }
def ucdRowsRow : OpenClaim := { program := "ytbnaepdeakcljaa", sum := "cdde9e9f711375de45371e7b7a40ee01ffada1cb976918b023641e99e4804df1", func := "fascia/fascialaw02.UcdRows", spec := "ucdRows", unfollowed := true, recurses := true, plainKeys := false, apart := false }
def UcdRowsSaid : Prop := ucdRowsRow.holds Try.pinned (OpenSpec.ofChange ucdRowsSpec)

/-- ITS FALSE NEIGHBOUR: 'it returns false'. Refute it at one input. -/
def ucdRowsWrong : ChangeSpec := { name := "ucdRows", fn := fun _ => fun
  | [d1, d2, d3] => { results := [.lit (.bool false)], args := [d1, d2, d3] }
  | _ => none }
def UcdRowsWrongFalsely : Prop := ucdRowsRow.holds Try.pinned (OpenSpec.ofChange ucdRowsWrong)

/-- 'fascialaw02.UcdKinds': WHATEVER THE INPUT: true; the input reads as it did. -/
def ucdKindsSpec : ChangeSpec := { name := "ucdKinds", fn := fun _ => fun
  | [d1, d2] => { results := [.lit (.bool true)], args := [d1, d2] }
  | _ => none }
def ucdKindsRow : OpenClaim := { program := "ytbnaepdeakcljaa", sum := "cdde9e9f711375de45371e7b7a40ee01ffada1cb976918b023641e99e4804df1", func := "fascia/fascialaw02.UcdKinds", spec := "ucdKinds", unfollowed := true, recurses := true, plainKeys := false, apart := false }
def UcdKindsSaid : Prop := ucdKindsRow.holds Try.pinned (OpenSpec.ofChange ucdKindsSpec)

/-- ITS FALSE NEIGHBOUR: 'it returns false'. Refute it at one input. -/
def ucdKindsWrong : ChangeSpec := { name := "ucdKinds", fn := fun _ => fun
  | [d1, d2] => { results := [.lit (.bool false)], args := [d1, d2] }
  | _ => none }
def UcdKindsWrongFalsely : Prop := ucdKindsRow.holds Try.pinned (OpenSpec.ofChange ucdKindsWrong)

/-- 'fascialaw02.UcdBrackets': WHATEVER THE INPUT: true; the input reads as it did. -/
def ucdBracketsSpec : ChangeSpec := { name := "ucdBrackets", fn := fun _ => fun
  | [d1, d2] => { results := [.lit (.bool true)], args := [d1, d2] }
  | _ => none }
def ucdBracketsRow : OpenClaim := { program := "ytbnaepdeakcljaa", sum := "cdde9e9f711375de45371e7b7a40ee01ffada1cb976918b023641e99e4804df1", func := "fascia/fascialaw02.UcdBrackets", spec := "ucdBrackets", unfollowed := true, recurses := true, plainKeys := false, apart := false }
def UcdBracketsSaid : Prop := ucdBracketsRow.holds Try.pinned (OpenSpec.ofChange ucdBracketsSpec)

/-- ITS FALSE NEIGHBOUR: 'it returns false'. Refute it at one input. -/
def ucdBracketsWrong : ChangeSpec := { name := "ucdBrackets", fn := fun _ => fun
  | [d1, d2] => { results := [.lit (.bool false)], args := [d1, d2] }
  | _ => none }
def UcdBracketsWrongFalsely : Prop := ucdBracketsRow.holds Try.pinned (OpenSpec.ofChange ucdBracketsWrong)

/-- 'fascialaw02.UcdApart': WHATEVER THE INPUT: true; the input reads as it did. -/
def ucdApartSpec : ChangeSpec := { name := "ucdApart", fn := fun _ => fun
  | [d1, d2] => { results := [.lit (.bool true)], args := [d1, d2] }
  | _ => none }
def ucdApartRow : OpenClaim := { program := "ytbnaepdeakcljaa", sum := "cdde9e9f711375de45371e7b7a40ee01ffada1cb976918b023641e99e4804df1", func := "fascia/fascialaw02.UcdApart", spec := "ucdApart", unfollowed := true, recurses := true, plainKeys := false, apart := false }
def UcdApartSaid : Prop := ucdApartRow.holds Try.pinned (OpenSpec.ofChange ucdApartSpec)

/-- ITS FALSE NEIGHBOUR: 'it returns false'. Refute it at one input. -/
def ucdApartWrong : ChangeSpec := { name := "ucdApart", fn := fun _ => fun
  | [d1, d2] => { results := [.lit (.bool false)], args := [d1, d2] }
  | _ => none }
def UcdApartWrongFalsely : Prop := ucdApartRow.holds Try.pinned (OpenSpec.ofChange ucdApartWrong)

/- THE SECOND FORM. 'bulk': how many values and letters a reading holds, each counted each time it is reached (what is shared counts as often as it is met; a slice's spare places count too). A statement '..UptoSaid' is the law's where the arguments, and the package variables that the reading takes, are together of bulk at most 1048576: NARROWER than '..Said'. Prove '..Said' where nothing that the law and all that it calls make is longer than what came in: it says more and counts as full. Else prove '..UptoSaid'. A law counts once. -/
mutual
def uptoBulk {H : Type} : DataW H → Nat
  | .lit (.string bytes) => bytes.length + 1
  | .lit _ => 1
  | .nil => 1
  | .ptr d => uptoBulk d + 1
  | .slice elems spare => uptoBulkAll elems + uptoBulkAll spare + 1
  | .agg parts => uptoBulkAll parts + 1
  | .iface _ d => uptoBulk d + 1
  | .map entries => uptoBulkEntries entries + 1
  | .held _ => 1
def uptoBulkAll {H : Type} : List (DataW H) → Nat
  | [] => 0
  | d :: r => uptoBulk d + uptoBulkAll r
def uptoBulkEntries {H : Type} : List (Lit × DataW H) → Nat
  | [] => 0
  | x :: r => uptoBulkEntry x + uptoBulkEntries r
def uptoBulkEntry {H : Type} : Lit × DataW H → Nat
  | (.string bytes, d) => bytes.length + uptoBulk d + 1
  | (_, d) => uptoBulk d + 1
 end
def uptoSmall : (H : Type) → List (DataW H) → Bool := fun _ ds => decide (uptoBulkAll ds ≤ 1048576)
def OpenSpec.upto (s : _root_.Go.ChangeSpec) : _root_.Go.OpenSpec := { _root_.Go.OpenSpec.ofChange s with cond := some uptoSmall }

/-- 'fascialaw01.UtfParts', WHERE WHAT IT READS IS OF BULK AT MOST 1048576: true; the input reads as it did. -/
def utfPartsUptoRow : OpenClaim := { program := "ytbnaepdeakcljaa", sum := "cdde9e9f711375de45371e7b7a40ee01ffada1cb976918b023641e99e4804df1", func := "fascia/fascialaw01.UtfParts", spec := "utfParts", unfollowed := true, recurses := true, plainKeys := false, apart := false, narrowed := true }
def UtfPartsUptoSaid : Prop := utfPartsUptoRow.holds Try.pinned (OpenSpec.upto utfPartsSpec)

/-- 'fascialaw01.UtfOrder', WHERE WHAT IT READS IS OF BULK AT MOST 1048576: true; the input reads as it did. -/
def utfOrderUptoRow : OpenClaim := { program := "ytbnaepdeakcljaa", sum := "cdde9e9f711375de45371e7b7a40ee01ffada1cb976918b023641e99e4804df1", func := "fascia/fascialaw01.UtfOrder", spec := "utfOrder", unfollowed := true, recurses := true, plainKeys := false, apart := false, narrowed := true }
def UtfOrderUptoSaid : Prop := utfOrderUptoRow.holds Try.pinned (OpenSpec.upto utfOrderSpec)

/-- 'fascialaw01.UtfOne', WHERE WHAT IT READS IS OF BULK AT MOST 1048576: true; the input reads as it did. -/
def utfOneUptoRow : OpenClaim := { program := "ytbnaepdeakcljaa", sum := "cdde9e9f711375de45371e7b7a40ee01ffada1cb976918b023641e99e4804df1", func := "fascia/fascialaw01.UtfOne", spec := "utfOne", unfollowed := true, recurses := true, plainKeys := false, apart := false, narrowed := true }
def UtfOneUptoSaid : Prop := utfOneUptoRow.holds Try.pinned (OpenSpec.upto utfOneSpec)

/-- 'fascialaw01.UtfTells', WHERE WHAT IT READS IS OF BULK AT MOST 1048576: true; the input reads as it did. -/
def utfTellsUptoRow : OpenClaim := { program := "ytbnaepdeakcljaa", sum := "cdde9e9f711375de45371e7b7a40ee01ffada1cb976918b023641e99e4804df1", func := "fascia/fascialaw01.UtfTells", spec := "utfTells", unfollowed := true, recurses := true, plainKeys := false, apart := false, narrowed := true }
def UtfTellsUptoSaid : Prop := utfTellsUptoRow.holds Try.pinned (OpenSpec.upto utfTellsSpec)

/-- 'fascialaw01.UtfBack', WHERE WHAT IT READS IS OF BULK AT MOST 1048576: true; the input reads as it did. -/
def utfBackUptoRow : OpenClaim := { program := "ytbnaepdeakcljaa", sum := "cdde9e9f711375de45371e7b7a40ee01ffada1cb976918b023641e99e4804df1", func := "fascia/fascialaw01.UtfBack", spec := "utfBack", unfollowed := true, recurses := true, plainKeys := false, apart := false, narrowed := true }
def UtfBackUptoSaid : Prop := utfBackUptoRow.holds Try.pinned (OpenSpec.upto utfBackSpec)

/-- 'fascialaw01.UtfCuts', WHERE WHAT IT READS IS OF BULK AT MOST 1048576: true; the input reads as it did. -/
def utfCutsUptoRow : OpenClaim := { program := "ytbnaepdeakcljaa", sum := "cdde9e9f711375de45371e7b7a40ee01ffada1cb976918b023641e99e4804df1", func := "fascia/fascialaw01.UtfCuts", spec := "utfCuts", unfollowed := true, recurses := true, plainKeys := false, apart := false, narrowed := true }
def UtfCutsUptoSaid : Prop := utfCutsUptoRow.holds Try.pinned (OpenSpec.upto utfCutsSpec)

/-- 'fascialaw02.UcdTells', WHERE WHAT IT READS IS OF BULK AT MOST 1048576: true; the input reads as it did. -/
def ucdTellsUptoRow : OpenClaim := { program := "ytbnaepdeakcljaa", sum := "cdde9e9f711375de45371e7b7a40ee01ffada1cb976918b023641e99e4804df1", func := "fascia/fascialaw02.UcdTells", spec := "ucdTells", unfollowed := true, recurses := true, plainKeys := false, apart := false, narrowed := true }
def UcdTellsUptoSaid : Prop := ucdTellsUptoRow.holds Try.pinned (OpenSpec.upto ucdTellsSpec)

/-- 'fascialaw02.UcdRows', WHERE WHAT IT READS IS OF BULK AT MOST 1048576: true; the input reads as it did. -/
def ucdRowsUptoRow : OpenClaim := { program := "ytbnaepdeakcljaa", sum := "cdde9e9f711375de45371e7b7a40ee01ffada1cb976918b023641e99e4804df1", func := "fascia/fascialaw02.UcdRows", spec := "ucdRows", unfollowed := true, recurses := true, plainKeys := false, apart := false, narrowed := true }
def UcdRowsUptoSaid : Prop := ucdRowsUptoRow.holds Try.pinned (OpenSpec.upto ucdRowsSpec)

/-- 'fascialaw02.UcdKinds', WHERE WHAT IT READS IS OF BULK AT MOST 1048576: true; the input reads as it did. -/
def ucdKindsUptoRow : OpenClaim := { program := "ytbnaepdeakcljaa", sum := "cdde9e9f711375de45371e7b7a40ee01ffada1cb976918b023641e99e4804df1", func := "fascia/fascialaw02.UcdKinds", spec := "ucdKinds", unfollowed := true, recurses := true, plainKeys := false, apart := false, narrowed := true }
def UcdKindsUptoSaid : Prop := ucdKindsUptoRow.holds Try.pinned (OpenSpec.upto ucdKindsSpec)

/-- 'fascialaw02.UcdBrackets', WHERE WHAT IT READS IS OF BULK AT MOST 1048576: true; the input reads as it did. -/
def ucdBracketsUptoRow : OpenClaim := { program := "ytbnaepdeakcljaa", sum := "cdde9e9f711375de45371e7b7a40ee01ffada1cb976918b023641e99e4804df1", func := "fascia/fascialaw02.UcdBrackets", spec := "ucdBrackets", unfollowed := true, recurses := true, plainKeys := false, apart := false, narrowed := true }
def UcdBracketsUptoSaid : Prop := ucdBracketsUptoRow.holds Try.pinned (OpenSpec.upto ucdBracketsSpec)

/-- 'fascialaw02.UcdApart', WHERE WHAT IT READS IS OF BULK AT MOST 1048576: true; the input reads as it did. -/
def ucdApartUptoRow : OpenClaim := { program := "ytbnaepdeakcljaa", sum := "cdde9e9f711375de45371e7b7a40ee01ffada1cb976918b023641e99e4804df1", func := "fascia/fascialaw02.UcdApart", spec := "ucdApart", unfollowed := true, recurses := true, plainKeys := false, apart := false, narrowed := true }
def UcdApartUptoSaid : Prop := ucdApartUptoRow.holds Try.pinned (OpenSpec.upto ucdApartSpec)

end Rows
end Go.Proofs.Ytbnaepdeakcljaa
