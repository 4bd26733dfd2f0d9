/-
  No cell of these rows narrows 'for every input' (looked for: loops, veiled, ifaces, maps, wideKeys, modest, calm, conditions, laid).
  DERIVED. THE GIVEN ROWS OF THIS SEAT. 11 by the template 'for every input the law returns true; each argument reads behind the call as it read before'; 0 by the template 'total and deterministic' (their statements: YtmhpjoadfgplgaaTotals.lean).
  GIVEN WITH THE SEED: the statements are not yours to turn. If you find one false, say at which input.
  Laid BY PROGRAM, IN A SANDBOX (cutbox-rows.mjs): the forced cells as the released guide's own fill.sh prints them over the translation c8ac151329b1ad05… (all of the seat's roots in one cut). By AI agents, Wed Nov 11 2026. No macro, syntax, notation, axiom, sorry.
-/
import Derived.Test.YtmhpjoadfgplgaaChecked
import GoSem.Claim
import GoSem.ClaimJoined
import GoSem.ClaimMapViews
import Derived.JoinedTies
import Derived.KernelRfl
namespace Go.Proofs.Ytmhpjoadfgplgaa
/- THE CELL 'sum', in the pinned program and in every row, IS THE sha256 OF THE DUMP (.gsa) THAT YtmhpjoadfgplgaaProg.lean LOADS. Nothing in Lean hashes anything: it is a label: what it is worth is what the hold of that sum in a sandbox is worth. -/
noncomputable def Try.pinned : Pinned := { name := "ytmhpjoadfgplgaa", sum := "c8ac151329b1ad0586cebacaffddc520829519e429dd60d7b9138d02fd6fc07a", checked := Try.checked }
namespace Rows
def none {H : Type} : Left H := { results := [], args := [] }

/-- 'fascialaw04.PunyTells': WHATEVER THE INPUT: true; the input reads as it did. -/
def punyTellsSpec : ChangeSpec := { name := "punyTells", fn := fun _ => fun
  | [d1, d2] => { results := [.lit (.bool true)], args := [d1, d2] }
  | _ => none }
def punyTellsRow : OpenClaim := { program := "ytmhpjoadfgplgaa", sum := "c8ac151329b1ad0586cebacaffddc520829519e429dd60d7b9138d02fd6fc07a", func := "fascia/fascialaw04.PunyTells", spec := "punyTells", inPlace := ["internal/abi.NoEscape", "internal/bytealg.IndexByteString", "slices.overlaps[rune]"], unfollowed := true, recurses := true, plainKeys := false, apart := false }
def PunyTellsSaid : Prop := punyTellsRow.holds Try.pinned (OpenSpec.ofChange punyTellsSpec)

/-- ITS FALSE NEIGHBOUR: 'it returns false'. Refute it at one input. -/
def punyTellsWrong : ChangeSpec := { name := "punyTells", fn := fun _ => fun
  | [d1, d2] => { results := [.lit (.bool false)], args := [d1, d2] }
  | _ => none }
def PunyTellsWrongFalsely : Prop := punyTellsRow.holds Try.pinned (OpenSpec.ofChange punyTellsWrong)

/-- 'fascialaw04.PunyBack': WHATEVER THE INPUT: true; the input reads as it did. -/
def punyBackSpec : ChangeSpec := { name := "punyBack", fn := fun _ => fun
  | [d1, d2, d3] => { results := [.lit (.bool true)], args := [d1, d2, d3] }
  | _ => none }
def punyBackRow : OpenClaim := { program := "ytmhpjoadfgplgaa", sum := "c8ac151329b1ad0586cebacaffddc520829519e429dd60d7b9138d02fd6fc07a", func := "fascia/fascialaw04.PunyBack", spec := "punyBack", inPlace := ["internal/abi.NoEscape", "internal/bytealg.IndexByteString", "slices.overlaps[rune]"], unfollowed := true, recurses := true, plainKeys := false, apart := false }
def PunyBackSaid : Prop := punyBackRow.holds Try.pinned (OpenSpec.ofChange punyBackSpec)

/-- ITS FALSE NEIGHBOUR: 'it returns false'. Refute it at one input. -/
def punyBackWrong : ChangeSpec := { name := "punyBack", fn := fun _ => fun
  | [d1, d2, d3] => { results := [.lit (.bool false)], args := [d1, d2, d3] }
  | _ => none }
def PunyBackWrongFalsely : Prop := punyBackRow.holds Try.pinned (OpenSpec.ofChange punyBackWrong)

/-- 'fascialaw04.PunyCut': WHATEVER THE INPUT: true; the input reads as it did. -/
def punyCutSpec : ChangeSpec := { name := "punyCut", fn := fun _ => fun
  | [d1, d2, d3] => { results := [.lit (.bool true)], args := [d1, d2, d3] }
  | _ => none }
def punyCutRow : OpenClaim := { program := "ytmhpjoadfgplgaa", sum := "c8ac151329b1ad0586cebacaffddc520829519e429dd60d7b9138d02fd6fc07a", func := "fascia/fascialaw04.PunyCut", spec := "punyCut", inPlace := ["internal/abi.NoEscape", "internal/bytealg.IndexByteString", "slices.overlaps[rune]"], unfollowed := true, recurses := true, plainKeys := false, apart := false }
def PunyCutSaid : Prop := punyCutRow.holds Try.pinned (OpenSpec.ofChange punyCutSpec)

/-- ITS FALSE NEIGHBOUR: 'it returns false'. Refute it at one input. -/
def punyCutWrong : ChangeSpec := { name := "punyCut", fn := fun _ => fun
  | [d1, d2, d3] => { results := [.lit (.bool false)], args := [d1, d2, d3] }
  | _ => none }
def PunyCutWrongFalsely : Prop := punyCutRow.holds Try.pinned (OpenSpec.ofChange punyCutWrong)

/-- 'fascialaw04.PunyPlain': WHATEVER THE INPUT: true; the input reads as it did. -/
def punyPlainSpec : ChangeSpec := { name := "punyPlain", fn := fun _ => fun
  | [d] => { results := [.lit (.bool true)], args := [d] }
  | _ => none }
def punyPlainRow : OpenClaim := { program := "ytmhpjoadfgplgaa", sum := "c8ac151329b1ad0586cebacaffddc520829519e429dd60d7b9138d02fd6fc07a", func := "fascia/fascialaw04.PunyPlain", spec := "punyPlain", inPlace := ["internal/abi.NoEscape", "internal/bytealg.IndexByteString", "slices.overlaps[rune]"], unfollowed := true, recurses := true, plainKeys := false, apart := false }
def PunyPlainSaid : Prop := punyPlainRow.holds Try.pinned (OpenSpec.ofChange punyPlainSpec)

/-- ITS FALSE NEIGHBOUR: 'it returns false'. Refute it at one input. -/
def punyPlainWrong : ChangeSpec := { name := "punyPlain", fn := fun _ => fun
  | [d] => { results := [.lit (.bool false)], args := [d] }
  | _ => none }
def PunyPlainWrongFalsely : Prop := punyPlainRow.holds Try.pinned (OpenSpec.ofChange punyPlainWrong)

/-- 'fascialaw04.PunyGreat': WHATEVER THE INPUT: true; the input reads as it did. -/
def punyGreatSpec : ChangeSpec := { name := "punyGreat", fn := fun _ => fun
  | [d1, d2] => { results := [.lit (.bool true)], args := [d1, d2] }
  | _ => none }
def punyGreatRow : OpenClaim := { program := "ytmhpjoadfgplgaa", sum := "c8ac151329b1ad0586cebacaffddc520829519e429dd60d7b9138d02fd6fc07a", func := "fascia/fascialaw04.PunyGreat", spec := "punyGreat", inPlace := ["internal/abi.NoEscape", "internal/bytealg.MakeNoZero", "internal/bytealg.IndexByteString", "slices.overlaps[rune]"], unfollowed := true, recurses := true, plainKeys := false, apart := false }
def PunyGreatSaid : Prop := punyGreatRow.holds Try.pinned (OpenSpec.ofChange punyGreatSpec)

/-- ITS FALSE NEIGHBOUR: 'it returns false'. Refute it at one input. -/
def punyGreatWrong : ChangeSpec := { name := "punyGreat", fn := fun _ => fun
  | [d1, d2] => { results := [.lit (.bool false)], args := [d1, d2] }
  | _ => none }
def PunyGreatWrongFalsely : Prop := punyGreatRow.holds Try.pinned (OpenSpec.ofChange punyGreatWrong)

/-- 'fascialaw05.NormOrder': WHATEVER THE INPUT: true; the input reads as it did. -/
def normOrderSpec : ChangeSpec := { name := "normOrder", fn := fun _ => fun
  | [d1, d2] => { results := [.lit (.bool true)], args := [d1, d2] }
  | _ => none }
def normOrderRow : OpenClaim := { program := "ytmhpjoadfgplgaa", sum := "c8ac151329b1ad0586cebacaffddc520829519e429dd60d7b9138d02fd6fc07a", func := "fascia/fascialaw05.NormOrder", spec := "normOrder", unfollowed := true, recurses := true, plainKeys := false, apart := false }
def NormOrderSaid : Prop := normOrderRow.holds Try.pinned (OpenSpec.ofChange normOrderSpec)

/-- ITS FALSE NEIGHBOUR: 'it returns false'. Refute it at one input. -/
def normOrderWrong : ChangeSpec := { name := "normOrder", fn := fun _ => fun
  | [d1, d2] => { results := [.lit (.bool false)], args := [d1, d2] }
  | _ => none }
def NormOrderWrongFalsely : Prop := normOrderRow.holds Try.pinned (OpenSpec.ofChange normOrderWrong)

/-- 'fascialaw05.NormSyllables': WHATEVER THE INPUT: true; the input reads as it did. -/
def normSyllablesSpec : ChangeSpec := { name := "normSyllables", fn := fun _ => fun
  | [d1, d2, d3] => { results := [.lit (.bool true)], args := [d1, d2, d3] }
  | _ => none }
def normSyllablesRow : OpenClaim := { program := "ytmhpjoadfgplgaa", sum := "c8ac151329b1ad0586cebacaffddc520829519e429dd60d7b9138d02fd6fc07a", func := "fascia/fascialaw05.NormSyllables", spec := "normSyllables", unfollowed := true, recurses := true, plainKeys := false, apart := false }
def NormSyllablesSaid : Prop := normSyllablesRow.holds Try.pinned (OpenSpec.ofChange normSyllablesSpec)

/-- ITS FALSE NEIGHBOUR: 'it returns false'. Refute it at one input. -/
def normSyllablesWrong : ChangeSpec := { name := "normSyllables", fn := fun _ => fun
  | [d1, d2, d3] => { results := [.lit (.bool false)], args := [d1, d2, d3] }
  | _ => none }
def NormSyllablesWrongFalsely : Prop := normSyllablesRow.holds Try.pinned (OpenSpec.ofChange normSyllablesWrong)

/-- 'fascialaw05.NormParts': WHATEVER THE INPUT: true; the input reads as it did. -/
def normPartsSpec : ChangeSpec := { name := "normParts", fn := fun _ => fun
  | [d1, d2, d3] => { results := [.lit (.bool true)], args := [d1, d2, d3] }
  | _ => none }
def normPartsRow : OpenClaim := { program := "ytmhpjoadfgplgaa", sum := "c8ac151329b1ad0586cebacaffddc520829519e429dd60d7b9138d02fd6fc07a", func := "fascia/fascialaw05.NormParts", spec := "normParts", unfollowed := true, recurses := true, plainKeys := false, apart := false }
def NormPartsSaid : Prop := normPartsRow.holds Try.pinned (OpenSpec.ofChange normPartsSpec)

/-- ITS FALSE NEIGHBOUR: 'it returns false'. Refute it at one input. -/
def normPartsWrong : ChangeSpec := { name := "normParts", fn := fun _ => fun
  | [d1, d2, d3] => { results := [.lit (.bool false)], args := [d1, d2, d3] }
  | _ => none }
def NormPartsWrongFalsely : Prop := normPartsRow.holds Try.pinned (OpenSpec.ofChange normPartsWrong)

/-- 'fascialaw05.NormTells': WHATEVER THE INPUT: true; the input reads as it did. -/
def normTellsSpec : ChangeSpec := { name := "normTells", fn := fun _ => fun
  | [d1, d2, d3] => { results := [.lit (.bool true)], args := [d1, d2, d3] }
  | _ => none }
def normTellsRow : OpenClaim := { program := "ytmhpjoadfgplgaa", sum := "c8ac151329b1ad0586cebacaffddc520829519e429dd60d7b9138d02fd6fc07a", func := "fascia/fascialaw05.NormTells", spec := "normTells", unfollowed := true, recurses := true, plainKeys := false, apart := false }
def NormTellsSaid : Prop := normTellsRow.holds Try.pinned (OpenSpec.ofChange normTellsSpec)

/-- ITS FALSE NEIGHBOUR: 'it returns false'. Refute it at one input. -/
def normTellsWrong : ChangeSpec := { name := "normTells", fn := fun _ => fun
  | [d1, d2, d3] => { results := [.lit (.bool false)], args := [d1, d2, d3] }
  | _ => none }
def NormTellsWrongFalsely : Prop := normTellsRow.holds Try.pinned (OpenSpec.ofChange normTellsWrong)

/-- 'fascialaw05.NormSame': WHATEVER THE INPUT: true; the input reads as it did. -/
def normSameSpec : ChangeSpec := { name := "normSame", fn := fun _ => fun
  | [d1, d2] => { results := [.lit (.bool true)], args := [d1, d2] }
  | _ => none }
def normSameRow : OpenClaim := { program := "ytmhpjoadfgplgaa", sum := "c8ac151329b1ad0586cebacaffddc520829519e429dd60d7b9138d02fd6fc07a", func := "fascia/fascialaw05.NormSame", spec := "normSame", unfollowed := true, recurses := true, plainKeys := false, apart := false }
def NormSameSaid : Prop := normSameRow.holds Try.pinned (OpenSpec.ofChange normSameSpec)

/-- ITS FALSE NEIGHBOUR: 'it returns false'. Refute it at one input. -/
def normSameWrong : ChangeSpec := { name := "normSame", fn := fun _ => fun
  | [d1, d2] => { results := [.lit (.bool false)], args := [d1, d2] }
  | _ => none }
def NormSameWrongFalsely : Prop := normSameRow.holds Try.pinned (OpenSpec.ofChange normSameWrong)

/-- 'fascialaw05.NormPairs': WHATEVER THE INPUT: true; the input reads as it did. -/
def normPairsSpec : ChangeSpec := { name := "normPairs", fn := fun _ => fun
  | [d1, d2, d3] => { results := [.lit (.bool true)], args := [d1, d2, d3] }
  | _ => none }
def normPairsRow : OpenClaim := { program := "ytmhpjoadfgplgaa", sum := "c8ac151329b1ad0586cebacaffddc520829519e429dd60d7b9138d02fd6fc07a", func := "fascia/fascialaw05.NormPairs", spec := "normPairs", unfollowed := true, recurses := true, plainKeys := false, apart := false }
def NormPairsSaid : Prop := normPairsRow.holds Try.pinned (OpenSpec.ofChange normPairsSpec)

/-- ITS FALSE NEIGHBOUR: 'it returns false'. Refute it at one input. -/
def normPairsWrong : ChangeSpec := { name := "normPairs", fn := fun _ => fun
  | [d1, d2, d3] => { results := [.lit (.bool false)], args := [d1, d2, d3] }
  | _ => none }
def NormPairsWrongFalsely : Prop := normPairsRow.holds Try.pinned (OpenSpec.ofChange normPairsWrong)

/- THE SECOND FORM. 'bulk': how many values and letters a reading holds, each counted each time it is reached (what is shared counts as often as it is met; a slice's spare places count too). A statement '..UptoSaid' is the law's where the arguments, and the package variables that the reading takes, are together of bulk at most 1048576: NARROWER than '..Said'. Prove '..Said' where nothing that the law and all that it calls make is longer than what came in: it says more and counts as full. Else prove '..UptoSaid'. A law counts once. -/
mutual
def uptoBulk {H : Type} : DataW H → Nat
  | .lit (.string bytes) => bytes.length + 1
  | .lit _ => 1
  | .nil => 1
  | .ptr d => uptoBulk d + 1
  | .slice elems spare => uptoBulkAll elems + uptoBulkAll spare + 1
  | .agg parts => uptoBulkAll parts + 1
  | .iface _ d => uptoBulk d + 1
  | .map entries => uptoBulkEntries entries + 1
  | .held _ => 1
def uptoBulkAll {H : Type} : List (DataW H) → Nat
  | [] => 0
  | d :: r => uptoBulk d + uptoBulkAll r
def uptoBulkEntries {H : Type} : List (Lit × DataW H) → Nat
  | [] => 0
  | x :: r => uptoBulkEntry x + uptoBulkEntries r
def uptoBulkEntry {H : Type} : Lit × DataW H → Nat
  | (.string bytes, d) => bytes.length + uptoBulk d + 1
  | (_, d) => uptoBulk d + 1
 end
def uptoSmall : (H : Type) → List (DataW H) → Bool := fun _ ds => decide (uptoBulkAll ds ≤ 1048576)
def OpenSpec.upto (s : _root_.Go.ChangeSpec) : _root_.Go.OpenSpec := { _root_.Go.OpenSpec.ofChange s with cond := some uptoSmall }

/-- 'fascialaw04.PunyTells', WHERE WHAT IT READS IS OF BULK AT MOST 1048576: true; the input reads as it did. -/
def punyTellsUptoRow : OpenClaim := { program := "ytmhpjoadfgplgaa", sum := "c8ac151329b1ad0586cebacaffddc520829519e429dd60d7b9138d02fd6fc07a", func := "fascia/fascialaw04.PunyTells", spec := "punyTells", inPlace := ["internal/abi.NoEscape", "internal/bytealg.IndexByteString", "slices.overlaps[rune]"], unfollowed := true, recurses := true, plainKeys := false, apart := false, narrowed := true }
def PunyTellsUptoSaid : Prop := punyTellsUptoRow.holds Try.pinned (OpenSpec.upto punyTellsSpec)

/-- 'fascialaw04.PunyBack', WHERE WHAT IT READS IS OF BULK AT MOST 1048576: true; the input reads as it did. -/
def punyBackUptoRow : OpenClaim := { program := "ytmhpjoadfgplgaa", sum := "c8ac151329b1ad0586cebacaffddc520829519e429dd60d7b9138d02fd6fc07a", func := "fascia/fascialaw04.PunyBack", spec := "punyBack", inPlace := ["internal/abi.NoEscape", "internal/bytealg.IndexByteString", "slices.overlaps[rune]"], unfollowed := true, recurses := true, plainKeys := false, apart := false, narrowed := true }
def PunyBackUptoSaid : Prop := punyBackUptoRow.holds Try.pinned (OpenSpec.upto punyBackSpec)

/-- 'fascialaw04.PunyCut', WHERE WHAT IT READS IS OF BULK AT MOST 1048576: true; the input reads as it did. -/
def punyCutUptoRow : OpenClaim := { program := "ytmhpjoadfgplgaa", sum := "c8ac151329b1ad0586cebacaffddc520829519e429dd60d7b9138d02fd6fc07a", func := "fascia/fascialaw04.PunyCut", spec := "punyCut", inPlace := ["internal/abi.NoEscape", "internal/bytealg.IndexByteString", "slices.overlaps[rune]"], unfollowed := true, recurses := true, plainKeys := false, apart := false, narrowed := true }
def PunyCutUptoSaid : Prop := punyCutUptoRow.holds Try.pinned (OpenSpec.upto punyCutSpec)

/-- 'fascialaw04.PunyPlain', WHERE WHAT IT READS IS OF BULK AT MOST 1048576: true; the input reads as it did. -/
def punyPlainUptoRow : OpenClaim := { program := "ytmhpjoadfgplgaa", sum := "c8ac151329b1ad0586cebacaffddc520829519e429dd60d7b9138d02fd6fc07a", func := "fascia/fascialaw04.PunyPlain", spec := "punyPlain", inPlace := ["internal/abi.NoEscape", "internal/bytealg.IndexByteString", "slices.overlaps[rune]"], unfollowed := true, recurses := true, plainKeys := false, apart := false, narrowed := true }
def PunyPlainUptoSaid : Prop := punyPlainUptoRow.holds Try.pinned (OpenSpec.upto punyPlainSpec)

/-- 'fascialaw04.PunyGreat', WHERE WHAT IT READS IS OF BULK AT MOST 1048576: true; the input reads as it did. -/
def punyGreatUptoRow : OpenClaim := { program := "ytmhpjoadfgplgaa", sum := "c8ac151329b1ad0586cebacaffddc520829519e429dd60d7b9138d02fd6fc07a", func := "fascia/fascialaw04.PunyGreat", spec := "punyGreat", inPlace := ["internal/abi.NoEscape", "internal/bytealg.MakeNoZero", "internal/bytealg.IndexByteString", "slices.overlaps[rune]"], unfollowed := true, recurses := true, plainKeys := false, apart := false, narrowed := true }
def PunyGreatUptoSaid : Prop := punyGreatUptoRow.holds Try.pinned (OpenSpec.upto punyGreatSpec)

/-- 'fascialaw05.NormOrder', WHERE WHAT IT READS IS OF BULK AT MOST 1048576: true; the input reads as it did. -/
def normOrderUptoRow : OpenClaim := { program := "ytmhpjoadfgplgaa", sum := "c8ac151329b1ad0586cebacaffddc520829519e429dd60d7b9138d02fd6fc07a", func := "fascia/fascialaw05.NormOrder", spec := "normOrder", unfollowed := true, recurses := true, plainKeys := false, apart := false, narrowed := true }
def NormOrderUptoSaid : Prop := normOrderUptoRow.holds Try.pinned (OpenSpec.upto normOrderSpec)

/-- 'fascialaw05.NormSyllables', WHERE WHAT IT READS IS OF BULK AT MOST 1048576: true; the input reads as it did. -/
def normSyllablesUptoRow : OpenClaim := { program := "ytmhpjoadfgplgaa", sum := "c8ac151329b1ad0586cebacaffddc520829519e429dd60d7b9138d02fd6fc07a", func := "fascia/fascialaw05.NormSyllables", spec := "normSyllables", unfollowed := true, recurses := true, plainKeys := false, apart := false, narrowed := true }
def NormSyllablesUptoSaid : Prop := normSyllablesUptoRow.holds Try.pinned (OpenSpec.upto normSyllablesSpec)

/-- 'fascialaw05.NormParts', WHERE WHAT IT READS IS OF BULK AT MOST 1048576: true; the input reads as it did. -/
def normPartsUptoRow : OpenClaim := { program := "ytmhpjoadfgplgaa", sum := "c8ac151329b1ad0586cebacaffddc520829519e429dd60d7b9138d02fd6fc07a", func := "fascia/fascialaw05.NormParts", spec := "normParts", unfollowed := true, recurses := true, plainKeys := false, apart := false, narrowed := true }
def NormPartsUptoSaid : Prop := normPartsUptoRow.holds Try.pinned (OpenSpec.upto normPartsSpec)

/-- 'fascialaw05.NormTells', WHERE WHAT IT READS IS OF BULK AT MOST 1048576: true; the input reads as it did. -/
def normTellsUptoRow : OpenClaim := { program := "ytmhpjoadfgplgaa", sum := "c8ac151329b1ad0586cebacaffddc520829519e429dd60d7b9138d02fd6fc07a", func := "fascia/fascialaw05.NormTells", spec := "normTells", unfollowed := true, recurses := true, plainKeys := false, apart := false, narrowed := true }
def NormTellsUptoSaid : Prop := normTellsUptoRow.holds Try.pinned (OpenSpec.upto normTellsSpec)

/-- 'fascialaw05.NormSame', WHERE WHAT IT READS IS OF BULK AT MOST 1048576: true; the input reads as it did. -/
def normSameUptoRow : OpenClaim := { program := "ytmhpjoadfgplgaa", sum := "c8ac151329b1ad0586cebacaffddc520829519e429dd60d7b9138d02fd6fc07a", func := "fascia/fascialaw05.NormSame", spec := "normSame", unfollowed := true, recurses := true, plainKeys := false, apart := false, narrowed := true }
def NormSameUptoSaid : Prop := normSameUptoRow.holds Try.pinned (OpenSpec.upto normSameSpec)

/-- 'fascialaw05.NormPairs', WHERE WHAT IT READS IS OF BULK AT MOST 1048576: true; the input reads as it did. -/
def normPairsUptoRow : OpenClaim := { program := "ytmhpjoadfgplgaa", sum := "c8ac151329b1ad0586cebacaffddc520829519e429dd60d7b9138d02fd6fc07a", func := "fascia/fascialaw05.NormPairs", spec := "normPairs", unfollowed := true, recurses := true, plainKeys := false, apart := false, narrowed := true }
def NormPairsUptoSaid : Prop := normPairsUptoRow.holds Try.pinned (OpenSpec.upto normPairsSpec)

end Rows
end Go.Proofs.Ytmhpjoadfgplgaa
