/-
  No cell of these rows narrows 'for every input' (looked for: loops, veiled, ifaces, maps, wideKeys, modest, calm, conditions, laid).
  DERIVED. THE GIVEN ROWS OF THIS SEAT. 14 by the template 'for every input the law returns true; each argument reads behind the call as it read before'; 0 by the template 'total and deterministic' (their statements: YtocaeclhmkojiaaTotals.lean).
  GIVEN WITH THE SEED: the statements are not yours to turn. If you find one false, say at which input.
  Laid BY PROGRAM, IN A SANDBOX (cutbox-rows.mjs): the forced cells as the released guide's own fill.sh prints them over the translation efc9654e173bb116… (all of the seat's roots in one cut). By AI agents, Wed Nov 11 2026. No macro, syntax, notation, axiom, sorry.
-/
import Derived.Test.YtocaeclhmkojiaaChecked
import GoSem.Claim
import GoSem.ClaimJoined
import GoSem.ClaimMapViews
import Derived.JoinedTies
import Derived.KernelRfl
namespace Go.Proofs.Ytocaeclhmkojiaa
/- THE CELL 'sum', in the pinned program and in every row, IS THE sha256 OF THE DUMP (.gsa) THAT YtocaeclhmkojiaaProg.lean LOADS. Nothing in Lean hashes anything: it is a label: what it is worth is what the hold of that sum in a sandbox is worth. -/
noncomputable def Try.pinned : Pinned := { name := "ytocaeclhmkojiaa", sum := "efc9654e173bb11655d5a94c6694f37639c521f97a82f128232c6d0354d9171d", checked := Try.checked }
namespace Rows
def none {H : Type} : Left H := { results := [], args := [] }

/-- 'fascialaw09.RuleTells': WHATEVER THE INPUT: true; the input reads as it did. -/
def ruleTellsSpec : ChangeSpec := { name := "ruleTells", fn := fun _ => fun
  | [d] => { results := [.lit (.bool true)], args := [d] }
  | _ => none }
def ruleTellsRow : OpenClaim := { program := "ytocaeclhmkojiaa", sum := "efc9654e173bb11655d5a94c6694f37639c521f97a82f128232c6d0354d9171d", func := "fascia/fascialaw09.RuleTells", spec := "ruleTells", unfollowed := true, recurses := true, apart := false }
def RuleTellsSaid : Prop := ruleTellsRow.holds Try.pinned (OpenSpec.ofChange ruleTellsSpec)

/-- ITS FALSE NEIGHBOUR: 'it returns false'. Refute it at one input. -/
def ruleTellsWrong : ChangeSpec := { name := "ruleTells", fn := fun _ => fun
  | [d] => { results := [.lit (.bool false)], args := [d] }
  | _ => none }
def RuleTellsWrongFalsely : Prop := ruleTellsRow.holds Try.pinned (OpenSpec.ofChange ruleTellsWrong)

/-- 'fascialaw09.RuleClauses': WHATEVER THE INPUT: true; the input reads as it did. -/
def ruleClausesSpec : ChangeSpec := { name := "ruleClauses", fn := fun _ => fun
  | [d] => { results := [.lit (.bool true)], args := [d] }
  | _ => none }
def ruleClausesRow : OpenClaim := { program := "ytocaeclhmkojiaa", sum := "efc9654e173bb11655d5a94c6694f37639c521f97a82f128232c6d0354d9171d", func := "fascia/fascialaw09.RuleClauses", spec := "ruleClauses", unfollowed := true, recurses := true, apart := false }
def RuleClausesSaid : Prop := ruleClausesRow.holds Try.pinned (OpenSpec.ofChange ruleClausesSpec)

/-- ITS FALSE NEIGHBOUR: 'it returns false'. Refute it at one input. -/
def ruleClausesWrong : ChangeSpec := { name := "ruleClauses", fn := fun _ => fun
  | [d] => { results := [.lit (.bool false)], args := [d] }
  | _ => none }
def RuleClausesWrongFalsely : Prop := ruleClausesRow.holds Try.pinned (OpenSpec.ofChange ruleClausesWrong)

/-- 'fascialaw09.RuleMarks': WHATEVER THE INPUT: true; the input reads as it did. -/
def ruleMarksSpec : ChangeSpec := { name := "ruleMarks", fn := fun _ => fun
  | [d1, d2, d3] => { results := [.lit (.bool true)], args := [d1, d2, d3] }
  | _ => none }
def ruleMarksRow : OpenClaim := { program := "ytocaeclhmkojiaa", sum := "efc9654e173bb11655d5a94c6694f37639c521f97a82f128232c6d0354d9171d", func := "fascia/fascialaw09.RuleMarks", spec := "ruleMarks", unfollowed := true, recurses := true, apart := false }
def RuleMarksSaid : Prop := ruleMarksRow.holds Try.pinned (OpenSpec.ofChange ruleMarksSpec)

/-- ITS FALSE NEIGHBOUR: 'it returns false'. Refute it at one input. -/
def ruleMarksWrong : ChangeSpec := { name := "ruleMarks", fn := fun _ => fun
  | [d1, d2, d3] => { results := [.lit (.bool false)], args := [d1, d2, d3] }
  | _ => none }
def RuleMarksWrongFalsely : Prop := ruleMarksRow.holds Try.pinned (OpenSpec.ofChange ruleMarksWrong)

/-- 'fascialaw09.RulePut': WHATEVER THE INPUT: true; the input reads as it did. -/
def rulePutSpec : ChangeSpec := { name := "rulePut", fn := fun _ => fun
  | [d1, d2] => { results := [.lit (.bool true)], args := [d1, d2] }
  | _ => none }
def rulePutRow : OpenClaim := { program := "ytocaeclhmkojiaa", sum := "efc9654e173bb11655d5a94c6694f37639c521f97a82f128232c6d0354d9171d", func := "fascia/fascialaw09.RulePut", spec := "rulePut", unfollowed := true, recurses := true, apart := false }
def RulePutSaid : Prop := rulePutRow.holds Try.pinned (OpenSpec.ofChange rulePutSpec)

/-- ITS FALSE NEIGHBOUR: 'it returns false'. Refute it at one input. -/
def rulePutWrong : ChangeSpec := { name := "rulePut", fn := fun _ => fun
  | [d1, d2] => { results := [.lit (.bool false)], args := [d1, d2] }
  | _ => none }
def RulePutWrongFalsely : Prop := rulePutRow.holds Try.pinned (OpenSpec.ofChange rulePutWrong)

/-- 'fascialaw10.MixedTells': WHATEVER THE INPUT: true; the input reads as it did. -/
def mixedTellsSpec : ChangeSpec := { name := "mixedTells", fn := fun _ => fun
  | [d] => { results := [.lit (.bool true)], args := [d] }
  | _ => none }
def mixedTellsRow : OpenClaim := { program := "ytocaeclhmkojiaa", sum := "efc9654e173bb11655d5a94c6694f37639c521f97a82f128232c6d0354d9171d", func := "fascia/fascialaw10.MixedTells", spec := "mixedTells", unfollowed := true, recurses := true, apart := false }
def MixedTellsSaid : Prop := mixedTellsRow.holds Try.pinned (OpenSpec.ofChange mixedTellsSpec)

/-- ITS FALSE NEIGHBOUR: 'it returns false'. Refute it at one input. -/
def mixedTellsWrong : ChangeSpec := { name := "mixedTells", fn := fun _ => fun
  | [d] => { results := [.lit (.bool false)], args := [d] }
  | _ => none }
def MixedTellsWrongFalsely : Prop := mixedTellsRow.holds Try.pinned (OpenSpec.ofChange mixedTellsWrong)

/-- 'fascialaw10.MixedOrder': WHATEVER THE INPUT: true; the input reads as it did. -/
def mixedOrderSpec : ChangeSpec := { name := "mixedOrder", fn := fun _ => fun
  | [d1, d2] => { results := [.lit (.bool true)], args := [d1, d2] }
  | _ => none }
def mixedOrderRow : OpenClaim := { program := "ytocaeclhmkojiaa", sum := "efc9654e173bb11655d5a94c6694f37639c521f97a82f128232c6d0354d9171d", func := "fascia/fascialaw10.MixedOrder", spec := "mixedOrder", unfollowed := true, recurses := true, apart := false }
def MixedOrderSaid : Prop := mixedOrderRow.holds Try.pinned (OpenSpec.ofChange mixedOrderSpec)

/-- ITS FALSE NEIGHBOUR: 'it returns false'. Refute it at one input. -/
def mixedOrderWrong : ChangeSpec := { name := "mixedOrder", fn := fun _ => fun
  | [d1, d2] => { results := [.lit (.bool false)], args := [d1, d2] }
  | _ => none }
def MixedOrderWrongFalsely : Prop := mixedOrderRow.holds Try.pinned (OpenSpec.ofChange mixedOrderWrong)

/-- 'fascialaw10.MixedDigits': WHATEVER THE INPUT: true; the input reads as it did. -/
def mixedDigitsSpec : ChangeSpec := { name := "mixedDigits", fn := fun _ => fun
  | [d1, d2, d3] => { results := [.lit (.bool true)], args := [d1, d2, d3] }
  | _ => none }
def mixedDigitsRow : OpenClaim := { program := "ytocaeclhmkojiaa", sum := "efc9654e173bb11655d5a94c6694f37639c521f97a82f128232c6d0354d9171d", func := "fascia/fascialaw10.MixedDigits", spec := "mixedDigits", unfollowed := true, recurses := true, apart := false }
def MixedDigitsSaid : Prop := mixedDigitsRow.holds Try.pinned (OpenSpec.ofChange mixedDigitsSpec)

/-- ITS FALSE NEIGHBOUR: 'it returns false'. Refute it at one input. -/
def mixedDigitsWrong : ChangeSpec := { name := "mixedDigits", fn := fun _ => fun
  | [d1, d2, d3] => { results := [.lit (.bool false)], args := [d1, d2, d3] }
  | _ => none }
def MixedDigitsWrongFalsely : Prop := mixedDigitsRow.holds Try.pinned (OpenSpec.ofChange mixedDigitsWrong)

/-- 'fascialaw08.ContextTells': WHATEVER THE INPUT: true; the input reads as it did. -/
def contextTellsSpec : ChangeSpec := { name := "contextTells", fn := fun _ => fun
  | [d1, d2] => { results := [.lit (.bool true)], args := [d1, d2] }
  | _ => none }
def contextTellsRow : OpenClaim := { program := "ytocaeclhmkojiaa", sum := "efc9654e173bb11655d5a94c6694f37639c521f97a82f128232c6d0354d9171d", func := "fascia/fascialaw08.ContextTells", spec := "contextTells", unfollowed := true, recurses := true, apart := false }
def ContextTellsSaid : Prop := contextTellsRow.holds Try.pinned (OpenSpec.ofChange contextTellsSpec)

/-- ITS FALSE NEIGHBOUR: 'it returns false'. Refute it at one input. -/
def contextTellsWrong : ChangeSpec := { name := "contextTells", fn := fun _ => fun
  | [d1, d2] => { results := [.lit (.bool false)], args := [d1, d2] }
  | _ => none }
def ContextTellsWrongFalsely : Prop := contextTellsRow.holds Try.pinned (OpenSpec.ofChange contextTellsWrong)

/-- 'fascialaw08.ContextPlain': WHATEVER THE INPUT: true; the input reads as it did. -/
def contextPlainSpec : ChangeSpec := { name := "contextPlain", fn := fun _ => fun
  | [d] => { results := [.lit (.bool true)], args := [d] }
  | _ => none }
def contextPlainRow : OpenClaim := { program := "ytocaeclhmkojiaa", sum := "efc9654e173bb11655d5a94c6694f37639c521f97a82f128232c6d0354d9171d", func := "fascia/fascialaw08.ContextPlain", spec := "contextPlain", unfollowed := true, recurses := true, apart := false }
def ContextPlainSaid : Prop := contextPlainRow.holds Try.pinned (OpenSpec.ofChange contextPlainSpec)

/-- ITS FALSE NEIGHBOUR: 'it returns false'. Refute it at one input. -/
def contextPlainWrong : ChangeSpec := { name := "contextPlain", fn := fun _ => fun
  | [d] => { results := [.lit (.bool false)], args := [d] }
  | _ => none }
def ContextPlainWrongFalsely : Prop := contextPlainRow.holds Try.pinned (OpenSpec.ofChange contextPlainWrong)

/-- 'fascialaw08.ContextBeside': WHATEVER THE INPUT: true; the input reads as it did. -/
def contextBesideSpec : ChangeSpec := { name := "contextBeside", fn := fun _ => fun
  | [d1, d2, d3] => { results := [.lit (.bool true)], args := [d1, d2, d3] }
  | _ => none }
def contextBesideRow : OpenClaim := { program := "ytocaeclhmkojiaa", sum := "efc9654e173bb11655d5a94c6694f37639c521f97a82f128232c6d0354d9171d", func := "fascia/fascialaw08.ContextBeside", spec := "contextBeside", unfollowed := true, recurses := true, apart := false }
def ContextBesideSaid : Prop := contextBesideRow.holds Try.pinned (OpenSpec.ofChange contextBesideSpec)

/-- ITS FALSE NEIGHBOUR: 'it returns false'. Refute it at one input. -/
def contextBesideWrong : ChangeSpec := { name := "contextBeside", fn := fun _ => fun
  | [d1, d2, d3] => { results := [.lit (.bool false)], args := [d1, d2, d3] }
  | _ => none }
def ContextBesideWrongFalsely : Prop := contextBesideRow.holds Try.pinned (OpenSpec.ofChange contextBesideWrong)

/-- 'fascialaw08.ContextJoins': WHATEVER THE INPUT: true; the input reads as it did. -/
def contextJoinsSpec : ChangeSpec := { name := "contextJoins", fn := fun _ => fun
  | [d1, d2, d3, d4] => { results := [.lit (.bool true)], args := [d1, d2, d3, d4] }
  | _ => none }
def contextJoinsRow : OpenClaim := { program := "ytocaeclhmkojiaa", sum := "efc9654e173bb11655d5a94c6694f37639c521f97a82f128232c6d0354d9171d", func := "fascia/fascialaw08.ContextJoins", spec := "contextJoins", unfollowed := true, recurses := true, apart := false }
def ContextJoinsSaid : Prop := contextJoinsRow.holds Try.pinned (OpenSpec.ofChange contextJoinsSpec)

/-- ITS FALSE NEIGHBOUR: 'it returns false'. Refute it at one input. -/
def contextJoinsWrong : ChangeSpec := { name := "contextJoins", fn := fun _ => fun
  | [d1, d2, d3, d4] => { results := [.lit (.bool false)], args := [d1, d2, d3, d4] }
  | _ => none }
def ContextJoinsWrongFalsely : Prop := contextJoinsRow.holds Try.pinned (OpenSpec.ofChange contextJoinsWrong)

/-- 'fascialaw08.ContextDigits': WHATEVER THE INPUT: true; the input reads as it did. -/
def contextDigitsSpec : ChangeSpec := { name := "contextDigits", fn := fun _ => fun
  | [d] => { results := [.lit (.bool true)], args := [d] }
  | _ => none }
def contextDigitsRow : OpenClaim := { program := "ytocaeclhmkojiaa", sum := "efc9654e173bb11655d5a94c6694f37639c521f97a82f128232c6d0354d9171d", func := "fascia/fascialaw08.ContextDigits", spec := "contextDigits", unfollowed := true, recurses := true, apart := false }
def ContextDigitsSaid : Prop := contextDigitsRow.holds Try.pinned (OpenSpec.ofChange contextDigitsSpec)

/-- ITS FALSE NEIGHBOUR: 'it returns false'. Refute it at one input. -/
def contextDigitsWrong : ChangeSpec := { name := "contextDigits", fn := fun _ => fun
  | [d] => { results := [.lit (.bool false)], args := [d] }
  | _ => none }
def ContextDigitsWrongFalsely : Prop := contextDigitsRow.holds Try.pinned (OpenSpec.ofChange contextDigitsWrong)

/-- 'fascialaw09.RuleAlike': WHATEVER THE INPUT: true; the input reads as it did. -/
def ruleAlikeSpec : ChangeSpec := { name := "ruleAlike", fn := fun _ => fun
  | [d1, d2] => { results := [.lit (.bool true)], args := [d1, d2] }
  | _ => none }
def ruleAlikeRow : OpenClaim := { program := "ytocaeclhmkojiaa", sum := "efc9654e173bb11655d5a94c6694f37639c521f97a82f128232c6d0354d9171d", func := "fascia/fascialaw09.RuleAlike", spec := "ruleAlike", unfollowed := true, recurses := true, apart := false }
def RuleAlikeSaid : Prop := ruleAlikeRow.holds Try.pinned (OpenSpec.ofChange ruleAlikeSpec)

/-- ITS FALSE NEIGHBOUR: 'it returns false'. Refute it at one input. -/
def ruleAlikeWrong : ChangeSpec := { name := "ruleAlike", fn := fun _ => fun
  | [d1, d2] => { results := [.lit (.bool false)], args := [d1, d2] }
  | _ => none }
def RuleAlikeWrongFalsely : Prop := ruleAlikeRow.holds Try.pinned (OpenSpec.ofChange ruleAlikeWrong)

/-- 'fascialaw10.MixedPairs': WHATEVER THE INPUT: true; the input reads as it did. -/
def mixedPairsSpec : ChangeSpec := { name := "mixedPairs", fn := fun _ => fun
  | [d1, d2, d3] => { results := [.lit (.bool true)], args := [d1, d2, d3] }
  | _ => none }
def mixedPairsRow : OpenClaim := { program := "ytocaeclhmkojiaa", sum := "efc9654e173bb11655d5a94c6694f37639c521f97a82f128232c6d0354d9171d", func := "fascia/fascialaw10.MixedPairs", spec := "mixedPairs", unfollowed := true, recurses := true, apart := false }
def MixedPairsSaid : Prop := mixedPairsRow.holds Try.pinned (OpenSpec.ofChange mixedPairsSpec)

/-- ITS FALSE NEIGHBOUR: 'it returns false'. Refute it at one input. -/
def mixedPairsWrong : ChangeSpec := { name := "mixedPairs", fn := fun _ => fun
  | [d1, d2, d3] => { results := [.lit (.bool false)], args := [d1, d2, d3] }
  | _ => none }
def MixedPairsWrongFalsely : Prop := mixedPairsRow.holds Try.pinned (OpenSpec.ofChange mixedPairsWrong)

/- THE SECOND FORM. 'bulk': how many values and letters a reading holds, each counted each time it is reached (what is shared counts as often as it is met; a slice's spare places count too). A statement '..UptoSaid' is the law's where the arguments, and the package variables that the reading takes, are together of bulk at most 1048576: NARROWER than '..Said'. Prove '..Said' where nothing that the law and all that it calls make is longer than what came in: it says more and counts as full. Else prove '..UptoSaid'. A law counts once. -/
mutual
def uptoBulk {H : Type} : DataW H → Nat
  | .lit (.string bytes) => bytes.length + 1
  | .lit _ => 1
  | .nil => 1
  | .ptr d => uptoBulk d + 1
  | .slice elems spare => uptoBulkAll elems + uptoBulkAll spare + 1
  | .agg parts => uptoBulkAll parts + 1
  | .iface _ d => uptoBulk d + 1
  | .map entries => uptoBulkEntries entries + 1
  | .held _ => 1
def uptoBulkAll {H : Type} : List (DataW H) → Nat
  | [] => 0
  | d :: r => uptoBulk d + uptoBulkAll r
def uptoBulkEntries {H : Type} : List (Lit × DataW H) → Nat
  | [] => 0
  | x :: r => uptoBulkEntry x + uptoBulkEntries r
def uptoBulkEntry {H : Type} : Lit × DataW H → Nat
  | (.string bytes, d) => bytes.length + uptoBulk d + 1
  | (_, d) => uptoBulk d + 1
 end
def uptoSmall : (H : Type) → List (DataW H) → Bool := fun _ ds => decide (uptoBulkAll ds ≤ 1048576)
def OpenSpec.upto (s : _root_.Go.ChangeSpec) : _root_.Go.OpenSpec := { _root_.Go.OpenSpec.ofChange s with cond := some uptoSmall }

/-- 'fascialaw09.RuleTells', WHERE WHAT IT READS IS OF BULK AT MOST 1048576: true; the input reads as it did. -/
def ruleTellsUptoRow : OpenClaim := { program := "ytocaeclhmkojiaa", sum := "efc9654e173bb11655d5a94c6694f37639c521f97a82f128232c6d0354d9171d", func := "fascia/fascialaw09.RuleTells", spec := "ruleTells", unfollowed := true, recurses := true, apart := false, narrowed := true }
def RuleTellsUptoSaid : Prop := ruleTellsUptoRow.holds Try.pinned (OpenSpec.upto ruleTellsSpec)

/-- 'fascialaw09.RuleClauses', WHERE WHAT IT READS IS OF BULK AT MOST 1048576: true; the input reads as it did. -/
def ruleClausesUptoRow : OpenClaim := { program := "ytocaeclhmkojiaa", sum := "efc9654e173bb11655d5a94c6694f37639c521f97a82f128232c6d0354d9171d", func := "fascia/fascialaw09.RuleClauses", spec := "ruleClauses", unfollowed := true, recurses := true, apart := false, narrowed := true }
def RuleClausesUptoSaid : Prop := ruleClausesUptoRow.holds Try.pinned (OpenSpec.upto ruleClausesSpec)

/-- 'fascialaw09.RuleMarks', WHERE WHAT IT READS IS OF BULK AT MOST 1048576: true; the input reads as it did. -/
def ruleMarksUptoRow : OpenClaim := { program := "ytocaeclhmkojiaa", sum := "efc9654e173bb11655d5a94c6694f37639c521f97a82f128232c6d0354d9171d", func := "fascia/fascialaw09.RuleMarks", spec := "ruleMarks", unfollowed := true, recurses := true, apart := false, narrowed := true }
def RuleMarksUptoSaid : Prop := ruleMarksUptoRow.holds Try.pinned (OpenSpec.upto ruleMarksSpec)

/-- 'fascialaw09.RulePut', WHERE WHAT IT READS IS OF BULK AT MOST 1048576: true; the input reads as it did. -/
def rulePutUptoRow : OpenClaim := { program := "ytocaeclhmkojiaa", sum := "efc9654e173bb11655d5a94c6694f37639c521f97a82f128232c6d0354d9171d", func := "fascia/fascialaw09.RulePut", spec := "rulePut", unfollowed := true, recurses := true, apart := false, narrowed := true }
def RulePutUptoSaid : Prop := rulePutUptoRow.holds Try.pinned (OpenSpec.upto rulePutSpec)

/-- 'fascialaw10.MixedTells', WHERE WHAT IT READS IS OF BULK AT MOST 1048576: true; the input reads as it did. -/
def mixedTellsUptoRow : OpenClaim := { program := "ytocaeclhmkojiaa", sum := "efc9654e173bb11655d5a94c6694f37639c521f97a82f128232c6d0354d9171d", func := "fascia/fascialaw10.MixedTells", spec := "mixedTells", unfollowed := true, recurses := true, apart := false, narrowed := true }
def MixedTellsUptoSaid : Prop := mixedTellsUptoRow.holds Try.pinned (OpenSpec.upto mixedTellsSpec)

/-- 'fascialaw10.MixedOrder', WHERE WHAT IT READS IS OF BULK AT MOST 1048576: true; the input reads as it did. -/
def mixedOrderUptoRow : OpenClaim := { program := "ytocaeclhmkojiaa", sum := "efc9654e173bb11655d5a94c6694f37639c521f97a82f128232c6d0354d9171d", func := "fascia/fascialaw10.MixedOrder", spec := "mixedOrder", unfollowed := true, recurses := true, apart := false, narrowed := true }
def MixedOrderUptoSaid : Prop := mixedOrderUptoRow.holds Try.pinned (OpenSpec.upto mixedOrderSpec)

/-- 'fascialaw10.MixedDigits', WHERE WHAT IT READS IS OF BULK AT MOST 1048576: true; the input reads as it did. -/
def mixedDigitsUptoRow : OpenClaim := { program := "ytocaeclhmkojiaa", sum := "efc9654e173bb11655d5a94c6694f37639c521f97a82f128232c6d0354d9171d", func := "fascia/fascialaw10.MixedDigits", spec := "mixedDigits", unfollowed := true, recurses := true, apart := false, narrowed := true }
def MixedDigitsUptoSaid : Prop := mixedDigitsUptoRow.holds Try.pinned (OpenSpec.upto mixedDigitsSpec)

/-- 'fascialaw08.ContextTells', WHERE WHAT IT READS IS OF BULK AT MOST 1048576: true; the input reads as it did. -/
def contextTellsUptoRow : OpenClaim := { program := "ytocaeclhmkojiaa", sum := "efc9654e173bb11655d5a94c6694f37639c521f97a82f128232c6d0354d9171d", func := "fascia/fascialaw08.ContextTells", spec := "contextTells", unfollowed := true, recurses := true, apart := false, narrowed := true }
def ContextTellsUptoSaid : Prop := contextTellsUptoRow.holds Try.pinned (OpenSpec.upto contextTellsSpec)

/-- 'fascialaw08.ContextPlain', WHERE WHAT IT READS IS OF BULK AT MOST 1048576: true; the input reads as it did. -/
def contextPlainUptoRow : OpenClaim := { program := "ytocaeclhmkojiaa", sum := "efc9654e173bb11655d5a94c6694f37639c521f97a82f128232c6d0354d9171d", func := "fascia/fascialaw08.ContextPlain", spec := "contextPlain", unfollowed := true, recurses := true, apart := false, narrowed := true }
def ContextPlainUptoSaid : Prop := contextPlainUptoRow.holds Try.pinned (OpenSpec.upto contextPlainSpec)

/-- 'fascialaw08.ContextBeside', WHERE WHAT IT READS IS OF BULK AT MOST 1048576: true; the input reads as it did. -/
def contextBesideUptoRow : OpenClaim := { program := "ytocaeclhmkojiaa", sum := "efc9654e173bb11655d5a94c6694f37639c521f97a82f128232c6d0354d9171d", func := "fascia/fascialaw08.ContextBeside", spec := "contextBeside", unfollowed := true, recurses := true, apart := false, narrowed := true }
def ContextBesideUptoSaid : Prop := contextBesideUptoRow.holds Try.pinned (OpenSpec.upto contextBesideSpec)

/-- 'fascialaw08.ContextJoins', WHERE WHAT IT READS IS OF BULK AT MOST 1048576: true; the input reads as it did. -/
def contextJoinsUptoRow : OpenClaim := { program := "ytocaeclhmkojiaa", sum := "efc9654e173bb11655d5a94c6694f37639c521f97a82f128232c6d0354d9171d", func := "fascia/fascialaw08.ContextJoins", spec := "contextJoins", unfollowed := true, recurses := true, apart := false, narrowed := true }
def ContextJoinsUptoSaid : Prop := contextJoinsUptoRow.holds Try.pinned (OpenSpec.upto contextJoinsSpec)

/-- 'fascialaw08.ContextDigits', WHERE WHAT IT READS IS OF BULK AT MOST 1048576: true; the input reads as it did. -/
def contextDigitsUptoRow : OpenClaim := { program := "ytocaeclhmkojiaa", sum := "efc9654e173bb11655d5a94c6694f37639c521f97a82f128232c6d0354d9171d", func := "fascia/fascialaw08.ContextDigits", spec := "contextDigits", unfollowed := true, recurses := true, apart := false, narrowed := true }
def ContextDigitsUptoSaid : Prop := contextDigitsUptoRow.holds Try.pinned (OpenSpec.upto contextDigitsSpec)

/-- 'fascialaw09.RuleAlike', WHERE WHAT IT READS IS OF BULK AT MOST 1048576: true; the input reads as it did. -/
def ruleAlikeUptoRow : OpenClaim := { program := "ytocaeclhmkojiaa", sum := "efc9654e173bb11655d5a94c6694f37639c521f97a82f128232c6d0354d9171d", func := "fascia/fascialaw09.RuleAlike", spec := "ruleAlike", unfollowed := true, recurses := true, apart := false, narrowed := true }
def RuleAlikeUptoSaid : Prop := ruleAlikeUptoRow.holds Try.pinned (OpenSpec.upto ruleAlikeSpec)

/-- 'fascialaw10.MixedPairs', WHERE WHAT IT READS IS OF BULK AT MOST 1048576: true; the input reads as it did. -/
def mixedPairsUptoRow : OpenClaim := { program := "ytocaeclhmkojiaa", sum := "efc9654e173bb11655d5a94c6694f37639c521f97a82f128232c6d0354d9171d", func := "fascia/fascialaw10.MixedPairs", spec := "mixedPairs", unfollowed := true, recurses := true, apart := false, narrowed := true }
def MixedPairsUptoSaid : Prop := mixedPairsUptoRow.holds Try.pinned (OpenSpec.upto mixedPairsSpec)

end Rows
end Go.Proofs.Ytocaeclhmkojiaa
