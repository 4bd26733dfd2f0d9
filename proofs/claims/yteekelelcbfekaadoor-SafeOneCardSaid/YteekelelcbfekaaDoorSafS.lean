/-
SafeOne's tied card. Conditions: none.
-/
import Derived.Test.YteekelelcbfekaaDoorSafR
import Derived.Test.YteekelelcbfekaaDoorSafZ
import Derived.Test.YteekelelcbfekaaDoorTie
import Derived.Test.YteekelelcbfekaaDoorCards
import Derived.LaidMore
import Derived.Lay
import Derived.SevenTiedAt
import Derived.Stop.Joined
set_option linter.unusedSimpArgs false
set_option linter.unusedVariables false
set_option linter.unusedSectionVars false
namespace Go.Proofs.YteekelelcbfekaaDoor
open Go Go.Ab Go.ChangeShapes Go.WideShapes Go.ChangeAt Go.RowKit

theorem safeOne_any (avs : List AV) (h : Args Tryd.prog Tryd.f3.params.toList avs) : Pure Tryd.prog 3 avs [] (.lit (.bool true)) := by
  have hp : Tryd.f3.params.toList = [21, 9, 9, 4] := by kernel_rfl
  rw [hp] at h
  obtain ⟨av0, rest0, rfl, a0, h0⟩ := h
  obtain ⟨av1, rest1, rfl, a1, h1⟩ := h0
  obtain ⟨av2, rest2, rfl, a2, h2⟩ := h1
  obtain ⟨av3, rest3, rfl, a3, rfl⟩ := h2
  obtain ⟨z0, rfl, w0⟩ := arg_int (k := .i32) (by kernel_rfl) a0
  obtain ⟨z1, rfl, w1⟩ := arg_str (by kernel_rfl) a1
  obtain ⟨z2, rfl, w2⟩ := arg_str (by kernel_rfl) a2
  obtain ⟨z3, rfl⟩ := arg_bool (by kernel_rfl) a3
  exact safeOne_pure z0 (by simpa [Lit.wf, IntKind.min, IntKind.max, IntKind.signed, IntKind.bits] using w0) z1 w1 z2 w2 z3

set_option maxRecDepth 100000 in
theorem safeOne_lifted (os : Os) (started : os.Started) (H : Type) (enc : TypeId × Value → H) :
    ReturnsInHanded {} Tryd.checked os 3 .any (fun w args => (Rows.safeOneSpec.pre enc Tryd.prog Tryd.f3 Rows.safeOneRow.domain false w args ∧ laidMetH Tryd.prog Rows.safeOneRow.laid w) ∧ sizedMet enc Tryd.prog Tryd.f3 (OpenSpec.ofChange Rows.safeOneSpec) false w args) (Rows.safeOneSpec.post enc Tryd.prog Tryd.f3 false true false false) := by
  refine law_returns_laid (X := fun w _ => laidMetH Tryd.prog Rows.safeOneRow.laid w) (fun _ _ _ hh h => h.of_heap hh) (C := Tryd.checked) (tb := 4) (by kernel_rfl) started (by kernel_rfl) Tryd.func3
    (ChangeSpec.witness_shaped (enc := enc) (C := Tryd.checked) (os := os) (X := fun w _ => laidMetH Tryd.prog Rows.safeOneRow.laid w) false (World.laidAll Tryd.prog os Rows.safeOneRow.laid) #[.int .i32 0, .string ⟨#[]⟩, .string ⟨#[]⟩, .bool false] 8 (World.laidAll_os _ _ _)
      (World.shaped_of_ZipB (by kernel_rfl) (by kernel_rfl)) (by kernel_rfl) (by kernel_rfl) (by kernel_rfl)
      (by rw [MakeChecks.laidMetH_plain _ _ _ (by kernel_rfl)]; exact laidMet_laidAll _ (by kernel_rfl) (by kernel_rfl)))
    (by kernel_rfl) (by kernel_rfl) rfl rfl (by kernel_rfl) (by kernel_rfl) ?_ safeOne_any
  intro ds hds
  have hp : Tryd.f3.params.toList = [21, 9, 9, 4] := by kernel_rfl
  rw [hp] at hds
  match ds, hds with
  | [d0, d1, d2, d3], _ => exact ⟨rfl, rfl, rfl⟩

theorem safeOne_holds : Rows.SafeOneSaid :=
  OpenClaim.holds_of_wide 3 Tryd.f3 rfl rfl rfl rfl rfl rfl rfl ⟨rfl, rfl, rfl, rfl, rfl⟩ rfl rfl rfl rfl rfl (by kernel_rfl) Tryd.func3 (by kernel_rfl)
    (of_decide_eq_true (by kernel_rfl)) (by unfold Func.isWrapper; first | (rw [if_pos (by decide +kernel)]; kernel_rfl) | (rw [if_neg (by decide +kernel)]; exact ⟨rfl, rfl⟩))
    (fun os started H enc _ => safeOne_lifted os started H enc)

theorem safeOne_card : Rows.SafeOneCardSaid :=
  Claim7.holds_tied_plain_at .later [] [.data, .pinned, .pinned] true Rows.safeOneCard.stood.harness false safeOne_holds (fun _ h => by cases h) (by kernel_rfl) (fun _ h => by cases h) safeOne_row_tie rfl ⟨rfl, rfl⟩ (by kernel_rfl) rfl
    (fun f fn hf hfn => by
      obtain rfl : f = 3 := Option.some.inj ((show Tryd.prog.funcNamed Rows.safeOneRow.func = some 3 by kernel_rfl).symm.trans hf) |>.symm
      obtain rfl : fn = Tryd.f3 := (Option.some.inj (Tryd.func3.symm.trans hfn)).symm
      have hp : Tryd.f3.params.toList = [21, 9, 9, 4] := by kernel_rfl
      refine ⟨by kernel_rfl, fun j t ht => ?_⟩
      have hm : t ∈ [21, 9, 9, 4] := by rw [← hp]; simpa using Array.mem_of_getElem? ht
      have hall : ([21, 9, 9, 4].all fun u => !Tryd.prog.wantsStandIn u) = true := by kernel_rfl
      exact (show Tryd.prog.wantsStandIn t = false by simpa using List.all_eq_true.1 hall t hm))
    (by kernel_rfl)
end Go.Proofs.YteekelelcbfekaaDoor
