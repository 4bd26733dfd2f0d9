/-
SafeBack's tied card. Conditions: none.
-/
import Derived.Test.YteekelelcbfekaaDoorSaMh
import Derived.Test.YteekelelcbfekaaDoorSafZ
import Derived.Test.YteekelelcbfekaaDoorTie
import Derived.Test.YteekelelcbfekaaDoorCards
import Derived.LaidMore
import Derived.Lay
import Derived.SevenTiedAt
import Derived.Stop.Joined
set_option linter.unusedSimpArgs false
set_option linter.unusedVariables false
set_option linter.unusedSectionVars false
namespace Go.Proofs.YteekelelcbfekaaDoor
open Go Go.Ab Go.ChangeShapes Go.WideShapes Go.ChangeAt Go.RowKit

theorem safeBack_any (avs : List AV) (h : Args Tryd.prog Tryd.f4.params.toList avs) : Pure Tryd.prog 4 avs [] (.lit (.bool true)) := by
  have hp : Tryd.f4.params.toList = [5, 31, 4] := by kernel_rfl
  rw [hp] at h
  obtain ⟨av0, rest0, rfl, a0, h0⟩ := h
  obtain ⟨av1, rest1, rfl, a1, h1⟩ := h0
  obtain ⟨av2, rest2, rfl, a2, rfl⟩ := h1
  obtain ⟨z0, rfl, w0⟩ := arg_int (k := .u8) (by kernel_rfl) a0
  obtain ⟨z1, rfl, w1, s1⟩ := arg_ints (e := 21) (k := .i32) (by kernel_rfl) (by kernel_rfl) a1
  rw [show Tryd.prog.bytesOf 21 = 4 from by kernel_rfl] at s1
  obtain ⟨z2, rfl⟩ := arg_bool (by kernel_rfl) a2
  exact safeBack_pure z0 (by simpa [Lit.wf, IntKind.min, IntKind.max, IntKind.signed, IntKind.bits] using w0) z1 ⟨by omega, fun n hn => by simpa [Lit.wf, IntKind.min, IntKind.max, IntKind.signed, IntKind.bits] using w1 n hn⟩ z2

set_option maxRecDepth 100000 in
theorem safeBack_lifted (os : Os) (started : os.Started) (H : Type) (enc : TypeId × Value → H) :
    ReturnsInHanded {} Tryd.checked os 4 .any (fun w args => (Rows.safeBackSpec.pre enc Tryd.prog Tryd.f4 Rows.safeBackRow.domain false w args ∧ laidMetH Tryd.prog Rows.safeBackRow.laid w) ∧ sizedMet enc Tryd.prog Tryd.f4 (OpenSpec.ofChange Rows.safeBackSpec) false w args) (Rows.safeBackSpec.post enc Tryd.prog Tryd.f4 false true false false) := by
  refine law_returns_laid (X := fun w _ => laidMetH Tryd.prog Rows.safeBackRow.laid w) (fun _ _ _ hh h => h.of_heap hh) (C := Tryd.checked) (tb := 4) (by kernel_rfl) started (by kernel_rfl) Tryd.func4
    (ChangeSpec.witness_shaped (enc := enc) (C := Tryd.checked) (os := os) (X := fun w _ => laidMetH Tryd.prog Rows.safeBackRow.laid w) false (World.laidAll Tryd.prog os Rows.safeBackRow.laid) #[.int .u8 0, .slice none 0 0, .bool false] 8 (World.laidAll_os _ _ _)
      (World.shaped_of_ZipB (by kernel_rfl) (by kernel_rfl)) (by kernel_rfl) (by kernel_rfl) (by kernel_rfl)
      (by rw [MakeChecks.laidMetH_plain _ _ _ (by kernel_rfl)]; exact laidMet_laidAll _ (by kernel_rfl) (by kernel_rfl)))
    (by kernel_rfl) (by kernel_rfl) rfl rfl (by kernel_rfl) (by kernel_rfl) ?_ safeBack_any
  intro ds hds
  have hp : Tryd.f4.params.toList = [5, 31, 4] := by kernel_rfl
  rw [hp] at hds
  match ds, hds with
  | [d0, d1, d2], _ => exact ⟨rfl, rfl, rfl⟩

theorem safeBack_holds : Rows.SafeBackSaid :=
  OpenClaim.holds_of_wide 4 Tryd.f4 rfl rfl rfl rfl rfl rfl rfl ⟨rfl, rfl, rfl, rfl, rfl⟩ rfl rfl rfl rfl rfl (by kernel_rfl) Tryd.func4 (by kernel_rfl)
    (of_decide_eq_true (by kernel_rfl)) (by unfold Func.isWrapper; first | (rw [if_pos (by decide +kernel)]; kernel_rfl) | (rw [if_neg (by decide +kernel)]; exact ⟨rfl, rfl⟩))
    (fun os started H enc _ => safeBack_lifted os started H enc)

theorem safeBack_card : Rows.SafeBackCardSaid :=
  Claim7.holds_tied_plain_at .later [] [.data, .data, .data, .pinned, .pinned] true Rows.safeBackCard.stood.harness false safeBack_holds (fun _ h => by cases h) (by kernel_rfl) (fun _ h => by cases h) safeBack_row_tie rfl ⟨rfl, rfl⟩ (by kernel_rfl) rfl
    (fun f fn hf hfn => by
      obtain rfl : f = 4 := Option.some.inj ((show Tryd.prog.funcNamed Rows.safeBackRow.func = some 4 by kernel_rfl).symm.trans hf) |>.symm
      obtain rfl : fn = Tryd.f4 := (Option.some.inj (Tryd.func4.symm.trans hfn)).symm
      have hp : Tryd.f4.params.toList = [5, 31, 4] := by kernel_rfl
      refine ⟨by kernel_rfl, fun j t ht => ?_⟩
      have hm : t ∈ [5, 31, 4] := by rw [← hp]; simpa using Array.mem_of_getElem? ht
      have hall : ([5, 31, 4].all fun u => !Tryd.prog.wantsStandIn u) = true := by kernel_rfl
      exact (show Tryd.prog.wantsStandIn t = false by simpa using List.all_eq_true.1 hall t hm))
    (by kernel_rfl)
end Go.Proofs.YteekelelcbfekaaDoor
