/-
Behind a virama either joiner may stand: the law answers true, whatever it is handed. Conditions: none.
-/
import Derived.Test.YtocaeclhmkojiaaCtx8
set_option linter.unusedSimpArgs false
set_option linter.unusedVariables false
set_option linter.unusedSectionVars false
namespace Go.Proofs.Ytocaeclhmkojiaa
open Go Go.Ab Go.ChangeShapes Go.WideShapes Go.ChangeAt Go.RowKit
theorem contextJoins_any (avs : List AV) (h : Args Try.prog Try.f13.params.toList avs) : Pure Try.prog 13 avs [] (.lit (.bool true)) := by
  have hp : Try.f13.params.toList = [21, 21, 5, 5] := by kernel_rfl
  rw [hp] at h
  obtain ⟨av0, rest0, rfl, a0, h0⟩ := h
  obtain ⟨av1, rest1, rfl, a1, h1⟩ := h0
  obtain ⟨av2, rest2, rfl, a2, h2⟩ := h1
  obtain ⟨av3, rest3, rfl, a3, rfl⟩ := h2
  obtain ⟨z0, rfl, w0⟩ := arg_int (k := .i32) (by kernel_rfl) a0
  obtain ⟨z1, rfl, w1⟩ := arg_int (k := .i32) (by kernel_rfl) a1
  obtain ⟨z2, rfl, w2⟩ := arg_int (k := .u8) (by kernel_rfl) a2
  obtain ⟨z3, rfl, w3⟩ := arg_int (k := .u8) (by kernel_rfl) a3
  exact contextJoins_pure z0 (by simpa [Lit.wf, IntKind.min, IntKind.max, IntKind.signed, IntKind.bits] using w0) z1 (by simpa [Lit.wf, IntKind.min, IntKind.max, IntKind.signed, IntKind.bits] using w1) z2 (by simpa [Lit.wf, IntKind.min, IntKind.max, IntKind.signed, IntKind.bits] using w2) z3 (by simpa [Lit.wf, IntKind.min, IntKind.max, IntKind.signed, IntKind.bits] using w3)

set_option maxRecDepth 100000 in
theorem contextJoins_lifted (os : Os) (started : os.Started) (H : Type) (enc : TypeId × Value → H) :
    ReturnsInHanded {} Try.checked os 13 .any (Rows.contextJoinsSpec.pre6 enc Try.prog Try.f13 Rows.contextJoinsRow.domain false) (Rows.contextJoinsSpec.post enc Try.prog Try.f13 false true false false) := by
  refine law_returns (C := Try.checked) (tb := 4) (by kernel_rfl) started (by kernel_rfl) Try.func13
    (ChangeSpec.witness6 (enc := enc) (C := Try.checked) false ⟨#[], #[.int .i32 0, .int .i32 0, .int .u8 0, .int .u8 0], []⟩ 8 (by kernel_rfl) (by kernel_rfl) (by kernel_rfl) (by kernel_rfl))
    (by kernel_rfl) (by kernel_rfl) rfl rfl (by kernel_rfl) (by kernel_rfl) ?_ contextJoins_any
  intro ds hds
  have hp : Try.f13.params.toList = [21, 21, 5, 5] := by kernel_rfl
  rw [hp] at hds
  match ds, hds with
  | [d0, d1, d2, d3], _ => exact ⟨rfl, rfl, rfl⟩

theorem contextJoins_holds : Rows.ContextJoinsSaid :=
  OpenClaim.holds_of_wide 13 Try.f13 rfl rfl rfl rfl rfl rfl rfl ⟨rfl, rfl, rfl, rfl, rfl⟩ rfl rfl rfl rfl rfl (by kernel_rfl) Try.func13 (by kernel_rfl)
    (of_decide_eq_true (by kernel_rfl)) (by unfold Func.isWrapper; first | (rw [if_pos (by decide +kernel)]; kernel_rfl) | (rw [if_neg (by decide +kernel)]; exact ⟨rfl, rfl⟩))
    (fun os started H enc _ => contextJoins_lifted os started H enc)
end Go.Proofs.Ytocaeclhmkojiaa
