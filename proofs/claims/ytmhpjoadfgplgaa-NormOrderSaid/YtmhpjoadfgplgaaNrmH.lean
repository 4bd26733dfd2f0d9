/-
Forgetting in the middle of straight code; what the statements of the chapter share. Conditions: none.
-/
import Derived.Test.YtmhpjoadfgplgaaNrmC
set_option linter.unusedSimpArgs false
set_option linter.unusedVariables false
set_option linter.unusedSectionVars false
namespace Go.Proofs.Ytmhpjoadfgplgaa
open Go Go.Ab Go.RowKit

def cutF : Nat → ACode → ACode
  | 1, .seq a _ => a
  | k + 2, .seq a b => .seq a (cutF (k + 1) b)
  | _, A => A
def cutB : Nat → ACode → ACode
  | 1, .seq _ b => b
  | k + 2, .seq _ b => cutB (k + 1) b
  | _, _ => .skip
def spine : Nat → Code → Bool
  | 0, _ => true
  | k + 1, .seq _ y => spine k y
  | _, _ => false

theorem awp_mid {P : Program} {N F : Nat} {Q : Exit → State → Prop} : ∀ (k : Nat) (C : Code) {A : ACode} {s : State}, cCode P N C = some A → spine (k + 1) C = true →
    awp P F (cutF (k + 1) A) (xThen (fun s' => ∃ s1, Weak P F s' s1 ∧ awp P F (cutB (k + 1) A) Q s1) Q) s → AWP P N F C Q s
  | k, .seq x y, A, s, hc, hs, h => by
    simp only [cCode] at hc
    split at hc
    · rename_i x' y' hx hy
      simp only [Option.some.injEq] at hc; subst hc
      cases k with
      | zero =>
        simp only [cutF, cutB] at h
        intro c a w hfl hr
        refine wpIn_seq (wpIn_mono (awp_sound x hx h c a w hfl hr) ?_)
        rintro e a1 w1 ⟨c1, s1, h1, h2, h3, h4⟩
        cases e with
        | normal =>
          obtain ⟨s2, hw, h5⟩ := h4
          obtain ⟨c2, m1, m2, m3⟩ := hw N c1 a1 w1 (by rw [h2]; exact hfl) h3
          refine wpIn_mono ((awp_sound y hy h5).at (m2.trans h2) hfl m3) ?_
          rintro e a2 w2 ⟨c3, s3, g1, g2, g3, g4⟩
          refine ⟨c3, s3, (h1.trans (by rw [← h2]; exact m1)).trans g1, g2, g3, g4⟩
        | _ => exact ⟨c1, s1, h1, h2, h3, h4⟩
      | succ k =>
        simp only [cutF, cutB] at h
        intro c a w hfl hr
        refine wpIn_seq (wpIn_mono (awp_sound x hx h c a w hfl hr) ?_)
        rintro e a1 w1 ⟨c1, s1, h1, h2, h3, h4⟩
        cases e with
        | normal =>
          have h5 := awp_mid k y hy hs h4
          refine wpIn_mono (h5.at h2 hfl h3) ?_
          rintro e a2 w2 ⟨c2, s2, g1, g2, g3, g4⟩
          exact ⟨c2, s2, h1.trans g1, g2, g3, g4⟩
        | _ => exact ⟨c1, s1, h1, h2, h3, h4⟩
    · cases hc
  | k, .skip, _, _, _, hs, _ => by cases hs

theorem pure0M (k : Nat) {P : Program} {g : FuncId} {fn : Func} {N : Nat} {A : ACode} {args : List AV} {r : AV} {rs : List ResultVar} (hf : P.funcs[g]? = some fn) (hc : fn.body.bind (cCode P N) = some A) (hn : fn.ntmps = N) (he : Enters P g) (hrs : fn.results.toList = rs)
    (hs : fn.body.elim false (spine (k + 1)) = true) (hN : args.length ≤ N) (hr0 : r.under 0 = true)
    (h : awp P 0 (cutF (k + 1) A) (xThen (fun s' => ∃ s1, Weak P 0 s' s1 ∧ awp P 0 (cutB (k + 1) A) (Done P rs r) s1) (Done P rs r)) (astart args [] [] 0)) : Pure P g args [] r := by
  subst hn
  cases hb : fn.body with
  | none => rw [hb] at hc; cases hc
  | some C =>
    rw [hb] at hc hs
    have hA : AWP P fn.ntmps 0 C (Done P rs r) (astart args [] [] 0) := awp_mid k C hc hs h
    refine pure_of_awp hf hb he hN hrs hr0 ?_
    intro c a w hfl hr
    refine wpIn_mono (hA c a w hfl hr) ?_
    rintro e a' w' ⟨c', s', h1, h2, h3, h4, h5⟩
    exact ⟨c', s', h1, h2, h3, h4, [], rfl, List.nodup_nil, by rw [AV.ren_under0 _ _ hr0]; exact h5, fun i k e hi => by simp at hi⟩
end Go.Proofs.Ytmhpjoadfgplgaa
