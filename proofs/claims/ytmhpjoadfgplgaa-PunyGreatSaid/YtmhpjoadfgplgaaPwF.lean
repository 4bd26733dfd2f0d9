/-
PunyGreat's code; forgetting in the middle of straight code. Conditions: none.
-/
import Derived.Test.YtmhpjoadfgplgaaPunX
set_option linter.unusedSimpArgs false
set_option linter.unusedVariables false
set_option linter.unusedSectionVars false
namespace Go.Proofs.Ytmhpjoadfgplgaa
open Go Go.Ab Go.RowKit
def a7 : ACode :=
  (.seq (.reg [⟨(.some 4), (.mv (.k (.bool false))), .none⟩]) (.seq (.reg [⟨(.some 15), (.xe (.mks 21 1 4 [(.int .i32 0)]) [(.k (.int .i64 2001)), (.k (.int .i64 2001))]), .none⟩, ⟨(.some 5), (.mv (.t
  15)), .none⟩]) (.seq (.seq (.reg [⟨(.some 16), (.mv (.t 0)), .none⟩, ⟨(.some 17), (.bs 21 1 [(.t 16)]), .none⟩, ⟨(.some 18), (.call (.f 20) [(.t 17)]), .none⟩, ⟨(.some 19), (.len (.t 18)), .none⟩,
  ⟨(.some 20), (.bin .eql (.t 19) (.k (.int .i64 1))), .none⟩]) (.cond (.t 20) (.reg [⟨(.some 21), (.mv (.t 5)), .none⟩, ⟨(.some 22), (.mv (.t 0)), .none⟩, ⟨(.some 23), (.ia 21 (.t 21) (.k (.int .i64
  7))), .none⟩, ⟨.none, (.st 1 (.t 23) (.t 22)), .none⟩]) .skip)) (.seq (.reg [⟨(.some 25), (.mv (.t 5)), .none⟩, ⟨(.some 26), (.call (.f 15) [(.t 25)]), .none⟩, ⟨(.some 24), (.mv (.t 26)), .none⟩,
  ⟨(.some 27), (.ext (.t 24) 0), .none⟩, ⟨(.some 28), (.ext (.t 24) 1), .none⟩, ⟨(.some 6), (.mv (.t 27)), .none⟩, ⟨(.some 7), (.mv (.t 28)), .none⟩]) (.seq (.reg [⟨(.some 30), (.mv (.t 5)), .none⟩,
  ⟨(.some 31), (.slc 21 (.t 30) .none (.some (.k (.int .i64 2000)))), .none⟩, ⟨(.some 32), (.call (.f 15) [(.t 31)]), .none⟩, ⟨(.some 29), (.mv (.t 32)), .none⟩, ⟨(.some 33), (.ext (.t 29) 0), .none⟩,
  ⟨(.some 34), (.ext (.t 29) 1), .none⟩, ⟨(.some 8), (.mv (.t 33)), .none⟩, ⟨(.some 9), (.mv (.t 34)), .none⟩]) (.seq (.reg [⟨(.some 35), (.mv (.t 1)), .none⟩, ⟨(.some 36), (.bs 5 1 [(.t 35)]), .none⟩,
  ⟨(.some 37), (.cvBS (.t 36)), .none⟩, ⟨(.some 38), (.call (.f 23) [(.t 37), (.k (.int .i64 10001))]), .none⟩, ⟨(.some 10), (.mv (.t 38)), .none⟩]) (.seq (.reg [⟨(.some 40), (.mv (.t 10)), .none⟩,
  ⟨(.some 41), (.call (.f 17) [(.t 40)]), .none⟩, ⟨(.some 39), (.mv (.t 41)), .none⟩, ⟨(.some 42), (.ext (.t 39) 0), .none⟩, ⟨(.some 43), (.ext (.t 39) 1), .none⟩, ⟨(.some 11), (.mv (.t 42)), .none⟩,
  ⟨(.some 12), (.mv (.t 43)), .none⟩]) (.seq (.reg [⟨(.some 45), (.mv (.t 10)), .none⟩, ⟨(.some 46), (.slS (.t 45) .none (.some (.k (.int .i64 10000)))), .none⟩, ⟨(.some 47), (.call (.f 17) [(.t 46)]),
  .none⟩, ⟨(.some 44), (.mv (.t 47)), .none⟩, ⟨(.some 48), (.ext (.t 44) 0), .none⟩, ⟨(.some 49), (.ext (.t 44) 1), .none⟩, ⟨(.some 13), (.mv (.t 48)), .none⟩, ⟨(.some 14), (.mv (.t 49)), .none⟩]) (.seq
  (.reg [⟨(.some 50), (.mv (.t 7)), .none⟩, ⟨(.some 51), (.bin .eql (.t 50) (.k (.int .i64 41))), .none⟩, ⟨(.some 52), (.mv (.t 51)), .none⟩, ⟨(.some 53), (.mv (.t 9)), (.some (52, true))⟩, ⟨(.some 54),
  (.bin .eql (.t 53) (.k (.int .i64 0))), (.some (52, true))⟩, ⟨(.some 55), (.pick (.t 52) (.t 54) (.k (.bool false))), .none⟩, ⟨(.some 56), (.mv (.t 55)), .none⟩, ⟨(.some 57), (.mv (.t 12)), (.some
  (56, true))⟩, ⟨(.some 58), (.bin .eql (.t 57) (.k (.int .i64 41))), (.some (56, true))⟩, ⟨(.some 59), (.pick (.t 56) (.t 58) (.k (.bool false))), .none⟩, ⟨(.some 60), (.mv (.t 59)), .none⟩, ⟨(.some
  61), (.mv (.t 14)), (.some (60, true))⟩, ⟨(.some 62), (.bin .neq (.t 61) (.k (.int .i64 41))), (.some (60, true))⟩, ⟨(.some 63), (.pick (.t 60) (.t 62) (.k (.bool false))), .none⟩, ⟨(.some 64), (.mv
  (.t 63)), .none⟩, ⟨(.some 65), (.call (.f 14) []), (.some (64, true))⟩, ⟨(.some 66), (.pick (.t 64) (.t 65) (.k (.bool false))), .none⟩, ⟨(.some 4), (.mv (.t 66)), .none⟩]) .ret)))))))))
theorem c7 : Try.f7.body.bind (cCode Try.prog 67) = some a7 := by kernel_rfl
theorem r7 : Try.f7.results.toList = [(.tmp 4)] := by kernel_rfl
theorem n7 : Try.f7.ntmps = 67 := by kernel_rfl
theorem e7 : Enters Try.prog 7 := enters_of Try.func7 (by kernel_rfl) (by kernel_rfl)

def cutF : Nat → ACode → ACode
  | 1, .seq a _ => a
  | k + 2, .seq a b => .seq a (cutF (k + 1) b)
  | _, A => A
def cutB : Nat → ACode → ACode
  | 1, .seq _ b => b
  | k + 2, .seq _ b => cutB (k + 1) b
  | _, _ => .skip
def spine : Nat → Code → Bool
  | 0, _ => true
  | k + 1, .seq _ y => spine k y
  | _, _ => false

theorem awp_mid {P : Program} {N F : Nat} {Q : Exit → State → Prop} : ∀ (k : Nat) (C : Code) {A : ACode} {s : State}, cCode P N C = some A → spine (k + 1) C = true →
    awp P F (cutF (k + 1) A) (xThen (fun s' => ∃ s1, Weak P F s' s1 ∧ awp P F (cutB (k + 1) A) Q s1) Q) s → AWP P N F C Q s
  | k, .seq x y, A, s, hc, hs, h => by
    simp only [cCode] at hc
    split at hc
    · rename_i x' y' hx hy
      simp only [Option.some.injEq] at hc; subst hc
      cases k with
      | zero =>
        simp only [cutF, cutB] at h
        intro c a w hfl hr
        refine wpIn_seq (wpIn_mono (awp_sound x hx h c a w hfl hr) ?_)
        rintro e a1 w1 ⟨c1, s1, h1, h2, h3, h4⟩
        cases e with
        | normal =>
          obtain ⟨s2, hw, h5⟩ := h4
          obtain ⟨c2, m1, m2, m3⟩ := hw N c1 a1 w1 (by rw [h2]; exact hfl) h3
          refine wpIn_mono ((awp_sound y hy h5).at (m2.trans h2) hfl m3) ?_
          rintro e a2 w2 ⟨c3, s3, g1, g2, g3, g4⟩
          refine ⟨c3, s3, (h1.trans (by rw [← h2]; exact m1)).trans g1, g2, g3, g4⟩
        | _ => exact ⟨c1, s1, h1, h2, h3, h4⟩
      | succ k =>
        simp only [cutF, cutB] at h
        intro c a w hfl hr
        refine wpIn_seq (wpIn_mono (awp_sound x hx h c a w hfl hr) ?_)
        rintro e a1 w1 ⟨c1, s1, h1, h2, h3, h4⟩
        cases e with
        | normal =>
          have h5 := awp_mid k y hy hs h4
          refine wpIn_mono (h5.at h2 hfl h3) ?_
          rintro e a2 w2 ⟨c2, s2, g1, g2, g3, g4⟩
          exact ⟨c2, s2, h1.trans g1, g2, g3, g4⟩
        | _ => exact ⟨c1, s1, h1, h2, h3, h4⟩
    · cases hc
  | k, .skip, _, _, _, hs, _ => by cases hs

theorem pure0M (k : Nat) {P : Program} {g : FuncId} {fn : Func} {N : Nat} {A : ACode} {args : List AV} {r : AV} {rs : List ResultVar} (hf : P.funcs[g]? = some fn) (hc : fn.body.bind (cCode P N) = some A) (hn : fn.ntmps = N) (he : Enters P g) (hrs : fn.results.toList = rs)
    (hs : fn.body.elim false (spine (k + 1)) = true) (hN : args.length ≤ N) (hr0 : r.under 0 = true)
    (h : awp P 0 (cutF (k + 1) A) (xThen (fun s' => ∃ s1, Weak P 0 s' s1 ∧ awp P 0 (cutB (k + 1) A) (Done P rs r) s1) (Done P rs r)) (astart args [] [] 0)) : Pure P g args [] r := by
  subst hn
  cases hb : fn.body with
  | none => rw [hb] at hc; cases hc
  | some C =>
    rw [hb] at hc hs
    have hA : AWP P fn.ntmps 0 C (Done P rs r) (astart args [] [] 0) := awp_mid k C hc hs h
    refine pure_of_awp hf hb he hN hrs hr0 ?_
    intro c a w hfl hr
    refine wpIn_mono (hA c a w hfl hr) ?_
    rintro e a' w' ⟨c', s', h1, h2, h3, h4, h5⟩
    exact ⟨c', s', h1, h2, h3, h4, [], rfl, List.nodup_nil, by rw [AV.ren_under0 _ _ hr0]; exact h5, fun i k e hi => by simp at hi⟩

end Go.Proofs.Ytmhpjoadfgplgaa
