/-
Whether a label fails, and by what, hangs on the classes alone: the statement RuleAlike. Conditions: none.
-/
import Derived.Test.YtocaeclhmkojiaaRul4
import Derived.Test.YtocaeclhmkojiaaUcdF
set_option linter.unusedSimpArgs false
set_option linter.unusedVariables false
set_option linter.unusedSectionVars false
namespace Go.Proofs.Ytocaeclhmkojiaa
open Go Go.Ab Go.ChangeShapes Go.WideShapes Go.ChangeAt Go.RowKit
def a15 : ACode :=
  (.seq (.reg [⟨(.some 4), (.mv (.k (.bool false))), .none⟩]) (.seq (.seq (.reg [⟨(.some 11), (.mv (.t 0)), .none⟩, ⟨(.some 12), (.len (.t 11)), .none⟩, ⟨(.some 13), (.bin .gtr (.t 12) (.k (.int .i64
  100))), .none⟩]) (.cond (.t 13) (.seq (.reg [⟨(.some 14), (.call (.f 21) []), .none⟩, ⟨(.some 4), (.mv (.t 14)), .none⟩]) .ret) .skip)) (.seq (.reg [⟨(.some 15), (.call (.f 43) []), .none⟩, ⟨(.some
  5), (.mv (.t 15)), .none⟩]) (.seq (.reg [⟨(.some 6), (.mv (.k (.slice .none 0 0))), .none⟩]) (.seq (.seq (.reg [⟨(.some 16), (.mv (.t 0)), .none⟩, ⟨(.some 17), (.len (.t 16)), .none⟩, ⟨(.some 18),
  (.mv (.k (.int .i64 0))), .none⟩]) (.block 0 (.loop (.seq (.reg [⟨(.some 19), (.bin .lss (.t 18) (.t 17)), .none⟩]) (.seq (.cond (.t 19) .skip (.exit 0)) (.seq (.block 1 (.seq (.reg [⟨(.some 20), (.mv
  (.t 18)), .none⟩, ⟨(.some 21), (.ia 21 (.t 16) (.t 18)), .none⟩, ⟨(.some 22), (.ld .none (.t 21)), .none⟩, ⟨(.some 7), (.mv (.t 20)), .none⟩, ⟨(.some 8), (.mv (.t 22)), .none⟩]) (.seq (.seq (.reg
  [⟨(.some 23), (.mv (.t 7)), .none⟩, ⟨(.some 24), (.mv (.t 1)), .none⟩, ⟨(.some 25), (.len (.t 24)), .none⟩, ⟨(.some 26), (.bin .lss (.t 23) (.t 25)), .none⟩]) (.cond (.t 26) (.seq (.reg [⟨(.some 27),
  (.mv (.t 5)), .none⟩, ⟨(.some 28), (.len (.t 27)), .none⟩, ⟨(.some 29), (.mv (.k (.int .i64 0))), .none⟩]) (.block 2 (.loop (.seq (.reg [⟨(.some 30), (.bin .lss (.t 29) (.t 28)), .none⟩]) (.seq (.cond
  (.t 30) .skip (.exit 2)) (.seq (.block 3 (.seq (.reg [⟨(.some 31), (.mv (.t 29)), .none⟩, ⟨(.some 9), (.mv (.t 31)), .none⟩]) (.seq (.reg [⟨(.some 32), (.mv (.t 5)), .none⟩, ⟨(.some 33), (.mv (.t 9)),
  .none⟩, ⟨(.some 34), (.mv (.t 1)), .none⟩, ⟨(.some 35), (.mv (.t 7)), .none⟩, ⟨(.some 36), (.ia 5 (.t 34) (.t 35)), .none⟩, ⟨(.some 37), (.ld .none (.t 36)), .none⟩, ⟨(.some 38), (.cvI .i64 (.t 37)),
  .none⟩, ⟨(.some 39), (.bin .add (.t 33) (.t 38)), .none⟩, ⟨(.some 40), (.mv (.t 5)), .none⟩, ⟨(.some 41), (.len (.t 40)), .none⟩, ⟨(.some 42), (.bin .rem (.t 39) (.t 41)), .none⟩, ⟨(.some 43), (.ia 49
  (.t 32) (.t 42)), .none⟩, ⟨(.some 44), (.ld (.some 9) (.t 43)), .none⟩, ⟨(.some 10), (.alc 49 [(.int .i32 0), (.int .i32 0), (.int .u8 0), (.int .u8 0), (.int .u8 0), (.int .u8 0), (.int .u8 0), (.int
  .u8 0), (.int .u8 0)]), .none⟩, ⟨.none, (.st 9 (.t 10) (.t 44)), .none⟩]) (.seq (.dreg [⟨(.some 45), (.fa 2 (.t 10)), .none⟩, ⟨(.some 46), (.fa 1 (.t 45)), .none⟩, ⟨(.some 47), (.ld .none (.t 46)),
  .none⟩, ⟨(.some 48), (.mv (.t 8)), .none⟩, ⟨(.some 49), (.call (.f 22) [(.t 48)]), .none⟩, ⟨(.some 50), (.fld 1 .none (.t 49)), .none⟩, ⟨(.some 51), (.bin .eql (.t 47) (.t 50)), .none⟩]) (.cond (.t
  51) (.seq (.reg [⟨(.some 52), (.fa 0 (.t 10)), .none⟩, ⟨(.some 53), (.ld .none (.t 52)), .none⟩, ⟨(.some 8), (.mv (.t 53)), .none⟩]) (.exit 2)) .skip))))) (.reg [⟨(.some 54), (.bin .add (.t 29) (.k
  (.int .i64 1))), .none⟩, ⟨(.some 29), (.mv (.t 54)), .none⟩]))))))) .skip)) (.reg [⟨(.some 55), (.mv (.t 6)), .none⟩, ⟨(.some 56), (.mv (.t 8)), .none⟩, ⟨(.some 57), (.bs 21 1 [(.t 56)]), .none⟩,
  ⟨(.some 58), (.app 21 4 (.t 55) (.t 57)), .none⟩, ⟨(.some 6), (.mv (.t 58)), .none⟩])))) (.reg [⟨(.some 59), (.bin .add (.t 18) (.k (.int .i64 1))), .none⟩, ⟨(.some 18), (.mv (.t 59)), .none⟩])))))))
  (.seq (.reg [⟨(.some 60), (.mv (.t 6)), .none⟩, ⟨(.some 61), (.call (.f 19) [(.t 60)]), .none⟩, ⟨(.some 62), (.mv (.t 0)), .none⟩, ⟨(.some 63), (.call (.f 19) [(.t 62)]), .none⟩, ⟨(.some 64), (.bin
  .eql (.t 61) (.t 63)), .none⟩, ⟨(.some 65), (.mv (.t 64)), .none⟩, ⟨(.some 66), (.mv (.t 6)), (.some (65, true))⟩, ⟨(.some 67), (.call (.f 17) [(.t 66)]), (.some (65, true))⟩, ⟨(.some 68), (.mv (.t
  0)), (.some (65, true))⟩, ⟨(.some 69), (.call (.f 17) [(.t 68)]), (.some (65, true))⟩, ⟨(.some 70), (.eqB false (.t 67) (.t 69)), (.some (65, true))⟩, ⟨(.some 71), (.pick (.t 65) (.t 70) (.k (.bool
  false))), .none⟩, ⟨(.some 72), (.mv (.t 71)), .none⟩, ⟨(.some 73), (.call (.f 21) []), (.some (72, true))⟩, ⟨(.some 74), (.pick (.t 72) (.t 73) (.k (.bool false))), .none⟩, ⟨(.some 4), (.mv (.t 74)),
  .none⟩]) .ret))))))
theorem c15 : Try.f15.body.bind (cCode Try.prog 75) = some a15 := by kernel_rfl
theorem r15 : Try.f15.results.toList = [(.tmp 4)] := by kernel_rfl
theorem n15 : Try.f15.ntmps = 75 := by kernel_rfl
theorem e15 : Enters Try.prog 15 := enters_of Try.func15 (by kernel_rfl) (by kernel_rfl)

def Octs9 (l : List Nat) : Prop := l.length ≤ 140737488355328 ∧ ∀ n ∈ l, n ≤ 255
theorem octs_of (z : List Int) (h : ∀ n ∈ z, 0 ≤ n ∧ n ≤ 255) : ∃ y : List Nat, (z.map fun n => [Value.int .u8 n]) = octs y ∧ (∀ n ∈ y, n ≤ 255) ∧ y.length = z.length := by
  refine ⟨z.map Int.toNat, ?_, ?_, by simp⟩
  · simp only [octs, List.map_map]
    refine List.map_congr_left fun n hn => ?_
    have := h n hn
    simp only [Function.comp_apply]
    rw [show ((n.toNat : Nat) : Int) = n by omega]
  · intro n hn
    obtain ⟨m, hm, rfl⟩ := List.mem_map.1 hn
    have := h m hm
    omega

/-- What a row of classes fails. -/
def failsC (wi en : Int) (cs : List Int) : Int := if cs.any (fun c => !hasB wi c) = true then 10 else match cs.reverse.find? (fun c => !hasB 256 c) with
  | none => 11
  | some c => if hasB en c = true then 0 else 11
def ruleC (cs : List Int) : Int := match cs with
  | [] => 9
  | c :: _ => if hasB 7 c = false then 9 else if hasB 1 c = true then failsC 9145 9 cs else
    if failsC 9214 78 cs ≠ 0 then failsC 9214 78 cs else if (cs.any (fun c => hasB 8 c) && cs.any (fun c => hasB 64 c)) = true then 12 else 0
theorem failsOf_C (wi en : Int) (l : List Int) : failsOf wi en l = failsC wi en (l.map cls) := by
  unfold failsOf failsC lastOf
  rw [List.any_map, ← List.map_reverse, List.find?_map]
  simp only [Function.comp_def]
  cases l.reverse.find? fun r => !hasB 256 (cls r) <;> rfl
theorem ruleOf_C (l : List Int) : ruleOf l = ruleC (l.map cls) := by
  cases l with
  | nil => rfl
  | cons r q =>
    have e1 : ∀ s, ((r :: q).map cls).any (fun c => hasB s c) = (r :: q).any fun x => hasB s (cls x) := fun s => by rw [List.any_map]; rfl
    simp only [ruleOf, failsOf_C]
    simp only [← e1]
    rfl
theorem bidiOf_C (l : List Int) : bidiOf l = (l.map cls).any fun c => hasB 70 c := by
  unfold bidiOf
  rw [List.any_map]; rfl

set_option maxRecDepth 10000 in
theorem ruleAlike_pure (l : List Int) (h : Runes l) (p : List Nat) (hp : Octs9 p) : Pure Try.prog 15 [.sl 21 (runes l) none, .sl 5 (octs p) none] [] (.lit (.bool true)) := by
  have hl0 := h.1
  have hp0 := hp.1
  refine pure0 Try.func15 c15 n15 e15 r15 (by simp) rfl ?_
  simp only [a15, astart, argSlots, go_sem, Nat.reduceAdd, Nat.reduceEqDiff, Nat.reduceLT, reduceIte, reduceCtorEq, Nat.reduceBEq, Int.reduceLT, Int.reduceToNat, Int.reducePow, Nat.reduceLeDiff, Int.reduceLE, Nat.reduceMul, Nat.reduceSub, runes_length]
  by_cases h100 : 100 < l.length
  · have e1 : decide ((l.length : Int) > 100) = true := by simp only [decide_eq_true_eq]; omega
    simp only [e1, go_sem, Nat.reduceAdd, Nat.reduceEqDiff, Nat.reduceLT, reduceIte, reduceCtorEq, Nat.reduceBEq, Int.reduceLT, Int.reduceToNat, Int.reducePow, Nat.reduceLeDiff, Int.reduceLE, Nat.reduceMul, Nat.reduceSub]
    refine callGo_pure awake09_pure (by rfl) ?_
    simp only [go_sem, Nat.reduceAdd, Nat.reduceEqDiff, Nat.reduceLT, reduceIte, reduceCtorEq, Nat.reduceBEq, Int.reduceLT, Int.reduceToNat, Int.reducePow, Nat.reduceLeDiff, Int.reduceLE, Nat.reduceMul, Nat.reduceSub]
    simp only [Done, resAV, resL, resOne, look_nil, look_cons, Nat.reduceEqDiff, if_true, if_false, reduceIte, ite_true, ite_false, Nat.zero_ne_one, Nat.one_ne_zero, reduceCtorEq, true_or, or_true, true_and, Option.some.injEq, AV.lit.injEq, Value.int.injEq, Value.bool.injEq]
  have e1 : decide ((l.length : Int) > 100) = false := by simp only [decide_eq_false_iff_not]; omega
  have hle : l.length ≤ 100 := by omega
  simp only [e1, go_sem, Nat.reduceAdd, Nat.reduceEqDiff, Nat.reduceLT, reduceIte, reduceCtorEq, Nat.reduceBEq, Int.reduceLT, Int.reduceToNat, Int.reducePow, Nat.reduceLeDiff, Int.reduceLE, Nat.reduceMul, Nat.reduceSub]
  refine callGo_pure table_pure rfl ?_
  simp only [go_sem, Nat.reduceAdd, Nat.reduceEqDiff, Nat.reduceLT, reduceIte, reduceCtorEq, Nat.reduceBEq, Int.reduceLT, Int.reduceToNat, Int.reducePow, Nat.reduceLeDiff, Int.reduceLE, Nat.reduceMul, Nat.reduceSub, runes_length]
  refine ⟨fun s => ∃ (i : Nat) (o : List Int), i ≤ l.length ∧ o.length = i ∧ o.map cls = (l.take i).map cls ∧ s = ⟨[(0, some (.sl 21 (runes l) none)), (1, some (.sl 5 (octs p) none)), (5, some (.sl 49 (tab.map Row.cells) none)), (6, some (.sl 21 (runes o) (some 0))), (16, some (.sl 21 (runes l) none)), (17, some (.lit (.int .i64 l.length))), (18, some (.lit (.int .i64 i)))], [], [(0, 21)], 1⟩,
    fun s => l.length - cnt 18 s, ⟨_, (weak_nil 6 21 (by simp only [go_sem, Nat.reduceAdd, Nat.reduceEqDiff, Nat.reduceLT, reduceIte, reduceCtorEq, Nat.reduceBEq, Int.reduceLT, Int.reduceToNat, Int.reducePow, Nat.reduceLeDiff, Int.reduceLE, Nat.reduceMul, Nat.reduceSub])).trans ((weak_untip 5 (by simp only [go_sem, Nat.reduceAdd, Nat.reduceEqDiff, Nat.reduceLT, reduceIte, reduceCtorEq, Nat.reduceBEq, Int.reduceLT, Int.reduceToNat, Int.reducePow, Nat.reduceLeDiff, Int.reduceLE, Nat.reduceMul, Nat.reduceSub]; rfl)).trans (weak_by [1] (by simp) rfl ?_ ?_ ?_ ?_)), 0, [], Nat.zero_le _, rfl, rfl, rfl⟩, ?_⟩
  · simp only [go_sem, Nat.reduceAdd, Nat.reduceEqDiff, Nat.reduceLT, reduceIte, reduceCtorEq, Nat.reduceBEq, Int.reduceLT, Int.reduceToNat, Int.reducePow, Nat.reduceLeDiff, Int.reduceLE, Nat.reduceMul, Nat.reduceSub, slotsBy, boxesBy, tipsBy, rawAt, nm, AV.ren, AV.renL, AV.under, AV.underL, List.all_nil, List.all_cons, bne_self_eq_false, List.getD_cons_zero, List.getD_cons_succ, List.length_nil, List.length_cons, and_true, true_and, Int.natCast_zero]; rfl
  · trivial
  · simp only [go_sem, Nat.reduceAdd, Nat.reduceEqDiff, Nat.reduceLT, reduceIte, reduceCtorEq, Nat.reduceBEq, Int.reduceLT, Int.reduceToNat, Int.reducePow, Nat.reduceLeDiff, Int.reduceLE, Nat.reduceMul, Nat.reduceSub, slotsBy, boxesBy, tipsBy, rawAt, nm, AV.ren, AV.renL, AV.under, AV.underL, List.all_nil, List.all_cons, bne_self_eq_false, List.getD_cons_zero, List.getD_cons_succ, List.length_nil, List.length_cons, and_true, true_and, beq_self_eq_true]
  · simp
  · rintro _ ⟨i, o, hi, hol, hcl, rfl⟩
    simp only [go_sem, Nat.reduceAdd, Nat.reduceEqDiff, Nat.reduceLT, reduceIte, reduceCtorEq, Nat.reduceBEq, Int.reduceLT, Int.reduceToNat, Int.reducePow, Nat.reduceLeDiff, Int.reduceLE, Nat.reduceMul, Nat.reduceSub]
    rcases Nat.lt_or_eq_of_le hi with hlt | heq
    · have hg := runes_get l i hlt
      have htk : l.take (i + 1) = l.take i ++ [l[i]] := List.take_succ_eq_append_getElem hlt
      generalize l[i] = r at hg htk
      have hw2 : IntKind.i64.wrap ((i : Int) + 1) = ((i + 1 : Nat) : Int) := by rw [wrap_i64 _ (by omega) (by omega)]; omega
      have hpl : (octs p).length = p.length := by simp [octs]
      simp only [dec_lt hlt, go_sem, Nat.reduceAdd, Nat.reduceEqDiff, Nat.reduceLT, reduceIte, reduceCtorEq, Nat.reduceBEq, Int.reduceLT, Int.reduceToNat, Int.reducePow, Nat.reduceLeDiff, Int.reduceLE, Nat.reduceMul, Nat.reduceSub, Int.natCast_nonneg, Int.toNat_natCast, hg, hpl]
      by_cases hip : i < p.length
      · simp only [dec_lt hip, go_sem, Nat.reduceAdd, Nat.reduceEqDiff, Nat.reduceLT, reduceIte, reduceCtorEq, Nat.reduceBEq, Int.reduceLT, Int.reduceToNat, Int.reducePow, Nat.reduceLeDiff, Int.reduceLE, Nat.reduceMul, Nat.reduceSub, tabC_len, e166]
        refine ⟨fun s => ∃ j : Nat, j ≤ 166 ∧ s = ⟨[(0, some (.sl 21 (runes l) none)), (1, some (.sl 5 (octs p) none)), (5, some (.sl 49 (tab.map Row.cells) none)), (6, some (.sl 21 (runes o) (some 0))), (7, some (.lit (.int .i64 i))), (8, some (.lit (.int .i32 r))), (16, some (.sl 21 (runes l) none)), (17, some (.lit (.int .i64 l.length))), (18, some (.lit (.int .i64 i))), (28, some (.lit (.int .i64 166))), (29, some (.lit (.int .i64 j)))], [], [(0, 21)], 1⟩,
          fun s => 166 - cnt 29 s, ⟨_, weak_by [0] (by simp) rfl ?_ ?_ ?_ ?_, 0, Nat.zero_le _, rfl⟩, ?_⟩
        · simp only [go_sem, Nat.reduceAdd, Nat.reduceEqDiff, Nat.reduceLT, reduceIte, reduceCtorEq, Nat.reduceBEq, Int.reduceLT, Int.reduceToNat, Int.reducePow, Nat.reduceLeDiff, Int.reduceLE, Nat.reduceMul, Nat.reduceSub, slotsBy, boxesBy, tipsBy, rawAt, nm, AV.ren, AV.renL, AV.under, AV.underL, List.all_nil, List.all_cons, bne_self_eq_false, List.getD_cons_zero, List.getD_cons_succ, List.length_nil, List.length_cons, and_true, true_and, Int.natCast_zero]
        · trivial
        · simp only [go_sem, Nat.reduceAdd, Nat.reduceEqDiff, Nat.reduceLT, reduceIte, reduceCtorEq, Nat.reduceBEq, Int.reduceLT, Int.reduceToNat, Int.reducePow, Nat.reduceLeDiff, Int.reduceLE, Nat.reduceMul, Nat.reduceSub, slotsBy, boxesBy, tipsBy, rawAt, nm, AV.ren, AV.renL, AV.under, AV.underL, List.all_nil, List.all_cons, bne_self_eq_false, List.getD_cons_zero, List.getD_cons_succ, List.length_nil, List.length_cons, and_true, true_and, beq_self_eq_true]
        · simp
        · rintro _ ⟨j, hj, rfl⟩
          simp only [go_sem, Nat.reduceAdd, Nat.reduceEqDiff, Nat.reduceLT, reduceIte, reduceCtorEq, Nat.reduceBEq, Int.reduceLT, Int.reduceToNat, Int.reducePow, Nat.reduceLeDiff, Int.reduceLE, Nat.reduceMul, Nat.reduceSub]
          rcases Nat.lt_or_eq_of_le hj with hjlt | hjeq
          · have hgp := octs_get p i hip
            have hb := hp.2 _ (List.getElem_mem hip)
            generalize p[i] = c at hgp hb
            have hd : decide ((j : Int) < 166) = true := by simp; omega
            have hwc : IntKind.i64.wrap (c : Int) = (c : Int) := wrap_i64 _ (by omega) (by omega)
            have hws : IntKind.i64.wrap ((j : Int) + (c : Int)) = ((j + c : Nat) : Int) := by rw [wrap_i64 _ (by omega) (by omega)]; omega
            have hwj : IntKind.i64.wrap ((j : Int) + 1) = ((j + 1 : Nat) : Int) := by rw [wrap_i64 _ (by omega) (by omega)]; omega
            obtain ⟨k, hk, hkt⟩ := tmod_166 (n := ((j + c : Nat) : Int)) (by omega)
            obtain ⟨x, hx, hm, hgx⟩ := tab_get hk
            have hxc : cls x.fr = x.bidi := by unfold cls; rw [rowAt_tab hm (Int.le_refl _) (tab_le hm)]
            have hrc : (rowAt r).bidi = cls r := rfl
            simp only [hd, go_sem, Nat.reduceAdd, Nat.reduceEqDiff, Nat.reduceLT, reduceIte, reduceCtorEq, Nat.reduceBEq, Int.reduceLT, Int.reduceToNat, Int.reducePow, Nat.reduceLeDiff, Int.reduceLE, Nat.reduceMul, Nat.reduceSub, Int.natCast_nonneg, Int.toNat_natCast, hgp, hwc, hws, tabC_len, e166, ne166, hkt, hgx, Row.cells]
            refine dcallGo_pure (of_pure r) (by rfl) rfl ?_
            simp only [Row.prop, hrc, go_sem, Nat.reduceAdd, Nat.reduceEqDiff, Nat.reduceLT, reduceIte, reduceCtorEq, Nat.reduceBEq, Int.reduceLT, Int.reduceToNat, Int.reducePow, Nat.reduceLeDiff, Int.reduceLE, Nat.reduceMul, Nat.reduceSub]
            refine cGo_split (fun h1 => ?_) (fun h1 => ?_)
            · simp only [beq_iff_eq] at h1
              have hrr : cls x.fr = cls r := by rw [hxc, h1]
              simp only [go_sem, Nat.reduceAdd, Nat.reduceEqDiff, Nat.reduceLT, reduceIte, reduceCtorEq, Nat.reduceBEq, Int.reduceLT, Int.reduceToNat, Int.reducePow, Nat.reduceLeDiff, Int.reduceLE, Nat.reduceMul, Nat.reduceSub]
              refine ⟨by omega, _, weak_by [3] (by simp) rfl ?_ ?_ ?_ ?_, ⟨i + 1, o ++ [x.fr], by omega, by rw [List.length_append, hol]; rfl, ?_, rfl⟩, ?_⟩
              · simp only [go_sem, Nat.reduceAdd, Nat.reduceEqDiff, Nat.reduceLT, reduceIte, reduceCtorEq, Nat.reduceBEq, Int.reduceLT, Int.reduceToNat, Int.reducePow, Nat.reduceLeDiff, Int.reduceLE, Nat.reduceMul, Nat.reduceSub, slotsBy, boxesBy, tipsBy, rawAt, nm, AV.ren, AV.renL, AV.under, AV.underL, List.all_nil, List.all_cons, bne_self_eq_false, List.getD_cons_zero, List.getD_cons_succ, List.length_nil, List.length_cons, and_true, true_and, hw2, runes_snoc]
              · trivial
              · simp only [go_sem, Nat.reduceAdd, Nat.reduceEqDiff, Nat.reduceLT, reduceIte, reduceCtorEq, Nat.reduceBEq, Int.reduceLT, Int.reduceToNat, Int.reducePow, Nat.reduceLeDiff, Int.reduceLE, Nat.reduceMul, Nat.reduceSub, slotsBy, boxesBy, tipsBy, rawAt, nm, AV.ren, AV.renL, AV.under, AV.underL, List.all_nil, List.all_cons, bne_self_eq_false, List.getD_cons_zero, List.getD_cons_succ, List.length_nil, List.length_cons, and_true, true_and, beq_self_eq_true]
              · simp
              · rw [List.map_append, hcl, htk, List.map_append]; simp only [List.map_cons, List.map_nil, hrr]
              · simp only [cnt, go_sem, Nat.reduceAdd, Nat.reduceEqDiff, Nat.reduceLT, reduceIte, reduceCtorEq, Nat.reduceBEq, Int.reduceLT, Int.reduceToNat, Int.reducePow, Nat.reduceLeDiff, Int.reduceLE, Nat.reduceMul, Nat.reduceSub, hw2, Int.toNat_natCast]; omega
            · simp only [go_sem, Nat.reduceAdd, Nat.reduceEqDiff, Nat.reduceLT, reduceIte, reduceCtorEq, Nat.reduceBEq, Int.reduceLT, Int.reduceToNat, Int.reducePow, Nat.reduceLeDiff, Int.reduceLE, Nat.reduceMul, Nat.reduceSub, hwj]
              refine ⟨_, weak_by [0] (by simp) rfl ?_ ?_ ?_ ?_, ⟨j + 1, by omega, rfl⟩, ?_⟩
              · simp only [go_sem, Nat.reduceAdd, Nat.reduceEqDiff, Nat.reduceLT, reduceIte, reduceCtorEq, Nat.reduceBEq, Int.reduceLT, Int.reduceToNat, Int.reducePow, Nat.reduceLeDiff, Int.reduceLE, Nat.reduceMul, Nat.reduceSub, slotsBy, boxesBy, tipsBy, rawAt, nm, AV.ren, AV.renL, AV.under, AV.underL, List.all_nil, List.all_cons, bne_self_eq_false, List.getD_cons_zero, List.getD_cons_succ, List.length_nil, List.length_cons, and_true, true_and]
              · trivial
              · simp only [go_sem, Nat.reduceAdd, Nat.reduceEqDiff, Nat.reduceLT, reduceIte, reduceCtorEq, Nat.reduceBEq, Int.reduceLT, Int.reduceToNat, Int.reducePow, Nat.reduceLeDiff, Int.reduceLE, Nat.reduceMul, Nat.reduceSub, slotsBy, boxesBy, tipsBy, rawAt, nm, AV.ren, AV.renL, AV.under, AV.underL, List.all_nil, List.all_cons, bne_self_eq_false, List.getD_cons_zero, List.getD_cons_succ, List.length_nil, List.length_cons, and_true, true_and, beq_self_eq_true]
              · simp
              · simp only [cnt, go_sem, Nat.reduceAdd, Nat.reduceEqDiff, Nat.reduceLT, reduceIte, reduceCtorEq, Nat.reduceBEq, Int.reduceLT, Int.reduceToNat, Int.reducePow, Nat.reduceLeDiff, Int.reduceLE, Nat.reduceMul, Nat.reduceSub, Int.toNat_natCast]; omega
          · subst hjeq
            have hd : decide (((166 : Nat) : Int) < 166) = false := rfl
            simp only [hd, go_sem, Nat.reduceAdd, Nat.reduceEqDiff, Nat.reduceLT, reduceIte, reduceCtorEq, Nat.reduceBEq, Int.reduceLT, Int.reduceToNat, Int.reducePow, Nat.reduceLeDiff, Int.reduceLE, Nat.reduceMul, Nat.reduceSub]
            refine ⟨by omega, _, weak_by [2] (by simp) rfl ?_ ?_ ?_ ?_, ⟨i + 1, o ++ [r], by omega, by rw [List.length_append, hol]; rfl, ?_, rfl⟩, ?_⟩
            · simp only [go_sem, Nat.reduceAdd, Nat.reduceEqDiff, Nat.reduceLT, reduceIte, reduceCtorEq, Nat.reduceBEq, Int.reduceLT, Int.reduceToNat, Int.reducePow, Nat.reduceLeDiff, Int.reduceLE, Nat.reduceMul, Nat.reduceSub, slotsBy, boxesBy, tipsBy, rawAt, nm, AV.ren, AV.renL, AV.under, AV.underL, List.all_nil, List.all_cons, bne_self_eq_false, List.getD_cons_zero, List.getD_cons_succ, List.length_nil, List.length_cons, and_true, true_and, hw2, runes_snoc]
            · trivial
            · simp only [go_sem, Nat.reduceAdd, Nat.reduceEqDiff, Nat.reduceLT, reduceIte, reduceCtorEq, Nat.reduceBEq, Int.reduceLT, Int.reduceToNat, Int.reducePow, Nat.reduceLeDiff, Int.reduceLE, Nat.reduceMul, Nat.reduceSub, slotsBy, boxesBy, tipsBy, rawAt, nm, AV.ren, AV.renL, AV.under, AV.underL, List.all_nil, List.all_cons, bne_self_eq_false, List.getD_cons_zero, List.getD_cons_succ, List.length_nil, List.length_cons, and_true, true_and, beq_self_eq_true]
            · simp
            · rw [List.map_append, hcl, htk, List.map_append]
            · simp only [cnt, go_sem, Nat.reduceAdd, Nat.reduceEqDiff, Nat.reduceLT, reduceIte, reduceCtorEq, Nat.reduceBEq, Int.reduceLT, Int.reduceToNat, Int.reducePow, Nat.reduceLeDiff, Int.reduceLE, Nat.reduceMul, Nat.reduceSub, hw2, Int.toNat_natCast]; omega
      · have hd : decide ((i : Int) < (p.length : Int)) = false := by simp only [decide_eq_false_iff_not]; omega
        simp only [hd, go_sem, Nat.reduceAdd, Nat.reduceEqDiff, Nat.reduceLT, reduceIte, reduceCtorEq, Nat.reduceBEq, Int.reduceLT, Int.reduceToNat, Int.reducePow, Nat.reduceLeDiff, Int.reduceLE, Nat.reduceMul, Nat.reduceSub]
        refine ⟨by omega, _, weak_by [2] (by simp) rfl ?_ ?_ ?_ ?_, ⟨i + 1, o ++ [r], by omega, by rw [List.length_append, hol]; rfl, ?_, rfl⟩, ?_⟩
        · simp only [go_sem, Nat.reduceAdd, Nat.reduceEqDiff, Nat.reduceLT, reduceIte, reduceCtorEq, Nat.reduceBEq, Int.reduceLT, Int.reduceToNat, Int.reducePow, Nat.reduceLeDiff, Int.reduceLE, Nat.reduceMul, Nat.reduceSub, slotsBy, boxesBy, tipsBy, rawAt, nm, AV.ren, AV.renL, AV.under, AV.underL, List.all_nil, List.all_cons, bne_self_eq_false, List.getD_cons_zero, List.getD_cons_succ, List.length_nil, List.length_cons, and_true, true_and, hw2, runes_snoc]
        · trivial
        · simp only [go_sem, Nat.reduceAdd, Nat.reduceEqDiff, Nat.reduceLT, reduceIte, reduceCtorEq, Nat.reduceBEq, Int.reduceLT, Int.reduceToNat, Int.reducePow, Nat.reduceLeDiff, Int.reduceLE, Nat.reduceMul, Nat.reduceSub, slotsBy, boxesBy, tipsBy, rawAt, nm, AV.ren, AV.renL, AV.under, AV.underL, List.all_nil, List.all_cons, bne_self_eq_false, List.getD_cons_zero, List.getD_cons_succ, List.length_nil, List.length_cons, and_true, true_and, beq_self_eq_true]
        · simp
        · rw [List.map_append, hcl, htk, List.map_append]
        · simp only [cnt, go_sem, Nat.reduceAdd, Nat.reduceEqDiff, Nat.reduceLT, reduceIte, reduceCtorEq, Nat.reduceBEq, Int.reduceLT, Int.reduceToNat, Int.reducePow, Nat.reduceLeDiff, Int.reduceLE, Nat.reduceMul, Nat.reduceSub, hw2, Int.toNat_natCast]; omega
    · subst heq
      rw [List.take_length] at hcl
      have hr : ruleOf o = ruleOf l := by rw [ruleOf_C, ruleOf_C, hcl]
      have hb : bidiOf o = bidiOf l := by rw [bidiOf_C, bidiOf_C, hcl]
      have hirr : decide ((o.length : Int) < (o.length : Int)) = false := by simp
      simp only [Int.lt_irrefl, decide_false, go_sem, Nat.reduceAdd, Nat.reduceEqDiff, Nat.reduceLT, reduceIte, reduceCtorEq, Nat.reduceBEq, Int.reduceLT, Int.reduceToNat, Int.reducePow, Nat.reduceLeDiff, Int.reduceLE, Nat.reduceMul, Nat.reduceSub]
      refine callGo_pure (rule_pure o (by omega)) (by rfl) ?_
      simp only [go_sem, Nat.reduceAdd, Nat.reduceEqDiff, Nat.reduceLT, reduceIte, reduceCtorEq, Nat.reduceBEq, Int.reduceLT, Int.reduceToNat, Int.reducePow, Nat.reduceLeDiff, Int.reduceLE, Nat.reduceMul, Nat.reduceSub]
      refine callGo_pure (rule_pure l (by omega)) (by rfl) ?_
      simp only [hr, beq_self_eq_true, go_sem, Nat.reduceAdd, Nat.reduceEqDiff, Nat.reduceLT, reduceIte, reduceCtorEq, Nat.reduceBEq, Int.reduceLT, Int.reduceToNat, Int.reducePow, Nat.reduceLeDiff, Int.reduceLE, Nat.reduceMul, Nat.reduceSub]
      refine callGo_pure (bidi_pure o (by omega)) (by rfl) ?_
      simp only [go_sem, Nat.reduceAdd, Nat.reduceEqDiff, Nat.reduceLT, reduceIte, reduceCtorEq, Nat.reduceBEq, Int.reduceLT, Int.reduceToNat, Int.reducePow, Nat.reduceLeDiff, Int.reduceLE, Nat.reduceMul, Nat.reduceSub]
      refine callGo_pure (bidi_pure l (by omega)) (by rfl) ?_
      simp only [hb, beq_self_eq_true, go_sem, Nat.reduceAdd, Nat.reduceEqDiff, Nat.reduceLT, reduceIte, reduceCtorEq, Nat.reduceBEq, Int.reduceLT, Int.reduceToNat, Int.reducePow, Nat.reduceLeDiff, Int.reduceLE, Nat.reduceMul, Nat.reduceSub]
      refine callGo_pure awake09_pure (by rfl) ?_
      simp only [go_sem, Nat.reduceAdd, Nat.reduceEqDiff, Nat.reduceLT, reduceIte, reduceCtorEq, Nat.reduceBEq, Int.reduceLT, Int.reduceToNat, Int.reducePow, Nat.reduceLeDiff, Int.reduceLE, Nat.reduceMul, Nat.reduceSub]
      simp only [Done, resAV, resL, resOne, look_nil, look_cons, Nat.reduceEqDiff, if_true, if_false, reduceIte, ite_true, ite_false, Nat.zero_ne_one, Nat.one_ne_zero, reduceCtorEq, true_or, or_true, true_and, Option.some.injEq, AV.lit.injEq, Value.int.injEq, Value.bool.injEq]

theorem ruleAlike_any (avs : List AV) (h : Args Try.prog Try.f15.params.toList avs) : Pure Try.prog 15 avs [] (.lit (.bool true)) := by
  have hp : Try.f15.params.toList = [22, 34] := by kernel_rfl
  rw [hp] at h
  obtain ⟨av0, rest0, rfl, a0, h0⟩ := h
  obtain ⟨av1, rest1, rfl, a1, rfl⟩ := h0
  obtain ⟨z0, rfl, w0, s0⟩ := arg_ints (e := 21) (k := .i32) (by kernel_rfl) (by kernel_rfl) a0
  rw [show Try.prog.bytesOf 21 = 4 from by kernel_rfl] at s0
  obtain ⟨z1, rfl, w1, s1⟩ := arg_ints (e := 5) (k := .u8) (by kernel_rfl) (by kernel_rfl) a1
  rw [show Try.prog.bytesOf 5 = 1 from by kernel_rfl] at s1
  obtain ⟨y1, e1, v1, k1⟩ := octs_of z1 (fun n hn => by simpa [Lit.wf, IntKind.min, IntKind.max, IntKind.signed, IntKind.bits] using w1 n hn)
  rw [e1]
  exact ruleAlike_pure z0 ⟨by omega, fun n hn => by simpa [Lit.wf, IntKind.min, IntKind.max, IntKind.signed, IntKind.bits] using w0 n hn⟩ y1 ⟨by omega, v1⟩

set_option maxRecDepth 100000 in
theorem ruleAlike_lifted (os : Os) (started : os.Started) (H : Type) (enc : TypeId × Value → H) :
    ReturnsInHanded {} Try.checked os 15 .any (Rows.ruleAlikeSpec.pre6 enc Try.prog Try.f15 Rows.ruleAlikeRow.domain false) (Rows.ruleAlikeSpec.post enc Try.prog Try.f15 false true false false) := by
  refine law_returns (C := Try.checked) (tb := 4) (by kernel_rfl) started (by kernel_rfl) Try.func15
    (ChangeSpec.witness6 (enc := enc) (C := Try.checked) false ⟨#[], #[.slice none 0 0, .slice none 0 0], []⟩ 8 (by kernel_rfl) (by kernel_rfl) (by kernel_rfl) (by kernel_rfl))
    (by kernel_rfl) (by kernel_rfl) rfl rfl (by kernel_rfl) (by kernel_rfl) ?_ ruleAlike_any
  intro ds hds
  have hp : Try.f15.params.toList = [22, 34] := by kernel_rfl
  rw [hp] at hds
  match ds, hds with
  | [d0, d1], _ => exact ⟨rfl, rfl, rfl⟩

theorem ruleAlike_holds : Rows.RuleAlikeSaid :=
  OpenClaim.holds_of_wide 15 Try.f15 rfl rfl rfl rfl rfl rfl rfl ⟨rfl, rfl, rfl, rfl, rfl⟩ rfl rfl rfl rfl rfl (by kernel_rfl) Try.func15 (by kernel_rfl)
    (of_decide_eq_true (by kernel_rfl)) (by unfold Func.isWrapper; first | (rw [if_pos (by decide +kernel)]; kernel_rfl) | (rw [if_neg (by decide +kernel)]; exact ⟨rfl, rfl⟩))
    (fun os started H enc _ => ruleAlike_lifted os started H enc)
end Go.Proofs.Ytocaeclhmkojiaa
