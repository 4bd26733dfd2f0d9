/-
Decode: what is read of a text. Conditions: none.
-/
import Derived.Test.YtmhpjoadfgplgaaPunS
set_option linter.unusedSimpArgs false
set_option linter.unusedVariables false
set_option linter.unusedSectionVars false
namespace Go.Proofs.Ytmhpjoadfgplgaa
open Go Go.Ab
def a17_4 : ACode :=
  (.seq (.reg [⟨(.some 8), (.mv (.k (.int .i64 128))), .none⟩, ⟨(.some 9), (.mv (.k (.int .i64 0))), .none⟩, ⟨(.some 10), (.mv (.k (.int .i64 72))), .none⟩, ⟨(.some 11), (.mv (.k (.bool true))),
  .none⟩]) (.seq (.block 2 (.loop (.seq (.seq (.reg [⟨(.some 44), (.mv (.t 0)), .none⟩, ⟨(.some 45), (.bin .neq (.t 44) (.k (.string ⟨#[]⟩))), .none⟩]) (.cond (.t 45) .skip (.exit 2))) (.block 3 (.seq
  (.reg [⟨(.some 47), (.mv (.t 0)), .none⟩, ⟨(.some 48), (.mv (.t 10)), .none⟩, ⟨(.some 49), (.call (.f 48) [(.t 47), (.t 48)]), .none⟩, ⟨(.some 46), (.mv (.t 49)), .none⟩, ⟨(.some 50), (.ext (.t 46)
  0), .none⟩, ⟨(.some 51), (.ext (.t 46) 1), .none⟩, ⟨(.some 52), (.ext (.t 46) 2), .none⟩, ⟨(.some 12), (.mv (.t 50)), .none⟩, ⟨(.some 13), (.mv (.t 51)), .none⟩, ⟨(.some 14), (.mv (.t 52)), .none⟩])
  (.seq (.seq (.reg [⟨(.some 53), (.mv (.t 14)), .none⟩, ⟨(.some 54), (.not (.t 53)), .none⟩]) (.cond (.t 54) (.seq (.reg [⟨(.some 2), (.mv (.k (.slice .none 0 0))), .none⟩, ⟨(.some 3), (.mv (.k (.int
  .i64 40))), .none⟩]) .ret) .skip)) (.seq (.reg [⟨(.some 55), (.mv (.t 4)), .none⟩, ⟨(.some 56), (.len (.t 55)), .none⟩, ⟨(.some 57), (.bin .add (.t 56) (.k (.int .i64 1))), .none⟩, ⟨(.some 15), (.mv
  (.t 57)), .none⟩]) (.seq (.reg [⟨(.some 58), (.mv (.t 12)), .none⟩, ⟨(.some 59), (.mv (.t 15)), .none⟩, ⟨(.some 60), (.mv (.t 11)), .none⟩, ⟨(.some 61), (.call (.f 41) [(.t 58), (.t 59), (.t 60)]),
  .none⟩, ⟨(.some 62), (.mv (.t 13)), .none⟩, ⟨(.some 10), (.mv (.t 61)), .none⟩, ⟨(.some 11), (.mv (.k (.bool false))), .none⟩, ⟨(.some 0), (.mv (.t 62)), .none⟩]) (.seq (.dreg [⟨(.some 63), (.mv (.t
  8)), .none⟩, ⟨(.some 64), (.mv (.t 9)), .none⟩, ⟨(.some 65), (.mv (.t 12)), .none⟩, ⟨(.some 66), (.bin .add (.t 64) (.t 65)), .none⟩, ⟨(.some 67), (.mv (.t 15)), .none⟩, ⟨(.some 68), (.bin .quo (.t
  66) (.t 67)), .none⟩, ⟨(.some 69), (.bin .add (.t 63) (.t 68)), .none⟩, ⟨(.some 70), (.mv (.t 9)), .none⟩, ⟨(.some 71), (.mv (.t 12)), .none⟩, ⟨(.some 72), (.bin .add (.t 70) (.t 71)), .none⟩, ⟨(.some
  73), (.mv (.t 15)), .none⟩, ⟨(.some 74), (.bin .rem (.t 72) (.t 73)), .none⟩, ⟨(.some 8), (.mv (.t 69)), .none⟩, ⟨(.some 9), (.mv (.t 74)), .none⟩]) (.seq (.seq (.reg [⟨(.some 75), (.mv (.t 8)),
  .none⟩, ⟨(.some 76), (.bin .gtr (.t 75) (.k (.int .i64 1114111))), .none⟩, ⟨(.some 77), (.mv (.t 76)), .none⟩, ⟨(.some 78), (.mv (.t 8)), (.some (77, false))⟩, ⟨(.some 79), (.cvI .i32 (.t 78)), (.some
  (77, false))⟩, ⟨(.some 80), (.call (.f 36) [(.t 79)]), (.some (77, false))⟩, ⟨(.some 81), (.not (.t 80)), (.some (77, false))⟩, ⟨(.some 82), (.pick (.t 77) (.k (.bool true)) (.t 81)), .none⟩]) (.cond
  (.t 82) (.seq (.reg [⟨(.some 2), (.mv (.k (.slice .none 0 0))), .none⟩, ⟨(.some 3), (.mv (.k (.int .i64 40))), .none⟩]) .ret) .skip)) (.seq (.reg [⟨(.some 83), (.mv (.t 4)), .none⟩, ⟨(.some 84), (.mv
  (.t 9)), .none⟩, ⟨(.some 85), (.mv (.t 8)), .none⟩, ⟨(.some 86), (.cvI .i32 (.t 85)), .none⟩, ⟨(.some 87), (.bs 21 1 [(.t 86)]), .none⟩, ⟨(.some 88), (.call (.f 49) [(.t 83), (.t 84), (.t 87)]),
  .none⟩, ⟨(.some 4), (.mv (.t 88)), .none⟩]) (.reg [⟨(.some 89), (.mv (.t 9)), .none⟩, ⟨(.some 90), (.bin .add (.t 89) (.k (.int .i64 1))), .none⟩, ⟨(.some 9), (.mv (.t 90)), .none⟩])))))))))))) (.seq
  (.reg [⟨(.some 91), (.mv (.t 4)), .none⟩, ⟨(.some 2), (.mv (.t 91)), .none⟩, ⟨(.some 3), (.mv (.k (.int .i64 0))), .none⟩]) .ret)))
def a17 : ACode :=
  (.seq (.reg [⟨(.some 2), (.mv (.k (.slice .none 0 0))), .none⟩, ⟨(.some 3), (.mv (.k (.int .i64 0))), .none⟩]) (.seq (.seq (.reg [⟨(.some 16), (.mv (.t 0)), .none⟩, ⟨(.some 17), (.lenS (.t 16)),
  .none⟩, ⟨(.some 18), (.bin .gtr (.t 17) (.k (.int .i64 10000))), .none⟩]) (.cond (.t 18) (.seq (.reg [⟨(.some 2), (.mv (.k (.slice .none 0 0))), .none⟩, ⟨(.some 3), (.mv (.k (.int .i64 41))), .none⟩])
  .ret) .skip)) (.seq (.reg [⟨(.some 4), (.mv (.k (.slice .none 0 0))), .none⟩]) (.seq (.seq (.reg [⟨(.some 19), (.mv (.t 0)), .none⟩, ⟨(.some 20), (.call (.f 21) [(.t 19), (.k (.int .u8 45))]), .none⟩,
  ⟨(.some 5), (.mv (.t 20)), .none⟩]) (.seq (.reg [⟨(.some 21), (.mv (.t 5)), .none⟩, ⟨(.some 22), (.bin .gtr (.t 21) (.k (.int .i64 0))), .none⟩]) (.cond (.t 22) (.seq (.seq (.reg [⟨(.some 23), (.mv
  (.t 0)), .none⟩, ⟨(.some 24), (.mv (.t 5)), .none⟩, ⟨(.some 25), (.slS (.t 23) .none (.some (.t 24))), .none⟩, ⟨(.some 26), (.xe (.cvSB 5) [(.t 25)]), .none⟩, ⟨(.some 27), (.len (.t 26)), .none⟩,
  ⟨(.some 28), (.mv (.k (.int .i64 0))), .none⟩]) (.block 0 (.loop (.seq (.reg [⟨(.some 29), (.bin .lss (.t 28) (.t 27)), .none⟩]) (.seq (.cond (.t 29) .skip (.exit 0)) (.seq (.block 1 (.seq (.reg
  [⟨(.some 30), (.ia 5 (.t 26) (.t 28)), .none⟩, ⟨(.some 31), (.ld .none (.t 30)), .none⟩, ⟨(.some 7), (.mv (.t 31)), .none⟩]) (.seq (.seq (.reg [⟨(.some 32), (.mv (.t 7)), .none⟩, ⟨(.some 33), (.bin
  .geq (.t 32) (.k (.int .u8 128))), .none⟩]) (.cond (.t 33) (.seq (.reg [⟨(.some 2), (.mv (.k (.slice .none 0 0))), .none⟩, ⟨(.some 3), (.mv (.k (.int .i64 40))), .none⟩]) .ret) .skip)) (.reg [⟨(.some
  34), (.mv (.t 4)), .none⟩, ⟨(.some 35), (.mv (.t 7)), .none⟩, ⟨(.some 36), (.cvI .i32 (.t 35)), .none⟩, ⟨(.some 37), (.bs 21 1 [(.t 36)]), .none⟩, ⟨(.some 38), (.app 21 4 (.t 34) (.t 37)), .none⟩,
  ⟨(.some 4), (.mv (.t 38)), .none⟩])))) (.reg [⟨(.some 39), (.bin .add (.t 28) (.k (.int .i64 1))), .none⟩, ⟨(.some 28), (.mv (.t 39)), .none⟩]))))))) (.reg [⟨(.some 40), (.mv (.t 0)), .none⟩, ⟨(.some
  41), (.mv (.t 5)), .none⟩, ⟨(.some 42), (.bin .add (.t 41) (.k (.int .i64 1))), .none⟩, ⟨(.some 43), (.slS (.t 40) (.some (.t 42)) .none), .none⟩, ⟨(.some 0), (.mv (.t 43)), .none⟩])) .skip)))
  a17_4))))
theorem c17 : Try.f17.body.bind (cCode Try.prog 92) = some a17 := by kernel_rfl
theorem r17 : Try.f17.results.toList = [(.tmp 2), (.tmp 3)] := by kernel_rfl
theorem n17 : Try.f17.ntmps = 92 := by kernel_rfl
theorem e17 : Enters Try.prog 17 := enters_of Try.func17 (by kernel_rfl) (by kernel_rfl)

theorem dcd_back0 {s out : List Nat} {n i b : Nat} {f : Bool} (hs : s ≠ []) : dcd s out n i b f = match rd b 1 0 1 s with
    | none => none
    | some (d, r) => if isSc (((n + (i + d) / (out.length + 1) : Nat) : Nat) : Int) = false then none else dcd r (out.take ((i + d) % (out.length + 1)) ++ (n + (i + d) / (out.length + 1)) :: out.drop ((i + d) % (out.length + 1))) (n + (i + d) / (out.length + 1)) ((i + d) % (out.length + 1) + 1) (adp d (out.length + 1) f) false := by
  cases h : rd b 1 0 1 s with
  | none => exact dcd_none hs h
  | some x =>
    obtain ⟨d, r⟩ := x
    simp only
    cases h2 : isSc (((n + (i + d) / (out.length + 1) : Nat) : Nat) : Int) with
    | false => rw [dcd_bad hs h h2, if_pos rfl]
    | true => rw [dcd_some hs h h2, if_neg (by simp)]
theorem rd_le (b : Nat) : ∀ (s : List Nat) (k d w : Nat) {D : Nat} {r : List Nat}, rd b k d w s = some (D, r) → D ≤ 11143348224 ∧ ∀ x ∈ r, x ∈ s
  | [], k, d, w, D, r, h => by simp [rd] at h
  | c :: s, k, d, w, D, r, h => by
    simp only [rd] at h
    split at h
    · cases h
    · split at h
      · cases h
      · split at h
        · simp only [Option.some.injEq, Prod.mk.injEq] at h
          obtain ⟨rfl, rfl⟩ := h
          exact ⟨by omega, fun x hx => by simp [hx]⟩
        · have := rd_le b s _ _ _ h
          exact ⟨this.1, fun x hx => by simp [this.2 x hx]⟩

/-- What it hands back, of what was read. -/
def decO : Option (List Nat) → List Nat × Int
  | some c => (c, 0)
  | none => ([], 40)

theorem len_go {q : AV} {out : List Nat} {bx : List (Nat × List AV)} {d : Option Nat} {s : State} {K : State → Prop} (h : outP q out bx) (hK : pGo (some (.lit (.int .i64 (out.length : Int)))) d s K) :
    pGo (vop ⟨[(0, some q)], [], [], 0⟩ (.len (.t 0))) d s K := by
  rcases h with ⟨rfl, rfl⟩ | ⟨id, rfl, _⟩
  · exact hK
  · exact hK

set_option maxRecDepth 10000 in
set_option maxHeartbeats 1000000 in
theorem dec_tail {s0 out0 : List Nat} {q0 : AV} {sl : List (Nat × Option AV)} {bx : List (Nat × List AV)} {tp : List (Nat × TypeId)} {nx : Nat} (hs : ∀ n ∈ s0, n ≤ 255) (hl : s0.length + out0.length ≤ 10000) (hq0 : outP q0 out0 bx)
    (h0 : Ab.look sl 0 = some (.lit (.string (txt s0)))) (h4 : Ab.look sl 4 = some q0) :
    awp Try.prog 0 a17_4 (fun e s => ∃ s1, Weak Try.prog 0 s s1 ∧ Done Try.prog [.tmp 2, .tmp 3] (decA (decO (dcd s0 out0 128 0 72 true))) e s1) ⟨sl, bx, tp, nx⟩ := by
  simp only [a17_4, go_sem, Nat.reduceAdd, Nat.reduceEqDiff, Nat.reduceLT, reduceIte, reduceCtorEq, Nat.reduceBEq, Int.reduceLT, Int.reduceToNat, Int.reducePow, Nat.reduceLeDiff, Int.reduceLE, Nat.reduceMul, Nat.reduceSub]
  refine loop_by (α := (List Nat × List Nat × AV) × (Nat × Nat × Nat × Bool) × List (Nat × List AV) × Nat) (fun x => ⟨[(0, some (.lit (.string (txt x.1.1)))), (4, some x.1.2.2), (8, some (.lit (.int .i64 ((x.2.1.1 : Nat) : Int)))), (9, some (.lit (.int .i64 ((x.2.1.2.1 : Nat) : Int)))), (10, some (.lit (.int .i64 ((x.2.1.2.2.1 : Nat) : Int)))), (11, some (.lit (.bool x.2.1.2.2.2)))], x.2.2.1, [], x.2.2.2⟩)
    (fun x => (∀ n ∈ x.1.1, n ≤ 255) ∧ x.1.1.length + x.1.2.1.length ≤ 10000 ∧ outP x.1.2.2 x.1.2.1 x.2.2.1 ∧ dcd s0 out0 128 0 72 true = dcd x.1.1 x.1.2.1 x.2.1.1 x.2.1.2.1 x.2.1.2.2.1 x.2.1.2.2.2 ∧ x.2.1.2.1 ≤ x.1.2.1.length ∧ x.2.1.1 ≤ 1114111 ∧ x.2.1.2.2.1 ≤ 1000) (fun x => x.1.1.length) (fun x y h => by
      have := congrArg (fun z => match Ab.look z.slots 0 with | some (.lit (.string b)) => b.size | _ => 0) h
      simpa [Ab.look, txt_size] using this) ((s0, out0, q0), (128, 0, 72, true), bx, nx) (weak_forget ?_ (List.Sublist.refl _) (List.nil_sublist _)) ⟨hs, hl, hq0, rfl, Nat.zero_le _, by simp, by simp⟩ ?_
  · simp only [h0, h4, go_sem, Nat.reduceAdd, Nat.reduceEqDiff, Nat.reduceLT, reduceIte, reduceCtorEq, Nat.reduceBEq, Int.reduceLT, Int.reduceToNat, Int.reducePow, Nat.reduceLeDiff, Int.reduceLE, Nat.reduceMul, Nat.reduceSub, slotsBy, boxesBy, tipsBy, rawAt, nm, AV.ren, AV.renL, AV.under, AV.underL, List.all_nil, List.all_cons, bne_self_eq_false, List.getD_cons_zero, List.getD_cons_succ, List.length_nil, List.length_cons, and_true, true_and, slotsSub]
    exact ⟨rfl, rfl, rfl⟩
  · rintro ⟨⟨s, out, q⟩, ⟨n, i, b, f⟩, bx, nx⟩ ⟨h1, h2, h3, h4, h5, h6, h7⟩
    simp only at h1 h2 h3 h4 h5 h6 h7
    rw [h4]
    clear h4
    simp only [txt_ne0, go_sem, Nat.reduceAdd, Nat.reduceEqDiff, Nat.reduceLT, reduceIte, reduceCtorEq, Nat.reduceBEq, Int.reduceLT, Int.reduceToNat, Int.reducePow, Nat.reduceLeDiff, Int.reduceLE, Nat.reduceMul, Nat.reduceSub]
    by_cases hs : s = []
    · subst hs
      simp only [decide_true, Bool.not_true, dcd_nil, go_sem, Nat.reduceAdd, Nat.reduceEqDiff, Nat.reduceLT, reduceIte, reduceCtorEq, Nat.reduceBEq, Int.reduceLT, Int.reduceToNat, Int.reducePow, Nat.reduceLeDiff, Int.reduceLE, Nat.reduceMul, Nat.reduceSub]
      exact fin_out (.inr rfl) (by decide) (by simp only [Ab.look, Nat.reduceEqDiff, if_true, if_false]) h3 (by simp only [Ab.look, Nat.reduceEqDiff, if_true, if_false])
    · rw [dcd_back0 hs]
      simp only [hs, decide_false, Bool.not_false, go_sem, Nat.reduceAdd, Nat.reduceEqDiff, Nat.reduceLT, reduceIte, reduceCtorEq, Nat.reduceBEq, Int.reduceLT, Int.reduceToNat, Int.reducePow, Nat.reduceLeDiff, Int.reduceLE, Nat.reduceMul, Nat.reduceSub]
      refine callGo_pure (step_pure s b h1 (by omega) h7) (by cases rd b 1 0 1 s <;> rfl) ?_
      cases hrd : rd b 1 0 1 s with
      | none =>
        simp only [stepR, List.getElem?_cons_zero, List.getElem?_cons_succ, go_sem, Nat.reduceAdd, Nat.reduceEqDiff, Nat.reduceLT, reduceIte, reduceCtorEq, Nat.reduceBEq, Int.reduceLT, Int.reduceToNat, Int.reducePow, Nat.reduceLeDiff, Int.reduceLE, Nat.reduceMul, Nat.reduceSub]
        exact fin_out (c := []) (.inr rfl) (by decide) (by simp only [Ab.look, Nat.reduceEqDiff, if_true, if_false]) (.inl ⟨rfl, rfl⟩) (by simp only [Ab.look, Nat.reduceEqDiff, if_true, if_false])
      | some x =>
        obtain ⟨d, r⟩ := x
        obtain ⟨hd, hr⟩ := rd_le b s 1 0 1 hrd
        have hrl := rd_lt b s 1 0 1 hrd
        simp only [stepR, go_sem, Nat.reduceAdd, Nat.reduceEqDiff, Nat.reduceLT, reduceIte, reduceCtorEq, Nat.reduceBEq, Int.reduceLT, Int.reduceToNat, Int.reducePow, Nat.reduceLeDiff, Int.reduceLE, Nat.reduceMul, Nat.reduceSub]
        refine len_go h3 ?_
        have hbs : ∀ x ∈ r, x ≤ 255 := fun x hx => h1 x (hr x hx)
        have w1 : IntKind.i64.wrap ((out.length : Int) + 1) = ((out.length + 1 : Nat) : Int) := by rw [wrap_i64 _ (by omega) (by omega)]; omega
        have w2 : IntKind.i64.wrap ((i : Int) + (d : Int)) = ((i + d : Nat) : Int) := by rw [← Int.natCast_add]; exact wrapN _ (by omega)
        have hq := Nat.div_le_self (i + d) (out.length + 1)
        have hm := Nat.mod_lt (i + d) (show 0 < out.length + 1 by omega)
        have w3 : IntKind.i64.wrap (((i + d : Nat) : Int).tdiv ((out.length + 1 : Nat) : Int)) = (((i + d) / (out.length + 1) : Nat) : Int) := by rw [tdivN]; exact wrapN _ (by omega)
        have w4 : ((i + d : Nat) : Int).tmod ((out.length + 1 : Nat) : Int) = (((i + d) % (out.length + 1) : Nat) : Int) := tmodN _ _
        have w5 : IntKind.i64.wrap ((n : Int) + (((i + d) / (out.length + 1) : Nat) : Int)) = ((n + (i + d) / (out.length + 1) : Nat) : Int) := by rw [← Int.natCast_add]; exact wrapN _ (by omega)
        have n0 : (((out.length + 1 : Nat) : Int) = 0) = False := neI (by omega)
        simp only [w1, go_sem, Nat.reduceAdd, Nat.reduceEqDiff, Nat.reduceLT, reduceIte, reduceCtorEq, Nat.reduceBEq, Int.reduceLT, Int.reduceToNat, Int.reducePow, Nat.reduceLeDiff, Int.reduceLE, Nat.reduceMul, Nat.reduceSub]
        refine callGo_pure (adp_pure d (out.length + 1) f (by omega) (by omega) (by omega)) (by rfl) ?_
        simp only [w1, w2, w3, w4, w5, n0, if_false, go_sem, Nat.reduceAdd, Nat.reduceEqDiff, Nat.reduceLT, reduceIte, reduceCtorEq, Nat.reduceBEq, Int.reduceLT, Int.reduceToNat, Int.reducePow, Nat.reduceLeDiff, Int.reduceLE, Nat.reduceMul, Nat.reduceSub]
        have hadp := adp_le2 (d := d) (h := out.length + 1) f (by omega)
        have hil := ins_length out ((i + d) % (out.length + 1)) (n + (i + d) / (out.length + 1))
        obtain ⟨Q, hQ⟩ : ∃ Q, Q = n + (i + d) / (out.length + 1) := ⟨_, rfl⟩
        obtain ⟨M, hM⟩ : ∃ M, M = (i + d) % (out.length + 1) := ⟨_, rfl⟩
        rw [← hM] at hm
        rw [← hM, ← hQ] at hil
        rw [← hM, ← hQ]
        have hw : IntKind.i64.wrap ((M : Int) + 1) = ((M + 1 : Nat) : Int) := by rw [wrap_i64 _ (by omega) (by omega)]; omega
        by_cases hg : 1114111 < Q
        · have d1 : decide ((Q : Int) > 1114111) = true := by simp; omega
          have d2 : isSc (Q : Int) = false := by simp [isSc]; omega
          simp only [d1, d2, if_true, go_sem, Nat.reduceAdd, Nat.reduceEqDiff, Nat.reduceLT, reduceIte, reduceCtorEq, Nat.reduceBEq, Int.reduceLT, Int.reduceToNat, Int.reducePow, Nat.reduceLeDiff, Int.reduceLE, Nat.reduceMul, Nat.reduceSub]
          exact fin_out (c := []) (.inr rfl) (by decide) (by simp only [Ab.look, Nat.reduceEqDiff, if_true, if_false]) (.inl ⟨rfl, rfl⟩) (by simp only [Ab.look, Nat.reduceEqDiff, if_true, if_false])
        · have d1 : decide ((Q : Int) > 1114111) = false := by simp; omega
          have w6 : IntKind.i32.wrap (Q : Int) = (Q : Int) := wrap_i32 _ (by omega) (by omega)
          simp only [d1, w6, go_sem, Nat.reduceAdd, Nat.reduceEqDiff, Nat.reduceLT, reduceIte, reduceCtorEq, Nat.reduceBEq, Int.reduceLT, Int.reduceToNat, Int.reducePow, Nat.reduceLeDiff, Int.reduceLE, Nat.reduceMul, Nat.reduceSub]
          refine callGo_pure (Valid_pure (Q : Int)) (by rfl) ?_
          simp only [go_sem, Nat.reduceAdd, Nat.reduceEqDiff, Nat.reduceLT, reduceIte, reduceCtorEq, Nat.reduceBEq, Int.reduceLT, Int.reduceToNat, Int.reducePow, Nat.reduceLeDiff, Int.reduceLE, Nat.reduceMul, Nat.reduceSub]
          cases hsc : isSc (Q : Int) with
          | false =>
            simp only [Bool.not_false, if_true, go_sem, Nat.reduceAdd, Nat.reduceEqDiff, Nat.reduceLT, reduceIte, reduceCtorEq, Nat.reduceBEq, Int.reduceLT, Int.reduceToNat, Int.reducePow, Nat.reduceLeDiff, Int.reduceLE, Nat.reduceMul, Nat.reduceSub]
            exact fin_out (c := []) (.inr rfl) (by decide) (by simp only [Ab.look, Nat.reduceEqDiff, if_true, if_false]) (.inl ⟨rfl, rfl⟩) (by simp only [Ab.look, Nat.reduceEqDiff, if_true, if_false])
          | true =>
            simp only [Bool.not_true, w6, Bool.true_eq_false, if_false, go_sem, Nat.reduceAdd, Nat.reduceEqDiff, Nat.reduceLT, reduceIte, reduceCtorEq, Nat.reduceBEq, Int.reduceLT, Int.reduceToNat, Int.reducePow, Nat.reduceLeDiff, Int.reduceLE, Nat.reduceMul, Nat.reduceSub]
            refine callGo_ok (ins_out_ok (i := M) (m := Q) h3 (by omega) (by omega) (by simp only [hasTip, if_true, beq_self_eq_true]) fun q' bx' nx' hq' => ?_)
            simp only [hw, go_sem, Nat.reduceAdd, Nat.reduceEqDiff, Nat.reduceLT, reduceIte, reduceCtorEq, Nat.reduceBEq, Int.reduceLT, Int.reduceToNat, Int.reducePow, Nat.reduceLeDiff, Int.reduceLE, Nat.reduceMul, Nat.reduceSub]
            refine ⟨((r, out.take M ++ Q :: out.drop M, q'), (Q, M + 1, adp d (out.length + 1) f, false), bx', nx'), weak_forget ?_ (List.Sublist.refl _) (List.nil_sublist _), ⟨hbs, ?_, hq', rfl, ?_, by simp only; omega, hadp⟩, hrl⟩
            · simp only [go_sem, Nat.reduceAdd, Nat.reduceEqDiff, Nat.reduceLT, reduceIte, reduceCtorEq, Nat.reduceBEq, Int.reduceLT, Int.reduceToNat, Int.reducePow, Nat.reduceLeDiff, Int.reduceLE, Nat.reduceMul, Nat.reduceSub, slotsBy, boxesBy, tipsBy, rawAt, nm, AV.ren, AV.renL, AV.under, AV.underL, List.all_nil, List.all_cons, bne_self_eq_false, List.getD_cons_zero, List.getD_cons_succ, List.length_nil, List.length_cons, and_true, true_and, slotsSub]
            · simp only [hil]; omega
            · simp only [hil]; omega

end Go.Proofs.Ytmhpjoadfgplgaa
