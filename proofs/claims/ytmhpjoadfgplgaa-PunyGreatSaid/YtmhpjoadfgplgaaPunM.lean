/-
Encode: a row, as it is told. Conditions: none.
-/
import Derived.Test.YtmhpjoadfgplgaaPunL
set_option linter.unusedSimpArgs false
set_option linter.unusedVariables false
set_option linter.unusedSectionVars false
namespace Go.Proofs.Ytmhpjoadfgplgaa
open Go Go.Ab
def a39 : ACode :=
  (.seq (.reg [⟨(.some 2), (.box 22 (.t 0)), .none⟩, ⟨(.some 3), (.box 3 (.t 1)), .none⟩, ⟨(.some 4), (.mv (.k .nilFunc)), .none⟩]) (.seq (.reg [⟨(.some 5), (.mkf (.func 73) [] [(.t 3), (.t 2)]),
  .none⟩, ⟨(.some 4), (.mv (.t 5)), .none⟩]) .ret))
theorem c39 : Try.f39.body.bind (cCode Try.prog 6) = some a39 := by kernel_rfl
theorem r39 : Try.f39.results.toList = [(.tmp 4)] := by kernel_rfl
theorem n39 : Try.f39.ntmps = 6 := by kernel_rfl
theorem e39 : Enters Try.prog 39 := enters_of Try.func39 (by kernel_rfl) (by kernel_rfl)

/-- What Encode hands back. -/
def encR (l : List Int) : ByteArray × Int := if 2000 < l.length then (⟨#[]⟩, 41) else if l.all isSc = true then (txt (encT (l.map Int.toNat)), 0) else (⟨#[]⟩, 40)

theorem bufP_mono {q : AV} {bs : List Nat} {tp : List (Nat × TypeId)} {n m : Nat} (h : n ≤ m) (hq : bufP q bs tp n) : bufP q bs tp m := by
  rcases hq with hq | ⟨t, h1, h2, h3, h4⟩
  · exact .inl hq
  · exact .inr ⟨t, h1, h2, by omega, h4⟩

theorem ofN_toNat {l : List Int} (h : ∀ x ∈ l, isSc x = true) : ofN (l.map Int.toNat) = l := by
  unfold ofN
  rw [List.map_map]
  refine (List.map_congr_left fun x hx => ?_).trans (List.map_id l)
  have := h x hx
  simp [isSc] at this
  simp; omega

set_option maxRecDepth 10000 in
set_option maxHeartbeats 1000000 in
theorem Encode_pure (l : List Int) (hl : l.length ≤ 35184372088064) : Pure Try.prog 15 [rS l none] [] (.tu [.lit (.string (encR l).1), .lit (.int .i64 (encR l).2)]) := by
  refine pure0 Try.func15 c15 n15 e15 r15 (by simp) (by rfl) ?_
  simp only [a15, astart, argSlots, runes_length, go_sem, Nat.reduceAdd, Nat.reduceEqDiff, Nat.reduceLT, reduceIte, reduceCtorEq, Nat.reduceBEq, Int.reduceLT, Int.reduceToNat, Int.reducePow, Nat.reduceLeDiff, Int.reduceLE, Nat.reduceMul, Nat.reduceSub]
  by_cases hlen : 2000 < l.length
  · have d1 : decide ((l.length : Int) > 2000) = true := by simp; omega
    have er : encR l = (⟨#[]⟩, 41) := by unfold encR; rw [if_pos hlen]
    simp only [d1, er, go_sem, Nat.reduceAdd, Nat.reduceEqDiff, Nat.reduceLT, reduceIte, reduceCtorEq, Nat.reduceBEq, Int.reduceLT, Int.reduceToNat, Int.reducePow, Nat.reduceLeDiff, Int.reduceLE, Nat.reduceMul, Nat.reduceSub]
    simp only [Done, resAV, resL, resOne, look_nil, look_cons, Nat.reduceEqDiff, if_true, if_false, reduceIte, ite_true, ite_false, Nat.zero_ne_one, Nat.one_ne_zero, reduceCtorEq, true_or, or_true, true_and, Option.some.injEq, AV.lit.injEq, Value.int.injEq, Value.bool.injEq]
  · have d1 : decide ((l.length : Int) > 2000) = false := by simp; omega
    simp only [d1, runes_length, go_sem, Nat.reduceAdd, Nat.reduceEqDiff, Nat.reduceLT, reduceIte, reduceCtorEq, Nat.reduceBEq, Int.reduceLT, Int.reduceToNat, Int.reducePow, Nat.reduceLeDiff, Int.reduceLE, Nat.reduceMul, Nat.reduceSub]
    refine loop_by (α := Nat × (Bool × AV) × List (Nat × TypeId) × Nat) (fun x => ⟨[(0, some (rS l none)), (4, some (.rf (.var 55 2) 0)), (15, some (rS l none)), (16, some (.lit (.int .i64 (l.length : Int)))), (17, some (.lit (.int .i64 ((x.1 : Nat) : Int))))], [(0, [selfP x.2.1.1 0, x.2.1.2])], x.2.2.1, x.2.2.2⟩)
      (fun x => x.1 ≤ l.length ∧ (∀ y ∈ l.take x.1, isSc y = true) ∧ bufP x.2.1.2 (pln ((l.take x.1).map Int.toNat)) x.2.2.1 x.2.2.2 ∧ 0 < x.2.2.2) (fun x => l.length - x.1) (fun x y h => by
        have := congrArg (cnt 17) h
        simp [cnt, Ab.look] at this
        rw [this]) (0, (false, .lit (.slice none 0 0)), [], 1) (weak_forget ?_ (List.Sublist.refl _) (List.Sublist.refl _)) ⟨by simp, by simp, .inl ⟨rfl, rfl⟩, by simp⟩ ?_
    · simp only [go_sem, Nat.reduceAdd, Nat.reduceEqDiff, Nat.reduceLT, reduceIte, reduceCtorEq, Nat.reduceBEq, Int.reduceLT, Int.reduceToNat, Int.reducePow, Nat.reduceLeDiff, Int.reduceLE, Nat.reduceMul, Nat.reduceSub, slotsBy, boxesBy, tipsBy, rawAt, nm, AV.ren, AV.renL, AV.under, AV.underL, List.all_nil, List.all_cons, bne_self_eq_false, List.getD_cons_zero, List.getD_cons_succ, List.length_nil, List.length_cons, and_true, true_and, slotsSub, Int.natCast_zero]
    · rintro ⟨j, ⟨u, q⟩, tp, nx⟩ ⟨h1, h2, h3, h4⟩
      simp only at h1 h2 h3 h4
      simp only [go_sem, Nat.reduceAdd, Nat.reduceEqDiff, Nat.reduceLT, reduceIte, reduceCtorEq, Nat.reduceBEq, Int.reduceLT, Int.reduceToNat, Int.reducePow, Nat.reduceLeDiff, Int.reduceLE, Nat.reduceMul, Nat.reduceSub]
      rcases Nat.lt_or_eq_of_le h1 with hj | hj
      · have w : IntKind.i64.wrap ((j : Int) + 1) = ((j + 1 : Nat) : Int) := by rw [wrap_i64 _ (by omega) (by omega)]; omega
        have htk : l.take (j + 1) = l.take j ++ [l[j]] := List.take_succ_eq_append_getElem hj
        have hmem := List.getElem_mem hj
        simp only [dec_lt hj, hj, runes_at hj, go_sem, Nat.reduceAdd, Nat.reduceEqDiff, Nat.reduceLT, reduceIte, reduceCtorEq, Nat.reduceBEq, Int.reduceLT, Int.reduceToNat, Int.reducePow, Nat.reduceLeDiff, Int.reduceLE, Nat.reduceMul, Nat.reduceSub]
        generalize l[j] = r at *
        refine callGo_pure (Valid_pure r) (by rfl) ?_
        simp only [go_sem, Nat.reduceAdd, Nat.reduceEqDiff, Nat.reduceLT, reduceIte, reduceCtorEq, Nat.reduceBEq, Int.reduceLT, Int.reduceToNat, Int.reducePow, Nat.reduceLeDiff, Int.reduceLE, Nat.reduceMul, Nat.reduceSub]
        cases hs : isSc r
        · have er : encR l = (⟨#[]⟩, 40) := by
            unfold encR
            rw [if_neg hlen, if_neg]
            intro hc
            have := List.all_eq_true.1 hc r hmem
            rw [hs] at this; cases this
          simp only [er, Bool.not_false, go_sem, Nat.reduceAdd, Nat.reduceEqDiff, Nat.reduceLT, reduceIte, reduceCtorEq, Nat.reduceBEq, Int.reduceLT, Int.reduceToNat, Int.reducePow, Nat.reduceLeDiff, Int.reduceLE, Nat.reduceMul, Nat.reduceSub]
          simp only [Done, resAV, resL, resOne, look_nil, look_cons, Nat.reduceEqDiff, if_true, if_false, reduceIte, ite_true, ite_false, Nat.zero_ne_one, Nat.one_ne_zero, reduceCtorEq, true_or, or_true, true_and, Option.some.injEq, AV.lit.injEq, Value.int.injEq, Value.bool.injEq]
        · have h2' : ∀ y ∈ l.take (j + 1), isSc y = true := fun y hy => by
            rw [htk] at hy
            rcases List.mem_append.1 hy with hy | hy
            · exact h2 y hy
            · simp at hy; subst hy; exact hs
          have hr0 : 0 ≤ r ∧ r ≤ 1114111 := by simp [isSc] at hs; omega
          by_cases hr : r < 128
          · have d2 : decide (r < 128) = true := by simp; omega
            have wu : IntKind.u8.wrap r = ((r.toNat : Nat) : Int) := by rw [wrap_u8 _ (by omega) (by omega)]; omega
            have hpl : pln ((l.take (j + 1)).map Int.toNat) = pln ((l.take j).map Int.toNat) ++ [r.toNat] := by
              unfold pln
              rw [htk, List.map_append, List.filter_append, List.map_singleton, List.filter_cons_of_pos (by simp; omega)]; rfl
            have hpln : (pln ((l.take j).map Int.toNat)).length ≤ 1099511627776 := by
              have := List.length_filter_le (fun x => decide (x < 128)) ((l.take j).map Int.toNat)
              rw [List.length_map] at this
              have := List.length_take_le j l
              unfold pln; omega
            simp only [Bool.not_true, d2, wu, go_sem, Nat.reduceAdd, Nat.reduceEqDiff, Nat.reduceLT, reduceIte, reduceCtorEq, Nat.reduceBEq, Int.reduceLT, Int.reduceToNat, Int.reducePow, Nat.reduceLeDiff, Int.reduceLE, Nat.reduceMul, Nat.reduceSub]
            refine callGo_ok (write_ok r.toNat (u := u) (q := q) (by simp only [unOb2, go_sem, Nat.reduceAdd, Nat.reduceEqDiff, Nat.reduceLT, reduceIte, reduceCtorEq, Nat.reduceBEq, Int.reduceLT, Int.reduceToNat, Int.reducePow, Nat.reduceLeDiff, Int.reduceLE, Nat.reduceMul, Nat.reduceSub]) h3 hpln fun q2 hq2 => ?_)
            rw [← hpl] at hq2
            simp only [w, go_sem, Nat.reduceAdd, Nat.reduceEqDiff, Nat.reduceLT, reduceIte, reduceCtorEq, Nat.reduceBEq, Int.reduceLT, Int.reduceToNat, Int.reducePow, Nat.reduceLeDiff, Int.reduceLE, Nat.reduceMul, Nat.reduceSub]
            refine ⟨(j + 1, (true, q2), [(nx + 1, 5)], nx + 2), weak_forget ?_ (List.Sublist.refl _) (List.Sublist.refl _), ⟨hj, h2', hq2, by simp only; omega⟩, by simp only; omega⟩
            simp only [go_sem, Nat.reduceAdd, Nat.reduceEqDiff, Nat.reduceLT, reduceIte, reduceCtorEq, Nat.reduceBEq, Int.reduceLT, Int.reduceToNat, Int.reducePow, Nat.reduceLeDiff, Int.reduceLE, Nat.reduceMul, Nat.reduceSub, slotsBy, boxesBy, tipsBy, rawAt, nm, AV.ren, AV.renL, AV.under, AV.underL, List.all_nil, List.all_cons, bne_self_eq_false, List.getD_cons_zero, List.getD_cons_succ, List.length_nil, List.length_cons, and_true, true_and, slotsSub]
          · have d2 : decide (r < 128) = false := by simp; omega
            have hpl : pln ((l.take (j + 1)).map Int.toNat) = pln ((l.take j).map Int.toNat) := by
              unfold pln
              rw [htk, List.map_append, List.filter_append, List.map_singleton, List.filter_cons_of_neg (by simp; omega)]; simp
            simp only [Bool.not_true, d2, w, go_sem, Nat.reduceAdd, Nat.reduceEqDiff, Nat.reduceLT, reduceIte, reduceCtorEq, Nat.reduceBEq, Int.reduceLT, Int.reduceToNat, Int.reducePow, Nat.reduceLeDiff, Int.reduceLE, Nat.reduceMul, Nat.reduceSub]
            refine ⟨(j + 1, (u, q), tp, nx), weak_forget ?_ (List.Sublist.refl _) (List.Sublist.refl _), ⟨hj, h2', by simp only [hpl]; exact h3, h4⟩, by simp only; omega⟩
            simp only [go_sem, Nat.reduceAdd, Nat.reduceEqDiff, Nat.reduceLT, reduceIte, reduceCtorEq, Nat.reduceBEq, Int.reduceLT, Int.reduceToNat, Int.reducePow, Nat.reduceLeDiff, Int.reduceLE, Nat.reduceMul, Nat.reduceSub, slotsBy, boxesBy, tipsBy, rawAt, nm, AV.ren, AV.renL, AV.under, AV.underL, List.all_nil, List.all_cons, bne_self_eq_false, List.getD_cons_zero, List.getD_cons_succ, List.length_nil, List.length_cons, and_true, true_and, slotsSub]
      · subst hj
        rw [List.take_length] at h2 h3
        have er : encR l = (txt (encT (l.map Int.toNat)), 0) := by unfold encR; rw [if_neg hlen, if_pos (List.all_eq_true.2 h2)]
        rw [er]
        simp only [dec_irr, go_sem, Nat.reduceAdd, Nat.reduceEqDiff, Nat.reduceLT, reduceIte, reduceCtorEq, Nat.reduceBEq, Int.reduceLT, Int.reduceToNat, Int.reducePow, Nat.reduceLeDiff, Int.reduceLE, Nat.reduceMul, Nat.reduceSub]
        refine callGo_ok (len_ok (u := u) (q := q) (bs := pln (l.map Int.toNat)) (by simp only [unOb2, go_sem, Nat.reduceAdd, Nat.reduceEqDiff, Nat.reduceLT, reduceIte, reduceCtorEq, Nat.reduceBEq, Int.reduceLT, Int.reduceToNat, Int.reducePow, Nat.reduceLeDiff, Int.reduceLE, Nat.reduceMul, Nat.reduceSub]) h3 ?_)
        simp only [go_sem, Nat.reduceAdd, Nat.reduceEqDiff, Nat.reduceLT, reduceIte, reduceCtorEq, Nat.reduceBEq, Int.reduceLT, Int.reduceToNat, Int.reducePow, Nat.reduceLeDiff, Int.reduceLE, Nat.reduceMul, Nat.reduceSub]
        have hS : Scs (l.map Int.toNat) := fun x hx => by
          obtain ⟨y, hy, rfl⟩ := List.mem_map.1 hx
          have := h2 y hy
          have h0 : 0 ≤ y := by simp [isSc] at this; omega
          rw [Int.toNat_of_nonneg h0]; exact this
        have hLl : (l.map Int.toNat).length ≤ 2000 := by rw [List.length_map]; omega
        have hof : rS l none = rS (ofN (l.map Int.toNat)) none := by rw [ofN_toNat h2]
        have hpl2 := List.length_filter_le (fun x => decide (x < 128)) (l.map Int.toNat)
        rw [hof]
        obtain ⟨L, hL⟩ : ∃ L, L = l.map Int.toNat := ⟨_, rfl⟩
        rw [← hL] at h3 hS hLl hpl2
        rw [← hL]
        have hby : ∀ x ∈ encT L, x ≤ 255 := fun x hx => by
          unfold encT at hx
          rcases List.mem_append.1 hx with hx | hx
          · rcases List.mem_append.1 hx with hx | hx
            · have := (List.mem_filter.1 hx).2
              simp at this; omega
            · unfold dash at hx
              split at hx
              · cases hx
              · simp at hx; omega
          · have := txS_dig _ _ _ x hx; omega
        have hpm : (pln L).length ≤ 2000 := by unfold pln; omega
        have hdl : (pln L ++ dash (pln L)).length ≤ 1000000 := by
          have : (dash (pln L)).length ≤ 1 := by unfold dash; split <;> simp
          rw [List.length_append]; omega
        refine cGo_split (fun hc => ?_) (fun hc => ?_)
        · have hP : pln L ≠ [] := by simp only [decide_eq_true_eq] at hc; intro e; rw [e] at hc; simp at hc
          have hd : pln L ++ [45] = pln L ++ dash (pln L) := by unfold dash; rw [if_neg hP]
          simp only [go_sem, Nat.reduceAdd, Nat.reduceEqDiff, Nat.reduceLT, reduceIte, reduceCtorEq, Nat.reduceBEq, Int.reduceLT, Int.reduceToNat, Int.reducePow, Nat.reduceLeDiff, Int.reduceLE, Nat.reduceMul, Nat.reduceSub]
          refine callGo_ok (write_ok 45 (u := u) (q := q) (by simp only [unOb2, go_sem, Nat.reduceAdd, Nat.reduceEqDiff, Nat.reduceLT, reduceIte, reduceCtorEq, Nat.reduceBEq, Int.reduceLT, Int.reduceToNat, Int.reducePow, Nat.reduceLeDiff, Int.reduceLE, Nat.reduceMul, Nat.reduceSub]) h3 (by omega) fun q2 hq2 => ?_)
          rw [hd] at hq2
          obtain ⟨n, hn⟩ : ∃ n, n = nx + 2 := ⟨_, rfl⟩
          obtain ⟨tp2, ht2⟩ : ∃ t, t = [(nx + 1, 5)] := ⟨_, rfl⟩
          rw [← hn, ← ht2] at hq2
          have hn0 : 0 < n := by omega
          rw [← hn, ← ht2]
          clear hn ht2 h4 h3
          have e0 : (n = 0) = False := eq_false (by omega)
          have e1 : (n + 4 = 0) = False := eq_false (by omega)
          have e2 : (n + 3 = 0) = False := eq_false (by omega)
          have e3 : (n + 2 = 0) = False := eq_false (by omega)
          have e4 : (n + 1 = 0) = False := eq_false (by omega)
          have e5 : (n + 4 = n) = False := eq_false (by omega)
          have e6 : (n + 3 = n) = False := eq_false (by omega)
          have e7 : (n + 2 = n) = False := eq_false (by omega)
          have e8 : (n + 1 = n) = False := eq_false (by omega)
          simp only [e0, e1, e2, e3, e4, e5, e6, e7, e8, if_false, allOne, AV.one, Value.oneCell', go_sem, Nat.reduceAdd, Nat.reduceEqDiff, Nat.reduceLT, reduceIte, reduceCtorEq, Nat.reduceBEq, Int.reduceLT, Int.reduceToNat, Int.reducePow, Nat.reduceLeDiff, Int.reduceLE, Nat.reduceMul, Nat.reduceSub]
          refine callGo_walk Try.func39 c39 n39 e39 r39 (by simp) ?_
          simp only [a39, astart, argSlots, e0, e1, e2, e3, e4, e5, e6, e7, e8, if_false, allOne, AV.one, Value.oneCell', go_sem, Nat.reduceAdd, Nat.reduceEqDiff, Nat.reduceLT, reduceIte, reduceCtorEq, Nat.reduceBEq, Int.reduceLT, Int.reduceToNat, Int.reducePow, Nat.reduceLeDiff, Int.reduceLE, Nat.reduceMul, Nat.reduceSub]
          refine ⟨.inr trivial, _, by simp only [resAV, resL, resOne, go_sem, Nat.reduceAdd, Nat.reduceEqDiff, Nat.reduceLT, reduceIte, reduceCtorEq, Nat.reduceBEq, Int.reduceLT, Int.reduceToNat, Int.reducePow, Nat.reduceLeDiff, Int.reduceLE, Nat.reduceMul, Nat.reduceSub]; rfl, ?_⟩
          simp only [Nat.add_assoc, Nat.reduceAdd]
          refine rfnGo_call [4, 8, 9] _ rfl ?_
          simp only [List.nil_append, List.append_nil, List.singleton_append, List.cons_append, Nat.add_assoc, Nat.reduceAdd]
          refine steps_ok L hS.le hLl (bs := pln L ++ dash (pln L)) hn0 (bufP_mono (by omega) hq2) hdl fun many' b' f' u' q' tp' nx' hq' => ?_
          change bufP q' (encT L) tp' nx' at hq'
          simp only [rfnPost, enB, enL, e0, e1, e2, e3, e4, e5, e6, e7, e8, if_false, go_sem, Nat.reduceAdd, Nat.reduceEqDiff, Nat.reduceLT, reduceIte, reduceCtorEq, Nat.reduceBEq, Int.reduceLT, Int.reduceToNat, Int.reducePow, Nat.reduceLeDiff, Int.reduceLE, Nat.reduceMul, Nat.reduceSub]
          refine callGo_ok (string_ok (u := u') (q := q') (bs := encT L) (by simp only [e0, e1, e2, e3, e4, unOb2, go_sem, Nat.reduceAdd, Nat.reduceEqDiff, Nat.reduceLT, reduceIte, reduceCtorEq, Nat.reduceBEq, Int.reduceLT, Int.reduceToNat, Int.reducePow, Nat.reduceLeDiff, Int.reduceLE, Nat.reduceMul, Nat.reduceSub]) hq' hby ?_)
          simp only [go_sem, Nat.reduceAdd, Nat.reduceEqDiff, Nat.reduceLT, reduceIte, reduceCtorEq, Nat.reduceBEq, Int.reduceLT, Int.reduceToNat, Int.reducePow, Nat.reduceLeDiff, Int.reduceLE, Nat.reduceMul, Nat.reduceSub]
          simp only [Done, resAV, resL, resOne, look_nil, look_cons, Nat.reduceEqDiff, if_true, if_false, reduceIte, ite_true, ite_false, Nat.zero_ne_one, Nat.one_ne_zero, reduceCtorEq, true_or, or_true, true_and, Option.some.injEq, AV.lit.injEq, Value.int.injEq, Value.bool.injEq]
        · have hP : pln L = [] := by
            simp only [decide_eq_false_iff_not] at hc
            exact List.length_eq_zero_iff.1 (by omega)
          have hd : pln L = pln L ++ dash (pln L) := by unfold dash; rw [if_pos hP, List.append_nil]
          rw [hd] at h3
          obtain ⟨n, hn⟩ : ∃ n, n = nx := ⟨_, rfl⟩
          rw [← hn] at h3 h4
          rw [← hn]
          have hq2 := h3
          have hn0 := h4
          clear hn h4 h3
          have e0 : (n = 0) = False := eq_false (by omega)
          have e1 : (n + 4 = 0) = False := eq_false (by omega)
          have e2 : (n + 3 = 0) = False := eq_false (by omega)
          have e3 : (n + 2 = 0) = False := eq_false (by omega)
          have e4 : (n + 1 = 0) = False := eq_false (by omega)
          have e5 : (n + 4 = n) = False := eq_false (by omega)
          have e6 : (n + 3 = n) = False := eq_false (by omega)
          have e7 : (n + 2 = n) = False := eq_false (by omega)
          have e8 : (n + 1 = n) = False := eq_false (by omega)
          simp only [e0, e1, e2, e3, e4, e5, e6, e7, e8, if_false, allOne, AV.one, Value.oneCell', go_sem, Nat.reduceAdd, Nat.reduceEqDiff, Nat.reduceLT, reduceIte, reduceCtorEq, Nat.reduceBEq, Int.reduceLT, Int.reduceToNat, Int.reducePow, Nat.reduceLeDiff, Int.reduceLE, Nat.reduceMul, Nat.reduceSub]
          refine callGo_walk Try.func39 c39 n39 e39 r39 (by simp) ?_
          simp only [a39, astart, argSlots, e0, e1, e2, e3, e4, e5, e6, e7, e8, if_false, allOne, AV.one, Value.oneCell', go_sem, Nat.reduceAdd, Nat.reduceEqDiff, Nat.reduceLT, reduceIte, reduceCtorEq, Nat.reduceBEq, Int.reduceLT, Int.reduceToNat, Int.reducePow, Nat.reduceLeDiff, Int.reduceLE, Nat.reduceMul, Nat.reduceSub]
          refine ⟨.inr trivial, _, by simp only [resAV, resL, resOne, go_sem, Nat.reduceAdd, Nat.reduceEqDiff, Nat.reduceLT, reduceIte, reduceCtorEq, Nat.reduceBEq, Int.reduceLT, Int.reduceToNat, Int.reducePow, Nat.reduceLeDiff, Int.reduceLE, Nat.reduceMul, Nat.reduceSub]; rfl, ?_⟩
          simp only [Nat.add_assoc, Nat.reduceAdd]
          refine rfnGo_call [4, 8, 9] _ rfl ?_
          simp only [List.nil_append, List.append_nil, List.singleton_append, List.cons_append, Nat.add_assoc, Nat.reduceAdd]
          refine steps_ok L hS.le hLl (bs := pln L ++ dash (pln L)) hn0 (bufP_mono (by omega) hq2) hdl fun many' b' f' u' q' tp' nx' hq' => ?_
          change bufP q' (encT L) tp' nx' at hq'
          simp only [rfnPost, enB, enL, e0, e1, e2, e3, e4, e5, e6, e7, e8, if_false, go_sem, Nat.reduceAdd, Nat.reduceEqDiff, Nat.reduceLT, reduceIte, reduceCtorEq, Nat.reduceBEq, Int.reduceLT, Int.reduceToNat, Int.reducePow, Nat.reduceLeDiff, Int.reduceLE, Nat.reduceMul, Nat.reduceSub]
          refine callGo_ok (string_ok (u := u') (q := q') (bs := encT L) (by simp only [e0, e1, e2, e3, e4, unOb2, go_sem, Nat.reduceAdd, Nat.reduceEqDiff, Nat.reduceLT, reduceIte, reduceCtorEq, Nat.reduceBEq, Int.reduceLT, Int.reduceToNat, Int.reducePow, Nat.reduceLeDiff, Int.reduceLE, Nat.reduceMul, Nat.reduceSub]) hq' hby ?_)
          simp only [go_sem, Nat.reduceAdd, Nat.reduceEqDiff, Nat.reduceLT, reduceIte, reduceCtorEq, Nat.reduceBEq, Int.reduceLT, Int.reduceToNat, Int.reducePow, Nat.reduceLeDiff, Int.reduceLE, Nat.reduceMul, Nat.reduceSub]
          simp only [Done, resAV, resL, resOne, look_nil, look_cons, Nat.reduceEqDiff, if_true, if_false, reduceIte, ite_true, ite_false, Nat.zero_ne_one, Nat.one_ne_zero, reduceCtorEq, true_or, or_true, true_and, Option.some.injEq, AV.lit.injEq, Value.int.injEq, Value.bool.injEq]
end Go.Proofs.Ytmhpjoadfgplgaa
