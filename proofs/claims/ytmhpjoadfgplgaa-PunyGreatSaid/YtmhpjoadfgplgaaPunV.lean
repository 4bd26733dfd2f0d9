/-
Decode: the plain part, and all of it. Conditions: none.
-/
import Derived.Test.YtmhpjoadfgplgaaPunU
set_option linter.unusedSimpArgs false
set_option linter.unusedVariables false
set_option linter.unusedSectionVars false
namespace Go.Proofs.Ytmhpjoadfgplgaa
open Go Go.Ab

theorem strB_txt {p : List Nat} (h : ∀ n ∈ p, n ≤ 255) : strB (txt p) = octs p := by
  unfold strB txt octs
  rw [List.map_map]
  refine List.map_congr_left fun n hn => ?_
  have := u8_int (h n hn)
  simp only [Function.comp_apply, this]

/-- A row that grows by appends: nil, or one that may be written. -/
def outW (q : AV) (out : List Nat) (bx : List (Nat × List AV)) : Prop :=
  (q = .vx .wrap [.lit (.slice none 0 0)] ∧ out = []) ∨ ∃ id, q = .rf (.row 21 1 0 out.length) id ∧ boxAt bx id = some (cI (ofN out))

theorem app_out {q : AV} {out : List Nat} {r t : Nat} {sl : List (Nat × Option AV)} {bx : List (Nat × List AV)} {tp : List (Nat × TypeId)} {nx d : Nat} {K : State → Prop} (hq : outW q out bx) (hl : out.length ≤ 1000000)
    (hK : ∀ q' bx' nx', outP q' (out ++ [r]) bx' → outW q' (out ++ [r]) bx' → K ⟨(d, some q') :: sl, bx', tp, nx'⟩) :
    appBoth 21 4 (some q) (some (.sl 21 [[.int .i32 (r : Int)]] (some t))) (some d) ⟨sl, bx, tp, nx⟩ K := by
  have hs : ∀ bx, srcN bx 21 (.sl 21 [[.int .i32 (r : Int)]] (some t)) = some (1, [.int .i32 (r : Int)]) := fun bx => rfl
  have he : cI (ofN (out ++ [r])) = cI (ofN out) ++ [.lit (.int .i32 (r : Int))] := by simp [cI, ofN]
  rcases hq with ⟨rfl, rfl⟩ | ⟨id, rfl, hb⟩
  · have hr : rowApp bx tp 21 (.vx .wrap [.lit (.slice none 0 0)]) (.sl 21 [[.int .i32 (r : Int)]] (some t)) = some ⟨1, 0, 1, [.lit (.int .i32 (r : Int))], bx, tp, 0⟩ := by
      simp only [rowApp, hs]
      rw [if_pos ⟨by omega, by simp⟩]
      simp
    rw [appBoth_wrap, hr, appRowGo_some]
    have hX : boxAt ((nx + 0, [.lit (.int .i32 (r : Int))]) :: bx) (nx + 0) = some (cI (ofN [r])) := by simp only [boxAt, if_true]; rfl
    exact ⟨⟨by omega, by omega⟩, hK _ _ _ (.inr ⟨_, rfl, hX⟩) (.inr ⟨_, rfl, hX⟩)⟩
  · have hr : rowApp bx tp 21 (.rf (.row 21 1 0 out.length) id) (.sl 21 [[.int .i32 (r : Int)]] (some t)) = some ⟨1, out.length, 1, cI (ofN (out ++ [r])), delBox bx id, tp, 0⟩ := by
      simp only [rowApp, hs, hb]
      rw [if_pos ⟨trivial, trivial, by rw [cI_length, ofN_length]; omega⟩, Nat.mul_one, List.take_of_length_le (by rw [cI_length, ofN_length]; exact Nat.le_refl _), he]
      rfl
    rw [appBoth_row, hr, appRowGo_some]
    have hX : boxAt ((nx + 0, cI (ofN (out ++ [r]))) :: delBox bx id) (nx + 0) = some (cI (ofN (out ++ [r]))) := by simp only [boxAt, if_true, cI_unOb]
    have hlen : out.length + 1 = (out ++ [r]).length := by simp
    rw [hlen]
    exact ⟨⟨by simp; omega, by simp; omega⟩, hK _ _ _ (.inr ⟨_, rfl, hX⟩) (.inr ⟨_, rfl, hX⟩)⟩

theorem cutS_at {s : List Nat} {k : Nat} (h : lastN 45 s s.length = some k) (hk : 0 < k) : cutS s = (s.take k, s.drop (k + 1)) := by
  unfold cutS; rw [h]; simp only [if_pos hk]
theorem cutS_no {s : List Nat} (h : ¬ 0 < lastI 45 s) : cutS s = ([], s) := by
  unfold cutS; unfold lastI at h
  cases hl : lastN 45 s s.length with
  | none => rfl
  | some k =>
    rw [hl] at h
    simp only at h ⊢
    rw [if_neg (by omega)]
theorem decR_eq {s : List Nat} (h : ¬ 10000 < s.length) : decR s = decO (decT s) := by
  unfold decR decO; rw [if_neg h]; cases decT s <;> rfl
theorem decT_ok {s : List Nat} (h : ∀ x ∈ (cutS s).1, x < 128) : decT s = dcd (cutS s).2 (cutS s).1 128 0 72 true := by
  unfold decT; rw [if_pos (by simpa using h)]
theorem decT_bad {s : List Nat} {x : Nat} (hx : x ∈ (cutS s).1) (h : ¬ x < 128) : decT s = none := by
  unfold decT; rw [if_neg]
  intro hc
  have := List.all_eq_true.1 hc x hx
  simp at this; omega

set_option maxRecDepth 10000 in
set_option maxHeartbeats 1000000 in
theorem Decode_pure (s : List Nat) (hs : ∀ n ∈ s, n ≤ 255) (hl : s.length ≤ 1099511627776) : Pure Try.prog 17 [.lit (.string (txt s))] [] (decA (decR s)) := by
  refine pure0W Try.func17 c17 n17 e17 r17 (by simp) (by rfl) ?_
  simp only [a17, astart, argSlots, txt_size, go_sem, Nat.reduceAdd, Nat.reduceEqDiff, Nat.reduceLT, reduceIte, reduceCtorEq, Nat.reduceBEq, Int.reduceLT, Int.reduceToNat, Int.reducePow, Nat.reduceLeDiff, Int.reduceLE, Nat.reduceMul, Nat.reduceSub]
  by_cases hlen : 10000 < s.length
  · have d1 : decide ((s.length : Int) > 10000) = true := by simp; omega
    have er : decR s = ([], 41) := by unfold decR; rw [if_pos hlen]
    simp only [d1, er, go_sem, Nat.reduceAdd, Nat.reduceEqDiff, Nat.reduceLT, reduceIte, reduceCtorEq, Nat.reduceBEq, Int.reduceLT, Int.reduceToNat, Int.reducePow, Nat.reduceLeDiff, Int.reduceLE, Nat.reduceMul, Nat.reduceSub]
    exact fin_out (c := []) (.inr rfl) (by decide) (by simp only [Ab.look, Nat.reduceEqDiff, if_true, if_false]) (.inl ⟨rfl, rfl⟩) (by simp only [Ab.look, Nat.reduceEqDiff, if_true, if_false])
  · have d1 : decide ((s.length : Int) > 10000) = false := by simp; omega
    rw [decR_eq hlen]
    simp only [d1, go_sem, Nat.reduceAdd, Nat.reduceEqDiff, Nat.reduceLT, reduceIte, reduceCtorEq, Nat.reduceBEq, Int.reduceLT, Int.reduceToNat, Int.reducePow, Nat.reduceLeDiff, Int.reduceLE, Nat.reduceMul, Nat.reduceSub]
    refine callGo_pure (lastIx_pure s 45 hs hl) (by rfl) ?_
    simp only [go_sem, Nat.reduceAdd, Nat.reduceEqDiff, Nat.reduceLT, reduceIte, reduceCtorEq, Nat.reduceBEq, Int.reduceLT, Int.reduceToNat, Int.reducePow, Nat.reduceLeDiff, Int.reduceLE, Nat.reduceMul, Nat.reduceSub]
    refine cGo_split (fun hc => ?_) (fun hc => ?_)
    · simp only [decide_eq_true_eq] at hc
      obtain ⟨k, hk, hk0⟩ : ∃ k, lastN 45 s s.length = some k ∧ 0 < k := by
        unfold lastI at hc
        cases h : lastN 45 s s.length with
        | none => rw [h] at hc; simp at hc
        | some k => rw [h] at hc; simp at hc; exact ⟨k, rfl, hc⟩
      have eI : lastI 45 s = (k : Int) := by unfold lastI; rw [hk]
      have hkl := (lastN_some hk).1
      have hcut := cutS_at hk hk0
      rw [eI]
      have htk : (txt s).extract 0 k = txt (s.take k) := by rw [txt_slice, List.drop_zero]
      obtain ⟨p, hp⟩ : ∃ p, p = s.take k := ⟨_, rfl⟩
      have hpl : p.length = k := by rw [hp, List.length_take]; omega
      have hp255 : ∀ n ∈ p, n ≤ 255 := fun n hn => hs n (List.mem_of_mem_take (hp ▸ hn))
      rw [← hp] at htk hcut
      simp only [txt_size, hkl, Nat.le_of_lt hkl, htk, strB_txt hp255, octs_length, hpl, go_sem, Nat.reduceAdd, Nat.reduceEqDiff, Nat.reduceLT, reduceIte, reduceCtorEq, Nat.reduceBEq, Int.reduceLT, Int.reduceToNat, Int.reducePow, Nat.reduceLeDiff, Int.reduceLE, Nat.reduceMul, Nat.reduceSub]
      have hz : (0 ≤ k) = True := by simp
      simp only [hz, htk, strB_txt hp255, octs_length, hpl, if_true, go_sem, Nat.reduceAdd, Nat.reduceEqDiff, Nat.reduceLT, reduceIte, reduceCtorEq, Nat.reduceBEq, Int.reduceLT, Int.reduceToNat, Int.reducePow, Nat.reduceLeDiff, Int.reduceLE, Nat.reduceMul, Nat.reduceSub]
      refine loop_by (α := Nat × AV × List (Nat × List AV) × Nat) (fun x => ⟨[(0, some (.lit (.string (txt s)))), (4, some x.2.1), (5, some (.lit (.int .i64 (k : Int)))), (26, some (.sl 5 (octs p) none)), (27, some (.lit (.int .i64 (k : Int)))), (28, some (.lit (.int .i64 ((x.1 : Nat) : Int))))], x.2.2.1, [], x.2.2.2⟩)
        (fun x => x.1 ≤ k ∧ (∀ y ∈ p.take x.1, y < 128) ∧ outW x.2.1 (p.take x.1) x.2.2.1 ∧ (0 < x.1 → outP x.2.1 (p.take x.1) x.2.2.1)) (fun x => k - x.1) (fun x y h => by
          have := congrArg (cnt 28) h
          simp [cnt, Ab.look] at this
          rw [this]) (0, .vx .wrap [.lit (.slice none 0 0)], [], 0) ((weak_wrap 4 (av := .lit (.slice none 0 0)) (by simp only [Ab.look, Nat.reduceEqDiff, if_true, if_false]) (.inl rfl)).trans (weak_forget ?_ (List.Sublist.refl _) (List.Sublist.refl _))) ⟨by simp, by simp, .inl ⟨rfl, rfl⟩, by simp⟩ ?_
      · simp only [go_sem, Nat.reduceAdd, Nat.reduceEqDiff, Nat.reduceLT, reduceIte, reduceCtorEq, Nat.reduceBEq, Int.reduceLT, Int.reduceToNat, Int.reducePow, Nat.reduceLeDiff, Int.reduceLE, Nat.reduceMul, Nat.reduceSub, slotsBy, boxesBy, tipsBy, rawAt, nm, AV.ren, AV.renL, AV.under, AV.underL, List.all_nil, List.all_cons, bne_self_eq_false, List.getD_cons_zero, List.getD_cons_succ, List.length_nil, List.length_cons, and_true, true_and, slotsSub, Int.natCast_zero]
      · rintro ⟨j, q, bx, nx⟩ ⟨h1, h2, h3, h4⟩
        simp only at h1 h2 h3 h4
        simp only [go_sem, Nat.reduceAdd, Nat.reduceEqDiff, Nat.reduceLT, reduceIte, reduceCtorEq, Nat.reduceBEq, Int.reduceLT, Int.reduceToNat, Int.reducePow, Nat.reduceLeDiff, Int.reduceLE, Nat.reduceMul, Nat.reduceSub]
        rcases Nat.lt_or_eq_of_le h1 with hj | hj
        · have hjp : j < p.length := by omega
          have w : IntKind.i64.wrap ((j : Int) + 1) = ((j + 1 : Nat) : Int) := by rw [wrap_i64 _ (by omega) (by omega)]; omega
          have htk2 : p.take (j + 1) = p.take j ++ [p[j]] := List.take_succ_eq_append_getElem hjp
          have hmem := List.getElem_mem hjp
          have hml := List.length_take_le j p
          simp only [dec_lt hj, hj, octs_get p j hjp, go_sem, Nat.reduceAdd, Nat.reduceEqDiff, Nat.reduceLT, reduceIte, reduceCtorEq, Nat.reduceBEq, Int.reduceLT, Int.reduceToNat, Int.reducePow, Nat.reduceLeDiff, Int.reduceLE, Nat.reduceMul, Nat.reduceSub]
          generalize p[j] = y at *
          by_cases hy : y < 128
          · have d2 : decide ((y : Int) ≥ 128) = false := by simp; omega
            have w2 : IntKind.i32.wrap (y : Int) = (y : Int) := wrap_i32 _ (by omega) (by omega)
            simp only [d2, w2, go_sem, Nat.reduceAdd, Nat.reduceEqDiff, Nat.reduceLT, reduceIte, reduceCtorEq, Nat.reduceBEq, Int.reduceLT, Int.reduceToNat, Int.reducePow, Nat.reduceLeDiff, Int.reduceLE, Nat.reduceMul, Nat.reduceSub]
            refine app_out h3 (by omega) fun q' bx' nx' hp' hw' => ?_
            rw [← htk2] at hp' hw'
            simp only [w, go_sem, Nat.reduceAdd, Nat.reduceEqDiff, Nat.reduceLT, reduceIte, reduceCtorEq, Nat.reduceBEq, Int.reduceLT, Int.reduceToNat, Int.reducePow, Nat.reduceLeDiff, Int.reduceLE, Nat.reduceMul, Nat.reduceSub]
            refine ⟨(j + 1, q', bx', nx'), weak_forget ?_ (List.Sublist.refl _) (List.nil_sublist _), ⟨hj, ?_, hw', fun _ => hp'⟩, by simp only; omega⟩
            · simp only [go_sem, Nat.reduceAdd, Nat.reduceEqDiff, Nat.reduceLT, reduceIte, reduceCtorEq, Nat.reduceBEq, Int.reduceLT, Int.reduceToNat, Int.reducePow, Nat.reduceLeDiff, Int.reduceLE, Nat.reduceMul, Nat.reduceSub, slotsBy, boxesBy, tipsBy, rawAt, nm, AV.ren, AV.renL, AV.under, AV.underL, List.all_nil, List.all_cons, bne_self_eq_false, List.getD_cons_zero, List.getD_cons_succ, List.length_nil, List.length_cons, and_true, true_and, slotsSub]
            · intro z hz
              simp only at hz
              rw [htk2] at hz
              rcases List.mem_append.1 hz with hz | hz
              · exact h2 z hz
              · simp at hz; omega
          · have d2 : decide ((y : Int) ≥ 128) = true := by simp; omega
            have e2 : decT s = none := decT_bad (x := y) (by rw [hcut]; exact hmem) hy
            rw [e2]
            simp only [d2, go_sem, Nat.reduceAdd, Nat.reduceEqDiff, Nat.reduceLT, reduceIte, reduceCtorEq, Nat.reduceBEq, Int.reduceLT, Int.reduceToNat, Int.reducePow, Nat.reduceLeDiff, Int.reduceLE, Nat.reduceMul, Nat.reduceSub]
            exact fin_out (c := []) (.inr rfl) (by decide) (by simp only [Ab.look, Nat.reduceEqDiff, if_true, if_false]) (.inl ⟨rfl, rfl⟩) (by simp only [Ab.look, Nat.reduceEqDiff, if_true, if_false])
        · subst hj
          rw [← hpl, List.take_length] at h2 h4
          rw [hpl] at h4
          have e2 : decT s = dcd (s.drop (j + 1)) p 128 0 72 true := by
            have := decT_ok (s := s) (by rw [hcut]; exact h2)
            rw [this, hcut]
          rw [e2]
          have w : IntKind.i64.wrap ((j : Int) + 1) = ((j + 1 : Nat) : Int) := by rw [wrap_i64 _ (by omega) (by omega)]; omega
          have hle : j + 1 ≤ s.length := by omega
          simp only [dec_irr, w, txt_size, hle, Nat.le_refl, txt_tail, if_true, go_sem, Nat.reduceAdd, Nat.reduceEqDiff, Nat.reduceLT, reduceIte, reduceCtorEq, Nat.reduceBEq, Int.reduceLT, Int.reduceToNat, Int.reducePow, Nat.reduceLeDiff, Int.reduceLE, Nat.reduceMul, Nat.reduceSub]
          exact dec_tail (fun n hn => hs n (List.mem_of_mem_drop hn)) (by rw [List.length_drop]; omega) (h4 hk0) (by simp only [Ab.look, Nat.reduceEqDiff, if_true, if_false]) (by simp only [Ab.look, Nat.reduceEqDiff, if_true, if_false])
    · simp only [decide_eq_false_iff_not] at hc
      have hcut := cutS_no (s := s) (by omega)
      have e2 : decT s = dcd s [] 128 0 72 true := by
        have := decT_ok (s := s) (by rw [hcut]; simp)
        rw [this, hcut]
      rw [e2]
      simp only [go_sem, Nat.reduceAdd, Nat.reduceEqDiff, Nat.reduceLT, reduceIte, reduceCtorEq, Nat.reduceBEq, Int.reduceLT, Int.reduceToNat, Int.reducePow, Nat.reduceLeDiff, Int.reduceLE, Nat.reduceMul, Nat.reduceSub]
      exact dec_tail hs (by simp; omega) (.inl ⟨rfl, rfl⟩) (by simp only [Ab.look, Nat.reduceEqDiff, if_true, if_false]) (by simp only [Ab.look, Nat.reduceEqDiff, if_true, if_false])
end Go.Proofs.Ytmhpjoadfgplgaa
