/-
The steps of a row, one by one. Conditions: none.
-/
import Derived.Test.YtmhpjoadfgplgaaPunK
set_option linter.unusedSimpArgs false
set_option linter.unusedVariables false
set_option linter.unusedSectionVars false
namespace Go.Proofs.Ytmhpjoadfgplgaa
open Go Go.Ab

theorem ofN_get {L : List Nat} {i : Nat} (h : i < L.length) : (runes (ofN L))[i]? = some [.int .i32 ((L[i] : Nat) : Int)] := by
  rw [runes_get _ _ (by rw [ofN_length]; exact h)]
  simp [ofN]

theorem callGo_yieldOK {P : Program} {id : Nat} {args : List AV} {bx : List (Nat × List AV)} {tp : List (Nat × TypeId)} {nx : Nat} {sl : List (Nat × Option AV)} {d : Option Nat} {K : State → Prop} (h : YieldOK P id args bx tp nx fun r bx tp nx => K (State.put ⟨sl, bx, tp, nx⟩ d r)) : callGo P (some (.rf .yield id)) (some args) d ⟨sl, bx, tp, nx⟩ K := h

theorem txS_len : ∀ (ops : List (Nat × Nat)) (n i h b : Nat) (f : Bool), okO n i h ops → (∀ x ∈ ops, x.1 ≤ 1114111) → h + ops.length ≤ 10000 → (txS b f (dls n i h ops)).length ≤ 13 * ops.length
  | [], _, _, _, _, _, _, _, _ => by simp [dls, txS]
  | (m, p) :: r, n, i, h, b, f, hok, hm, hl => by
    obtain ⟨h1, h2, h3⟩ := hok
    have hm1 : m ≤ 1114111 := hm (m, p) (by simp)
    simp only [List.length_cons] at hl
    have hd : (m - n) * (h + 1) ≤ 1114111 * 10001 := Nat.mul_le_mul (by omega) (by omega)
    have h4 := dgs_length 12 1 ((m - n) * (h + 1) + p - i) b (by omega)
    have h5 := txS_len r m (p + 1) (h + 1) (adp ((m - n) * (h + 1) + p - i) (h + 1) f) false h3 (fun x hx => hm x (by simp [hx])) (by omega)
    rw [dls, txS, List.length_append, List.length_cons]
    have h6 : (stepS ((m - n) * (h + 1) + p - i) b).length ≤ 13 := by unfold stepS; rw [List.length_map]; exact h4
    omega
theorem adp_le2 {d h : Nat} (f : Bool) (hd : d ≤ 1099511627776) : adp d h f ≤ 1000 := by have := adp_le (h := h) f hd; omega

set_option maxRecDepth 10000 in
set_option maxHeartbeats 1000000 in
theorem steps_ok (L : List Nat) (hL : ∀ x ∈ L, x ≤ 1114111) (hl : L.length ≤ 2000) {n : Nat} {u : Bool} {q : AV} {bs : List Nat} {tp : List (Nat × TypeId)} {nx : Nat} {K : AV → List (Nat × List AV) → List (Nat × TypeId) → Nat → Prop} (hn : 0 < n) (hq : bufP q bs tp nx) (hlb : bs.length ≤ 1000000)
    (hK : ∀ many' b' f' u' q' tp' nx', bufP q' (bs ++ txS 72 true (dls 128 0 (L.filter fun x => decide (x < 128)).length (opsF L 128))) tp' nx' → K (.tu []) (enB L n many' b' f' u' q') tp' nx') :
    CallOK Try.prog 73 [.rf .yield (n + 4), .bp (n + 3) 0, .bp (n + 2) 0] (enB L n (L.filter fun x => decide (x < 128)).length 72 true u q) tp nx K := by
  refine callOK_walk Try.func73 c73 n73 e73 r73 (by simp) ?_
  have e0 : (n = 0) = False := eq_false (by omega)
  have e1 : (n + 4 = 0) = False := eq_false (by omega)
  have e2 : (n + 3 = 0) = False := eq_false (by omega)
  have e3 : (n + 2 = 0) = False := eq_false (by omega)
  have e4 : (n + 1 = 0) = False := eq_false (by omega)
  have e5 : (n + 4 = n) = False := eq_false (by omega)
  have e6 : (n + 3 = n) = False := eq_false (by omega)
  have e7 : (n + 2 = n) = False := eq_false (by omega)
  have e8 : (n + 1 = n) = False := eq_false (by omega)
  have hbm : ∀ many b f u q, boxAt (enB L n many b f u q) (n + 3) = some [.lit (.int .i64 (many : Int))] := fun many b f u q => by simp only [enB, e6, e7, e8, if_false, go_sem, Nat.reduceAdd, Nat.reduceEqDiff, Nat.reduceLT, reduceIte, reduceCtorEq, Nat.reduceBEq, Int.reduceLT, Int.reduceToNat, Int.reducePow, Nat.reduceLeDiff, Int.reduceLE, Nat.reduceMul, Nat.reduceSub]
  have hbl : ∀ many b f u q, boxAt (enB L n many b f u q) (n + 2) = some [rS (ofN L) none] := fun many b f u q => by simp only [enB, e6, e7, e8, if_false, go_sem, Nat.reduceAdd, Nat.reduceEqDiff, Nat.reduceLT, reduceIte, reduceCtorEq, Nat.reduceBEq, Int.reduceLT, Int.reduceToNat, Int.reducePow, Nat.reduceLeDiff, Int.reduceLE, Nat.reduceMul, Nat.reduceSub]
  have hsm : ∀ many many' b f u q, setBox (enB L n many b f u q) (n + 3) [.lit (.int .i64 ((many' : Nat) : Int))] = enB L n many' b f u q := fun many many' b f u q => by simp only [enB, e6, e7, e8, if_false, go_sem, Nat.reduceAdd, Nat.reduceEqDiff, Nat.reduceLT, reduceIte, reduceCtorEq, Nat.reduceBEq, Int.reduceLT, Int.reduceToNat, Int.reducePow, Nat.reduceLeDiff, Int.reduceLE, Nat.reduceMul, Nat.reduceSub]
  obtain ⟨total, htot⟩ : ∃ t, t = txS 72 true (dls 128 0 (L.filter fun x => decide (x < 128)).length (opsF L 128)) := ⟨_, rfl⟩
  rw [← htot] at hK
  have htl : total.length ≤ 26000 := by
    have h0 := opsF_length L hL
    have h1 := txS_len (opsF L 128) 128 0 (L.filter fun x => decide (x < 128)).length 72 true (ok_opsF L) (fun x hx => hL _ (opsF_mem hx)) (by omega)
    rw [htot]; omega
  simp only [a73, astart, argSlots, go_sem, Nat.reduceAdd, Nat.reduceEqDiff, Nat.reduceLT, reduceIte, reduceCtorEq, Nat.reduceBEq, Int.reduceLT, Int.reduceToNat, Int.reducePow, Nat.reduceLeDiff, Int.reduceLE, Nat.reduceMul, Nat.reduceSub]
  refine loop_by (α := (Nat × Nat × Nat × Nat × Nat) × (Nat × Bool × List Nat) × (Bool × AV) × List (Nat × TypeId) × Nat)
    (fun x => ⟨[(0, some (.rf .yield (n + 4))), (1, some (.bp (n + 3) 0)), (2, some (.bp (n + 2) 0)), (4, some (.lit (.int .i32 ((x.1.1 : Nat) : Int)))), (5, some (.lit (.int .i64 ((x.1.2.1 : Nat) : Int))))], enB L n x.1.2.2.1 x.2.1.1 x.2.1.2.1 x.2.2.1.1 x.2.2.1.2, x.2.2.2.1, x.2.2.2.2⟩)
    (fun x => x.2.1.2.2 ++ txS x.2.1.1 x.2.1.2.1 (dls x.1.2.2.2.1 x.1.2.2.2.2 x.1.2.2.1 (opsF L x.1.1)) = total ∧ x.1.2.2.2.2 + x.1.2.1 = (x.1.1 - x.1.2.2.2.1) * (x.1.2.2.1 + 1) ∧ x.1.2.2.2.1 ≤ x.1.1 ∧ x.1.2.2.1 = (L.filter fun y => decide (y < x.1.1)).length ∧ x.1.1 ≤ 1114112 ∧ bufP x.2.2.1.2 (bs ++ x.2.1.2.2) x.2.2.2.1 x.2.2.2.2 ∧ x.2.1.1 ≤ 1000)
    (fun x => 1114112 - x.1.1) (fun x y h => by
      have := congrArg (cnt 4) h
      simp [cnt, Ab.look] at this
      rw [this]) ((128, 0, (L.filter fun x => decide (x < 128)).length, 128, 0), (72, true, []), (u, q), tp, nx) (weak_forget ?_ (List.Sublist.refl _) (List.Sublist.refl _)) ⟨by simp [htot], by simp, by simp, rfl, by simp, by simpa using hq, by simp⟩ ?_
  · simp only [go_sem, Nat.reduceAdd, Nat.reduceEqDiff, Nat.reduceLT, reduceIte, reduceCtorEq, Nat.reduceBEq, Int.reduceLT, Int.reduceToNat, Int.reducePow, Nat.reduceLeDiff, Int.reduceLE, Nat.reduceMul, Nat.reduceSub, slotsBy, boxesBy, tipsBy, rawAt, nm, AV.ren, AV.renL, AV.under, AV.underL, List.all_nil, List.all_cons, bne_self_eq_false, List.getD_cons_zero, List.getD_cons_succ, List.length_nil, List.length_cons, and_true, true_and, slotsSub, Int.natCast_zero]
    exact rfl
  · rintro ⟨⟨v, d, many, n0, i0⟩, ⟨b, f, acc⟩, ⟨u1, q1⟩, tp1, nx1⟩ ⟨h1, h2, h3, h4, h5, h6, h7⟩
    simp only at h1 h2 h3 h4 h5 h6 h7
    have hml : many ≤ L.length := by rw [h4]; exact List.length_filter_le _ _
    simp only [hbm, hbl, ofN_length, go_sem, Nat.reduceAdd, Nat.reduceEqDiff, Nat.reduceLT, reduceIte, reduceCtorEq, Nat.reduceBEq, Int.reduceLT, Int.reduceToNat, Int.reducePow, Nat.reduceLeDiff, Int.reduceLE, Nat.reduceMul, Nat.reduceSub]
    rcases Nat.lt_or_eq_of_le hml with hlt | heq
    · simp only [dec_lt hlt, hbm, hbl, ofN_length, go_sem, Nat.reduceAdd, Nat.reduceEqDiff, Nat.reduceLT, reduceIte, reduceCtorEq, Nat.reduceBEq, Int.reduceLT, Int.reduceToNat, Int.reducePow, Nat.reduceLeDiff, Int.reduceLE, Nat.reduceMul, Nat.reduceSub]
      obtain ⟨x0, hx0, hx1⟩ : ∃ x ∈ L, v ≤ x := by
        apply Classical.byContradiction
        intro hc
        have : ∀ x ∈ L, x < v := fun x hx => Nat.lt_of_not_le fun h => hc ⟨x, hx, h⟩
        rw [List.filter_eq_self.2 (by simpa using this)] at h4
        omega
      have hv : v ≤ 1114111 := by have := hL x0 hx0; omega
      refine loop_by (α := Nat × Nat)
        (fun y => ⟨[(0, some (.rf .yield (n + 4))), (1, some (.bp (n + 3) 0)), (2, some (.bp (n + 2) 0)), (4, some (.lit (.int .i32 ((v : Nat) : Int)))), (5, some (.lit (.int .i64 ((d : Nat) : Int)))), (6, some (.lit (.int .i32 ((y.2 : Nat) : Int)))), (15, some (rS (ofN L) none)), (16, some (.lit (.int .i64 (L.length : Int)))), (17, some (.lit (.int .i64 ((y.1 : Nat) : Int))))], enB L n many b f u1 q1, tp1, nx1⟩)
        (fun y => y.1 ≤ L.length ∧ v ≤ y.2 ∧ y.2 ≤ 1114111 ∧ (∀ x ∈ L.take y.1, v ≤ x → y.2 ≤ x) ∧ (y.2 ∈ L ∨ y.2 = 1114111)) (fun y => L.length - y.1) (fun x y h => by
          have := congrArg (cnt 17) h
          simp [cnt, Ab.look] at this
          rw [this]) (0, 1114111) (weak_forget ?_ (List.Sublist.refl _) (List.Sublist.refl _)) ⟨by simp, hv, by simp, by simp, by simp⟩ ?_
      · simp only [go_sem, Nat.reduceAdd, Nat.reduceEqDiff, Nat.reduceLT, reduceIte, reduceCtorEq, Nat.reduceBEq, Int.reduceLT, Int.reduceToNat, Int.reducePow, Nat.reduceLeDiff, Int.reduceLE, Nat.reduceMul, Nat.reduceSub, slotsBy, boxesBy, tipsBy, rawAt, nm, AV.ren, AV.renL, AV.under, AV.underL, List.all_nil, List.all_cons, bne_self_eq_false, List.getD_cons_zero, List.getD_cons_succ, List.length_nil, List.length_cons, and_true, true_and, slotsSub, Int.natCast_zero]
        exact rfl
      · rintro ⟨j, m⟩ ⟨g1, g2, g3, g4, g5⟩
        simp only at g1 g2 g3 g4 g5
        simp only [go_sem, Nat.reduceAdd, Nat.reduceEqDiff, Nat.reduceLT, reduceIte, reduceCtorEq, Nat.reduceBEq, Int.reduceLT, Int.reduceToNat, Int.reducePow, Nat.reduceLeDiff, Int.reduceLE, Nat.reduceMul, Nat.reduceSub]
        rcases Nat.lt_or_eq_of_le g1 with hj | hj
        · have w : IntKind.i64.wrap ((j : Int) + 1) = ((j + 1 : Nat) : Int) := by rw [wrap_i64 _ (by omega) (by omega)]; omega
          have htk : L.take (j + 1) = L.take j ++ [L[j]] := List.take_succ_eq_append_getElem hj
          have hjL := List.getElem_mem hj
          simp only [dec_lt hj, hj, ofN_get hj, go_sem, Nat.reduceAdd, Nat.reduceEqDiff, Nat.reduceLT, reduceIte, reduceCtorEq, Nat.reduceBEq, Int.reduceLT, Int.reduceToNat, Int.reducePow, Nat.reduceLeDiff, Int.reduceLE, Nat.reduceMul, Nat.reduceSub]
          generalize L[j] = r at *
          by_cases hr : v ≤ r
          · have d1 : decide ((r : Int) ≥ (v : Int)) = true := by simp; omega
            have hmn : (if (r : Int) < (m : Int) then (r : Int) else (m : Int)) = ((min m r : Nat) : Int) := by split <;> omega
            simp only [d1, hmn, w, go_sem, Nat.reduceAdd, Nat.reduceEqDiff, Nat.reduceLT, reduceIte, reduceCtorEq, Nat.reduceBEq, Int.reduceLT, Int.reduceToNat, Int.reducePow, Nat.reduceLeDiff, Int.reduceLE, Nat.reduceMul, Nat.reduceSub]
            refine ⟨(j + 1, min m r), weak_forget ?_ (List.Sublist.refl _) (List.Sublist.refl _), ⟨hj, by simp only; omega, by simp only; omega, ?_, ?_⟩, by simp only; omega⟩
            · simp only [go_sem, Nat.reduceAdd, Nat.reduceEqDiff, Nat.reduceLT, reduceIte, reduceCtorEq, Nat.reduceBEq, Int.reduceLT, Int.reduceToNat, Int.reducePow, Nat.reduceLeDiff, Int.reduceLE, Nat.reduceMul, Nat.reduceSub, slotsBy, boxesBy, tipsBy, rawAt, nm, AV.ren, AV.renL, AV.under, AV.underL, List.all_nil, List.all_cons, bne_self_eq_false, List.getD_cons_zero, List.getD_cons_succ, List.length_nil, List.length_cons, and_true, true_and, slotsSub]
            · intro x hx hvx
              rw [htk] at hx
              rcases List.mem_append.1 hx with hx | hx
              · have := g4 x hx hvx; simp only; omega
              · simp at hx; simp only; omega
            · simp only
              rcases Nat.lt_or_ge r m with hrm | hrm
              · rw [Nat.min_eq_right (by omega)]; exact .inl hjL
              · rw [Nat.min_eq_left hrm]; exact g5
          · have d1 : decide ((r : Int) ≥ (v : Int)) = false := by simp; omega
            simp only [d1, w, go_sem, Nat.reduceAdd, Nat.reduceEqDiff, Nat.reduceLT, reduceIte, reduceCtorEq, Nat.reduceBEq, Int.reduceLT, Int.reduceToNat, Int.reducePow, Nat.reduceLeDiff, Int.reduceLE, Nat.reduceMul, Nat.reduceSub]
            refine ⟨(j + 1, m), weak_forget ?_ (List.Sublist.refl _) (List.Sublist.refl _), ⟨hj, g2, g3, ?_, g5⟩, by simp only; omega⟩
            · simp only [go_sem, Nat.reduceAdd, Nat.reduceEqDiff, Nat.reduceLT, reduceIte, reduceCtorEq, Nat.reduceBEq, Int.reduceLT, Int.reduceToNat, Int.reducePow, Nat.reduceLeDiff, Int.reduceLE, Nat.reduceMul, Nat.reduceSub, slotsBy, boxesBy, tipsBy, rawAt, nm, AV.ren, AV.renL, AV.under, AV.underL, List.all_nil, List.all_cons, bne_self_eq_false, List.getD_cons_zero, List.getD_cons_succ, List.length_nil, List.length_cons, and_true, true_and, slotsSub]
            · intro x hx hvx
              rw [htk] at hx
              rcases List.mem_append.1 hx with hx | hx
              · exact g4 x hx hvx
              · simp at hx; omega
        · subst hj
          rw [List.take_length] at g4
          have hgap : ∀ x ∈ L, ¬ (v ≤ x ∧ x < v + (m - v)) := fun x hx hc => by have := g4 x hx hc.1; omega
          have hskip := opsF_skip L (m - v) v (by omega) hgap
          rw [show v + (m - v) = m by omega] at hskip
          rw [hskip, opsF_cons L (by omega)] at h1
          have hmany : many = (L.filter fun y => decide (y < m)).length := by
            rw [h4]
            congr 1
            refine List.filter_congr fun x hx => ?_
            have := hgap x hx
            simp only [decide_eq_decide]
            omega
          have hb1 : (m - v) * (many + 1) ≤ 1114111 * 2001 := Nat.mul_le_mul (by omega) (by omega)
          have hb2 : (v - n0) * (many + 1) ≤ 1114112 * 2001 := Nat.mul_le_mul (by omega) (by omega)
          have wA : IntKind.i32.wrap ((m : Int) - (v : Int)) = ((m - v : Nat) : Int) := by rw [wrap_i32 _ (by omega) (by omega)]; omega
          have wA2 : IntKind.i64.wrap ((m - v : Nat) : Int) = ((m - v : Nat) : Int) := wrapN _ (by omega)
          have wB : IntKind.i64.wrap ((many : Int) + 1) = ((many + 1 : Nat) : Int) := by rw [wrap_i64 _ (by omega) (by omega)]; omega
          have wC : IntKind.i64.wrap (((m - v : Nat) : Int) * ((many + 1 : Nat) : Int)) = (((m - v) * (many + 1) : Nat) : Int) := by rw [← Int.natCast_mul]; exact wrapN _ (by omega)
          have wD : IntKind.i64.wrap ((d : Int) + (((m - v) * (many + 1) : Nat) : Int)) = ((d + (m - v) * (many + 1) : Nat) : Int) := by rw [← Int.natCast_add]; exact wrapN _ (by omega)
          have hd' : i0 + (d + (m - v) * (many + 1)) = (m - n0) * (many + 1) := by
            rw [← Nat.add_assoc, h2, ← Nat.add_mul]
            congr 1; omega
          simp only [dec_irr, hbm, hbl, ofN_length, wA, wA2, wB, wC, wD, go_sem, Nat.reduceAdd, Nat.reduceEqDiff, Nat.reduceLT, reduceIte, reduceCtorEq, Nat.reduceBEq, Int.reduceLT, Int.reduceToNat, Int.reducePow, Nat.reduceLeDiff, Int.reduceLE, Nat.reduceMul, Nat.reduceSub]
          refine loop_by (α := (Nat × Nat × Nat × Nat × Nat) × (Nat × Bool × List Nat) × (Bool × AV) × List (Nat × TypeId) × Nat)
            (fun x => ⟨[(0, some (.rf .yield (n + 4))), (1, some (.bp (n + 3) 0)), (2, some (.bp (n + 2) 0)), (4, some (.lit (.int .i32 ((m : Nat) : Int)))), (5, some (.lit (.int .i64 ((x.1.2.1 : Nat) : Int)))), (38, some (rS (ofN L) none)), (39, some (.lit (.int .i64 (L.length : Int)))), (40, some (.lit (.int .i64 ((x.1.1 : Nat) : Int))))], enB L n x.1.2.2.1 x.2.1.1 x.2.1.2.1 x.2.2.1.1 x.2.2.1.2, x.2.2.2.1, x.2.2.2.2⟩)
            (fun x => (x.2.1.2.2 ++ txS x.2.1.1 x.2.1.2.1 (dls x.1.2.2.2.1 x.1.2.2.2.2 x.1.2.2.1 (rowS m (cntL m (L.take x.1.1)) (L.drop x.1.1) ++ opsF L (m + 1))) = total ∧ x.1.2.2.2.2 + x.1.2.1 = (m - x.1.2.2.2.1) * (x.1.2.2.1 + 1) + cntL m (L.take x.1.1)) ∧ x.1.2.2.2.1 ≤ m ∧ x.1.2.2.1 = cntL m (L.take x.1.1) + ((L.drop x.1.1).filter fun y => decide (y < m)).length ∧ x.1.1 ≤ L.length ∧ bufP x.2.2.1.2 (bs ++ x.2.1.2.2) x.2.2.2.1 x.2.2.2.2 ∧ x.2.1.1 ≤ 1000)
            (fun x => L.length - x.1.1) (fun x y h => by
              have := congrArg (cnt 40) h
              simp [cnt, Ab.look] at this
              rw [this]) ((0, d + (m - v) * (many + 1), many, n0, i0), (b, f, acc), (u1, q1), tp1, nx1) (weak_forget ?_ (List.Sublist.refl _) (List.Sublist.refl _)) ⟨⟨by simpa [cntL_nil] using h1, by simp only [List.take_zero, cntL_nil]; omega⟩, by simp only; omega, by simpa [cntL_nil] using hmany, by simp, h6, h7⟩ ?_
          · simp only [go_sem, Nat.reduceAdd, Nat.reduceEqDiff, Nat.reduceLT, reduceIte, reduceCtorEq, Nat.reduceBEq, Int.reduceLT, Int.reduceToNat, Int.reducePow, Nat.reduceLeDiff, Int.reduceLE, Nat.reduceMul, Nat.reduceSub, slotsBy, boxesBy, tipsBy, rawAt, nm, AV.ren, AV.renL, AV.under, AV.underL, List.all_nil, List.all_cons, bne_self_eq_false, List.getD_cons_zero, List.getD_cons_succ, List.length_nil, List.length_cons, and_true, true_and, slotsSub, Int.natCast_zero]
          · clear h1 h2 h3 h4 h5 h6 h7 hd' wA wA2 wB wC wD hb1 hb2 hml hlt hmany
            clear many d n0 i0 b f acc u1 q1 tp1 nx1
            rintro ⟨⟨j, d, many, n0, i0⟩, ⟨b, f, acc⟩, ⟨u1, q1⟩, tp1, nx1⟩ ⟨⟨h1, h2⟩, h3, h4, h5, h6, h7⟩
            simp only at h1 h2 h3 h4 h5 h6 h7
            simp only [go_sem, Nat.reduceAdd, Nat.reduceEqDiff, Nat.reduceLT, reduceIte, reduceCtorEq, Nat.reduceBEq, Int.reduceLT, Int.reduceToNat, Int.reducePow, Nat.reduceLeDiff, Int.reduceLE, Nat.reduceMul, Nat.reduceSub]
            have hpos : cntL m (L.take j) ≤ j := Nat.le_trans (cntL_le _ _) (List.length_take_le _ _)
            have hfl : ((L.drop j).filter fun y => decide (y < m)).length ≤ L.length - j := by
              have := List.length_filter_le (fun y => decide (y < m)) (L.drop j)
              rw [List.length_drop] at this; exact this
            have hm2000 : many ≤ 2000 := by omega
            have hb2 : (m - n0) * (many + 1) ≤ 1114111 * 2001 := Nat.mul_le_mul (by omega) (by omega)
            have wd : IntKind.i64.wrap ((d : Int) + 1) = ((d + 1 : Nat) : Int) := by rw [wrap_i64 _ (by omega) (by omega)]; omega
            rcases Nat.lt_or_eq_of_le h5 with hj | hj
            · have w : IntKind.i64.wrap ((j : Int) + 1) = ((j + 1 : Nat) : Int) := by rw [wrap_i64 _ (by omega) (by omega)]; omega
              have wB : IntKind.i64.wrap ((many : Int) + 1) = ((many + 1 : Nat) : Int) := by rw [wrap_i64 _ (by omega) (by omega)]; omega
              have htk : cntL m (L.take (j + 1)) = cntL m (L.take j) + (if L[j] ≤ m then 1 else 0) := by rw [List.take_succ_eq_append_getElem hj, cntL_append, cntL_cons, cntL_nil, Nat.add_zero]
              rw [List.drop_eq_getElem_cons hj] at h1 h4
              simp only [dec_lt hj, hj, ofN_get hj, go_sem, Nat.reduceAdd, Nat.reduceEqDiff, Nat.reduceLT, reduceIte, reduceCtorEq, Nat.reduceBEq, Int.reduceLT, Int.reduceToNat, Int.reducePow, Nat.reduceLeDiff, Int.reduceLE, Nat.reduceMul, Nat.reduceSub]
              generalize L[j] = r at *
              rw [rowS] at h1
              have hacc : acc.length ≤ 26000 := by
                have := congrArg List.length h1
                rw [List.length_append] at this
                omega
              by_cases hr : r < m
              · have d1 : decide ((r : Int) < (m : Int)) = true := by simp; omega
                rw [if_neg (by omega), if_pos hr] at h1
                rw [if_pos (by omega)] at htk
                rw [List.filter_cons_of_pos (by simpa using hr), List.length_cons] at h4
                simp only [d1, w, wd, go_sem, Nat.reduceAdd, Nat.reduceEqDiff, Nat.reduceLT, reduceIte, reduceCtorEq, Nat.reduceBEq, Int.reduceLT, Int.reduceToNat, Int.reducePow, Nat.reduceLeDiff, Int.reduceLE, Nat.reduceMul, Nat.reduceSub]
                refine ⟨((j + 1, d + 1, many, n0, i0), (b, f, acc), (u1, q1), tp1, nx1), weak_forget ?_ (List.Sublist.refl _) (List.Sublist.refl _), ⟨⟨by simp only [htk]; exact h1, by simp only [htk]; omega⟩, h3, by simp only [htk]; omega, hj, h6, h7⟩, by simp only; omega⟩
                simp only [go_sem, Nat.reduceAdd, Nat.reduceEqDiff, Nat.reduceLT, reduceIte, reduceCtorEq, Nat.reduceBEq, Int.reduceLT, Int.reduceToNat, Int.reducePow, Nat.reduceLeDiff, Int.reduceLE, Nat.reduceMul, Nat.reduceSub, slotsBy, boxesBy, tipsBy, rawAt, nm, AV.ren, AV.renL, AV.under, AV.underL, List.all_nil, List.all_cons, bne_self_eq_false, List.getD_cons_zero, List.getD_cons_succ, List.length_nil, List.length_cons, and_true, true_and, slotsSub]
              · have d1 : decide ((r : Int) < (m : Int)) = false := by simp; omega
                rw [List.filter_cons_of_neg (by simpa using hr)] at h4
                by_cases hr2 : r = m
                · subst hr2
                  rw [if_pos rfl] at h1
                  rw [if_pos (Nat.le_refl _)] at htk
                  have hdd : (r - n0) * (many + 1) + cntL r (L.take j) - i0 = d := by omega
                  rw [List.cons_append, dls, hdd, txS] at h1
                  have ns : IntKind.i64.wrap 0 = 0 := by decide
                  simp only [d1, beq_self_eq_true, hbm, hsm, wB, allOne, AV.one, Value.oneCell', go_sem, Nat.reduceAdd, Nat.reduceEqDiff, Nat.reduceLT, reduceIte, reduceCtorEq, Nat.reduceBEq, Int.reduceLT, Int.reduceToNat, Int.reducePow, Nat.reduceLeDiff, Int.reduceLE, Nat.reduceMul, Nat.reduceSub]
                  refine callGo_yieldOK (en_yield L hn h6 (by rw [List.length_append]; omega) (by omega) h7 (by omega) (by omega) fun q2 tp2 nx2 hq2 => ?_)
                  simp only [w, Bool.not_true, go_sem, Nat.reduceAdd, Nat.reduceEqDiff, Nat.reduceLT, reduceIte, reduceCtorEq, Nat.reduceBEq, Int.reduceLT, Int.reduceToNat, Int.reducePow, Nat.reduceLeDiff, Int.reduceLE, Nat.reduceMul, Nat.reduceSub]
                  refine ⟨((j + 1, 0, many + 1, r, cntL r (L.take j) + 1), (adp d (many + 1) f, false, acc ++ stepS d b), (true, q2), tp2, nx2), weak_forget ?_ (List.Sublist.refl _) (List.Sublist.refl _), ⟨⟨by simp only [htk]; rw [List.append_assoc]; exact h1, by simp only [htk, Nat.sub_self, Nat.zero_mul]; omega⟩, Nat.le_refl _, by simp only [htk]; omega, hj, by simpa only [List.append_assoc] using hq2, adp_le2 f (by omega)⟩, by simp only; omega⟩
                  simp only [go_sem, Nat.reduceAdd, Nat.reduceEqDiff, Nat.reduceLT, reduceIte, reduceCtorEq, Nat.reduceBEq, Int.reduceLT, Int.reduceToNat, Int.reducePow, Nat.reduceLeDiff, Int.reduceLE, Nat.reduceMul, Nat.reduceSub, slotsBy, boxesBy, tipsBy, rawAt, nm, AV.ren, AV.renL, AV.under, AV.underL, List.all_nil, List.all_cons, bne_self_eq_false, List.getD_cons_zero, List.getD_cons_succ, List.length_nil, List.length_cons, and_true, true_and, slotsSub, Int.natCast_zero]
                · have d2 : ((r : Int) == (m : Int)) = false := by simp; omega
                  rw [if_neg hr2, if_neg hr] at h1
                  rw [if_neg (by omega)] at htk
                  simp only [d1, d2, w, go_sem, Nat.reduceAdd, Nat.reduceEqDiff, Nat.reduceLT, reduceIte, reduceCtorEq, Nat.reduceBEq, Int.reduceLT, Int.reduceToNat, Int.reducePow, Nat.reduceLeDiff, Int.reduceLE, Nat.reduceMul, Nat.reduceSub]
                  refine ⟨((j + 1, d, many, n0, i0), (b, f, acc), (u1, q1), tp1, nx1), weak_forget ?_ (List.Sublist.refl _) (List.Sublist.refl _), ⟨⟨by simp only [htk]; exact h1, by simp only [htk]; omega⟩, h3, by simp only [htk]; omega, hj, h6, h7⟩, by simp only; omega⟩
                  simp only [go_sem, Nat.reduceAdd, Nat.reduceEqDiff, Nat.reduceLT, reduceIte, reduceCtorEq, Nat.reduceBEq, Int.reduceLT, Int.reduceToNat, Int.reducePow, Nat.reduceLeDiff, Int.reduceLE, Nat.reduceMul, Nat.reduceSub, slotsBy, boxesBy, tipsBy, rawAt, nm, AV.ren, AV.renL, AV.under, AV.underL, List.all_nil, List.all_cons, bne_self_eq_false, List.getD_cons_zero, List.getD_cons_succ, List.length_nil, List.length_cons, and_true, true_and, slotsSub]
            · subst hj
              rw [List.drop_length, List.take_length] at h1 h4
              rw [List.take_length] at h2
              simp only [rowS, List.nil_append] at h1
              simp only [List.filter_nil, List.length_nil, Nat.add_zero] at h4
              have wm : IntKind.i32.wrap ((m : Int) + 1) = ((m + 1 : Nat) : Int) := by rw [wrap_i32 _ (by omega) (by omega)]; omega
              simp only [dec_irr, wm, wd, go_sem, Nat.reduceAdd, Nat.reduceEqDiff, Nat.reduceLT, reduceIte, reduceCtorEq, Nat.reduceBEq, Int.reduceLT, Int.reduceToNat, Int.reducePow, Nat.reduceLeDiff, Int.reduceLE, Nat.reduceMul, Nat.reduceSub]
              refine ⟨((m + 1, d + 1, many, n0, i0), (b, f, acc), (u1, q1), tp1, nx1), weak_forget ?_ (List.Sublist.refl _) (List.Sublist.refl _), ⟨h1, ?_, by simp only; omega, ?_, by simp only; omega, h6, h7⟩, by simp only; omega⟩
              · simp only [go_sem, Nat.reduceAdd, Nat.reduceEqDiff, Nat.reduceLT, reduceIte, reduceCtorEq, Nat.reduceBEq, Int.reduceLT, Int.reduceToNat, Int.reducePow, Nat.reduceLeDiff, Int.reduceLE, Nat.reduceMul, Nat.reduceSub, slotsBy, boxesBy, tipsBy, rawAt, nm, AV.ren, AV.renL, AV.under, AV.underL, List.all_nil, List.all_cons, bne_self_eq_false, List.getD_cons_zero, List.getD_cons_succ, List.length_nil, List.length_cons, and_true, true_and, slotsSub]
              · simp only
                rw [← Nat.add_assoc, h2, ← h4, show m + 1 - n0 = (m - n0) + 1 by omega, Nat.succ_mul, Nat.add_assoc]
              · simp only
                rw [h4]
                unfold cntL
                congr 1
                refine List.filter_congr fun x _ => ?_
                simp only [decide_eq_decide]
                omega
    · have hall : ∀ x ∈ L, x < v := fun x hx => by
        rw [h4] at heq
        have := List.filter_eq_self.1 (List.Sublist.eq_of_length List.filter_sublist heq)
        simpa using this x hx
      rw [opsF_end L hall] at h1
      simp only [dls, txS, List.append_nil] at h1
      subst h1
      rw [heq]
      simp only [dec_irr, go_sem, Nat.reduceAdd, Nat.reduceEqDiff, Nat.reduceLT, reduceIte, reduceCtorEq, Nat.reduceBEq, Int.reduceLT, Int.reduceToNat, Int.reducePow, Nat.reduceLeDiff, Int.reduceLE, Nat.reduceMul, Nat.reduceSub]
      exact ⟨.inl trivial, _, by simp only [resAV, resL, resOne, go_sem, Nat.reduceAdd, Nat.reduceEqDiff, Nat.reduceLT, reduceIte, reduceCtorEq, Nat.reduceBEq, Int.reduceLT, Int.reduceToNat, Int.reducePow, Nat.reduceLeDiff, Int.reduceLE, Nat.reduceMul, Nat.reduceSub], hK _ _ _ _ _ _ _ h6⟩
end Go.Proofs.Ytmhpjoadfgplgaa
