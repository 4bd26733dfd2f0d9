/-
SafeOne: the walk. Conditions: none.
-/
import Derived.Test.YteekelelcbfekaaDoorSafP
set_option linter.unusedSimpArgs false
set_option linter.unusedVariables false
set_option linter.unusedSectionVars false
namespace Go.Proofs.YteekelelcbfekaaDoor
open Go Go.Ab

theorem dec_codes {f : Nat → Nat} (h37 : f 37 = 37) (hf : ∀ v, v < 16 → hexOf (f (upH v)) = some v) : ∀ l : List Nat, (∀ n ∈ l, n ≤ 255) → decP ((l.flatMap pctC).map f) = l
  | [], _ => rfl
  | n :: l, h => by
    have hn := h n (by simp)
    have e : ((n :: l).flatMap pctC).map f = 37 :: f (upH (n / 16)) :: f (upH (n % 16)) :: (l.flatMap pctC).map f := by
      rw [List.flatMap_cons, List.map_append]; simp [pctC, h37]
    have h1 := hf (n / 16) (by omega)
    have h2 := hf (n % 16) (by omega)
    rw [e, decP_code (by simp [isC, h1, h2])]
    simp only [codeV, h1, h2, List.drop_succ_cons, List.drop_zero, Option.getD_some]
    rw [dec_codes h37 hf l fun m hm => h m (by simp [hm])]
    congr 1; omega
theorem hex_upH_low {v : Nat} (h : v < 16) : hexOf (lowN (upH v)) = some v := by
  have : ∀ v < 16, hexOf (lowN (upH v)) = some v := by decide
  exact this v h

theorem strOf_ascii : ∀ q : List Nat, (∀ c ∈ q, c ≤ 127) → Ab.strOf (q.map fun (c : Nat) => (c : Int)) = txt q
  | [], _ => rfl
  | c :: q, h => by
    have ih := strOf_ascii q fun x hx => h x (by simp [hx])
    have e : ((c :: q).map fun (c : Nat) => (c : Int)) = [(c : Int)] ++ q.map fun (c : Nat) => (c : Int) := rfl
    have hc : Ab.strOf [(c : Int)] = txt [c] := by
      have : ∀ c < 128, Ab.strOf [((c : Nat) : Int)] = txt [c] := by decide +kernel
      exact this c (by have := h c (by simp); omega)
    rw [e, strOf_append, ih, hc]
    apply ByteArray.ext
    simp [txt, ByteArray.data_append]

theorem txt_app (a b : List Nat) : txt a ++ txt b = txt (a ++ b) := by
  apply ByteArray.ext
  simp [txt, ByteArray.data_append]

/-- What stands for a code point: its codes, or itself. -/
def Stands (q : List Nat) (r : Nat) : Prop :=
  (∀ c ∈ q, c ≤ 127) ∧ q.length ≤ 12 ∧ ((decP q = encN r ∧ q.length = 3 * (encN r).length) ∨ (r ≤ 127 ∧ ∃ c, q = [c] ∧ (c ≠ 37 ∨ c = 37)))

theorem one_shown {a q z : List Nat} {r : Nat} (hr : Scalar r) (hq : Stands q r) (hw : Whole a) (ha : ∀ c ∈ a, c ≤ 127) (hz : ∀ c ∈ z, c ≤ 127) (hd : ∀ c ∈ decP (a ++ [37] ++ z), c ≤ 127) (dz : ∀ c ∈ decP z, c ≤ 127) :
    Ab.strOf (rOf (showT 0 (a ++ q ++ z))) = Ab.strOf (rOf (showT 0 a)) ++ (if safeOf (r : Int) = true then Ab.strOf [(r : Int)] else txt q) ++ Ab.strOf (rOf (showT 0 z)) := by
  obtain ⟨h1, _, h2⟩ := hq
  rw [List.append_assoc, dec_whole _ a _ (Nat.le_refl _) hw] at hd
  have da : ∀ c ∈ decP a, c ≤ 127 := fun c hc => hd c (List.mem_append_left _ hc)
  rcases h2 with ⟨h2, h3⟩ | ⟨h2, c, rfl, _⟩
  · have e : Ab.strOf (if safeOf (r : Int) = true then [(r : Int)] else q.map fun (c : Nat) => (c : Int)) = if safeOf (r : Int) = true then Ab.strOf [(r : Int)] else txt q := by
      cases safeOf (r : Int) with
      | true => rfl
      | false => rw [if_neg (by simp), if_neg (by simp)]; exact strOf_ascii q h1
    rw [show_one hr hw ha h1 hz da dz h2 h3, strOf_append, strOf_append, e]
  · have hc := h1 c (by simp)
    have hY : ∀ x ∈ c :: z, x ≤ 127 := fun x hx => by
      rcases List.mem_cons.1 hx with rfl | hx
      · exact hc
      · exact hz x hx
    have dY : ∀ x ∈ decP (c :: z), x ≤ 127 := fun x hx => by
      by_cases h37 : c = 37
      · subst h37; exact hd x (List.mem_append_right _ hx)
      · have hn : isC (c :: z) = false := by
          match z with
          | [] => rfl
          | [y] => rfl
          | y :: y' :: z => simp [isC, h37]
        rw [decP_plain hn] at hx
        rcases List.mem_cons.1 hx with rfl | hx
        · exact hc
        · exact dz x hx
    rw [List.append_assoc, List.singleton_append, show_plain hw ha hY da dY, strOf_append, safe_small h2, show_ascii _ z (Nat.le_refl _) hz dz]
    rw [if_neg (by simp), ByteArray.append_assoc, strOf_ascii _ hY, strOf_ascii _ hz, txt_app]
    rfl

theorem cat_all (a b : ByteArray) (h : a.size + b.size ≤ 1099511627776) : binStr .add a b = some (.string (a ++ b)) := by
  simp only [binStr]
  rw [if_neg (by omega)]
set_option maxRecDepth 10000 in
set_option maxHeartbeats 1000000 in
theorem one_tail {r : Nat} (hr : Scalar r) {a q z : List Nat} (hq : Stands q r) (hw : Whole a) (ha : ∀ c ∈ a, c ≤ 127) (hz : ∀ c ∈ z, c ≤ 127) (hal : a.length ≤ 30) (hzl : z.length ≤ 30) (hd : ∀ c ∈ decP (a ++ [37] ++ z), c ≤ 127)
    {sl : List (Nat × Option AV)} {tp : List (Nat × TypeId)} {nx : Nat} (h0 : Ab.look sl 0 = some (.lit (.int .i32 (r : Int)))) (h1 : Ab.look sl 1 = some (.lit (.string (txt a)))) (h2 : Ab.look sl 2 = some (.lit (.string (txt z)))) (h12 : Ab.look sl 12 = some (.lit (.string (txt q)))) :
    awp Tryd.prog 0 a3_7 (fun e s => Done Tryd.prog [.tmp 8] (.lit (.bool true)) e s) ⟨sl, [], tp, nx⟩ := by
  have hz255 : ∀ n ∈ z, n ≤ 255 := fun n hn => by have := hz n hn; omega
  have ha255 : ∀ n ∈ a, n ≤ 255 := fun n hn => by have := ha n hn; omega
  have hdl := decP_length z
  have hdle := decP_le hz255
  simp only [a3_7, h2, go_sem, Nat.reduceAdd, Nat.reduceEqDiff, Nat.reduceLT, reduceIte, reduceCtorEq, Nat.reduceBEq, Int.reduceLT, Int.reduceToNat, Int.reducePow, Nat.reduceLeDiff, Int.reduceLE, Nat.reduceMul, Nat.reduceSub]
  refine callGo_pure (pctDecode_pure z hz255 (by omega)) (by rfl) ?_
  simp only [octs_length, go_sem, Nat.reduceAdd, Nat.reduceEqDiff, Nat.reduceLT, reduceIte, reduceCtorEq, Nat.reduceBEq, Int.reduceLT, Int.reduceToNat, Int.reducePow, Nat.reduceLeDiff, Int.reduceLE, Nat.reduceMul, Nat.reduceSub]
  refine loop_by (α := Nat) (fun i => ⟨[(0, some (.lit (.int .i32 (r : Int)))), (1, some (.lit (.string (txt a)))), (2, some (.lit (.string (txt z)))), (12, some (.lit (.string (txt q)))), (75, some (.sl 5 (octs (decP z)) none)), (76, some (.lit (.int .i64 ((decP z).length : Int)))), (77, some (.lit (.int .i64 (i : Int))))], [], [], nx + 1⟩)
    (fun i => i ≤ (decP z).length ∧ ∀ c ∈ (decP z).take i, c ≤ 127) (fun i => (decP z).length - i) (fun x y h => by
      have := congrArg (cnt 77) h
      simp [cnt, Ab.look] at this
      rw [this]) 0 ((weak_untip 75 (e := 5) (els := octs (decP z)) (tip := some nx) (by simp only [go_sem, Nat.reduceAdd, Nat.reduceEqDiff, Nat.reduceLT, reduceIte, reduceCtorEq, Nat.reduceBEq, Int.reduceLT, Int.reduceToNat, Int.reducePow, Nat.reduceLeDiff, Int.reduceLE, Nat.reduceMul, Nat.reduceSub])).trans (weak_forget ?_ (List.Sublist.refl _) (List.nil_sublist _))) ⟨Nat.zero_le _, by simp⟩ ?_
  · simp only [h0, h1, h2, h12, go_sem, Nat.reduceAdd, Nat.reduceEqDiff, Nat.reduceLT, reduceIte, reduceCtorEq, Nat.reduceBEq, Int.reduceLT, Int.reduceToNat, Int.reducePow, Nat.reduceLeDiff, Int.reduceLE, Nat.reduceMul, Nat.reduceSub, slotsBy, boxesBy, tipsBy, rawAt, nm, AV.ren, AV.renL, AV.under, AV.underL, List.all_nil, List.all_cons, bne_self_eq_false, List.getD_cons_zero, List.getD_cons_succ, List.length_nil, List.length_cons, and_true, true_and, slotsSub, Int.natCast_zero]
  · rintro i ⟨g1, g2⟩
    simp only [go_sem, Nat.reduceAdd, Nat.reduceEqDiff, Nat.reduceLT, reduceIte, reduceCtorEq, Nat.reduceBEq, Int.reduceLT, Int.reduceToNat, Int.reducePow, Nat.reduceLeDiff, Int.reduceLE, Nat.reduceMul, Nat.reduceSub]
    rcases Nat.lt_or_eq_of_le g1 with hlt | heq
    · have w : IntKind.i64.wrap ((i : Int) + 1) = ((i + 1 : Nat) : Int) := by rw [wrap_i64 _ (by omega) (by omega)]; omega
      have hx := octs_get (decP z) i hlt
      have htk : (decP z).take (i + 1) = (decP z).take i ++ [(decP z)[i]] := List.take_succ_eq_append_getElem hlt
      simp only [dec_lt hlt, hx, go_sem, Nat.reduceAdd, Nat.reduceEqDiff, Nat.reduceLT, reduceIte, reduceCtorEq, Nat.reduceBEq, Int.reduceLT, Int.reduceToNat, Int.reducePow, Nat.reduceLeDiff, Int.reduceLE, Nat.reduceMul, Nat.reduceSub]
      generalize (decP z)[i] = c at *
      by_cases hc : c ≤ 127
      · have d1 : decide ((c : Int) > 127) = false := by simp; omega
        simp only [d1, w, go_sem, Nat.reduceAdd, Nat.reduceEqDiff, Nat.reduceLT, reduceIte, reduceCtorEq, Nat.reduceBEq, Int.reduceLT, Int.reduceToNat, Int.reducePow, Nat.reduceLeDiff, Int.reduceLE, Nat.reduceMul, Nat.reduceSub]
        refine ⟨i + 1, weak_forget ?_ (List.Sublist.refl _) (List.Sublist.refl _), ⟨hlt, fun x hx => ?_⟩, by omega⟩
        · simp only [go_sem, Nat.reduceAdd, Nat.reduceEqDiff, Nat.reduceLT, reduceIte, reduceCtorEq, Nat.reduceBEq, Int.reduceLT, Int.reduceToNat, Int.reducePow, Nat.reduceLeDiff, Int.reduceLE, Nat.reduceMul, Nat.reduceSub, slotsBy, boxesBy, tipsBy, rawAt, nm, AV.ren, AV.renL, AV.under, AV.underL, List.all_nil, List.all_cons, bne_self_eq_false, List.getD_cons_zero, List.getD_cons_succ, List.length_nil, List.length_cons, and_true, true_and, slotsSub]
        · rw [htk] at hx
          rcases List.mem_append.1 hx with hx | hx
          · exact g2 x hx
          · simp at hx; omega
      · have d1 : decide ((c : Int) > 127) = true := by simp; omega
        simp only [d1, go_sem, Nat.reduceAdd, Nat.reduceEqDiff, Nat.reduceLT, reduceIte, reduceCtorEq, Nat.reduceBEq, Int.reduceLT, Int.reduceToNat, Int.reducePow, Nat.reduceLeDiff, Int.reduceLE, Nat.reduceMul, Nat.reduceSub]
        refine callGo_pure awake25_pure (by rfl) ?_
        simp only [go_sem, Nat.reduceAdd, Nat.reduceEqDiff, Nat.reduceLT, reduceIte, reduceCtorEq, Nat.reduceBEq, Int.reduceLT, Int.reduceToNat, Int.reducePow, Nat.reduceLeDiff, Int.reduceLE, Nat.reduceMul, Nat.reduceSub]
        simp only [Done, resAV, resL, resOne, look_nil, look_cons, Nat.reduceEqDiff, if_true, if_false, reduceIte, ite_true, ite_false, Nat.zero_ne_one, Nat.one_ne_zero, reduceCtorEq, true_or, or_true, true_and, Option.some.injEq, AV.lit.injEq, Value.int.injEq, Value.bool.injEq]
    · subst heq
      rw [List.take_length] at g2
      have hmain := one_shown hr hq hw ha hz hd g2
      have hru : runesOf [[Value.int .i32 (r : Int)]] = some [(r : Int)] := rfl
      have hsa : ∀ n ∈ a ++ q ++ z, n ≤ 255 := fun n hn => by
        rcases List.mem_append.1 hn with hn | hn
        · rcases List.mem_append.1 hn with hn | hn
          · exact ha255 n hn
          · have := hq.1 n hn; omega
        · exact hz255 n hn
      have hlen : (a ++ q ++ z).length ≤ 1000 := by rw [List.length_append, List.length_append]; have := hq.2.1; omega
      simp only [dec_irr, hru, go_sem, Nat.reduceAdd, Nat.reduceEqDiff, Nat.reduceLT, reduceIte, reduceCtorEq, Nat.reduceBEq, Int.reduceLT, Int.reduceToNat, Int.reducePow, Nat.reduceLeDiff, Int.reduceLE, Nat.reduceMul, Nat.reduceSub]
      refine callGo_pure (safe_pure (r : Int)) (by rfl) ?_
      have la := showT_len 0 a
      have lz := showT_len 0 z
      have hra : (rOf (showT 0 a)).length ≤ 30 := by unfold rOf; rw [List.length_map]; omega
      have hrz : (rOf (showT 0 z)).length ≤ 30 := by unfold rOf; rw [List.length_map]; omega
      have sa := str_len (rOf (showT 0 a))
      have sz := str_len (rOf (showT 0 z))
      have sr := str_len [(r : Int)]
      have hql := hq.2.1
      have b1 : binStr .add (txt a) (txt q) = some (.string (txt (a ++ q))) := by rw [cat_all _ _ (by rw [txt_size, txt_size]; omega), txt_app]
      have b2 : binStr .add (txt (a ++ q)) (txt z) = some (.string (txt (a ++ q ++ z))) := by rw [cat_all _ _ (by rw [txt_size, txt_size, List.length_append]; omega), txt_app]
      simp only [List.length_singleton] at sr
      have fin : ∀ (W : ByteArray), W.size ≤ 1000 → Ab.strOf (rOf (showT 0 (a ++ q ++ z))) = Ab.strOf (rOf (showT 0 a)) ++ W ++ Ab.strOf (rOf (showT 0 z)) → ∃ w, Ab.strOf (rOf (showT 0 a)) ++ W ++ Ab.strOf (rOf (showT 0 z)) = txt w ∧ showsB (a ++ q ++ z) w = true := fun W _ hW => by
        obtain ⟨w, hw, _, _⟩ := txt_of (Ab.strOf (rOf (showT 0 a)) ++ W ++ Ab.strOf (rOf (showT 0 z)))
        refine ⟨w, hw, ?_⟩
        unfold showsB
        rw [hW, hw]; simp
      have hsm : ∀ h : r ≤ 127, safeOf (r : Int) = false := fun h => safe_small h
      cases hs : safeOf (r : Int) with
      | true =>
        rw [hs, if_pos rfl] at hmain
        have h128 := safe_128 hs
        have d1 : decide ((r : Int) > 127) = true := by simp; omega
        simp only [Bool.not_true, b1, b2, go_sem, Nat.reduceAdd, Nat.reduceEqDiff, Nat.reduceLT, reduceIte, reduceCtorEq, Nat.reduceBEq, Int.reduceLT, Int.reduceToNat, Int.reducePow, Nat.reduceLeDiff, Int.reduceLE, Nat.reduceMul, Nat.reduceSub]
        obtain ⟨w, hw1, hw2⟩ := fin (Ab.strOf [(r : Int)]) (by omega) hmain
        have b3 : binStr .add (Ab.strOf (rOf (showT 0 a))) (Ab.strOf [(r : Int)]) = some (.string (Ab.strOf (rOf (showT 0 a)) ++ (Ab.strOf [(r : Int)]))) := cat_all _ _ (by omega)
        have b4 : binStr .add (Ab.strOf (rOf (showT 0 a)) ++ (Ab.strOf [(r : Int)])) (Ab.strOf (rOf (showT 0 z))) = some (.string (txt w)) := by
          rw [cat_all _ _ (by rw [ByteArray.size_append]; omega), hw1]
        refine dcallGo_pure (show_pure a ha255 (by omega)) (by rfl) (by rfl) ?_
        simp only [go_sem, Nat.reduceAdd, Nat.reduceEqDiff, Nat.reduceLT, reduceIte, reduceCtorEq, Nat.reduceBEq, Int.reduceLT, Int.reduceToNat, Int.reducePow, Nat.reduceLeDiff, Int.reduceLE, Nat.reduceMul, Nat.reduceSub]
        refine dcallGo_pure (safeRunes_pure (showT 0 a) (by omega)) (by rfl) (by rfl) ?_
        simp only [runesOf_runes, b3, go_sem, Nat.reduceAdd, Nat.reduceEqDiff, Nat.reduceLT, reduceIte, reduceCtorEq, Nat.reduceBEq, Int.reduceLT, Int.reduceToNat, Int.reducePow, Nat.reduceLeDiff, Int.reduceLE, Nat.reduceMul, Nat.reduceSub]
        refine dcallGo_pure (show_pure z hz255 (by omega)) (by rfl) (by rfl) ?_
        simp only [go_sem, Nat.reduceAdd, Nat.reduceEqDiff, Nat.reduceLT, reduceIte, reduceCtorEq, Nat.reduceBEq, Int.reduceLT, Int.reduceToNat, Int.reducePow, Nat.reduceLeDiff, Int.reduceLE, Nat.reduceMul, Nat.reduceSub]
        refine dcallGo_pure (safeRunes_pure (showT 0 z) (by omega)) (by rfl) (by rfl) ?_
        simp only [runesOf_runes, b3, b4, go_sem, Nat.reduceAdd, Nat.reduceEqDiff, Nat.reduceLT, reduceIte, reduceCtorEq, Nat.reduceBEq, Int.reduceLT, Int.reduceToNat, Int.reducePow, Nat.reduceLeDiff, Int.reduceLE, Nat.reduceMul, Nat.reduceSub]
        refine dcallGo_pure (shows_pure (a ++ q ++ z) w hsa (by omega)) (by rfl) (by rfl) ?_
        simp only [hw2, go_sem, Nat.reduceAdd, Nat.reduceEqDiff, Nat.reduceLT, reduceIte, reduceCtorEq, Nat.reduceBEq, Int.reduceLT, Int.reduceToNat, Int.reducePow, Nat.reduceLeDiff, Int.reduceLE, Nat.reduceMul, Nat.reduceSub]
        simp only [d1, go_sem, Nat.reduceAdd, Nat.reduceEqDiff, Nat.reduceLT, reduceIte, reduceCtorEq, Nat.reduceBEq, Int.reduceLT, Int.reduceToNat, Int.reducePow, Nat.reduceLeDiff, Int.reduceLE, Nat.reduceMul, Nat.reduceSub]
        refine dcallGo_pure awake25_pure (by rfl) (by rfl) ?_
        simp only [go_sem, Nat.reduceAdd, Nat.reduceEqDiff, Nat.reduceLT, reduceIte, reduceCtorEq, Nat.reduceBEq, Int.reduceLT, Int.reduceToNat, Int.reducePow, Nat.reduceLeDiff, Int.reduceLE, Nat.reduceMul, Nat.reduceSub]
        simp only [Done, resAV, resL, resOne, look_nil, look_cons, Nat.reduceEqDiff, if_true, if_false, reduceIte, ite_true, ite_false, Nat.zero_ne_one, Nat.one_ne_zero, reduceCtorEq, true_or, or_true, true_and, Option.some.injEq, AV.lit.injEq, Value.int.injEq, Value.bool.injEq]
      | false =>
        rw [hs, if_neg (by simp)] at hmain
        simp only [Bool.not_false, b1, b2, go_sem, Nat.reduceAdd, Nat.reduceEqDiff, Nat.reduceLT, reduceIte, reduceCtorEq, Nat.reduceBEq, Int.reduceLT, Int.reduceToNat, Int.reducePow, Nat.reduceLeDiff, Int.reduceLE, Nat.reduceMul, Nat.reduceSub]
        obtain ⟨w, hw1, hw2⟩ := fin (txt q) (by rw [txt_size]; omega) hmain
        have b3 : binStr .add (Ab.strOf (rOf (showT 0 a))) (txt q) = some (.string (Ab.strOf (rOf (showT 0 a)) ++ (txt q))) := cat_all _ _ (by rw [txt_size]; omega)
        have b4 : binStr .add (Ab.strOf (rOf (showT 0 a)) ++ (txt q)) (Ab.strOf (rOf (showT 0 z))) = some (.string (txt w)) := by
          rw [cat_all _ _ (by rw [ByteArray.size_append, txt_size]; omega), hw1]
        refine dcallGo_pure (show_pure a ha255 (by omega)) (by rfl) (by rfl) ?_
        simp only [go_sem, Nat.reduceAdd, Nat.reduceEqDiff, Nat.reduceLT, reduceIte, reduceCtorEq, Nat.reduceBEq, Int.reduceLT, Int.reduceToNat, Int.reducePow, Nat.reduceLeDiff, Int.reduceLE, Nat.reduceMul, Nat.reduceSub]
        refine dcallGo_pure (safeRunes_pure (showT 0 a) (by omega)) (by rfl) (by rfl) ?_
        simp only [runesOf_runes, b3, go_sem, Nat.reduceAdd, Nat.reduceEqDiff, Nat.reduceLT, reduceIte, reduceCtorEq, Nat.reduceBEq, Int.reduceLT, Int.reduceToNat, Int.reducePow, Nat.reduceLeDiff, Int.reduceLE, Nat.reduceMul, Nat.reduceSub]
        refine dcallGo_pure (show_pure z hz255 (by omega)) (by rfl) (by rfl) ?_
        simp only [go_sem, Nat.reduceAdd, Nat.reduceEqDiff, Nat.reduceLT, reduceIte, reduceCtorEq, Nat.reduceBEq, Int.reduceLT, Int.reduceToNat, Int.reducePow, Nat.reduceLeDiff, Int.reduceLE, Nat.reduceMul, Nat.reduceSub]
        refine dcallGo_pure (safeRunes_pure (showT 0 z) (by omega)) (by rfl) (by rfl) ?_
        simp only [runesOf_runes, b3, b4, go_sem, Nat.reduceAdd, Nat.reduceEqDiff, Nat.reduceLT, reduceIte, reduceCtorEq, Nat.reduceBEq, Int.reduceLT, Int.reduceToNat, Int.reducePow, Nat.reduceLeDiff, Int.reduceLE, Nat.reduceMul, Nat.reduceSub]
        refine dcallGo_pure (shows_pure (a ++ q ++ z) w hsa (by omega)) (by rfl) (by rfl) ?_
        simp only [hw2, go_sem, Nat.reduceAdd, Nat.reduceEqDiff, Nat.reduceLT, reduceIte, reduceCtorEq, Nat.reduceBEq, Int.reduceLT, Int.reduceToNat, Int.reducePow, Nat.reduceLeDiff, Int.reduceLE, Nat.reduceMul, Nat.reduceSub]
        by_cases h127 : r ≤ 127
        · have d1 : decide ((r : Int) > 127) = false := by simp; omega
          simp only [d1, go_sem, Nat.reduceAdd, Nat.reduceEqDiff, Nat.reduceLT, reduceIte, reduceCtorEq, Nat.reduceBEq, Int.reduceLT, Int.reduceToNat, Int.reducePow, Nat.reduceLeDiff, Int.reduceLE, Nat.reduceMul, Nat.reduceSub]
          refine dcallGo_pure (safe_pure (r : Int)) (by rfl) (by rfl) ?_
          simp only [hs, Bool.not_false, go_sem, Nat.reduceAdd, Nat.reduceEqDiff, Nat.reduceLT, reduceIte, reduceCtorEq, Nat.reduceBEq, Int.reduceLT, Int.reduceToNat, Int.reducePow, Nat.reduceLeDiff, Int.reduceLE, Nat.reduceMul, Nat.reduceSub]
          refine dcallGo_pure awake25_pure (by rfl) (by rfl) ?_
          simp only [go_sem, Nat.reduceAdd, Nat.reduceEqDiff, Nat.reduceLT, reduceIte, reduceCtorEq, Nat.reduceBEq, Int.reduceLT, Int.reduceToNat, Int.reducePow, Nat.reduceLeDiff, Int.reduceLE, Nat.reduceMul, Nat.reduceSub]
          simp only [Done, resAV, resL, resOne, look_nil, look_cons, Nat.reduceEqDiff, if_true, if_false, reduceIte, ite_true, ite_false, Nat.zero_ne_one, Nat.one_ne_zero, reduceCtorEq, true_or, or_true, true_and, Option.some.injEq, AV.lit.injEq, Value.int.injEq, Value.bool.injEq]
        · have d1 : decide ((r : Int) > 127) = true := by simp; omega
          simp only [d1, go_sem, Nat.reduceAdd, Nat.reduceEqDiff, Nat.reduceLT, reduceIte, reduceCtorEq, Nat.reduceBEq, Int.reduceLT, Int.reduceToNat, Int.reducePow, Nat.reduceLeDiff, Int.reduceLE, Nat.reduceMul, Nat.reduceSub]
          refine dcallGo_pure awake25_pure (by rfl) (by rfl) ?_
          simp only [go_sem, Nat.reduceAdd, Nat.reduceEqDiff, Nat.reduceLT, reduceIte, reduceCtorEq, Nat.reduceBEq, Int.reduceLT, Int.reduceToNat, Int.reducePow, Nat.reduceLeDiff, Int.reduceLE, Nat.reduceMul, Nat.reduceSub]
          simp only [Done, resAV, resL, resOne, look_nil, look_cons, Nat.reduceEqDiff, if_true, if_false, reduceIte, ite_true, ite_false, Nat.zero_ne_one, Nat.one_ne_zero, reduceCtorEq, true_or, or_true, true_and, Option.some.injEq, AV.lit.injEq, Value.int.injEq, Value.bool.injEq]
end Go.Proofs.YteekelelcbfekaaDoor
