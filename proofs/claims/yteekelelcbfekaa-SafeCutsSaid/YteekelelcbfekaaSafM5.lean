/-
Texts of codes. Conditions: none.
-/
import Derived.Test.YteekelelcbfekaaSafM4
import Derived.Test.YteekelelcbfekaaSafM2
set_option linter.unusedSimpArgs false
set_option linter.unusedVariables false
set_option linter.unusedSectionVars false

/-! ## Saf6 -/

namespace Go.Proofs.Yteekelelcbfekaa
open Go Go.Ab

/-- A text of bytes. -/
def txt (b : List Nat) : ByteArray := ⟨(b.map fun n => UInt8.ofNat n).toArray⟩
theorem txt_size (b : List Nat) : (txt b).size = b.length := by simp [txt, ByteArray.size]
theorem txt_nil : txt [] = ⟨#[]⟩ := rfl
theorem txt_get {b : List Nat} {i : Nat} (h : i < b.length) : (txt b)[i]? = some (UInt8.ofNat b[i]) := by
  rw [getElem?_pos (txt b) i (by rw [txt_size]; exact h)]
  simp [txt, ByteArray.getElem_eq_getElem_data]
theorem u8_nat {n : Nat} (h : n ≤ 255) : ((UInt8.ofNat n).toNat : Int) = (n : Int) := by simp; omega
theorem txt_slice (b : List Nat) (l u : Nat) : (txt b).extract l u = txt ((b.take u).drop l) := by
  apply ByteArray.ext
  rw [ByteArray.data_extract]
  simp only [txt, List.extract_toArray, List.extract_eq_take_drop, List.map_drop, List.map_take]
  congr 1
  rw [List.drop_take]
theorem u8_round : ∀ l : List UInt8, (l.map fun u => u.toNat).map (fun n => UInt8.ofNat n) = l
  | [] => rfl
  | u :: l => by rw [List.map_cons, List.map_cons, u8_round l, UInt8.ofNat_toNat]
theorem txt_of (s : ByteArray) : ∃ b : List Nat, s = txt b ∧ (∀ n ∈ b, n ≤ 255) ∧ b.length = s.size := by
  refine ⟨s.data.toList.map fun u => u.toNat, ?_, ?_, by rw [List.length_map]; rfl⟩
  · apply ByteArray.ext
    show s.data = _
    simp only [txt, u8_round]
  · intro n hn
    simp only [List.mem_map] at hn
    obtain ⟨u, _, rfl⟩ := hn
    have := u.toNat_lt
    omega

/-- Does a code begin a text? -/
def isC : List Nat → Bool
  | a :: x :: y :: _ => a == 37 && ((hexOf x).isSome && (hexOf y).isSome)
  | _ => false
/-- The byte of the code. -/
def codeV : List Nat → Nat
  | _ :: x :: y :: _ => 16 * (hexOf x).getD 0 + (hexOf y).getD 0
  | _ => 0
theorem isC_len {b : List Nat} (h : isC b = true) : 3 ≤ b.length := by
  match b, h with
  | a :: x :: y :: t, _ => simp
theorem isC_short {b : List Nat} (h : b.length < 3) : isC b = false := by
  cases e : isC b
  · rfl
  · have := isC_len e; omega
theorem hexOf_le (c v : Nat) (h : hexOf c = some v) : v ≤ 15 := by
  unfold hexOf at h
  (repeat' split at h) <;> simp at h <;> omega
theorem hexD_le (c : Nat) : (hexOf c).getD 0 ≤ 15 := by
  cases h : hexOf c with
  | none => simp
  | some v => exact hexOf_le c v h
theorem codeV_le (b : List Nat) : codeV b ≤ 255 := by
  unfold codeV
  split
  · rename_i x y _
    have := hexD_le x
    have := hexD_le y
    omega
  · omega

/-- What is decoded of a text. -/
def decF : Nat → List Nat → List Nat
  | 0, _ => []
  | _ + 1, [] => []
  | f + 1, a :: t => if isC (a :: t) = true then codeV (a :: t) :: decF f (t.drop 2) else a :: decF f t
def decP (b : List Nat) : List Nat := decF b.length b
theorem decF_more : ∀ (f g : Nat) (b : List Nat), b.length ≤ f → b.length ≤ g → decF f b = decF g b
  | 0, g, b, hf, hg => by
    have : b = [] := List.eq_nil_of_length_eq_zero (by omega)
    subst this
    cases g <;> rfl
  | f + 1, 0, b, hf, hg => by
    have : b = [] := List.eq_nil_of_length_eq_zero (by omega)
    subst this
    rfl
  | f + 1, g + 1, [], hf, hg => rfl
  | f + 1, g + 1, a :: t, hf, hg => by
    simp only [List.length_cons] at hf hg
    simp only [decF]
    rw [decF_more f g (t.drop 2) (by simp only [List.length_drop]; omega) (by simp only [List.length_drop]; omega), decF_more f g t (by omega) (by omega)]
theorem decP_nil : decP [] = [] := rfl
theorem decP_cons (a : Nat) (t : List Nat) : decP (a :: t) = if isC (a :: t) = true then codeV (a :: t) :: decP (t.drop 2) else a :: decP t := by
  show decF (t.length + 1) (a :: t) = _
  simp only [decF, decP]
  rw [decF_more t.length (t.drop 2).length (t.drop 2) (by simp only [List.length_drop]; omega) (Nat.le_refl _)]
theorem decP_code {b : List Nat} (h : isC b = true) : decP b = codeV b :: decP (b.drop 3) := by
  match b, h with
  | a :: x :: y :: t, h => rw [decP_cons, if_pos h]; rfl
theorem decP_plain {a : Nat} {t : List Nat} (h : isC (a :: t) = false) : decP (a :: t) = a :: decP t := by
  rw [decP_cons, if_neg (by simp [h])]
theorem decP_length (b : List Nat) : (decP b).length ≤ b.length := by
  have key : ∀ (f : Nat) (b : List Nat), b.length ≤ f → (decF f b).length ≤ b.length := by
    intro f
    induction f with
    | zero => intro b _; simp [decF]
    | succ f ih =>
      intro b h
      cases b with
      | nil => simp [decF]
      | cons a t =>
        simp only [List.length_cons] at h
        simp only [decF]
        split
        · have := ih (t.drop 2) (by simp only [List.length_drop]; omega)
          simp only [List.length_cons, List.length_drop] at this ⊢
          omega
        · have := ih t (by omega)
          simp only [List.length_cons] at this ⊢
          omega
  exact key _ _ (Nat.le_refl _)
theorem decP_le {b : List Nat} (hb : ∀ n ∈ b, n ≤ 255) : ∀ n ∈ decP b, n ≤ 255 := by
  have key : ∀ (f : Nat) (b : List Nat), (∀ n ∈ b, n ≤ 255) → ∀ n ∈ decF f b, n ≤ 255 := by
    intro f
    induction f with
    | zero => intro b _ n hn; simp [decF] at hn
    | succ f ih =>
      intro b hb n hn
      cases b with
      | nil => simp [decF] at hn
      | cons a t =>
        simp only [decF] at hn
        split at hn
        · rcases List.mem_cons.1 hn with rfl | hn
          · exact codeV_le _
          · exact ih _ (fun m hm => hb m (List.mem_cons_of_mem _ (List.mem_of_mem_drop hm))) n hn
        · rcases List.mem_cons.1 hn with rfl | hn
          · exact hb _ (by simp)
          · exact ih _ (fun m hm => hb m (List.mem_cons_of_mem _ hm)) n hn
  exact key _ _ hb

end Go.Proofs.Yteekelelcbfekaa

/-! ## Saf7 -/

namespace Go.Proofs.Yteekelelcbfekaa
open Go Go.Ab
def a29 : ACode :=
  (.seq (.reg [⟨(.some 2), (.mv (.k (.int .u8 0))), .none⟩, ⟨(.some 3), (.mv (.k (.bool false))), .none⟩]) (.seq (.seq (.reg [⟨(.some 8), (.mv (.t 0)), .none⟩, ⟨(.some 9), (.lenS (.t 8)), .none⟩,
  ⟨(.some 10), (.bin .lss (.t 9) (.k (.int .i64 3))), .none⟩, ⟨(.some 11), (.mv (.t 10)), .none⟩, ⟨(.some 12), (.mv (.t 0)), (.some (11, false))⟩, ⟨(.some 13), (.ixS (.t 12) (.k (.int .i64 0))), (.some
  (11, false))⟩, ⟨(.some 14), (.bin .neq (.t 13) (.k (.int .u8 37))), (.some (11, false))⟩, ⟨(.some 15), (.pick (.t 11) (.k (.bool true)) (.t 14)), .none⟩]) (.cond (.t 15) (.seq (.reg [⟨(.some 2), (.mv
  (.k (.int .u8 0))), .none⟩, ⟨(.some 3), (.mv (.k (.bool false))), .none⟩]) .ret) .skip)) (.seq (.reg [⟨(.some 17), (.mv (.t 0)), .none⟩, ⟨(.some 18), (.ixS (.t 17) (.k (.int .i64 1))), .none⟩, ⟨(.some
  19), (.call (.f 47) [(.t 18)]), .none⟩, ⟨(.some 16), (.mv (.t 19)), .none⟩, ⟨(.some 20), (.ext (.t 16) 0), .none⟩, ⟨(.some 21), (.ext (.t 16) 1), .none⟩, ⟨(.some 4), (.mv (.t 20)), .none⟩, ⟨(.some 5),
  (.mv (.t 21)), .none⟩]) (.seq (.reg [⟨(.some 23), (.mv (.t 0)), .none⟩, ⟨(.some 24), (.ixS (.t 23) (.k (.int .i64 2))), .none⟩, ⟨(.some 25), (.call (.f 47) [(.t 24)]), .none⟩, ⟨(.some 22), (.mv (.t
  25)), .none⟩, ⟨(.some 26), (.ext (.t 22) 0), .none⟩, ⟨(.some 27), (.ext (.t 22) 1), .none⟩, ⟨(.some 6), (.mv (.t 26)), .none⟩, ⟨(.some 7), (.mv (.t 27)), .none⟩]) (.seq (.reg [⟨(.some 28), (.mv (.t
  4)), .none⟩, ⟨(.some 29), (.bin .shl (.t 28) (.k (.int .u64 4))), .none⟩, ⟨(.some 30), (.mv (.t 6)), .none⟩, ⟨(.some 31), (.bin .or (.t 29) (.t 30)), .none⟩, ⟨(.some 32), (.cvI .u8 (.t 31)), .none⟩,
  ⟨(.some 33), (.mv (.t 5)), .none⟩, ⟨(.some 34), (.mv (.t 33)), .none⟩, ⟨(.some 35), (.mv (.t 7)), (.some (34, true))⟩, ⟨(.some 36), (.pick (.t 34) (.t 35) (.k (.bool false))), .none⟩, ⟨(.some 2), (.mv
  (.t 32)), .none⟩, ⟨(.some 3), (.mv (.t 36)), .none⟩]) .ret)))))
theorem c29 : Try.f29.body.bind (cCode Try.prog 37) = some a29 := by kernel_rfl
theorem r29 : Try.f29.results.toList = [(.tmp 2), (.tmp 3)] := by kernel_rfl
theorem n29 : Try.f29.ntmps = 37 := by kernel_rfl
theorem e29 : Enters Try.prog 29 := enters_of Try.func29 (by kernel_rfl) (by kernel_rfl)
def a16 : ACode :=
  (.seq (.reg [⟨(.some 2), (.mv (.k (.slice .none 0 0))), .none⟩]) (.seq (.reg [⟨(.some 3), (.mv (.k (.slice .none 0 0))), .none⟩]) (.seq (.block 0 (.loop (.seq (.seq (.reg [⟨(.some 6), (.mv (.t 0)),
  .none⟩, ⟨(.some 7), (.bin .neq (.t 6) (.k (.string ⟨#[]⟩))), .none⟩]) (.cond (.t 7) .skip (.exit 0))) (.block 1 (.seq (.seq (.reg [⟨(.some 9), (.mv (.t 0)), .none⟩, ⟨(.some 10), (.call (.f 29) [(.t
  9)]), .none⟩, ⟨(.some 8), (.mv (.t 10)), .none⟩, ⟨(.some 11), (.ext (.t 8) 0), .none⟩, ⟨(.some 12), (.ext (.t 8) 1), .none⟩, ⟨(.some 4), (.mv (.t 11)), .none⟩, ⟨(.some 5), (.mv (.t 12)), .none⟩])
  (.seq (.reg [⟨(.some 13), (.mv (.t 5)), .none⟩]) (.cond (.t 13) (.seq (.dreg [⟨(.some 14), (.mv (.t 3)), .none⟩, ⟨(.some 15), (.mv (.t 4)), .none⟩, ⟨(.some 16), (.bs0 5 1 [(.t 15)]), .none⟩, ⟨(.some
  17), (.app 5 1 (.t 14) (.t 16)), .none⟩, ⟨(.some 18), (.mv (.t 0)), .none⟩, ⟨(.some 19), (.slS (.t 18) (.some (.k (.int .i64 3))) .none), .none⟩, ⟨(.some 3), (.mv (.t 17)), .none⟩, ⟨(.some 0), (.mv
  (.t 19)), .none⟩]) (.exit 1)) .skip))) (.dreg [⟨(.some 20), (.mv (.t 3)), .none⟩, ⟨(.some 21), (.mv (.t 0)), .none⟩, ⟨(.some 22), (.ixS (.t 21) (.k (.int .i64 0))), .none⟩, ⟨(.some 23), (.bs0 5 1 [(.t
  22)]), .none⟩, ⟨(.some 24), (.app 5 1 (.t 20) (.t 23)), .none⟩, ⟨(.some 25), (.mv (.t 0)), .none⟩, ⟨(.some 26), (.slS (.t 25) (.some (.k (.int .i64 1))) .none), .none⟩, ⟨(.some 3), (.mv (.t 24)),
  .none⟩, ⟨(.some 0), (.mv (.t 26)), .none⟩])))))) (.seq (.reg [⟨(.some 27), (.mv (.t 3)), .none⟩, ⟨(.some 2), (.mv (.t 27)), .none⟩]) .ret))))
theorem c16 : Try.f16.body.bind (cCode Try.prog 28) = some a16 := by kernel_rfl
theorem r16 : Try.f16.results.toList = [(.tmp 2)] := by kernel_rfl
theorem n16 : Try.f16.ntmps = 28 := by kernel_rfl
theorem e16 : Enters Try.prog 16 := enters_of Try.func16 (by kernel_rfl) (by kernel_rfl)

theorem txt_get0 (a : Nat) (t : List Nat) : (txt (a :: t))[0]? = some (UInt8.ofNat a) := txt_get (b := a :: t) (by simp)
theorem txt_get1 (a x : Nat) (t : List Nat) : (txt (a :: x :: t))[1]? = some (UInt8.ofNat x) := txt_get (b := a :: x :: t) (by simp)
theorem txt_get2 (a x y : Nat) (t : List Nat) : (txt (a :: x :: y :: t))[2]? = some (UInt8.ofNat y) := txt_get (b := a :: x :: y :: t) (by simp)
theorem u8_int {n : Nat} (h : n ≤ 255) : (((UInt8.ofNat n).toNat : Nat) : Int) = (n : Int) := u8_nat h
theorem code_num : ∀ h < 16, ∀ l < 16, IntKind.u8.wrap (orI .i64 (IntKind.i64.wrap (((h : Nat) : Int) * 16)) ((l : Nat) : Int)) = ((16 * h + l : Nat) : Int) := by decide +kernel

def codeW (b : List Nat) : Nat := match b with
  | a :: _ :: _ :: _ => if a = 37 then codeV b else 0
  | _ => 0

set_option maxRecDepth 10000 in
theorem code_pure (b : List Nat) (hb : ∀ n ∈ b, n ≤ 255) : Pure Try.prog 29 [.lit (.string (txt b))] [] (.tu [.lit (.int .u8 (codeW b : Nat)), .lit (.bool (isC b))]) := by
  refine pure0 Try.func29 c29 n29 e29 r29 (by simp) rfl ?_
  rcases Nat.lt_or_ge b.length 3 with h3 | h3
  · have a1 : decide (((txt b).size : Int) < 3) = true := by rw [txt_size]; simp only [decide_eq_true_eq]; omega
    have e1 : isC b = false := isC_short h3
    have e2 : codeW b = 0 := by
      unfold codeW
      split
      · simp at h3; omega
      · rfl
    rw [e1, e2]
    simp only [a29, astart, argSlots, a1, go_sem, Nat.reduceAdd, Nat.reduceEqDiff, Nat.reduceLT, reduceIte, reduceCtorEq, Nat.reduceBEq, Int.reduceLT, Int.reduceToNat, Int.reducePow, Nat.reduceLeDiff, Int.reduceLE, Nat.reduceMul, Nat.reduceSub]
    simp only [Done, resAV, resL, resOne, look_nil, look_cons, Nat.reduceEqDiff, if_true, if_false, reduceIte, ite_true, ite_false, Nat.zero_ne_one, Nat.one_ne_zero, reduceCtorEq, true_or, or_true, true_and, Option.some.injEq, AV.lit.injEq, Value.int.injEq, Value.bool.injEq]
    rfl
  · match b, h3 with
    | a :: x :: y :: t, _ =>
      have ha := hb a (by simp)
      have hx := hb x (by simp)
      have hy := hb y (by simp)
      have a1 : decide (((txt (a :: x :: y :: t)).size : Int) < 3) = false := by rw [txt_size]; simp only [decide_eq_false_iff_not, List.length_cons]; omega
      simp only [a29, astart, argSlots, a1, txt_get0, u8_int ha, go_sem, Nat.reduceAdd, Nat.reduceEqDiff, Nat.reduceLT, reduceIte, reduceCtorEq, Nat.reduceBEq, Int.reduceLT, Int.reduceToNat, Int.reducePow, Nat.reduceLeDiff, Int.reduceLE, Nat.reduceMul, Nat.reduceSub]
      by_cases h37 : a = 37
      · subst h37
        have b1 : ((((37 : Nat) : Int)) != 37) = false := rfl
        simp only [b1, txt_get1, txt_get2, u8_int hx, u8_int hy, go_sem, Nat.reduceAdd, Nat.reduceEqDiff, Nat.reduceLT, reduceIte, reduceCtorEq, Nat.reduceBEq, Int.reduceLT, Int.reduceToNat, Int.reducePow, Nat.reduceLeDiff, Int.reduceLE, Nat.reduceMul, Nat.reduceSub, bne_self_eq_false]
        refine callGo_pure (digit_pure x hx) (by rfl) ?_
        simp only [digA, txt_get1, txt_get2, u8_int hx, u8_int hy, go_sem, Nat.reduceAdd, Nat.reduceEqDiff, Nat.reduceLT, reduceIte, reduceCtorEq, Nat.reduceBEq, Int.reduceLT, Int.reduceToNat, Int.reducePow, Nat.reduceLeDiff, Int.reduceLE, Nat.reduceMul, Nat.reduceSub]
        refine callGo_pure (digit_pure y hy) (by rfl) ?_
        have hw : codeW (37 :: x :: y :: t) = 16 * (hexOf x).getD 0 + (hexOf y).getD 0 := rfl
        have hi : isC (37 :: x :: y :: t) = ((hexOf x).isSome && (hexOf y).isSome) := rfl
        have hn := code_num ((hexOf x).getD 0) (by have := hexD_le x; omega) ((hexOf y).getD 0) (by have := hexD_le y; omega)
        rw [hw, hi]
        cases (hexOf x).isSome
        · simp only [digA, hn, go_sem, Nat.reduceAdd, Nat.reduceEqDiff, Nat.reduceLT, reduceIte, reduceCtorEq, Nat.reduceBEq, Int.reduceLT, Int.reduceToNat, Int.reducePow, Nat.reduceLeDiff, Int.reduceLE, Nat.reduceMul, Nat.reduceSub]
          simp only [Done, resAV, resL, resOne, look_nil, look_cons, Nat.reduceEqDiff, if_true, if_false, reduceIte, ite_true, ite_false, Nat.zero_ne_one, Nat.one_ne_zero, reduceCtorEq, true_or, or_true, true_and, Option.some.injEq, AV.lit.injEq, Value.int.injEq, Value.bool.injEq]
          simp only [Bool.false_and]
        · simp only [digA, hn, go_sem, Nat.reduceAdd, Nat.reduceEqDiff, Nat.reduceLT, reduceIte, reduceCtorEq, Nat.reduceBEq, Int.reduceLT, Int.reduceToNat, Int.reducePow, Nat.reduceLeDiff, Int.reduceLE, Nat.reduceMul, Nat.reduceSub]
          simp only [Done, resAV, resL, resOne, look_nil, look_cons, Nat.reduceEqDiff, if_true, if_false, reduceIte, ite_true, ite_false, Nat.zero_ne_one, Nat.one_ne_zero, reduceCtorEq, true_or, or_true, true_and, Option.some.injEq, AV.lit.injEq, Value.int.injEq, Value.bool.injEq]
          try simp only [Bool.true_and]
      · have b1 : ((a : Int) != 37) = true := by simp only [bne_iff_ne, ne_eq]; omega
        have hw : codeW (a :: x :: y :: t) = 0 := by simp [codeW, h37]
        have hi : isC (a :: x :: y :: t) = false := by simp [isC, h37]
        rw [hw, hi]
        simp only [b1, go_sem, Nat.reduceAdd, Nat.reduceEqDiff, Nat.reduceLT, reduceIte, reduceCtorEq, Nat.reduceBEq, Int.reduceLT, Int.reduceToNat, Int.reducePow, Nat.reduceLeDiff, Int.reduceLE, Nat.reduceMul, Nat.reduceSub]
        simp only [Done, resAV, resL, resOne, look_nil, look_cons, Nat.reduceEqDiff, if_true, if_false, reduceIte, ite_true, ite_false, Nat.zero_ne_one, Nat.one_ne_zero, reduceCtorEq, true_or, or_true, true_and, Option.some.injEq, AV.lit.injEq, Value.int.injEq, Value.bool.injEq]
        rfl

theorem codeW_of {b : List Nat} (h : isC b = true) : codeW b = codeV b := by
  match b, h with
  | a :: x :: y :: t, h =>
    have : a = 37 := by simp only [isC, Bool.and_eq_true, beq_iff_eq] at h; exact h.1
    simp [codeW, this, codeV]

theorem txt_ne {b : List Nat} : ((txt b).toList == (⟨#[]⟩ : ByteArray).toList) = decide (b = []) := by
  rw [txt, ByteArray.toList_mk, ByteArray.toList_mk]
  cases b with
  | nil => rfl
  | cons a t => simp

/-- The length of the text in a slot. -/
def lenAt (t : Nat) (s : State) : Nat := match Ab.look s.slots t with
  | some (.lit (.string b)) => b.size
  | _ => 0

theorem slc_tail {b : List Nat} {k : Nat} (h : k ≤ b.length) : (if k ≤ b.length ∧ b.length ≤ b.length then some (k, b.length) else none : Option (Nat × Nat)) = some (k, b.length) := by rw [if_pos ⟨h, Nat.le_refl _⟩]
theorem txt_tail1 (a : Nat) (t : List Nat) : (txt (a :: t)).extract 1 (t.length + 1) = txt t := by
  have := txt_slice (a :: t) 1 (t.length + 1)
  rw [this, List.take_of_length_le (by simp)]; rfl
theorem txt_tail3 (a : Nat) (t : List Nat) : (txt (a :: t)).extract 3 (t.length + 1) = txt (t.drop 2) := by
  have := txt_slice (a :: t) 3 (t.length + 1)
  rw [this, List.take_of_length_le (by simp)]; rfl
theorem txt_tail (b : List Nat) (k : Nat) : (txt b).extract k b.length = txt (b.drop k) := by rw [txt_slice, List.take_length]

set_option maxRecDepth 10000 in
theorem pctDecode_pure (b : List Nat) (hb : ∀ n ∈ b, n ≤ 255) (hl : b.length ≤ 1099511627776) : Pure Try.prog 16 [.lit (.string (txt b))] [5] (.sl 5 (octs (decP b)) (some 0)) := by
  refine pure1 Try.func16 c16 n16 e16 r16 (by simp) ?_
  simp only [a16, astart, argSlots, go_sem, Nat.reduceAdd, Nat.reduceEqDiff, Nat.reduceLT, reduceIte, reduceCtorEq, Nat.reduceBEq, Int.reduceLT, Int.reduceToNat, Int.reducePow, Nat.reduceLeDiff, Int.reduceLE, Nat.reduceMul, Nat.reduceSub]
  refine loop_by (α := List Nat × List Nat) (fun x => ⟨[(0, some (.lit (.string (txt x.2)))), (3, some (.sl 5 (octs x.1) (some 0)))], [], [(0, 5)], 1⟩)
    (fun x => (∀ n ∈ x.2, n ≤ 255) ∧ x.1.length + x.2.length ≤ b.length ∧ decP b = x.1 ++ decP x.2) (fun x => x.2.length) (fun x y h => by
      have := congrArg (lenAt 0) h
      simpa [lenAt, Ab.look, txt_size] using this) ([], b) ((weak_nil 3 5 (by simp only [go_sem, Nat.reduceAdd, Nat.reduceEqDiff, Nat.reduceLT, reduceIte, reduceCtorEq, Nat.reduceBEq, Int.reduceLT, Int.reduceToNat, Int.reducePow, Nat.reduceLeDiff, Int.reduceLE, Nat.reduceMul, Nat.reduceSub])).trans (weak_by [0] (by simp) rfl ?_ trivial ?_ (by simp))) ⟨hb, by simp, rfl⟩ ?_
  · simp only [go_sem, Nat.reduceAdd, Nat.reduceEqDiff, Nat.reduceLT, reduceIte, reduceCtorEq, Nat.reduceBEq, Int.reduceLT, Int.reduceToNat, Int.reducePow, Nat.reduceLeDiff, Int.reduceLE, Nat.reduceMul, Nat.reduceSub, slotsBy, boxesBy, tipsBy, rawAt, nm, AV.ren, AV.renL, AV.under, AV.underL, List.all_nil, List.all_cons, bne_self_eq_false, List.getD_cons_zero, List.getD_cons_succ, List.length_nil, List.length_cons, and_true, true_and, octs, List.map_nil]
  · simp only [go_sem, Nat.reduceAdd, Nat.reduceEqDiff, Nat.reduceLT, reduceIte, reduceCtorEq, Nat.reduceBEq, Int.reduceLT, Int.reduceToNat, Int.reducePow, Nat.reduceLeDiff, Int.reduceLE, Nat.reduceMul, Nat.reduceSub, slotsBy, boxesBy, tipsBy, rawAt, nm, AV.ren, AV.renL, AV.under, AV.underL, List.all_nil, List.all_cons, bne_self_eq_false, List.getD_cons_zero, List.getD_cons_succ, List.length_nil, List.length_cons, and_true, true_and, beq_self_eq_true]
  · rintro ⟨acc, r⟩ ⟨hr, hlen, hdec⟩
    simp only at hr hlen hdec
    simp only [go_sem, Nat.reduceAdd, Nat.reduceEqDiff, Nat.reduceLT, reduceIte, reduceCtorEq, Nat.reduceBEq, Int.reduceLT, Int.reduceToNat, Int.reducePow, Nat.reduceLeDiff, Int.reduceLE, Nat.reduceMul, Nat.reduceSub]
    cases r with
    | nil =>
      simp only [binStr, txt_ne, decide_true, Bool.not_true, go_sem, Nat.reduceAdd, Nat.reduceEqDiff, Nat.reduceLT, reduceIte, reduceCtorEq, Nat.reduceBEq, Int.reduceLT, Int.reduceToNat, Int.reducePow, Nat.reduceLeDiff, Int.reduceLE, Nat.reduceMul, Nat.reduceSub]
      rw [decP_nil, List.append_nil] at hdec
      rw [hdec]
      exact ⟨.inr rfl, 0, by simp only [resAV, resL, resOne, go_sem, Nat.reduceAdd, Nat.reduceEqDiff, Nat.reduceLT, reduceIte, reduceCtorEq, Nat.reduceBEq, Int.reduceLT, Int.reduceToNat, Int.reducePow, Nat.reduceLeDiff, Int.reduceLE, Nat.reduceMul, Nat.reduceSub], by simp [go_sem, Nat.reduceAdd, Nat.reduceEqDiff, Nat.reduceLT, reduceIte, reduceCtorEq, Nat.reduceBEq, Int.reduceLT, Int.reduceToNat, Int.reducePow, Nat.reduceLeDiff, Int.reduceLE, Nat.reduceMul, Nat.reduceSub]⟩
    | cons a t =>
      have hd : decide (a :: t = []) = false := by simp
      have ha := hr a (by simp)
      simp only [List.length_cons] at hlen
      simp only [binStr, txt_ne, hd, Bool.not_false, go_sem, Nat.reduceAdd, Nat.reduceEqDiff, Nat.reduceLT, reduceIte, reduceCtorEq, Nat.reduceBEq, Int.reduceLT, Int.reduceToNat, Int.reducePow, Nat.reduceLeDiff, Int.reduceLE, Nat.reduceMul, Nat.reduceSub]
      refine callGo_pure (code_pure _ hr) (by rfl) ?_
      simp only [go_sem, Nat.reduceAdd, Nat.reduceEqDiff, Nat.reduceLT, reduceIte, reduceCtorEq, Nat.reduceBEq, Int.reduceLT, Int.reduceToNat, Int.reducePow, Nat.reduceLeDiff, Int.reduceLE, Nat.reduceMul, Nat.reduceSub]
      cases hi : isC (a :: t)
      · rw [decP_plain hi] at hdec
        simp only [txt_get0, u8_int ha, txt_size, slc_tail (show 1 ≤ (a :: t).length by simp), txt_tail1, Nat.le_refl, go_sem, Nat.reduceAdd, Nat.reduceEqDiff, Nat.reduceLT, reduceIte, reduceCtorEq, Nat.reduceBEq, Int.reduceLT, Int.reduceToNat, Int.reducePow, Nat.reduceLeDiff, Int.reduceLE, Nat.reduceMul, Nat.reduceSub]
        refine ⟨⟨by omega, by omega⟩, (acc ++ [a], t), weak_by [1] (by simp) rfl ?_ trivial ?_ (by simp), ⟨fun n hn => hr n (List.mem_cons_of_mem _ hn), by simp only [List.length_append, List.length_cons, List.length_nil]; omega, by rw [hdec]; simp⟩, by simp⟩
        · simp only [go_sem, Nat.reduceAdd, Nat.reduceEqDiff, Nat.reduceLT, reduceIte, reduceCtorEq, Nat.reduceBEq, Int.reduceLT, Int.reduceToNat, Int.reducePow, Nat.reduceLeDiff, Int.reduceLE, Nat.reduceMul, Nat.reduceSub, slotsBy, boxesBy, tipsBy, rawAt, nm, AV.ren, AV.renL, AV.under, AV.underL, List.all_nil, List.all_cons, bne_self_eq_false, List.getD_cons_zero, List.getD_cons_succ, List.length_nil, List.length_cons, and_true, true_and, octs_append]
          simp [octs]
        · simp only [go_sem, Nat.reduceAdd, Nat.reduceEqDiff, Nat.reduceLT, reduceIte, reduceCtorEq, Nat.reduceBEq, Int.reduceLT, Int.reduceToNat, Int.reducePow, Nat.reduceLeDiff, Int.reduceLE, Nat.reduceMul, Nat.reduceSub, slotsBy, boxesBy, tipsBy, rawAt, nm, AV.ren, AV.renL, AV.under, AV.underL, List.all_nil, List.all_cons, bne_self_eq_false, List.getD_cons_zero, List.getD_cons_succ, List.length_nil, List.length_cons, and_true, true_and, beq_self_eq_true]
      · rw [decP_code hi] at hdec
        have h3 := isC_len hi
        have h2 : 2 ≤ t.length := by simpa using h3
        simp only [codeW_of hi, txt_size, h2, txt_tail3, Nat.le_refl, and_self, go_sem, Nat.reduceAdd, Nat.reduceEqDiff, Nat.reduceLT, reduceIte, reduceCtorEq, Nat.reduceBEq, Int.reduceLT, Int.reduceToNat, Int.reducePow, Nat.reduceLeDiff, Int.reduceLE, Nat.reduceMul, Nat.reduceSub]
        have hd3 : (a :: t).drop 3 = t.drop 2 := rfl
        rw [hd3] at hdec
        refine ⟨⟨by omega, by omega⟩, (acc ++ [codeV (a :: t)], t.drop 2), weak_by [1] (by simp) rfl ?_ trivial ?_ (by simp), ⟨fun n hn => hr n (List.mem_cons_of_mem _ (List.mem_of_mem_drop hn)), by simp only [List.length_append, List.length_cons, List.length_nil, List.length_drop]; omega, by rw [hdec]; simp⟩, by simp only [List.length_drop, List.length_cons]; omega⟩
        · simp only [go_sem, Nat.reduceAdd, Nat.reduceEqDiff, Nat.reduceLT, reduceIte, reduceCtorEq, Nat.reduceBEq, Int.reduceLT, Int.reduceToNat, Int.reducePow, Nat.reduceLeDiff, Int.reduceLE, Nat.reduceMul, Nat.reduceSub, slotsBy, boxesBy, tipsBy, rawAt, nm, AV.ren, AV.renL, AV.under, AV.underL, List.all_nil, List.all_cons, bne_self_eq_false, List.getD_cons_zero, List.getD_cons_succ, List.length_nil, List.length_cons, and_true, true_and, octs_append]
          simp [octs]
        · simp only [go_sem, Nat.reduceAdd, Nat.reduceEqDiff, Nat.reduceLT, reduceIte, reduceCtorEq, Nat.reduceBEq, Int.reduceLT, Int.reduceToNat, Int.reducePow, Nat.reduceLeDiff, Int.reduceLE, Nat.reduceMul, Nat.reduceSub, slotsBy, boxesBy, tipsBy, rawAt, nm, AV.ren, AV.renL, AV.under, AV.underL, List.all_nil, List.all_cons, bne_self_eq_false, List.getD_cons_zero, List.getD_cons_succ, List.length_nil, List.length_cons, and_true, true_and, beq_self_eq_true]
end Go.Proofs.Yteekelelcbfekaa

/-! ## Saf8 -/

namespace Go.Proofs.Yteekelelcbfekaa
open Go Go.Ab
def a27 : ACode :=
  (.seq (.reg [⟨(.some 2), (.mv (.k (.slice .none 0 0))), .none⟩]) (.seq (.reg [⟨(.some 3), (.mv (.k (.slice .none 0 0))), .none⟩]) (.seq (.seq (.reg [⟨(.some 4), (.mv (.k (.int .i64 0))), .none⟩])
  (.block 0 (.loop (.seq (.seq (.reg [⟨(.some 9), (.mv (.t 4)), .none⟩, ⟨(.some 10), (.mv (.t 0)), .none⟩, ⟨(.some 11), (.lenS (.t 10)), .none⟩, ⟨(.some 12), (.bin .lss (.t 9) (.t 11)), .none⟩]) (.cond
  (.t 12) .skip (.exit 0))) (.seq (.block 1 (.seq (.seq (.reg [⟨(.some 15), (.mv (.t 0)), .none⟩, ⟨(.some 16), (.mv (.t 4)), .none⟩, ⟨(.some 17), (.ixS (.t 15) (.t 16)), .none⟩, ⟨(.some 18), (.bin .eql
  (.t 17) (.k (.int .u8 37))), .none⟩, ⟨(.some 19), (.mv (.t 18)), .none⟩, ⟨(.some 20), (.mv (.t 4)), (.some (19, true))⟩, ⟨(.some 21), (.bin .add (.t 20) (.k (.int .i64 2))), (.some (19, true))⟩,
  ⟨(.some 22), (.mv (.t 0)), (.some (19, true))⟩, ⟨(.some 23), (.lenS (.t 22)), (.some (19, true))⟩, ⟨(.some 24), (.bin .lss (.t 21) (.t 23)), (.some (19, true))⟩, ⟨(.some 25), (.pick (.t 19) (.t 24)
  (.k (.bool false))), .none⟩]) (.cond (.t 25) (.seq (.reg [⟨(.some 27), (.mv (.t 0)), .none⟩, ⟨(.some 28), (.mv (.t 4)), .none⟩, ⟨(.some 29), (.bin .add (.t 28) (.k (.int .i64 1))), .none⟩, ⟨(.some
  30), (.ixS (.t 27) (.t 29)), .none⟩, ⟨(.some 31), (.call (.f 43) [(.t 30)]), .none⟩, ⟨(.some 26), (.mv (.t 31)), .none⟩, ⟨(.some 32), (.ext (.t 26) 0), .none⟩, ⟨(.some 33), (.ext (.t 26) 1), .none⟩,
  ⟨(.some 5), (.mv (.t 32)), .none⟩, ⟨(.some 6), (.mv (.t 33)), .none⟩]) (.seq (.reg [⟨(.some 35), (.mv (.t 0)), .none⟩, ⟨(.some 36), (.mv (.t 4)), .none⟩, ⟨(.some 37), (.bin .add (.t 36) (.k (.int .i64
  2))), .none⟩, ⟨(.some 38), (.ixS (.t 35) (.t 37)), .none⟩, ⟨(.some 39), (.call (.f 43) [(.t 38)]), .none⟩, ⟨(.some 34), (.mv (.t 39)), .none⟩, ⟨(.some 40), (.ext (.t 34) 0), .none⟩, ⟨(.some 41), (.ext
  (.t 34) 1), .none⟩, ⟨(.some 7), (.mv (.t 40)), .none⟩, ⟨(.some 8), (.mv (.t 41)), .none⟩]) (.seq (.reg [⟨(.some 42), (.mv (.t 6)), .none⟩, ⟨(.some 43), (.mv (.t 42)), .none⟩, ⟨(.some 44), (.mv (.t
  8)), (.some (43, true))⟩, ⟨(.some 45), (.pick (.t 43) (.t 44) (.k (.bool false))), .none⟩]) (.cond (.t 45) (.seq (.reg [⟨(.some 46), (.mv (.t 3)), .none⟩, ⟨(.some 47), (.mv (.t 5)), .none⟩, ⟨(.some
  48), (.bin .mul (.k (.int .i64 16)) (.t 47)), .none⟩, ⟨(.some 49), (.mv (.t 7)), .none⟩, ⟨(.some 50), (.bin .add (.t 48) (.t 49)), .none⟩, ⟨(.some 51), (.cvI .u8 (.t 50)), .none⟩, ⟨(.some 52), (.bs 5
  1 [(.t 51)]), .none⟩, ⟨(.some 53), (.app 5 1 (.t 46) (.t 52)), .none⟩, ⟨(.some 3), (.mv (.t 53)), .none⟩]) (.seq (.reg [⟨(.some 54), (.mv (.t 4)), .none⟩, ⟨(.some 55), (.bin .add (.t 54) (.k (.int
  .i64 2))), .none⟩, ⟨(.some 4), (.mv (.t 55)), .none⟩]) (.exit 1))) .skip)))) .skip)) (.reg [⟨(.some 56), (.mv (.t 3)), .none⟩, ⟨(.some 57), (.mv (.t 0)), .none⟩, ⟨(.some 58), (.mv (.t 4)), .none⟩,
  ⟨(.some 59), (.ixS (.t 57) (.t 58)), .none⟩, ⟨(.some 60), (.bs 5 1 [(.t 59)]), .none⟩, ⟨(.some 61), (.app 5 1 (.t 56) (.t 60)), .none⟩, ⟨(.some 3), (.mv (.t 61)), .none⟩]))) (.reg [⟨(.some 13), (.mv
  (.t 4)), .none⟩, ⟨(.some 14), (.bin .add (.t 13) (.k (.int .i64 1))), .none⟩, ⟨(.some 4), (.mv (.t 14)), .none⟩])))))) (.seq (.reg [⟨(.some 62), (.mv (.t 3)), .none⟩, ⟨(.some 2), (.mv (.t 62)),
  .none⟩]) .ret))))
theorem c27 : Try.f27.body.bind (cCode Try.prog 63) = some a27 := by kernel_rfl
theorem r27 : Try.f27.results.toList = [(.tmp 2)] := by kernel_rfl
theorem n27 : Try.f27.ntmps = 63 := by kernel_rfl
theorem e27 : Enters Try.prog 27 := enters_of Try.func27 (by kernel_rfl) (by kernel_rfl)
def a24 : ACode :=
  (.seq (.reg [⟨(.some 4), (.mv (.k (.bool false))), .none⟩]) (.seq (.seq (.reg [⟨(.some 9), (.mv (.t 1)), .none⟩, ⟨(.some 10), (.bin .add (.t 9) (.k (.int .i64 2))), .none⟩, ⟨(.some 11), (.mv (.t 0)),
  .none⟩, ⟨(.some 12), (.lenS (.t 11)), .none⟩, ⟨(.some 13), (.bin .geq (.t 10) (.t 12)), .none⟩, ⟨(.some 14), (.mv (.t 13)), .none⟩, ⟨(.some 15), (.mv (.t 0)), (.some (14, false))⟩, ⟨(.some 16), (.mv
  (.t 1)), (.some (14, false))⟩, ⟨(.some 17), (.ixS (.t 15) (.t 16)), (.some (14, false))⟩, ⟨(.some 18), (.bin .neq (.t 17) (.k (.int .u8 37))), (.some (14, false))⟩, ⟨(.some 19), (.pick (.t 14) (.k
  (.bool true)) (.t 18)), .none⟩]) (.cond (.t 19) (.seq (.reg [⟨(.some 4), (.mv (.k (.bool false))), .none⟩]) .ret) .skip)) (.seq (.reg [⟨(.some 21), (.mv (.t 0)), .none⟩, ⟨(.some 22), (.mv (.t 1)),
  .none⟩, ⟨(.some 23), (.bin .add (.t 22) (.k (.int .i64 1))), .none⟩, ⟨(.some 24), (.ixS (.t 21) (.t 23)), .none⟩, ⟨(.some 25), (.call (.f 43) [(.t 24)]), .none⟩, ⟨(.some 20), (.mv (.t 25)), .none⟩,
  ⟨(.some 26), (.ext (.t 20) 0), .none⟩, ⟨(.some 27), (.ext (.t 20) 1), .none⟩, ⟨(.some 5), (.mv (.t 26)), .none⟩, ⟨(.some 6), (.mv (.t 27)), .none⟩]) (.seq (.reg [⟨(.some 29), (.mv (.t 0)), .none⟩,
  ⟨(.some 30), (.mv (.t 1)), .none⟩, ⟨(.some 31), (.bin .add (.t 30) (.k (.int .i64 2))), .none⟩, ⟨(.some 32), (.ixS (.t 29) (.t 31)), .none⟩, ⟨(.some 33), (.call (.f 43) [(.t 32)]), .none⟩, ⟨(.some
  28), (.mv (.t 33)), .none⟩, ⟨(.some 34), (.ext (.t 28) 0), .none⟩, ⟨(.some 35), (.ext (.t 28) 1), .none⟩, ⟨(.some 7), (.mv (.t 34)), .none⟩, ⟨(.some 8), (.mv (.t 35)), .none⟩]) (.seq (.reg [⟨(.some
  36), (.mv (.t 6)), .none⟩, ⟨(.some 37), (.mv (.t 36)), .none⟩, ⟨(.some 38), (.mv (.t 8)), (.some (37, true))⟩, ⟨(.some 39), (.pick (.t 37) (.t 38) (.k (.bool false))), .none⟩, ⟨(.some 4), (.mv (.t
  39)), .none⟩]) .ret)))))
theorem c24 : Try.f24.body.bind (cCode Try.prog 40) = some a24 := by kernel_rfl
theorem r24 : Try.f24.results.toList = [(.tmp 4)] := by kernel_rfl
theorem n24 : Try.f24.ntmps = 40 := by kernel_rfl
theorem e24 : Enters Try.prog 24 := enters_of Try.func24 (by kernel_rfl) (by kernel_rfl)

theorem code_num2 : ∀ h < 16, ∀ l < 16, IntKind.u8.wrap (IntKind.i64.wrap (IntKind.i64.wrap (16 * ((h : Nat) : Int)) + ((l : Nat) : Int))) = ((16 * h + l : Nat) : Int) := by decide +kernel
theorem drop3 {b : List Nat} {i : Nat} (h : i + 2 < b.length) : b.drop i = b[i] :: b[i + 1] :: b[i + 2] :: b.drop (i + 3) := by
  rw [List.drop_eq_getElem_cons (by omega), List.drop_eq_getElem_cons (by omega), List.drop_eq_getElem_cons (by omega)]

set_option maxRecDepth 10000 in
theorem refDecode_pure (b : List Nat) (hb : ∀ n ∈ b, n ≤ 255) (hl : b.length ≤ 1099511627776) : Pure Try.prog 27 [.lit (.string (txt b))] [5] (.sl 5 (octs (decP b)) (some 0)) := by
  refine pure1 Try.func27 c27 n27 e27 r27 (by simp) ?_
  simp only [a27, astart, argSlots, go_sem, Nat.reduceAdd, Nat.reduceEqDiff, Nat.reduceLT, reduceIte, reduceCtorEq, Nat.reduceBEq, Int.reduceLT, Int.reduceToNat, Int.reducePow, Nat.reduceLeDiff, Int.reduceLE, Nat.reduceMul, Nat.reduceSub]
  refine loop_by (α := List Nat × Nat) (fun x => ⟨[(0, some (.lit (.string (txt b)))), (3, some (.sl 5 (octs x.1) (some 0))), (4, some (.lit (.int .i64 ((x.2 : Nat) : Int))))], [], [(0, 5)], 1⟩)
    (fun x => x.2 ≤ b.length ∧ x.1.length ≤ x.2 ∧ decP b = x.1 ++ decP (b.drop x.2)) (fun x => b.length - x.2) (fun x y h => by
      have := congrArg (cnt 4) h
      simp [cnt, Ab.look] at this
      rw [this]) ([], 0) ((weak_nil 3 5 (by simp only [go_sem, Nat.reduceAdd, Nat.reduceEqDiff, Nat.reduceLT, reduceIte, reduceCtorEq, Nat.reduceBEq, Int.reduceLT, Int.reduceToNat, Int.reducePow, Nat.reduceLeDiff, Int.reduceLE, Nat.reduceMul, Nat.reduceSub])).trans (weak_by [0] (by simp) rfl ?_ trivial ?_ (by simp))) ⟨by simp, by simp, rfl⟩ ?_
  · simp only [go_sem, Nat.reduceAdd, Nat.reduceEqDiff, Nat.reduceLT, reduceIte, reduceCtorEq, Nat.reduceBEq, Int.reduceLT, Int.reduceToNat, Int.reducePow, Nat.reduceLeDiff, Int.reduceLE, Nat.reduceMul, Nat.reduceSub, slotsBy, boxesBy, tipsBy, rawAt, nm, AV.ren, AV.renL, AV.under, AV.underL, List.all_nil, List.all_cons, bne_self_eq_false, List.getD_cons_zero, List.getD_cons_succ, List.length_nil, List.length_cons, and_true, true_and, octs, List.map_nil, Int.natCast_zero]
  · simp only [go_sem, Nat.reduceAdd, Nat.reduceEqDiff, Nat.reduceLT, reduceIte, reduceCtorEq, Nat.reduceBEq, Int.reduceLT, Int.reduceToNat, Int.reducePow, Nat.reduceLeDiff, Int.reduceLE, Nat.reduceMul, Nat.reduceSub, slotsBy, boxesBy, tipsBy, rawAt, nm, AV.ren, AV.renL, AV.under, AV.underL, List.all_nil, List.all_cons, bne_self_eq_false, List.getD_cons_zero, List.getD_cons_succ, List.length_nil, List.length_cons, and_true, true_and, beq_self_eq_true]
  · rintro ⟨acc, i⟩ ⟨hi, hlen, hdec⟩
    simp only at hi hlen hdec
    simp only [go_sem, Nat.reduceAdd, Nat.reduceEqDiff, Nat.reduceLT, reduceIte, reduceCtorEq, Nat.reduceBEq, Int.reduceLT, Int.reduceToNat, Int.reducePow, Nat.reduceLeDiff, Int.reduceLE, Nat.reduceMul, Nat.reduceSub]
    rcases Nat.lt_or_eq_of_le hi with hlt | heq
    · have hbi := hb b[i] (List.getElem_mem hlt)
      have plain : isC (b.drop i) = false → decP b = (acc ++ [b[i]]) ++ decP (b.drop (i + 1)) := fun h => by
        rw [List.drop_eq_getElem_cons hlt] at h hdec
        rw [decP_plain h] at hdec
        rw [hdec]; simp
      simp only [txt_size, dec_lt hlt, txt_get hlt, u8_int hbi, go_sem, Nat.reduceAdd, Nat.reduceEqDiff, Nat.reduceLT, reduceIte, reduceCtorEq, Nat.reduceBEq, Int.reduceLT, Int.reduceToNat, Int.reducePow, Nat.reduceLeDiff, Int.reduceLE, Nat.reduceMul, Nat.reduceSub]
      have h1 : IntKind.i64.wrap ((i : Int) + 1) = ((i + 1 : Nat) : Int) := by rw [wrap_i64 _ (by omega) (by omega)]; omega
      have h2 : IntKind.i64.wrap ((i : Int) + 2) = ((i + 2 : Nat) : Int) := by rw [wrap_i64 _ (by omega) (by omega)]; omega
      by_cases h37 : b[i] = 37
      · have b1 : (((b[i] : Nat) : Int) == 37) = true := by rw [h37]; rfl
        simp only [b1, h2, go_sem, Nat.reduceAdd, Nat.reduceEqDiff, Nat.reduceLT, reduceIte, reduceCtorEq, Nat.reduceBEq, Int.reduceLT, Int.reduceToNat, Int.reducePow, Nat.reduceLeDiff, Int.reduceLE, Nat.reduceMul, Nat.reduceSub]
        by_cases hin : i + 2 < b.length
        · have e := drop3 hin
          have hx := hb b[i + 1] (List.getElem_mem (by omega))
          have hy := hb b[i + 2] (List.getElem_mem (by omega))
          simp only [txt_size, dec_lt hin, h1, txt_get (show i + 1 < b.length by omega), u8_int hx, go_sem, Nat.reduceAdd, Nat.reduceEqDiff, Nat.reduceLT, reduceIte, reduceCtorEq, Nat.reduceBEq, Int.reduceLT, Int.reduceToNat, Int.reducePow, Nat.reduceLeDiff, Int.reduceLE, Nat.reduceMul, Nat.reduceSub]
          refine callGo_pure (refDigit_pure _ hx) (by rfl) ?_
          simp only [digA, h2, txt_get hin, u8_int hy, go_sem, Nat.reduceAdd, Nat.reduceEqDiff, Nat.reduceLT, reduceIte, reduceCtorEq, Nat.reduceBEq, Int.reduceLT, Int.reduceToNat, Int.reducePow, Nat.reduceLeDiff, Int.reduceLE, Nat.reduceMul, Nat.reduceSub]
          refine callGo_pure (refDigit_pure _ hy) (by rfl) ?_
          have hi : isC (b.drop i) = ((hexOf b[i + 1]).isSome && (hexOf b[i + 2]).isSome) := by rw [e]; simp [isC, h37]
          have hv : codeV (b.drop i) = 16 * (hexOf b[i + 1]).getD 0 + (hexOf b[i + 2]).getD 0 := by rw [e]; rfl
          have hn := code_num2 ((hexOf b[i + 1]).getD 0) (by have := hexD_le b[i + 1]; omega) ((hexOf b[i + 2]).getD 0) (by have := hexD_le b[i + 2]; omega)
          rw [← hv] at hn
          cases p1 : (hexOf b[i + 1]).isSome
          · rw [p1, Bool.false_and] at hi
            simp only [digA, txt_get hlt, u8_int hbi, p1, go_sem, Nat.reduceAdd, Nat.reduceEqDiff, Nat.reduceLT, reduceIte, reduceCtorEq, Nat.reduceBEq, Int.reduceLT, Int.reduceToNat, Int.reducePow, Nat.reduceLeDiff, Int.reduceLE, Nat.reduceMul, Nat.reduceSub]
            refine ⟨⟨by omega, by omega⟩, (acc ++ [b[i]], i + 1), weak_by [2] (by simp) rfl ?_ trivial ?_ (by simp), ⟨by omega, by simp only [List.length_append, List.length_cons, List.length_nil]; omega, plain hi⟩, by omega⟩
            · simp only [go_sem, Nat.reduceAdd, Nat.reduceEqDiff, Nat.reduceLT, reduceIte, reduceCtorEq, Nat.reduceBEq, Int.reduceLT, Int.reduceToNat, Int.reducePow, Nat.reduceLeDiff, Int.reduceLE, Nat.reduceMul, Nat.reduceSub, slotsBy, boxesBy, tipsBy, rawAt, nm, AV.ren, AV.renL, AV.under, AV.underL, List.all_nil, List.all_cons, bne_self_eq_false, List.getD_cons_zero, List.getD_cons_succ, List.length_nil, List.length_cons, and_true, true_and, h1, octs_append]
              simp [octs]
            · simp only [go_sem, Nat.reduceAdd, Nat.reduceEqDiff, Nat.reduceLT, reduceIte, reduceCtorEq, Nat.reduceBEq, Int.reduceLT, Int.reduceToNat, Int.reducePow, Nat.reduceLeDiff, Int.reduceLE, Nat.reduceMul, Nat.reduceSub, slotsBy, boxesBy, tipsBy, rawAt, nm, AV.ren, AV.renL, AV.under, AV.underL, List.all_nil, List.all_cons, bne_self_eq_false, List.getD_cons_zero, List.getD_cons_succ, List.length_nil, List.length_cons, and_true, true_and, beq_self_eq_true]
          · cases p2 : (hexOf b[i + 2]).isSome
            · rw [p1, p2, Bool.and_false] at hi
              simp only [digA, txt_get hlt, u8_int hbi, p1, p2, go_sem, Nat.reduceAdd, Nat.reduceEqDiff, Nat.reduceLT, reduceIte, reduceCtorEq, Nat.reduceBEq, Int.reduceLT, Int.reduceToNat, Int.reducePow, Nat.reduceLeDiff, Int.reduceLE, Nat.reduceMul, Nat.reduceSub]
              refine ⟨⟨by omega, by omega⟩, (acc ++ [b[i]], i + 1), weak_by [2] (by simp) rfl ?_ trivial ?_ (by simp), ⟨by omega, by simp only [List.length_append, List.length_cons, List.length_nil]; omega, plain hi⟩, by omega⟩
              · simp only [go_sem, Nat.reduceAdd, Nat.reduceEqDiff, Nat.reduceLT, reduceIte, reduceCtorEq, Nat.reduceBEq, Int.reduceLT, Int.reduceToNat, Int.reducePow, Nat.reduceLeDiff, Int.reduceLE, Nat.reduceMul, Nat.reduceSub, slotsBy, boxesBy, tipsBy, rawAt, nm, AV.ren, AV.renL, AV.under, AV.underL, List.all_nil, List.all_cons, bne_self_eq_false, List.getD_cons_zero, List.getD_cons_succ, List.length_nil, List.length_cons, and_true, true_and, h1, octs_append]
                simp [octs]
              · simp only [go_sem, Nat.reduceAdd, Nat.reduceEqDiff, Nat.reduceLT, reduceIte, reduceCtorEq, Nat.reduceBEq, Int.reduceLT, Int.reduceToNat, Int.reducePow, Nat.reduceLeDiff, Int.reduceLE, Nat.reduceMul, Nat.reduceSub, slotsBy, boxesBy, tipsBy, rawAt, nm, AV.ren, AV.renL, AV.under, AV.underL, List.all_nil, List.all_cons, bne_self_eq_false, List.getD_cons_zero, List.getD_cons_succ, List.length_nil, List.length_cons, and_true, true_and, beq_self_eq_true]
            · rw [p1, p2, Bool.and_true] at hi
              simp only [digA, hn, h2, p1, p2, go_sem, Nat.reduceAdd, Nat.reduceEqDiff, Nat.reduceLT, reduceIte, reduceCtorEq, Nat.reduceBEq, Int.reduceLT, Int.reduceToNat, Int.reducePow, Nat.reduceLeDiff, Int.reduceLE, Nat.reduceMul, Nat.reduceSub]
              have h3 := isC_len hi
              rw [List.length_drop] at h3
              rw [decP_code hi, List.drop_drop] at hdec
              have hw3 : IntKind.i64.wrap (((i + 2 : Nat) : Int) + 1) = ((i + 3 : Nat) : Int) := by rw [wrap_i64 _ (by omega) (by omega)]; omega
              refine ⟨⟨by omega, by omega⟩, (acc ++ [codeV (b.drop i)], i + 3), weak_by [2] (by simp) rfl ?_ trivial ?_ (by simp), ⟨by omega, by simp only [List.length_append, List.length_cons, List.length_nil]; omega, by rw [hdec]; simp⟩, by omega⟩
              · simp only [go_sem, Nat.reduceAdd, Nat.reduceEqDiff, Nat.reduceLT, reduceIte, reduceCtorEq, Nat.reduceBEq, Int.reduceLT, Int.reduceToNat, Int.reducePow, Nat.reduceLeDiff, Int.reduceLE, Nat.reduceMul, Nat.reduceSub, slotsBy, boxesBy, tipsBy, rawAt, nm, AV.ren, AV.renL, AV.under, AV.underL, List.all_nil, List.all_cons, bne_self_eq_false, List.getD_cons_zero, List.getD_cons_succ, List.length_nil, List.length_cons, and_true, true_and, hw3, octs_append]
                simp [octs]
              · simp only [go_sem, Nat.reduceAdd, Nat.reduceEqDiff, Nat.reduceLT, reduceIte, reduceCtorEq, Nat.reduceBEq, Int.reduceLT, Int.reduceToNat, Int.reducePow, Nat.reduceLeDiff, Int.reduceLE, Nat.reduceMul, Nat.reduceSub, slotsBy, boxesBy, tipsBy, rawAt, nm, AV.ren, AV.renL, AV.under, AV.underL, List.all_nil, List.all_cons, bne_self_eq_false, List.getD_cons_zero, List.getD_cons_succ, List.length_nil, List.length_cons, and_true, true_and, beq_self_eq_true]
        · have b2 : decide ((((i + 2 : Nat)) : Int) < ((b.length : Nat) : Int)) = false := by simp only [decide_eq_false_iff_not]; omega
          have hi : isC (b.drop i) = false := isC_short (by rw [List.length_drop]; omega)
          simp only [txt_size, b2, txt_get hlt, u8_int hbi, go_sem, Nat.reduceAdd, Nat.reduceEqDiff, Nat.reduceLT, reduceIte, reduceCtorEq, Nat.reduceBEq, Int.reduceLT, Int.reduceToNat, Int.reducePow, Nat.reduceLeDiff, Int.reduceLE, Nat.reduceMul, Nat.reduceSub]
          refine ⟨⟨by omega, by omega⟩, (acc ++ [b[i]], i + 1), weak_by [2] (by simp) rfl ?_ trivial ?_ (by simp), ⟨by omega, by simp only [List.length_append, List.length_cons, List.length_nil]; omega, plain hi⟩, by omega⟩
          · simp only [go_sem, Nat.reduceAdd, Nat.reduceEqDiff, Nat.reduceLT, reduceIte, reduceCtorEq, Nat.reduceBEq, Int.reduceLT, Int.reduceToNat, Int.reducePow, Nat.reduceLeDiff, Int.reduceLE, Nat.reduceMul, Nat.reduceSub, slotsBy, boxesBy, tipsBy, rawAt, nm, AV.ren, AV.renL, AV.under, AV.underL, List.all_nil, List.all_cons, bne_self_eq_false, List.getD_cons_zero, List.getD_cons_succ, List.length_nil, List.length_cons, and_true, true_and, h1, octs_append]
            simp [octs]
          · simp only [go_sem, Nat.reduceAdd, Nat.reduceEqDiff, Nat.reduceLT, reduceIte, reduceCtorEq, Nat.reduceBEq, Int.reduceLT, Int.reduceToNat, Int.reducePow, Nat.reduceLeDiff, Int.reduceLE, Nat.reduceMul, Nat.reduceSub, slotsBy, boxesBy, tipsBy, rawAt, nm, AV.ren, AV.renL, AV.under, AV.underL, List.all_nil, List.all_cons, bne_self_eq_false, List.getD_cons_zero, List.getD_cons_succ, List.length_nil, List.length_cons, and_true, true_and, beq_self_eq_true]
      · have b1 : (((b[i] : Nat) : Int) == 37) = false := by simp only [beq_eq_false_iff_ne, ne_eq]; omega
        have hi : isC (b.drop i) = false := by
          rw [List.drop_eq_getElem_cons hlt]
          cases hh : b.drop (i + 1) with
          | nil => rfl
          | cons x q => cases q with
            | nil => rfl
            | cons y q => simp [isC, h37]
        simp only [b1, txt_get hlt, u8_int hbi, go_sem, Nat.reduceAdd, Nat.reduceEqDiff, Nat.reduceLT, reduceIte, reduceCtorEq, Nat.reduceBEq, Int.reduceLT, Int.reduceToNat, Int.reducePow, Nat.reduceLeDiff, Int.reduceLE, Nat.reduceMul, Nat.reduceSub]
        refine ⟨⟨by omega, by omega⟩, (acc ++ [b[i]], i + 1), weak_by [2] (by simp) rfl ?_ trivial ?_ (by simp), ⟨by omega, by simp only [List.length_append, List.length_cons, List.length_nil]; omega, plain hi⟩, by omega⟩
        · simp only [go_sem, Nat.reduceAdd, Nat.reduceEqDiff, Nat.reduceLT, reduceIte, reduceCtorEq, Nat.reduceBEq, Int.reduceLT, Int.reduceToNat, Int.reducePow, Nat.reduceLeDiff, Int.reduceLE, Nat.reduceMul, Nat.reduceSub, slotsBy, boxesBy, tipsBy, rawAt, nm, AV.ren, AV.renL, AV.under, AV.underL, List.all_nil, List.all_cons, bne_self_eq_false, List.getD_cons_zero, List.getD_cons_succ, List.length_nil, List.length_cons, and_true, true_and, h1, octs_append]
          simp [octs]
        · simp only [go_sem, Nat.reduceAdd, Nat.reduceEqDiff, Nat.reduceLT, reduceIte, reduceCtorEq, Nat.reduceBEq, Int.reduceLT, Int.reduceToNat, Int.reducePow, Nat.reduceLeDiff, Int.reduceLE, Nat.reduceMul, Nat.reduceSub, slotsBy, boxesBy, tipsBy, rawAt, nm, AV.ren, AV.renL, AV.under, AV.underL, List.all_nil, List.all_cons, bne_self_eq_false, List.getD_cons_zero, List.getD_cons_succ, List.length_nil, List.length_cons, and_true, true_and, beq_self_eq_true]
    · subst heq
      rw [List.drop_length, decP_nil, List.append_nil] at hdec
      rw [hdec]
      simp only [txt_size, dec_irr, go_sem, Nat.reduceAdd, Nat.reduceEqDiff, Nat.reduceLT, reduceIte, reduceCtorEq, Nat.reduceBEq, Int.reduceLT, Int.reduceToNat, Int.reducePow, Nat.reduceLeDiff, Int.reduceLE, Nat.reduceMul, Nat.reduceSub]
      exact ⟨.inr rfl, 0, by simp only [resAV, resL, resOne, go_sem, Nat.reduceAdd, Nat.reduceEqDiff, Nat.reduceLT, reduceIte, reduceCtorEq, Nat.reduceBEq, Int.reduceLT, Int.reduceToNat, Int.reducePow, Nat.reduceLeDiff, Int.reduceLE, Nat.reduceMul, Nat.reduceSub], by simp [go_sem, Nat.reduceAdd, Nat.reduceEqDiff, Nat.reduceLT, reduceIte, reduceCtorEq, Nat.reduceBEq, Int.reduceLT, Int.reduceToNat, Int.reducePow, Nat.reduceLeDiff, Int.reduceLE, Nat.reduceMul, Nat.reduceSub]⟩

set_option maxRecDepth 10000 in
theorem is_pure (b : List Nat) (i : Nat) (hb : ∀ n ∈ b, n ≤ 255) (hl : b.length ≤ 1099511627776) (hi : i ≤ b.length) : Pure Try.prog 24 [.lit (.string (txt b)), .lit (.int .i64 (i : Int))] [] (.lit (.bool (isC (b.drop i)))) := by
  refine pure0 Try.func24 c24 n24 e24 r24 (by simp) rfl ?_
  have h1 : IntKind.i64.wrap ((i : Int) + 1) = ((i + 1 : Nat) : Int) := by rw [wrap_i64 _ (by omega) (by omega)]; omega
  have h2 : IntKind.i64.wrap ((i : Int) + 2) = ((i + 2 : Nat) : Int) := by rw [wrap_i64 _ (by omega) (by omega)]; omega
  simp only [a24, astart, argSlots, txt_size, h2, go_sem, Nat.reduceAdd, Nat.reduceEqDiff, Nat.reduceLT, reduceIte, reduceCtorEq, Nat.reduceBEq, Int.reduceLT, Int.reduceToNat, Int.reducePow, Nat.reduceLeDiff, Int.reduceLE, Nat.reduceMul, Nat.reduceSub]
  by_cases hin : i + 2 < b.length
  · have b1 : decide ((((i + 2 : Nat)) : Int) ≥ ((b.length : Nat) : Int)) = false := by simp only [decide_eq_false_iff_not]; omega
    have e := drop3 hin
    have ha := hb b[i] (List.getElem_mem (by omega))
    have hx := hb b[i + 1] (List.getElem_mem (by omega))
    have hy := hb b[i + 2] (List.getElem_mem (by omega))
    simp only [b1, txt_get (show i < b.length by omega), u8_int ha, go_sem, Nat.reduceAdd, Nat.reduceEqDiff, Nat.reduceLT, reduceIte, reduceCtorEq, Nat.reduceBEq, Int.reduceLT, Int.reduceToNat, Int.reducePow, Nat.reduceLeDiff, Int.reduceLE, Nat.reduceMul, Nat.reduceSub]
    by_cases h37 : b[i] = 37
    · have b2 : (((b[i] : Nat) : Int) != 37) = false := by rw [h37]; rfl
      have hi : isC (b.drop i) = ((hexOf b[i + 1]).isSome && (hexOf b[i + 2]).isSome) := by rw [e]; simp [isC, h37]
      simp only [b2, h1, txt_get (show i + 1 < b.length by omega), u8_int hx, go_sem, Nat.reduceAdd, Nat.reduceEqDiff, Nat.reduceLT, reduceIte, reduceCtorEq, Nat.reduceBEq, Int.reduceLT, Int.reduceToNat, Int.reducePow, Nat.reduceLeDiff, Int.reduceLE, Nat.reduceMul, Nat.reduceSub]
      refine callGo_pure (refDigit_pure _ hx) (by rfl) ?_
      simp only [digA, h2, txt_get hin, u8_int hy, go_sem, Nat.reduceAdd, Nat.reduceEqDiff, Nat.reduceLT, reduceIte, reduceCtorEq, Nat.reduceBEq, Int.reduceLT, Int.reduceToNat, Int.reducePow, Nat.reduceLeDiff, Int.reduceLE, Nat.reduceMul, Nat.reduceSub]
      refine callGo_pure (refDigit_pure _ hy) (by rfl) ?_
      rw [hi]
      cases (hexOf b[i + 1]).isSome
      · simp only [digA, go_sem, Nat.reduceAdd, Nat.reduceEqDiff, Nat.reduceLT, reduceIte, reduceCtorEq, Nat.reduceBEq, Int.reduceLT, Int.reduceToNat, Int.reducePow, Nat.reduceLeDiff, Int.reduceLE, Nat.reduceMul, Nat.reduceSub]
        simp only [Done, resAV, resL, resOne, look_nil, look_cons, Nat.reduceEqDiff, if_true, if_false, reduceIte, ite_true, ite_false, Nat.zero_ne_one, Nat.one_ne_zero, reduceCtorEq, true_or, or_true, true_and, Option.some.injEq, AV.lit.injEq, Value.int.injEq, Value.bool.injEq]
        rfl
      · simp only [digA, go_sem, Nat.reduceAdd, Nat.reduceEqDiff, Nat.reduceLT, reduceIte, reduceCtorEq, Nat.reduceBEq, Int.reduceLT, Int.reduceToNat, Int.reducePow, Nat.reduceLeDiff, Int.reduceLE, Nat.reduceMul, Nat.reduceSub]
        simp only [Done, resAV, resL, resOne, look_nil, look_cons, Nat.reduceEqDiff, if_true, if_false, reduceIte, ite_true, ite_false, Nat.zero_ne_one, Nat.one_ne_zero, reduceCtorEq, true_or, or_true, true_and, Option.some.injEq, AV.lit.injEq, Value.int.injEq, Value.bool.injEq]
        try rfl
    · have b2 : (((b[i] : Nat) : Int) != 37) = true := by simp only [bne_iff_ne, ne_eq]; omega
      have hi : isC (b.drop i) = false := by rw [e]; simp [isC, h37]
      rw [hi]
      simp only [b2, go_sem, Nat.reduceAdd, Nat.reduceEqDiff, Nat.reduceLT, reduceIte, reduceCtorEq, Nat.reduceBEq, Int.reduceLT, Int.reduceToNat, Int.reducePow, Nat.reduceLeDiff, Int.reduceLE, Nat.reduceMul, Nat.reduceSub]
      simp only [Done, resAV, resL, resOne, look_nil, look_cons, Nat.reduceEqDiff, if_true, if_false, reduceIte, ite_true, ite_false, Nat.zero_ne_one, Nat.one_ne_zero, reduceCtorEq, true_or, or_true, true_and, Option.some.injEq, AV.lit.injEq, Value.int.injEq, Value.bool.injEq]
  · have b1 : decide ((((i + 2 : Nat)) : Int) ≥ ((b.length : Nat) : Int)) = true := by simp only [decide_eq_true_eq]; omega
    have hi : isC (b.drop i) = false := isC_short (by rw [List.length_drop]; omega)
    rw [hi]
    simp only [b1, go_sem, Nat.reduceAdd, Nat.reduceEqDiff, Nat.reduceLT, reduceIte, reduceCtorEq, Nat.reduceBEq, Int.reduceLT, Int.reduceToNat, Int.reducePow, Nat.reduceLeDiff, Int.reduceLE, Nat.reduceMul, Nat.reduceSub]
    simp only [Done, resAV, resL, resOne, look_nil, look_cons, Nat.reduceEqDiff, if_true, if_false, reduceIte, ite_true, ite_false, Nat.zero_ne_one, Nat.one_ne_zero, reduceCtorEq, true_or, or_true, true_and, Option.some.injEq, AV.lit.injEq, Value.int.injEq, Value.bool.injEq]
end Go.Proofs.Yteekelelcbfekaa

/-! ## Saf9 -/

namespace Go.Proofs.Yteekelelcbfekaa
open Go Go.Ab
def a34 : ACode :=
  (.seq (.reg [⟨(.some 2), (.mv (.k (.int .i64 0))), .none⟩]) (.seq (.reg [⟨(.some 3), (.mv (.k (.int .i64 0))), .none⟩]) (.seq (.block 0 (.loop (.seq (.seq (.reg [⟨(.some 8), (.mv (.t 0)), .none⟩,
  ⟨(.some 9), (.lenS (.t 8)), .none⟩, ⟨(.some 10), (.bin .geq (.t 9) (.k (.int .i64 3))), .none⟩, ⟨(.some 11), (.mv (.t 10)), .none⟩, ⟨(.some 12), (.mv (.t 0)), (.some (11, true))⟩, ⟨(.some 13), (.ixS
  (.t 12) (.k (.int .i64 0))), (.some (11, true))⟩, ⟨(.some 14), (.bin .eql (.t 13) (.k (.int .u8 37))), (.some (11, true))⟩, ⟨(.some 15), (.pick (.t 11) (.t 14) (.k (.bool false))), .none⟩]) (.cond (.t
  15) .skip (.exit 0))) (.block 1 (.seq (.reg [⟨(.some 17), (.mv (.t 0)), .none⟩, ⟨(.some 18), (.ixS (.t 17) (.k (.int .i64 1))), .none⟩, ⟨(.some 19), (.call (.f 47) [(.t 18)]), .none⟩, ⟨(.some 16),
  (.mv (.t 19)), .none⟩, ⟨(.some 20), (.ext (.t 16) 0), .none⟩, ⟨(.some 21), (.ext (.t 16) 1), .none⟩, ⟨(.some 4), (.mv (.t 20)), .none⟩, ⟨(.some 5), (.mv (.t 21)), .none⟩]) (.seq (.reg [⟨(.some 23),
  (.mv (.t 0)), .none⟩, ⟨(.some 24), (.ixS (.t 23) (.k (.int .i64 2))), .none⟩, ⟨(.some 25), (.call (.f 47) [(.t 24)]), .none⟩, ⟨(.some 22), (.mv (.t 25)), .none⟩, ⟨(.some 26), (.ext (.t 22) 0), .none⟩,
  ⟨(.some 27), (.ext (.t 22) 1), .none⟩, ⟨(.some 6), (.mv (.t 26)), .none⟩, ⟨(.some 7), (.mv (.t 27)), .none⟩]) (.seq (.seq (.reg [⟨(.some 28), (.mv (.t 5)), .none⟩, ⟨(.some 29), (.not (.t 28)), .none⟩,
  ⟨(.some 30), (.mv (.t 29)), .none⟩, ⟨(.some 31), (.mv (.t 7)), (.some (30, false))⟩, ⟨(.some 32), (.not (.t 31)), (.some (30, false))⟩, ⟨(.some 33), (.pick (.t 30) (.k (.bool true)) (.t 32)), .none⟩])
  (.cond (.t 33) (.exit 0) .skip)) (.dreg [⟨(.some 34), (.mv (.t 3)), .none⟩, ⟨(.some 35), (.bin .add (.t 34) (.k (.int .i64 1))), .none⟩, ⟨(.some 36), (.mv (.t 0)), .none⟩, ⟨(.some 37), (.slS (.t 36)
  (.some (.k (.int .i64 3))) .none), .none⟩, ⟨(.some 3), (.mv (.t 35)), .none⟩, ⟨(.some 0), (.mv (.t 37)), .none⟩])))))))) (.seq (.reg [⟨(.some 38), (.mv (.t 3)), .none⟩, ⟨(.some 2), (.mv (.t 38)),
  .none⟩]) .ret))))
theorem c34 : Try.f34.body.bind (cCode Try.prog 39) = some a34 := by kernel_rfl
theorem r34 : Try.f34.results.toList = [(.tmp 2)] := by kernel_rfl
theorem n34 : Try.f34.ntmps = 39 := by kernel_rfl
theorem e34 : Enters Try.prog 34 := enters_of Try.func34 (by kernel_rfl) (by kernel_rfl)

/-- How many codes a text begins with. -/
def rowF : Nat → List Nat → Nat
  | 0, _ => 0
  | f + 1, b => if isC b = true then 1 + rowF f (b.drop 3) else 0
def rowN (b : List Nat) : Nat := rowF b.length b
theorem rowF_more : ∀ (f g : Nat) (b : List Nat), b.length ≤ f → b.length ≤ g → rowF f b = rowF g b
  | 0, 0, b, _, _ => rfl
  | 0, g + 1, b, hf, _ => by
    have : b = [] := List.eq_nil_of_length_eq_zero (by omega)
    subst this; rfl
  | f + 1, 0, b, _, hg => by
    have : b = [] := List.eq_nil_of_length_eq_zero (by omega)
    subst this; rfl
  | f + 1, g + 1, b, hf, hg => by
    simp only [rowF]
    split
    · have := isC_len ‹_›
      rw [rowF_more f g (b.drop 3) (by simp only [List.length_drop]; omega) (by simp only [List.length_drop]; omega)]
    · rfl
theorem rowN_code {b : List Nat} (h : isC b = true) : rowN b = 1 + rowN (b.drop 3) := by
  have h3 := isC_len h
  obtain ⟨k, hk⟩ : ∃ k, b.length = k + 1 := ⟨b.length - 1, by omega⟩
  show rowF b.length b = _
  rw [hk]
  simp only [rowF, h, if_true, rowN]
  rw [rowF_more k (b.drop 3).length (b.drop 3) (by simp only [List.length_drop]; omega) (Nat.le_refl _)]
theorem rowN_plain {b : List Nat} (h : isC b = false) : rowN b = 0 := by
  show rowF b.length b = _
  cases b.length with
  | zero => rfl
  | succ k => simp [rowF, h]
theorem rowN_le (b : List Nat) : 3 * rowN b ≤ b.length := by
  have key : ∀ (f : Nat) (b : List Nat), b.length ≤ f → 3 * rowN b ≤ b.length := by
    intro f
    induction f with
    | zero => intro b h; have : b = [] := List.eq_nil_of_length_eq_zero (by omega)
              subst this; simp [rowN, rowF]
    | succ f ih =>
      intro b h
      cases hc : isC b
      · rw [rowN_plain hc]; omega
      · have h3 := isC_len hc
        have := ih (b.drop 3) (by simp only [List.length_drop]; omega)
        rw [rowN_code hc]
        simp only [List.length_drop] at this
        omega
  exact key _ _ (Nat.le_refl _)
theorem rowN_pos {b : List Nat} : 0 < rowN b ↔ isC b = true := by
  cases hc : isC b
  · rw [rowN_plain hc]; simp
  · rw [rowN_code hc]; simp only [iff_true]; omega

/-- A row is decoded to a byte for each code. -/
theorem isC_take {b : List Nat} {n : Nat} (h : 3 ≤ n) : isC (b.take n) = isC b := by
  match b, n, h with
  | [], n, _ => simp
  | [a], n + 3, _ => simp
  | [a, x], n + 3, _ => simp
  | a :: x :: y :: t, n + 3, _ => simp [isC]
theorem dec_row (b : List Nat) : (decP (b.take (3 * rowN b))).length = rowN b := by
  have key : ∀ (f : Nat) (b : List Nat), b.length ≤ f → (decP (b.take (3 * rowN b))).length = rowN b := by
    intro f
    induction f with
    | zero => intro b h; have : b = [] := List.eq_nil_of_length_eq_zero (by omega)
              subst this; simp [rowN, rowF, decP, decF]
    | succ f ih =>
      intro b h
      cases hc : isC b
      · rw [rowN_plain hc]; simp [decP, decF]
      · have h3 := isC_len hc
        have := ih (b.drop 3) (by simp only [List.length_drop]; omega)
        rw [rowN_code hc, decP_code (by rw [isC_take (by omega)]; exact hc), List.length_cons, List.drop_take]
        have e : 3 * (1 + rowN (b.drop 3)) - 3 = 3 * rowN (b.drop 3) := by omega
        rw [e, this]; omega
  exact key _ _ (Nat.le_refl _)

abbrev T3 := Nat × Nat × Nat
/-- A byte by itself. -/
def oneT (at_ c : Nat) : T3 := (if 127 < c then 65533 else c, at_, at_ + 1)
def eachT : Nat → List Nat → List T3
  | _, [] => []
  | at_, c :: t => oneT at_ c :: eachT (at_ + 1) t
theorem eachT_length : ∀ (at_ : Nat) (b : List Nat), (eachT at_ b).length = b.length
  | _, [] => rfl
  | at_, c :: t => by simp [eachT, eachT_length (at_ + 1) t]
theorem eachT_append : ∀ (at_ : Nat) (a b : List Nat), eachT at_ (a ++ b) = eachT at_ a ++ eachT (at_ + a.length) b
  | at_, [], b => by simp [eachT]
  | at_, c :: t, b => by
    have e : at_ + 1 + t.length = at_ + (c :: t).length := by simp only [List.length_cons]; omega
    simp only [List.cons_append, eachT, eachT_append (at_ + 1) t b, e]
theorem eachT_take {b : List Nat} {i : Nat} (h : i < b.length) (at_ : Nat) : eachT at_ (b.take (i + 1)) = eachT at_ (b.take i) ++ [oneT (at_ + i) b[i]] := by
  rw [List.take_succ_eq_append_getElem h, eachT_append, List.length_take, Nat.min_eq_left (by omega)]
  rfl
/-- What a code of a row is shown as. -/
def sayT (b : List Nat) (at_ : Nat) (x : Nat × Nat × Nat × Bool) : List T3 :=
  if safeOf (x.1 : Int) = true then [(x.1, at_ + 3 * x.2.1, at_ + 3 * x.2.2.1)] else eachT (at_ + 3 * x.2.1) ((b.take (3 * x.2.2.1)).drop (3 * x.2.1))
def saidT (at_ : Nat) (b : List Nat) : List T3 := (cut 0 (decP b)).flatMap (sayT b at_)
/-- What a text is shown as. -/
def showF : Nat → Nat → List Nat → List T3
  | 0, _, _ => []
  | _ + 1, _, [] => []
  | f + 1, at_, c :: t => if isC (c :: t) = true then saidT at_ ((c :: t).take (3 * rowN (c :: t))) ++ showF f (at_ + 3 * rowN (c :: t)) ((c :: t).drop (3 * rowN (c :: t))) else oneT at_ c :: showF f (at_ + 1) t
def showT (at_ : Nat) (b : List Nat) : List T3 := showF b.length at_ b
theorem showF_more : ∀ (f g at_ : Nat) (b : List Nat), b.length ≤ f → b.length ≤ g → showF f at_ b = showF g at_ b
  | 0, g, at_, b, hf, hg => by
    have : b = [] := List.eq_nil_of_length_eq_zero (by omega)
    subst this
    cases g <;> rfl
  | f + 1, 0, at_, b, hf, hg => by
    have : b = [] := List.eq_nil_of_length_eq_zero (by omega)
    subst this
    rfl
  | f + 1, g + 1, at_, [], hf, hg => rfl
  | f + 1, g + 1, at_, c :: t, hf, hg => by
    simp only [List.length_cons] at hf hg
    simp only [showF]
    rw [showF_more f g _ t (by omega) (by omega)]
    split
    · have := rowN_pos.2 ‹_›
      rw [showF_more f g _ _ (by simp only [List.length_drop, List.length_cons]; omega) (by simp only [List.length_drop, List.length_cons]; omega)]
    · rfl
theorem showT_nil (at_ : Nat) : showT at_ [] = [] := rfl
theorem showT_row {b : List Nat} (h : isC b = true) (at_ : Nat) : showT at_ b = saidT at_ (b.take (3 * rowN b)) ++ showT (at_ + 3 * rowN b) (b.drop (3 * rowN b)) := by
  have hp := rowN_pos.2 h
  match b, h with
  | c :: t, h =>
    show showF (t.length + 1) at_ (c :: t) = _
    simp only [showF, h, if_true, showT]
    rw [showF_more t.length ((c :: t).drop (3 * rowN (c :: t))).length _ _ (by simp only [List.length_drop, List.length_cons]; omega) (Nat.le_refl _)]
theorem showT_one {c : Nat} {t : List Nat} (h : isC (c :: t) = false) (at_ : Nat) : showT at_ (c :: t) = oneT at_ c :: showT (at_ + 1) t := by
  show showF (t.length + 1) at_ (c :: t) = _
  simp only [showF, h, Bool.false_eq_true, if_false, showT]

/-! ### How long -/

theorem sayT_len (b : List Nat) (at_ : Nat) (x : Nat × Nat × Nat × Bool) (h : x.2.1 < x.2.2.1) : (sayT b at_ x).length ≤ 3 * (x.2.2.1 - x.2.1) := by
  unfold sayT
  split
  · simp; omega
  · rw [eachT_length, List.length_drop, List.length_take]; omega
theorem cut_say_len (b : List Nat) (at_ : Nat) : ∀ (f k : Nat) (q : List Nat), q.length ≤ f → ((cutF f k q).flatMap (sayT b at_)).length ≤ 3 * q.length
  | 0, k, q, _ => by simp [cutF]
  | f + 1, k, [], _ => by simp [cutF]
  | f + 1, k, c :: t, h => by
    have hn := nx_len c t
    have := cut_say_len b at_ f (k + (nx (c :: t)).2.1) ((c :: t).drop (nx (c :: t)).2.1) (by simp only [List.length_drop, List.length_cons] at h ⊢; omega)
    have h1 := sayT_len b at_ ((nx (c :: t)).1, k, k + (nx (c :: t)).2.1, (nx (c :: t)).2.2) (by simp only; omega)
    simp only [cutF, List.flatMap_cons, List.length_append, List.length_drop] at this h1 ⊢
    omega
theorem saidT_len (at_ : Nat) (b : List Nat) : (saidT at_ b).length ≤ 3 * (decP b).length := cut_say_len b at_ _ 0 _ (Nat.le_refl _)
theorem said_row_len (at_ : Nat) (b : List Nat) : (saidT at_ (b.take (3 * rowN b))).length ≤ 3 * rowN b := by
  have := saidT_len at_ (b.take (3 * rowN b))
  rw [dec_row] at this
  exact this
theorem say_prefix (b : List Nat) (at_ k : Nat) (l : List (Nat × Nat × Nat × Bool)) : ((l.take k).flatMap (sayT b at_)).length ≤ (l.flatMap (sayT b at_)).length := by
  have : l.flatMap (sayT b at_) = (l.take k).flatMap (sayT b at_) ++ (l.drop k).flatMap (sayT b at_) := by rw [← List.flatMap_append, List.take_append_drop]
  rw [this, List.length_append]; omega

/-- The codes of bytes lie within them. -/
theorem cut_in : ∀ (f k : Nat) (q : List Nat), q.length ≤ f → ∀ x ∈ cutF f k q, k ≤ x.2.1 ∧ x.2.1 < x.2.2.1 ∧ x.2.2.1 ≤ k + q.length
  | 0, k, q, _ => by simp [cutF]
  | f + 1, k, [], _ => by simp [cutF]
  | f + 1, k, c :: t, h => by
    have hn := nx_len c t
    have ih := cut_in f (k + (nx (c :: t)).2.1) ((c :: t).drop (nx (c :: t)).2.1) (by simp only [List.length_drop, List.length_cons] at h ⊢; omega)
    intro x hx
    simp only [cutF, List.mem_cons] at hx
    rcases hx with rfl | hx
    · simp only; omega
    · have := ih x hx
      simp only [List.length_drop] at this
      omega
theorem cut_mem {q : List Nat} {x : Nat × Nat × Nat × Bool} (h : x ∈ cut 0 q) : x.2.1 < x.2.2.1 ∧ x.2.2.1 ≤ q.length := by
  have := cut_in _ 0 q (Nat.le_refl _) x h
  omega

set_option maxRecDepth 10000 in
theorem row_pure (b : List Nat) (hb : ∀ n ∈ b, n ≤ 255) (hl : b.length ≤ 1099511627776) : Pure Try.prog 34 [.lit (.string (txt b))] [] (.lit (.int .i64 (rowN b : Nat))) := by
  refine pure0 Try.func34 c34 n34 e34 r34 (by simp) rfl ?_
  simp only [a34, astart, argSlots, go_sem, Nat.reduceAdd, Nat.reduceEqDiff, Nat.reduceLT, reduceIte, reduceCtorEq, Nat.reduceBEq, Int.reduceLT, Int.reduceToNat, Int.reducePow, Nat.reduceLeDiff, Int.reduceLE, Nat.reduceMul, Nat.reduceSub]
  refine loop_by (α := Nat) (fun k => ⟨[(0, some (.lit (.string (txt (b.drop (3 * k)))))), (3, some (.lit (.int .i64 ((k : Nat) : Int))))], [], [], 0⟩)
    (fun k => 3 * k ≤ b.length ∧ rowN b = k + rowN (b.drop (3 * k))) (fun k => b.length - 3 * k) (fun x y h => by
      have := congrArg (cnt 3) h
      simp [cnt, Ab.look] at this
      rw [this]) 0 (weak_by [] List.nodup_nil rfl ?_ trivial trivial (by simp)) ⟨by simp, by simp⟩ ?_
  · simp only [go_sem, Nat.reduceAdd, Nat.reduceEqDiff, Nat.reduceLT, reduceIte, reduceCtorEq, Nat.reduceBEq, Int.reduceLT, Int.reduceToNat, Int.reducePow, Nat.reduceLeDiff, Int.reduceLE, Nat.reduceMul, Nat.reduceSub, slotsBy, boxesBy, tipsBy, rawAt, nm, AV.ren, AV.renL, AV.under, AV.underL, List.all_nil, List.all_cons, bne_self_eq_false, List.getD_cons_zero, List.getD_cons_succ, List.length_nil, List.length_cons, and_true, true_and, Int.natCast_zero, Nat.mul_zero, List.drop_zero]
  · rintro k ⟨hk, hrow⟩
    have hr : ∀ n ∈ b.drop (3 * k), n ≤ 255 := fun n hn => hb n (List.mem_of_mem_drop hn)
    have hrl : (b.drop (3 * k)).length = b.length - 3 * k := List.length_drop
    have hnext : (b.drop (3 * k)).drop 3 = b.drop (3 * (k + 1)) := by rw [List.drop_drop]; congr 1
    generalize b.drop (3 * k) = r at hrow hr hrl hnext
    rcases Nat.lt_or_ge r.length 3 with h3 | h3
    · have a1 : decide ((((txt r).size : Nat) : Int) ≥ 3) = false := by rw [txt_size]; simp only [decide_eq_false_iff_not]; omega
      rw [rowN_plain (isC_short h3), Nat.add_zero] at hrow
      rw [hrow]
      simp only [a1, go_sem, Nat.reduceAdd, Nat.reduceEqDiff, Nat.reduceLT, reduceIte, reduceCtorEq, Nat.reduceBEq, Int.reduceLT, Int.reduceToNat, Int.reducePow, Nat.reduceLeDiff, Int.reduceLE, Nat.reduceMul, Nat.reduceSub]
      simp only [Done, resAV, resL, resOne, look_nil, look_cons, Nat.reduceEqDiff, if_true, if_false, reduceIte, ite_true, ite_false, Nat.zero_ne_one, Nat.one_ne_zero, reduceCtorEq, true_or, or_true, true_and, Option.some.injEq, AV.lit.injEq, Value.int.injEq, Value.bool.injEq]
    · match r, h3 with
      | a :: x :: y :: t, _ =>
        have ha := hr a (by simp)
        have hx := hr x (by simp)
        have hy := hr y (by simp)
        have a1 : decide ((((txt (a :: x :: y :: t)).size : Nat) : Int) ≥ 3) = true := by rw [txt_size]; simp only [decide_eq_true_eq, List.length_cons]; omega
        simp only [a1, txt_get0, u8_int ha, go_sem, Nat.reduceAdd, Nat.reduceEqDiff, Nat.reduceLT, reduceIte, reduceCtorEq, Nat.reduceBEq, Int.reduceLT, Int.reduceToNat, Int.reducePow, Nat.reduceLeDiff, Int.reduceLE, Nat.reduceMul, Nat.reduceSub]
        by_cases h37 : a = 37
        · subst h37
          have b1 : ((((37 : Nat) : Int)) == 37) = true := rfl
          simp only [b1, txt_get1, u8_int hx, go_sem, Nat.reduceAdd, Nat.reduceEqDiff, Nat.reduceLT, reduceIte, reduceCtorEq, Nat.reduceBEq, Int.reduceLT, Int.reduceToNat, Int.reducePow, Nat.reduceLeDiff, Int.reduceLE, Nat.reduceMul, Nat.reduceSub]
          refine callGo_pure (digit_pure x hx) (by rfl) ?_
          simp only [digA, txt_get2, u8_int hy, go_sem, Nat.reduceAdd, Nat.reduceEqDiff, Nat.reduceLT, reduceIte, reduceCtorEq, Nat.reduceBEq, Int.reduceLT, Int.reduceToNat, Int.reducePow, Nat.reduceLeDiff, Int.reduceLE, Nat.reduceMul, Nat.reduceSub]
          refine callGo_pure (digit_pure y hy) (by rfl) ?_
          have hi : isC (37 :: x :: y :: t) = ((hexOf x).isSome && (hexOf y).isSome) := rfl
          cases p1 : (hexOf x).isSome
          · rw [p1, Bool.false_and] at hi
            rw [rowN_plain hi, Nat.add_zero] at hrow
            rw [hrow]
            simp only [digA, p1, Bool.not_false, go_sem, Nat.reduceAdd, Nat.reduceEqDiff, Nat.reduceLT, reduceIte, reduceCtorEq, Nat.reduceBEq, Int.reduceLT, Int.reduceToNat, Int.reducePow, Nat.reduceLeDiff, Int.reduceLE, Nat.reduceMul, Nat.reduceSub]
            simp only [Done, resAV, resL, resOne, look_nil, look_cons, Nat.reduceEqDiff, if_true, if_false, reduceIte, ite_true, ite_false, Nat.zero_ne_one, Nat.one_ne_zero, reduceCtorEq, true_or, or_true, true_and, Option.some.injEq, AV.lit.injEq, Value.int.injEq, Value.bool.injEq]
          · cases p2 : (hexOf y).isSome
            · rw [p1, p2, Bool.and_false] at hi
              rw [rowN_plain hi, Nat.add_zero] at hrow
              rw [hrow]
              simp only [digA, p1, p2, Bool.not_false, Bool.not_true, go_sem, Nat.reduceAdd, Nat.reduceEqDiff, Nat.reduceLT, reduceIte, reduceCtorEq, Nat.reduceBEq, Int.reduceLT, Int.reduceToNat, Int.reducePow, Nat.reduceLeDiff, Int.reduceLE, Nat.reduceMul, Nat.reduceSub]
              simp only [Done, resAV, resL, resOne, look_nil, look_cons, Nat.reduceEqDiff, if_true, if_false, reduceIte, ite_true, ite_false, Nat.zero_ne_one, Nat.one_ne_zero, reduceCtorEq, true_or, or_true, true_and, Option.some.injEq, AV.lit.injEq, Value.int.injEq, Value.bool.injEq]
            · rw [p1, p2, Bool.and_true] at hi
              rw [rowN_code hi] at hrow
              have hd : (37 :: x :: y :: t).drop 3 = t := rfl
              rw [hd] at hnext hrow
              simp only [List.length_cons] at hrl
              have hw : IntKind.i64.wrap ((k : Int) + 1) = ((k + 1 : Nat) : Int) := by rw [wrap_i64 _ (by omega) (by omega)]; omega
              simp only [digA, p1, p2, Bool.not_false, Bool.not_true, txt_size, List.length_cons, txt_tail3, Nat.le_refl, and_self, go_sem, Nat.reduceAdd, Nat.reduceEqDiff, Nat.reduceLT, reduceIte, reduceCtorEq, Nat.reduceBEq, Int.reduceLT, Int.reduceToNat, Int.reducePow, Nat.reduceLeDiff, Int.reduceLE, Nat.reduceMul, Nat.reduceSub]
              have hx3 : (txt (37 :: x :: y :: t)).extract 3 (t.length + 1 + 1 + 1) = txt t := txt_tail3 37 (x :: y :: t)
              refine ⟨k + 1, weak_by [] List.nodup_nil rfl ?_ trivial trivial (by simp), ⟨by omega, by rw [← hnext]; omega⟩, by omega⟩
              simp only [go_sem, Nat.reduceAdd, Nat.reduceEqDiff, Nat.reduceLT, reduceIte, reduceCtorEq, Nat.reduceBEq, Int.reduceLT, Int.reduceToNat, Int.reducePow, Nat.reduceLeDiff, Int.reduceLE, Nat.reduceMul, Nat.reduceSub, slotsBy, boxesBy, tipsBy, rawAt, nm, AV.ren, AV.renL, AV.under, AV.underL, List.all_nil, List.all_cons, bne_self_eq_false, List.getD_cons_zero, List.getD_cons_succ, List.length_nil, List.length_cons, and_true, true_and, hw, hx3, ← hnext]
        · have b1 : (((a : Nat) : Int) == 37) = false := by simp only [beq_eq_false_iff_ne, ne_eq]; omega
          have hi : isC (a :: x :: y :: t) = false := by simp [isC, h37]
          rw [rowN_plain hi, Nat.add_zero] at hrow
          rw [hrow]
          simp only [b1, go_sem, Nat.reduceAdd, Nat.reduceEqDiff, Nat.reduceLT, reduceIte, reduceCtorEq, Nat.reduceBEq, Int.reduceLT, Int.reduceToNat, Int.reducePow, Nat.reduceLeDiff, Int.reduceLE, Nat.reduceMul, Nat.reduceSub]
          simp only [Done, resAV, resL, resOne, look_nil, look_cons, Nat.reduceEqDiff, if_true, if_false, reduceIte, ite_true, ite_false, Nat.zero_ne_one, Nat.one_ne_zero, reduceCtorEq, true_or, or_true, true_and, Option.some.injEq, AV.lit.injEq, Value.int.injEq, Value.bool.injEq]
end Go.Proofs.Yteekelelcbfekaa
