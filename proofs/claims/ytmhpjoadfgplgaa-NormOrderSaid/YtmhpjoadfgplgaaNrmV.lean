/-
Merging two parts of a row: the law, and the two plain cases of sort.symMerge. Conditions: none.
-/
import Derived.Test.YtmhpjoadfgplgaaNrmU
set_option linter.unusedSimpArgs false
set_option linter.unusedVariables false
set_option linter.unusedSectionVars false
namespace Go.Proofs.Ytmhpjoadfgplgaa
open Go Go.Ab
def a105_9 : ACode :=
  (.seq (.seq (.reg [⟨(.some 133), (.mv (.t 18)), .none⟩, ⟨(.some 134), (.mv (.t 2)), .none⟩, ⟨(.some 135), (.bin .lss (.t 133) (.t 134)), .none⟩, ⟨(.some 136), (.mv (.t 135)), .none⟩, ⟨(.some 137),
  (.mv (.t 2)), (.some (136, true))⟩, ⟨(.some 138), (.mv (.t 22)), (.some (136, true))⟩, ⟨(.some 139), (.bin .lss (.t 137) (.t 138)), (.some (136, true))⟩, ⟨(.some 140), (.pick (.t 136) (.t 139) (.k
  (.bool false))), .none⟩]) (.cond (.t 140) (.reg [⟨(.some 141), (.mv (.t 0)), .none⟩, ⟨(.some 142), (.mv (.t 18)), .none⟩, ⟨(.some 143), (.mv (.t 2)), .none⟩, ⟨(.some 144), (.mv (.t 22)), .none⟩,
  ⟨(.some 145), (.call (.f 111) [(.t 141), (.t 142), (.t 143), (.t 144)]), .none⟩]) .skip)) (.seq (.seq (.reg [⟨(.some 146), (.mv (.t 1)), .none⟩, ⟨(.some 147), (.mv (.t 18)), .none⟩, ⟨(.some 148),
  (.bin .lss (.t 146) (.t 147)), .none⟩, ⟨(.some 149), (.mv (.t 148)), .none⟩, ⟨(.some 150), (.mv (.t 18)), (.some (149, true))⟩, ⟨(.some 151), (.mv (.t 16)), (.some (149, true))⟩, ⟨(.some 152), (.bin
  .lss (.t 150) (.t 151)), (.some (149, true))⟩, ⟨(.some 153), (.pick (.t 149) (.t 152) (.k (.bool false))), .none⟩]) (.cond (.t 153) (.reg [⟨(.some 154), (.mv (.t 0)), .none⟩, ⟨(.some 155), (.mv (.t
  1)), .none⟩, ⟨(.some 156), (.mv (.t 18)), .none⟩, ⟨(.some 157), (.mv (.t 16)), .none⟩, ⟨(.some 158), (.call (.f 105) [(.t 154), (.t 155), (.t 156), (.t 157)]), .none⟩]) .skip)) (.seq (.reg [⟨(.some
  159), (.mv (.t 16)), .none⟩, ⟨(.some 160), (.mv (.t 22)), .none⟩, ⟨(.some 161), (.bin .lss (.t 159) (.t 160)), .none⟩, ⟨(.some 162), (.mv (.t 161)), .none⟩, ⟨(.some 163), (.mv (.t 22)), (.some (162,
  true))⟩, ⟨(.some 164), (.mv (.t 3)), (.some (162, true))⟩, ⟨(.some 165), (.bin .lss (.t 163) (.t 164)), (.some (162, true))⟩, ⟨(.some 166), (.pick (.t 162) (.t 165) (.k (.bool false))), .none⟩])
  (.cond (.t 166) (.reg [⟨(.some 167), (.mv (.t 0)), .none⟩, ⟨(.some 168), (.mv (.t 16)), .none⟩, ⟨(.some 169), (.mv (.t 22)), .none⟩, ⟨(.some 170), (.mv (.t 3)), .none⟩, ⟨(.some 171), (.call (.f 105)
  [(.t 167), (.t 168), (.t 169), (.t 170)]), .none⟩]) .skip))))
def a105 : ACode :=
  (.seq (.seq (.reg [⟨(.some 23), (.mv (.t 2)), .none⟩, ⟨(.some 24), (.mv (.t 1)), .none⟩, ⟨(.some 25), (.bin .sub (.t 23) (.t 24)), .none⟩, ⟨(.some 26), (.bin .eql (.t 25) (.k (.int .i64 1))), .none⟩])
  (.cond (.t 26) (.seq (.reg [⟨(.some 27), (.mv (.t 2)), .none⟩, ⟨(.some 8), (.mv (.t 27)), .none⟩]) (.seq (.reg [⟨(.some 28), (.mv (.t 3)), .none⟩, ⟨(.some 9), (.mv (.t 28)), .none⟩]) (.seq (.block 0
  (.loop (.seq (.seq (.reg [⟨(.some 29), (.mv (.t 8)), .none⟩, ⟨(.some 30), (.mv (.t 9)), .none⟩, ⟨(.some 31), (.bin .lss (.t 29) (.t 30)), .none⟩]) (.cond (.t 31) .skip (.exit 0))) (.block 1 (.seq
  (.reg [⟨(.some 32), (.mv (.t 8)), .none⟩, ⟨(.some 33), (.mv (.t 9)), .none⟩, ⟨(.some 34), (.bin .add (.t 32) (.t 33)), .none⟩, ⟨(.some 35), (.cvI .u64 (.t 34)), .none⟩, ⟨(.some 36), (.bin .shr (.t 35)
  (.k (.int .u64 1))), .none⟩, ⟨(.some 37), (.cvI .i64 (.t 36)), .none⟩, ⟨(.some 10), (.mv (.t 37)), .none⟩]) (.seq (.reg [⟨(.some 38), (.mv (.t 0)), .none⟩, ⟨(.some 39), (.mv (.t 10)), .none⟩, ⟨(.some
  40), (.mv (.t 1)), .none⟩, ⟨(.some 41), (.call (.k (.func (.method "Less") #[] #[])) [(.t 38), (.t 39), (.t 40)]), .none⟩]) (.cond (.t 41) (.reg [⟨(.some 42), (.mv (.t 10)), .none⟩, ⟨(.some 43), (.bin
  .add (.t 42) (.k (.int .i64 1))), .none⟩, ⟨(.some 8), (.mv (.t 43)), .none⟩]) (.reg [⟨(.some 44), (.mv (.t 10)), .none⟩, ⟨(.some 9), (.mv (.t 44)), .none⟩])))))))) (.seq (.seq (.reg [⟨(.some 45), (.mv
  (.t 1)), .none⟩, ⟨(.some 11), (.mv (.t 45)), .none⟩]) (.block 2 (.loop (.seq (.seq (.reg [⟨(.some 46), (.mv (.t 11)), .none⟩, ⟨(.some 47), (.mv (.t 8)), .none⟩, ⟨(.some 48), (.bin .sub (.t 47) (.k
  (.int .i64 1))), .none⟩, ⟨(.some 49), (.bin .lss (.t 46) (.t 48)), .none⟩]) (.cond (.t 49) .skip (.exit 2))) (.seq (.block 3 (.reg [⟨(.some 52), (.mv (.t 0)), .none⟩, ⟨(.some 53), (.mv (.t 11)),
  .none⟩, ⟨(.some 54), (.mv (.t 11)), .none⟩, ⟨(.some 55), (.bin .add (.t 54) (.k (.int .i64 1))), .none⟩, ⟨(.some 56), (.call (.k (.func (.method "Swap") #[] #[])) [(.t 52), (.t 53), (.t 55)]),
  .none⟩])) (.reg [⟨(.some 50), (.mv (.t 11)), .none⟩, ⟨(.some 51), (.bin .add (.t 50) (.k (.int .i64 1))), .none⟩, ⟨(.some 11), (.mv (.t 51)), .none⟩])))))) .ret)))) .skip)) (.seq (.seq (.reg [⟨(.some
  57), (.mv (.t 3)), .none⟩, ⟨(.some 58), (.mv (.t 2)), .none⟩, ⟨(.some 59), (.bin .sub (.t 57) (.t 58)), .none⟩, ⟨(.some 60), (.bin .eql (.t 59) (.k (.int .i64 1))), .none⟩]) (.cond (.t 60) (.seq (.reg
  [⟨(.some 61), (.mv (.t 1)), .none⟩, ⟨(.some 12), (.mv (.t 61)), .none⟩]) (.seq (.reg [⟨(.some 62), (.mv (.t 2)), .none⟩, ⟨(.some 13), (.mv (.t 62)), .none⟩]) (.seq (.block 4 (.loop (.seq (.seq (.reg
  [⟨(.some 63), (.mv (.t 12)), .none⟩, ⟨(.some 64), (.mv (.t 13)), .none⟩, ⟨(.some 65), (.bin .lss (.t 63) (.t 64)), .none⟩]) (.cond (.t 65) .skip (.exit 4))) (.block 5 (.seq (.reg [⟨(.some 66), (.mv
  (.t 12)), .none⟩, ⟨(.some 67), (.mv (.t 13)), .none⟩, ⟨(.some 68), (.bin .add (.t 66) (.t 67)), .none⟩, ⟨(.some 69), (.cvI .u64 (.t 68)), .none⟩, ⟨(.some 70), (.bin .shr (.t 69) (.k (.int .u64 1))),
  .none⟩, ⟨(.some 71), (.cvI .i64 (.t 70)), .none⟩, ⟨(.some 14), (.mv (.t 71)), .none⟩]) (.seq (.reg [⟨(.some 72), (.mv (.t 0)), .none⟩, ⟨(.some 73), (.mv (.t 2)), .none⟩, ⟨(.some 74), (.mv (.t 14)),
  .none⟩, ⟨(.some 75), (.call (.k (.func (.method "Less") #[] #[])) [(.t 72), (.t 73), (.t 74)]), .none⟩, ⟨(.some 76), (.not (.t 75)), .none⟩]) (.cond (.t 76) (.reg [⟨(.some 77), (.mv (.t 14)), .none⟩,
  ⟨(.some 78), (.bin .add (.t 77) (.k (.int .i64 1))), .none⟩, ⟨(.some 12), (.mv (.t 78)), .none⟩]) (.reg [⟨(.some 79), (.mv (.t 14)), .none⟩, ⟨(.some 13), (.mv (.t 79)), .none⟩])))))))) (.seq (.seq
  (.reg [⟨(.some 80), (.mv (.t 2)), .none⟩, ⟨(.some 15), (.mv (.t 80)), .none⟩]) (.block 6 (.loop (.seq (.seq (.reg [⟨(.some 81), (.mv (.t 15)), .none⟩, ⟨(.some 82), (.mv (.t 12)), .none⟩, ⟨(.some 83),
  (.bin .gtr (.t 81) (.t 82)), .none⟩]) (.cond (.t 83) .skip (.exit 6))) (.seq (.block 7 (.reg [⟨(.some 86), (.mv (.t 0)), .none⟩, ⟨(.some 87), (.mv (.t 15)), .none⟩, ⟨(.some 88), (.mv (.t 15)), .none⟩,
  ⟨(.some 89), (.bin .sub (.t 88) (.k (.int .i64 1))), .none⟩, ⟨(.some 90), (.call (.k (.func (.method "Swap") #[] #[])) [(.t 86), (.t 87), (.t 89)]), .none⟩])) (.reg [⟨(.some 84), (.mv (.t 15)),
  .none⟩, ⟨(.some 85), (.bin .sub (.t 84) (.k (.int .i64 1))), .none⟩, ⟨(.some 15), (.mv (.t 85)), .none⟩])))))) .ret)))) .skip)) (.seq (.reg [⟨(.some 91), (.mv (.t 1)), .none⟩, ⟨(.some 92), (.mv (.t
  3)), .none⟩, ⟨(.some 93), (.bin .add (.t 91) (.t 92)), .none⟩, ⟨(.some 94), (.cvI .u64 (.t 93)), .none⟩, ⟨(.some 95), (.bin .shr (.t 94) (.k (.int .u64 1))), .none⟩, ⟨(.some 96), (.cvI .i64 (.t 95)),
  .none⟩, ⟨(.some 16), (.mv (.t 96)), .none⟩]) (.seq (.reg [⟨(.some 97), (.mv (.t 16)), .none⟩, ⟨(.some 98), (.mv (.t 2)), .none⟩, ⟨(.some 99), (.bin .add (.t 97) (.t 98)), .none⟩, ⟨(.some 17), (.mv (.t
  99)), .none⟩]) (.seq (.reg [⟨(.some 18), (.mv (.k (.int .i64 0))), .none⟩, ⟨(.some 19), (.mv (.k (.int .i64 0))), .none⟩]) (.seq (.seq (.reg [⟨(.some 100), (.mv (.t 2)), .none⟩, ⟨(.some 101), (.mv (.t
  16)), .none⟩, ⟨(.some 102), (.bin .gtr (.t 100) (.t 101)), .none⟩]) (.cond (.t 102) (.seq (.reg [⟨(.some 103), (.mv (.t 17)), .none⟩, ⟨(.some 104), (.mv (.t 3)), .none⟩, ⟨(.some 105), (.bin .sub (.t
  103) (.t 104)), .none⟩, ⟨(.some 18), (.mv (.t 105)), .none⟩]) (.reg [⟨(.some 106), (.mv (.t 16)), .none⟩, ⟨(.some 19), (.mv (.t 106)), .none⟩])) (.seq (.reg [⟨(.some 107), (.mv (.t 1)), .none⟩,
  ⟨(.some 18), (.mv (.t 107)), .none⟩]) (.reg [⟨(.some 108), (.mv (.t 2)), .none⟩, ⟨(.some 19), (.mv (.t 108)), .none⟩])))) (.seq (.reg [⟨(.some 109), (.mv (.t 17)), .none⟩, ⟨(.some 110), (.bin .sub (.t
  109) (.k (.int .i64 1))), .none⟩, ⟨(.some 20), (.mv (.t 110)), .none⟩]) (.seq (.block 8 (.loop (.seq (.seq (.reg [⟨(.some 111), (.mv (.t 18)), .none⟩, ⟨(.some 112), (.mv (.t 19)), .none⟩, ⟨(.some
  113), (.bin .lss (.t 111) (.t 112)), .none⟩]) (.cond (.t 113) .skip (.exit 8))) (.block 9 (.seq (.reg [⟨(.some 114), (.mv (.t 18)), .none⟩, ⟨(.some 115), (.mv (.t 19)), .none⟩, ⟨(.some 116), (.bin
  .add (.t 114) (.t 115)), .none⟩, ⟨(.some 117), (.cvI .u64 (.t 116)), .none⟩, ⟨(.some 118), (.bin .shr (.t 117) (.k (.int .u64 1))), .none⟩, ⟨(.some 119), (.cvI .i64 (.t 118)), .none⟩, ⟨(.some 21),
  (.mv (.t 119)), .none⟩]) (.seq (.reg [⟨(.some 120), (.mv (.t 0)), .none⟩, ⟨(.some 121), (.mv (.t 20)), .none⟩, ⟨(.some 122), (.mv (.t 21)), .none⟩, ⟨(.some 123), (.bin .sub (.t 121) (.t 122)), .none⟩,
  ⟨(.some 124), (.mv (.t 21)), .none⟩, ⟨(.some 125), (.call (.k (.func (.method "Less") #[] #[])) [(.t 120), (.t 123), (.t 124)]), .none⟩, ⟨(.some 126), (.not (.t 125)), .none⟩]) (.cond (.t 126) (.reg
  [⟨(.some 127), (.mv (.t 21)), .none⟩, ⟨(.some 128), (.bin .add (.t 127) (.k (.int .i64 1))), .none⟩, ⟨(.some 18), (.mv (.t 128)), .none⟩]) (.reg [⟨(.some 129), (.mv (.t 21)), .none⟩, ⟨(.some 19), (.mv
  (.t 129)), .none⟩])))))))) (.seq (.reg [⟨(.some 130), (.mv (.t 17)), .none⟩, ⟨(.some 131), (.mv (.t 18)), .none⟩, ⟨(.some 132), (.bin .sub (.t 130) (.t 131)), .none⟩, ⟨(.some 22), (.mv (.t 132)),
  .none⟩]) a105_9)))))))))
theorem c105 : Try.f105.body.bind (cCode Try.prog 172) = some a105 := by kernel_rfl
theorem r105 : Try.f105.results.toList = [] := by kernel_rfl
theorem n105 : Try.f105.ntmps = 172 := by kernel_rfl
theorem e105 : Enters Try.prog 105 := enters_of Try.func105 (by kernel_rfl) (by kernel_rfl)

theorem asc_take_le {l : List Int} (h : Asc cls l) {k : Nat} (hk : k < l.length) : ∀ y ∈ l.take (k + 1), cls y ≤ cls l[k] := by
  intro y hy
  obtain ⟨i, hi, rfl⟩ := List.mem_take_iff_getElem.1 hy
  exact asc_get cls h (by omega) hk
theorem asc_drop_ge {l : List Int} (h : Asc cls l) {k : Nat} (hk : k < l.length) : ∀ y ∈ l.drop k, cls l[k] ≤ cls y := by
  intro y hy
  obtain ⟨i, hi, rfl⟩ := List.mem_drop_iff_getElem.1 hy
  exact asc_get cls h (by omega) (by omega)
theorem asc_take {l : List Int} (h : Asc cls l) (k : Nat) : Asc cls (l.take k) := by
  have := h
  rw [← List.take_append_drop k l, asc_append] at this
  exact this.1
theorem asc_drop {l : List Int} (h : Asc cls l) (k : Nat) : Asc cls (l.drop k) := by
  have := h
  rw [← List.take_append_drop k l, asc_append] at this
  exact this.2.1

/-- Two rising rows are merged part by part. -/
theorem sym_law {A1 A2 B1 B2 : List Int} (hp : ∀ x ∈ A1 ++ A2 ++ (B1 ++ B2), 0 < cls x) (hA : Asc cls (A1 ++ A2)) (hB : Asc cls (B1 ++ B2)) (h1 : ∀ x ∈ A1, ∀ y ∈ B2, cls x ≤ cls y) (h2 : ∀ x ∈ A2, ∀ y ∈ B1, cls y < cls x) :
    canon cls (A1 ++ A2 ++ (B1 ++ B2)) = canon cls (A1 ++ B1) ++ canon cls (A2 ++ B2) := by
  have ht := canon_turn cls A1 A2 B1 B2 fun x hx y hy => ⟨hp y (by simp [hy]), h2 x hx y hy⟩
  rw [show A1 ++ A2 ++ (B1 ++ B2) = A1 ++ A2 ++ B1 ++ B2 by simp, ht, show A1 ++ B1 ++ A2 ++ B2 = (A1 ++ B1) ++ (A2 ++ B2) by simp,
    canon_app cls (canon_idem cls (A1 ++ B1)).symm (canon_idem cls (A2 ++ B2)).symm]
  refine canon_of_asc cls ?_
  rw [asc_append] at hA hB ⊢
  refine ⟨canon_asc cls fun x hx => ?_, canon_asc cls fun x hx => ?_, fun x hx y hy => ?_⟩
  · rcases List.mem_append.1 hx with hx | hx <;> exact hp x (by simp [hx])
  · rcases List.mem_append.1 hx with hx | hx <;> exact hp x (by simp [hx])
  · rw [canon_mem] at hx hy
    rcases List.mem_append.1 hx with hx | hx <;> rcases List.mem_append.1 hy with hy | hy
    · exact hA.2.2 x hx y hy
    · exact h1 x hx y hy
    · exact Nat.le_of_lt (h2 y hy x hx)
    · exact hB.2.2 x hx y hy

theorem get_at (P Q : List Int) (x : Int) {k : Nat} (h : P.length = k) : (P ++ x :: Q)[k]? = some x := by subst h; simp
theorem get_A (P A B Q : List Int) {a u : Nat} (h : P.length = a) (hu : u < A.length) : (P ++ A ++ B ++ Q)[a + u]? = some A[u] := by
  subst h
  rw [List.append_assoc, List.getElem?_append_left (by simp; omega), List.getElem?_append_right (by omega), Nat.add_sub_cancel_left, List.getElem?_eq_getElem hu]
theorem get_B (P A B Q : List Int) {m u : Nat} (h : P.length + A.length = m) (hu : u < B.length) : (P ++ A ++ B ++ Q)[m + u]? = some B[u] := by
  subst h
  rw [List.getElem?_append_left (by simp; omega), List.getElem?_append_right (by simp), List.length_append, Nat.add_sub_cancel_left, List.getElem?_eq_getElem hu]

section
variable {X Y L : List Int} {n nx : Nat} {sl : List (Nat × Option AV)} {d : Option Nat} {K : State → Prop}
theorem less_at (i j : Nat) {x y : Int} (hL : L.length = n) (hi : L[i]? = some x) (hj : L[j]? = some y) (hnx : 2 ≤ nx)
    (hK : ∀ nx', 2 ≤ nx' → K (State.put ⟨sl, St X Y L, [], nx'⟩ d (.lit (.bool (decide (cls x < cls y)))))) :
    callGo Try.prog (some (.lit (.func (.method "Less") #[] #[]))) (some [ifc X n, .lit (.int .i64 (i : Int)), .lit (.int .i64 (j : Int))]) d ⟨sl, St X Y L, [], nx⟩ K := by
  obtain ⟨hi1, rfl⟩ := List.getElem?_eq_some_iff.1 hi
  obtain ⟨hj1, rfl⟩ := List.getElem?_eq_some_iff.1 hj
  exact less_go i j hL (by omega) (by omega) hnx hK
end

/-- Code in two parts, with what is known between. -/
theorem awp_cut {P : Program} {F : Nat} {a b : ACode} {Q : Exit → State → Prop} {s : State} (R : State → Prop) (ha : awp P F a (fun e s' => e = .normal ∧ R s') s) (hb : ∀ s', R s' → awp P F b Q s') : awp P F (.seq a b) Q s :=
  awp_mono (P := P) (A := a) (fun e s' h => by obtain ⟨rfl, hr⟩ := h; exact hb s' hr) ha

/-- Both ways of a test come to states of one kind. -/
theorem cGo_join {P : Program} {F : Nat} {Q : Exit → State → Prop} {a b : ACode} {o : Option AV} {s : State} (R : State → Prop) (h : cGo o s (awp P F a fun e s' => e = .normal ∧ R s') (awp P F b fun e s' => e = .normal ∧ R s')) (hR : ∀ s', R s' → Q .normal s') :
    cGo o s (awp P F a Q) (awp P F b Q) := by
  have hk : ∀ e s', (e = Exit.normal ∧ R s') → Q e s' := by
    rintro e s' ⟨rfl, h⟩
    exact hR s' h
  unfold cGo at h ⊢
  split at h
  · split at h
    · rename_i h1; rw [if_pos h1]; exact awp_mono hk h
    · rename_i h1; rw [if_neg h1]; exact awp_mono hk h
  · exact h.elim

/-- One goes behind those that are less. -/
theorem one_left {x : Int} {B : List Int} {u : Nat} (hx : 0 < cls x) (hp : ∀ y ∈ B, 0 < cls y) (hB : Asc cls B) (h1 : ∀ y ∈ B.take u, cls y < cls x) (h2 : ∀ y ∈ B.drop u, cls x ≤ cls y) :
    canon cls ([x] ++ B) = B.take u ++ x :: B.drop u := by
  have := sym_law (A1 := []) (A2 := [x]) (B1 := B.take u) (B2 := B.drop u) (by
    intro y hy
    simp only [List.nil_append, List.take_append_drop, List.mem_append, List.mem_cons, List.not_mem_nil, or_false] at hy
    rcases hy with rfl | hy
    · exact hx
    · exact hp y hy) ⟨by simp, trivial⟩ (by rw [List.take_append_drop]; exact hB) (by simp) (by
    intro z hz y hy
    simp only [List.mem_cons, List.not_mem_nil, or_false] at hz
    subst hz
    exact h1 y hy)
  rw [List.nil_append, List.take_append_drop, List.nil_append] at this
  rw [this, canon_of_asc cls (asc_take hB u), canon_of_asc cls (l := [x] ++ B.drop u) ⟨h2, asc_drop hB u⟩]
  rfl
/-- One goes ahead of those that are greater. -/
theorem one_right {x : Int} {A : List Int} {u : Nat} (hx : 0 < cls x) (hp : ∀ y ∈ A, 0 < cls y) (hA : Asc cls A) (h1 : ∀ y ∈ A.take u, cls y ≤ cls x) (h2 : ∀ y ∈ A.drop u, cls x < cls y) :
    canon cls (A ++ [x]) = A.take u ++ x :: A.drop u := insert_law (List.take_append_drop u A).symm hA hx h2 h1

set_option maxRecDepth 10000 in
set_option maxHeartbeats 4000000 in
theorem symMerge_ok (X Y : List Int) {n : Nat} (hn : n ≤ 1099511627776) : ∀ (f : Nat) (P A B Q : List Int) (a m b nx : Nat) (K : AV → List (Nat × List AV) → List (Nat × TypeId) → Nat → Prop), A.length + B.length ≤ f → (P ++ A ++ B ++ Q).length = n → P.length = a → a + A.length = m → m + B.length = b →
    1 ≤ A.length → 1 ≤ B.length → Asc cls A → Asc cls B → (∀ x ∈ A ++ B, 0 < cls x) → 2 ≤ nx → (∀ r nx', 2 ≤ nx' → K r (St X Y (P ++ canon cls (A ++ B) ++ Q)) [] nx') →
    CallOK Try.prog 105 [ifc X n, .lit (.int .i64 (a : Int)), .lit (.int .i64 (m : Int)), .lit (.int .i64 (b : Int))] (St X Y (P ++ A ++ B ++ Q)) [] nx K := by
  intro f
  induction f with
  | zero => intro P A B Q a m b nx K hf; intros; omega
  | succ f ih =>
    intro P A B Q a m b nx K hf hL ha hm hb hA1 hB1 hA hB hp hnx hK
    refine callOK_walk Try.func105 c105 n105 e105 r105 (by simp) ?_
    have hL' := hL
    simp only [List.length_append] at hL'
    have w0 : IntKind.i64.wrap ((m : Int) - (a : Int)) = ((A.length : Nat) : Int) := by rw [wrap_i64 _ (by omega) (by omega)]; omega
    have w1 : IntKind.i64.wrap ((b : Int) - (m : Int)) = ((B.length : Nat) : Int) := by rw [wrap_i64 _ (by omega) (by omega)]; omega
    simp only [a105, astart, argSlots, w0, go_sem, Nat.reduceAdd, Nat.reduceEqDiff, Nat.reduceLT, reduceIte, reduceCtorEq, Nat.reduceBEq, Int.reduceLT, Int.reduceToNat, Int.reducePow, Nat.reduceLeDiff, Int.reduceLE, Nat.reduceMul, Nat.reduceSub]
    by_cases hAo : A.length = 1
    · have e1 : (((A.length : Nat) : Int) == 1) = true := by simp [hAo]
      obtain ⟨x, rfl⟩ := List.length_eq_one_iff.1 hAo
      have hpx := hp x (by simp)
      have hpB : ∀ y ∈ B, 0 < cls y := fun y hy => hp y (by simp [hy])
      simp only [List.length_cons, List.length_nil] at hL' hm e1
      simp only [e1, go_sem, Nat.reduceAdd, Nat.reduceEqDiff, Nat.reduceLT, reduceIte, reduceCtorEq, Nat.reduceBEq, Int.reduceLT, Int.reduceToNat, Int.reducePow, Nat.reduceLeDiff, Int.reduceLE, Nat.reduceMul, Nat.reduceSub]
      refine loop_by (α := Nat × Nat × Nat) (fun x => ⟨[(0, some (ifc X n)), (1, some (.lit (.int .i64 (a : Int)))), (8, some (.lit (.int .i64 ((m + x.1 : Nat) : Int)))), (9, some (.lit (.int .i64 ((m + x.2.1 : Nat) : Int))))], St X Y (P ++ [_] ++ B ++ Q), [], x.2.2⟩)
        (fun v => v.1 ≤ v.2.1 ∧ v.2.1 ≤ B.length ∧ 2 ≤ v.2.2 ∧ (∀ y ∈ B.take v.1, cls y < cls x) ∧ ∀ y ∈ B.drop v.2.1, cls x ≤ cls y) (fun v => v.2.1 - v.1) (fun v w h => by
          have h1 := congrArg (cnt 8) h
          have h2 := congrArg (cnt 9) h
          simp [cnt, Ab.look] at h1 h2
          omega) (0, B.length, nx) (weak_forget ?_ (List.Sublist.refl _) (List.Sublist.refl _)) ⟨by omega, Nat.le_refl _, hnx, by simp, by simp⟩ ?_
      · simp only [go_sem, Nat.reduceAdd, Nat.reduceEqDiff, Nat.reduceLT, reduceIte, reduceCtorEq, Nat.reduceBEq, Int.reduceLT, Int.reduceToNat, Int.reducePow, Nat.reduceLeDiff, Int.reduceLE, Nat.reduceMul, Nat.reduceSub, slotsSub, hb]
      · rintro ⟨u, v, nx1⟩ ⟨huv, hv, hx1, hu1, hv1⟩
        simp only at huv hv hx1 hu1 hv1
        simp only [go_sem, Nat.reduceAdd, Nat.reduceEqDiff, Nat.reduceLT, reduceIte, reduceCtorEq, Nat.reduceBEq, Int.reduceLT, Int.reduceToNat, Int.reducePow, Nat.reduceLeDiff, Int.reduceLE, Nat.reduceMul, Nat.reduceSub]
        by_cases hlt : u < v
        · have e2 : decide (((m + u : Nat) : Int) < ((m + v : Nat) : Int)) = true := dec_lt (by omega)
          have hh : (m + u + (m + v)) / 2 = m + (u + v) / 2 := by omega
          simp only [e2, half (m + u) (m + v) (by omega), hh, go_sem, Nat.reduceAdd, Nat.reduceEqDiff, Nat.reduceLT, reduceIte, reduceCtorEq, Nat.reduceBEq, Int.reduceLT, Int.reduceToNat, Int.reducePow, Nat.reduceLeDiff, Int.reduceLE, Nat.reduceMul, Nat.reduceSub]
          refine less_at _ _ hL (get_B P [x] B Q (u := (u + v) / 2) (by simp; omega) (by omega)) (by simp only [List.append_assoc, List.cons_append, List.nil_append]; exact get_at P _ x ha) hx1 fun nx2 hx2 => ?_
          simp only [go_sem, Nat.reduceAdd, Nat.reduceEqDiff, Nat.reduceLT, reduceIte, reduceCtorEq, Nat.reduceBEq, Int.reduceLT, Int.reduceToNat, Int.reducePow, Nat.reduceLeDiff, Int.reduceLE, Nat.reduceMul, Nat.reduceSub]
          have hB' : (u + v) / 2 < B.length := by omega
          refine cGo_split (fun hc => ?_) (fun hc => ?_)
          · simp only [decide_eq_true_eq] at hc
            have w2 : IntKind.i64.wrap (((m + (u + v) / 2 : Nat) : Int) + 1) = ((m + ((u + v) / 2 + 1) : Nat) : Int) := by rw [wrap_i64 _ (by omega) (by omega)]; omega
            simp only [w2, go_sem, Nat.reduceAdd, Nat.reduceEqDiff, Nat.reduceLT, reduceIte, reduceCtorEq, Nat.reduceBEq, Int.reduceLT, Int.reduceToNat, Int.reducePow, Nat.reduceLeDiff, Int.reduceLE, Nat.reduceMul, Nat.reduceSub]
            refine ⟨((u + v) / 2 + 1, v, nx2), weak_forget ?_ (List.Sublist.refl _) (List.Sublist.refl _), ⟨by simp only; omega, hv, hx2, fun y hy => Nat.lt_of_le_of_lt (asc_take_le hB hB' y hy) hc, hv1⟩, by simp only; omega⟩
            simp only [go_sem, Nat.reduceAdd, Nat.reduceEqDiff, Nat.reduceLT, reduceIte, reduceCtorEq, Nat.reduceBEq, Int.reduceLT, Int.reduceToNat, Int.reducePow, Nat.reduceLeDiff, Int.reduceLE, Nat.reduceMul, Nat.reduceSub, slotsSub]
          · simp only [decide_eq_false_iff_not] at hc
            simp only [go_sem, Nat.reduceAdd, Nat.reduceEqDiff, Nat.reduceLT, reduceIte, reduceCtorEq, Nat.reduceBEq, Int.reduceLT, Int.reduceToNat, Int.reducePow, Nat.reduceLeDiff, Int.reduceLE, Nat.reduceMul, Nat.reduceSub]
            refine ⟨(u, (u + v) / 2, nx2), weak_forget ?_ (List.Sublist.refl _) (List.Sublist.refl _), ⟨by simp only; omega, by simp only; omega, hx2, hu1, fun y hy => Nat.le_trans (Nat.le_of_not_lt hc) (asc_drop_ge hB hB' y hy)⟩, by simp only; omega⟩
            simp only [go_sem, Nat.reduceAdd, Nat.reduceEqDiff, Nat.reduceLT, reduceIte, reduceCtorEq, Nat.reduceBEq, Int.reduceLT, Int.reduceToNat, Int.reducePow, Nat.reduceLeDiff, Int.reduceLE, Nat.reduceMul, Nat.reduceSub, slotsSub]
        · have he : u = v := by omega
          subst he
          have e2 : decide (((m + u : Nat) : Int) < ((m + u : Nat) : Int)) = false := dec_irr _
          simp only [e2, go_sem, Nat.reduceAdd, Nat.reduceEqDiff, Nat.reduceLT, reduceIte, reduceCtorEq, Nat.reduceBEq, Int.reduceLT, Int.reduceToNat, Int.reducePow, Nat.reduceLeDiff, Int.reduceLE, Nat.reduceMul, Nat.reduceSub]
          refine loop_by (α := Nat × Nat) (fun k => ⟨[(0, some (ifc X n)), (8, some (.lit (.int .i64 ((m + u : Nat) : Int)))), (11, some (.lit (.int .i64 ((a + k.1 : Nat) : Int))))], St X Y (P ++ (B.take k.1 ++ x :: B.drop k.1) ++ Q), [], k.2⟩)
            (fun k => k.1 ≤ u ∧ 2 ≤ k.2) (fun k => u - k.1) (fun v w h => by
              have h1 := congrArg (cnt 11) h
              simp [cnt, Ab.look] at h1
              omega) (0, nx1) ?_ ⟨by omega, hx1⟩ ?_
          · simp only [List.take_zero, List.drop_zero, List.nil_append, List.append_assoc, List.cons_append]
            refine weak_forget ?_ (List.Sublist.refl _) (List.Sublist.refl _)
            simp only [go_sem, Nat.reduceAdd, Nat.reduceEqDiff, Nat.reduceLT, reduceIte, reduceCtorEq, Nat.reduceBEq, Int.reduceLT, Int.reduceToNat, Int.reducePow, Nat.reduceLeDiff, Int.reduceLE, Nat.reduceMul, Nat.reduceSub, slotsSub]
          · rintro ⟨k, nx2⟩ ⟨hk, hx2⟩
            simp only at hk hx2
            have w3 : IntKind.i64.wrap (((m + u : Nat) : Int) - 1) = ((a + u : Nat) : Int) := by rw [wrap_i64 _ (by omega) (by omega)]; omega
            simp only [w3, go_sem, Nat.reduceAdd, Nat.reduceEqDiff, Nat.reduceLT, reduceIte, reduceCtorEq, Nat.reduceBEq, Int.reduceLT, Int.reduceToNat, Int.reducePow, Nat.reduceLeDiff, Int.reduceLE, Nat.reduceMul, Nat.reduceSub]
            by_cases hku : k < u
            · have e3 : decide (((a + k : Nat) : Int) < ((a + u : Nat) : Int)) = true := dec_lt (by omega)
              have w4 : IntKind.i64.wrap (((a + k : Nat) : Int) + 1) = ((a + (k + 1) : Nat) : Int) := by rw [wrap_i64 _ (by omega) (by omega)]; omega
              have hd : B.drop k = B[k]'(by omega) :: B.drop (k + 1) := List.drop_eq_getElem_cons (by omega)
              have hfm : P ++ (B.take k ++ x :: B.drop k) ++ Q = (P ++ B.take k) ++ x :: B[k]'(by omega) :: (B.drop (k + 1) ++ Q) := by rw [hd]; simp only [List.append_assoc, List.cons_append]
              have hPl : (P ++ B.take k).length = a + k := by simp; omega
              have hsw := swp_next (P ++ B.take k) (B.drop (k + 1) ++ Q) x (B[k]'(by omega))
              rw [hPl] at hsw
              simp only [e3, w4, go_sem, Nat.reduceAdd, Nat.reduceEqDiff, Nat.reduceLT, reduceIte, reduceCtorEq, Nat.reduceBEq, Int.reduceLT, Int.reduceToNat, Int.reducePow, Nat.reduceLeDiff, Int.reduceLE, Nat.reduceMul, Nat.reduceSub]
              rw [hfm]
              refine swap_go _ _ (by simp; omega) (by omega) (by omega) hx2 fun r nx3 hx3 => ?_
              rw [show a + (k + 1) = a + k + 1 from rfl, hsw]
              simp only [show IntKind.i64.wrap (((a + k : Nat) : Int) + 1) = ((a + (k + 1) : Nat) : Int) from w4, go_sem, Nat.reduceAdd, Nat.reduceEqDiff, Nat.reduceLT, reduceIte, reduceCtorEq, Nat.reduceBEq, Int.reduceLT, Int.reduceToNat, Int.reducePow, Nat.reduceLeDiff, Int.reduceLE, Nat.reduceMul, Nat.reduceSub]
              refine ⟨(k + 1, nx3), ?_, ⟨by simp only; omega, hx3⟩, by simp only; omega⟩
              rw [show P ++ (B.take (k + 1) ++ x :: B.drop (k + 1)) ++ Q = (P ++ B.take k) ++ B[k]'(by omega) :: x :: (B.drop (k + 1) ++ Q) by rw [List.take_succ_eq_append_getElem (l := B) (by omega)]; simp only [List.append_assoc, List.cons_append, List.nil_append]]
              refine weak_forget ?_ (List.Sublist.refl _) (List.Sublist.refl _)
              simp only [go_sem, Nat.reduceAdd, Nat.reduceEqDiff, Nat.reduceLT, reduceIte, reduceCtorEq, Nat.reduceBEq, Int.reduceLT, Int.reduceToNat, Int.reducePow, Nat.reduceLeDiff, Int.reduceLE, Nat.reduceMul, Nat.reduceSub, slotsSub]
            · have hk' : k = u := by omega
              subst hk'
              simp only [dec_irr, go_sem, Nat.reduceAdd, Nat.reduceEqDiff, Nat.reduceLT, reduceIte, reduceCtorEq, Nat.reduceBEq, Int.reduceLT, Int.reduceToNat, Int.reducePow, Nat.reduceLeDiff, Int.reduceLE, Nat.reduceMul, Nat.reduceSub]
              rw [← one_left hpx hpB hB hu1 hv1]
              exact ⟨.inr trivial, _, rfl, hK _ _ hx2⟩
    have e1 : (((A.length : Nat) : Int) == 1) = false := by simp only [beq_eq_false_iff_ne, ne_eq]; omega
    simp only [e1, w1, go_sem, Nat.reduceAdd, Nat.reduceEqDiff, Nat.reduceLT, reduceIte, reduceCtorEq, Nat.reduceBEq, Int.reduceLT, Int.reduceToNat, Int.reducePow, Nat.reduceLeDiff, Int.reduceLE, Nat.reduceMul, Nat.reduceSub]
    by_cases hBo : B.length = 1
    · have e2 : (((B.length : Nat) : Int) == 1) = true := by simp [hBo]
      obtain ⟨x, rfl⟩ := List.length_eq_one_iff.1 hBo
      have hpx := hp x (by simp)
      have hpA : ∀ y ∈ A, 0 < cls y := fun y hy => hp y (by simp [hy])
      simp only [List.length_cons, List.length_nil] at hL' hb e2
      simp only [e2, go_sem, Nat.reduceAdd, Nat.reduceEqDiff, Nat.reduceLT, reduceIte, reduceCtorEq, Nat.reduceBEq, Int.reduceLT, Int.reduceToNat, Int.reducePow, Nat.reduceLeDiff, Int.reduceLE, Nat.reduceMul, Nat.reduceSub]
      refine loop_by (α := Nat × Nat × Nat) (fun x => ⟨[(0, some (ifc X n)), (2, some (.lit (.int .i64 (m : Int)))), (12, some (.lit (.int .i64 ((a + x.1 : Nat) : Int)))), (13, some (.lit (.int .i64 ((a + x.2.1 : Nat) : Int))))], St X Y (P ++ A ++ [_] ++ Q), [], x.2.2⟩)
        (fun v => v.1 ≤ v.2.1 ∧ v.2.1 ≤ A.length ∧ 2 ≤ v.2.2 ∧ (∀ y ∈ A.take v.1, cls y ≤ cls x) ∧ ∀ y ∈ A.drop v.2.1, cls x < cls y) (fun v => v.2.1 - v.1) (fun v w h => by
          have h1 := congrArg (cnt 12) h
          have h2 := congrArg (cnt 13) h
          simp [cnt, Ab.look] at h1 h2
          omega) (0, A.length, nx) (weak_forget ?_ (List.Sublist.refl _) (List.Sublist.refl _)) ⟨by omega, Nat.le_refl _, hnx, by simp, by simp⟩ ?_
      · simp only [go_sem, Nat.reduceAdd, Nat.reduceEqDiff, Nat.reduceLT, reduceIte, reduceCtorEq, Nat.reduceBEq, Int.reduceLT, Int.reduceToNat, Int.reducePow, Nat.reduceLeDiff, Int.reduceLE, Nat.reduceMul, Nat.reduceSub, slotsSub, hm]
      · rintro ⟨u, v, nx1⟩ ⟨huv, hv, hx1, hu1, hv1⟩
        simp only at huv hv hx1 hu1 hv1
        simp only [go_sem, Nat.reduceAdd, Nat.reduceEqDiff, Nat.reduceLT, reduceIte, reduceCtorEq, Nat.reduceBEq, Int.reduceLT, Int.reduceToNat, Int.reducePow, Nat.reduceLeDiff, Int.reduceLE, Nat.reduceMul, Nat.reduceSub]
        by_cases hlt : u < v
        · have e2 : decide (((a + u : Nat) : Int) < ((a + v : Nat) : Int)) = true := dec_lt (by omega)
          have hh : (a + u + (a + v)) / 2 = a + (u + v) / 2 := by omega
          have hA' : (u + v) / 2 < A.length := by omega
          simp only [e2, half (a + u) (a + v) (by omega), hh, go_sem, Nat.reduceAdd, Nat.reduceEqDiff, Nat.reduceLT, reduceIte, reduceCtorEq, Nat.reduceBEq, Int.reduceLT, Int.reduceToNat, Int.reducePow, Nat.reduceLeDiff, Int.reduceLE, Nat.reduceMul, Nat.reduceSub]
          refine less_at _ _ hL (by rw [show P ++ A ++ [x] ++ Q = (P ++ A) ++ x :: Q by simp]; exact get_at (P ++ A) Q x (by simp; omega)) (get_A P A [x] Q (u := (u + v) / 2) ha hA') hx1 fun nx2 hx2 => ?_
          simp only [go_sem, Nat.reduceAdd, Nat.reduceEqDiff, Nat.reduceLT, reduceIte, reduceCtorEq, Nat.reduceBEq, Int.reduceLT, Int.reduceToNat, Int.reducePow, Nat.reduceLeDiff, Int.reduceLE, Nat.reduceMul, Nat.reduceSub]
          by_cases hc : cls x < cls (A[(u + v) / 2]'hA')
          · simp only [hc, Bool.not_true, go_sem, Nat.reduceAdd, Nat.reduceEqDiff, Nat.reduceLT, reduceIte, reduceCtorEq, Nat.reduceBEq, Int.reduceLT, Int.reduceToNat, Int.reducePow, Nat.reduceLeDiff, Int.reduceLE, Nat.reduceMul, Nat.reduceSub]
            refine ⟨(u, (u + v) / 2, nx2), weak_forget ?_ (List.Sublist.refl _) (List.Sublist.refl _), ⟨by simp only; omega, by simp only; omega, hx2, hu1, fun y hy => Nat.lt_of_lt_of_le hc (asc_drop_ge hA hA' y hy)⟩, by simp only; omega⟩
            simp only [go_sem, Nat.reduceAdd, Nat.reduceEqDiff, Nat.reduceLT, reduceIte, reduceCtorEq, Nat.reduceBEq, Int.reduceLT, Int.reduceToNat, Int.reducePow, Nat.reduceLeDiff, Int.reduceLE, Nat.reduceMul, Nat.reduceSub, slotsSub]
          · have w2 : IntKind.i64.wrap (((a + (u + v) / 2 : Nat) : Int) + 1) = ((a + ((u + v) / 2 + 1) : Nat) : Int) := by rw [wrap_i64 _ (by omega) (by omega)]; omega
            simp only [hc, Bool.not_false, w2, go_sem, Nat.reduceAdd, Nat.reduceEqDiff, Nat.reduceLT, reduceIte, reduceCtorEq, Nat.reduceBEq, Int.reduceLT, Int.reduceToNat, Int.reducePow, Nat.reduceLeDiff, Int.reduceLE, Nat.reduceMul, Nat.reduceSub]
            refine ⟨((u + v) / 2 + 1, v, nx2), weak_forget ?_ (List.Sublist.refl _) (List.Sublist.refl _), ⟨by simp only; omega, hv, hx2, fun y hy => Nat.le_trans (asc_take_le hA hA' y hy) (Nat.le_of_not_lt hc), hv1⟩, by simp only; omega⟩
            simp only [go_sem, Nat.reduceAdd, Nat.reduceEqDiff, Nat.reduceLT, reduceIte, reduceCtorEq, Nat.reduceBEq, Int.reduceLT, Int.reduceToNat, Int.reducePow, Nat.reduceLeDiff, Int.reduceLE, Nat.reduceMul, Nat.reduceSub, slotsSub]
        · have he : u = v := by omega
          subst he
          have e2 : decide (((a + u : Nat) : Int) < ((a + u : Nat) : Int)) = false := dec_irr _
          simp only [e2, go_sem, Nat.reduceAdd, Nat.reduceEqDiff, Nat.reduceLT, reduceIte, reduceCtorEq, Nat.reduceBEq, Int.reduceLT, Int.reduceToNat, Int.reducePow, Nat.reduceLeDiff, Int.reduceLE, Nat.reduceMul, Nat.reduceSub]
          refine loop_by (α := Nat × Nat) (fun k => ⟨[(0, some (ifc X n)), (12, some (.lit (.int .i64 ((a + u : Nat) : Int)))), (15, some (.lit (.int .i64 ((a + k.1 : Nat) : Int))))], St X Y (P ++ (A.take k.1 ++ x :: A.drop k.1) ++ Q), [], k.2⟩)
            (fun k => u ≤ k.1 ∧ k.1 ≤ A.length ∧ 2 ≤ k.2) (fun k => k.1) (fun v w h => by
              have h1 := congrArg (cnt 15) h
              simp [cnt, Ab.look] at h1
              omega) (A.length, nx1) ?_ ⟨by omega, Nat.le_refl _, hx1⟩ ?_
          · simp only [List.take_length, List.drop_length]
            rw [show P ++ (A ++ [x]) ++ Q = P ++ A ++ [x] ++ Q by simp]
            refine weak_forget ?_ (List.Sublist.refl _) (List.Sublist.refl _)
            simp only [go_sem, Nat.reduceAdd, Nat.reduceEqDiff, Nat.reduceLT, reduceIte, reduceCtorEq, Nat.reduceBEq, Int.reduceLT, Int.reduceToNat, Int.reducePow, Nat.reduceLeDiff, Int.reduceLE, Nat.reduceMul, Nat.reduceSub, slotsSub, hm]
          · rintro ⟨k, nx2⟩ ⟨hk, hkl, hx2⟩
            simp only at hk hkl hx2
            simp only [go_sem, Nat.reduceAdd, Nat.reduceEqDiff, Nat.reduceLT, reduceIte, reduceCtorEq, Nat.reduceBEq, Int.reduceLT, Int.reduceToNat, Int.reducePow, Nat.reduceLeDiff, Int.reduceLE, Nat.reduceMul, Nat.reduceSub]
            by_cases hku : u < k
            · obtain ⟨k, rfl⟩ : ∃ k', k = k' + 1 := ⟨k - 1, by omega⟩
              have e3 : decide (((a + (k + 1) : Nat) : Int) > ((a + u : Nat) : Int)) = true := dec_gt (by omega)
              have w4 : IntKind.i64.wrap (((a + (k + 1) : Nat) : Int) - 1) = ((a + k : Nat) : Int) := by rw [wrap_i64 _ (by omega) (by omega)]; omega
              have ht : A.take (k + 1) = A.take k ++ [A[k]'(by omega)] := List.take_succ_eq_append_getElem (by omega)
              have hfm : P ++ (A.take (k + 1) ++ x :: A.drop (k + 1)) ++ Q = (P ++ A.take k) ++ A[k]'(by omega) :: x :: (A.drop (k + 1) ++ Q) := by rw [ht]; simp only [List.append_assoc, List.cons_append, List.nil_append]
              have hPl : (P ++ A.take k).length = a + k := by simp; omega
              have hsw := swp_next (P ++ A.take k) (A.drop (k + 1) ++ Q) (A[k]'(by omega)) x
              rw [hPl, ← swp_comm _ (by simp; omega) (by simp; omega)] at hsw
              simp only [e3, w4, go_sem, Nat.reduceAdd, Nat.reduceEqDiff, Nat.reduceLT, reduceIte, reduceCtorEq, Nat.reduceBEq, Int.reduceLT, Int.reduceToNat, Int.reducePow, Nat.reduceLeDiff, Int.reduceLE, Nat.reduceMul, Nat.reduceSub]
              rw [hfm]
              refine swap_go _ _ (by simp; omega) (by omega) (by omega) hx2 fun r nx3 hx3 => ?_
              rw [show a + (k + 1) = a + k + 1 from rfl, hsw]
              simp only [show IntKind.i64.wrap (((a + k + 1 : Nat) : Int) - 1) = ((a + k : Nat) : Int) from w4, go_sem, Nat.reduceAdd, Nat.reduceEqDiff, Nat.reduceLT, reduceIte, reduceCtorEq, Nat.reduceBEq, Int.reduceLT, Int.reduceToNat, Int.reducePow, Nat.reduceLeDiff, Int.reduceLE, Nat.reduceMul, Nat.reduceSub]
              refine ⟨(k, nx3), ?_, ⟨by simp only; omega, by simp only; omega, hx3⟩, by simp only; omega⟩
              rw [show P ++ (A.take k ++ x :: A.drop k) ++ Q = (P ++ A.take k) ++ x :: A[k]'(by omega) :: (A.drop (k + 1) ++ Q) by rw [List.drop_eq_getElem_cons (l := A) (i := k) (by omega)]; simp only [List.append_assoc, List.cons_append, List.nil_append]]
              refine weak_forget ?_ (List.Sublist.refl _) (List.Sublist.refl _)
              simp only [go_sem, Nat.reduceAdd, Nat.reduceEqDiff, Nat.reduceLT, reduceIte, reduceCtorEq, Nat.reduceBEq, Int.reduceLT, Int.reduceToNat, Int.reducePow, Nat.reduceLeDiff, Int.reduceLE, Nat.reduceMul, Nat.reduceSub, slotsSub]
            · have hk' : k = u := by omega
              subst hk'
              have e3 : decide (((a + k : Nat) : Int) > ((a + k : Nat) : Int)) = false := dec_ngt (by omega)
              simp only [e3, go_sem, Nat.reduceAdd, Nat.reduceEqDiff, Nat.reduceLT, reduceIte, reduceCtorEq, Nat.reduceBEq, Int.reduceLT, Int.reduceToNat, Int.reducePow, Nat.reduceLeDiff, Int.reduceLE, Nat.reduceMul, Nat.reduceSub]
              rw [← one_right hpx hpA hA hu1 hv1]
              exact ⟨.inr trivial, _, rfl, hK _ _ hx2⟩
    have e2 : (((B.length : Nat) : Int) == 1) = false := by simp only [beq_eq_false_iff_ne, ne_eq]; omega
    have hmid := half a b (by omega)
    obtain ⟨d, hd⟩ : ∃ d, d = (a + b) / 2 := ⟨_, rfl⟩
    rw [← hd] at hmid
    have w2 : IntKind.i64.wrap ((d : Int) + (m : Int)) = ((d + m : Nat) : Int) := by rw [wrap_i64 _ (by omega) (by omega)]; omega
    simp only [e2, hmid, w2, go_sem, Nat.reduceAdd, Nat.reduceEqDiff, Nat.reduceLT, reduceIte, reduceCtorEq, Nat.reduceBEq, Int.reduceLT, Int.reduceToNat, Int.reducePow, Nat.reduceLeDiff, Int.reduceLE, Nat.reduceMul, Nat.reduceSub]
    refine cGo_join (fun s' => ∃ sl s0 r0, s' = ⟨sl, St X Y (P ++ A ++ B ++ Q), [], nx⟩ ∧ (Ab.look sl 0 = some (ifc X n) ∧ Ab.look sl 1 = some (.lit (.int .i64 (a : Int))) ∧ Ab.look sl 2 = some (.lit (.int .i64 (m : Int))) ∧ Ab.look sl 3 = some (.lit (.int .i64 (b : Int)))) ∧
      (Ab.look sl 16 = some (.lit (.int .i64 (d : Int))) ∧ Ab.look sl 17 = some (.lit (.int .i64 ((d + m : Nat) : Int))) ∧ Ab.look sl 18 = some (.lit (.int .i64 ((s0 : Nat) : Int))) ∧ Ab.look sl 19 = some (.lit (.int .i64 ((r0 : Nat) : Int)))) ∧
      (a ≤ s0 ∧ s0 ≤ r0 ∧ r0 ≤ m ∧ r0 ≤ d ∧ d + m ≤ b + s0) ∧ (A.take (s0 - a) = [] ∨ B.drop (d - s0) = []) ∧ (A.drop (r0 - a) = [] ∨ B.take (d - r0) = [])) ?_ ?_
    · refine cGo_split (fun hc => ?_) (fun hc => ?_)
      · simp only [decide_eq_true_eq] at hc
        have w3 : IntKind.i64.wrap (((d + m : Nat) : Int) - (b : Int)) = ((d + m - b : Nat) : Int) := by rw [wrap_i64 _ (by omega) (by omega)]; omega
        simp only [w3, go_sem, Nat.reduceAdd, Nat.reduceEqDiff, Nat.reduceLT, reduceIte, reduceCtorEq, Nat.reduceBEq, Int.reduceLT, Int.reduceToNat, Int.reducePow, Nat.reduceLeDiff, Int.reduceLE, Nat.reduceMul, Nat.reduceSub]
        exact ⟨_, _, _, rfl, ⟨by simp only [go_sem, Nat.reduceAdd, Nat.reduceEqDiff, Nat.reduceLT, reduceIte, reduceCtorEq, Nat.reduceBEq, Int.reduceLT, Int.reduceToNat, Int.reducePow, Nat.reduceLeDiff, Int.reduceLE, Nat.reduceMul, Nat.reduceSub], by simp only [go_sem, Nat.reduceAdd, Nat.reduceEqDiff, Nat.reduceLT, reduceIte, reduceCtorEq, Nat.reduceBEq, Int.reduceLT, Int.reduceToNat, Int.reducePow, Nat.reduceLeDiff, Int.reduceLE, Nat.reduceMul, Nat.reduceSub], by simp only [go_sem, Nat.reduceAdd, Nat.reduceEqDiff, Nat.reduceLT, reduceIte, reduceCtorEq, Nat.reduceBEq, Int.reduceLT, Int.reduceToNat, Int.reducePow, Nat.reduceLeDiff, Int.reduceLE, Nat.reduceMul, Nat.reduceSub], by simp only [go_sem, Nat.reduceAdd, Nat.reduceEqDiff, Nat.reduceLT, reduceIte, reduceCtorEq, Nat.reduceBEq, Int.reduceLT, Int.reduceToNat, Int.reducePow, Nat.reduceLeDiff, Int.reduceLE, Nat.reduceMul, Nat.reduceSub]⟩, ⟨by simp only [go_sem, Nat.reduceAdd, Nat.reduceEqDiff, Nat.reduceLT, reduceIte, reduceCtorEq, Nat.reduceBEq, Int.reduceLT, Int.reduceToNat, Int.reducePow, Nat.reduceLeDiff, Int.reduceLE, Nat.reduceMul, Nat.reduceSub], by simp only [go_sem, Nat.reduceAdd, Nat.reduceEqDiff, Nat.reduceLT, reduceIte, reduceCtorEq, Nat.reduceBEq, Int.reduceLT, Int.reduceToNat, Int.reducePow, Nat.reduceLeDiff, Int.reduceLE, Nat.reduceMul, Nat.reduceSub], by simp only [go_sem, Nat.reduceAdd, Nat.reduceEqDiff, Nat.reduceLT, reduceIte, reduceCtorEq, Nat.reduceBEq, Int.reduceLT, Int.reduceToNat, Int.reducePow, Nat.reduceLeDiff, Int.reduceLE, Nat.reduceMul, Nat.reduceSub]; rfl, by simp only [go_sem, Nat.reduceAdd, Nat.reduceEqDiff, Nat.reduceLT, reduceIte, reduceCtorEq, Nat.reduceBEq, Int.reduceLT, Int.reduceToNat, Int.reducePow, Nat.reduceLeDiff, Int.reduceLE, Nat.reduceMul, Nat.reduceSub]; rfl⟩, by omega, .inr (List.drop_eq_nil_of_le (by omega)), .inr (by rw [Nat.sub_self]; rfl)⟩
      · simp only [decide_eq_false_iff_not] at hc
        simp only [go_sem, Nat.reduceAdd, Nat.reduceEqDiff, Nat.reduceLT, reduceIte, reduceCtorEq, Nat.reduceBEq, Int.reduceLT, Int.reduceToNat, Int.reducePow, Nat.reduceLeDiff, Int.reduceLE, Nat.reduceMul, Nat.reduceSub]
        exact ⟨_, _, _, rfl, ⟨by simp only [go_sem, Nat.reduceAdd, Nat.reduceEqDiff, Nat.reduceLT, reduceIte, reduceCtorEq, Nat.reduceBEq, Int.reduceLT, Int.reduceToNat, Int.reducePow, Nat.reduceLeDiff, Int.reduceLE, Nat.reduceMul, Nat.reduceSub], by simp only [go_sem, Nat.reduceAdd, Nat.reduceEqDiff, Nat.reduceLT, reduceIte, reduceCtorEq, Nat.reduceBEq, Int.reduceLT, Int.reduceToNat, Int.reducePow, Nat.reduceLeDiff, Int.reduceLE, Nat.reduceMul, Nat.reduceSub], by simp only [go_sem, Nat.reduceAdd, Nat.reduceEqDiff, Nat.reduceLT, reduceIte, reduceCtorEq, Nat.reduceBEq, Int.reduceLT, Int.reduceToNat, Int.reducePow, Nat.reduceLeDiff, Int.reduceLE, Nat.reduceMul, Nat.reduceSub], by simp only [go_sem, Nat.reduceAdd, Nat.reduceEqDiff, Nat.reduceLT, reduceIte, reduceCtorEq, Nat.reduceBEq, Int.reduceLT, Int.reduceToNat, Int.reducePow, Nat.reduceLeDiff, Int.reduceLE, Nat.reduceMul, Nat.reduceSub]⟩, ⟨by simp only [go_sem, Nat.reduceAdd, Nat.reduceEqDiff, Nat.reduceLT, reduceIte, reduceCtorEq, Nat.reduceBEq, Int.reduceLT, Int.reduceToNat, Int.reducePow, Nat.reduceLeDiff, Int.reduceLE, Nat.reduceMul, Nat.reduceSub], by simp only [go_sem, Nat.reduceAdd, Nat.reduceEqDiff, Nat.reduceLT, reduceIte, reduceCtorEq, Nat.reduceBEq, Int.reduceLT, Int.reduceToNat, Int.reducePow, Nat.reduceLeDiff, Int.reduceLE, Nat.reduceMul, Nat.reduceSub], by simp only [go_sem, Nat.reduceAdd, Nat.reduceEqDiff, Nat.reduceLT, reduceIte, reduceCtorEq, Nat.reduceBEq, Int.reduceLT, Int.reduceToNat, Int.reducePow, Nat.reduceLeDiff, Int.reduceLE, Nat.reduceMul, Nat.reduceSub]; rfl, by simp only [go_sem, Nat.reduceAdd, Nat.reduceEqDiff, Nat.reduceLT, reduceIte, reduceCtorEq, Nat.reduceBEq, Int.reduceLT, Int.reduceToNat, Int.reducePow, Nat.reduceLeDiff, Int.reduceLE, Nat.reduceMul, Nat.reduceSub]; rfl⟩, by omega, .inl (by rw [Nat.sub_self]; rfl), .inl (List.drop_eq_nil_of_le (by omega))⟩
    rintro _ ⟨sl, s0, r0, rfl, ⟨k0, k1, k2, k3⟩, ⟨k16, k17, k18, k19⟩, ⟨f1, f2, f3, f4, f5⟩, fA, fB⟩
    have w4 : IntKind.i64.wrap (((d + m : Nat) : Int) - 1) = ((d + m - 1 : Nat) : Int) := by rw [wrap_i64 _ (by omega) (by omega)]; omega
    simp only [k17, w4, go_sem, Nat.reduceAdd, Nat.reduceEqDiff, Nat.reduceLT, reduceIte, reduceCtorEq, Nat.reduceBEq, Int.reduceLT, Int.reduceToNat, Int.reducePow, Nat.reduceLeDiff, Int.reduceLE, Nat.reduceMul, Nat.reduceSub]
    refine loop_by (α := Nat × Nat × Nat) (fun v => ⟨[(0, some (ifc X n)), (1, some (.lit (.int .i64 (a : Int)))), (2, some (.lit (.int .i64 (m : Int)))), (3, some (.lit (.int .i64 (b : Int)))), (16, some (.lit (.int .i64 (d : Int)))), (17, some (.lit (.int .i64 ((d + m : Nat) : Int)))), (18, some (.lit (.int .i64 ((v.1 : Nat) : Int)))), (19, some (.lit (.int .i64 ((v.2.1 : Nat) : Int)))), (20, some (.lit (.int .i64 ((d + m - 1 : Nat) : Int))))], St X Y (P ++ A ++ B ++ Q), [], v.2.2⟩)
      (fun v => s0 ≤ v.1 ∧ v.1 ≤ v.2.1 ∧ v.2.1 ≤ r0 ∧ 2 ≤ v.2.2 ∧ (∀ x ∈ A.take (v.1 - a), ∀ y ∈ B.drop (d - v.1), cls x ≤ cls y) ∧ ∀ x ∈ A.drop (v.2.1 - a), ∀ y ∈ B.take (d - v.2.1), cls y < cls x) (fun v => v.2.1 - v.1) (fun v w h => by
        have h1 := congrArg (cnt 18) h
        have h2 := congrArg (cnt 19) h
        simp [cnt, Ab.look] at h1 h2
        omega) (s0, r0, nx) (weak_forget ?_ (List.Sublist.refl _) (List.Sublist.refl _)) ⟨Nat.le_refl _, f2, Nat.le_refl _, hnx, ?_, ?_⟩ ?_
    · simp only [k0, k1, k2, k3, k16, k17, k18, k19, go_sem, Nat.reduceAdd, Nat.reduceEqDiff, Nat.reduceLT, reduceIte, reduceCtorEq, Nat.reduceBEq, Int.reduceLT, Int.reduceToNat, Int.reducePow, Nat.reduceLeDiff, Int.reduceLE, Nat.reduceMul, Nat.reduceSub, slotsSub]
    · rcases fA with h | h
      · simp only [h]; simp
      · simp only [h]; simp
    · rcases fB with h | h
      · simp only [h]; simp
      · simp only [h]; simp
    rintro ⟨s, r, nx1⟩ ⟨hs0, hsr, hr0, hx1, hH2, hH1⟩
    simp only at hs0 hsr hr0 hx1 hH2 hH1
    simp only [go_sem, Nat.reduceAdd, Nat.reduceEqDiff, Nat.reduceLT, reduceIte, reduceCtorEq, Nat.reduceBEq, Int.reduceLT, Int.reduceToNat, Int.reducePow, Nat.reduceLeDiff, Int.reduceLE, Nat.reduceMul, Nat.reduceSub]
    by_cases hlt : s < r
    · have e3 : decide ((s : Int) < (r : Int)) = true := dec_lt hlt
      obtain ⟨c, hc⟩ : ∃ c, c = (s + r) / 2 := ⟨_, rfl⟩
      have hhalf := half s r (by omega)
      rw [← hc] at hhalf
      have w5 : IntKind.i64.wrap (((d + m - 1 : Nat) : Int) - (c : Int)) = ((m + (d - 1 - c) : Nat) : Int) := by rw [wrap_i64 _ (by omega) (by omega)]; omega
      have hca : c - a < A.length := by omega
      have hcb : d - 1 - c < B.length := by omega
      simp only [e3, hhalf, w5, go_sem, Nat.reduceAdd, Nat.reduceEqDiff, Nat.reduceLT, reduceIte, reduceCtorEq, Nat.reduceBEq, Int.reduceLT, Int.reduceToNat, Int.reducePow, Nat.reduceLeDiff, Int.reduceLE, Nat.reduceMul, Nat.reduceSub]
      refine less_at _ _ hL (get_B P A B Q (by omega) hcb) (by have := get_A P A B Q ha hca; rwa [show a + (c - a) = c by omega] at this) hx1 fun nx2 hx2 => ?_
      by_cases hle : cls (B[d - 1 - c]'hcb) < cls (A[c - a]'hca)
      · simp only [hle, Bool.not_true, go_sem, Nat.reduceAdd, Nat.reduceEqDiff, Nat.reduceLT, reduceIte, reduceCtorEq, Nat.reduceBEq, Int.reduceLT, Int.reduceToNat, Int.reducePow, Nat.reduceLeDiff, Int.reduceLE, Nat.reduceMul, Nat.reduceSub]
        refine ⟨(s, c, nx2), weak_forget ?_ (List.Sublist.refl _) (List.Sublist.refl _), ⟨hs0, by simp only; omega, by simp only; omega, hx2, hH2, fun x hx y hy => ?_⟩, by simp only; omega⟩
        · simp only [go_sem, Nat.reduceAdd, Nat.reduceEqDiff, Nat.reduceLT, reduceIte, reduceCtorEq, Nat.reduceBEq, Int.reduceLT, Int.reduceToNat, Int.reducePow, Nat.reduceLeDiff, Int.reduceLE, Nat.reduceMul, Nat.reduceSub, slotsSub]
        · have h1 := asc_drop_ge hA hca x hx
          have h2 := asc_take_le hB hcb y (by rw [show d - 1 - c + 1 = d - c by omega]; exact hy)
          omega
      · have w6 : IntKind.i64.wrap ((c : Int) + 1) = ((c + 1 : Nat) : Int) := by rw [wrap_i64 _ (by omega) (by omega)]; omega
        simp only [hle, Bool.not_false, w6, go_sem, Nat.reduceAdd, Nat.reduceEqDiff, Nat.reduceLT, reduceIte, reduceCtorEq, Nat.reduceBEq, Int.reduceLT, Int.reduceToNat, Int.reducePow, Nat.reduceLeDiff, Int.reduceLE, Nat.reduceMul, Nat.reduceSub]
        refine ⟨(c + 1, r, nx2), weak_forget ?_ (List.Sublist.refl _) (List.Sublist.refl _), ⟨by simp only; omega, by simp only; omega, hr0, hx2, fun x hx y hy => ?_, hH1⟩, by simp only; omega⟩
        · simp only [go_sem, Nat.reduceAdd, Nat.reduceEqDiff, Nat.reduceLT, reduceIte, reduceCtorEq, Nat.reduceBEq, Int.reduceLT, Int.reduceToNat, Int.reducePow, Nat.reduceLeDiff, Int.reduceLE, Nat.reduceMul, Nat.reduceSub, slotsSub]
        · have h1 := asc_take_le hA hca x (by rw [show c - a + 1 = c + 1 - a by omega]; exact hx)
          have h2 := asc_drop_ge hB hcb y (by rw [show d - 1 - c = d - (c + 1) by omega]; exact hy)
          omega
    have he : s = r := by omega
    subst he
    have w5 : IntKind.i64.wrap (((d + m : Nat) : Int) - (s : Int)) = ((d + m - s : Nat) : Int) := by rw [wrap_i64 _ (by omega) (by omega)]; omega
    have hsplitA : A.take (s - a) ++ A.drop (s - a) = A := List.take_append_drop _ _
    have hsplitB : B.take (d - s) ++ B.drop (d - s) = B := List.take_append_drop _ _
    have lA1 : (A.take (s - a)).length = s - a := by simp; omega
    have lA2 : (A.drop (s - a)).length = m - s := by simp; omega
    have lB1 : (B.take (d - s)).length = d - s := by simp; omega
    have lB2 : (B.drop (d - s)).length = b - (d + m - s) := by simp; omega
    have aA1 := asc_take hA (s - a)
    have aA2 := asc_drop hA (s - a)
    have aB1 := asc_take hB (d - s)
    have aB2 := asc_drop hB (d - s)
    generalize A.take (s - a) = A1 at hH2 hsplitA lA1 aA1
    generalize A.drop (s - a) = A2 at hH1 hsplitA lA2 aA2
    generalize B.take (d - s) = B1 at hH1 hsplitB lB1 aB1
    generalize B.drop (d - s) = B2 at hH2 hsplitB lB2 aB2
    subst hsplitA hsplitB
    rw [sym_law hp hA hB hH2 hH1] at hK
    simp only [dec_irr, w5, go_sem, Nat.reduceAdd, Nat.reduceEqDiff, Nat.reduceLT, reduceIte, reduceCtorEq, Nat.reduceBEq, Int.reduceLT, Int.reduceToNat, Int.reducePow, Nat.reduceLeDiff, Int.reduceLE, Nat.reduceMul, Nat.reduceSub]
    unfold a105_9
    simp only [List.length_append] at hm hb hL
    refine awp_cut (fun s' => ∃ sl nx', s' = ⟨sl, St X Y (P ++ (A1 ++ B1) ++ (A2 ++ B2) ++ Q), [], nx'⟩ ∧ 2 ≤ nx' ∧ (Ab.look sl 0 = some (ifc X n) ∧ Ab.look sl 1 = some (.lit (.int .i64 (a : Int))) ∧ Ab.look sl 3 = some (.lit (.int .i64 (b : Int)))) ∧
      (Ab.look sl 16 = some (.lit (.int .i64 (d : Int))) ∧ Ab.look sl 18 = some (.lit (.int .i64 (s : Int))) ∧ Ab.look sl 22 = some (.lit (.int .i64 ((d + m - s : Nat) : Int))))) ?_ ?_
    · by_cases hc1 : s < m
      · by_cases hc2 : s < d
        · have e4 : decide ((s : Int) < (m : Int)) = true := dec_lt hc1
          have e5 : decide ((m : Int) < ((d + m - s : Nat) : Int)) = true := dec_lt (by omega)
          simp only [e4, e5, go_sem, Nat.reduceAdd, Nat.reduceEqDiff, Nat.reduceLT, reduceIte, reduceCtorEq, Nat.reduceBEq, Int.reduceLT, Int.reduceToNat, Int.reducePow, Nat.reduceLeDiff, Int.reduceLE, Nat.reduceMul, Nat.reduceSub]
          rw [show P ++ (A1 ++ A2) ++ (B1 ++ B2) ++ Q = P ++ A1 ++ A2 ++ B1 ++ (B2 ++ Q) by simp]
          refine callGo_ok (rotate_ok X Y (P ++ A1) A2 B1 (B2 ++ Q) (by simp; omega) (by simp; omega) (by omega) (by omega) (by omega) (by omega) hn hx1 fun r nx2 hx2 => ?_)
          rw [show P ++ A1 ++ B1 ++ A2 ++ (B2 ++ Q) = P ++ (A1 ++ B1) ++ (A2 ++ B2) ++ Q by simp]
          simp only [go_sem, Nat.reduceAdd, Nat.reduceEqDiff, Nat.reduceLT, reduceIte, reduceCtorEq, Nat.reduceBEq, Int.reduceLT, Int.reduceToNat, Int.reducePow, Nat.reduceLeDiff, Int.reduceLE, Nat.reduceMul, Nat.reduceSub]
          exact ⟨_, _, rfl, hx2, ⟨by simp only [go_sem, Nat.reduceAdd, Nat.reduceEqDiff, Nat.reduceLT, reduceIte, reduceCtorEq, Nat.reduceBEq, Int.reduceLT, Int.reduceToNat, Int.reducePow, Nat.reduceLeDiff, Int.reduceLE, Nat.reduceMul, Nat.reduceSub], by simp only [go_sem, Nat.reduceAdd, Nat.reduceEqDiff, Nat.reduceLT, reduceIte, reduceCtorEq, Nat.reduceBEq, Int.reduceLT, Int.reduceToNat, Int.reducePow, Nat.reduceLeDiff, Int.reduceLE, Nat.reduceMul, Nat.reduceSub], by simp only [go_sem, Nat.reduceAdd, Nat.reduceEqDiff, Nat.reduceLT, reduceIte, reduceCtorEq, Nat.reduceBEq, Int.reduceLT, Int.reduceToNat, Int.reducePow, Nat.reduceLeDiff, Int.reduceLE, Nat.reduceMul, Nat.reduceSub]⟩, by simp only [go_sem, Nat.reduceAdd, Nat.reduceEqDiff, Nat.reduceLT, reduceIte, reduceCtorEq, Nat.reduceBEq, Int.reduceLT, Int.reduceToNat, Int.reducePow, Nat.reduceLeDiff, Int.reduceLE, Nat.reduceMul, Nat.reduceSub], by simp only [go_sem, Nat.reduceAdd, Nat.reduceEqDiff, Nat.reduceLT, reduceIte, reduceCtorEq, Nat.reduceBEq, Int.reduceLT, Int.reduceToNat, Int.reducePow, Nat.reduceLeDiff, Int.reduceLE, Nat.reduceMul, Nat.reduceSub], by simp only [go_sem, Nat.reduceAdd, Nat.reduceEqDiff, Nat.reduceLT, reduceIte, reduceCtorEq, Nat.reduceBEq, Int.reduceLT, Int.reduceToNat, Int.reducePow, Nat.reduceLeDiff, Int.reduceLE, Nat.reduceMul, Nat.reduceSub]⟩
        · have e4 : decide ((s : Int) < (m : Int)) = true := dec_lt hc1
          have e5 : decide ((m : Int) < ((d + m - s : Nat) : Int)) = false := dec_nlt (by omega)
          have hB1' : B1 = [] := List.length_eq_zero_iff.1 (by omega)
          rw [show P ++ (A1 ++ A2) ++ (B1 ++ B2) ++ Q = P ++ (A1 ++ B1) ++ (A2 ++ B2) ++ Q by rw [hB1']; simp]
          simp only [e4, e5, go_sem, Nat.reduceAdd, Nat.reduceEqDiff, Nat.reduceLT, reduceIte, reduceCtorEq, Nat.reduceBEq, Int.reduceLT, Int.reduceToNat, Int.reducePow, Nat.reduceLeDiff, Int.reduceLE, Nat.reduceMul, Nat.reduceSub]
          exact ⟨_, _, rfl, hx1, ⟨by simp only [go_sem, Nat.reduceAdd, Nat.reduceEqDiff, Nat.reduceLT, reduceIte, reduceCtorEq, Nat.reduceBEq, Int.reduceLT, Int.reduceToNat, Int.reducePow, Nat.reduceLeDiff, Int.reduceLE, Nat.reduceMul, Nat.reduceSub], by simp only [go_sem, Nat.reduceAdd, Nat.reduceEqDiff, Nat.reduceLT, reduceIte, reduceCtorEq, Nat.reduceBEq, Int.reduceLT, Int.reduceToNat, Int.reducePow, Nat.reduceLeDiff, Int.reduceLE, Nat.reduceMul, Nat.reduceSub], by simp only [go_sem, Nat.reduceAdd, Nat.reduceEqDiff, Nat.reduceLT, reduceIte, reduceCtorEq, Nat.reduceBEq, Int.reduceLT, Int.reduceToNat, Int.reducePow, Nat.reduceLeDiff, Int.reduceLE, Nat.reduceMul, Nat.reduceSub]⟩, by simp only [go_sem, Nat.reduceAdd, Nat.reduceEqDiff, Nat.reduceLT, reduceIte, reduceCtorEq, Nat.reduceBEq, Int.reduceLT, Int.reduceToNat, Int.reducePow, Nat.reduceLeDiff, Int.reduceLE, Nat.reduceMul, Nat.reduceSub], by simp only [go_sem, Nat.reduceAdd, Nat.reduceEqDiff, Nat.reduceLT, reduceIte, reduceCtorEq, Nat.reduceBEq, Int.reduceLT, Int.reduceToNat, Int.reducePow, Nat.reduceLeDiff, Int.reduceLE, Nat.reduceMul, Nat.reduceSub], by simp only [go_sem, Nat.reduceAdd, Nat.reduceEqDiff, Nat.reduceLT, reduceIte, reduceCtorEq, Nat.reduceBEq, Int.reduceLT, Int.reduceToNat, Int.reducePow, Nat.reduceLeDiff, Int.reduceLE, Nat.reduceMul, Nat.reduceSub]⟩
      · have e4 : decide ((s : Int) < (m : Int)) = false := dec_nlt hc1
        have hA2' : A2 = [] := List.length_eq_zero_iff.1 (by omega)
        rw [show P ++ (A1 ++ A2) ++ (B1 ++ B2) ++ Q = P ++ (A1 ++ B1) ++ (A2 ++ B2) ++ Q by rw [hA2']; simp]
        simp only [e4, go_sem, Nat.reduceAdd, Nat.reduceEqDiff, Nat.reduceLT, reduceIte, reduceCtorEq, Nat.reduceBEq, Int.reduceLT, Int.reduceToNat, Int.reducePow, Nat.reduceLeDiff, Int.reduceLE, Nat.reduceMul, Nat.reduceSub]
        exact ⟨_, _, rfl, hx1, ⟨by simp only [go_sem, Nat.reduceAdd, Nat.reduceEqDiff, Nat.reduceLT, reduceIte, reduceCtorEq, Nat.reduceBEq, Int.reduceLT, Int.reduceToNat, Int.reducePow, Nat.reduceLeDiff, Int.reduceLE, Nat.reduceMul, Nat.reduceSub], by simp only [go_sem, Nat.reduceAdd, Nat.reduceEqDiff, Nat.reduceLT, reduceIte, reduceCtorEq, Nat.reduceBEq, Int.reduceLT, Int.reduceToNat, Int.reducePow, Nat.reduceLeDiff, Int.reduceLE, Nat.reduceMul, Nat.reduceSub], by simp only [go_sem, Nat.reduceAdd, Nat.reduceEqDiff, Nat.reduceLT, reduceIte, reduceCtorEq, Nat.reduceBEq, Int.reduceLT, Int.reduceToNat, Int.reducePow, Nat.reduceLeDiff, Int.reduceLE, Nat.reduceMul, Nat.reduceSub]⟩, by simp only [go_sem, Nat.reduceAdd, Nat.reduceEqDiff, Nat.reduceLT, reduceIte, reduceCtorEq, Nat.reduceBEq, Int.reduceLT, Int.reduceToNat, Int.reducePow, Nat.reduceLeDiff, Int.reduceLE, Nat.reduceMul, Nat.reduceSub], by simp only [go_sem, Nat.reduceAdd, Nat.reduceEqDiff, Nat.reduceLT, reduceIte, reduceCtorEq, Nat.reduceBEq, Int.reduceLT, Int.reduceToNat, Int.reducePow, Nat.reduceLeDiff, Int.reduceLE, Nat.reduceMul, Nat.reduceSub], by simp only [go_sem, Nat.reduceAdd, Nat.reduceEqDiff, Nat.reduceLT, reduceIte, reduceCtorEq, Nat.reduceBEq, Int.reduceLT, Int.reduceToNat, Int.reducePow, Nat.reduceLeDiff, Int.reduceLE, Nat.reduceMul, Nat.reduceSub]⟩
    rintro _ ⟨sl1, nx2, rfl, hx2, ⟨q0, q1, q3⟩, q16, q18, q22⟩
    have hp1 : ∀ x ∈ A1 ++ B1, 0 < cls x := fun x hx => by
      rcases List.mem_append.1 hx with hx | hx <;> exact hp x (by simp [hx])
    have hp2 : ∀ x ∈ A2 ++ B2, 0 < cls x := fun x hx => by
      rcases List.mem_append.1 hx with hx | hx <;> exact hp x (by simp [hx])
    have lc1 : (canon cls (A1 ++ B1)).length = d - a := by rw [canon_length]; simp; omega
    refine awp_cut (fun s' => ∃ sl nx', s' = ⟨sl, St X Y (P ++ canon cls (A1 ++ B1) ++ (A2 ++ B2) ++ Q), [], nx'⟩ ∧ 2 ≤ nx' ∧ (Ab.look sl 0 = some (ifc X n) ∧ Ab.look sl 3 = some (.lit (.int .i64 (b : Int)))) ∧
      (Ab.look sl 16 = some (.lit (.int .i64 (d : Int))) ∧ Ab.look sl 22 = some (.lit (.int .i64 ((d + m - s : Nat) : Int))))) ?_ ?_
    · by_cases hc1 : a < s
      · by_cases hc2 : s < d
        · have e4 : decide ((a : Int) < (s : Int)) = true := dec_lt hc1
          have e5 : decide ((s : Int) < (d : Int)) = true := dec_lt hc2
          simp only [q0, q1, q3, q16, q18, q22, e4, e5, go_sem, Nat.reduceAdd, Nat.reduceEqDiff, Nat.reduceLT, reduceIte, reduceCtorEq, Nat.reduceBEq, Int.reduceLT, Int.reduceToNat, Int.reducePow, Nat.reduceLeDiff, Int.reduceLE, Nat.reduceMul, Nat.reduceSub]
          rw [show P ++ (A1 ++ B1) ++ (A2 ++ B2) ++ Q = P ++ A1 ++ B1 ++ (A2 ++ B2 ++ Q) by simp]
          refine callGo_ok (ih P A1 B1 (A2 ++ B2 ++ Q) _ _ _ _ _ (by omega) (by simp; omega) ha (by omega) (by omega) (by omega) (by omega) aA1 aB1 hp1 hx2 fun r nx3 hx3 => ?_)
          rw [show P ++ canon cls (A1 ++ B1) ++ (A2 ++ B2 ++ Q) = P ++ canon cls (A1 ++ B1) ++ (A2 ++ B2) ++ Q by simp]
          simp only [go_sem, Nat.reduceAdd, Nat.reduceEqDiff, Nat.reduceLT, reduceIte, reduceCtorEq, Nat.reduceBEq, Int.reduceLT, Int.reduceToNat, Int.reducePow, Nat.reduceLeDiff, Int.reduceLE, Nat.reduceMul, Nat.reduceSub]
          exact ⟨_, _, rfl, hx3, ⟨by simp only [q0, go_sem, Nat.reduceAdd, Nat.reduceEqDiff, Nat.reduceLT, reduceIte, reduceCtorEq, Nat.reduceBEq, Int.reduceLT, Int.reduceToNat, Int.reducePow, Nat.reduceLeDiff, Int.reduceLE, Nat.reduceMul, Nat.reduceSub], by simp only [q3, go_sem, Nat.reduceAdd, Nat.reduceEqDiff, Nat.reduceLT, reduceIte, reduceCtorEq, Nat.reduceBEq, Int.reduceLT, Int.reduceToNat, Int.reducePow, Nat.reduceLeDiff, Int.reduceLE, Nat.reduceMul, Nat.reduceSub]⟩, by simp only [q16, go_sem, Nat.reduceAdd, Nat.reduceEqDiff, Nat.reduceLT, reduceIte, reduceCtorEq, Nat.reduceBEq, Int.reduceLT, Int.reduceToNat, Int.reducePow, Nat.reduceLeDiff, Int.reduceLE, Nat.reduceMul, Nat.reduceSub], by simp only [q22, go_sem, Nat.reduceAdd, Nat.reduceEqDiff, Nat.reduceLT, reduceIte, reduceCtorEq, Nat.reduceBEq, Int.reduceLT, Int.reduceToNat, Int.reducePow, Nat.reduceLeDiff, Int.reduceLE, Nat.reduceMul, Nat.reduceSub]⟩
        · have e4 : decide ((a : Int) < (s : Int)) = true := dec_lt hc1
          have e5 : decide ((s : Int) < (d : Int)) = false := dec_nlt hc2
          have hB1' : B1 = [] := List.length_eq_zero_iff.1 (by omega)
          have hc : canon cls (A1 ++ B1) = A1 ++ B1 := by rw [hB1', List.append_nil, canon_of_asc cls aA1]
          rw [hc]
          simp only [q0, q1, q3, q16, q18, q22, e4, e5, go_sem, Nat.reduceAdd, Nat.reduceEqDiff, Nat.reduceLT, reduceIte, reduceCtorEq, Nat.reduceBEq, Int.reduceLT, Int.reduceToNat, Int.reducePow, Nat.reduceLeDiff, Int.reduceLE, Nat.reduceMul, Nat.reduceSub]
          exact ⟨_, _, rfl, hx2, ⟨by simp only [q0, go_sem, Nat.reduceAdd, Nat.reduceEqDiff, Nat.reduceLT, reduceIte, reduceCtorEq, Nat.reduceBEq, Int.reduceLT, Int.reduceToNat, Int.reducePow, Nat.reduceLeDiff, Int.reduceLE, Nat.reduceMul, Nat.reduceSub], by simp only [q3, go_sem, Nat.reduceAdd, Nat.reduceEqDiff, Nat.reduceLT, reduceIte, reduceCtorEq, Nat.reduceBEq, Int.reduceLT, Int.reduceToNat, Int.reducePow, Nat.reduceLeDiff, Int.reduceLE, Nat.reduceMul, Nat.reduceSub]⟩, by simp only [q16, go_sem, Nat.reduceAdd, Nat.reduceEqDiff, Nat.reduceLT, reduceIte, reduceCtorEq, Nat.reduceBEq, Int.reduceLT, Int.reduceToNat, Int.reducePow, Nat.reduceLeDiff, Int.reduceLE, Nat.reduceMul, Nat.reduceSub], by simp only [q22, go_sem, Nat.reduceAdd, Nat.reduceEqDiff, Nat.reduceLT, reduceIte, reduceCtorEq, Nat.reduceBEq, Int.reduceLT, Int.reduceToNat, Int.reducePow, Nat.reduceLeDiff, Int.reduceLE, Nat.reduceMul, Nat.reduceSub]⟩
      · have e4 : decide ((a : Int) < (s : Int)) = false := dec_nlt hc1
        have hA1' : A1 = [] := List.length_eq_zero_iff.1 (by omega)
        have hc : canon cls (A1 ++ B1) = A1 ++ B1 := by rw [hA1', List.nil_append, canon_of_asc cls aB1]
        rw [hc]
        simp only [q0, q1, q3, q16, q18, q22, e4, go_sem, Nat.reduceAdd, Nat.reduceEqDiff, Nat.reduceLT, reduceIte, reduceCtorEq, Nat.reduceBEq, Int.reduceLT, Int.reduceToNat, Int.reducePow, Nat.reduceLeDiff, Int.reduceLE, Nat.reduceMul, Nat.reduceSub]
        exact ⟨_, _, rfl, hx2, ⟨by simp only [q0, go_sem, Nat.reduceAdd, Nat.reduceEqDiff, Nat.reduceLT, reduceIte, reduceCtorEq, Nat.reduceBEq, Int.reduceLT, Int.reduceToNat, Int.reducePow, Nat.reduceLeDiff, Int.reduceLE, Nat.reduceMul, Nat.reduceSub], by simp only [q3, go_sem, Nat.reduceAdd, Nat.reduceEqDiff, Nat.reduceLT, reduceIte, reduceCtorEq, Nat.reduceBEq, Int.reduceLT, Int.reduceToNat, Int.reducePow, Nat.reduceLeDiff, Int.reduceLE, Nat.reduceMul, Nat.reduceSub]⟩, by simp only [q16, go_sem, Nat.reduceAdd, Nat.reduceEqDiff, Nat.reduceLT, reduceIte, reduceCtorEq, Nat.reduceBEq, Int.reduceLT, Int.reduceToNat, Int.reducePow, Nat.reduceLeDiff, Int.reduceLE, Nat.reduceMul, Nat.reduceSub], by simp only [q22, go_sem, Nat.reduceAdd, Nat.reduceEqDiff, Nat.reduceLT, reduceIte, reduceCtorEq, Nat.reduceBEq, Int.reduceLT, Int.reduceToNat, Int.reducePow, Nat.reduceLeDiff, Int.reduceLE, Nat.reduceMul, Nat.reduceSub]⟩
    rintro _ ⟨sl2, nx3, rfl, hx3, ⟨p0, p3⟩, p16, p22⟩
    by_cases hc1 : s < m
    · by_cases hc2 : d + m - s < b
      · have e4 : decide ((d : Int) < ((d + m - s : Nat) : Int)) = true := dec_lt (by omega)
        have e5 : decide (((d + m - s : Nat) : Int) < (b : Int)) = true := dec_lt hc2
        simp only [p0, p3, p16, p22, e4, e5, go_sem, Nat.reduceAdd, Nat.reduceEqDiff, Nat.reduceLT, reduceIte, reduceCtorEq, Nat.reduceBEq, Int.reduceLT, Int.reduceToNat, Int.reducePow, Nat.reduceLeDiff, Int.reduceLE, Nat.reduceMul, Nat.reduceSub]
        rw [show P ++ canon cls (A1 ++ B1) ++ (A2 ++ B2) ++ Q = P ++ canon cls (A1 ++ B1) ++ A2 ++ B2 ++ Q by simp]
        refine callGo_ok (ih (P ++ canon cls (A1 ++ B1)) A2 B2 Q _ _ _ _ _ (by omega) (by simp only [List.length_append, lc1]; omega) (by simp only [List.length_append, lc1]; omega) (by omega) (by omega) (by omega) (by omega) aA2 aB2 hp2 hx3 fun r nx4 hx4 => ?_)
        simp only [go_sem, Nat.reduceAdd, Nat.reduceEqDiff, Nat.reduceLT, reduceIte, reduceCtorEq, Nat.reduceBEq, Int.reduceLT, Int.reduceToNat, Int.reducePow, Nat.reduceLeDiff, Int.reduceLE, Nat.reduceMul, Nat.reduceSub]
        refine ⟨.inl trivial, _, rfl, ?_⟩
        have := hK (.tu []) _ hx4
        rwa [← List.append_assoc P] at this
      · have e4 : decide ((d : Int) < ((d + m - s : Nat) : Int)) = true := dec_lt (by omega)
        have e5 : decide (((d + m - s : Nat) : Int) < (b : Int)) = false := dec_nlt hc2
        have hB2' : B2 = [] := List.length_eq_zero_iff.1 (by omega)
        have hc : canon cls (A2 ++ B2) = A2 ++ B2 := by rw [hB2', List.append_nil, canon_of_asc cls aA2]
        simp only [p0, p3, p16, p22, e4, e5, go_sem, Nat.reduceAdd, Nat.reduceEqDiff, Nat.reduceLT, reduceIte, reduceCtorEq, Nat.reduceBEq, Int.reduceLT, Int.reduceToNat, Int.reducePow, Nat.reduceLeDiff, Int.reduceLE, Nat.reduceMul, Nat.reduceSub]
        refine ⟨.inl trivial, _, rfl, ?_⟩
        have := hK (.tu []) _ hx3
        rwa [hc, ← List.append_assoc P] at this
    · have e4 : decide ((d : Int) < ((d + m - s : Nat) : Int)) = false := dec_nlt (by omega)
      have hA2' : A2 = [] := List.length_eq_zero_iff.1 (by omega)
      have hc : canon cls (A2 ++ B2) = A2 ++ B2 := by rw [hA2', List.nil_append, canon_of_asc cls aB2]
      simp only [p0, p3, p16, p22, e4, go_sem, Nat.reduceAdd, Nat.reduceEqDiff, Nat.reduceLT, reduceIte, reduceCtorEq, Nat.reduceBEq, Int.reduceLT, Int.reduceToNat, Int.reducePow, Nat.reduceLeDiff, Int.reduceLE, Nat.reduceMul, Nat.reduceSub]
      refine ⟨.inl trivial, _, rfl, ?_⟩
      have := hK (.tu []) _ hx3
      rwa [hc, ← List.append_assoc P] at this
end Go.Proofs.Ytmhpjoadfgplgaa
