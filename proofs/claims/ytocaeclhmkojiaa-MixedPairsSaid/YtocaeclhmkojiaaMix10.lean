/-
Digits of two systems in one label are told, of one system none are: the law answers true, whatever it is handed. Conditions: none.
-/
import Derived.Test.YtocaeclhmkojiaaMix9
set_option linter.unusedSimpArgs false
set_option linter.unusedVariables false
set_option linter.unusedSectionVars false
namespace Go.Proofs.Ytocaeclhmkojiaa
open Go Go.Ab Go.ChangeShapes Go.WideShapes Go.ChangeAt Go.RowKit
def a9 : ACode :=
  (.seq (.reg [⟨(.some 6), (.mv (.k (.bool false))), .none⟩]) (.seq (.reg [⟨(.some 17), (.bs 21 1 [(.k (.int .i32 48)), (.k (.int .i32 1632)), (.k (.int .i32 1776)), (.k (.int .i32 2406)), (.k (.int
  .i32 65296))]), .none⟩, ⟨(.some 7), (.mv (.t 17)), .none⟩]) (.seq (.reg [⟨(.some 8), (.mv (.k (.slice .none 0 0))), .none⟩]) (.seq (.reg [⟨(.some 18), (.bd [(.int .i64 0), (.int .i64 0)] []), .none⟩,
  ⟨(.some 9), (.alc 37 [(.int .i64 0), (.int .i64 0)]), .none⟩, ⟨.none, (.st 2 (.t 9) (.t 18)), .none⟩]) (.seq (.seq (.reg [⟨(.some 19), (.mv (.t 2)), .none⟩, ⟨(.some 20), (.mv (.t 2)), .none⟩, ⟨(.some
  21), (.len (.t 20)), .none⟩, ⟨(.some 22), (.mn (.t 21) (.k (.int .i64 50))), .none⟩, ⟨(.some 23), (.slc 5 (.t 19) .none (.some (.t 22))), .none⟩, ⟨(.some 24), (.len (.t 23)), .none⟩, ⟨(.some 25), (.mv
  (.k (.int .i64 0))), .none⟩]) (.block 0 (.loop (.seq (.reg [⟨(.some 26), (.bin .lss (.t 25) (.t 24)), .none⟩]) (.seq (.cond (.t 26) .skip (.exit 0)) (.seq (.block 1 (.seq (.reg [⟨(.some 27), (.mv (.t
  25)), .none⟩, ⟨(.some 28), (.ia 5 (.t 23) (.t 25)), .none⟩, ⟨(.some 29), (.ld .none (.t 28)), .none⟩, ⟨(.some 10), (.mv (.t 27)), .none⟩, ⟨(.some 11), (.mv (.t 29)), .none⟩]) (.seq (.reg [⟨(.some 30),
  (.mv (.t 0)), .none⟩, ⟨(.some 31), (.mv (.t 1)), .none⟩, ⟨(.some 32), (.bs 5 1 [(.t 30), (.t 31)]), .none⟩, ⟨(.some 33), (.mv (.t 10)), .none⟩, ⟨(.some 34), (.bin .rem (.t 33) (.k (.int .i64 2))),
  .none⟩, ⟨(.some 35), (.ia 5 (.t 32) (.t 34)), .none⟩, ⟨(.some 36), (.ld .none (.t 35)), .none⟩, ⟨(.some 37), (.bin .rem (.t 36) (.k (.int .u8 5))), .none⟩, ⟨(.some 12), (.mv (.t 37)), .none⟩]) (.seq
  (.reg [⟨(.some 38), (.mv (.t 10)), .none⟩, ⟨(.some 39), (.bin .rem (.t 38) (.k (.int .i64 2))), .none⟩, ⟨(.some 40), (.iaA 2 1 (.t 9) (.t 39)), .none⟩, ⟨.none, (.st 1 (.t 40) (.k (.int .i64 1))),
  .none⟩]) (.reg [⟨(.some 41), (.mv (.t 8)), .none⟩, ⟨(.some 42), (.mv (.t 7)), .none⟩, ⟨(.some 43), (.mv (.t 12)), .none⟩, ⟨(.some 44), (.ia 21 (.t 42) (.t 43)), .none⟩, ⟨(.some 45), (.ld .none (.t
  44)), .none⟩, ⟨(.some 46), (.mv (.t 11)), .none⟩, ⟨(.some 47), (.bin .rem (.t 46) (.k (.int .u8 10))), .none⟩, ⟨(.some 48), (.cvI .i32 (.t 47)), .none⟩, ⟨(.some 49), (.bin .add (.t 45) (.t 48)),
  .none⟩, ⟨(.some 50), (.bs 21 1 [(.t 49)]), .none⟩, ⟨(.some 51), (.app 21 4 (.t 41) (.t 50)), .none⟩, ⟨(.some 8), (.mv (.t 51)), .none⟩]))))) (.reg [⟨(.some 52), (.bin .add (.t 25) (.k (.int .i64 1))),
  .none⟩, ⟨(.some 25), (.mv (.t 52)), .none⟩]))))))) (.seq (.reg [⟨(.some 53), (.iaA 2 1 (.t 9) (.k (.int .i64 1))), .none⟩, ⟨(.some 54), (.ld .none (.t 53)), .none⟩, ⟨(.some 55), (.bin .eql (.t 54) (.k
  (.int .i64 0))), .none⟩, ⟨(.some 56), (.mv (.t 55)), .none⟩, ⟨(.some 57), (.mv (.t 0)), (.some (56, false))⟩, ⟨(.some 58), (.bin .rem (.t 57) (.k (.int .u8 5))), (.some (56, false))⟩, ⟨(.some 59),
  (.mv (.t 1)), (.some (56, false))⟩, ⟨(.some 60), (.bin .rem (.t 59) (.k (.int .u8 5))), (.some (56, false))⟩, ⟨(.some 61), (.bin .eql (.t 58) (.t 60)), (.some (56, false))⟩, ⟨(.some 62), (.pick (.t
  56) (.k (.bool true)) (.t 61)), .none⟩, ⟨(.some 13), (.mv (.t 62)), .none⟩]) (.seq (.seq (.reg [⟨(.some 63), (.mv (.t 8)), .none⟩, ⟨(.some 64), (.call (.f 29) [(.t 63)]), .none⟩, ⟨(.some 65), (.mv (.t
  13)), .none⟩, ⟨(.some 66), (.eqB true (.t 64) (.t 65)), .none⟩, ⟨(.some 67), (.mv (.t 66)), .none⟩, ⟨(.some 68), (.mv (.t 8)), (.some (67, false))⟩, ⟨(.some 69), (.bs 21 1 [(.k (.int .i32 97)), (.k
  (.int .i32 1072))]), (.some (67, false))⟩, ⟨(.some 70), (.app 21 4 (.t 68) (.t 69)), (.some (67, false))⟩, ⟨(.some 71), (.call (.f 29) [(.t 70)]), (.some (67, false))⟩, ⟨(.some 72), (.mv (.t 13)),
  (.some (67, false))⟩, ⟨(.some 73), (.eqB true (.t 71) (.t 72)), (.some (67, false))⟩, ⟨(.some 74), (.pick (.t 67) (.k (.bool true)) (.t 73)), .none⟩]) (.cond (.t 74) (.seq (.reg [⟨(.some 6), (.mv (.k
  (.bool false))), .none⟩]) .ret) .skip)) (.seq (.reg [⟨(.some 75), (.mv (.t 8)), .none⟩, ⟨(.some 76), (.call (.f 31) [(.t 75)]), .none⟩, ⟨(.some 14), (.mv (.t 76)), .none⟩]) (.seq (.reg [⟨(.some 15),
  (.mv (.f 34)), .none⟩]) (.seq (.reg [⟨(.some 16), (.mv (.f 35)), .none⟩]) (.seq (.seq (.reg [⟨(.some 77), (.iaA 2 1 (.t 9) (.k (.int .i64 1))), .none⟩, ⟨(.some 78), (.ld .none (.t 77)), .none⟩,
  ⟨(.some 79), (.bin .eql (.t 78) (.k (.int .i64 1))), .none⟩, ⟨(.some 80), (.mv (.t 79)), .none⟩, ⟨(.some 81), (.mv (.t 15)), (.some (80, true))⟩, ⟨(.some 82), (.mv (.t 0)), (.some (80, true))⟩,
  ⟨(.some 83), (.call (.t 81) [(.t 82)]), (.some (80, true))⟩, ⟨(.some 84), (.mv (.t 83)), (.some (80, true))⟩, ⟨(.some 85), (.mv (.t 16)), (.some (84, true))⟩, ⟨(.some 86), (.mv (.t 1)), (.some (84,
  true))⟩, ⟨(.some 87), (.call (.t 85) [(.t 86)]), (.some (84, true))⟩, ⟨(.some 88), (.pick (.t 84) (.t 87) (.k (.bool false))), (.some (80, true))⟩, ⟨(.some 89), (.mv (.t 88)), (.some (80, true))⟩,
  ⟨(.some 90), (.mv (.t 15)), (.some (89, false))⟩, ⟨(.some 91), (.mv (.t 1)), (.some (89, false))⟩, ⟨(.some 92), (.call (.t 90) [(.t 91)]), (.some (89, false))⟩, ⟨(.some 93), (.mv (.t 92)), (.some (89,
  false))⟩, ⟨(.some 94), (.mv (.t 16)), (.some (93, true))⟩, ⟨(.some 95), (.mv (.t 0)), (.some (93, true))⟩, ⟨(.some 96), (.call (.t 94) [(.t 95)]), (.some (93, true))⟩, ⟨(.some 97), (.pick (.t 93) (.t
  96) (.k (.bool false))), (.some (89, false))⟩, ⟨(.some 98), (.pick (.t 89) (.k (.bool true)) (.t 97)), (.some (80, true))⟩, ⟨(.some 99), (.pick (.t 80) (.t 98) (.k (.bool false))), .none⟩]) (.cond (.t
  99) (.seq (.reg [⟨(.some 100), (.mv (.t 14)), .none⟩, ⟨(.some 101), (.bin .eql (.t 100) (.k (.int .u8 13))), .none⟩, ⟨(.some 102), (.mv (.t 101)), .none⟩, ⟨(.some 103), (.call (.f 33) []), (.some
  (102, true))⟩, ⟨(.some 104), (.pick (.t 102) (.t 103) (.k (.bool false))), .none⟩, ⟨(.some 6), (.mv (.t 104)), .none⟩]) .ret) .skip)) (.seq (.reg [⟨(.some 105), (.mv (.t 14)), .none⟩, ⟨(.some 106),
  (.bin .eql (.t 105) (.k (.int .u8 14))), .none⟩, ⟨(.some 107), (.mv (.t 13)), .none⟩, ⟨(.some 108), (.not (.t 107)), .none⟩, ⟨(.some 109), (.eqB false (.t 106) (.t 108)), .none⟩, ⟨(.some 110), (.mv
  (.t 109)), .none⟩, ⟨(.some 111), (.mv (.t 14)), (.some (110, true))⟩, ⟨(.some 112), (.bin .eql (.t 111) (.k (.int .u8 0))), (.some (110, true))⟩, ⟨(.some 113), (.mv (.t 13)), (.some (110, true))⟩,
  ⟨(.some 114), (.eqB false (.t 112) (.t 113)), (.some (110, true))⟩, ⟨(.some 115), (.pick (.t 110) (.t 114) (.k (.bool false))), .none⟩, ⟨(.some 116), (.mv (.t 115)), .none⟩, ⟨(.some 117), (.call (.f
  33) []), (.some (116, true))⟩, ⟨(.some 118), (.pick (.t 116) (.t 117) (.k (.bool false))), .none⟩, ⟨(.some 6), (.mv (.t 118)), .none⟩]) .ret))))))))))))
theorem c9 : Try.f9.body.bind (cCode Try.prog 119) = some a9 := by kernel_rfl
theorem r9 : Try.f9.results.toList = [(.tmp 6)] := by kernel_rfl
theorem n9 : Try.f9.ntmps = 119 := by kernel_rfl
theorem e9 : Enters Try.prog 9 := enters_of Try.func9 (by kernel_rfl) (by kernel_rfl)
def a34 : ACode :=
  (.seq (.reg [⟨(.some 2), (.mv (.k (.bool false))), .none⟩]) (.seq (.reg [⟨(.some 3), (.mv (.t 0)), .none⟩, ⟨(.some 4), (.bin .rem (.t 3) (.k (.int .u8 5))), .none⟩, ⟨(.some 5), (.bin .eql (.t 4) (.k
  (.int .u8 1))), .none⟩, ⟨(.some 6), (.mv (.t 5)), .none⟩, ⟨(.some 7), (.mv (.t 0)), (.some (6, false))⟩, ⟨(.some 8), (.bin .rem (.t 7) (.k (.int .u8 5))), (.some (6, false))⟩, ⟨(.some 9), (.bin .eql
  (.t 8) (.k (.int .u8 2))), (.some (6, false))⟩, ⟨(.some 10), (.pick (.t 6) (.k (.bool true)) (.t 9)), .none⟩, ⟨(.some 2), (.mv (.t 10)), .none⟩]) .ret))
theorem c34 : Try.f34.body.bind (cCode Try.prog 11) = some a34 := by kernel_rfl
theorem r34 : Try.f34.results.toList = [(.tmp 2)] := by kernel_rfl
theorem n34 : Try.f34.ntmps = 11 := by kernel_rfl
theorem e34 : Enters Try.prog 34 := enters_of Try.func34 (by kernel_rfl) (by kernel_rfl)
def a35 : ACode :=
  (.seq (.reg [⟨(.some 2), (.mv (.k (.bool false))), .none⟩]) (.seq (.reg [⟨(.some 3), (.mv (.t 0)), .none⟩, ⟨(.some 4), (.bin .rem (.t 3) (.k (.int .u8 5))), .none⟩, ⟨(.some 5), (.bin .eql (.t 4) (.k
  (.int .u8 3))), .none⟩, ⟨(.some 2), (.mv (.t 5)), .none⟩]) .ret))
theorem c35 : Try.f35.body.bind (cCode Try.prog 6) = some a35 := by kernel_rfl
theorem r35 : Try.f35.results.toList = [(.tmp 2)] := by kernel_rfl
theorem n35 : Try.f35.ntmps = 6 := by kernel_rfl
theorem e35 : Enters Try.prog 35 := enters_of Try.func35 (by kernel_rfl) (by kernel_rfl)

/-- Octets, as many as a slice holds. -/
def Octs (l : List Nat) : Prop := l.length ≤ 140737488355328 ∧ ∀ n ∈ l, n ≤ 255
theorem octs_of (z : List Int) (h : ∀ n ∈ z, 0 ≤ n ∧ n ≤ 255) : ∃ y : List Nat, (z.map fun n => [Value.int .u8 n]) = octs y ∧ (∀ n ∈ y, n ≤ 255) ∧ y.length = z.length := by
  refine ⟨z.map Int.toNat, ?_, ?_, by simp⟩
  · simp only [octs, List.map_map]
    apply List.map_congr_left
    intro n hn
    have := h n hn
    simp only [Function.comp]
    congr 2
    omega
  · intro n hn
    obtain ⟨m, hm, rfl⟩ := List.mem_map.1 hn
    have := h m hm
    omega

/-- The first digit of each system. -/
def fst5 (k : Nat) : Int := [48, 1632, 1776, 2406, 65296].getD k 0
def kindAt (A B j : Nat) : Nat := if j % 2 = 0 then A else B
/-- The label of the first picks. -/
def lab (A B : Nat) (p : List Nat) (i : Nat) : List Int := (List.range i).map fun j => fst5 (kindAt A B j) + ((p.getD j 0 % 10 : Nat) : Int)
theorem lab_succ (A B : Nat) (p : List Nat) (i : Nat) : lab A B p (i + 1) = lab A B p i ++ [fst5 (kindAt A B i) + ((p.getD i 0 % 10 : Nat) : Int)] := by simp [lab, List.range_succ]
theorem lab_length (A B : Nat) (p : List Nat) (i : Nat) : (lab A B p i).length = i := by simp [lab]
theorem lab_any (A B : Nat) (p : List Nat) (hA : A < 5) (hB : B < 5) {f : Int → Bool} {q : Nat → Bool} (h : ∀ k < 5, ∀ d < 10, f (fst5 k + ((d : Nat) : Int)) = q k) :
    ∀ m, (lab A B p m).any f = ((decide (1 ≤ m) && q A) || (decide (2 ≤ m) && q B))
  | 0 => by simp [lab]
  | m + 1 => by
    have hd : p.getD m 0 % 10 < 10 := Nat.mod_lt _ (by omega)
    rw [lab_succ, List.any_append, lab_any A B p hA hB h m]
    have hk : kindAt A B m < 5 := by unfold kindAt; split <;> assumption
    simp only [List.any_cons, List.any_nil, Bool.or_false, h _ hk _ hd]
    match m with
    | 0 => simp [kindAt]
    | 1 => simp [kindAt]
    | m + 2 =>
      unfold kindAt
      cases hqA : q A <;> cases hqB : q B <;> split <;> simp_all

/-- Class of a system's digits: script, system. -/
def scr (k : Nat) : Nat := scriptOf (fst5 k)
def dig (k : Nat) : Int := (rowAt (fst5 k)).digits
theorem dig_rows : ∀ k < 5, ∀ d < 10, scriptOf (fst5 k + ((d : Nat) : Int)) = scr k ∧ (rowAt (fst5 k + ((d : Nat) : Int))).digits = dig k ∧ wideOne (fst5 k + ((d : Nat) : Int)) = decide (k ≠ 0) := by decide +kernel
theorem dig_apart : ∀ a < 5, ∀ b < 5, dig a ≠ 0 ∧ (dig a = dig b → a = b) := by decide +kernel

/-- Which scripts are there says how many of each. -/
def countsBy (f : Nat → Bool) : List Int := (((List.range 12).map fun i => if f i then (1 : Int) else 0).set 0 0).set 1 0
theorem marked_opt : ∀ (l : List Int) (cs : List Int) (i : Nat), i < cs.length → (marked cs l)[i]? = if l.any (fun r => scriptOf r == i) then some 1 else cs[i]?
  | [], cs, i, _ => by simp [marked]
  | r :: l, cs, i, h => by
    rw [marked, marked_opt l _ i (by simpa using h)]
    by_cases e : scriptOf r = i
    · subst e; simp [h]
    · have e' : (scriptOf r == i) = false := by simpa using e
      simp [e', List.getElem?_set_ne e]
theorem counts_any (l : List Int) : counts l = countsBy fun i => l.any fun r => scriptOf r == i := by
  unfold counts countsBy
  congr 2
  apply List.ext_getElem?
  intro i
  by_cases h : i < 12
  · rw [marked_opt l _ i (by simpa using h)]
    simp only [List.getElem?_map, List.getElem?_range h, List.getElem?_replicate, h, if_true, Option.map_some]
    split <;> rfl
  · rw [List.getElem?_eq_none (by simpa [marked_length] using h), List.getElem?_eq_none (by simpa using h)]

theorem system_app (one : Int) (l q : List Int) : system one (l ++ q) = (system one l).bind fun o => system o q := by
  induction l generalizing one with
  | nil => rfl
  | cons r l ih =>
    simp only [List.cons_append, system]
    split
    · exact ih _
    · split
      · rfl
      · exact ih _
theorem system_zero (o : Int) : system o [97, 1072] = some o := by
  have h1 : (rowAt 97).digits = 0 := by decide +kernel
  have h2 : (rowAt 1072).digits = 0 := by decide +kernel
  simp [system, h1, h2]
theorem one_letters (l : List Int) : oneSystem (l ++ [97, 1072]) = oneSystem l := by
  simp only [oneSystem, system_app]
  cases system 0 l <;> simp [system_zero]

theorem system_lab (A B : Nat) (p : List Nat) (hA : A < 5) (hB : B < 5) : ∀ m, system 0 (lab A B p m) = if m = 0 then some 0 else if m = 1 ∨ A = B then some (dig A) else none
  | 0 => rfl
  | m + 1 => by
    have hd : p.getD m 0 % 10 < 10 := Nat.mod_lt _ (by omega)
    have hk : kindAt A B m < 5 := by unfold kindAt; split <;> assumption
    have hr := (dig_rows _ hk _ hd).2.1
    rw [lab_succ, system_app, system_lab A B p hA hB m]
    match m with
    | 0 =>
      have := (dig_apart A hA A hA).1
      simp only [if_pos, Option.bind_some, system, hr]
      simp [kindAt, this]
    | m + 1 =>
      by_cases e : A = B
      · subst e
        have e : kindAt A A (m + 1) = A := by unfold kindAt; split <;> rfl
        rw [e] at hr ⊢
        generalize fst5 A + ((p.getD (m + 1) 0 % 10 : Nat) : Int) = x at hr ⊢
        simp [system, hr]
      · have h1 := (dig_apart A hA B hB)
        have h0 : dig A ≠ 0 := h1.1
        have h2 : ¬ dig A = dig B := fun x => e (h1.2 x)
        have h3 : ¬ dig B = dig A := fun x => h2 x.symm
        have h4 := (dig_apart B hB A hA).1
        match m with
        | 0 =>
          have ek : kindAt A B (0 + 1) = B := rfl
          rw [ek] at hr ⊢
          generalize fst5 B + ((p.getD (0 + 1) 0 % 10 : Nat) : Int) = x at hr ⊢
          simp [system, hr, e, h0, h3, h4]
        | m + 1 => simp [e]

/-- What a label of digits fails, by the systems that it has. -/
def failsBy (b1 b2 : Bool) (A B : Nat) : Int :=
  let cs := countsBy fun i => (b1 && scr A == i) || (b2 && scr B == i)
  let lv : Int := if ((b1 && decide (A ≠ 0)) || (b2 && decide (B ≠ 0))) = false then 1 else if total cs < 2 ∨ eastOf cs = true then 2 else if eastOf (cleared cs [2]) = true then 3 else 4
  if lv = 4 then 13 else if (!b2 || A == B) = false then 14 else 0

theorem one_lab (A B : Nat) (p : List Nat) (hA : A < 5) (hB : B < 5) (m : Nat) : oneSystem (lab A B p m) = (!decide (2 ≤ m) || A == B) := by
  rw [oneSystem, system_lab A B p hA hB m]
  match m with
  | 0 => simp
  | 1 => simp
  | m + 2 => by_cases e : A = B <;> simp [e]
theorem check_lab (A B : Nat) (p : List Nat) (hA : A < 5) (hB : B < 5) (m : Nat) : checkOf (lab A B p m) = failsBy (decide (1 ≤ m)) (decide (2 ≤ m)) A B := by
  have h1 := lab_any A B p hA hB (f := wideOne) (q := fun k => decide (k ≠ 0)) (fun k hk d hd => (dig_rows k hk d hd).2.2) m
  have h2 : counts (lab A B p m) = countsBy fun i => (decide (1 ≤ m) && scr A == i) || (decide (2 ≤ m) && scr B == i) := by
    rw [counts_any]
    congr 1
    funext i
    exact lab_any A B p hA hB (f := fun r => scriptOf r == i) (q := fun k => scr k == i) (fun k hk d hd => by simp only [(dig_rows k hk d hd).1]) m
  simp only [checkOf, levelOf, one_lab A B p hA hB m, h1, h2, failsBy]

/-- What the law asks of it. -/
def askDigits (b2 : Bool) (A B : Nat) (got : Int) : Bool :=
  let want := !b2 || A == B
  let arab := fun s : Nat => s == 1 || s == 2
  let deva := fun s : Nat => s == 3
  if b2 && (arab A && deva B || arab B && deva A) then got == 13 else (got == 14) == !want && (got == 0) == want
theorem ask_all : ∀ b1 b2 : Bool, ∀ A < 5, ∀ B < 5, (b2 = true → b1 = true) → askDigits b2 A B (failsBy b1 b2 A B) = true := by decide +kernel

def u1 (i : Nat) : Int := if 1 ≤ i then 1 else 0
def u2 (i : Nat) : Int := if 2 ≤ i then 1 else 0
theorem runes_two (l : List Int) (x y : Int) : runes l ++ [[.int .i32 x], [.int .i32 y]] = runes (l ++ [x, y]) := by simp [runes]
theorem runes_one (a : List Int) (n : Int) : runes a ++ [[.int .i32 n]] = runes (a ++ [n]) := by simp [runes]
theorem cast_eq (x k : Nat) : (((x : Nat) : Int) == ((k : Nat) : Int)) = (x == k) := by rw [Bool.eq_iff_iff]; simp; omega
theorem firsts_get {A : Nat} (h : A < 5) : [[Value.int IntKind.i32 48], [Value.int IntKind.i32 1632], [Value.int IntKind.i32 1776], [Value.int IntKind.i32 2406], [Value.int IntKind.i32 65296]][A]? = some [.int .i32 (fst5 A)] := by
  match A, h with
  | 0, _ => rfl
  | 1, _ => rfl
  | 2, _ => rfl
  | 3, _ => rfl
  | 4, _ => rfl
theorem fst5_in : ∀ {A : Nat}, A < 5 → 48 ≤ fst5 A ∧ fst5 A ≤ 65296 := by decide +kernel
theorem octs_take (l : List Nat) (k : Nat) : (octs l).take k = octs (l.take k) := by simp [octs]

theorem arab_pure (s : Nat) (hs : s ≤ 255) : Pure Try.prog 34 [.lit (.int .u8 (s : Int))] [] (.lit (.bool (s % 5 == 1 || s % 5 == 2))) := by
  have ht : Int.tmod (s : Int) 5 = ((s % 5 : Nat) : Int) := by rw [Int.tmod_eq_emod_of_nonneg (by omega)]; rfl
  have e5 : ((5 : Int) = 0) = False := by simp
  refine pure0 Try.func34 c34 n34 e34 r34 (by simp) rfl ?_
  simp only [a34, astart, argSlots, go_sem, Nat.reduceAdd, Nat.reduceEqDiff, Nat.reduceLT, reduceIte, reduceCtorEq, Nat.reduceBEq, Int.reduceLT, Int.reduceToNat, Int.reducePow, Nat.reduceLeDiff, Int.reduceLE, Nat.reduceMul, Nat.reduceSub, ht, e5]
  have c1 : (((s % 5 : Nat) : Int) == 1) = (s % 5 == 1) := cast_eq _ 1
  have c2 : (((s % 5 : Nat) : Int) == 2) = (s % 5 == 2) := cast_eq _ 2
  simp only [c1, c2]
  refine gGo_splitF (fun h1 => ?_) (fun h1 => ?_)
  · simp only [h1, go_sem, Nat.reduceAdd, Nat.reduceEqDiff, Nat.reduceLT, reduceIte, reduceCtorEq, Nat.reduceBEq, Int.reduceLT, Int.reduceToNat, Int.reducePow, Nat.reduceLeDiff, Int.reduceLE, Nat.reduceMul, Nat.reduceSub, ht, e5, c2]
    simp only [Done, resAV, resL, resOne, look_nil, look_cons, Nat.reduceEqDiff, if_true, if_false, reduceIte, ite_true, ite_false, Nat.zero_ne_one, Nat.one_ne_zero, reduceCtorEq, true_or, or_true, true_and, Option.some.injEq, AV.lit.injEq, Value.int.injEq, Value.bool.injEq]
    rfl
  · simp only [h1, go_sem, Nat.reduceAdd, Nat.reduceEqDiff, Nat.reduceLT, reduceIte, reduceCtorEq, Nat.reduceBEq, Int.reduceLT, Int.reduceToNat, Int.reducePow, Nat.reduceLeDiff, Int.reduceLE, Nat.reduceMul, Nat.reduceSub, ht, e5, c2]
    simp only [Done, resAV, resL, resOne, look_nil, look_cons, Nat.reduceEqDiff, if_true, if_false, reduceIte, ite_true, ite_false, Nat.zero_ne_one, Nat.one_ne_zero, reduceCtorEq, true_or, or_true, true_and, Option.some.injEq, AV.lit.injEq, Value.int.injEq, Value.bool.injEq]
    rfl

theorem deva_pure (s : Nat) (hs : s ≤ 255) : Pure Try.prog 35 [.lit (.int .u8 (s : Int))] [] (.lit (.bool (s % 5 == 3))) := by
  have ht : Int.tmod (s : Int) 5 = ((s % 5 : Nat) : Int) := by rw [Int.tmod_eq_emod_of_nonneg (by omega)]; rfl
  have e5 : ((5 : Int) = 0) = False := by simp
  refine pure0 Try.func35 c35 n35 e35 r35 (by simp) rfl ?_
  simp only [a35, astart, argSlots, go_sem, Nat.reduceAdd, Nat.reduceEqDiff, Nat.reduceLT, reduceIte, reduceCtorEq, Nat.reduceBEq, Int.reduceLT, Int.reduceToNat, Int.reducePow, Nat.reduceLeDiff, Int.reduceLE, Nat.reduceMul, Nat.reduceSub, ht, e5]
  have c1 : (((s % 5 : Nat) : Int) == 3) = (s % 5 == 3) := cast_eq _ 3
  simp only [c1]
  simp only [Done, resAV, resL, resOne, look_nil, look_cons, Nat.reduceEqDiff, if_true, if_false, reduceIte, ite_true, ite_false, Nat.zero_ne_one, Nat.one_ne_zero, reduceCtorEq, true_or, or_true, true_and, Option.some.injEq, AV.lit.injEq, Value.int.injEq, Value.bool.injEq]

set_option maxRecDepth 10000 in
set_option maxHeartbeats 4000000 in
theorem mixedDigits_pure (a : Int) (ha : 0 ≤ a ∧ a ≤ 255) (b : Int) (hb : 0 ≤ b ∧ b ≤ 255) (l : List Nat) (h : Octs l) : Pure Try.prog 9 [.lit (.int .u8 a), .lit (.int .u8 b), .sl 5 (octs l) none] [] (.lit (.bool true)) := by
  obtain ⟨a, rfl⟩ : ∃ n : Nat, a = n := ⟨a.toNat, by omega⟩
  obtain ⟨b, rfl⟩ : ∃ n : Nat, b = n := ⟨b.toNat, by omega⟩
  have hl := h.1
  have hA : a % 5 < 5 := Nat.mod_lt _ (by omega)
  have hB : b % 5 < 5 := Nat.mod_lt _ (by omega)
  generalize eA : a % 5 = A at hA
  generalize eB : b % 5 = B at hB
  have hta : Int.tmod (a : Int) 5 = (A : Int) := by rw [Int.tmod_eq_emod_of_nonneg (by omega)]; omega
  have htb : Int.tmod (b : Int) 5 = (B : Int) := by rw [Int.tmod_eq_emod_of_nonneg (by omega)]; omega
  have e2 : ((2 : Int) = 0) = False := by simp
  have e5 : ((5 : Int) = 0) = False := by simp
  have e10 : ((10 : Int) = 0) = False := by simp
  refine pure0 Try.func9 c9 n9 e9 r9 (by simp) rfl ?_
  simp only [a9, astart, argSlots, go_sem, Nat.reduceAdd, Nat.reduceEqDiff, Nat.reduceLT, reduceIte, reduceCtorEq, Nat.reduceBEq, Int.reduceLT, Int.reduceToNat, Int.reducePow, Nat.reduceLeDiff, Int.reduceLE, Nat.reduceMul, Nat.reduceSub]
  obtain ⟨M, hmin, hM, hM50⟩ : ∃ M : Nat, (if (50 : Int) < (l.length : Int) then (50 : Int) else (l.length : Int)) = (M : Int) ∧ (0 ≤ M ∧ M ≤ l.length) ∧ M ≤ 50 :=
    ⟨min l.length 50, by split <;> omega, by omega, by omega⟩
  simp only [hmin, Int.natCast_nonneg, if_pos, Int.toNat_natCast, hM, and_self, octs_take, go_sem, Nat.reduceAdd, Nat.reduceEqDiff, Nat.reduceLT, reduceIte, reduceCtorEq, Nat.reduceBEq, Int.reduceLT, Int.reduceToNat, Int.reducePow, Nat.reduceLeDiff, Int.reduceLE, Nat.reduceMul, Nat.reduceSub]
  have hq50 : (l.take M).length ≤ 50 := by rw [List.length_take]; omega
  generalize l.take M = q at hq50
  refine loop_to q.length (fun i => ⟨[(0, some (.lit (.int .u8 (a : Int)))), (1, some (.lit (.int .u8 (b : Int)))), (7, some (.sl 21 [[.int .i32 48], [.int .i32 1632], [.int .i32 1776], [.int .i32 2406], [.int .i32 65296]] none)), (8, some (.sl 21 (runes (lab A B q i)) (some 0))), (9, some (.bp 1 0)), (23, some (.sl 5 (octs q) none)), (24, some (.lit (.int .i64 (q.length : Int)))), (25, some (.lit (.int .i64 (i : Int))))], [(1, [.lit (.int .i64 (u1 i)), .lit (.int .i64 (u2 i))])], [(0, 21)], 2⟩)
    (fun _ => True) ((weak_nil 8 21 (by simp only [go_sem, Nat.reduceAdd, Nat.reduceEqDiff, Nat.reduceLT, reduceIte, reduceCtorEq, Nat.reduceBEq, Int.reduceLT, Int.reduceToNat, Int.reducePow, Nat.reduceLeDiff, Int.reduceLE, Nat.reduceMul, Nat.reduceSub])).trans ((weak_untip 7 rfl).trans (weak_by [2, 1] (by simp) rfl ?_ ?_ ?_ (by simp)))) trivial ?_ ?_
  · simp only [go_sem, Nat.reduceAdd, Nat.reduceEqDiff, Nat.reduceLT, reduceIte, reduceCtorEq, Nat.reduceBEq, Int.reduceLT, Int.reduceToNat, Int.reducePow, Nat.reduceLeDiff, Int.reduceLE, Nat.reduceMul, Nat.reduceSub, slotsBy, boxesBy, tipsBy, rawAt, nm, AV.ren, AV.renL, AV.under, AV.underL, List.all_nil, List.all_cons, bne_self_eq_false, List.getD_cons_zero, List.getD_cons_succ, List.length_nil, List.length_cons, and_true, true_and, Int.natCast_zero]
    rfl
  · simp only [go_sem, Nat.reduceAdd, Nat.reduceEqDiff, Nat.reduceLT, reduceIte, reduceCtorEq, Nat.reduceBEq, Int.reduceLT, Int.reduceToNat, Int.reducePow, Nat.reduceLeDiff, Int.reduceLE, Nat.reduceMul, Nat.reduceSub, slotsBy, boxesBy, tipsBy, rawAt, nm, AV.ren, AV.renL, AV.under, AV.underL, List.all_nil, List.all_cons, bne_self_eq_false, List.getD_cons_zero, List.getD_cons_succ, List.length_nil, List.length_cons, and_true, true_and]
    rfl
  · simp only [go_sem, Nat.reduceAdd, Nat.reduceEqDiff, Nat.reduceLT, reduceIte, reduceCtorEq, Nat.reduceBEq, Int.reduceLT, Int.reduceToNat, Int.reducePow, Nat.reduceLeDiff, Int.reduceLE, Nat.reduceMul, Nat.reduceSub, slotsBy, boxesBy, tipsBy, rawAt, nm, AV.ren, AV.renL, AV.under, AV.underL, List.all_nil, List.all_cons, bne_self_eq_false, List.getD_cons_zero, List.getD_cons_succ, List.length_nil, List.length_cons, and_true, true_and, beq_self_eq_true]
  · intro i hi _
    have hk : i % 2 = 0 ∨ i % 2 = 1 := by omega
    have ht2 : Int.tmod (i : Int) 2 = ((i % 2 : Nat) : Int) := by rw [Int.tmod_eq_emod_of_nonneg (by omega)]; rfl
    have ht10 : Int.tmod ((q[i] : Nat) : Int) 10 = ((q[i] % 10 : Nat) : Int) := by rw [Int.tmod_eq_emod_of_nonneg (by omega)]; rfl
    have hd : q[i] % 10 < 10 := Nat.mod_lt _ (by omega)
    have hA48 := fst5_in hA
    have hB48 := fst5_in hB
    have hlab := lab_succ A B q i
    have hlen := lab_length A B q i
    have hgd : q.getD i 0 = q[i] := by simp [hi]
    rw [hgd] at hlab
    have hw1 : IntKind.i32.wrap ((q[i] % 10 : Nat) : Int) = ((q[i] % 10 : Nat) : Int) := wrap_i32 _ (by omega) (by omega)
    rcases hk with hk | hk
    · have hka : kindAt A B i = A := if_pos hk
      have hu1 : u1 (i + 1) = 1 := by unfold u1; split <;> omega
      have hu2 : u2 (i + 1) = u2 i := by unfold u2; split <;> split <;> omega
      have hw2 : IntKind.i32.wrap (fst5 A + ((q[i] % 10 : Nat) : Int)) = fst5 A + ((q[i] % 10 : Nat) : Int) := wrap_i32 _ (by omega) (by omega)
      rw [hka] at hlab
      simp only [go_sem, Nat.reduceAdd, Nat.reduceEqDiff, Nat.reduceLT, reduceIte, reduceCtorEq, Nat.reduceBEq, Int.reduceLT, Int.reduceToNat, Int.reducePow, Nat.reduceLeDiff, Int.reduceLE, Nat.reduceMul, Nat.reduceSub, hi, octs_get q i hi, ht2, hk, e2, ht10, e10, e5, hta, htb, firsts_get hA, hw1, hw2, runes_one]
      refine ⟨by omega, ?_⟩
      simp (disch := omega) only [wrap_i64]
      refine weak_by [4, 1] (by simp) rfl ?_ ?_ ?_ (by simp)
      · simp only [go_sem, Nat.reduceAdd, Nat.reduceEqDiff, Nat.reduceLT, reduceIte, reduceCtorEq, Nat.reduceBEq, Int.reduceLT, Int.reduceToNat, Int.reducePow, Nat.reduceLeDiff, Int.reduceLE, Nat.reduceMul, Nat.reduceSub, slotsBy, boxesBy, tipsBy, rawAt, nm, AV.ren, AV.renL, AV.under, AV.underL, List.all_nil, List.all_cons, bne_self_eq_false, List.getD_cons_zero, List.getD_cons_succ, List.length_nil, List.length_cons, and_true, true_and, hlab, Int.natCast_add, Int.natCast_one]
      · simp only [go_sem, Nat.reduceAdd, Nat.reduceEqDiff, Nat.reduceLT, reduceIte, reduceCtorEq, Nat.reduceBEq, Int.reduceLT, Int.reduceToNat, Int.reducePow, Nat.reduceLeDiff, Int.reduceLE, Nat.reduceMul, Nat.reduceSub, slotsBy, boxesBy, tipsBy, rawAt, nm, AV.ren, AV.renL, AV.under, AV.underL, List.all_nil, List.all_cons, bne_self_eq_false, List.getD_cons_zero, List.getD_cons_succ, List.length_nil, List.length_cons, and_true, true_and, hu1, hu2]
      · simp only [go_sem, Nat.reduceAdd, Nat.reduceEqDiff, Nat.reduceLT, reduceIte, reduceCtorEq, Nat.reduceBEq, Int.reduceLT, Int.reduceToNat, Int.reducePow, Nat.reduceLeDiff, Int.reduceLE, Nat.reduceMul, Nat.reduceSub, slotsBy, boxesBy, tipsBy, rawAt, nm, AV.ren, AV.renL, AV.under, AV.underL, List.all_nil, List.all_cons, bne_self_eq_false, List.getD_cons_zero, List.getD_cons_succ, List.length_nil, List.length_cons, and_true, true_and, beq_self_eq_true]
    · have hka : kindAt A B i = B := if_neg (by omega)
      have hu1 : u1 (i + 1) = u1 i := by unfold u1; split <;> split <;> omega
      have hu2 : u2 (i + 1) = 1 := by unfold u2; split <;> omega
      have hw2 : IntKind.i32.wrap (fst5 B + ((q[i] % 10 : Nat) : Int)) = fst5 B + ((q[i] % 10 : Nat) : Int) := wrap_i32 _ (by omega) (by omega)
      rw [hka] at hlab
      simp only [go_sem, Nat.reduceAdd, Nat.reduceEqDiff, Nat.reduceLT, reduceIte, reduceCtorEq, Nat.reduceBEq, Int.reduceLT, Int.reduceToNat, Int.reducePow, Nat.reduceLeDiff, Int.reduceLE, Nat.reduceMul, Nat.reduceSub, hi, octs_get q i hi, ht2, hk, e2, ht10, e10, e5, hta, htb, firsts_get hB, hw1, hw2, runes_one]
      refine ⟨by omega, ?_⟩
      simp (disch := omega) only [wrap_i64]
      refine weak_by [4, 1] (by simp) rfl ?_ ?_ ?_ (by simp)
      · simp only [go_sem, Nat.reduceAdd, Nat.reduceEqDiff, Nat.reduceLT, reduceIte, reduceCtorEq, Nat.reduceBEq, Int.reduceLT, Int.reduceToNat, Int.reducePow, Nat.reduceLeDiff, Int.reduceLE, Nat.reduceMul, Nat.reduceSub, slotsBy, boxesBy, tipsBy, rawAt, nm, AV.ren, AV.renL, AV.under, AV.underL, List.all_nil, List.all_cons, bne_self_eq_false, List.getD_cons_zero, List.getD_cons_succ, List.length_nil, List.length_cons, and_true, true_and, hlab, Int.natCast_add, Int.natCast_one]
      · simp only [go_sem, Nat.reduceAdd, Nat.reduceEqDiff, Nat.reduceLT, reduceIte, reduceCtorEq, Nat.reduceBEq, Int.reduceLT, Int.reduceToNat, Int.reducePow, Nat.reduceLeDiff, Int.reduceLE, Nat.reduceMul, Nat.reduceSub, slotsBy, boxesBy, tipsBy, rawAt, nm, AV.ren, AV.renL, AV.under, AV.underL, List.all_nil, List.all_cons, bne_self_eq_false, List.getD_cons_zero, List.getD_cons_succ, List.length_nil, List.length_cons, and_true, true_and, hu1, hu2]
      · simp only [go_sem, Nat.reduceAdd, Nat.reduceEqDiff, Nat.reduceLT, reduceIte, reduceCtorEq, Nat.reduceBEq, Int.reduceLT, Int.reduceToNat, Int.reducePow, Nat.reduceLeDiff, Int.reduceLE, Nat.reduceMul, Nat.reduceSub, slotsBy, boxesBy, tipsBy, rawAt, nm, AV.ren, AV.renL, AV.under, AV.underL, List.all_nil, List.all_cons, bne_self_eq_false, List.getD_cons_zero, List.getD_cons_succ, List.length_nil, List.length_cons, and_true, true_and, beq_self_eq_true]
  · intro _
    have hlen := lab_length A B q q.length
    have hone := one_lab A B q hA hB q.length
    have hone2 := one_letters (lab A B q q.length)
    have hask := ask_all (decide (1 ≤ q.length)) (decide (2 ≤ q.length)) A hA B hB (by simp; omega)
    have hchk := check_lab A B q hA hB q.length
    rw [← hchk] at hask
    clear hchk
    have harab1 := arab_pure a (by omega)
    have harab2 := arab_pure b (by omega)
    have hdeva1 := deva_pure a (by omega)
    have hdeva2 := deva_pure b (by omega)
    rw [eA] at harab1 hdeva1
    rw [eB] at harab2 hdeva2
    have hu : (u2 q.length == 0) = !decide (2 ≤ q.length) := by unfold u2; split <;> simp <;> omega
    have hu1 : (u2 q.length == 1) = decide (2 ≤ q.length) := by unfold u2; split <;> simp <;> omega
    generalize decide (2 ≤ q.length) = b2 at hu hu1 hask hone
    generalize lab A B q q.length = L at hlen hone hone2 hask
    have hL := hlen
    have hLl : L.length ≤ 50 := by omega
    simp only [askDigits] at hask
    simp only [hu, go_sem, Nat.reduceAdd, Nat.reduceEqDiff, Nat.reduceLT, reduceIte, reduceCtorEq, Nat.reduceBEq, Int.reduceLT, Int.reduceToNat, Int.reducePow, Nat.reduceLeDiff, Int.reduceLE, Nat.reduceMul, Nat.reduceSub]
    cases b2
    · simp only [Bool.not_false, Bool.true_or] at hone
      have hc : checkOf L = 0 := by
        simp only [Bool.not_false, Bool.true_or, Bool.false_and, Bool.false_eq_true, if_false, Bool.not_true, Bool.and_eq_true, beq_iff_eq, beq_eq_false_iff_ne] at hask
        exact hask.2
      simp only [go_sem, Nat.reduceAdd, Nat.reduceEqDiff, Nat.reduceLT, reduceIte, reduceCtorEq, Nat.reduceBEq, Int.reduceLT, Int.reduceToNat, Int.reducePow, Nat.reduceLeDiff, Int.reduceLE, Nat.reduceMul, Nat.reduceSub, Bool.not_false]
      refine callGo_pure (digits_pure L (by omega)) (by rfl) ?_
      simp only [hone, beq_self_eq_true, go_sem, Nat.reduceAdd, Nat.reduceEqDiff, Nat.reduceLT, reduceIte, reduceCtorEq, Nat.reduceBEq, Int.reduceLT, Int.reduceToNat, Int.reducePow, Nat.reduceLeDiff, Int.reduceLE, Nat.reduceMul, Nat.reduceSub, runes_two]
      refine ⟨by omega, ?_⟩
      refine callGo_pure (digits_pure (L ++ [97, 1072]) (by simp; omega)) (by rfl) ?_
      simp only [hone2, hone, beq_self_eq_true, go_sem, Nat.reduceAdd, Nat.reduceEqDiff, Nat.reduceLT, reduceIte, reduceCtorEq, Nat.reduceBEq, Int.reduceLT, Int.reduceToNat, Int.reducePow, Nat.reduceLeDiff, Int.reduceLE, Nat.reduceMul, Nat.reduceSub]
      refine callGo_pure (check_pure L (by omega)) (by rfl) ?_
      simp only [hu1, hc, go_sem, Nat.reduceAdd, Nat.reduceEqDiff, Nat.reduceLT, reduceIte, reduceCtorEq, Nat.reduceBEq, Int.reduceLT, Int.reduceToNat, Int.reducePow, Nat.reduceLeDiff, Int.reduceLE, Nat.reduceMul, Nat.reduceSub]
      simp only [show ((0 : Int) == 14) = false from rfl, beq_self_eq_true, go_sem, Nat.reduceAdd, Nat.reduceEqDiff, Nat.reduceLT, reduceIte, reduceCtorEq, Nat.reduceBEq, Int.reduceLT, Int.reduceToNat, Int.reducePow, Nat.reduceLeDiff, Int.reduceLE, Nat.reduceMul, Nat.reduceSub]
      refine callGo_pure awake10_pure (by rfl) ?_
      simp only [go_sem, Nat.reduceAdd, Nat.reduceEqDiff, Nat.reduceLT, reduceIte, reduceCtorEq, Nat.reduceBEq, Int.reduceLT, Int.reduceToNat, Int.reducePow, Nat.reduceLeDiff, Int.reduceLE, Nat.reduceMul, Nat.reduceSub]
      simp only [Done, resAV, resL, resOne, look_nil, look_cons, Nat.reduceEqDiff, if_true, if_false, reduceIte, ite_true, ite_false, Nat.zero_ne_one, Nat.one_ne_zero, reduceCtorEq, true_or, or_true, true_and, Option.some.injEq, AV.lit.injEq, Value.int.injEq, Value.bool.injEq]
    · simp only [Bool.not_true, Bool.false_or, Bool.true_and] at hone hask
      have hcab : ((A : Int) == (B : Int)) = (A == B) := cast_eq A B
      simp only [go_sem, Nat.reduceAdd, Nat.reduceEqDiff, Nat.reduceLT, reduceIte, reduceCtorEq, Nat.reduceBEq, Int.reduceLT, Int.reduceToNat, Int.reducePow, Nat.reduceLeDiff, Int.reduceLE, Nat.reduceMul, Nat.reduceSub, Bool.not_true, hta, htb, e5, hcab]
      generalize (A == B) = w at hone hask
      refine callGo_pure (digits_pure L (by omega)) (by rfl) ?_
      simp only [hone, beq_self_eq_true, go_sem, Nat.reduceAdd, Nat.reduceEqDiff, Nat.reduceLT, reduceIte, reduceCtorEq, Nat.reduceBEq, Int.reduceLT, Int.reduceToNat, Int.reducePow, Nat.reduceLeDiff, Int.reduceLE, Nat.reduceMul, Nat.reduceSub, runes_two]
      refine ⟨by omega, ?_⟩
      refine callGo_pure (digits_pure (L ++ [97, 1072]) (by simp; omega)) (by rfl) ?_
      simp only [hone2, hone, beq_self_eq_true, go_sem, Nat.reduceAdd, Nat.reduceEqDiff, Nat.reduceLT, reduceIte, reduceCtorEq, Nat.reduceBEq, Int.reduceLT, Int.reduceToNat, Int.reducePow, Nat.reduceLeDiff, Int.reduceLE, Nat.reduceMul, Nat.reduceSub]
      refine callGo_pure (check_pure L (by omega)) (by rfl) ?_
      simp only [hu1, go_sem, Nat.reduceAdd, Nat.reduceEqDiff, Nat.reduceLT, reduceIte, reduceCtorEq, Nat.reduceBEq, Int.reduceLT, Int.reduceToNat, Int.reducePow, Nat.reduceLeDiff, Int.reduceLE, Nat.reduceMul, Nat.reduceSub]
      generalize (A == 1 || A == 2) = x1 at harab1 hask
      generalize (B == 1 || B == 2) = x2 at harab2 hask
      generalize (A == 3) = y1 at hdeva1 hask
      generalize (B == 3) = y2 at hdeva2 hask
      refine callGo_pure harab1 (by rfl) ?_
      simp only [go_sem, Nat.reduceAdd, Nat.reduceEqDiff, Nat.reduceLT, reduceIte, reduceCtorEq, Nat.reduceBEq, Int.reduceLT, Int.reduceToNat, Int.reducePow, Nat.reduceLeDiff, Int.reduceLE, Nat.reduceMul, Nat.reduceSub]
      cases x1
      · simp only [go_sem, Nat.reduceAdd, Nat.reduceEqDiff, Nat.reduceLT, reduceIte, reduceCtorEq, Nat.reduceBEq, Int.reduceLT, Int.reduceToNat, Int.reducePow, Nat.reduceLeDiff, Int.reduceLE, Nat.reduceMul, Nat.reduceSub]
        refine callGo_pure harab2 (by rfl) ?_
        simp only [go_sem, Nat.reduceAdd, Nat.reduceEqDiff, Nat.reduceLT, reduceIte, reduceCtorEq, Nat.reduceBEq, Int.reduceLT, Int.reduceToNat, Int.reducePow, Nat.reduceLeDiff, Int.reduceLE, Nat.reduceMul, Nat.reduceSub]
        cases x2
        · simp only [go_sem, Nat.reduceAdd, Nat.reduceEqDiff, Nat.reduceLT, reduceIte, reduceCtorEq, Nat.reduceBEq, Int.reduceLT, Int.reduceToNat, Int.reducePow, Nat.reduceLeDiff, Int.reduceLE, Nat.reduceMul, Nat.reduceSub]
          have hc : ((checkOf L == 14) == !w) = true ∧ ((checkOf L == 0) == w) = true := by simpa using hask
          simp only [hc.1, hc.2, go_sem, Nat.reduceAdd, Nat.reduceEqDiff, Nat.reduceLT, reduceIte, reduceCtorEq, Nat.reduceBEq, Int.reduceLT, Int.reduceToNat, Int.reducePow, Nat.reduceLeDiff, Int.reduceLE, Nat.reduceMul, Nat.reduceSub]
          refine callGo_pure awake10_pure (by rfl) ?_
          simp only [go_sem, Nat.reduceAdd, Nat.reduceEqDiff, Nat.reduceLT, reduceIte, reduceCtorEq, Nat.reduceBEq, Int.reduceLT, Int.reduceToNat, Int.reducePow, Nat.reduceLeDiff, Int.reduceLE, Nat.reduceMul, Nat.reduceSub]
          simp only [Done, resAV, resL, resOne, look_nil, look_cons, Nat.reduceEqDiff, if_true, if_false, reduceIte, ite_true, ite_false, Nat.zero_ne_one, Nat.one_ne_zero, reduceCtorEq, true_or, or_true, true_and, Option.some.injEq, AV.lit.injEq, Value.int.injEq, Value.bool.injEq]
        · simp only [go_sem, Nat.reduceAdd, Nat.reduceEqDiff, Nat.reduceLT, reduceIte, reduceCtorEq, Nat.reduceBEq, Int.reduceLT, Int.reduceToNat, Int.reducePow, Nat.reduceLeDiff, Int.reduceLE, Nat.reduceMul, Nat.reduceSub]
          refine callGo_pure hdeva1 (by rfl) ?_
          simp only [go_sem, Nat.reduceAdd, Nat.reduceEqDiff, Nat.reduceLT, reduceIte, reduceCtorEq, Nat.reduceBEq, Int.reduceLT, Int.reduceToNat, Int.reducePow, Nat.reduceLeDiff, Int.reduceLE, Nat.reduceMul, Nat.reduceSub]
          cases y1
          · simp only [go_sem, Nat.reduceAdd, Nat.reduceEqDiff, Nat.reduceLT, reduceIte, reduceCtorEq, Nat.reduceBEq, Int.reduceLT, Int.reduceToNat, Int.reducePow, Nat.reduceLeDiff, Int.reduceLE, Nat.reduceMul, Nat.reduceSub]
            have hc : ((checkOf L == 14) == !w) = true ∧ ((checkOf L == 0) == w) = true := by simpa using hask
            simp only [hc.1, hc.2, go_sem, Nat.reduceAdd, Nat.reduceEqDiff, Nat.reduceLT, reduceIte, reduceCtorEq, Nat.reduceBEq, Int.reduceLT, Int.reduceToNat, Int.reducePow, Nat.reduceLeDiff, Int.reduceLE, Nat.reduceMul, Nat.reduceSub]
            refine callGo_pure awake10_pure (by rfl) ?_
            simp only [go_sem, Nat.reduceAdd, Nat.reduceEqDiff, Nat.reduceLT, reduceIte, reduceCtorEq, Nat.reduceBEq, Int.reduceLT, Int.reduceToNat, Int.reducePow, Nat.reduceLeDiff, Int.reduceLE, Nat.reduceMul, Nat.reduceSub]
            simp only [Done, resAV, resL, resOne, look_nil, look_cons, Nat.reduceEqDiff, if_true, if_false, reduceIte, ite_true, ite_false, Nat.zero_ne_one, Nat.one_ne_zero, reduceCtorEq, true_or, or_true, true_and, Option.some.injEq, AV.lit.injEq, Value.int.injEq, Value.bool.injEq]
          · simp only [go_sem, Nat.reduceAdd, Nat.reduceEqDiff, Nat.reduceLT, reduceIte, reduceCtorEq, Nat.reduceBEq, Int.reduceLT, Int.reduceToNat, Int.reducePow, Nat.reduceLeDiff, Int.reduceLE, Nat.reduceMul, Nat.reduceSub]
            have hc : (checkOf L == 13) = true := by simpa using hask
            simp only [hc, go_sem, Nat.reduceAdd, Nat.reduceEqDiff, Nat.reduceLT, reduceIte, reduceCtorEq, Nat.reduceBEq, Int.reduceLT, Int.reduceToNat, Int.reducePow, Nat.reduceLeDiff, Int.reduceLE, Nat.reduceMul, Nat.reduceSub]
            refine callGo_pure awake10_pure (by rfl) ?_
            simp only [go_sem, Nat.reduceAdd, Nat.reduceEqDiff, Nat.reduceLT, reduceIte, reduceCtorEq, Nat.reduceBEq, Int.reduceLT, Int.reduceToNat, Int.reducePow, Nat.reduceLeDiff, Int.reduceLE, Nat.reduceMul, Nat.reduceSub]
            simp only [Done, resAV, resL, resOne, look_nil, look_cons, Nat.reduceEqDiff, if_true, if_false, reduceIte, ite_true, ite_false, Nat.zero_ne_one, Nat.one_ne_zero, reduceCtorEq, true_or, or_true, true_and, Option.some.injEq, AV.lit.injEq, Value.int.injEq, Value.bool.injEq]
      · simp only [go_sem, Nat.reduceAdd, Nat.reduceEqDiff, Nat.reduceLT, reduceIte, reduceCtorEq, Nat.reduceBEq, Int.reduceLT, Int.reduceToNat, Int.reducePow, Nat.reduceLeDiff, Int.reduceLE, Nat.reduceMul, Nat.reduceSub]
        refine callGo_pure hdeva2 (by rfl) ?_
        simp only [go_sem, Nat.reduceAdd, Nat.reduceEqDiff, Nat.reduceLT, reduceIte, reduceCtorEq, Nat.reduceBEq, Int.reduceLT, Int.reduceToNat, Int.reducePow, Nat.reduceLeDiff, Int.reduceLE, Nat.reduceMul, Nat.reduceSub]
        cases y2
        · simp only [go_sem, Nat.reduceAdd, Nat.reduceEqDiff, Nat.reduceLT, reduceIte, reduceCtorEq, Nat.reduceBEq, Int.reduceLT, Int.reduceToNat, Int.reducePow, Nat.reduceLeDiff, Int.reduceLE, Nat.reduceMul, Nat.reduceSub]
          refine callGo_pure harab2 (by rfl) ?_
          simp only [go_sem, Nat.reduceAdd, Nat.reduceEqDiff, Nat.reduceLT, reduceIte, reduceCtorEq, Nat.reduceBEq, Int.reduceLT, Int.reduceToNat, Int.reducePow, Nat.reduceLeDiff, Int.reduceLE, Nat.reduceMul, Nat.reduceSub]
          cases x2
          · simp only [go_sem, Nat.reduceAdd, Nat.reduceEqDiff, Nat.reduceLT, reduceIte, reduceCtorEq, Nat.reduceBEq, Int.reduceLT, Int.reduceToNat, Int.reducePow, Nat.reduceLeDiff, Int.reduceLE, Nat.reduceMul, Nat.reduceSub]
            have hc : ((checkOf L == 14) == !w) = true ∧ ((checkOf L == 0) == w) = true := by simpa using hask
            simp only [hc.1, hc.2, go_sem, Nat.reduceAdd, Nat.reduceEqDiff, Nat.reduceLT, reduceIte, reduceCtorEq, Nat.reduceBEq, Int.reduceLT, Int.reduceToNat, Int.reducePow, Nat.reduceLeDiff, Int.reduceLE, Nat.reduceMul, Nat.reduceSub]
            refine callGo_pure awake10_pure (by rfl) ?_
            simp only [go_sem, Nat.reduceAdd, Nat.reduceEqDiff, Nat.reduceLT, reduceIte, reduceCtorEq, Nat.reduceBEq, Int.reduceLT, Int.reduceToNat, Int.reducePow, Nat.reduceLeDiff, Int.reduceLE, Nat.reduceMul, Nat.reduceSub]
            simp only [Done, resAV, resL, resOne, look_nil, look_cons, Nat.reduceEqDiff, if_true, if_false, reduceIte, ite_true, ite_false, Nat.zero_ne_one, Nat.one_ne_zero, reduceCtorEq, true_or, or_true, true_and, Option.some.injEq, AV.lit.injEq, Value.int.injEq, Value.bool.injEq]
          · simp only [go_sem, Nat.reduceAdd, Nat.reduceEqDiff, Nat.reduceLT, reduceIte, reduceCtorEq, Nat.reduceBEq, Int.reduceLT, Int.reduceToNat, Int.reducePow, Nat.reduceLeDiff, Int.reduceLE, Nat.reduceMul, Nat.reduceSub]
            refine callGo_pure hdeva1 (by rfl) ?_
            simp only [go_sem, Nat.reduceAdd, Nat.reduceEqDiff, Nat.reduceLT, reduceIte, reduceCtorEq, Nat.reduceBEq, Int.reduceLT, Int.reduceToNat, Int.reducePow, Nat.reduceLeDiff, Int.reduceLE, Nat.reduceMul, Nat.reduceSub]
            cases y1
            · simp only [go_sem, Nat.reduceAdd, Nat.reduceEqDiff, Nat.reduceLT, reduceIte, reduceCtorEq, Nat.reduceBEq, Int.reduceLT, Int.reduceToNat, Int.reducePow, Nat.reduceLeDiff, Int.reduceLE, Nat.reduceMul, Nat.reduceSub]
              have hc : ((checkOf L == 14) == !w) = true ∧ ((checkOf L == 0) == w) = true := by simpa using hask
              simp only [hc.1, hc.2, go_sem, Nat.reduceAdd, Nat.reduceEqDiff, Nat.reduceLT, reduceIte, reduceCtorEq, Nat.reduceBEq, Int.reduceLT, Int.reduceToNat, Int.reducePow, Nat.reduceLeDiff, Int.reduceLE, Nat.reduceMul, Nat.reduceSub]
              refine callGo_pure awake10_pure (by rfl) ?_
              simp only [go_sem, Nat.reduceAdd, Nat.reduceEqDiff, Nat.reduceLT, reduceIte, reduceCtorEq, Nat.reduceBEq, Int.reduceLT, Int.reduceToNat, Int.reducePow, Nat.reduceLeDiff, Int.reduceLE, Nat.reduceMul, Nat.reduceSub]
              simp only [Done, resAV, resL, resOne, look_nil, look_cons, Nat.reduceEqDiff, if_true, if_false, reduceIte, ite_true, ite_false, Nat.zero_ne_one, Nat.one_ne_zero, reduceCtorEq, true_or, or_true, true_and, Option.some.injEq, AV.lit.injEq, Value.int.injEq, Value.bool.injEq]
            · simp only [go_sem, Nat.reduceAdd, Nat.reduceEqDiff, Nat.reduceLT, reduceIte, reduceCtorEq, Nat.reduceBEq, Int.reduceLT, Int.reduceToNat, Int.reducePow, Nat.reduceLeDiff, Int.reduceLE, Nat.reduceMul, Nat.reduceSub]
              have hc : (checkOf L == 13) = true := by simpa using hask
              simp only [hc, go_sem, Nat.reduceAdd, Nat.reduceEqDiff, Nat.reduceLT, reduceIte, reduceCtorEq, Nat.reduceBEq, Int.reduceLT, Int.reduceToNat, Int.reducePow, Nat.reduceLeDiff, Int.reduceLE, Nat.reduceMul, Nat.reduceSub]
              refine callGo_pure awake10_pure (by rfl) ?_
              simp only [go_sem, Nat.reduceAdd, Nat.reduceEqDiff, Nat.reduceLT, reduceIte, reduceCtorEq, Nat.reduceBEq, Int.reduceLT, Int.reduceToNat, Int.reducePow, Nat.reduceLeDiff, Int.reduceLE, Nat.reduceMul, Nat.reduceSub]
              simp only [Done, resAV, resL, resOne, look_nil, look_cons, Nat.reduceEqDiff, if_true, if_false, reduceIte, ite_true, ite_false, Nat.zero_ne_one, Nat.one_ne_zero, reduceCtorEq, true_or, or_true, true_and, Option.some.injEq, AV.lit.injEq, Value.int.injEq, Value.bool.injEq]
        · simp only [go_sem, Nat.reduceAdd, Nat.reduceEqDiff, Nat.reduceLT, reduceIte, reduceCtorEq, Nat.reduceBEq, Int.reduceLT, Int.reduceToNat, Int.reducePow, Nat.reduceLeDiff, Int.reduceLE, Nat.reduceMul, Nat.reduceSub]
          have hc : (checkOf L == 13) = true := by simpa using hask
          simp only [hc, go_sem, Nat.reduceAdd, Nat.reduceEqDiff, Nat.reduceLT, reduceIte, reduceCtorEq, Nat.reduceBEq, Int.reduceLT, Int.reduceToNat, Int.reducePow, Nat.reduceLeDiff, Int.reduceLE, Nat.reduceMul, Nat.reduceSub]
          refine callGo_pure awake10_pure (by rfl) ?_
          simp only [go_sem, Nat.reduceAdd, Nat.reduceEqDiff, Nat.reduceLT, reduceIte, reduceCtorEq, Nat.reduceBEq, Int.reduceLT, Int.reduceToNat, Int.reducePow, Nat.reduceLeDiff, Int.reduceLE, Nat.reduceMul, Nat.reduceSub]
          simp only [Done, resAV, resL, resOne, look_nil, look_cons, Nat.reduceEqDiff, if_true, if_false, reduceIte, ite_true, ite_false, Nat.zero_ne_one, Nat.one_ne_zero, reduceCtorEq, true_or, or_true, true_and, Option.some.injEq, AV.lit.injEq, Value.int.injEq, Value.bool.injEq]

theorem mixedDigits_any (avs : List AV) (h : Args Try.prog Try.f9.params.toList avs) : Pure Try.prog 9 avs [] (.lit (.bool true)) := by
  have hp : Try.f9.params.toList = [5, 5, 34] := by kernel_rfl
  rw [hp] at h
  obtain ⟨av0, rest0, rfl, a0, h0⟩ := h
  obtain ⟨av1, rest1, rfl, a1, h1⟩ := h0
  obtain ⟨av2, rest2, rfl, a2, rfl⟩ := h1
  obtain ⟨z0, rfl, w0⟩ := arg_int (k := .u8) (by kernel_rfl) a0
  obtain ⟨z1, rfl, w1⟩ := arg_int (k := .u8) (by kernel_rfl) a1
  obtain ⟨z2, rfl, w2, s2⟩ := arg_ints (e := 5) (k := .u8) (by kernel_rfl) (by kernel_rfl) a2
  rw [show Try.prog.bytesOf 5 = 1 from by kernel_rfl] at s2
  obtain ⟨y2, e2, v2, k2⟩ := octs_of z2 (fun n hn => by simpa [Lit.wf, IntKind.min, IntKind.max, IntKind.signed, IntKind.bits] using w2 n hn)
  rw [e2]
  exact mixedDigits_pure z0 (by simpa [Lit.wf, IntKind.min, IntKind.max, IntKind.signed, IntKind.bits] using w0) z1 (by simpa [Lit.wf, IntKind.min, IntKind.max, IntKind.signed, IntKind.bits] using w1) y2 ⟨by omega, v2⟩

set_option maxRecDepth 100000 in
theorem mixedDigits_lifted (os : Os) (started : os.Started) (H : Type) (enc : TypeId × Value → H) :
    ReturnsInHanded {} Try.checked os 9 .any (Rows.mixedDigitsSpec.pre6 enc Try.prog Try.f9 Rows.mixedDigitsRow.domain false) (Rows.mixedDigitsSpec.post enc Try.prog Try.f9 false true false false) := by
  refine law_returns (C := Try.checked) (tb := 4) (by kernel_rfl) started (by kernel_rfl) Try.func9
    (ChangeSpec.witness6 (enc := enc) (C := Try.checked) false ⟨#[], #[.int .u8 0, .int .u8 0, .slice none 0 0], []⟩ 8 (by kernel_rfl) (by kernel_rfl) (by kernel_rfl) (by kernel_rfl))
    (by kernel_rfl) (by kernel_rfl) rfl rfl (by kernel_rfl) (by kernel_rfl) ?_ mixedDigits_any
  intro ds hds
  have hp : Try.f9.params.toList = [5, 5, 34] := by kernel_rfl
  rw [hp] at hds
  match ds, hds with
  | [d0, d1, d2], _ => exact ⟨rfl, rfl, rfl⟩

theorem mixedDigits_holds : Rows.MixedDigitsSaid :=
  OpenClaim.holds_of_wide 9 Try.f9 rfl rfl rfl rfl rfl rfl rfl ⟨rfl, rfl, rfl, rfl, rfl⟩ rfl rfl rfl rfl rfl (by kernel_rfl) Try.func9 (by kernel_rfl)
    (of_decide_eq_true (by kernel_rfl)) (by unfold Func.isWrapper; first | (rw [if_pos (by decide +kernel)]; kernel_rfl) | (rw [if_neg (by decide +kernel)]; exact ⟨rfl, rfl⟩))
    (fun os started H enc _ => mixedDigits_lifted os started H enc)
end Go.Proofs.Ytocaeclhmkojiaa
