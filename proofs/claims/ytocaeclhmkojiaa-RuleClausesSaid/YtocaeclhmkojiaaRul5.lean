/-
What the rule of bidi says of a label, told by how many of each class it has: so the law answers true, whatever it is handed. Conditions: none.
-/
import Derived.Test.YtocaeclhmkojiaaRul3
set_option linter.unusedSimpArgs false
set_option linter.unusedVariables false
set_option linter.unusedSectionVars false
namespace Go.Proofs.Ytocaeclhmkojiaa
open Go Go.Ab Go.ChangeShapes Go.WideShapes Go.ChangeAt Go.RowKit
def a4 : ACode :=
  (.seq (.reg [⟨(.some 2), (.mv (.k (.bool false))), .none⟩]) (.seq (.seq (.reg [⟨(.some 13), (.mv (.t 0)), .none⟩, ⟨(.some 14), (.len (.t 13)), .none⟩, ⟨(.some 15), (.bin .gtr (.t 14) (.k (.int .i64
  200))), .none⟩]) (.cond (.t 15) (.seq (.reg [⟨(.some 16), (.call (.f 21) []), .none⟩, ⟨(.some 2), (.mv (.t 16)), .none⟩]) .ret) .skip)) (.seq (.reg [⟨(.some 17), (.mv (.t 0)), .none⟩, ⟨(.some 18),
  (.call (.f 19) [(.t 17)]), .none⟩, ⟨(.some 3), (.mv (.t 18)), .none⟩]) (.seq (.seq (.reg [⟨(.some 19), (.mv (.t 0)), .none⟩, ⟨(.some 20), (.len (.t 19)), .none⟩, ⟨(.some 21), (.bin .eql (.t 20) (.k
  (.int .i64 0))), .none⟩]) (.cond (.t 21) (.seq (.reg [⟨(.some 22), (.mv (.t 3)), .none⟩, ⟨(.some 23), (.bin .eql (.t 22) (.k (.int .u8 9))), .none⟩, ⟨(.some 24), (.mv (.t 23)), .none⟩, ⟨(.some 25),
  (.mv (.t 0)), (.some (24, true))⟩, ⟨(.some 26), (.call (.f 17) [(.t 25)]), (.some (24, true))⟩, ⟨(.some 27), (.not (.t 26)), (.some (24, true))⟩, ⟨(.some 28), (.pick (.t 24) (.t 27) (.k (.bool
  false))), .none⟩, ⟨(.some 29), (.mv (.t 28)), .none⟩, ⟨(.some 30), (.call (.f 21) []), (.some (29, true))⟩, ⟨(.some 31), (.pick (.t 29) (.t 30) (.k (.bool false))), .none⟩, ⟨(.some 2), (.mv (.t 31)),
  .none⟩]) .ret) .skip)) (.seq (.reg [⟨(.some 32), (.xe .mkm []), .none⟩, ⟨(.some 4), (.mv (.t 32)), .none⟩]) (.seq (.reg [⟨(.some 5), (.mv (.k (.int .u8 8))), .none⟩]) (.seq (.seq (.reg [⟨(.some 33),
  (.mv (.t 0)), .none⟩, ⟨(.some 34), (.len (.t 33)), .none⟩, ⟨(.some 35), (.mv (.k (.int .i64 0))), .none⟩]) (.block 0 (.loop (.seq (.reg [⟨(.some 36), (.bin .lss (.t 35) (.t 34)), .none⟩]) (.seq (.cond
  (.t 36) .skip (.exit 0)) (.seq (.block 1 (.seq (.reg [⟨(.some 37), (.ia 21 (.t 33) (.t 35)), .none⟩, ⟨(.some 38), (.ld .none (.t 37)), .none⟩, ⟨(.some 7), (.mv (.t 38)), .none⟩]) (.seq (.reg [⟨(.some
  39), (.mv (.t 7)), .none⟩, ⟨(.some 40), (.call (.f 22) [(.t 39)]), .none⟩, ⟨(.some 41), (.fld 1 .none (.t 40)), .none⟩, ⟨(.some 8), (.mv (.t 41)), .none⟩]) (.seq (.reg [⟨(.some 42), (.mv (.t 4)),
  .none⟩, ⟨(.some 43), (.mv (.t 8)), .none⟩, ⟨(.some 44), (.xv (.lkp false (.int .i64 0)) [(.t 42), (.t 43)]), .none⟩, ⟨(.some 45), (.bin .add (.t 44) (.k (.int .i64 1))), .none⟩, ⟨.none, (.xe .mup [(.t
  42), (.t 43), (.t 45)]), .none⟩]) (.seq (.reg [⟨(.some 46), (.mv (.t 8)), .none⟩, ⟨(.some 47), (.bin .neq (.t 46) (.k (.int .u8 8))), .none⟩]) (.cond (.t 47) (.reg [⟨(.some 48), (.mv (.t 8)), .none⟩,
  ⟨(.some 5), (.mv (.t 48)), .none⟩]) .skip)))))) (.reg [⟨(.some 49), (.bin .add (.t 35) (.k (.int .i64 1))), .none⟩, ⟨(.some 35), (.mv (.t 49)), .none⟩]))))))) (.seq (.reg [⟨(.some 50), (.mv (.t 0)),
  .none⟩, ⟨(.some 51), (.ia 21 (.t 50) (.k (.int .i64 0))), .none⟩, ⟨(.some 52), (.ld .none (.t 51)), .none⟩, ⟨(.some 53), (.call (.f 22) [(.t 52)]), .none⟩, ⟨(.some 54), (.fld 1 .none (.t 53)), .none⟩,
  ⟨(.some 9), (.mv (.t 54)), .none⟩]) (.seq (.reg [⟨(.some 55), (.mv (.t 4)), .none⟩, ⟨(.some 56), (.xv (.lkp false (.int .i64 0)) [(.t 55), (.k (.int .u8 1))]), .none⟩, ⟨(.some 57), (.mv (.t 4)),
  .none⟩, ⟨(.some 58), (.xv (.lkp false (.int .i64 0)) [(.t 57), (.k (.int .u8 2))]), .none⟩, ⟨(.some 59), (.bin .add (.t 56) (.t 58)), .none⟩, ⟨(.some 10), (.mv (.t 59)), .none⟩]) (.seq (.seq (.dreg
  [⟨(.some 60), (.mv (.t 0)), .none⟩, ⟨(.some 61), (.call (.f 17) [(.t 60)]), .none⟩, ⟨(.some 62), (.mv (.t 10)), .none⟩, ⟨(.some 63), (.mv (.t 4)), .none⟩, ⟨(.some 64), (.xv (.lkp false (.int .i64 0))
  [(.t 63), (.k (.int .u8 6))]), .none⟩, ⟨(.some 65), (.bin .add (.t 62) (.t 64)), .none⟩, ⟨(.some 66), (.bin .gtr (.t 65) (.k (.int .i64 0))), .none⟩, ⟨(.some 67), (.eqB true (.t 61) (.t 66)), .none⟩,
  ⟨(.some 68), (.mv (.t 67)), .none⟩, ⟨(.some 69), (.mv (.t 3)), (.some (68, false))⟩, ⟨(.some 70), (.bin .eql (.t 69) (.k (.int .u8 9))), (.some (68, false))⟩, ⟨(.some 71), (.mv (.t 9)), (.some (68,
  false))⟩, ⟨(.some 72), (.bin .neq (.t 71) (.k (.int .u8 0))), (.some (68, false))⟩, ⟨(.some 73), (.mv (.t 72)), (.some (68, false))⟩, ⟨(.some 74), (.mv (.t 9)), (.some (73, true))⟩, ⟨(.some 75), (.bin
  .neq (.t 74) (.k (.int .u8 1))), (.some (73, true))⟩, ⟨(.some 76), (.pick (.t 73) (.t 75) (.k (.bool false))), (.some (68, false))⟩, ⟨(.some 77), (.mv (.t 76)), (.some (68, false))⟩, ⟨(.some 78), (.mv
  (.t 9)), (.some (77, true))⟩, ⟨(.some 79), (.bin .neq (.t 78) (.k (.int .u8 2))), (.some (77, true))⟩, ⟨(.some 80), (.pick (.t 77) (.t 79) (.k (.bool false))), (.some (68, false))⟩, ⟨(.some 81), (.eqB
  true (.t 70) (.t 80)), (.some (68, false))⟩, ⟨(.some 82), (.pick (.t 68) (.k (.bool true)) (.t 81)), .none⟩]) (.cond (.t 82) (.seq (.reg [⟨(.some 2), (.mv (.k (.bool false))), .none⟩]) .ret) .skip))
  (.seq (.seq (.reg [⟨(.some 83), (.mv (.t 3)), .none⟩, ⟨(.some 84), (.bin .neq (.t 83) (.k (.int .u8 0))), .none⟩]) (.cond (.t 84) (.seq (.reg [⟨(.some 85), (.mv (.t 3)), .none⟩, ⟨(.some 86), (.bin
  .geq (.t 85) (.k (.int .u8 9))), .none⟩, ⟨(.some 87), (.mv (.t 86)), .none⟩, ⟨(.some 88), (.mv (.t 3)), (.some (87, true))⟩, ⟨(.some 89), (.bin .leq (.t 88) (.k (.int .u8 12))), (.some (87, true))⟩,
  ⟨(.some 90), (.pick (.t 87) (.t 89) (.k (.bool false))), .none⟩, ⟨(.some 91), (.mv (.t 90)), .none⟩, ⟨(.some 92), (.mv (.t 3)), (.some (91, true))⟩, ⟨(.some 93), (.bin .neq (.t 92) (.k (.int .u8
  12))), (.some (91, true))⟩, ⟨(.some 94), (.mv (.t 93)), (.some (91, true))⟩, ⟨(.some 95), (.mv (.t 9)), (.some (94, false))⟩, ⟨(.some 96), (.bin .neq (.t 95) (.k (.int .u8 0))), (.some (94, false))⟩,
  ⟨(.some 97), (.mv (.t 96)), (.some (94, false))⟩, ⟨(.some 98), (.mv (.t 4)), (.some (97, true))⟩, ⟨(.some 99), (.xv (.lkp false (.int .i64 0)) [(.t 98), (.k (.int .u8 3))]), (.some (97, true))⟩,
  ⟨(.some 100), (.bin .gtr (.t 99) (.k (.int .i64 0))), (.some (97, true))⟩, ⟨(.some 101), (.pick (.t 97) (.t 100) (.k (.bool false))), (.some (94, false))⟩, ⟨(.some 102), (.mv (.t 101)), (.some (94,
  false))⟩, ⟨(.some 103), (.mv (.t 4)), (.some (102, true))⟩, ⟨(.some 104), (.xv (.lkp false (.int .i64 0)) [(.t 103), (.k (.int .u8 6))]), (.some (102, true))⟩, ⟨(.some 105), (.bin .gtr (.t 104) (.k
  (.int .i64 0))), (.some (102, true))⟩, ⟨(.some 106), (.pick (.t 102) (.t 105) (.k (.bool false))), (.some (94, false))⟩, ⟨(.some 107), (.pick (.t 94) (.k (.bool true)) (.t 106)), (.some (91, true))⟩,
  ⟨(.some 108), (.pick (.t 91) (.t 107) (.k (.bool false))), .none⟩, ⟨(.some 109), (.mv (.t 108)), .none⟩, ⟨(.some 110), (.call (.f 21) []), (.some (109, true))⟩, ⟨(.some 111), (.pick (.t 109) (.t 110)
  (.k (.bool false))), .none⟩, ⟨(.some 2), (.mv (.t 111)), .none⟩]) .ret) .skip)) (.seq (.seq (.reg [⟨(.some 112), (.mv (.t 4)), .none⟩, ⟨(.some 113), (.xe .rngM [(.t 112)]), .none⟩]) (.block 2 (.loop
  (.seq (.reg [⟨(.some 114), (.nxt false (.t 113)), .none⟩, ⟨(.some 115), (.ext (.t 114) 0), .none⟩]) (.seq (.cond (.t 115) .skip (.exit 2)) (.block 3 (.seq (.reg [⟨(.some 116), (.xv .ent [(.t 113)]),
  .none⟩, ⟨(.some 117), (.ext (.t 116) 0), .none⟩, ⟨(.some 11), (.mv (.t 117)), .none⟩]) (.seq (.reg [⟨(.some 118), (.mv (.t 11)), .none⟩, ⟨(.some 119), (.bin .eql (.t 118) (.k (.int .u8 10))), .none⟩,
  ⟨(.some 120), (.mv (.t 119)), .none⟩, ⟨(.some 121), (.mv (.t 11)), (.some (120, false))⟩, ⟨(.some 122), (.bin .eql (.t 121) (.k (.int .u8 11))), (.some (120, false))⟩, ⟨(.some 123), (.pick (.t 120)
  (.k (.bool true)) (.t 122)), .none⟩, ⟨(.some 124), (.mv (.t 123)), .none⟩, ⟨(.some 125), (.mv (.t 11)), (.some (124, false))⟩, ⟨(.some 126), (.bin .eql (.t 125) (.k (.int .u8 12))), (.some (124,
  false))⟩, ⟨(.some 127), (.pick (.t 124) (.k (.bool true)) (.t 126)), .none⟩, ⟨(.some 128), (.mv (.t 127)), .none⟩, ⟨(.some 129), (.mv (.t 11)), (.some (128, false))⟩, ⟨(.some 130), (.bin .geq (.t 129)
  (.k (.int .u8 14))), (.some (128, false))⟩, ⟨(.some 131), (.pick (.t 128) (.k (.bool true)) (.t 130)), .none⟩]) (.cond (.t 131) (.seq (.reg [⟨(.some 2), (.mv (.k (.bool false))), .none⟩]) .ret)
  .skip))))))))) (.seq (.reg [⟨(.some 132), (.mv (.t 5)), .none⟩, ⟨(.some 133), (.mv (.t 9)), .none⟩, ⟨(.some 134), (.bin .eql (.t 132) (.t 133)), .none⟩, ⟨(.some 135), (.mv (.t 134)), .none⟩, ⟨(.some
  136), (.mv (.t 5)), (.some (135, false))⟩, ⟨(.some 137), (.bin .eql (.t 136) (.k (.int .u8 1))), (.some (135, false))⟩, ⟨(.some 138), (.pick (.t 135) (.k (.bool true)) (.t 137)), .none⟩, ⟨(.some 139),
  (.mv (.t 138)), .none⟩, ⟨(.some 140), (.mv (.t 5)), (.some (139, false))⟩, ⟨(.some 141), (.bin .eql (.t 140) (.k (.int .u8 2))), (.some (139, false))⟩, ⟨(.some 142), (.pick (.t 139) (.k (.bool true))
  (.t 141)), .none⟩, ⟨(.some 12), (.mv (.t 142)), .none⟩]) (.seq (.seq (.reg [⟨(.some 143), (.mv (.t 9)), .none⟩, ⟨(.some 144), (.bin .eql (.t 143) (.k (.int .u8 0))), .none⟩]) (.cond (.t 144) (.seq
  (.reg [⟨(.some 145), (.mv (.t 0)), .none⟩, ⟨(.some 146), (.call (.f 17) [(.t 145)]), .none⟩, ⟨(.some 147), (.not (.t 146)), .none⟩, ⟨(.some 148), (.mv (.t 147)), .none⟩, ⟨(.some 149), (.mv (.t 5)),
  (.some (148, true))⟩, ⟨(.some 150), (.bin .eql (.t 149) (.k (.int .u8 0))), (.some (148, true))⟩, ⟨(.some 151), (.mv (.t 150)), (.some (148, true))⟩, ⟨(.some 152), (.mv (.t 5)), (.some (151, false))⟩,
  ⟨(.some 153), (.bin .eql (.t 152) (.k (.int .u8 3))), (.some (151, false))⟩, ⟨(.some 154), (.pick (.t 151) (.k (.bool true)) (.t 153)), (.some (148, true))⟩, ⟨(.some 155), (.pick (.t 148) (.t 154) (.k
  (.bool false))), .none⟩, ⟨(.some 156), (.mv (.t 155)), .none⟩, ⟨(.some 157), (.call (.f 21) []), (.some (156, true))⟩, ⟨(.some 158), (.pick (.t 156) (.t 157) (.k (.bool false))), .none⟩, ⟨(.some 2),
  (.mv (.t 158)), .none⟩]) .ret) .skip)) (.seq (.reg [⟨(.some 159), (.mv (.t 4)), .none⟩, ⟨(.some 160), (.xv (.lkp false (.int .i64 0)) [(.t 159), (.k (.int .u8 0))]), .none⟩, ⟨(.some 161), (.bin .eql
  (.t 160) (.k (.int .i64 0))), .none⟩, ⟨(.some 162), (.mv (.t 161)), .none⟩, ⟨(.some 163), (.mv (.t 4)), (.some (162, true))⟩, ⟨(.some 164), (.xv (.lkp false (.int .i64 0)) [(.t 163), (.k (.int .u8
  3))]), (.some (162, true))⟩, ⟨(.some 165), (.bin .eql (.t 164) (.k (.int .i64 0))), (.some (162, true))⟩, ⟨(.some 166), (.mv (.t 165)), (.some (162, true))⟩, ⟨(.some 167), (.mv (.t 4)), (.some (166,
  false))⟩, ⟨(.some 168), (.xv (.lkp false (.int .i64 0)) [(.t 167), (.k (.int .u8 6))]), (.some (166, false))⟩, ⟨(.some 169), (.bin .eql (.t 168) (.k (.int .i64 0))), (.some (166, false))⟩, ⟨(.some
  170), (.pick (.t 166) (.k (.bool true)) (.t 169)), (.some (162, true))⟩, ⟨(.some 171), (.pick (.t 162) (.t 170) (.k (.bool false))), .none⟩, ⟨(.some 172), (.mv (.t 171)), .none⟩, ⟨(.some 173), (.mv
  (.t 12)), (.some (172, true))⟩, ⟨(.some 174), (.mv (.t 173)), (.some (172, true))⟩, ⟨(.some 175), (.mv (.t 5)), (.some (174, false))⟩, ⟨(.some 176), (.bin .eql (.t 175) (.k (.int .u8 3))), (.some
  (174, false))⟩, ⟨(.some 177), (.pick (.t 174) (.k (.bool true)) (.t 176)), (.some (172, true))⟩, ⟨(.some 178), (.mv (.t 177)), (.some (172, true))⟩, ⟨(.some 179), (.mv (.t 5)), (.some (178, false))⟩,
  ⟨(.some 180), (.bin .eql (.t 179) (.k (.int .u8 6))), (.some (178, false))⟩, ⟨(.some 181), (.pick (.t 178) (.k (.bool true)) (.t 180)), (.some (172, true))⟩, ⟨(.some 182), (.pick (.t 172) (.t 181) (.k
  (.bool false))), .none⟩, ⟨(.some 183), (.mv (.t 182)), .none⟩, ⟨(.some 184), (.call (.f 21) []), (.some (183, true))⟩, ⟨(.some 185), (.pick (.t 183) (.t 184) (.k (.bool false))), .none⟩, ⟨(.some 2),
  (.mv (.t 185)), .none⟩]) .ret)))))))))))))))
theorem c4 : Try.f4.body.bind (cCode Try.prog 186) = some a4 := by kernel_rfl
theorem r4 : Try.f4.results.toList = [(.tmp 2)] := by kernel_rfl
theorem n4 : Try.f4.ntmps = 186 := by kernel_rfl
theorem e4 : Enters Try.prog 4 := enters_of Try.func4 (by kernel_rfl) (by kernel_rfl)

/-- How many of each class: in the order in which they came. -/
def inc : List (Int × Int) → Int → List (Int × Int)
  | [], c => [(c, 1)]
  | (k, n) :: ms, c => if k = c then (k, n + 1) :: ms else (k, n) :: inc ms c
def getN : List (Int × Int) → Int → Int
  | [], _ => 0
  | (k, n) :: ms, c => if k = c then n else getN ms c
def mc (ms : List (Int × Int)) : List AV := ms.flatMap fun p => [.lit (.int .u8 p.1), .lit (.int .i64 p.2)]
theorem mc_nil : mc [] = [] := rfl
theorem mc_cons (k n : Int) (ms : List (Int × Int)) : mc ((k, n) :: ms) = .lit (.int .u8 k) :: .lit (.int .i64 n) :: mc ms := rfl
theorem mc_lkp (c : Int) : ∀ (ms : List (Int × Int)) (i : Nat), (findA (.int .u8 c) (mc ms) i).map (lkpV false (.int .i64 0)) = some (.lit (.int .i64 (getN ms c)))
  | [], i => rfl
  | (k, n) :: ms, i => by
    rw [mc_cons, findA_cons, eqKey_int]
    by_cases h : k = c
    · subst h; simp [findO, getN, lkpV]
    · have : (c == k) = false := by simpa using fun e => h e.symm
      rw [this, findO_f, mc_lkp c ms, getN, if_neg h]
theorem mc_shift (c : Int) (ms : List (Int × Int)) : ∀ (i : Nat), findA (.int .u8 c) (mc ms) i = (findA (.int .u8 c) (mc ms) 0).map (fun o => o.map (fun p => (p.1 + i, p.2))) := by
  induction ms with
  | nil => intro i; rfl
  | cons p ms ih =>
    obtain ⟨k, n⟩ := p
    intro i
    simp only [mc_cons, findA_cons, eqKey_int]
    cases hck : (c == k)
    · rw [findO_f, findO_f, ih (i + 1), ih (0 + 1), Option.map_map]
      congr 1
      funext o
      cases o
      · rfl
      · simp only [Function.comp, Option.map_some, Option.some.injEq, Prod.mk.injEq, and_true]; omega
    · simp [findO]
theorem mc_set (j : Nat) (v : AV) (a b : AV) (l : List AV) : (a :: b :: l).set (2 * (j + 1) + 1) v = a :: b :: l.set (2 * j + 1) v := by
  rw [show 2 * (j + 1) + 1 = (2 * j + 1) + 1 + 1 by omega, List.set_cons_succ, List.set_cons_succ]
theorem mc_mup (c : Int) (k0 e0 : TypeId) : ∀ (ms : List (Int × Int)), mupF k0 e0 ms.length (mc ms) (.int .u8 c) (.lit (.int .i64 (getN ms c + 1))) (findA (.int .u8 c) (mc ms) 0) = some (.ob (.map k0 e0 (inc ms c).length) (mc (inc ms c)))
  | [] => rfl
  | (k, n) :: ms => by
    have ih := mc_mup c k0 e0 ms
    by_cases h : k = c
    · subst h
      simp [mc_cons, findA_cons, eqKey_int, findO, mupF, getN, inc]
    · have h' : (c == k) = false := by simpa using fun e => h e.symm
      have hf : findA (.int .u8 c) (mc ((k, n) :: ms)) 0 = findA (.int .u8 c) (mc ms) (0 + 1) := by rw [mc_cons, findA_cons, eqKey_int, h', findO_f]
      rw [hf, mc_shift c ms (0 + 1)]
      simp only [getN, inc, if_neg h]
      cases hq : findA (.int .u8 c) (mc ms) 0 with
      | none => rw [hq] at ih; simp [mupF] at ih
      | some o =>
        rw [hq] at ih
        cases o with
        | none =>
          simp only [mupF, Option.some.injEq, AV.ob.injEq, OK.map.injEq, true_and] at ih
          simp only [Option.map_some, Option.map_none, mupF, Option.some.injEq, AV.ob.injEq, OK.map.injEq, true_and, List.length_cons, mc_cons, List.cons_append, ← ih.2, ← ih.1, and_self]
        | some p =>
          obtain ⟨j, u⟩ := p
          simp only [mupF, Option.some.injEq, AV.ob.injEq, OK.map.injEq, true_and] at ih
          simp only [Option.map_some, mupF, Option.some.injEq, AV.ob.injEq, OK.map.injEq, true_and, List.length_cons, mc_cons, ← ih.2, ← ih.1, show j + (0 + 1) = j + 1 from rfl, mc_set, and_self]

theorem mc_ren (f : Nat → Nat) (ms : List (Int × Int)) : AV.renL f (mc ms) = mc ms := by
  induction ms with
  | nil => rfl
  | cons p ms ih => obtain ⟨k, n⟩ := p; simp only [mc_cons, AV.renL, AV.ren, ih]
theorem mc_under (n : Nat) (ms : List (Int × Int)) : AV.underL n (mc ms) = true := by
  induction ms with
  | nil => rfl
  | cons p ms ih => obtain ⟨k, m⟩ := p; simp only [mc_cons, AV.underL, AV.under, ih, Bool.and_self]

/-- All classes of a label, told. -/
def many : List Int → List (Int × Int) → List (Int × Int)
  | [], ms => ms
  | r :: l, ms => many l (inc ms (cls r))
theorem many_take {l : List Int} {i : Nat} (hi : i < l.length) (ms : List (Int × Int)) : many (l.take (i + 1)) ms = inc (many (l.take i) ms) (cls l[i]) := by
  induction l generalizing i ms with
  | nil => simp at hi
  | cons r l ih =>
    cases i with
    | zero => simp [many]
    | succ i => simp only [List.take_succ_cons, many, List.getElem_cons_succ]; exact ih (by simpa using hi) _
theorem getN_inc (ms : List (Int × Int)) (c d : Int) : getN (inc ms c) d = if c = d then getN ms d + 1 else getN ms d := by
  induction ms with
  | nil => simp [inc, getN]
  | cons p ms ih =>
    obtain ⟨k, n⟩ := p
    by_cases h : k = c
    · subst h
      by_cases h2 : k = d <;> simp [inc, getN, h2]
    · by_cases h2 : k = d
      · subst h2
        have : ¬ c = k := fun e => h e.symm
        simp [inc, getN, h, this]
      · simp [inc, getN, h, h2, ih]
theorem getN_many (l : List Int) (ms : List (Int × Int)) (d : Int) : getN (many l ms) d = getN ms d + (l.countP fun r => cls r == d : Nat) := by
  induction l generalizing ms with
  | nil => simp [many]
  | cons r l ih =>
    rw [many, ih, getN_inc, List.countP_cons]
    by_cases h : cls r = d <;> simp [h]; omega
theorem keys_inc (ms : List (Int × Int)) (c : Int) : ∀ p ∈ inc ms c, p.1 = c ∨ ∃ q ∈ ms, q.1 = p.1 := by
  induction ms with
  | nil => intro p hp; simp [inc] at hp; exact .inl (by rw [hp])
  | cons q ms ih =>
    obtain ⟨k, n⟩ := q
    intro p hp
    by_cases h : k = c
    · simp only [inc, if_pos h] at hp
      rcases List.mem_cons.1 hp with rfl | hp
      · exact .inl h
      · exact .inr ⟨p, List.mem_cons_of_mem _ hp, rfl⟩
    · simp only [inc, if_neg h] at hp
      rcases List.mem_cons.1 hp with rfl | hp
      · exact .inr ⟨_, List.mem_cons_self, rfl⟩
      · rcases ih p hp with h1 | ⟨q, h1, h2⟩
        · exact .inl h1
        · exact .inr ⟨q, List.mem_cons_of_mem _ h1, h2⟩
theorem keys_many (l : List Int) (ms : List (Int × Int)) : ∀ p ∈ many l ms, (∃ r ∈ l, cls r = p.1) ∨ ∃ q ∈ ms, q.1 = p.1 := by
  induction l generalizing ms with
  | nil => intro p hp; exact .inr ⟨p, hp, rfl⟩
  | cons r l ih =>
    intro p hp
    rcases ih _ p hp with ⟨s, h1, h2⟩ | ⟨q, h1, h2⟩
    · exact .inl ⟨s, List.mem_cons_of_mem _ h1, h2⟩
    · rcases keys_inc ms _ q h1 with h3 | ⟨q', h3, h4⟩
      · exact .inl ⟨r, List.mem_cons_self, by rw [← h3, h2]⟩
      · exact .inr ⟨q', h3, by rw [h4, h2]⟩

theorem cls_upto (r : Int) : ∃ n : Nat, n < 23 ∧ cls r = n := ⟨(cls r).toNat, by have := cls_in r; omega, by have := cls_in r; omega⟩
/-- The last class that is none of a mark. -/
def lastC (l : List Int) : Int := match lastOf l with
  | none => 8
  | some r => cls r
theorem lastC_take {l : List Int} {i : Nat} (hi : i < l.length) : lastC (l.take (i + 1)) = if cls l[i] = 8 then lastC (l.take i) else cls l[i] := by
  have h8 : ∀ n < 23, (!hasB 256 ((n : Nat) : Int)) = !decide (n = 8) := by decide +kernel
  obtain ⟨n, hn, hc⟩ := cls_upto l[i]
  have h9 := h8 n hn
  rw [← hc] at h9
  rw [List.take_succ_eq_append_getElem hi]
  simp only [lastC, lastOf, List.reverse_append, List.reverse_cons, List.reverse_nil, List.nil_append, List.cons_append, List.find?_cons]
  by_cases h : n = 8
  · have h' : (!hasB 256 (cls l[i])) = false := by rw [h9]; simp [h]
    have e : cls l[i] = 8 := by rw [hc, h]; rfl
    simp only [h', if_pos e]
  · have h' : (!hasB 256 (cls l[i])) = true := by rw [h9]; simp [h]
    have e : ¬ cls l[i] = 8 := by rw [hc]; omega
    simp only [h', if_neg e]

theorem any_count (l : List Int) (c : Int) : (l.any fun r => cls r == c) = decide (0 < l.countP fun r => cls r == c) := by
  rw [Bool.eq_iff_iff, List.any_eq_true, decide_eq_true_eq, List.countP_pos_iff]
theorem any_or (l : List Int) (p q : Int → Bool) : (l.any fun r => p r || q r) = (l.any p || l.any q) := by
  induction l with
  | nil => rfl
  | cons r l ih => simp only [List.any_cons, ih]; cases p r <;> cases q r <;> cases l.any p <;> rfl
theorem bidi_many (l : List Int) : bidiOf l = decide (((l.countP fun r => cls r == 1 : Nat) : Int) + ((l.countP fun r => cls r == 2 : Nat) : Int) + ((l.countP fun r => cls r == 6 : Nat) : Int) > 0) := by
  have h : ∀ n < 23, hasB 70 ((n : Nat) : Int) = (((n : Nat) : Int) == 1 || (((n : Nat) : Int) == 2 || ((n : Nat) : Int) == 6)) := by decide +kernel
  have e : bidiOf l = l.any fun r => (cls r == 1 || (cls r == 2 || cls r == 6)) := by
    unfold bidiOf
    congr 1
    funext r
    obtain ⟨n, hn, hc⟩ := cls_upto r
    rw [hc, h n hn]
  rw [e, any_or, any_or, any_count, any_count, any_count, Bool.eq_iff_iff]
  simp only [Bool.or_eq_true, decide_eq_true_eq]
  omega
theorem fails_in (wi en : Int) (l : List Int) : failsOf wi en l = 0 ∨ failsOf wi en l = 10 ∨ failsOf wi en l = 11 := by
  unfold failsOf
  split
  · exact .inr (.inl rfl)
  · split
    · exact .inr (.inr rfl)
    · split
      · exact .inl rfl
      · exact .inr (.inr rfl)
theorem first_rule (l : List Int) (hl : 0 < l.length) : (ruleOf l == 9) = (cls l[0] != 0 && cls l[0] != 1 && cls l[0] != 2) := by
  have h : ∀ n < 23, hasB 7 ((n : Nat) : Int) = !(((n : Nat) : Int) != 0 && ((n : Nat) : Int) != 1 && ((n : Nat) : Int) != 2) := by decide +kernel
  cases l with
  | nil => simp at hl
  | cons r q =>
    obtain ⟨n, hn, hc⟩ := cls_upto r
    have h7 := h n hn
    rw [← hc] at h7
    simp only [List.getElem_cons_zero]
    generalize (cls r != 0 && cls r != 1 && cls r != 2) = b at h7
    have f1 := fails_in 9145 9 (r :: q)
    have f2 := fails_in 9214 78 (r :: q)
    simp only [ruleOf, h7]
    cases b
    · simp only [Bool.not_false, Bool.true_eq_false, if_false]
      split
      · rcases f1 with f | f | f <;> rw [f] <;> rfl
      · split
        · rcases f2 with f | f | f <;> rw [f] <;> rfl
        · split <;> rfl
    · rfl

theorem rule_range (l : List Int) : ruleOf l = 0 ∨ (9 ≤ ruleOf l ∧ ruleOf l ≤ 12) := by
  cases l with
  | nil => exact .inr (by decide)
  | cons r q =>
    have f1 := fails_in 9145 9 (r :: q)
    have f2 := fails_in 9214 78 (r :: q)
    simp only [ruleOf]
    split
    · omega
    · split
      · omega
      · split
        · omega
        · split <;> omega
theorem rule_12 (l : List Int) (hl : 0 < l.length) (h : ruleOf l = 12) : (cls l[0] != 0) = true ∧ (0 < l.countP fun r => cls r == 3) ∧ 0 < l.countP fun r => cls r == 6 := by
  have h3 : ∀ n < 23, hasB 8 ((n : Nat) : Int) = (((n : Nat) : Int) == 3) := by decide +kernel
  have h6 : ∀ n < 23, hasB 64 ((n : Nat) : Int) = (((n : Nat) : Int) == 6) := by decide +kernel
  have h1 : ∀ n < 23, hasB 1 ((n : Nat) : Int) = (((n : Nat) : Int) == 0) := by decide +kernel
  have e3 : (fun r => hasB 8 (cls r)) = fun r => cls r == 3 := by funext r; obtain ⟨n, hn, hc⟩ := cls_upto r; rw [hc, h3 n hn]
  have e6 : (fun r => hasB 64 (cls r)) = fun r => cls r == 6 := by funext r; obtain ⟨n, hn, hc⟩ := cls_upto r; rw [hc, h6 n hn]
  cases l with
  | nil => simp at hl
  | cons r q =>
    obtain ⟨n, hn, hc⟩ := cls_upto r
    have h1 := h1 n hn
    rw [← hc] at h1
    have f1 := fails_in 9145 9 (r :: q)
    have f2 := fails_in 9214 78 (r :: q)
    simp only [ruleOf, e3, e6, any_count] at h
    split at h
    · omega
    · split at h
      · omega
      · rename_i hb
        split at h
        · omega
        · split at h
          · rename_i hx
            simp only [Bool.and_eq_true, decide_eq_true_eq] at hx
            refine ⟨?_, hx⟩
            simp only [List.getElem_cons_zero, bne_iff_ne, ne_eq]
            intro e
            rw [e] at h1
            rw [e, h1] at hb
            exact hb rfl
          · omega

theorem mc_get : ∀ {ms : List (Int × Int)} {i : Nat} {key : AV}, (mc ms)[2 * i]? = some key → ∃ p ∈ ms, key = .lit (.int .u8 p.1)
  | [], i, key, h => by simp [mc] at h
  | (k, n) :: ms, 0, key, h => by
    simp only [mc_cons, Nat.mul_zero, List.getElem?_cons_zero, Option.some.injEq] at h
    exact ⟨_, List.mem_cons_self, h.symm⟩
  | (k, n) :: ms, i + 1, key, h => by
    rw [mc_cons, show 2 * (i + 1) = 2 * i + 1 + 1 by omega, List.getElem?_cons_succ, List.getElem?_cons_succ] at h
    obtain ⟨p, h1, h2⟩ := mc_get h
    exact ⟨p, List.mem_cons_of_mem _ h1, h2⟩
theorem fails_all {wi en : Int} {l : List Int} (h : failsOf wi en l = 0) : ∀ r ∈ l, hasB wi (cls r) = true := by
  unfold failsOf at h
  split at h
  · omega
  · rename_i hn
    intro r hr
    rw [Bool.not_eq_true, List.any_eq_false] at hn
    have := hn r hr
    simpa using this
theorem rule_all {l : List Int} (hl : 0 < l.length) (h : ruleOf l = 0) : ((cls l[0] = 0) ∧ failsOf 9145 9 l = 0) ∨ (cls l[0] ≠ 0 ∧ failsOf 9214 78 l = 0 ∧ ¬ ((0 < l.countP fun r => cls r == 3) ∧ 0 < l.countP fun r => cls r == 6)) := by
  have h3 : ∀ n < 23, hasB 8 ((n : Nat) : Int) = (((n : Nat) : Int) == 3) := by decide +kernel
  have h6 : ∀ n < 23, hasB 64 ((n : Nat) : Int) = (((n : Nat) : Int) == 6) := by decide +kernel
  have h1 : ∀ n < 23, hasB 1 ((n : Nat) : Int) = (((n : Nat) : Int) == 0) := by decide +kernel
  have e3 : (fun r => hasB 8 (cls r)) = fun r => cls r == 3 := by funext r; obtain ⟨n, hn, hc⟩ := cls_upto r; rw [hc, h3 n hn]
  have e6 : (fun r => hasB 64 (cls r)) = fun r => cls r == 6 := by funext r; obtain ⟨n, hn, hc⟩ := cls_upto r; rw [hc, h6 n hn]
  cases l with
  | nil => simp at hl
  | cons r q =>
    obtain ⟨n, hn, hc⟩ := cls_upto r
    have h1 := h1 n hn
    rw [← hc] at h1
    simp only [ruleOf, e3, e6, any_count] at h
    simp only [List.getElem_cons_zero]
    split at h
    · omega
    · split at h
      · rename_i hb
        rw [h1, beq_iff_eq] at hb
        exact .inl ⟨hb, h⟩
      · rename_i hb
        rw [h1, beq_iff_eq] at hb
        split at h
        · omega
        · rename_i hf
          split at h
          · omega
          · rename_i hx
            simp only [Bool.and_eq_true, decide_eq_true_eq] at hx
            exact .inr ⟨hb, by omega, hx⟩
theorem keys_ok (l : List Int) (h : ruleOf l = 0) : ∀ p ∈ many l [], (p.1 == 10) = false ∧ (p.1 == 11) = false ∧ (p.1 == 12) = false ∧ decide (p.1 ≥ 14) = false := by
  have hw : ∀ n < 23, hasB 9145 ((n : Nat) : Int) = true ∨ hasB 9214 ((n : Nat) : Int) = true → (((n : Nat) : Int) == 10) = false ∧ (((n : Nat) : Int) == 11) = false ∧ (((n : Nat) : Int) == 12) = false ∧ decide (((n : Nat) : Int) ≥ 14) = false := by decide +kernel
  intro p hp
  have hl : 0 < l.length := by
    cases l with
    | nil => simp [many] at hp
    | cons r q => simp
  rcases keys_many l [] p hp with ⟨r, hr, he⟩ | ⟨q, hq, _⟩
  · obtain ⟨n, hn, hc⟩ := cls_upto r
    rw [← he, hc]
    refine hw n hn ?_
    rw [← hc]
    rcases rule_all hl h with ⟨_, hf⟩ | ⟨_, hf, _⟩
    · exact .inl (fails_all hf r hr)
    · exact .inr (fails_all hf r hr)
  · cases hq

theorem last_ok {wi en : Int} {l : List Int} (h : failsOf wi en l = 0) : hasB en (lastC l) = true := by
  unfold failsOf at h
  split at h
  · omega
  · unfold lastC
    split at h
    · omega
    · rename_i r hr
      rw [hr]
      split at h
      · assumption
      · omega

theorem last_in (l : List Int) : ∃ n : Nat, n < 23 ∧ lastC l = n := by
  unfold lastC
  split
  · exact ⟨8, by omega, rfl⟩
  · exact cls_upto _
theorem last_first {l : List Int} (h : failsOf 9145 9 l = 0) : lastC l = 0 ∨ lastC l = 3 := by
  have hw : ∀ n < 23, hasB 9 ((n : Nat) : Int) = true → n = 0 ∨ n = 3 := by decide +kernel
  obtain ⟨n, hn, hc⟩ := last_in l
  have := last_ok h
  rw [hc] at this ⊢
  have := hw n hn this
  omega
theorem last_right {l : List Int} (h : failsOf 9214 78 l = 0) : lastC l = 1 ∨ lastC l = 2 ∨ lastC l = 3 ∨ lastC l = 6 := by
  have hw : ∀ n < 23, hasB 78 ((n : Nat) : Int) = true → n = 1 ∨ n = 2 ∨ n = 3 ∨ n = 6 := by decide +kernel
  obtain ⟨n, hn, hc⟩ := last_in l
  have := last_ok h
  rw [hc] at this ⊢
  have := hw n hn this
  omega
theorem no_bidi {l : List Int} (h : failsOf 9145 9 l = 0) : bidiOf l = false := by
  have hw : ∀ n < 23, hasB 9145 ((n : Nat) : Int) = true → hasB 70 ((n : Nat) : Int) = false := by decide +kernel
  unfold bidiOf
  rw [List.any_eq_false]
  intro r hr
  obtain ⟨n, hn, hc⟩ := cls_upto r
  have := fails_all h r hr
  rw [hc] at this ⊢
  rw [hw n hn this]; simp
theorem no_left {l : List Int} (h : failsOf 9214 78 l = 0) : (l.countP fun r => cls r == 0) = 0 := by
  have hw : ∀ n < 23, hasB 9214 ((n : Nat) : Int) = true → (((n : Nat) : Int) == 0) = false := by decide +kernel
  rw [List.countP_eq_zero]
  intro r hr
  obtain ⟨n, hn, hc⟩ := cls_upto r
  have := fails_all h r hr
  rw [hc] at this ⊢
  rw [hw n hn this]; simp

/-- A loop whose states are told by something with a measure. -/
theorem loop_by {P : Program} {F : Nat} {s : State} {A : ACode} {Q : Exit → State → Prop} {α : Type} (S : α → State) (p : α → Prop) (m : α → Nat) (hS : ∀ a b, S a = S b → m a = m b) (a0 : α) (h0 : Weak P F s (S a0)) (hp : p a0)
    (hstep : ∀ a, p a → awp P F A (xThen (fun s' => ∃ b, Weak P F s' (S b) ∧ p b ∧ m b < m a) Q) (S a)) : aloop P F (awp P F A) Q s := by
  classical
  let mu : State → Nat := fun s => if h : ∃ a, s = S a then m h.choose else 0
  have hmu : ∀ a, mu (S a) = m a := by
    intro a
    have h : ∃ b, S a = S b := ⟨a, rfl⟩
    simp only [mu, dif_pos h]
    exact (hS _ _ h.choose_spec).symm
  refine ⟨fun s => ∃ a, s = S a ∧ p a, mu, ⟨S a0, h0, a0, rfl, hp⟩, ?_⟩
  rintro _ ⟨a, rfl, hpa⟩
  refine awp_mono ?_ (hstep a hpa)
  intro e s' hK
  cases e with
  | normal =>
    obtain ⟨b, h1, h2, h3⟩ := hK
    exact ⟨S b, h1, ⟨b, rfl, h2⟩, by rw [hmu, hmu]; exact h3⟩
  | _ => exact hK
/-- How many of a map's entries a loop has not come to. -/
def leftN (n : Nat) (seen : List Nat) : Nat := (List.range n).countP fun j => !seen.contains j
theorem leftN_lt {n i : Nat} {seen : List Nat} (hi : i < n) (hs : i ∉ seen) : leftN n (seen ++ [i]) < leftN n seen := by
  have key : ∀ l : List Nat, (l.countP fun j => !(seen ++ [i]).contains j) ≤ (l.countP fun j => !seen.contains j) ∧ (i ∈ l → (l.countP fun j => !(seen ++ [i]).contains j) < (l.countP fun j => !seen.contains j)) := by
    intro l
    induction l with
    | nil => simp
    | cons x l ih =>
      simp only [List.countP_cons]
      by_cases hx : x = i
      · subst hx
        have h1 : (!(seen ++ [x]).contains x) = false := by simp
        have h2 : (!seen.contains x) = true := by simpa using hs
        simp only [h1, h2, if_true, Bool.false_eq_true, if_false]
        have := ih.1
        exact ⟨by omega, fun _ => by omega⟩
      · have h1 : (!(seen ++ [i]).contains x) = (!seen.contains x) := by simp [hx]
        rw [h1]
        have h2 := ih.1
        refine ⟨by omega, fun hm => ?_⟩
        have hm' : i ∈ l := by
          rcases List.mem_cons.1 hm with e | e
          · exact absurd e.symm hx
          · exact e
        have := ih.2 hm'
        omega
  exact (key _).2 (List.mem_range.2 hi)

set_option maxRecDepth 10000 in
set_option maxHeartbeats 4000000 in
theorem ruleClauses_pure (l : List Int) (h : Runes l) : Pure Try.prog 4 [.sl 21 (runes l) none] [] (.lit (.bool true)) := by
  have hl : l.length ≤ 4611686018427387904 := by have := h.1; omega
  refine pure0 Try.func4 c4 n4 e4 r4 (by simp) rfl ?_
  simp only [a4, astart, argSlots, go_sem, Nat.reduceAdd, Nat.reduceEqDiff, Nat.reduceLT, reduceIte, reduceCtorEq, Nat.reduceBEq, Int.reduceLT, Int.reduceToNat, Int.reducePow, Nat.reduceLeDiff, Int.reduceLE, Nat.reduceMul, Nat.reduceSub]
  by_cases h0 : 200 < l.length
  · have e1 : decide ((l.length : Int) > 200) = true := by simp only [decide_eq_true_eq]; omega
    simp only [e1, go_sem, Nat.reduceAdd, Nat.reduceEqDiff, Nat.reduceLT, reduceIte, reduceCtorEq, Nat.reduceBEq, Int.reduceLT, Int.reduceToNat, Int.reducePow, Nat.reduceLeDiff, Int.reduceLE, Nat.reduceMul, Nat.reduceSub]
    refine callGo_pure awake09_pure (by rfl) ?_
    simp only [go_sem, Nat.reduceAdd, Nat.reduceEqDiff, Nat.reduceLT, reduceIte, reduceCtorEq, Nat.reduceBEq, Int.reduceLT, Int.reduceToNat, Int.reducePow, Nat.reduceLeDiff, Int.reduceLE, Nat.reduceMul, Nat.reduceSub]
    simp only [Done, resAV, resL, resOne, look_nil, look_cons, Nat.reduceEqDiff, if_true, if_false, reduceIte, ite_true, ite_false, Nat.zero_ne_one, Nat.one_ne_zero, reduceCtorEq, true_or, or_true, true_and, Option.some.injEq, AV.lit.injEq, Value.int.injEq, Value.bool.injEq]
  · have e1 : decide ((l.length : Int) > 200) = false := by simp only [decide_eq_false_iff_not]; omega
    simp only [e1, go_sem, Nat.reduceAdd, Nat.reduceEqDiff, Nat.reduceLT, reduceIte, reduceCtorEq, Nat.reduceBEq, Int.reduceLT, Int.reduceToNat, Int.reducePow, Nat.reduceLeDiff, Int.reduceLE, Nat.reduceMul, Nat.reduceSub]
    refine callGo_pure (rule_pure l hl) (by rfl) ?_
    simp only [go_sem, Nat.reduceAdd, Nat.reduceEqDiff, Nat.reduceLT, reduceIte, reduceCtorEq, Nat.reduceBEq, Int.reduceLT, Int.reduceToNat, Int.reducePow, Nat.reduceLeDiff, Int.reduceLE, Nat.reduceMul, Nat.reduceSub]
    by_cases hz : l.length = 0
    · have e2 : ((l.length : Int) == 0) = true := by simp [hz]
      have hl0 : l = [] := List.length_eq_zero_iff.1 hz
      have e3 : (ruleOf l == 9) = true := by rw [hl0]; rfl
      simp only [e2, e3, go_sem, Nat.reduceAdd, Nat.reduceEqDiff, Nat.reduceLT, reduceIte, reduceCtorEq, Nat.reduceBEq, Int.reduceLT, Int.reduceToNat, Int.reducePow, Nat.reduceLeDiff, Int.reduceLE, Nat.reduceMul, Nat.reduceSub]
      refine callGo_pure (bidi_pure l hl) (by rfl) ?_
      have e4 : bidiOf l = false := by rw [hl0]; rfl
      simp only [e4, go_sem, Nat.reduceAdd, Nat.reduceEqDiff, Nat.reduceLT, reduceIte, reduceCtorEq, Nat.reduceBEq, Int.reduceLT, Int.reduceToNat, Int.reducePow, Nat.reduceLeDiff, Int.reduceLE, Nat.reduceMul, Nat.reduceSub]
      refine callGo_pure awake09_pure (by rfl) ?_
      simp only [go_sem, Nat.reduceAdd, Nat.reduceEqDiff, Nat.reduceLT, reduceIte, reduceCtorEq, Nat.reduceBEq, Int.reduceLT, Int.reduceToNat, Int.reducePow, Nat.reduceLeDiff, Int.reduceLE, Nat.reduceMul, Nat.reduceSub]
      simp only [Done, resAV, resL, resOne, look_nil, look_cons, Nat.reduceEqDiff, if_true, if_false, reduceIte, ite_true, ite_false, Nat.zero_ne_one, Nat.one_ne_zero, reduceCtorEq, true_or, or_true, true_and, Option.some.injEq, AV.lit.injEq, Value.int.injEq, Value.bool.injEq]
    · have e2 : ((l.length : Int) == 0) = false := by simp; intro e; simp [e] at hz
      simp only [e2, go_sem, Nat.reduceAdd, Nat.reduceEqDiff, Nat.reduceLT, reduceIte, reduceCtorEq, Nat.reduceBEq, Int.reduceLT, Int.reduceToNat, Int.reducePow, Nat.reduceLeDiff, Int.reduceLE, Nat.reduceMul, Nat.reduceSub]
      refine loop_to l.length (fun i => ⟨[(0, some (.sl 21 (runes l) none)), (2, some (.lit (.bool false))), (3, some (.lit (.int .u8 (ruleOf l)))), (4, some (.rf .map 0)), (5, some (.lit (.int .u8 (lastC (l.take i))))), (33, some (.sl 21 (runes l) none)), (34, some (.lit (.int .i64 (l.length : Int)))), (35, some (.lit (.int .i64 (i : Int))))], [(0, [.ob (.map 0 0 (many (l.take i) []).length) (mc (many (l.take i) []))])], [], 1⟩)
        (fun _ => True) (weak_by [0] (by simp) rfl ?_ ?_ trivial (by simp)) trivial ?_ ?_
      · simp only [go_sem, Nat.reduceAdd, Nat.reduceEqDiff, Nat.reduceLT, reduceIte, reduceCtorEq, Nat.reduceBEq, Int.reduceLT, Int.reduceToNat, Int.reducePow, Nat.reduceLeDiff, Int.reduceLE, Nat.reduceMul, Nat.reduceSub, slotsBy, boxesBy, tipsBy, rawAt, nm, AV.ren, AV.renL, AV.under, AV.underL, List.all_nil, List.all_cons, bne_self_eq_false, List.getD_cons_zero, List.getD_cons_succ, List.length_nil, List.length_cons, and_true, true_and, Int.natCast_zero]
        rfl
      · simp only [go_sem, Nat.reduceAdd, Nat.reduceEqDiff, Nat.reduceLT, reduceIte, reduceCtorEq, Nat.reduceBEq, Int.reduceLT, Int.reduceToNat, Int.reducePow, Nat.reduceLeDiff, Int.reduceLE, Nat.reduceMul, Nat.reduceSub, slotsBy, boxesBy, tipsBy, rawAt, nm, AV.ren, AV.renL, AV.under, AV.underL, List.all_nil, List.all_cons, bne_self_eq_false, List.getD_cons_zero, List.getD_cons_succ, List.length_nil, List.length_cons, and_true, true_and, mc_ren, mc_under]
        rfl
      · intro i hi _
        have hm := many_take hi []
        have hlt := lastC_take hi
        have hcl : (rowAt l[i]).bidi = cls l[i] := rfl
        have hg := getN_many (l.take i) [] (cls l[i])
        have hg2 := List.countP_le_length (p := fun r => cls r == cls l[i]) (l := l.take i)
        have hg3 := List.length_take_le i l
        simp only [getN, Int.zero_add] at hg
        have hw : IntKind.i64.wrap (getN (many (l.take i) []) (cls l[i]) + 1) = getN (many (l.take i) []) (cls l[i]) + 1 := wrap_i64 _ (by omega) (by omega)
        simp only [go_sem, Nat.reduceAdd, Nat.reduceEqDiff, Nat.reduceLT, reduceIte, reduceCtorEq, Nat.reduceBEq, Int.reduceLT, Int.reduceToNat, Int.reducePow, Nat.reduceLeDiff, Int.reduceLE, Nat.reduceMul, Nat.reduceSub, hi, runes_get l i hi]
        refine callGo_pure (of_pure _) (by rfl) ?_
        simp only [go_sem, Nat.reduceAdd, Nat.reduceEqDiff, Nat.reduceLT, reduceIte, reduceCtorEq, Nat.reduceBEq, Int.reduceLT, Int.reduceToNat, Int.reducePow, Nat.reduceLeDiff, Int.reduceLE, Nat.reduceMul, Nat.reduceSub, Row.prop, hcl, mc_lkp, hw, mc_mup]
        by_cases h8 : cls l[i] = 8
        · have e8 : (cls l[i] != 8) = false := by simp [h8]
          rw [if_pos h8] at hlt
          simp only [e8, go_sem, Nat.reduceAdd, Nat.reduceEqDiff, Nat.reduceLT, reduceIte, reduceCtorEq, Nat.reduceBEq, Int.reduceLT, Int.reduceToNat, Int.reducePow, Nat.reduceLeDiff, Int.reduceLE, Nat.reduceMul, Nat.reduceSub]
          simp (disch := omega) only [wrap_i64]
          refine weak_by [0] (by simp) rfl ?_ ?_ trivial (by simp)
          · simp only [go_sem, Nat.reduceAdd, Nat.reduceEqDiff, Nat.reduceLT, reduceIte, reduceCtorEq, Nat.reduceBEq, Int.reduceLT, Int.reduceToNat, Int.reducePow, Nat.reduceLeDiff, Int.reduceLE, Nat.reduceMul, Nat.reduceSub, slotsBy, boxesBy, tipsBy, rawAt, nm, AV.ren, AV.renL, AV.under, AV.underL, List.all_nil, List.all_cons, bne_self_eq_false, List.getD_cons_zero, List.getD_cons_succ, List.length_nil, List.length_cons, and_true, true_and, hlt, Int.natCast_add, Int.natCast_one]
          · simp only [go_sem, Nat.reduceAdd, Nat.reduceEqDiff, Nat.reduceLT, reduceIte, reduceCtorEq, Nat.reduceBEq, Int.reduceLT, Int.reduceToNat, Int.reducePow, Nat.reduceLeDiff, Int.reduceLE, Nat.reduceMul, Nat.reduceSub, slotsBy, boxesBy, tipsBy, rawAt, nm, AV.ren, AV.renL, AV.under, AV.underL, List.all_nil, List.all_cons, bne_self_eq_false, List.getD_cons_zero, List.getD_cons_succ, List.length_nil, List.length_cons, and_true, true_and, hm, mc_ren, mc_under]
        · have e8 : (cls l[i] != 8) = true := by simp [h8]
          rw [if_neg h8] at hlt
          simp only [e8, go_sem, Nat.reduceAdd, Nat.reduceEqDiff, Nat.reduceLT, reduceIte, reduceCtorEq, Nat.reduceBEq, Int.reduceLT, Int.reduceToNat, Int.reducePow, Nat.reduceLeDiff, Int.reduceLE, Nat.reduceMul, Nat.reduceSub]
          simp (disch := omega) only [wrap_i64]
          refine weak_by [0] (by simp) rfl ?_ ?_ trivial (by simp)
          · simp only [go_sem, Nat.reduceAdd, Nat.reduceEqDiff, Nat.reduceLT, reduceIte, reduceCtorEq, Nat.reduceBEq, Int.reduceLT, Int.reduceToNat, Int.reducePow, Nat.reduceLeDiff, Int.reduceLE, Nat.reduceMul, Nat.reduceSub, slotsBy, boxesBy, tipsBy, rawAt, nm, AV.ren, AV.renL, AV.under, AV.underL, List.all_nil, List.all_cons, bne_self_eq_false, List.getD_cons_zero, List.getD_cons_succ, List.length_nil, List.length_cons, and_true, true_and, hlt, Int.natCast_add, Int.natCast_one]
          · simp only [go_sem, Nat.reduceAdd, Nat.reduceEqDiff, Nat.reduceLT, reduceIte, reduceCtorEq, Nat.reduceBEq, Int.reduceLT, Int.reduceToNat, Int.reducePow, Nat.reduceLeDiff, Int.reduceLE, Nat.reduceMul, Nat.reduceSub, slotsBy, boxesBy, tipsBy, rawAt, nm, AV.ren, AV.renL, AV.under, AV.underL, List.all_nil, List.all_cons, bne_self_eq_false, List.getD_cons_zero, List.getD_cons_succ, List.length_nil, List.length_cons, and_true, true_and, hm, mc_ren, mc_under]
      · intro _
        rw [List.take_length]
        have hpos : 0 < l.length := by omega
        have hcl : (rowAt l[0]).bidi = cls l[0] := rfl
        have hN : ∀ c, getN (many l []) c = ((l.countP fun r => cls r == c : Nat) : Int) := fun c => by rw [getN_many]; simp [getN]
        have hNl : ∀ c, (l.countP fun r => cls r == c) ≤ l.length := fun c => List.countP_le_length
        have w12 : IntKind.i64.wrap (getN (many l []) 1 + getN (many l []) 2) = getN (many l []) 1 + getN (many l []) 2 := wrap_i64 _ (by have := hN 1; have := hN 2; omega) (by have := hN 1; have := hN 2; have := hNl 1; have := hNl 2; omega)
        have w126 : IntKind.i64.wrap (getN (many l []) 1 + getN (many l []) 2 + getN (many l []) 6) = getN (many l []) 1 + getN (many l []) 2 + getN (many l []) 6 := wrap_i64 _ (by have := hN 1; have := hN 2; have := hN 6; omega) (by have := hN 1; have := hN 2; have := hNl 1; have := hNl 2; have := hN 6; have := hNl 6; omega)
        simp only [go_sem, Nat.reduceAdd, Nat.reduceEqDiff, Nat.reduceLT, reduceIte, reduceCtorEq, Nat.reduceBEq, Int.reduceLT, Int.reduceToNat, Int.reducePow, Nat.reduceLeDiff, Int.reduceLE, Nat.reduceMul, Nat.reduceSub, runes_get l 0 hpos]
        refine callGo_pure (of_pure _) (by rfl) ?_
        simp only [go_sem, Nat.reduceAdd, Nat.reduceEqDiff, Nat.reduceLT, reduceIte, reduceCtorEq, Nat.reduceBEq, Int.reduceLT, Int.reduceToNat, Int.reducePow, Nat.reduceLeDiff, Int.reduceLE, Nat.reduceMul, Nat.reduceSub, Row.prop, hcl, mc_lkp, w12]
        refine dcallGo_pure (bidi_pure l hl) (by rfl) rfl ?_
        have F1 : bidiOf l = decide (getN (many l []) 1 + getN (many l []) 2 + getN (many l []) 6 > 0) := by
          rw [hN, hN, hN]; exact bidi_many l
        have F2 := first_rule l hpos
        have hbb : (!bidiOf l == bidiOf l) = false := by cases bidiOf l <;> rfl
        simp only [go_sem, Nat.reduceAdd, Nat.reduceEqDiff, Nat.reduceLT, reduceIte, reduceCtorEq, Nat.reduceBEq, Int.reduceLT, Int.reduceToNat, Int.reducePow, Nat.reduceLeDiff, Int.reduceLE, Nat.reduceMul, Nat.reduceSub, mc_lkp, w126, ← F1, hbb]
        cases hx0 : (cls l[0] != 0) <;> cases hx1 : (cls l[0] != 1)
        all_goals
          simp only [hx0, hx1, Bool.false_and, Bool.and_false, Bool.true_and, Bool.and_true] at F2
          simp only [go_sem, Nat.reduceAdd, Nat.reduceEqDiff, Nat.reduceLT, reduceIte, reduceCtorEq, Nat.reduceBEq, Int.reduceLT, Int.reduceToNat, Int.reducePow, Nat.reduceLeDiff, Int.reduceLE, Nat.reduceMul, Nat.reduceSub, hx0, hx1, F2]
          have hbx : ∀ x : Bool, (!x == x) = false := fun x => by cases x <;> rfl
          try simp only [hbx, go_sem, Nat.reduceAdd, Nat.reduceEqDiff, Nat.reduceLT, reduceIte, reduceCtorEq, Nat.reduceBEq, Int.reduceLT, Int.reduceToNat, Int.reducePow, Nat.reduceLeDiff, Int.reduceLE, Nat.reduceMul, Nat.reduceSub]
        all_goals
          refine cGo_split (fun hr => ?_) (fun hr => ?_)
          · have hr0 : ruleOf l ≠ 0 := by simpa using hr
            have hrr := rule_range l
            have d9 : decide (ruleOf l ≥ 9) = true := by simp only [decide_eq_true_eq]; omega
            have d12 : decide (ruleOf l ≤ 12) = true := by simp only [decide_eq_true_eq]; omega
            simp only [d9, d12, go_sem, Nat.reduceAdd, Nat.reduceEqDiff, Nat.reduceLT, reduceIte, reduceCtorEq, Nat.reduceBEq, Int.reduceLT, Int.reduceToNat, Int.reducePow, Nat.reduceLeDiff, Int.reduceLE, Nat.reduceMul, Nat.reduceSub]
            by_cases h12 : ruleOf l = 12
            · have e12 : (ruleOf l != 12) = false := by simp [h12]
              obtain ⟨q0, q3, q6⟩ := rule_12 l hpos h12
              have q3' : decide (getN (many l []) 3 > 0) = true := by rw [hN]; simp only [decide_eq_true_eq]; omega
              have q6' : decide (getN (many l []) 6 > 0) = true := by rw [hN]; simp only [decide_eq_true_eq]; omega
              simp only [e12, q0, go_sem, Nat.reduceAdd, Nat.reduceEqDiff, Nat.reduceLT, reduceIte, reduceCtorEq, Nat.reduceBEq, Int.reduceLT, Int.reduceToNat, Int.reducePow, Nat.reduceLeDiff, Int.reduceLE, Nat.reduceMul, Nat.reduceSub, mc_lkp, q3', q6']
              refine callGo_pure awake09_pure (by rfl) ?_
              simp only [go_sem, Nat.reduceAdd, Nat.reduceEqDiff, Nat.reduceLT, reduceIte, reduceCtorEq, Nat.reduceBEq, Int.reduceLT, Int.reduceToNat, Int.reducePow, Nat.reduceLeDiff, Int.reduceLE, Nat.reduceMul, Nat.reduceSub]
              simp only [Done, resAV, resL, resOne, look_nil, look_cons, Nat.reduceEqDiff, if_true, if_false, reduceIte, ite_true, ite_false, Nat.zero_ne_one, Nat.one_ne_zero, reduceCtorEq, true_or, or_true, true_and, Option.some.injEq, AV.lit.injEq, Value.int.injEq, Value.bool.injEq]
            · have e12 : (ruleOf l != 12) = true := by simp [h12]
              simp only [e12, go_sem, Nat.reduceAdd, Nat.reduceEqDiff, Nat.reduceLT, reduceIte, reduceCtorEq, Nat.reduceBEq, Int.reduceLT, Int.reduceToNat, Int.reducePow, Nat.reduceLeDiff, Int.reduceLE, Nat.reduceMul, Nat.reduceSub]
              refine callGo_pure awake09_pure (by rfl) ?_
              simp only [go_sem, Nat.reduceAdd, Nat.reduceEqDiff, Nat.reduceLT, reduceIte, reduceCtorEq, Nat.reduceBEq, Int.reduceLT, Int.reduceToNat, Int.reducePow, Nat.reduceLeDiff, Int.reduceLE, Nat.reduceMul, Nat.reduceSub]
              simp only [Done, resAV, resL, resOne, look_nil, look_cons, Nat.reduceEqDiff, if_true, if_false, reduceIte, ite_true, ite_false, Nat.zero_ne_one, Nat.one_ne_zero, reduceCtorEq, true_or, or_true, true_and, Option.some.injEq, AV.lit.injEq, Value.int.injEq, Value.bool.injEq]
          · have hr0 : ruleOf l = 0 := by simpa using hr
            simp only [go_sem, Nat.reduceAdd, Nat.reduceEqDiff, Nat.reduceLT, reduceIte, reduceCtorEq, Nat.reduceBEq, Int.reduceLT, Int.reduceToNat, Int.reducePow, Nat.reduceLeDiff, Int.reduceLE, Nat.reduceMul, Nat.reduceSub]
            refine loop_by (fun seen => ⟨[(0, some (.sl 21 (runes l) none)), (2, some (.lit (.bool false))), (4, some (.rf .map 0)), (5, some (.lit (.int .u8 (lastC l)))), (9, some (.lit (.int .u8 (cls l[0])))), (113, some (.rf .iter 1))], [(1, [.ob (.miter seen (many l []).length (many l []).length) [.rf .map 0]]), (0, [.ob (.map 0 0 (many l []).length) (mc (many l []))])], [], 2⟩)
              (fun _ => True) (fun seen => leftN (many l []).length seen) ?_ [] (weak_by [0, 1] (by simp) rfl ?_ ?_ trivial ?_) trivial ?_
            · intro a b hab
              simp at hab
              rw [hab]
            · simp only [go_sem, Nat.reduceAdd, Nat.reduceEqDiff, Nat.reduceLT, reduceIte, reduceCtorEq, Nat.reduceBEq, Int.reduceLT, Int.reduceToNat, Int.reducePow, Nat.reduceLeDiff, Int.reduceLE, Nat.reduceMul, Nat.reduceSub, slotsBy, boxesBy, tipsBy, rawAt, nm, AV.ren, AV.renL, AV.under, AV.underL, List.all_nil, List.all_cons, bne_self_eq_false, List.getD_cons_zero, List.getD_cons_succ, List.length_nil, List.length_cons, and_true, true_and]
            · simp only [go_sem, Nat.reduceAdd, Nat.reduceEqDiff, Nat.reduceLT, reduceIte, reduceCtorEq, Nat.reduceBEq, Int.reduceLT, Int.reduceToNat, Int.reducePow, Nat.reduceLeDiff, Int.reduceLE, Nat.reduceMul, Nat.reduceSub, slotsBy, boxesBy, tipsBy, rawAt, nm, AV.ren, AV.renL, AV.under, AV.underL, List.all_nil, List.all_cons, bne_self_eq_false, List.getD_cons_zero, List.getD_cons_succ, List.length_nil, List.length_cons, and_true, true_and, mc_ren, mc_under]
              rfl
            · refine ⟨by omega, fun i hi => ?_⟩
              omega
            · intro seen _
              simp only [go_sem, Nat.reduceAdd, Nat.reduceEqDiff, Nat.reduceLT, reduceIte, reduceCtorEq, Nat.reduceBEq, Int.reduceLT, Int.reduceToNat, Int.reducePow, Nat.reduceLeDiff, Int.reduceLE, Nat.reduceMul, Nat.reduceSub]
              refine next_map rfl rfl (Nat.le_refl _) (Nat.le_refl _) (fun i key v hi hs hk hv => ?_) (fun hall => ?_)
              · simp only [go_sem, Nat.reduceAdd, Nat.reduceEqDiff, Nat.reduceLT, reduceIte, reduceCtorEq, Nat.reduceBEq, Int.reduceLT, Int.reduceToNat, Int.reducePow, Nat.reduceLeDiff, Int.reduceLE, Nat.reduceMul, Nat.reduceSub]
                have hent : entO [(1, [AV.ob (OK.miter (seen ++ [i]) (many l []).length (many l []).length) [AV.rf RK.map 0]]), (0, [AV.ob (OK.map 0 0 (many l []).length) (mc (many l []))])] (some (AV.ob (OK.miter (seen ++ [i]) (many l []).length (many l []).length) [AV.rf RK.map 0])) = some (.tu [key, v]) := by
                  simp [entO, obAt, hk, hv]
                obtain ⟨p, hp, rfl⟩ := mc_get hk
                obtain ⟨k10, k11, k12, k14⟩ := keys_ok l hr0 p hp
                simp only [hent, k10, k11, k12, k14, go_sem, Nat.reduceAdd, Nat.reduceEqDiff, Nat.reduceLT, reduceIte, reduceCtorEq, Nat.reduceBEq, Int.reduceLT, Int.reduceToNat, Int.reducePow, Nat.reduceLeDiff, Int.reduceLE, Nat.reduceMul, Nat.reduceSub]
                refine ⟨seen ++ [i], weak_by [0, 1] (by simp) rfl ?_ ?_ trivial ?_, leftN_lt hi hs⟩
                · simp only [go_sem, Nat.reduceAdd, Nat.reduceEqDiff, Nat.reduceLT, reduceIte, reduceCtorEq, Nat.reduceBEq, Int.reduceLT, Int.reduceToNat, Int.reducePow, Nat.reduceLeDiff, Int.reduceLE, Nat.reduceMul, Nat.reduceSub, slotsBy, boxesBy, tipsBy, rawAt, nm, AV.ren, AV.renL, AV.under, AV.underL, List.all_nil, List.all_cons, bne_self_eq_false, List.getD_cons_zero, List.getD_cons_succ, List.length_nil, List.length_cons, and_true, true_and]
                · simp only [go_sem, Nat.reduceAdd, Nat.reduceEqDiff, Nat.reduceLT, reduceIte, reduceCtorEq, Nat.reduceBEq, Int.reduceLT, Int.reduceToNat, Int.reducePow, Nat.reduceLeDiff, Int.reduceLE, Nat.reduceMul, Nat.reduceSub, slotsBy, boxesBy, tipsBy, rawAt, nm, AV.ren, AV.renL, AV.under, AV.underL, List.all_nil, List.all_cons, bne_self_eq_false, List.getD_cons_zero, List.getD_cons_succ, List.length_nil, List.length_cons, and_true, true_and, mc_ren, mc_under]
                  rfl
                · refine ⟨by omega, fun i hi => ?_⟩
                  omega
              · simp only [go_sem, Nat.reduceAdd, Nat.reduceEqDiff, Nat.reduceLT, reduceIte, reduceCtorEq, Nat.reduceBEq, Int.reduceLT, Int.reduceToNat, Int.reducePow, Nat.reduceLeDiff, Int.reduceLE, Nat.reduceMul, Nat.reduceSub]
                have z01 : ((0 : Int) == 1) = false := rfl
                have z02 : ((0 : Int) == 2) = false := rfl
                have z30 : ((3 : Int) == 0) = false := rfl
                have z31 : ((3 : Int) == 1) = false := rfl
                have z32 : ((3 : Int) == 2) = false := rfl
                have z33 : ((3 : Int) == 3) = true := rfl
                have z21 : ((2 : Int) == 1) = false := rfl
                have z22 : ((2 : Int) == 2) = true := rfl
                have z11 : ((1 : Int) == 1) = true := rfl
                have z61 : ((6 : Int) == 1) = false := rfl
                have z62 : ((6 : Int) == 2) = false := rfl
                have z63 : ((6 : Int) == 3) = false := rfl
                have z66 : ((6 : Int) == 6) = true := rfl
                have z00 : ((0 : Int) == 0) = true := rfl
                rcases rule_all hpos hr0 with ⟨f0, ff⟩ | ⟨f0, ff, fn⟩
                · have b0 := no_bidi ff
                  rcases last_first ff with hq | hq
                  all_goals
                    simp only [f0, hq, z00, z30, z31, z32, z33, go_sem, Nat.reduceAdd, Nat.reduceEqDiff, Nat.reduceLT, reduceIte, reduceCtorEq, Nat.reduceBEq, Int.reduceLT, Int.reduceToNat, Int.reducePow, Nat.reduceLeDiff, Int.reduceLE, Nat.reduceMul, Nat.reduceSub]
                    refine callGo_pure (bidi_pure l hl) (by rfl) ?_
                    simp only [b0, z00, z30, z31, z32, z33, go_sem, Nat.reduceAdd, Nat.reduceEqDiff, Nat.reduceLT, reduceIte, reduceCtorEq, Nat.reduceBEq, Int.reduceLT, Int.reduceToNat, Int.reducePow, Nat.reduceLeDiff, Int.reduceLE, Nat.reduceMul, Nat.reduceSub]
                    refine callGo_pure awake09_pure (by rfl) ?_
                    simp only [go_sem, Nat.reduceAdd, Nat.reduceEqDiff, Nat.reduceLT, reduceIte, reduceCtorEq, Nat.reduceBEq, Int.reduceLT, Int.reduceToNat, Int.reducePow, Nat.reduceLeDiff, Int.reduceLE, Nat.reduceMul, Nat.reduceSub]
                    simp only [Done, resAV, resL, resOne, look_nil, look_cons, Nat.reduceEqDiff, if_true, if_false, reduceIte, ite_true, ite_false, Nat.zero_ne_one, Nat.one_ne_zero, reduceCtorEq, true_or, or_true, true_and, Option.some.injEq, AV.lit.injEq, Value.int.injEq, Value.bool.injEq]
                · have e0 : (cls l[0] == 0) = false := by simpa using f0
                  have n0 : (getN (many l []) 0 == 0) = true := by rw [hN, no_left ff]; rfl
                  rcases last_right ff with hq | hq | hq | hq
                  all_goals
                    cases hF : (lastC l == cls l[0])
                    all_goals
                      simp only [hq] at hF
                      simp only [hF, hq, e0, z11, z21, z22, z31, z32, z33, z61, z62, z63, z66, go_sem, Nat.reduceAdd, Nat.reduceEqDiff, Nat.reduceLT, reduceIte, reduceCtorEq, Nat.reduceBEq, Int.reduceLT, Int.reduceToNat, Int.reducePow, Nat.reduceLeDiff, Int.reduceLE, Nat.reduceMul, Nat.reduceSub, mc_lkp, n0]
                      by_cases h3 : (l.countP fun r => cls r == 3) = 0
                      · have n3 : (getN (many l []) 3 == 0) = true := by rw [hN, h3]; rfl
                        simp only [n3, z11, z21, z22, z31, z32, z33, z61, z62, z63, z66, go_sem, Nat.reduceAdd, Nat.reduceEqDiff, Nat.reduceLT, reduceIte, reduceCtorEq, Nat.reduceBEq, Int.reduceLT, Int.reduceToNat, Int.reducePow, Nat.reduceLeDiff, Int.reduceLE, Nat.reduceMul, Nat.reduceSub]
                        refine callGo_pure awake09_pure (by rfl) ?_
                        simp only [go_sem, Nat.reduceAdd, Nat.reduceEqDiff, Nat.reduceLT, reduceIte, reduceCtorEq, Nat.reduceBEq, Int.reduceLT, Int.reduceToNat, Int.reducePow, Nat.reduceLeDiff, Int.reduceLE, Nat.reduceMul, Nat.reduceSub]
                        simp only [Done, resAV, resL, resOne, look_nil, look_cons, Nat.reduceEqDiff, if_true, if_false, reduceIte, ite_true, ite_false, Nat.zero_ne_one, Nat.one_ne_zero, reduceCtorEq, true_or, or_true, true_and, Option.some.injEq, AV.lit.injEq, Value.int.injEq, Value.bool.injEq]
                      · have n3 : (getN (many l []) 3 == 0) = false := by rw [hN, beq_eq_false_iff_ne]; omega
                        have h6 : (l.countP fun r => cls r == 6) = 0 := by omega
                        have n6 : (getN (many l []) 6 == 0) = true := by rw [hN, h6]; rfl
                        simp only [n3, n6, mc_lkp, z11, z21, z22, z31, z32, z33, z61, z62, z63, z66, go_sem, Nat.reduceAdd, Nat.reduceEqDiff, Nat.reduceLT, reduceIte, reduceCtorEq, Nat.reduceBEq, Int.reduceLT, Int.reduceToNat, Int.reducePow, Nat.reduceLeDiff, Int.reduceLE, Nat.reduceMul, Nat.reduceSub]
                        refine callGo_pure awake09_pure (by rfl) ?_
                        simp only [go_sem, Nat.reduceAdd, Nat.reduceEqDiff, Nat.reduceLT, reduceIte, reduceCtorEq, Nat.reduceBEq, Int.reduceLT, Int.reduceToNat, Int.reducePow, Nat.reduceLeDiff, Int.reduceLE, Nat.reduceMul, Nat.reduceSub]
                        simp only [Done, resAV, resL, resOne, look_nil, look_cons, Nat.reduceEqDiff, if_true, if_false, reduceIte, ite_true, ite_false, Nat.zero_ne_one, Nat.one_ne_zero, reduceCtorEq, true_or, or_true, true_and, Option.some.injEq, AV.lit.injEq, Value.int.injEq, Value.bool.injEq]

theorem ruleClauses_any (avs : List AV) (h : Args Try.prog Try.f4.params.toList avs) : Pure Try.prog 4 avs [] (.lit (.bool true)) := by
  have hp : Try.f4.params.toList = [22] := by kernel_rfl
  rw [hp] at h
  obtain ⟨av0, rest0, rfl, a0, rfl⟩ := h
  obtain ⟨z0, rfl, w0, s0⟩ := arg_ints (e := 21) (k := .i32) (by kernel_rfl) (by kernel_rfl) a0
  rw [show Try.prog.bytesOf 21 = 4 from by kernel_rfl] at s0
  exact ruleClauses_pure z0 ⟨by omega, fun n hn => by simpa [Lit.wf, IntKind.min, IntKind.max, IntKind.signed, IntKind.bits] using w0 n hn⟩

set_option maxRecDepth 100000 in
theorem ruleClauses_lifted (os : Os) (started : os.Started) (H : Type) (enc : TypeId × Value → H) :
    ReturnsInHanded {} Try.checked os 4 .any (Rows.ruleClausesSpec.pre6 enc Try.prog Try.f4 Rows.ruleClausesRow.domain false) (Rows.ruleClausesSpec.post enc Try.prog Try.f4 false true false false) := by
  refine law_returns (C := Try.checked) (tb := 4) (by kernel_rfl) started (by kernel_rfl) Try.func4
    (ChangeSpec.witness6 (enc := enc) (C := Try.checked) false ⟨#[], #[.slice none 0 0], []⟩ 8 (by kernel_rfl) (by kernel_rfl) (by kernel_rfl) (by kernel_rfl))
    (by kernel_rfl) (by kernel_rfl) rfl rfl (by kernel_rfl) (by kernel_rfl) ?_ ruleClauses_any
  intro ds hds
  have hp : Try.f4.params.toList = [22] := by kernel_rfl
  rw [hp] at hds
  match ds, hds with
  | [d0], _ => exact ⟨rfl, rfl, rfl⟩

theorem ruleClauses_holds : Rows.RuleClausesSaid :=
  OpenClaim.holds_of_wide 4 Try.f4 rfl rfl rfl rfl rfl rfl rfl ⟨rfl, rfl, rfl, rfl, rfl⟩ rfl rfl rfl rfl rfl (by kernel_rfl) Try.func4 (by kernel_rfl)
    (of_decide_eq_true (by kernel_rfl)) (by unfold Func.isWrapper; first | (rw [if_pos (by decide +kernel)]; kernel_rfl) | (rw [if_neg (by decide +kernel)]; exact ⟨rfl, rfl⟩))
    (fun os started H enc _ => ruleClauses_lifted os started H enc)
end Go.Proofs.Ytocaeclhmkojiaa
