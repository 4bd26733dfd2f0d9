/-
What is done with each step: its digits are written, the bias is adapted. Conditions: none.
-/
import Derived.Test.YtmhpjoadfgplgaaPunJ
set_option linter.unusedSimpArgs false
set_option linter.unusedVariables false
set_option linter.unusedSectionVars false
namespace Go.Proofs.Ytmhpjoadfgplgaa
open Go Go.Ab
def as15_0 : ACode :=
  (.seq (.reg [⟨(.some 10), (.mv (.t 37)), .none⟩]) (.reg [⟨(.some 11), (.mv (.t 38)), .none⟩]))
def bd15_0 : ACode :=
  (.block 3 (.seq (.reg [⟨(.some 39), (.mv (.t 10)), .none⟩, ⟨(.some 40), (.ld .none (.t 8)), .none⟩, ⟨(.some 41), (.call (.f 40) [(.t 4), (.t 39), (.t 40)]), .none⟩]) (.reg [⟨(.some 42), (.mv (.t 10)),
  .none⟩, ⟨(.some 43), (.mv (.t 11)), .none⟩, ⟨(.some 44), (.ld .none (.t 9)), .none⟩, ⟨(.some 45), (.call (.f 41) [(.t 42), (.t 43), (.t 44)]), .none⟩, ⟨.none, (.st 1 (.t 8) (.t 45)), .none⟩, ⟨.none,
  (.st 1 (.t 9) (.k (.bool false))), .none⟩])))
theorem was15_0 (F : Nat) (Q : Exit → State → Prop) (s : State) : awp Try.prog F as15_0 Q s = awp Try.prog F ((.seq (.reg [⟨(.some 10), (.mv (.t 37)), .none⟩]) (.reg [⟨(.some 11), (.mv (.t 38)), .none⟩]))) Q s := rfl
attribute [go_sem] was15_0
theorem wbd15_0 (F : Nat) (Q : Exit → State → Prop) (s : State) : awp Try.prog F bd15_0 Q s = awp Try.prog F ((.block 3 (.seq (.reg [⟨(.some 39), (.mv (.t 10)), .none⟩, ⟨(.some 40), (.ld .none (.t 8)), .none⟩, ⟨(.some 41), (.call (.f 40) [(.t 4), (.t 39), (.t 40)]), .none⟩]) (.reg [⟨(.some 42), (.mv (.t 10)),
  .none⟩, ⟨(.some 43), (.mv (.t 11)), .none⟩, ⟨(.some 44), (.ld .none (.t 9)), .none⟩, ⟨(.some 45), (.call (.f 41) [(.t 42), (.t 43), (.t 44)]), .none⟩, ⟨.none, (.st 1 (.t 8) (.t 45)), .none⟩, ⟨.none,
  (.st 1 (.t 9) (.k (.bool false))), .none⟩])))) Q s := rfl
attribute [go_sem] wbd15_0
def a15 : ACode :=
  (.seq (.reg [⟨(.some 2), (.mv (.k (.string ⟨#[]⟩))), .none⟩, ⟨(.some 3), (.mv (.k (.int .i64 0))), .none⟩]) (.seq (.seq (.reg [⟨(.some 12), (.mv (.t 0)), .none⟩, ⟨(.some 13), (.len (.t 12)), .none⟩,
  ⟨(.some 14), (.bin .gtr (.t 13) (.k (.int .i64 2000))), .none⟩]) (.cond (.t 14) (.seq (.reg [⟨(.some 2), (.mv (.k (.string ⟨#[]⟩))), .none⟩, ⟨(.some 3), (.mv (.k (.int .i64 41))), .none⟩]) .ret)
  .skip)) (.seq (.reg [⟨(.some 4), (.xe (.alcT 55 [(.pointer .none), (.slice .none 0 0)]) []), .none⟩]) (.seq (.seq (.reg [⟨(.some 15), (.mv (.t 0)), .none⟩, ⟨(.some 16), (.len (.t 15)), .none⟩, ⟨(.some
  17), (.mv (.k (.int .i64 0))), .none⟩]) (.block 0 (.loop (.seq (.reg [⟨(.some 18), (.bin .lss (.t 17) (.t 16)), .none⟩]) (.seq (.cond (.t 18) .skip (.exit 0)) (.seq (.block 1 (.seq (.reg [⟨(.some 19),
  (.ia 21 (.t 15) (.t 17)), .none⟩, ⟨(.some 20), (.ld .none (.t 19)), .none⟩, ⟨(.some 6), (.mv (.t 20)), .none⟩]) (.seq (.seq (.reg [⟨(.some 21), (.mv (.t 6)), .none⟩, ⟨(.some 22), (.call (.f 36) [(.t
  21)]), .none⟩, ⟨(.some 23), (.not (.t 22)), .none⟩]) (.cond (.t 23) (.seq (.reg [⟨(.some 2), (.mv (.k (.string ⟨#[]⟩))), .none⟩, ⟨(.some 3), (.mv (.k (.int .i64 40))), .none⟩]) .ret) .skip)) (.seq
  (.reg [⟨(.some 24), (.mv (.t 6)), .none⟩, ⟨(.some 25), (.bin .lss (.t 24) (.k (.int .i32 128))), .none⟩]) (.cond (.t 25) (.reg [⟨(.some 26), (.mv (.t 6)), .none⟩, ⟨(.some 27), (.cvI .u8 (.t 26)),
  .none⟩, ⟨(.some 28), (.call (.f 37) [(.t 4), (.t 27)]), .none⟩]) .skip))))) (.reg [⟨(.some 29), (.bin .add (.t 17) (.k (.int .i64 1))), .none⟩, ⟨(.some 17), (.mv (.t 29)), .none⟩]))))))) (.seq (.reg
  [⟨(.some 30), (.call (.f 38) [(.t 4)]), .none⟩, ⟨(.some 7), (.mv (.t 30)), .none⟩]) (.seq (.seq (.reg [⟨(.some 31), (.mv (.t 7)), .none⟩, ⟨(.some 32), (.bin .gtr (.t 31) (.k (.int .i64 0))), .none⟩])
  (.cond (.t 32) (.reg [⟨(.some 33), (.call (.f 37) [(.t 4), (.k (.int .u8 45))]), .none⟩]) .skip)) (.seq (.reg [⟨(.some 8), (.alc 3 [(.int .i64 0)]), .none⟩, ⟨(.some 9), (.alc 4 [(.bool false)]),
  .none⟩, ⟨.none, (.st 1 (.t 8) (.k (.int .i64 72))), .none⟩, ⟨.none, (.st 1 (.t 9) (.k (.bool true))), .none⟩]) (.seq (.seq (.reg [⟨(.some 34), (.mv (.t 0)), .none⟩, ⟨(.some 35), (.mv (.t 7)), .none⟩,
  ⟨(.some 36), (.call (.f 39) [(.t 34), (.t 35)]), .none⟩]) (.block 2 (.rfn (.t 36) 47 [37, 38] as15_0 bd15_0))) (.seq (.reg [⟨(.some 46), (.call (.f 42) [(.t 4)]), .none⟩, ⟨(.some 2), (.mv (.t 46)),
  .none⟩, ⟨(.some 3), (.mv (.k (.int .i64 0))), .none⟩]) .ret)))))))))
theorem c15 : Try.f15.body.bind (cCode Try.prog 47) = some a15 := by kernel_rfl
theorem r15 : Try.f15.results.toList = [(.tmp 2), (.tmp 3)] := by kernel_rfl
theorem n15 : Try.f15.ntmps = 47 := by kernel_rfl
theorem e15 : Enters Try.prog 15 := enters_of Try.func15 (by kernel_rfl) (by kernel_rfl)
def a73 : ACode :=
  (.seq (.reg [⟨(.some 4), (.mv (.k (.int .i32 128))), .none⟩, ⟨(.some 5), (.mv (.k (.int .i64 0))), .none⟩]) (.block 0 (.loop (.seq (.seq (.reg [⟨(.some 11), (.ld .none (.t 1)), .none⟩, ⟨(.some 12),
  (.ld .none (.t 2)), .none⟩, ⟨(.some 13), (.len (.t 12)), .none⟩, ⟨(.some 14), (.bin .lss (.t 11) (.t 13)), .none⟩]) (.cond (.t 14) .skip (.exit 0))) (.block 1 (.seq (.reg [⟨(.some 6), (.mv (.k (.int
  .i32 1114111))), .none⟩]) (.seq (.seq (.reg [⟨(.some 15), (.ld .none (.t 2)), .none⟩, ⟨(.some 16), (.len (.t 15)), .none⟩, ⟨(.some 17), (.mv (.k (.int .i64 0))), .none⟩]) (.block 2 (.loop (.seq (.reg
  [⟨(.some 18), (.bin .lss (.t 17) (.t 16)), .none⟩]) (.seq (.cond (.t 18) .skip (.exit 2)) (.seq (.block 3 (.seq (.reg [⟨(.some 19), (.ia 21 (.t 15) (.t 17)), .none⟩, ⟨(.some 20), (.ld .none (.t 19)),
  .none⟩, ⟨(.some 8), (.mv (.t 20)), .none⟩]) (.seq (.reg [⟨(.some 21), (.mv (.t 8)), .none⟩, ⟨(.some 22), (.mv (.t 4)), .none⟩, ⟨(.some 23), (.bin .geq (.t 21) (.t 22)), .none⟩]) (.cond (.t 23) (.reg
  [⟨(.some 24), (.mv (.t 6)), .none⟩, ⟨(.some 25), (.mv (.t 8)), .none⟩, ⟨(.some 26), (.mn (.t 24) (.t 25)), .none⟩, ⟨(.some 6), (.mv (.t 26)), .none⟩]) .skip)))) (.reg [⟨(.some 27), (.bin .add (.t 17)
  (.k (.int .i64 1))), .none⟩, ⟨(.some 17), (.mv (.t 27)), .none⟩]))))))) (.seq (.reg [⟨(.some 28), (.mv (.t 5)), .none⟩, ⟨(.some 29), (.mv (.t 6)), .none⟩, ⟨(.some 30), (.mv (.t 4)), .none⟩, ⟨(.some
  31), (.bin .sub (.t 29) (.t 30)), .none⟩, ⟨(.some 32), (.cvI .i64 (.t 31)), .none⟩, ⟨(.some 33), (.ld .none (.t 1)), .none⟩, ⟨(.some 34), (.bin .add (.t 33) (.k (.int .i64 1))), .none⟩, ⟨(.some 35),
  (.bin .mul (.t 32) (.t 34)), .none⟩, ⟨(.some 36), (.bin .add (.t 28) (.t 35)), .none⟩, ⟨(.some 5), (.mv (.t 36)), .none⟩]) (.seq (.reg [⟨(.some 37), (.mv (.t 6)), .none⟩, ⟨(.some 4), (.mv (.t 37)),
  .none⟩]) (.seq (.seq (.reg [⟨(.some 38), (.ld .none (.t 2)), .none⟩, ⟨(.some 39), (.len (.t 38)), .none⟩, ⟨(.some 40), (.mv (.k (.int .i64 0))), .none⟩]) (.block 4 (.loop (.seq (.reg [⟨(.some 41),
  (.bin .lss (.t 40) (.t 39)), .none⟩]) (.seq (.cond (.t 41) .skip (.exit 4)) (.seq (.block 5 (.seq (.reg [⟨(.some 42), (.ia 21 (.t 38) (.t 40)), .none⟩, ⟨(.some 43), (.ld .none (.t 42)), .none⟩,
  ⟨(.some 10), (.mv (.t 43)), .none⟩]) (.block 6 (.seq (.reg [⟨(.some 45), (.mv (.t 10)), .none⟩, ⟨(.some 46), (.mv (.t 4)), .none⟩, ⟨(.some 47), (.bin .lss (.t 45) (.t 46)), .none⟩, ⟨(.some 44), (.mv
  (.t 47)), .none⟩]) (.cond (.t 44) (.reg [⟨(.some 48), (.mv (.t 5)), .none⟩, ⟨(.some 49), (.bin .add (.t 48) (.k (.int .i64 1))), .none⟩, ⟨(.some 5), (.mv (.t 49)), .none⟩]) (.seq (.reg [⟨(.some 51),
  (.mv (.t 10)), .none⟩, ⟨(.some 52), (.mv (.t 4)), .none⟩, ⟨(.some 53), (.bin .eql (.t 51) (.t 52)), .none⟩, ⟨(.some 50), (.mv (.t 53)), .none⟩]) (.cond (.t 50) (.seq (.reg [⟨(.some 54), (.ld .none (.t
  1)), .none⟩, ⟨(.some 55), (.bin .add (.t 54) (.k (.int .i64 1))), .none⟩, ⟨.none, (.st 1 (.t 1) (.t 55)), .none⟩]) (.seq (.seq (.reg [⟨(.some 56), (.mv (.t 0)), .none⟩, ⟨(.some 57), (.mv (.t 5)),
  .none⟩, ⟨(.some 58), (.ld .none (.t 1)), .none⟩, ⟨(.some 59), (.call (.t 56) [(.t 57), (.t 58)]), .none⟩, ⟨(.some 60), (.not (.t 59)), .none⟩]) (.cond (.t 60) .ret .skip)) (.reg [⟨(.some 5), (.mv (.k
  (.int .i64 0))), .none⟩]))) .skip))))))) (.reg [⟨(.some 61), (.bin .add (.t 40) (.k (.int .i64 1))), .none⟩, ⟨(.some 40), (.mv (.t 61)), .none⟩]))))))) (.reg [⟨(.some 62), (.mv (.t 4)), .none⟩,
  ⟨(.some 63), (.bin .add (.t 62) (.k (.int .i32 1))), .none⟩, ⟨(.some 64), (.mv (.t 5)), .none⟩, ⟨(.some 65), (.bin .add (.t 64) (.k (.int .i64 1))), .none⟩, ⟨(.some 4), (.mv (.t 63)), .none⟩, ⟨(.some
  5), (.mv (.t 65)), .none⟩])))))))))))
theorem c73 : Try.f73.body.bind (cCode Try.prog 66) = some a73 := by kernel_rfl
theorem r73 : Try.f73.results.toList = [] := by kernel_rfl
theorem n73 : Try.f73.ntmps = 66 := by kernel_rfl
theorem e73 : Enters Try.prog 73 := enters_of Try.func73 (by kernel_rfl) (by kernel_rfl)

theorem YieldOK.forget {P : Program} {id : Nat} {args : List AV} {bx bx1 : List (Nat × List AV)} {tp tp1 : List (Nat × TypeId)} {nx : Nat} {K : AV → List (Nat × List AV) → List (Nat × TypeId) → Nat → Prop} (hb : bx1.Sublist bx) (ht : tp1.Sublist tp) (h : YieldOK P id args bx1 tp1 nx K) : YieldOK P id args bx tp nx K :=
  fun c w vs hm hn hr => h c w vs (hm.forget hb ht) hn hr

/-- A row of code points. -/
def ofN (L : List Nat) : List Int := L.map fun (x : Nat) => (x : Int)
theorem ofN_length (L : List Nat) : (ofN L).length = L.length := by simp [ofN]

theorem unOb2 (x y : AV) : unOb [x, y] = some [x, y] := rfl

/-- The loop over the steps. -/
def enL (n : Nat) : LInfo := ⟨47, [4, 8, 9], [37, 38], as15_0, bd15_0, .ready, none⟩
/-- The boxes where steps are taken. -/
def enB (L : List Nat) (n many b : Nat) (f u : Bool) (q : AV) : List (Nat × List AV) :=
  [(n + 4, [.ob (.loop (enL n)) [.rf (.var 55 2) 0, .bp n 0, .bp (n + 1) 0]]), (n + 3, [.lit (.int .i64 (many : Int))]), (n + 2, [rS (ofN L) none]), (n + 1, [.lit (.bool f)]), (n, [.lit (.int .i64 (b : Int))]), (0, [selfP u 0, q])]

set_option maxRecDepth 10000 in
theorem en_yield (L : List Nat) {n many b d h : Nat} {f u : Bool} {q : AV} {bs : List Nat} {tp : List (Nat × TypeId)} {nx : Nat} {K : AV → List (Nat × List AV) → List (Nat × TypeId) → Nat → Prop} (hn : 0 < n) (hq : bufP q bs tp nx) (hl : bs.length + 20 ≤ 1099511627776)
    (hd : d ≤ 549755813888) (hb : b ≤ 1000) (hh : 1 ≤ h) (hh2 : h ≤ 1000000) (hK : ∀ q' tp' nx', bufP q' (bs ++ stepS d b) tp' nx' → K (.lit (.bool true)) (enB L n many (adp d h f) false true q') tp' nx') :
    YieldOK Try.prog (n + 4) [.lit (.int .i64 (d : Int)), .lit (.int .i64 (h : Int))] (enB L n many b f u q) tp nx K := by
  refine yield_awp (i := enL n) (cells := [.rf (.var 55 2) 0, .bp n 0, .bp (n + 1) 0]) (by simp only [enB, go_sem, Nat.reduceAdd, Nat.reduceEqDiff, Nat.reduceLT, reduceIte, reduceCtorEq, Nat.reduceBEq, Int.reduceLT, Int.reduceToNat, Int.reducePow, Nat.reduceLeDiff, Int.reduceLE, Nat.reduceMul, Nat.reduceSub]) rfl rfl ?_
  have e0 : (n = 0) = False := eq_false (by omega)
  have e1 : (n + 4 = 0) = False := eq_false (by omega)
  have e2 : (n + 3 = 0) = False := eq_false (by omega)
  have e3 : (n + 2 = 0) = False := eq_false (by omega)
  have e4 : (n + 1 = 0) = False := eq_false (by omega)
  have e5 : (n + 4 = n) = False := eq_false (by omega)
  have e6 : (n + 3 = n) = False := eq_false (by omega)
  have e7 : (n + 2 = n) = False := eq_false (by omega)
  have e8 : (n + 1 = n) = False := eq_false (by omega)
  simp only [enL, enB, e5, e6, e7, e8, e0, e1, e2, e3, e4, go_sem, Nat.reduceAdd, Nat.reduceEqDiff, Nat.reduceLT, reduceIte, reduceCtorEq, Nat.reduceBEq, Int.reduceLT, Int.reduceToNat, Int.reducePow, Nat.reduceLeDiff, Int.reduceLE, Nat.reduceMul, Nat.reduceSub]
  refine callGo_ok (put_ok d b (u := u) (q := q) (bs := bs) (by simp only [e1, e2, e3, e4, e0, unOb2, go_sem, Nat.reduceAdd, Nat.reduceEqDiff, Nat.reduceLT, reduceIte, reduceCtorEq, Nat.reduceBEq, Int.reduceLT, Int.reduceToNat, Int.reducePow, Nat.reduceLeDiff, Int.reduceLE, Nat.reduceMul, Nat.reduceSub]) hq hl hd hb fun q2 tp2 nx2 hq2 => ?_)
  simp only [e5, e6, e7, e8, e0, e1, e2, e3, e4, go_sem, Nat.reduceAdd, Nat.reduceEqDiff, Nat.reduceLT, reduceIte, reduceCtorEq, Nat.reduceBEq, Int.reduceLT, Int.reduceToNat, Int.reducePow, Nat.reduceLeDiff, Int.reduceLE, Nat.reduceMul, Nat.reduceSub]
  refine callGo_pure (adp_pure d h f (by omega) hh (by omega)) (by rfl) ?_
  simp only [e5, e6, e7, e8, e0, e1, e2, e3, e4, allOne, AV.one, Value.oneCell', go_sem, Nat.reduceAdd, Nat.reduceEqDiff, Nat.reduceLT, reduceIte, reduceCtorEq, Nat.reduceBEq, Int.reduceLT, Int.reduceToNat, Int.reducePow, Nat.reduceLeDiff, Int.reduceLE, Nat.reduceMul, Nat.reduceSub]
  have hk := hK q2 tp2 nx2 hq2
  simp only [enB, enL] at hk
  exact hk
end Go.Proofs.Ytmhpjoadfgplgaa
