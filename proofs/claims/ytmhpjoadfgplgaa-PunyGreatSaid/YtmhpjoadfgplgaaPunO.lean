/-
One step, read by the program. Conditions: none.
-/
import Derived.Test.YtmhpjoadfgplgaaPunN
import Derived.Lib.Bytealg
set_option linter.unusedSimpArgs false
set_option linter.unusedVariables false
set_option linter.unusedSectionVars false
namespace Go.Proofs.Ytmhpjoadfgplgaa
open Go Go.Ab Go.ChangeShapes Go.WideShapes Go.ChangeAt Go.RowKit

set_option maxHeartbeats 1000000 in
set_option maxRecDepth 100000 in
theorem liteIndexByte (s : ByteArray) (c : Int) (w : World) :
    Calls Try.prog 96 #[.string s, .int .u8 c] w fun e w' => e = .returned (.int .i64 (Lib.indexByte s.data.toList c.toNat.toUInt8)) ∧ w' = w := by
  go_enter Try.func96, Try.ntmps96
  go_wp2
  rw [run_callFunc_extern Try.func102 (by kernel_rfl) (by kernel_rfl) (by kernel_rfl) (e := Extern.BytealgIndexByte.indexByte) (by kernel_rfl), Lib.run_indexByteString]
  simp only [Result.andThen]
  rw [Oper.upon_value]
  go_wp2
  go_ret
  exact ⟨rfl, rfl⟩

/-- From a contract of the library to one of ours. -/
theorem pure_of_calls {g : FuncId} {vs : List Value} {v : Value} (he : Enters Try.prog g) (h : ∀ w, Calls Try.prog g vs.toArray w fun e w' => e = .returned v ∧ w' = w) : Pure Try.prog g (vs.map .lit) [] (.lit v) := by
  refine ⟨he, fun w p vs' hp hr => ?_⟩
  have hvs : ∀ (l : List Value) (l' : List Value), RepL Try.prog (topC w p) w (l.map .lit) l' → l' = l := by
    intro l
    induction l with
    | nil => intro l' h; simpa only [List.map_nil, RepL] using h
    | cons x l ih =>
      intro l' h
      simp only [List.map_cons, RepL, Rep] at h
      obtain ⟨a, b, rfl, rfl, h2⟩ := h
      rw [ih b h2]
  have e : vs' = vs.toArray := by rw [← hvs vs vs'.toList hr, Array.toArray_toList]
  subst e
  refine (h w).mono ?_
  rintro e w' ⟨rfl, rfl⟩
  exact ⟨v, topC w' p, rfl, Ext.refl _ _ _, rfl, ⟨by simp, by simp, by simp [idx], by simp [idx], by simp [idx], by simp [idx], Below.refl _ _, Nat.le_refl _, hp, fun _ _ h _ => h⟩, by simp only [Rep]⟩

theorem ixLite_enters : Enters Try.prog 96 := enters_of Try.func96 (by kernel_rfl) (by kernel_rfl)
theorem ixLite_pure (s : ByteArray) (c : Int) : Pure Try.prog 96 [.lit (.string s), .lit (.int .u8 c)] [] (.lit (.int .i64 (Lib.indexByte s.data.toList c.toNat.toUInt8))) :=
  pure_of_calls (vs := [.string s, .int .u8 c]) ixLite_enters fun w => liteIndexByte s c w

/-- What a sign is worth, as a number. -/
def wthI (c : Nat) : Int := match wth c with
  | some n => (n : Int)
  | none => -1
def signs : ByteArray := ⟨#[97, 98, 99, 100, 101, 102, 103, 104, 105, 106, 107, 108, 109, 110, 111, 112, 113, 114, 115, 116, 117, 118, 119, 120, 121, 122, 48, 49, 50, 51, 52, 53, 54, 55, 56, 57]⟩
theorem signs_ix {c : Nat} (h : c ≤ 255) : Lib.indexByte signs.data.toList c.toUInt8 = wthI c := by
  have : ∀ c : Nat, c < 256 → Lib.indexByte signs.data.toList c.toUInt8 = wthI c := by decide +kernel
  exact this c (by omega)
end Go.Proofs.Ytmhpjoadfgplgaa
namespace Go.Proofs.Ytmhpjoadfgplgaa
open Go Go.Ab
def a77 : ACode :=
  (.seq (.reg [⟨(.some 4), (.mv (.k (.int .i64 0))), .none⟩]) (.seq (.reg [⟨(.some 5), (.mv (.t 0)), .none⟩, ⟨(.some 6), (.mv (.t 1)), .none⟩, ⟨(.some 7), (.call (.f 96) [(.t 5), (.t 6)]), .none⟩,
  ⟨(.some 4), (.mv (.t 7)), .none⟩]) .ret))
theorem c77 : Try.f77.body.bind (cCode Try.prog 8) = some a77 := by kernel_rfl
theorem r77 : Try.f77.results.toList = [(.tmp 4)] := by kernel_rfl
theorem n77 : Try.f77.ntmps = 8 := by kernel_rfl
theorem e77 : Enters Try.prog 77 := enters_of Try.func77 (by kernel_rfl) (by kernel_rfl)
def a48 : ACode :=
  (.seq (.reg [⟨(.some 4), (.mv (.k (.int .i64 0))), .none⟩, ⟨(.some 5), (.mv (.k (.string ⟨#[]⟩))), .none⟩, ⟨(.some 6), (.mv (.k (.bool false))), .none⟩]) (.seq (.reg [⟨(.some 7), (.mv (.k (.int .i64
  0))), .none⟩, ⟨(.some 8), (.mv (.k (.int .i64 1))), .none⟩]) (.seq (.seq (.reg [⟨(.some 9), (.mv (.k (.int .i64 1))), .none⟩]) (.block 0 (.loop (.seq (.seq (.reg [⟨(.some 12), (.mv (.t 0)), .none⟩,
  ⟨(.some 13), (.bin .neq (.t 12) (.k (.string ⟨#[]⟩))), .none⟩]) (.cond (.t 13) .skip (.exit 0))) (.seq (.block 1 (.seq (.reg [⟨(.some 16), (.mv (.t 0)), .none⟩, ⟨(.some 17), (.ixS (.t 16) (.k (.int
  .i64 0))), .none⟩, ⟨(.some 18), (.call (.f 77) [(.k (.string ⟨#[97, 98, 99, 100, 101, 102, 103, 104, 105, 106, 107, 108, 109, 110, 111, 112, 113, 114, 115, 116, 117, 118, 119, 120, 121, 122, 48, 49,
  50, 51, 52, 53, 54, 55, 56, 57]⟩)), (.t 17)]), .none⟩, ⟨(.some 10), (.mv (.t 18)), .none⟩]) (.seq (.seq (.reg [⟨(.some 19), (.mv (.t 10)), .none⟩, ⟨(.some 20), (.bin .lss (.t 19) (.k (.int .i64 0))),
  .none⟩, ⟨(.some 21), (.mv (.t 20)), .none⟩, ⟨(.some 22), (.mv (.t 10)), (.some (21, false))⟩, ⟨(.some 23), (.bin .gtr (.t 22) (.k (.int .i64 0))), (.some (21, false))⟩, ⟨(.some 24), (.mv (.t 23)),
  (.some (21, false))⟩, ⟨(.some 25), (.mv (.t 8)), (.some (24, true))⟩, ⟨(.some 26), (.bin .gtr (.t 25) (.k (.int .i64 11143348224))), (.some (24, true))⟩, ⟨(.some 27), (.pick (.t 24) (.t 26) (.k (.bool
  false))), (.some (21, false))⟩, ⟨(.some 28), (.pick (.t 21) (.k (.bool true)) (.t 27)), .none⟩, ⟨(.some 29), (.mv (.t 28)), .none⟩, ⟨(.some 30), (.mv (.t 7)), (.some (29, false))⟩, ⟨(.some 31), (.mv
  (.t 10)), (.some (29, false))⟩, ⟨(.some 32), (.mv (.t 8)), (.some (29, false))⟩, ⟨(.some 33), (.mn (.t 32) (.k (.int .i64 11143348224))), (.some (29, false))⟩, ⟨(.some 34), (.bin .mul (.t 31) (.t
  33)), (.some (29, false))⟩, ⟨(.some 35), (.bin .add (.t 30) (.t 34)), (.some (29, false))⟩, ⟨(.some 36), (.bin .gtr (.t 35) (.k (.int .i64 11143348224))), (.some (29, false))⟩, ⟨(.some 37), (.pick (.t
  29) (.k (.bool true)) (.t 36)), .none⟩]) (.cond (.t 37) (.seq (.reg [⟨(.some 4), (.mv (.k (.int .i64 0))), .none⟩, ⟨(.some 5), (.mv (.k (.string ⟨#[]⟩))), .none⟩, ⟨(.some 6), (.mv (.k (.bool false))),
  .none⟩]) .ret) .skip)) (.seq (.reg [⟨(.some 38), (.mv (.t 7)), .none⟩, ⟨(.some 39), (.mv (.t 10)), .none⟩, ⟨(.some 40), (.mv (.t 8)), .none⟩, ⟨(.some 41), (.mn (.t 40) (.k (.int .i64 11143348224))),
  .none⟩, ⟨(.some 42), (.bin .mul (.t 39) (.t 41)), .none⟩, ⟨(.some 43), (.bin .add (.t 38) (.t 42)), .none⟩, ⟨(.some 7), (.mv (.t 43)), .none⟩]) (.seq (.reg [⟨(.some 44), (.mv (.t 0)), .none⟩, ⟨(.some
  45), (.slS (.t 44) (.some (.k (.int .i64 1))) .none), .none⟩, ⟨(.some 0), (.mv (.t 45)), .none⟩]) (.seq (.reg [⟨(.some 46), (.mv (.t 9)), .none⟩, ⟨(.some 47), (.mv (.t 1)), .none⟩, ⟨(.some 48), (.call
  (.f 74) [(.t 46), (.t 47)]), .none⟩, ⟨(.some 11), (.mv (.t 48)), .none⟩]) (.seq (.seq (.reg [⟨(.some 49), (.mv (.t 10)), .none⟩, ⟨(.some 50), (.mv (.t 11)), .none⟩, ⟨(.some 51), (.bin .lss (.t 49) (.t
  50)), .none⟩]) (.cond (.t 51) (.seq (.reg [⟨(.some 52), (.mv (.t 7)), .none⟩, ⟨(.some 53), (.mv (.t 0)), .none⟩, ⟨(.some 4), (.mv (.t 52)), .none⟩, ⟨(.some 5), (.mv (.t 53)), .none⟩, ⟨(.some 6), (.mv
  (.k (.bool true))), .none⟩]) .ret) .skip)) (.reg [⟨(.some 54), (.mv (.t 8)), .none⟩, ⟨(.some 55), (.mv (.t 11)), .none⟩, ⟨(.some 56), (.bin .sub (.k (.int .i64 36)) (.t 55)), .none⟩, ⟨(.some 57),
  (.bin .mul (.t 54) (.t 56)), .none⟩, ⟨(.some 58), (.mn (.t 57) (.k (.int .i64 11143348225))), .none⟩, ⟨(.some 8), (.mv (.t 58)), .none⟩])))))))) (.reg [⟨(.some 14), (.mv (.t 9)), .none⟩, ⟨(.some 15),
  (.bin .add (.t 14) (.k (.int .i64 1))), .none⟩, ⟨(.some 9), (.mv (.t 15)), .none⟩])))))) (.seq (.reg [⟨(.some 4), (.mv (.k (.int .i64 0))), .none⟩, ⟨(.some 5), (.mv (.k (.string ⟨#[]⟩))), .none⟩,
  ⟨(.some 6), (.mv (.k (.bool false))), .none⟩]) .ret))))
theorem c48 : Try.f48.body.bind (cCode Try.prog 59) = some a48 := by kernel_rfl
theorem r48 : Try.f48.results.toList = [(.tmp 4), (.tmp 5), (.tmp 6)] := by kernel_rfl
theorem n48 : Try.f48.ntmps = 59 := by kernel_rfl
theorem e48 : Enters Try.prog 48 := enters_of Try.func48 (by kernel_rfl) (by kernel_rfl)

set_option maxRecDepth 10000 in
theorem ixSigns_pure (c : Nat) (h : c ≤ 255) : Pure Try.prog 77 [.lit (.string signs), .lit (.int .u8 (c : Int))] [] (.lit (.int .i64 (wthI c))) := by
  refine pure0 Try.func77 c77 n77 e77 r77 (by simp) (by rfl) ?_
  simp only [a77, astart, argSlots, go_sem, Nat.reduceAdd, Nat.reduceEqDiff, Nat.reduceLT, reduceIte, reduceCtorEq, Nat.reduceBEq, Int.reduceLT, Int.reduceToNat, Int.reducePow, Nat.reduceLeDiff, Int.reduceLE, Nat.reduceMul, Nat.reduceSub]
  refine callGo_pure (ixLite_pure signs (c : Int)) (by rfl) ?_
  simp only [signs_ix h, go_sem, Nat.reduceAdd, Nat.reduceEqDiff, Nat.reduceLT, reduceIte, reduceCtorEq, Nat.reduceBEq, Int.reduceLT, Int.reduceToNat, Int.reducePow, Nat.reduceLeDiff, Int.reduceLE, Nat.reduceMul, Nat.reduceSub]
  simp only [Done, resAV, resL, resOne, look_nil, look_cons, Nat.reduceEqDiff, if_true, if_false, reduceIte, ite_true, ite_false, Nat.zero_ne_one, Nat.one_ne_zero, reduceCtorEq, true_or, or_true, true_and, Option.some.injEq, AV.lit.injEq, Value.int.injEq, Value.bool.injEq]

/-- What the program's step hands back. -/
def stepR : Option (Nat × List Nat) → AV
  | some (d, r) => .tu [.lit (.int .i64 (d : Int)), .lit (.string (txt r)), .lit (.bool true)]
  | none => .tu [.lit (.int .i64 0), .lit (.string ⟨#[]⟩), .lit (.bool false)]
theorem txt_get0 (a : Nat) (t : List Nat) : (txt (a :: t))[0]? = some (UInt8.ofNat a) := txt_get (b := a :: t) (by simp)
theorem txt_tail1 (a : Nat) (t : List Nat) : (txt (a :: t)).extract 1 (t.length + 1) = txt t := by
  have := txt_slice (a :: t) 1 (t.length + 1)
  rw [this, List.take_of_length_le (by simp)]; rfl
theorem txt_ne0 {b : List Nat} : binStr .neq (txt b) ⟨#[]⟩ = some (.bool (!decide (b = []))) := by simp only [binStr, txt_ne]

set_option maxRecDepth 10000 in
theorem step_pure (s : List Nat) (b : Nat) (hs : ∀ n ∈ s, n ≤ 255) (hl : s.length ≤ 1000000) (hb : b ≤ 1000) : Pure Try.prog 48 [.lit (.string (txt s)), .lit (.int .i64 (b : Int))] [] (stepR (rd b 1 0 1 s)) := by
  refine pure0 Try.func48 c48 n48 e48 r48 (by simp) (by cases rd b 1 0 1 s <;> rfl) ?_
  simp only [a48, astart, argSlots, go_sem, Nat.reduceAdd, Nat.reduceEqDiff, Nat.reduceLT, reduceIte, reduceCtorEq, Nat.reduceBEq, Int.reduceLT, Int.reduceToNat, Int.reducePow, Nat.reduceLeDiff, Int.reduceLE, Nat.reduceMul, Nat.reduceSub]
  refine loop_by (α := List Nat × Nat × Nat × Nat × Nat) (fun x => ⟨[(0, some (.lit (.string (txt x.1)))), (1, some (.lit (.int .i64 (b : Int)))), (7, some (.lit (.int .i64 ((x.2.1 : Nat) : Int)))), (8, some (.lit (.int .i64 ((x.2.2.1 : Nat) : Int)))), (9, some (.lit (.int .i64 ((x.2.2.2.1 : Nat) : Int))))], [], [], 0⟩)
    (fun x => (∀ n ∈ x.1, n ≤ 255) ∧ rd b 1 0 1 s = rd b x.2.2.2.1 x.2.1 x.2.2.2.2 x.1 ∧ x.2.2.2.1 + x.1.length ≤ s.length + 1 ∧ x.2.1 ≤ 11143348224 ∧ ((x.2.2.2.2 ≤ 11143348224 ∧ x.2.2.1 = x.2.2.2.2) ∨ (11143348224 < x.2.2.2.2 ∧ x.2.2.1 = 11143348225))) (fun x => s.length + 1 - x.2.2.2.1) (fun x y h => by
      have := congrArg (cnt 9) h
      simp [cnt, Ab.look] at this
      rw [this]) (s, 0, 1, 1, 1) (weak_forget ?_ (List.Sublist.refl _) (List.Sublist.refl _)) ⟨hs, rfl, by simp only; omega, by simp, .inl ⟨by simp, rfl⟩⟩ ?_
  · simp only [go_sem, Nat.reduceAdd, Nat.reduceEqDiff, Nat.reduceLT, reduceIte, reduceCtorEq, Nat.reduceBEq, Int.reduceLT, Int.reduceToNat, Int.reducePow, Nat.reduceLeDiff, Int.reduceLE, Nat.reduceMul, Nat.reduceSub, slotsBy, boxesBy, tipsBy, rawAt, nm, AV.ren, AV.renL, AV.under, AV.underL, List.all_nil, List.all_cons, bne_self_eq_false, List.getD_cons_zero, List.getD_cons_succ, List.length_nil, List.length_cons, and_true, true_and, slotsSub, Int.natCast_zero]
    exact rfl
  · rintro ⟨t, d, wm, k, w⟩ ⟨h1, h2, h3, h4, h5⟩
    simp only at h1 h2 h3 h4 h5
    simp only [txt_ne0, go_sem, Nat.reduceAdd, Nat.reduceEqDiff, Nat.reduceLT, reduceIte, reduceCtorEq, Nat.reduceBEq, Int.reduceLT, Int.reduceToNat, Int.reducePow, Nat.reduceLeDiff, Int.reduceLE, Nat.reduceMul, Nat.reduceSub]
    cases t with
    | nil =>
      have er : stepR (rd b 1 0 1 s) = .tu [.lit (.int .i64 0), .lit (.string ⟨#[]⟩), .lit (.bool false)] := by rw [h2]; rfl
      simp only [er, decide_true, Bool.not_true, go_sem, Nat.reduceAdd, Nat.reduceEqDiff, Nat.reduceLT, reduceIte, reduceCtorEq, Nat.reduceBEq, Int.reduceLT, Int.reduceToNat, Int.reducePow, Nat.reduceLeDiff, Int.reduceLE, Nat.reduceMul, Nat.reduceSub]
      simp only [Done, resAV, resL, resOne, look_nil, look_cons, Nat.reduceEqDiff, if_true, if_false, reduceIte, ite_true, ite_false, Nat.zero_ne_one, Nat.one_ne_zero, reduceCtorEq, true_or, or_true, true_and, Option.some.injEq, AV.lit.injEq, Value.int.injEq, Value.bool.injEq]
    | cons c t =>
      have hc := h1 c (by simp)
      simp only [List.length_cons] at h3
      simp only [decide_false, Bool.not_false, reduceCtorEq, txt_get0, u8_int hc, go_sem, Nat.reduceAdd, Nat.reduceEqDiff, Nat.reduceLT, reduceIte, reduceCtorEq, Nat.reduceBEq, Int.reduceLT, Int.reduceToNat, Int.reducePow, Nat.reduceLeDiff, Int.reduceLE, Nat.reduceMul, Nat.reduceSub]
      refine callGo_pure (ixSigns_pure c hc) (by rfl) ?_
      rw [rd] at h2
      unfold wthI
      cases hw : wth c with
      | none =>
        rw [hw] at h2
        have er : stepR (rd b 1 0 1 s) = .tu [.lit (.int .i64 0), .lit (.string ⟨#[]⟩), .lit (.bool false)] := by rw [h2]; rfl
        have d1 : decide ((-1 : Int) < 0) = true := by decide
        simp only [er, d1, go_sem, Nat.reduceAdd, Nat.reduceEqDiff, Nat.reduceLT, reduceIte, reduceCtorEq, Nat.reduceBEq, Int.reduceLT, Int.reduceToNat, Int.reducePow, Nat.reduceLeDiff, Int.reduceLE, Nat.reduceMul, Nat.reduceSub]
        simp only [Done, resAV, resL, resOne, look_nil, look_cons, Nat.reduceEqDiff, if_true, if_false, reduceIte, ite_true, ite_false, Nat.zero_ne_one, Nat.one_ne_zero, reduceCtorEq, true_or, or_true, true_and, Option.some.injEq, AV.lit.injEq, Value.int.injEq, Value.bool.injEq]
      | some g =>
        rw [hw] at h2
        simp only at h2
        obtain ⟨hg, _⟩ := wth_some hw
        have d1 : decide ((g : Int) < 0) = false := by simp
        by_cases hbad : 0 < g ∧ 11143348224 < w
        · rw [if_pos (.inl hbad)] at h2
          have er : stepR (rd b 1 0 1 s) = .tu [.lit (.int .i64 0), .lit (.string ⟨#[]⟩), .lit (.bool false)] := by rw [h2]; rfl
          have d2 : decide ((g : Int) > 0) = true := by simp; omega
          have d3 : decide ((wm : Int) > 11143348224) = true := by simp; omega
          simp only [er, d1, d2, d3, go_sem, Nat.reduceAdd, Nat.reduceEqDiff, Nat.reduceLT, reduceIte, reduceCtorEq, Nat.reduceBEq, Int.reduceLT, Int.reduceToNat, Int.reducePow, Nat.reduceLeDiff, Int.reduceLE, Nat.reduceMul, Nat.reduceSub]
          simp only [Done, resAV, resL, resOne, look_nil, look_cons, Nat.reduceEqDiff, if_true, if_false, reduceIte, ite_true, ite_false, Nat.zero_ne_one, Nat.one_ne_zero, reduceCtorEq, true_or, or_true, true_and, Option.some.injEq, AV.lit.injEq, Value.int.injEq, Value.bool.injEq]
        · have hgw : g * w ≤ 35 * 11143348224 := by
            rcases Nat.eq_zero_or_pos g with h0 | h0
            · subst h0; omega
            · exact Nat.mul_le_mul (by omega) (by omega)
          have hmw : (g : Int) * (if (11143348224 : Int) < (wm : Int) then 11143348224 else (wm : Int)) = ((g * w : Nat) : Int) := by
            rcases Nat.eq_zero_or_pos g with h0 | h0
            · subst h0; simp
            · rw [if_neg (by omega), Int.natCast_mul]
              congr 1; omega
          have w1 : IntKind.i64.wrap ((g * w : Nat) : Int) = ((g * w : Nat) : Int) := wrapN _ (by omega)
          have w2 : IntKind.i64.wrap ((d : Int) + ((g * w : Nat) : Int)) = ((d + g * w : Nat) : Int) := by rw [← Int.natCast_add]; exact wrapN _ (by omega)
          have wk : IntKind.i64.wrap ((k : Int) + 1) = ((k + 1 : Nat) : Int) := by rw [wrap_i64 _ (by omega) (by omega)]; omega
          have ht1 := thr_pos k b
          have ht2 := thr_le k b
          have hgt : (decide ((g : Int) > 0) = true ∧ decide ((wm : Int) > 11143348224) = false) ∨ decide ((g : Int) > 0) = false := by
            simp only [decide_eq_true_eq, decide_eq_false_iff_not]; omega
          by_cases hf : 11143348224 < d + g * w
          · rw [if_pos (.inr hf)] at h2
            have er : stepR (rd b 1 0 1 s) = .tu [.lit (.int .i64 0), .lit (.string ⟨#[]⟩), .lit (.bool false)] := by rw [h2]; rfl
            have d4 : decide (((d + g * w : Nat) : Int) > 11143348224) = true := by simp; omega
            rcases hgt with ⟨d2, d3⟩ | d2
            all_goals
              try simp only [er, d1, d2, d3, hmw, w1, w2, d4, go_sem, Nat.reduceAdd, Nat.reduceEqDiff, Nat.reduceLT, reduceIte, reduceCtorEq, Nat.reduceBEq, Int.reduceLT, Int.reduceToNat, Int.reducePow, Nat.reduceLeDiff, Int.reduceLE, Nat.reduceMul, Nat.reduceSub]
              try simp only [er, d1, d2, hmw, w1, w2, d4, go_sem, Nat.reduceAdd, Nat.reduceEqDiff, Nat.reduceLT, reduceIte, reduceCtorEq, Nat.reduceBEq, Int.reduceLT, Int.reduceToNat, Int.reducePow, Nat.reduceLeDiff, Int.reduceLE, Nat.reduceMul, Nat.reduceSub]
              simp only [Done, resAV, resL, resOne, look_nil, look_cons, Nat.reduceEqDiff, if_true, if_false, reduceIte, ite_true, ite_false, Nat.zero_ne_one, Nat.one_ne_zero, reduceCtorEq, true_or, or_true, true_and, Option.some.injEq, AV.lit.injEq, Value.int.injEq, Value.bool.injEq]
          · rw [if_neg (by omega)] at h2
            have d4 : decide (((d + g * w : Nat) : Int) > 11143348224) = false := by simp; omega
            by_cases hlt : g < thr k b
            · rw [if_pos hlt] at h2
              have d5 : decide ((g : Int) < (thr k b : Int)) = true := by simp; omega
              have er : stepR (rd b 1 0 1 s) = .tu [.lit (.int .i64 ((d + g * w : Nat) : Int)), .lit (.string (txt t)), .lit (.bool true)] := by rw [h2]; rfl
              rcases hgt with ⟨d2, d3⟩ | d2
              all_goals
                try simp only [er, d1, d2, d3, hmw, w1, w2, d4, txt_size, List.length_cons, Nat.le_refl, if_true, txt_tail1, go_sem, Nat.reduceAdd, Nat.reduceEqDiff, Nat.reduceLT, reduceIte, reduceCtorEq, Nat.reduceBEq, Int.reduceLT, Int.reduceToNat, Int.reducePow, Nat.reduceLeDiff, Int.reduceLE, Nat.reduceMul, Nat.reduceSub]
                try simp only [er, d1, d2, hmw, w1, w2, d4, txt_size, List.length_cons, Nat.le_refl, if_true, txt_tail1, go_sem, Nat.reduceAdd, Nat.reduceEqDiff, Nat.reduceLT, reduceIte, reduceCtorEq, Nat.reduceBEq, Int.reduceLT, Int.reduceToNat, Int.reducePow, Nat.reduceLeDiff, Int.reduceLE, Nat.reduceMul, Nat.reduceSub]
                refine callGo_pure (thr_pure k b (by omega) (by omega)) (by rfl) ?_
                simp only [d5, go_sem, Nat.reduceAdd, Nat.reduceEqDiff, Nat.reduceLT, reduceIte, reduceCtorEq, Nat.reduceBEq, Int.reduceLT, Int.reduceToNat, Int.reducePow, Nat.reduceLeDiff, Int.reduceLE, Nat.reduceMul, Nat.reduceSub]
                simp only [Done, resAV, resL, resOne, look_nil, look_cons, Nat.reduceEqDiff, if_true, if_false, reduceIte, ite_true, ite_false, Nat.zero_ne_one, Nat.one_ne_zero, reduceCtorEq, true_or, or_true, true_and, Option.some.injEq, AV.lit.injEq, Value.int.injEq, Value.bool.injEq]
            · rw [if_neg hlt] at h2
              have d5 : decide ((g : Int) < (thr k b : Int)) = false := by simp; omega
              have wA : IntKind.i64.wrap (36 - (thr k b : Int)) = ((36 - thr k b : Nat) : Int) := by rw [wrap_i64 _ (by omega) (by omega)]; omega
              have hb2 : wm * (36 - thr k b) ≤ 11143348225 * 35 := Nat.mul_le_mul (by omega) (by omega)
              have wB : IntKind.i64.wrap ((wm : Int) * ((36 - thr k b : Nat) : Int)) = ((wm * (36 - thr k b) : Nat) : Int) := by rw [← Int.natCast_mul]; exact wrapN _ (by omega)
              have hmn : (if (11143348225 : Int) < ((wm * (36 - thr k b) : Nat) : Int) then 11143348225 else ((wm * (36 - thr k b) : Nat) : Int)) = ((min (wm * (36 - thr k b)) 11143348225 : Nat) : Int) := by split <;> omega
              rcases hgt with ⟨d2, d3⟩ | d2
              all_goals
                try simp only [d1, d2, d3, hmw, w1, w2, d4, txt_size, List.length_cons, Nat.le_refl, if_true, txt_tail1, go_sem, Nat.reduceAdd, Nat.reduceEqDiff, Nat.reduceLT, reduceIte, reduceCtorEq, Nat.reduceBEq, Int.reduceLT, Int.reduceToNat, Int.reducePow, Nat.reduceLeDiff, Int.reduceLE, Nat.reduceMul, Nat.reduceSub]
                try simp only [d1, d2, hmw, w1, w2, d4, txt_size, List.length_cons, Nat.le_refl, if_true, txt_tail1, go_sem, Nat.reduceAdd, Nat.reduceEqDiff, Nat.reduceLT, reduceIte, reduceCtorEq, Nat.reduceBEq, Int.reduceLT, Int.reduceToNat, Int.reducePow, Nat.reduceLeDiff, Int.reduceLE, Nat.reduceMul, Nat.reduceSub]
                refine callGo_pure (thr_pure k b (by omega) (by omega)) (by rfl) ?_
                simp only [d5, wA, wB, hmn, wk, go_sem, Nat.reduceAdd, Nat.reduceEqDiff, Nat.reduceLT, reduceIte, reduceCtorEq, Nat.reduceBEq, Int.reduceLT, Int.reduceToNat, Int.reducePow, Nat.reduceLeDiff, Int.reduceLE, Nat.reduceMul, Nat.reduceSub]
                refine ⟨(t, d + g * w, min (wm * (36 - thr k b)) 11143348225, k + 1, w * (36 - thr k b)), weak_forget ?_ (List.Sublist.refl _) (List.Sublist.refl _), ⟨fun n hn => h1 n (by simp [hn]), h2, by simp only; omega, by simp only; omega, ?_⟩, by simp only; omega⟩
                · simp only [go_sem, Nat.reduceAdd, Nat.reduceEqDiff, Nat.reduceLT, reduceIte, reduceCtorEq, Nat.reduceBEq, Int.reduceLT, Int.reduceToNat, Int.reducePow, Nat.reduceLeDiff, Int.reduceLE, Nat.reduceMul, Nat.reduceSub, slotsBy, boxesBy, tipsBy, rawAt, nm, AV.ren, AV.renL, AV.under, AV.underL, List.all_nil, List.all_cons, bne_self_eq_false, List.getD_cons_zero, List.getD_cons_succ, List.length_nil, List.length_cons, and_true, true_and, slotsSub]
                · simp only
                  rcases h5 with ⟨k1, rfl⟩ | ⟨k1, rfl⟩
                  · omega
                  · have := Nat.le_mul_of_pos_right w (show 0 < 36 - thr k b by omega)
                    have := Nat.le_mul_of_pos_right 11143348225 (show 0 < 36 - thr k b by omega)
                    omega
end Go.Proofs.Ytmhpjoadfgplgaa
