/-
PunyGreat: who is too long is refused. Conditions: none.
-/
import Derived.Test.YtmhpjoadfgplgaaPwF
import Derived.Shelf.Strings.Repeat
set_option linter.unusedSimpArgs false
set_option linter.unusedVariables false
set_option linter.unusedSectionVars false
namespace Go.Proofs.Ytmhpjoadfgplgaa
open Go Go.Shelf Go.RowKit

def laysRepeat_ren : Go.Shelf.Ren := ⟨fun | 105 => 23 | 212 => 54 | 99 => 22 | 165 => 55 | 166 => 56 | 170 => 38 | 169 => 42 | 263 => 81 | 264 => 82 | 206 => 53 | 240 => 72 | 241 => 83 | 276 => 95 | 277 => 98 | n => n, fun | 9 => 9 | 3 => 3 | 4 => 4 | 20 => 20 | 0 => 0 | 46 => 78 | 109 => 79 | 5 => 5 | 72 => 55 | 76 => 82 | 51 => 113 | 146 => 114 | 53 => 116 | 148 => 117 | 70 => 53 | 37 => 35 | 75 => 58 | 127 => 109 | 164 => 125 | 80 => 66 | n => n, fun | n => n⟩
theorem laysRepeat : Go.Proofs.Lays.n105 Try.prog laysRepeat_ren := {
  mixed := by kernel_rfl
  f99 := Try.func22.trans (congrArg some (by kernel_rfl))
  f105 := Try.func23.trans (congrArg some (by kernel_rfl))
  f165 := Try.func55.trans (congrArg some (by kernel_rfl))
  f166 := Try.func56.trans (congrArg some (by kernel_rfl))
  f169 := Try.func42.trans (congrArg some (by kernel_rfl))
  f170 := Try.func38.trans (congrArg some (by kernel_rfl))
  f206 := Try.func53.trans (congrArg some (by kernel_rfl))
  f212 := Try.func54.trans (congrArg some (by kernel_rfl))
  f240 := Try.func72.trans (congrArg some (by kernel_rfl))
  f241 := Try.func83.trans (congrArg some (by kernel_rfl))
  f263 := Try.func81.trans (congrArg some (by kernel_rfl))
  f264 := Try.func82.trans (congrArg some (by kernel_rfl))
  f276 := Try.func95.trans (congrArg some (by kernel_rfl))
  f277 := Try.func98.trans (congrArg some (by kernel_rfl))
  t0 := Try.underlying0
  a0 := Try.isAgg0
  z0 := Try.sizeOf0
  v0 := Try.zeroValue0
  t3 := Try.underlying3
  a3 := Try.isAgg3
  z3 := Try.sizeOf3
  v3 := Try.zeroValue3
  t4 := Try.underlying4
  a4 := Try.isAgg4
  z4 := Try.sizeOf4
  v4 := Try.zeroValue4
  t5 := Try.underlying5
  a5 := Try.isAgg5
  z5 := Try.sizeOf5
  v5 := Try.zeroValue5
  t9 := Try.underlying9
  a9 := Try.isAgg9
  z9 := Try.sizeOf9
  v9 := Try.zeroValue9
  t20 := Try.underlying20
  a20 := Try.isAgg20
  z20 := Try.sizeOf20
  v20 := Try.zeroValue20
  t37 := Try.underlying35
  a37 := Try.isAgg35
  z37 := Try.sizeOf35
  v37 := Try.zeroValue35
  t46 := Try.underlying78
  a46 := Try.isAgg78
  z46 := Try.sizeOf78
  v46 := Try.zeroValue78
  t51 := Try.underlying113
  a51 := Try.isAgg113
  z51 := Try.sizeOf113
  v51 := Try.zeroValue113
  t53 := Try.underlying116
  a53 := Try.isAgg116
  z53 := Try.sizeOf116
  v53 := Try.zeroValue116
  t70 := Try.underlying53
  a70 := Try.isAgg53
  z70 := Try.sizeOf53
  v70 := Try.zeroValue53
  t72 := Try.underlying55
  a72 := Try.isAgg55
  z72 := Try.sizeOf55
  v72 := Try.zeroValue55
  t75 := Try.underlying58
  a75 := Try.isAgg58
  z75 := Try.sizeOf58
  v75 := Try.zeroValue58
  t76 := Try.underlying82
  a76 := Try.isAgg82
  z76 := Try.sizeOf82
  v76 := Try.zeroValue82
  t109 := Try.underlying79
  a109 := Try.isAgg79
  z109 := Try.sizeOf79
  v109 := Try.zeroValue79
  t127 := Try.underlying109
  a127 := Try.isAgg109
  z127 := Try.sizeOf109
  v127 := Try.zeroValue109
  t146 := Try.underlying114
  a146 := Try.isAgg114
  z146 := Try.sizeOf114
  v146 := Try.zeroValue114
  t148 := Try.underlying117
  a148 := Try.isAgg117
  z148 := Try.sizeOf117
  v148 := Try.zeroValue117
  t164 := Try.underlying125
  a164 := Try.isAgg125
  z164 := Try.sizeOf125
  v164 := Try.zeroValue125 }

theorem extraRepeat : Builder.Extra Try.prog laysRepeat_ren := {
  sizeBuilder := by kernel_rfl
  liesBuilder := by kernel_rfl
  t5 := laysRepeat.t5
  a5 := laysRepeat.a5
  z5 := laysRepeat.z5
  v5 := laysRepeat.v5
  infoByte := by kernel_rfl
  cellsByte := by kernel_rfl
  sizeByte := by kernel_rfl
  neB5 := by decide }
end Go.Proofs.Ytmhpjoadfgplgaa
namespace Go.Proofs.Ytmhpjoadfgplgaa
open Go Go.Ab Go.RowKit
/-- From a contract of the library that leaves what was there. -/
theorem pure_of_below {P : Program} {g : FuncId} {vs : List Value} {v : Value} (he : Enters P g) (h : ∀ w, Calls P g vs.toArray w fun e w' => e = .returned v ∧ Below w.heap.size w w') : Pure P g (vs.map .lit) [] (.lit v) := by
  refine ⟨he, fun w p vs' hp hr => ?_⟩
  have hvs : ∀ (l : List Value) (l' : List Value), RepL P (topC w p) w (l.map .lit) l' → l' = l := by
    intro l
    induction l with
    | nil => intro l' h; simpa only [List.map_nil, RepL] using h
    | cons x l ih =>
      intro l' h
      simp only [List.map_cons, RepL, Rep] at h
      obtain ⟨a, b, rfl, rfl, h2⟩ := h
      rw [ih b h2]
  have e : vs' = vs.toArray := by rw [← hvs vs vs'.toList hr, Array.toArray_toList]
  subst e
  refine (h w).mono ?_
  rintro e w' ⟨rfl, hb⟩
  refine ⟨v, topC w p, rfl, ⟨rfl, rfl, rfl, hb.size, fun _ _ => ⟨rfl, rfl⟩, fun b j hlt hp' => ⟨hp', ?_⟩, fun b hlt => ?_, fun b es n hp' hh => ?_⟩, rfl, ⟨by simp, by simp, by simp [idx], by simp [idx], by simp [idx], by simp [idx], hb, hb.size, fun b j hp' => Nat.lt_of_lt_of_le (hp b j hp') hb.size, fun _ _ h _ => h⟩, by simp only [Rep]⟩
  · simp only [World.cell?, hb.block b hlt]
  · rw [hb.block b hlt]
    exact ⟨fun r hr => ⟨r, hr⟩, fun hr => hr, fun arr t f hr => ⟨arr, f, hr, rfl⟩⟩
  · rw [hb.block b (heap_lt hh)]; exact hh

theorem repeat_one (u : UInt8) : ∀ n : Nat, Lib.repeatL [u] n = List.replicate n u
  | 0 => rfl
  | n + 1 => by rw [List.replicate_succ, ← repeat_one u n]; rfl

theorem repeat_pure (c : Nat) {B : List Nat} (hB : B = List.replicate 10001 c) : Pure Try.prog 23 [.lit (.string ⟨#[UInt8.ofNat c]⟩), .lit (.int .i64 10001)] [] (.lit (.string (txt B))) := by
  refine pure_of_below (vs := [.string ⟨#[UInt8.ofNat c]⟩, .int .i64 10001]) (Go.Ab.enters_of Try.func23 (by kernel_rfl) (by kernel_rfl)) fun w => ?_
  have h := Any.strings_Repeat laysRepeat extraRepeat ⟨#[UInt8.ofNat c]⟩ 10001 w (by omega) (by show 1 * 10001 ≤ _; omega)
  have hf : laysRepeat_ren.f 105 = 23 := by kernel_rfl
  rw [hf] at h
  refine h.mono ?_
  rintro e w' ⟨he, hb⟩
  refine ⟨?_, hb⟩
  rw [he, hB]
  have : (⟨#[UInt8.ofNat c]⟩ : ByteArray).data.toList = [UInt8.ofNat c] := rfl
  rw [this, repeat_one]
  unfold txt
  rw [List.map_replicate]

theorem mk_cells (n : Nat) : ((List.replicate n [Value.int .i32 0]).flatten).map AV.lit = cI (List.replicate n 0) := by
  induction n with
  | zero => rfl
  | succ n ih =>
    rw [List.replicate_succ, List.replicate_succ]
    show AV.lit (.int .i32 0) :: ((List.replicate n [Value.int .i32 0]).flatten).map AV.lit = _
    rw [ih]; rfl
theorem cI_set (X : List Int) (k : Nat) (r : Int) (h : k < X.length) : (cI X).take k ++ [AV.lit (.int .i32 r)] ++ (cI X).drop (k + 1) = cI (X.set k r) := by
  rw [List.set_eq_take_append_cons_drop, if_pos h]
  simp [cI, List.map_take, List.map_drop]
theorem encR_great {l : List Int} (h : 2000 < l.length) : encR l = (⟨#[]⟩, 41) := by unfold encR; rw [if_pos h]
theorem encR_zero {l : List Int} (h : l.length ≤ 2000) (hs : ∀ x ∈ l, isSc x = true) : (encR l).2 = 0 := by
  unfold encR; rw [if_neg (by omega), if_pos (List.all_eq_true.2 hs)]
theorem decR_great {s : List Nat} (h : 10000 < s.length) : decR s = ([], 41) := by unfold decR; rw [if_pos h]
theorem decR_less {s : List Nat} (h : s.length ≤ 10000) : ((decR s).2 != 41) = true := by
  unfold decR; rw [if_neg (by omega)]
  cases decT s <;> rfl

set_option maxRecDepth 10000 in
set_option maxHeartbeats 1000000 in
/-- The first part: the row is laid, and frozen. -/
theorem great_head (r : Int) (c : Nat) {Q : Exit → State → Prop} {F : Nat} (hF : F = 0) (hQ : ∀ (Y : List Int) (sl : List (Nat × Option AV)) (tp : List (Nat × TypeId)) (nx t : Nat), Y.length = 2001 → (∀ x ∈ Y, isSc x = true) → Ab.look sl 5 = some (rS Y (some t)) → Ab.look sl 1 = some (.lit (.int .u8 (c : Int))) →
      awp Try.prog F (cutB 3 a7) Q ⟨sl, [], tp, nx⟩) :
    awp Try.prog F (cutF 3 a7) (xThen (fun s' => ∃ s1, Weak Try.prog F s' s1 ∧ awp Try.prog F (cutB 3 a7) Q s1) Q) (astart [.lit (.int .i32 r), .lit (.int .u8 (c : Int))] [] [] 0) := by
  have hcut : cutF 3 a7 = cutF 3 a7 := rfl
  obtain ⟨X, hX⟩ : ∃ X : List Int, X = List.replicate 2001 0 := ⟨_, rfl⟩
  have hXl : X.length = 2001 := by rw [hX, List.length_replicate]
  have hXs : ∀ x ∈ X, isSc x = true := fun x hx => by rw [hX] at hx; rw [List.eq_of_mem_replicate hx]; rfl
  have hmk : ((List.replicate 2001 [Value.int .i32 0]).flatten).map AV.lit = cI X := by rw [mk_cells, hX]
  have fin : ∀ (Y : List Int) (sl : List (Nat × Option AV)) (tp : List (Nat × TypeId)) (nx : Nat), Y.length = 2001 → (∀ x ∈ Y, isSc x = true) → Ab.look sl 5 = some (.rf (.row 21 1 0 2001) 0) → Ab.look sl 1 = some (.lit (.int .u8 (c : Int))) →
      ∃ s1, Weak Try.prog F ⟨sl, [(0, cI Y)], tp, nx⟩ s1 ∧ awp Try.prog F (cutB 3 a7) Q s1 := fun Y sl tp nx hY hs h5 h1 => by
    refine ⟨_, weak_freeze 5 (els := runes Y) (rest := []) (id := 0) h5 (by rw [runes_flatL]; simp only [boxAt, if_true, cI_unOb]) (by rw [runes_length, hY]) (runes_lenAll _) (runes_oneV _), ?_⟩
    have hd : delBox [(0, cI Y)] 0 = [] := by simp [delBox]
    rw [hd]
    exact hQ Y _ _ _ nx hY hs (by simp only [Ab.look, if_true]) (by simp only [Ab.look, Nat.reduceEqDiff, if_false, h1])
  have c4 : (((4 : Nat) : Int) * 2001 ≤ 281474976710656) = True := by simp
  have hu : unOb (cI X) = some (cI X) := cI_unOb X
  simp only [cutF, a7, astart, argSlots, go_sem, Nat.reduceAdd, Nat.reduceEqDiff, Nat.reduceLT, reduceIte, reduceCtorEq, Nat.reduceBEq, Int.reduceLT, Int.reduceToNat, Int.reducePow, Nat.reduceLeDiff, Int.reduceLE, Nat.reduceMul, Nat.reduceSub]
  simp only [hmk, c4, if_true, go_sem, Nat.reduceAdd, Nat.reduceEqDiff, Nat.reduceLT, reduceIte, reduceCtorEq, Nat.reduceBEq, Int.reduceLT, Int.reduceToNat, Int.reducePow, Nat.reduceLeDiff, Int.reduceLE, Nat.reduceMul, Nat.reduceSub]
  refine callGo_pure (scalars_pure [r] (by simp)) (by rfl) ?_
  have e1 : ((([r].filter isSc).length : Int) == 1) = isSc r := by
    cases hs : isSc r
    · rw [List.filter_cons_of_neg (by simp [hs])]; rfl
    · rw [List.filter_cons_of_pos hs]; rfl
  simp only [runes_length, e1, go_sem, Nat.reduceAdd, Nat.reduceEqDiff, Nat.reduceLT, reduceIte, reduceCtorEq, Nat.reduceBEq, Int.reduceLT, Int.reduceToNat, Int.reducePow, Nat.reduceLeDiff, Int.reduceLE, Nat.reduceMul, Nat.reduceSub]
  refine cGo_split (fun hs => ?_) (fun hs => ?_)
  · have hc8 : (8 ≤ (cI X).length) = True := eq_true (by rw [cI_length]; omega)
    have hset := cI_set X 7 r (by omega)
    simp only [hu, hc8, hset, go_sem, Nat.reduceAdd, Nat.reduceEqDiff, Nat.reduceLT, reduceIte, reduceCtorEq, Nat.reduceBEq, Int.reduceLT, Int.reduceToNat, Int.reducePow, Nat.reduceLeDiff, Int.reduceLE, Nat.reduceMul, Nat.reduceSub]
    refine fin (X.set 7 r) _ _ _ (by rw [List.length_set]; exact hXl) (fun x hx => ?_) (by simp only [go_sem, Nat.reduceAdd, Nat.reduceEqDiff, Nat.reduceLT, reduceIte, reduceCtorEq, Nat.reduceBEq, Int.reduceLT, Int.reduceToNat, Int.reducePow, Nat.reduceLeDiff, Int.reduceLE, Nat.reduceMul, Nat.reduceSub]) (by simp only [go_sem, Nat.reduceAdd, Nat.reduceEqDiff, Nat.reduceLT, reduceIte, reduceCtorEq, Nat.reduceBEq, Int.reduceLT, Int.reduceToNat, Int.reducePow, Nat.reduceLeDiff, Int.reduceLE, Nat.reduceMul, Nat.reduceSub])
    rcases List.mem_or_eq_of_mem_set hx with h | h
    · exact hXs x h
    · rw [h]; exact hs
  · simp only [go_sem, Nat.reduceAdd, Nat.reduceEqDiff, Nat.reduceLT, reduceIte, reduceCtorEq, Nat.reduceBEq, Int.reduceLT, Int.reduceToNat, Int.reducePow, Nat.reduceLeDiff, Int.reduceLE, Nat.reduceMul, Nat.reduceSub]
    exact fin X _ _ _ hXl hXs (by simp only [go_sem, Nat.reduceAdd, Nat.reduceEqDiff, Nat.reduceLT, reduceIte, reduceCtorEq, Nat.reduceBEq, Int.reduceLT, Int.reduceToNat, Int.reducePow, Nat.reduceLeDiff, Int.reduceLE, Nat.reduceMul, Nat.reduceSub]) (by simp only [go_sem, Nat.reduceAdd, Nat.reduceEqDiff, Nat.reduceLT, reduceIte, reduceCtorEq, Nat.reduceBEq, Int.reduceLT, Int.reduceToNat, Int.reducePow, Nat.reduceLeDiff, Int.reduceLE, Nat.reduceMul, Nat.reduceSub])

set_option maxRecDepth 10000 in
set_option maxHeartbeats 1000000 in
theorem great_tail {Y : List Int} {c : Nat} {sl : List (Nat × Option AV)} {tp : List (Nat × TypeId)} {nx t : Nat} (hc : c ≤ 255) (hY : Y.length = 2001) (hs : ∀ x ∈ Y, isSc x = true) (h5 : Ab.look sl 5 = some (rS Y (some t))) (h1 : Ab.look sl 1 = some (.lit (.int .u8 (c : Int)))) :
    awp Try.prog 0 (cutB 3 a7) (Done Try.prog [.tmp 4] (.lit (.bool true))) ⟨sl, [], tp, nx⟩ := by
  obtain ⟨B, hB⟩ : ∃ B, B = List.replicate 10001 c := ⟨_, rfl⟩
  have hBl : B.length = 10001 := by rw [hB, List.length_replicate]
  have hB255 : ∀ n ∈ B, n ≤ 255 := fun n hn => by rw [hB] at hn; rw [List.eq_of_mem_replicate hn]; exact hc
  have hrep := repeat_pure c hB
  clear hB
  have z1 : (2000 ≤ Y.length) = True := eq_true (by omega)
  have z2 : (10000 ≤ B.length) = True := eq_true (by omega)
  have x1 : (txt B).extract 0 10000 = txt (B.take 10000) := by rw [txt_slice, List.drop_zero]
  have hTl : (B.take 10000).length = 10000 := by rw [List.length_take]; omega
  have f1 : ((41 : Int) == 41) = true := rfl
  have f2 : ((0 : Int) == 0) = true := rfl
  simp only [cutB, a7, h5, h1, go_sem, Nat.reduceAdd, Nat.reduceEqDiff, Nat.reduceLT, reduceIte, reduceCtorEq, Nat.reduceBEq, Int.reduceLT, Int.reduceToNat, Int.reducePow, Nat.reduceLeDiff, Int.reduceLE, Nat.reduceMul, Nat.reduceSub]
  refine callGo_pure (Encode_pure Y (by omega)) (by rfl) ?_
  rw [encR_great (by omega)]
  simp only [h5, h1, z1, runes_length, runes_take, if_true, go_sem, Nat.reduceAdd, Nat.reduceEqDiff, Nat.reduceLT, reduceIte, reduceCtorEq, Nat.reduceBEq, Int.reduceLT, Int.reduceToNat, Int.reducePow, Nat.reduceLeDiff, Int.reduceLE, Nat.reduceMul, Nat.reduceSub]
  refine callGo_pure (Encode_pure (Y.take 2000) (by rw [List.length_take]; omega)) (by rfl) ?_
  rw [encR_zero (l := Y.take 2000) (by rw [List.length_take]; omega) (fun x hx => hs x (List.mem_of_mem_take hx))]
  simp only [h5, h1, go_sem, Nat.reduceAdd, Nat.reduceEqDiff, Nat.reduceLT, reduceIte, reduceCtorEq, Nat.reduceBEq, Int.reduceLT, Int.reduceToNat, Int.reducePow, Nat.reduceLeDiff, Int.reduceLE, Nat.reduceMul, Nat.reduceSub]
  refine callGo_pure hrep (by rfl) ?_
  simp only [go_sem, Nat.reduceAdd, Nat.reduceEqDiff, Nat.reduceLT, reduceIte, reduceCtorEq, Nat.reduceBEq, Int.reduceLT, Int.reduceToNat, Int.reducePow, Nat.reduceLeDiff, Int.reduceLE, Nat.reduceMul, Nat.reduceSub]
  refine callGo_pure (Decode_pure B hB255 (by omega)) (by rfl) ?_
  rw [decR_great (by omega)]
  simp only [decA, txt_size, z2, x1, if_true, go_sem, Nat.reduceAdd, Nat.reduceEqDiff, Nat.reduceLT, reduceIte, reduceCtorEq, Nat.reduceBEq, Int.reduceLT, Int.reduceToNat, Int.reducePow, Nat.reduceLeDiff, Int.reduceLE, Nat.reduceMul, Nat.reduceSub]
  refine callGo_pure (Decode_pure (B.take 10000) (fun n hn => hB255 n (List.mem_of_mem_take hn)) (by omega)) (by rfl) ?_
  simp only [decA, f1, f2, decR_less (Nat.le_of_eq hTl), go_sem, Nat.reduceAdd, Nat.reduceEqDiff, Nat.reduceLT, reduceIte, reduceCtorEq, Nat.reduceBEq, Int.reduceLT, Int.reduceToNat, Int.reducePow, Nat.reduceLeDiff, Int.reduceLE, Nat.reduceMul, Nat.reduceSub]
  refine callGo_pure awake04_pure (by rfl) ?_
  simp only [go_sem, Nat.reduceAdd, Nat.reduceEqDiff, Nat.reduceLT, reduceIte, reduceCtorEq, Nat.reduceBEq, Int.reduceLT, Int.reduceToNat, Int.reducePow, Nat.reduceLeDiff, Int.reduceLE, Nat.reduceMul, Nat.reduceSub]
  simp only [Done, resAV, resL, resOne, look_nil, look_cons, Nat.reduceEqDiff, if_true, if_false, reduceIte, ite_true, ite_false, Nat.zero_ne_one, Nat.one_ne_zero, reduceCtorEq, true_or, or_true, true_and, Option.some.injEq, AV.lit.injEq, Value.int.injEq, Value.bool.injEq]

theorem punyGreat_pure (r : Int) (hr : -2147483648 ≤ r ∧ r ≤ 2147483647) (c : Int) (hc : 0 ≤ c ∧ c ≤ 255) : Pure Try.prog 7 [.lit (.int .i32 r), .lit (.int .u8 c)] [] (.lit (.bool true)) := by
  obtain ⟨c, rfl⟩ : ∃ n : Nat, c = n := ⟨c.toNat, by omega⟩
  refine pure0M 2 Try.func7 c7 n7 e7 r7 (by kernel_rfl) (by simp) (by rfl) ?_
  exact great_head r c rfl fun Y sl tp nx t h1 h2 h3 h4 => great_tail (by omega) h1 h2 h3 h4

theorem punyGreat_any (avs : List AV) (h : Args Try.prog Try.f7.params.toList avs) : Pure Try.prog 7 avs [] (.lit (.bool true)) := by
  have hp : Try.f7.params.toList = [21, 5] := by kernel_rfl
  rw [hp] at h
  obtain ⟨av0, rest0, rfl, a0, h0⟩ := h
  obtain ⟨av1, rest1, rfl, a1, rfl⟩ := h0
  obtain ⟨z0, rfl, w0⟩ := arg_int (k := .i32) (by kernel_rfl) a0
  obtain ⟨z1, rfl, w1⟩ := arg_int (k := .u8) (by kernel_rfl) a1
  exact punyGreat_pure z0 (by simpa [Lit.wf, IntKind.min, IntKind.max, IntKind.signed, IntKind.bits] using w0) z1 (by simpa [Lit.wf, IntKind.min, IntKind.max, IntKind.signed, IntKind.bits] using w1)

set_option maxRecDepth 100000 in
theorem punyGreat_lifted (os : Os) (started : os.Started) (H : Type) (enc : TypeId × Value → H) :
    ReturnsInHanded {} Try.checked os 7 .any (Rows.punyGreatSpec.pre6 enc Try.prog Try.f7 Rows.punyGreatRow.domain false) (Rows.punyGreatSpec.post enc Try.prog Try.f7 false true false false) := by
  refine law_returns (C := Try.checked) (tb := 4) (by kernel_rfl) started (by kernel_rfl) Try.func7
    (ChangeSpec.witness6 (enc := enc) (C := Try.checked) false ⟨#[], #[.int .i32 0, .int .u8 0], []⟩ 8 (by kernel_rfl) (by kernel_rfl) (by kernel_rfl) (by kernel_rfl))
    (by kernel_rfl) (by kernel_rfl) rfl rfl (by kernel_rfl) (by kernel_rfl) ?_ punyGreat_any
  intro ds hds
  have hp : Try.f7.params.toList = [21, 5] := by kernel_rfl
  rw [hp] at hds
  match ds, hds with
  | [d0, d1], _ => exact ⟨rfl, rfl, rfl⟩

theorem punyGreat_holds : Rows.PunyGreatSaid :=
  OpenClaim.holds_of_wide 7 Try.f7 rfl rfl rfl rfl rfl rfl rfl ⟨rfl, rfl, rfl, rfl, rfl⟩ rfl rfl rfl rfl rfl (by kernel_rfl) Try.func7 (by kernel_rfl)
    (of_decide_eq_true (by kernel_rfl)) (by unfold Func.isWrapper; first | (rw [if_pos (by decide +kernel)]; kernel_rfl) | (rw [if_neg (by decide +kernel)]; exact ⟨rfl, rfl⟩))
    (fun os started H enc _ => punyGreat_lifted os started H enc)
end Go.Proofs.Ytmhpjoadfgplgaa
