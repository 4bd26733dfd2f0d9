/-
Letters made small; texts that are the same but for letters case. Conditions: none.
-/
import Derived.Test.YteekelelcbfekaaDoorSaMf
import Derived.Shelf.Strings.OnBuilder
import Derived.Shelf.Strings.Fold
set_option linter.unusedSimpArgs false
set_option linter.unusedVariables false
set_option linter.unusedSectionVars false

/-! ## SafM -/

namespace Go.Proofs.YteekelelcbfekaaDoor
open Go Go.Shelf Go.RowKit

def laysToLower_ren : Go.Shelf.Ren := ⟨fun | 159 => 12 | 165 => 27 | 166 => 28 | 167 => 24 | 169 => 26 | 230 => 29 | 204 => 30 | 240 => 40 | 241 => 42 | 197 => 35 | 118 => 43 | 168 => 44 | 270 => 45 | 262 => 46 | 276 => 61 | 277 => 63 | 260 => 56 | 242 => 64 | 313 => 65 | 278 => 76 | 274 => 57 | 275 => 58 | n => n, fun | 9 => 9 | 4 => 4 | 3 => 3 | 5 => 5 | 72 => 49 | 0 => 0 | 76 => 58 | 75 => 52 | 107 => 61 | 70 => 47 | 20 => 20 | 37 => 26 | 127 => 78 | 21 => 21 | 105 => 71 | 164 => 104 | 162 => 101 | 203 => 108 | 119 => 112 | 46 => 55 | 139 => 115 | 138 => 114 | 51 => 116 | 160 => 99 | 208 => 120 | 206 => 118 | 80 => 56 | n => n, fun | 13 => 3 | 3 => 4 | 4 => 5 | n => n⟩
theorem laysToLower : Go.Proofs.Lays.n159 Tryd.prog laysToLower_ren := {
  mixed := by kernel_rfl
  f118 := Tryd.func43.trans (congrArg some (by kernel_rfl))
  f159 := Tryd.func12.trans (congrArg some (by kernel_rfl))
  f165 := Tryd.func27.trans (congrArg some (by kernel_rfl))
  f166 := Tryd.func28.trans (congrArg some (by kernel_rfl))
  f167 := Tryd.func24.trans (congrArg some (by kernel_rfl))
  f168 := Tryd.func44.trans (congrArg some (by kernel_rfl))
  f169 := Tryd.func26.trans (congrArg some (by kernel_rfl))
  f197 := Tryd.func35.trans (congrArg some (by kernel_rfl))
  f204 := Tryd.func30.trans (congrArg some (by kernel_rfl))
  f230 := Tryd.func29.trans (congrArg some (by kernel_rfl))
  f240 := Tryd.func40.trans (congrArg some (by kernel_rfl))
  f241 := Tryd.func42.trans (congrArg some (by kernel_rfl))
  f242 := Tryd.func64.trans (congrArg some (by kernel_rfl))
  f260 := Tryd.func56.trans (congrArg some (by kernel_rfl))
  f262 := Tryd.func46.trans (congrArg some (by kernel_rfl))
  f270 := Tryd.func45.trans (congrArg some (by kernel_rfl))
  f274 := Tryd.func57.trans (congrArg some (by kernel_rfl))
  f275 := Tryd.func58.trans (congrArg some (by kernel_rfl))
  f276 := Tryd.func61.trans (congrArg some (by kernel_rfl))
  f277 := Tryd.func63.trans (congrArg some (by kernel_rfl))
  f278 := Tryd.func76.trans (congrArg some (by kernel_rfl))
  f313 := Tryd.func65.trans (congrArg some (by kernel_rfl))
  t0 := Tryd.underlying0
  a0 := Tryd.isAgg0
  z0 := Tryd.sizeOf0
  v0 := Tryd.zeroValue0
  t3 := Tryd.underlying3
  a3 := Tryd.isAgg3
  z3 := Tryd.sizeOf3
  v3 := Tryd.zeroValue3
  t4 := Tryd.underlying4
  a4 := Tryd.isAgg4
  z4 := Tryd.sizeOf4
  v4 := Tryd.zeroValue4
  t5 := Tryd.underlying5
  a5 := Tryd.isAgg5
  z5 := Tryd.sizeOf5
  v5 := Tryd.zeroValue5
  t9 := Tryd.underlying9
  a9 := Tryd.isAgg9
  z9 := Tryd.sizeOf9
  v9 := Tryd.zeroValue9
  t20 := Tryd.underlying20
  a20 := Tryd.isAgg20
  z20 := Tryd.sizeOf20
  v20 := Tryd.zeroValue20
  t21 := Tryd.underlying21
  a21 := Tryd.isAgg21
  z21 := Tryd.sizeOf21
  v21 := Tryd.zeroValue21
  t37 := Tryd.underlying26
  a37 := Tryd.isAgg26
  z37 := Tryd.sizeOf26
  v37 := Tryd.zeroValue26
  t46 := Tryd.underlying55
  a46 := Tryd.isAgg55
  z46 := Tryd.sizeOf55
  v46 := Tryd.zeroValue55
  t51 := Tryd.underlying116
  a51 := Tryd.isAgg116
  z51 := Tryd.sizeOf116
  v51 := Tryd.zeroValue116
  t70 := Tryd.underlying47
  a70 := Tryd.isAgg47
  z70 := Tryd.sizeOf47
  v70 := Tryd.zeroValue47
  t72 := Tryd.underlying49
  a72 := Tryd.isAgg49
  z72 := Tryd.sizeOf49
  v72 := Tryd.zeroValue49
  t75 := Tryd.underlying52
  a75 := Tryd.isAgg52
  z75 := Tryd.sizeOf52
  v75 := Tryd.zeroValue52
  t76 := Tryd.underlying58
  a76 := Tryd.isAgg58
  z76 := Tryd.sizeOf58
  v76 := Tryd.zeroValue58
  t105 := Tryd.underlying71
  a105 := Tryd.isAgg71
  z105 := Tryd.sizeOf71
  v105 := Tryd.zeroValue71
  t107 := Tryd.underlying61
  a107 := Tryd.isAgg61
  z107 := Tryd.sizeOf61
  v107 := Tryd.zeroValue61
  t119 := Tryd.underlying112
  a119 := Tryd.isAgg112
  z119 := Tryd.sizeOf112
  t127 := Tryd.underlying78
  a127 := Tryd.isAgg78
  z127 := Tryd.sizeOf78
  v127 := Tryd.zeroValue78
  t138 := Tryd.underlying114
  a138 := Tryd.isAgg114
  z138 := Tryd.sizeOf114
  v138 := Tryd.zeroValue114
  t139 := Tryd.underlying115
  a139 := Tryd.isAgg115
  z139 := Tryd.sizeOf115
  v139 := Tryd.zeroValue115
  t160 := Tryd.underlying99
  a160 := Tryd.isAgg99
  z160 := Tryd.sizeOf99
  v160 := Tryd.zeroValue99
  t162 := Tryd.underlying101
  a162 := Tryd.isAgg101
  z162 := Tryd.sizeOf101
  v162 := Tryd.zeroValue101
  t164 := Tryd.underlying104
  a164 := Tryd.isAgg104
  z164 := Tryd.sizeOf104
  v164 := Tryd.zeroValue104
  t203 := Tryd.underlying108
  a203 := Tryd.isAgg108
  z203 := Tryd.sizeOf108
  v203 := Tryd.zeroValue108
  t206 := Tryd.underlying118
  a206 := Tryd.isAgg118
  z206 := Tryd.sizeOf118
  v206 := Tryd.zeroValue118
  t208 := Tryd.underlying120
  a208 := Tryd.isAgg120
  z208 := Tryd.sizeOf120
  v208 := Tryd.zeroValue120
  g3 := by kernel_rfl
  g4 := by kernel_rfl
  g13 := by kernel_rfl }

theorem extraLower : Builder.Extra Tryd.prog laysToLower_ren := {
  sizeBuilder := by kernel_rfl
  liesBuilder := by kernel_rfl
  t5 := laysToLower.t5
  a5 := laysToLower.a5
  z5 := laysToLower.z5
  v5 := laysToLower.v5
  infoByte := by kernel_rfl
  cellsByte := by kernel_rfl
  sizeByte := by kernel_rfl
  neB5 := by decide }

def laysEqualFold_ren : Go.Shelf.Ren := ⟨fun | 164 => 18 | 197 => 35 | 239 => 36 | 260 => 56 | 274 => 57 | 275 => 58 | n => n, fun | 9 => 9 | 4 => 4 | 3 => 3 | 5 => 5 | 0 => 0 | 21 => 21 | 105 => 71 | 156 => 95 | 49 => 94 | 157 => 96 | 46 => 55 | 159 => 98 | 162 => 101 | 160 => 99 | 119 => 112 | 139 => 115 | 138 => 114 | 208 => 120 | 51 => 116 | 206 => 118 | n => n, fun | 11 => 1 | 12 => 2 | 13 => 3 | 3 => 4 | 4 => 5 | n => n⟩
theorem laysEqualFold : Go.Proofs.Lays.n164 Tryd.prog laysEqualFold_ren := {
  mixed := by kernel_rfl
  f164 := Tryd.func18.trans (congrArg some (by kernel_rfl))
  f197 := Tryd.func35.trans (congrArg some (by kernel_rfl))
  f239 := Tryd.func36.trans (congrArg some (by kernel_rfl))
  f260 := Tryd.func56.trans (congrArg some (by kernel_rfl))
  f274 := Tryd.func57.trans (congrArg some (by kernel_rfl))
  f275 := Tryd.func58.trans (congrArg some (by kernel_rfl))
  t0 := Tryd.underlying0
  a0 := Tryd.isAgg0
  z0 := Tryd.sizeOf0
  v0 := Tryd.zeroValue0
  t3 := Tryd.underlying3
  a3 := Tryd.isAgg3
  z3 := Tryd.sizeOf3
  v3 := Tryd.zeroValue3
  t4 := Tryd.underlying4
  a4 := Tryd.isAgg4
  z4 := Tryd.sizeOf4
  v4 := Tryd.zeroValue4
  t5 := Tryd.underlying5
  a5 := Tryd.isAgg5
  z5 := Tryd.sizeOf5
  v5 := Tryd.zeroValue5
  t9 := Tryd.underlying9
  a9 := Tryd.isAgg9
  z9 := Tryd.sizeOf9
  v9 := Tryd.zeroValue9
  t21 := Tryd.underlying21
  a21 := Tryd.isAgg21
  z21 := Tryd.sizeOf21
  v21 := Tryd.zeroValue21
  t46 := Tryd.underlying55
  a46 := Tryd.isAgg55
  z46 := Tryd.sizeOf55
  v46 := Tryd.zeroValue55
  t49 := Tryd.underlying94
  a49 := Tryd.isAgg94
  z49 := Tryd.sizeOf94
  v49 := Tryd.zeroValue94
  t51 := Tryd.underlying116
  a51 := Tryd.isAgg116
  z51 := Tryd.sizeOf116
  v51 := Tryd.zeroValue116
  t105 := Tryd.underlying71
  a105 := Tryd.isAgg71
  z105 := Tryd.sizeOf71
  v105 := Tryd.zeroValue71
  t119 := Tryd.underlying112
  a119 := Tryd.isAgg112
  z119 := Tryd.sizeOf112
  t138 := Tryd.underlying114
  a138 := Tryd.isAgg114
  z138 := Tryd.sizeOf114
  v138 := Tryd.zeroValue114
  t139 := Tryd.underlying115
  a139 := Tryd.isAgg115
  z139 := Tryd.sizeOf115
  v139 := Tryd.zeroValue115
  t156 := Tryd.underlying95
  a156 := Tryd.isAgg95
  z156 := Tryd.sizeOf95
  t157 := Tryd.underlying96
  a157 := Tryd.isAgg96
  z157 := Tryd.sizeOf96
  v157 := Tryd.zeroValue96
  t159 := Tryd.underlying98
  a159 := Tryd.isAgg98
  z159 := Tryd.sizeOf98
  v159 := Tryd.zeroValue98
  t160 := Tryd.underlying99
  a160 := Tryd.isAgg99
  z160 := Tryd.sizeOf99
  v160 := Tryd.zeroValue99
  t162 := Tryd.underlying101
  a162 := Tryd.isAgg101
  z162 := Tryd.sizeOf101
  v162 := Tryd.zeroValue101
  t206 := Tryd.underlying118
  a206 := Tryd.isAgg118
  z206 := Tryd.sizeOf118
  v206 := Tryd.zeroValue118
  t208 := Tryd.underlying120
  a208 := Tryd.isAgg120
  z208 := Tryd.sizeOf120
  v208 := Tryd.zeroValue120
  g3 := by kernel_rfl
  g4 := by kernel_rfl
  g11 := by kernel_rfl
  g12 := by kernel_rfl
  g13 := by kernel_rfl }
end Go.Proofs.YteekelelcbfekaaDoor
namespace Go.Proofs.YteekelelcbfekaaDoor
open Go Go.Ab Go.RowKit

/-- From a contract of the library that leaves what was there. -/
theorem pure_of_below {P : Program} {g : FuncId} {vs : List Value} {v : Value} (he : Enters P g) (h : ∀ w, Calls P g vs.toArray w fun e w' => e = .returned v ∧ Below w.heap.size w w') : Pure P g (vs.map .lit) [] (.lit v) := by
  refine ⟨he, fun w p vs' hp hr => ?_⟩
  have hvs : ∀ (l : List Value) (l' : List Value), RepL P (topC w p) w (l.map .lit) l' → l' = l := by
    intro l
    induction l with
    | nil => intro l' h; simpa only [List.map_nil, RepL] using h
    | cons x l ih =>
      intro l' h
      simp only [List.map_cons, RepL, Rep] at h
      obtain ⟨a, b, rfl, rfl, h2⟩ := h
      rw [ih b h2]
  have e : vs' = vs.toArray := by rw [← hvs vs vs'.toList hr, Array.toArray_toList]
  subst e
  refine (h w).mono ?_
  rintro e w' ⟨rfl, hb⟩
  refine ⟨v, topC w p, rfl, ⟨rfl, rfl, rfl, hb.size, fun _ _ => ⟨rfl, rfl⟩, fun b j hlt hp' => ⟨hp', ?_⟩, fun b hlt => ?_, fun b es n hp' hh => ?_⟩, rfl, ⟨by simp, by simp, by simp [idx], by simp [idx], by simp [idx], by simp [idx], hb, hb.size, fun b j hp' => Nat.lt_of_lt_of_le (hp b j hp') hb.size, fun _ _ h _ => h⟩, by simp only [Rep]⟩
  · simp only [World.cell?, hb.block b hlt]
  · rw [hb.block b hlt]
    exact ⟨fun r hr => ⟨r, hr⟩, fun hr => hr, fun arr t f hr => ⟨arr, f, hr, rfl⟩⟩
  · rw [hb.block b (heap_lt hh)]; exact hh


theorem txt_data (b : List Nat) : (txt b).data.toList = b.map fun n => UInt8.ofNat n := by unfold txt; simp
theorem low_one {n : Nat} (h : n ≤ 127) : Lib.lowerB (UInt8.ofNat n) = UInt8.ofNat (lowN n) := by
  have : ∀ n < 128, Lib.lowerB (UInt8.ofNat n) = UInt8.ofNat (lowN n) := by decide +kernel
  exact this n (by omega)
theorem fold_one {x y : Nat} (hx : x ≤ 127) (hy : y ≤ 127) (h : lowN x = lowN y) : Lib.foldEq (UInt8.ofNat x) (UInt8.ofNat y) = true := by
  have e : ∀ n, n ≤ 127 → (UInt8.ofNat n).toNat = n := fun n hn => by simp; omega
  unfold Lib.foldEq
  rw [e x hx, e y hy]
  unfold lowN at h
  rw [decide_eq_true_eq]
  (repeat' split at h) <;> omega
theorem fold_all : ∀ {a b : List Nat}, (∀ n ∈ a, n ≤ 127) → (∀ n ∈ b, n ≤ 127) → a.map lowN = b.map lowN → Lib.equalFold (a.map fun n => UInt8.ofNat n) (b.map fun n => UInt8.ofNat n) = true
  | [], [], _, _, _ => rfl
  | [], y :: b, _, _, h => by simp at h
  | x :: a, [], _, _, h => by simp at h
  | x :: a, y :: b, ha, hb, h => by
    simp only [List.map_cons, List.cons.injEq] at h
    rw [List.map_cons, List.map_cons, Lib.equalFold_yes _ _ _ _ (fold_one (ha x (by simp)) (hb y (by simp)) h.1)]
    exact fold_all (fun n hn => ha n (by simp [hn])) (fun n hn => hb n (by simp [hn])) h.2
theorem ascii_data {b : List Nat} (hb : ∀ n ∈ b, n ≤ 127) : ∀ (j : Nat) (u : UInt8), (txt b).data.toList[j]? = some u → u.toNat < 128 := fun j u h => by
  rw [txt_data, List.getElem?_map] at h
  cases hj : b[j]? with
  | none => rw [hj] at h; cases h
  | some n =>
    rw [hj] at h
    simp only [Option.map_some, Option.some.injEq] at h
    subst h
    have := hb n (List.mem_of_getElem? hj)
    simp; omega

theorem toLower_pure (b : List Nat) (hb : ∀ n ∈ b, n ≤ 127) (hl : b.length ≤ 140737488355328) : Pure Tryd.prog 12 [.lit (.string (txt b))] [] (.lit (.string (txt (b.map lowN)))) := by
  refine pure_of_below (vs := [.string (txt b)]) (Go.Ab.enters_of Tryd.func12 (by kernel_rfl) (by kernel_rfl)) fun w => ?_
  have h := Any.strings_ToLower_ascii laysToLower extraLower (txt b) w (by rw [txt_size]; exact hl) (ascii_data hb)
  have hf : laysToLower_ren.f 159 = 12 := by kernel_rfl
  rw [hf] at h
  refine h.mono ?_
  rintro e w' ⟨he, hw⟩
  refine ⟨?_, hw⟩
  rw [he, txt_data]
  unfold Lib.toLowerA
  rw [List.map_map]
  have : (b.map ((Lib.lowerB) ∘ fun n => UInt8.ofNat n)) = (b.map lowN).map fun n => UInt8.ofNat n := by
    rw [List.map_map]
    exact List.map_congr_left fun n hn => low_one (hb n hn)
  rw [this]
  rfl
theorem equalFold_pure {a b : List Nat} (ha : ∀ n ∈ a, n ≤ 127) (hb : ∀ n ∈ b, n ≤ 127) (hl : a.length ≤ 1000000) (h : a.map lowN = b.map lowN) : Pure Tryd.prog 18 [.lit (.string (txt a)), .lit (.string (txt b))] [] (.lit (.bool true)) := by
  refine pure_of_calls (vs := [.string (txt a), .string (txt b)]) (Go.Ab.enters_of Tryd.func18 (by kernel_rfl) (by kernel_rfl)) fun w => ?_
  have k := Any.strings_EqualFold laysEqualFold (txt a) (txt b) w (by rw [txt_size]; omega) (ascii_data ha) (ascii_data hb)
  have hf : laysEqualFold_ren.f 164 = 18 := by kernel_rfl
  rw [hf, txt_data, txt_data, fold_all ha hb h] at k
  exact k
end Go.Proofs.YteekelelcbfekaaDoor
