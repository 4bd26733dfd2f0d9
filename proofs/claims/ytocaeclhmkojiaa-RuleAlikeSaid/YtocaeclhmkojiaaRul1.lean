/-
The rule of bidi, as the program tells it. Conditions: none.
-/
import Derived.Test.YtocaeclhmkojiaaMix6
set_option linter.unusedSimpArgs false
set_option linter.unusedVariables false
set_option linter.unusedSectionVars false
namespace Go.Proofs.Ytocaeclhmkojiaa
open Go Go.Ab
def a45 : ACode :=
  (.seq (.reg [⟨(.some 2), (.mv (.k (.int .u32 0))), .none⟩]) (.seq (.reg [⟨(.some 3), (.mv (.k (.int .u32 0))), .none⟩]) (.seq (.seq (.reg [⟨(.some 6), (.mv (.t 0)), .none⟩, ⟨(.some 7), (.len (.t 6)),
  .none⟩, ⟨(.some 8), (.mv (.k (.int .i64 0))), .none⟩]) (.block 0 (.loop (.seq (.reg [⟨(.some 9), (.bin .lss (.t 8) (.t 7)), .none⟩]) (.seq (.cond (.t 9) .skip (.exit 0)) (.seq (.block 1 (.seq (.reg
  [⟨(.some 10), (.ia 5 (.t 6) (.t 8)), .none⟩, ⟨(.some 11), (.ld .none (.t 10)), .none⟩, ⟨(.some 5), (.mv (.t 11)), .none⟩]) (.reg [⟨(.some 12), (.mv (.t 3)), .none⟩, ⟨(.some 13), (.mv (.t 5)), .none⟩,
  ⟨(.some 14), (.bin .shl (.k (.int .u32 1)) (.t 13)), .none⟩, ⟨(.some 15), (.bin .or (.t 12) (.t 14)), .none⟩, ⟨(.some 3), (.mv (.t 15)), .none⟩]))) (.reg [⟨(.some 16), (.bin .add (.t 8) (.k (.int .i64
  1))), .none⟩, ⟨(.some 8), (.mv (.t 16)), .none⟩]))))))) (.seq (.reg [⟨(.some 17), (.mv (.t 3)), .none⟩, ⟨(.some 2), (.mv (.t 17)), .none⟩]) .ret))))
theorem c45 : Try.f45.body.bind (cCode Try.prog 18) = some a45 := by kernel_rfl
theorem r45 : Try.f45.results.toList = [(.tmp 2)] := by kernel_rfl
theorem n45 : Try.f45.ntmps = 18 := by kernel_rfl
theorem e45 : Enters Try.prog 45 := enters_of Try.func45 (by kernel_rfl) (by kernel_rfl)
def a46 : ACode :=
  (.seq (.reg [⟨(.some 4), (.mv (.k (.bool false))), .none⟩]) (.seq (.reg [⟨(.some 5), (.mv (.t 0)), .none⟩, ⟨(.some 6), (.mv (.t 1)), .none⟩, ⟨(.some 7), (.call (.f 22) [(.t 6)]), .none⟩, ⟨(.some 8),
  (.fld 1 .none (.t 7)), .none⟩, ⟨(.some 9), (.bin .shr (.t 5) (.t 8)), .none⟩, ⟨(.some 10), (.bin .and (.t 9) (.k (.int .u32 1))), .none⟩, ⟨(.some 11), (.bin .eql (.t 10) (.k (.int .u32 1))), .none⟩,
  ⟨(.some 4), (.mv (.t 11)), .none⟩]) .ret))
theorem c46 : Try.f46.body.bind (cCode Try.prog 12) = some a46 := by kernel_rfl
theorem r46 : Try.f46.results.toList = [(.tmp 4)] := by kernel_rfl
theorem n46 : Try.f46.ntmps = 12 := by kernel_rfl
theorem e46 : Enters Try.prog 46 := enters_of Try.func46 (by kernel_rfl) (by kernel_rfl)
def a49 : ACode :=
  (.seq (.reg [⟨(.some 4), (.mv (.k (.bool false))), .none⟩]) (.seq (.reg [⟨(.some 5), (.mv (.t 0)), .none⟩, ⟨(.some 6), (.mv (.t 1)), .none⟩, ⟨(.some 7), (.call (.f 46) [(.t 5), (.t 6)]), .none⟩,
  ⟨(.some 8), (.not (.t 7)), .none⟩, ⟨(.some 4), (.mv (.t 8)), .none⟩]) .ret))
theorem c49 : Try.f49.body.bind (cCode Try.prog 9) = some a49 := by kernel_rfl
theorem r49 : Try.f49.results.toList = [(.tmp 4)] := by kernel_rfl
theorem n49 : Try.f49.ntmps = 9 := by kernel_rfl
theorem e49 : Enters Try.prog 49 := enters_of Try.func49 (by kernel_rfl) (by kernel_rfl)
def a48 : ACode :=
  (.seq (.reg [⟨(.some 0), (.mv (.k (.int .u32 0))), .none⟩, ⟨(.some 1), (.alc 57 [(.int .u32 0), (.int .u32 0)]), .none⟩, ⟨(.some 2), (.mv (.k (.int .u32 0))), .none⟩, ⟨(.some 3), (.alc 57 [(.int .u32
  0), (.int .u32 0)]), .none⟩]) (.seq (.reg [⟨(.some 8), (.bs 5 1 [(.k (.int .u8 3)), (.k (.int .u8 4)), (.k (.int .u8 7)), (.k (.int .u8 5)), (.k (.int .u8 13)), (.k (.int .u8 9)), (.k (.int .u8 8))]),
  .none⟩, ⟨(.some 9), (.call (.f 45) [(.t 8)]), .none⟩, ⟨(.some 4), (.mv (.t 9)), .none⟩]) (.seq (.reg [⟨(.some 10), (.bs 5 1 [(.k (.int .u8 0))]), .none⟩, ⟨(.some 11), (.call (.f 45) [(.t 10)]),
  .none⟩, ⟨(.some 12), (.bs 5 1 [(.k (.int .u8 1)), (.k (.int .u8 2))]), .none⟩, ⟨(.some 13), (.call (.f 45) [(.t 12)]), .none⟩, ⟨(.some 5), (.mv (.t 11)), .none⟩, ⟨(.some 6), (.mv (.t 13)), .none⟩])
  (.seq (.reg [⟨(.some 14), (.bs 5 1 [(.k (.int .u8 3))]), .none⟩, ⟨(.some 15), (.call (.f 45) [(.t 14)]), .none⟩, ⟨(.some 7), (.mv (.t 15)), .none⟩]) (.seq (.reg [⟨(.some 16), (.mv (.t 5)), .none⟩,
  ⟨(.some 17), (.mv (.t 4)), .none⟩, ⟨(.some 18), (.mv (.t 5)), .none⟩, ⟨(.some 19), (.bin .or (.t 17) (.t 18)), .none⟩, ⟨(.some 20), (.mv (.t 5)), .none⟩, ⟨(.some 21), (.mv (.t 7)), .none⟩, ⟨(.some
  22), (.bin .or (.t 20) (.t 21)), .none⟩, ⟨(.some 23), (.bd [(.int .u32 0), (.int .u32 0)] [(0, (1, (.t 19))), (1, (1, (.t 22)))]), .none⟩, ⟨(.some 24), (.mv (.t 6)), .none⟩, ⟨(.some 25), (.mv (.t 4)),
  .none⟩, ⟨(.some 26), (.mv (.t 6)), .none⟩, ⟨(.some 27), (.bin .or (.t 25) (.t 26)), .none⟩, ⟨(.some 28), (.bs 5 1 [(.k (.int .u8 6))]), .none⟩, ⟨(.some 29), (.call (.f 45) [(.t 28)]), .none⟩, ⟨(.some
  30), (.bin .or (.t 27) (.t 29)), .none⟩, ⟨(.some 31), (.mv (.t 6)), .none⟩, ⟨(.some 32), (.mv (.t 7)), .none⟩, ⟨(.some 33), (.bin .or (.t 31) (.t 32)), .none⟩, ⟨(.some 34), (.bs 5 1 [(.k (.int .u8
  6))]), .none⟩, ⟨(.some 35), (.call (.f 45) [(.t 34)]), .none⟩, ⟨(.some 36), (.bin .or (.t 33) (.t 35)), .none⟩, ⟨(.some 37), (.bd [(.int .u32 0), (.int .u32 0)] [(0, (1, (.t 30))), (1, (1, (.t
  36)))]), .none⟩, ⟨(.some 0), (.mv (.t 16)), .none⟩, ⟨.none, (.st 2 (.t 1) (.t 23)), .none⟩, ⟨(.some 2), (.mv (.t 24)), .none⟩, ⟨.none, (.st 2 (.t 3) (.t 37)), .none⟩]) .ret)))))
theorem c48 : Try.f48.body.bind (cCode Try.prog 38) = some a48 := by kernel_rfl
theorem r48 : Try.f48.results.toList = [(.tmp 0), (.cell 1 57), (.tmp 2), (.cell 3 57)] := by kernel_rfl
theorem n48 : Try.f48.ntmps = 38 := by kernel_rfl
theorem e48 : Enters Try.prog 48 := enters_of Try.func48 (by kernel_rfl) (by kernel_rfl)
def a83 : ACode :=
  (.seq (.reg [⟨(.some 1), (.box 22 (.t 0)), .none⟩, ⟨(.some 2), (.mv (.k .nilFunc)), .none⟩]) (.seq (.reg [⟨(.some 3), (.mkf (.func 99) [] [(.t 1)]), .none⟩, ⟨(.some 2), (.mv (.t 3)), .none⟩]) .ret))
theorem c83 : Try.f83.body.bind (cCode Try.prog 4) = some a83 := by kernel_rfl
theorem r83 : Try.f83.results.toList = [(.tmp 2)] := by kernel_rfl
theorem n83 : Try.f83.ntmps = 4 := by kernel_rfl
theorem e83 : Enters Try.prog 83 := enters_of Try.func83 (by kernel_rfl) (by kernel_rfl)
def a99 : ACode :=
  (.seq (.reg [⟨(.some 4), (.ld .none (.t 1)), .none⟩, ⟨(.some 5), (.len (.t 4)), .none⟩, ⟨(.some 6), (.bin .sub (.t 5) (.k (.int .i64 1))), .none⟩, ⟨(.some 3), (.mv (.t 6)), .none⟩]) (.block 0 (.loop
  (.seq (.seq (.reg [⟨(.some 7), (.mv (.t 3)), .none⟩, ⟨(.some 8), (.bin .geq (.t 7) (.k (.int .i64 0))), .none⟩]) (.cond (.t 8) .skip (.exit 0))) (.seq (.block 1 (.seq (.reg [⟨(.some 11), (.mv (.t 0)),
  .none⟩, ⟨(.some 12), (.mv (.t 3)), .none⟩, ⟨(.some 13), (.ld .none (.t 1)), .none⟩, ⟨(.some 14), (.mv (.t 3)), .none⟩, ⟨(.some 15), (.ia 21 (.t 13) (.t 14)), .none⟩, ⟨(.some 16), (.ld .none (.t 15)),
  .none⟩, ⟨(.some 17), (.call (.t 11) [(.t 12), (.t 16)]), .none⟩, ⟨(.some 18), (.not (.t 17)), .none⟩]) (.cond (.t 18) .ret .skip))) (.reg [⟨(.some 9), (.mv (.t 3)), .none⟩, ⟨(.some 10), (.bin .sub (.t
  9) (.k (.int .i64 1))), .none⟩, ⟨(.some 3), (.mv (.t 10)), .none⟩]))))))
theorem c99 : Try.f99.body.bind (cCode Try.prog 19) = some a99 := by kernel_rfl
theorem r99 : Try.f99.results.toList = [] := by kernel_rfl
theorem n99 : Try.f99.ntmps = 19 := by kernel_rfl
theorem e99 : Enters Try.prog 99 := enters_of Try.func99 (by kernel_rfl) (by kernel_rfl)
def as50_0 : ACode :=
  (.reg [⟨(.some 7), (.mv (.t 18)), .none⟩])
def bd50_0 : ACode :=
  (.block 1 (.seq (.reg [⟨(.some 19), (.ld .none (.t 5)), .none⟩, ⟨(.some 20), (.mv (.t 7)), .none⟩, ⟨(.some 21), (.call (.f 49) [(.t 19), (.t 20)]), .none⟩]) (.cond (.t 21) (.seq (.seq (.reg [⟨(.some
  22), (.fa 1 (.t 2)), .none⟩, ⟨(.some 23), (.ld .none (.t 22)), .none⟩, ⟨(.some 24), (.mv (.t 7)), .none⟩, ⟨(.some 25), (.call (.f 49) [(.t 23), (.t 24)]), .none⟩]) (.cond (.t 25) (.seq (.reg [⟨.none,
  (.st 1 (.t 4) (.k (.int .u8 11))), .none⟩]) .ret) .skip)) (.seq (.reg [⟨.none, (.st 1 (.t 4) (.k (.int .u8 0))), .none⟩]) .ret)) .skip)))
theorem was50_0 (F : Nat) (Q : Exit → State → Prop) (s : State) : awp Try.prog F as50_0 Q s = awp Try.prog F ((.reg [⟨(.some 7), (.mv (.t 18)), .none⟩])) Q s := rfl
attribute [go_sem] was50_0
theorem wbd50_0 (F : Nat) (Q : Exit → State → Prop) (s : State) : awp Try.prog F bd50_0 Q s = awp Try.prog F ((.block 1 (.seq (.reg [⟨(.some 19), (.ld .none (.t 5)), .none⟩, ⟨(.some 20), (.mv (.t 7)), .none⟩, ⟨(.some 21), (.call (.f 49) [(.t 19), (.t 20)]), .none⟩]) (.cond (.t 21) (.seq (.seq (.reg [⟨(.some
  22), (.fa 1 (.t 2)), .none⟩, ⟨(.some 23), (.ld .none (.t 22)), .none⟩, ⟨(.some 24), (.mv (.t 7)), .none⟩, ⟨(.some 25), (.call (.f 49) [(.t 23), (.t 24)]), .none⟩]) (.cond (.t 25) (.seq (.reg [⟨.none,
  (.st 1 (.t 4) (.k (.int .u8 11))), .none⟩]) .ret) .skip)) (.seq (.reg [⟨.none, (.st 1 (.t 4) (.k (.int .u8 0))), .none⟩]) .ret)) .skip)))) Q s := rfl
attribute [go_sem] wbd50_0
def a50 : ACode :=
  (.seq (.reg [⟨(.some 2), (.box 57 (.t 0)), .none⟩, ⟨(.some 4), (.alc 5 [(.int .u8 0)]), .none⟩]) (.seq (.seq (.reg [⟨(.some 8), (.mv (.t 1)), .none⟩, ⟨(.some 9), (.fa 0 (.t 2)), .none⟩, ⟨(.some 10),
  (.ld .none (.t 9)), .none⟩, ⟨(.some 11), (.mkf (.func 49) [(.t 10)] []), .none⟩, ⟨(.some 12), (.call (.f 44) [(.t 8), (.t 11)]), .none⟩]) (.cond (.t 12) (.seq (.reg [⟨.none, (.st 1 (.t 4) (.k (.int
  .u8 10))), .none⟩]) .ret) .skip)) (.seq (.reg [⟨(.some 13), (.bs 5 1 [(.k (.int .u8 8))]), .none⟩, ⟨(.some 14), (.call (.f 45) [(.t 13)]), .none⟩, ⟨(.some 5), (.alc 54 [(.int .u32 0)]), .none⟩,
  ⟨.none, (.st 1 (.t 5) (.t 14)), .none⟩]) (.seq (.seq (.reg [⟨(.some 15), (.mv (.t 1)), .none⟩, ⟨(.some 16), (.call (.f 83) [(.t 15)]), .none⟩]) (.block 0 (.rfn (.t 16) 26 [17, 18] as50_0 bd50_0)))
  (.seq (.reg [⟨.none, (.st 1 (.t 4) (.k (.int .u8 11))), .none⟩]) .ret)))))
theorem c50 : Try.f50.body.bind (cCode Try.prog 26) = some a50 := by kernel_rfl
theorem r50 : Try.f50.results.toList = [(.cell 4 5)] := by kernel_rfl
theorem n50 : Try.f50.ntmps = 26 := by kernel_rfl
theorem e50 : Enters Try.prog 50 := enters_of Try.func50 (by kernel_rfl) (by kernel_rfl)
def a17 : ACode :=
  (.seq (.reg [⟨(.some 2), (.mv (.k (.bool false))), .none⟩]) (.seq (.reg [⟨(.some 3), (.mv (.t 0)), .none⟩, ⟨(.some 4), (.bs 5 1 [(.k (.int .u8 1)), (.k (.int .u8 2)), (.k (.int .u8 6))]), .none⟩,
  ⟨(.some 5), (.call (.f 45) [(.t 4)]), .none⟩, ⟨(.some 6), (.mkf (.func 46) [(.t 5)] []), .none⟩, ⟨(.some 7), (.call (.f 44) [(.t 3), (.t 6)]), .none⟩, ⟨(.some 2), (.mv (.t 7)), .none⟩]) .ret))
theorem c17 : Try.f17.body.bind (cCode Try.prog 8) = some a17 := by kernel_rfl
theorem r17 : Try.f17.results.toList = [(.tmp 2)] := by kernel_rfl
theorem n17 : Try.f17.ntmps = 8 := by kernel_rfl
theorem e17 : Enters Try.prog 17 := enters_of Try.func17 (by kernel_rfl) (by kernel_rfl)
def a19 : ACode :=
  (.seq (.reg [⟨(.some 2), (.mv (.k (.int .u8 0))), .none⟩]) (.seq (.reg [⟨(.some 9), (.call (.f 48) []), .none⟩, ⟨(.some 8), (.mv (.t 9)), .none⟩, ⟨(.some 10), (.ext (.t 8) 0), .none⟩, ⟨(.some 11),
  (.ext (.t 8) 1), .none⟩, ⟨(.some 12), (.ext (.t 8) 2), .none⟩, ⟨(.some 13), (.ext (.t 8) 3), .none⟩, ⟨(.some 4), (.alc 57 [(.int .u32 0), (.int .u32 0)]), .none⟩, ⟨(.some 6), (.alc 57 [(.int .u32 0),
  (.int .u32 0)]), .none⟩, ⟨(.some 3), (.mv (.t 10)), .none⟩, ⟨.none, (.st 2 (.t 4) (.t 11)), .none⟩, ⟨(.some 5), (.mv (.t 12)), .none⟩, ⟨.none, (.st 2 (.t 6) (.t 13)), .none⟩]) (.seq (.block 0 (.seq
  (.reg [⟨(.some 15), (.mv (.t 0)), .none⟩, ⟨(.some 16), (.len (.t 15)), .none⟩, ⟨(.some 17), (.bin .eql (.t 16) (.k (.int .i64 0))), .none⟩, ⟨(.some 18), (.mv (.t 17)), .none⟩, ⟨(.some 19), (.mv (.t
  3)), (.some (18, false))⟩, ⟨(.some 20), (.mv (.t 5)), (.some (18, false))⟩, ⟨(.some 21), (.bin .or (.t 19) (.t 20)), (.some (18, false))⟩, ⟨(.some 22), (.mv (.t 0)), (.some (18, false))⟩, ⟨(.some 23),
  (.ia 21 (.t 22) (.k (.int .i64 0))), (.some (18, false))⟩, ⟨(.some 24), (.ld .none (.t 23)), (.some (18, false))⟩, ⟨(.some 25), (.call (.f 49) [(.t 21), (.t 24)]), (.some (18, false))⟩, ⟨(.some 26),
  (.pick (.t 18) (.k (.bool true)) (.t 25)), .none⟩, ⟨(.some 14), (.mv (.t 26)), .none⟩]) (.cond (.t 14) (.seq (.reg [⟨(.some 2), (.mv (.k (.int .u8 9))), .none⟩]) .ret) (.seq (.reg [⟨(.some 28), (.mv
  (.t 3)), .none⟩, ⟨(.some 29), (.mv (.t 0)), .none⟩, ⟨(.some 30), (.ia 21 (.t 29) (.k (.int .i64 0))), .none⟩, ⟨(.some 31), (.ld .none (.t 30)), .none⟩, ⟨(.some 32), (.call (.f 46) [(.t 28), (.t 31)]),
  .none⟩, ⟨(.some 27), (.mv (.t 32)), .none⟩]) (.cond (.t 27) (.seq (.reg [⟨(.some 33), (.ld (.some 2) (.t 4)), .none⟩, ⟨(.some 34), (.mv (.t 0)), .none⟩, ⟨(.some 35), (.call (.f 50) [(.t 33), (.t
  34)]), .none⟩, ⟨(.some 2), (.mv (.t 35)), .none⟩]) .ret) .skip))))) (.seq (.seq (.reg [⟨(.some 36), (.ld (.some 2) (.t 6)), .none⟩, ⟨(.some 37), (.mv (.t 0)), .none⟩, ⟨(.some 38), (.call (.f 50) [(.t
  36), (.t 37)]), .none⟩, ⟨(.some 7), (.mv (.t 38)), .none⟩]) (.seq (.reg [⟨(.some 39), (.mv (.t 7)), .none⟩, ⟨(.some 40), (.bin .neq (.t 39) (.k (.int .u8 0))), .none⟩]) (.cond (.t 40) (.seq (.reg
  [⟨(.some 41), (.mv (.t 7)), .none⟩, ⟨(.some 2), (.mv (.t 41)), .none⟩]) .ret) .skip))) (.seq (.seq (.reg [⟨(.some 42), (.mv (.t 0)), .none⟩, ⟨(.some 43), (.bs 5 1 [(.k (.int .u8 3))]), .none⟩, ⟨(.some
  44), (.call (.f 45) [(.t 43)]), .none⟩, ⟨(.some 45), (.mkf (.func 46) [(.t 44)] []), .none⟩, ⟨(.some 46), (.call (.f 44) [(.t 42), (.t 45)]), .none⟩, ⟨(.some 47), (.mv (.t 46)), .none⟩, ⟨(.some 48),
  (.mv (.t 0)), (.some (47, true))⟩, ⟨(.some 49), (.bs 5 1 [(.k (.int .u8 6))]), (.some (47, true))⟩, ⟨(.some 50), (.call (.f 45) [(.t 49)]), (.some (47, true))⟩, ⟨(.some 51), (.mkf (.func 46) [(.t 50)]
  []), (.some (47, true))⟩, ⟨(.some 52), (.call (.f 44) [(.t 48), (.t 51)]), (.some (47, true))⟩, ⟨(.some 53), (.pick (.t 47) (.t 52) (.k (.bool false))), .none⟩]) (.cond (.t 53) (.seq (.reg [⟨(.some
  2), (.mv (.k (.int .u8 12))), .none⟩]) .ret) .skip)) (.seq (.reg [⟨(.some 2), (.mv (.k (.int .u8 0))), .none⟩]) .ret))))))
theorem c19 : Try.f19.body.bind (cCode Try.prog 54) = some a19 := by kernel_rfl
theorem r19 : Try.f19.results.toList = [(.tmp 2)] := by kernel_rfl
theorem n19 : Try.f19.ntmps = 54 := by kernel_rfl
theorem e19 : Enters Try.prog 19 := enters_of Try.func19 (by kernel_rfl) (by kernel_rfl)

def cls (r : Int) : Int := (rowAt r).bidi
def fewBidi (x : Row) : Bool := decide (0 ≤ x.bidi) && decide (x.bidi ≤ 22)
theorem fewb_all (r : Int) : (partOf r).all fewBidi = true := partOf_cases (p := fun l => l.all fewBidi = true) (by kernel_rfl) (by kernel_rfl) (by kernel_rfl) (by kernel_rfl) (by kernel_rfl) r
theorem cls_in (r : Int) : 0 ≤ cls r ∧ cls r ≤ 22 := by
  unfold cls rowAt
  split
  · rename_i x hx
    split
    · simp
    · have := List.all_eq_true.1 (fewb_all r) x (List.mem_of_getElem? hx)
      simpa [fewBidi] using this
  · simp

/-- A set with one more. -/
def withBit (s : Int) (c : Nat) : Int :=
  orI .u32 s (IntKind.u32.wrap (1 * 2 ^ (min c 32)))
/-- The set of some classes. -/
def setOf (l : List Nat) : Int := l.foldl withBit 0

theorem setOf_take {l : List Nat} {i : Nat} (hi : i < l.length) : setOf (l.take (i + 1)) = withBit (setOf (l.take i)) l[i] := by
  rw [List.take_succ_eq_append_getElem hi]
  simp only [setOf, List.foldl_append, List.foldl_cons, List.foldl_nil]

/-- The set as a number. -/
def setN (l : List Nat) : Nat := l.foldl (fun s c => s ||| 2 ^ c) 0

theorem pow_lt_32 {c : Nat} (h : c < 32) : 2 ^ c < 4294967296 := by
  have := Nat.pow_lt_pow_right (a := 2) (by omega) h
  simpa using this

theorem set_nat (l : List Nat) (h : ∀ c ∈ l, c < 32) : setOf l = (setN l : Int) := by
  have key : ∀ (l : List Nat), (∀ c ∈ l, c < 32) → ∀ s : Nat, s < 4294967296 → l.foldl withBit (s : Int) = ((l.foldl (fun s c => s ||| 2 ^ c) s : Nat) : Int) := by
    intro l
    induction l with
    | nil => intro _ s _; rfl
    | cons c l ih =>
      intro h s hs
      have hc := h c (by simp)
      have hp := pow_lt_32 hc
      have e : withBit (s : Int) c = ((s ||| 2 ^ c : Nat) : Int) := by
        unfold withBit
        rw [Nat.min_eq_left (by omega), Int.one_mul]
        have : ((2 : Int) ^ c) = ((2 ^ c : Nat) : Int) := by simp
        rw [this, wrap_u32 _ hp, orI_u32 s _ hs hp]
      simp only [List.foldl_cons, e]
      exact ih (fun c hc => h c (List.mem_cons_of_mem _ hc)) _ (by
        have := Nat.or_lt_two_pow (n := 32) (x := s) (y := 2 ^ c) (by simpa using hs) (by simpa using hp)
        simpa using this)
  exact key l h 0 (by omega)

set_option maxRecDepth 10000 in
theorem ofs_pure (l : List Nat) (n : Int) (hl : l.length ≤ 4611686018427387904 ∧ ∀ c ∈ l, c < 32) (hn : (setN l : Int) = n) : Pure Try.prog 45 [.sl 5 (octs l) none] [] (.lit (.int .u32 n)) := by
  rw [← set_nat l hl.2] at hn
  replace hl := hl.1
  subst hn
  refine pure0 Try.func45 c45 n45 e45 r45 (by simp) rfl ?_
  simp only [a45, astart, argSlots, go_sem, Nat.reduceAdd, Nat.reduceEqDiff, Nat.reduceLT, reduceIte, reduceCtorEq, Nat.reduceBEq, Int.reduceLT, Int.reduceToNat, Int.reducePow, Nat.reduceLeDiff, Int.reduceLE, Nat.reduceMul, Nat.reduceSub]
  refine loop_to l.length (fun i => ⟨[(3, some (.lit (.int .u32 (setOf (l.take i))))), (6, some (.sl 5 (octs l) none)), (7, some (.lit (.int .i64 l.length))), (8, some (.lit (.int .i64 i)))], [], [], 0⟩)
    (fun _ => True) (weak_by [] List.nodup_nil rfl ?_ trivial trivial (by simp)) trivial ?_ ?_
  · simp only [go_sem, Nat.reduceAdd, Nat.reduceEqDiff, Nat.reduceLT, reduceIte, reduceCtorEq, Nat.reduceBEq, Int.reduceLT, Int.reduceToNat, Int.reducePow, Nat.reduceLeDiff, Int.reduceLE, Nat.reduceMul, Nat.reduceSub, slotsBy, boxesBy, tipsBy, rawAt, nm, AV.ren, AV.renL, AV.under, AV.underL, List.all_nil, List.all_cons, bne_self_eq_false, List.getD_cons_zero, List.getD_cons_succ, List.length_nil, List.length_cons, and_true, true_and, Int.natCast_zero]
    simp [setOf]
  · intro i hi _
    have hs := setOf_take hi
    have hneg : ((l[i] : Int) < 0) = False := by simp
    simp only [go_sem, Nat.reduceAdd, Nat.reduceEqDiff, Nat.reduceLT, reduceIte, reduceCtorEq, Nat.reduceBEq, Int.reduceLT, Int.reduceToNat, Int.reducePow, Nat.reduceLeDiff, Int.reduceLE, Nat.reduceMul, Nat.reduceSub, hi, octs_get l i hi, hneg]
    simp (disch := omega) only [wrap_i64]
    refine weak_by [] List.nodup_nil rfl ?_ trivial trivial (by simp)
    simp only [go_sem, Nat.reduceAdd, Nat.reduceEqDiff, Nat.reduceLT, reduceIte, reduceCtorEq, Nat.reduceBEq, Int.reduceLT, Int.reduceToNat, Int.reducePow, Nat.reduceLeDiff, Int.reduceLE, Nat.reduceMul, Nat.reduceSub, slotsBy, boxesBy, tipsBy, rawAt, nm, AV.ren, AV.renL, AV.under, AV.underL, List.all_nil, List.all_cons, bne_self_eq_false, List.getD_cons_zero, List.getD_cons_succ, List.length_nil, List.length_cons, and_true, true_and, hs, Int.natCast_add, Int.natCast_one]
    simp only [withBit, Nat.min_def]
  · intro _
    rw [List.take_length]
    simp only [go_sem, Nat.reduceAdd, Nat.reduceEqDiff, Nat.reduceLT, reduceIte, reduceCtorEq, Nat.reduceBEq, Int.reduceLT, Int.reduceToNat, Int.reducePow, Nat.reduceLeDiff, Int.reduceLE, Nat.reduceMul, Nat.reduceSub]
    simp only [Done, resAV, resL, resOne, look_nil, look_cons, Nat.reduceEqDiff, if_true, if_false, reduceIte, ite_true, ite_false, Nat.zero_ne_one, Nat.one_ne_zero, reduceCtorEq, true_or, or_true, true_and, Option.some.injEq, AV.lit.injEq, Value.int.injEq, Value.bool.injEq]

/-- Whether a set has a class. -/
def hasB (s c : Int) : Bool := andI .u32 (s.fdiv (2 ^ (min c.toNat 32))) 1 == 1

theorem has1_pure (s : Int) (r : Int) : Pure Try.prog 46 [.lit (.int .u32 s), .lit (.int .i32 r)] [] (.lit (.bool (hasB s (cls r)))) := by
  refine pure0 Try.func46 c46 n46 e46 r46 (by simp) rfl ?_
  simp only [a46, astart, argSlots, go_sem, Nat.reduceAdd, Nat.reduceEqDiff, Nat.reduceLT, reduceIte, reduceCtorEq, Nat.reduceBEq, Int.reduceLT, Int.reduceToNat, Int.reducePow, Nat.reduceLeDiff, Int.reduceLE, Nat.reduceMul, Nat.reduceSub]
  refine callGo_pure (of_pure _) (by rfl) ?_
  have h0 : ((rowAt r).bidi < 0) = False := by have := (cls_in r).1; simp only [cls] at this; simp; omega
  simp only [go_sem, Nat.reduceAdd, Nat.reduceEqDiff, Nat.reduceLT, reduceIte, reduceCtorEq, Nat.reduceBEq, Int.reduceLT, Int.reduceToNat, Int.reducePow, Nat.reduceLeDiff, Int.reduceLE, Nat.reduceMul, Nat.reduceSub, Row.prop, h0]
  simp only [Done, resAV, resL, resOne, look_nil, look_cons, Nat.reduceEqDiff, if_true, if_false, reduceIte, ite_true, ite_false, Nat.zero_ne_one, Nat.one_ne_zero, reduceCtorEq, true_or, or_true, true_and, Option.some.injEq, AV.lit.injEq, Value.int.injEq, Value.bool.injEq]
  rfl

theorem lacks1_pure (s : Int) (r : Int) : Pure Try.prog 49 [.lit (.int .u32 s), .lit (.int .i32 r)] [] (.lit (.bool (!hasB s (cls r)))) := by
  refine pure0 Try.func49 c49 n49 e49 r49 (by simp) rfl ?_
  simp only [a49, astart, argSlots, go_sem, Nat.reduceAdd, Nat.reduceEqDiff, Nat.reduceLT, reduceIte, reduceCtorEq, Nat.reduceBEq, Int.reduceLT, Int.reduceToNat, Int.reducePow, Nat.reduceLeDiff, Int.reduceLE, Nat.reduceMul, Nat.reduceSub]
  refine callGo_pure (has1_pure s r) (by rfl) ?_
  simp only [go_sem, Nat.reduceAdd, Nat.reduceEqDiff, Nat.reduceLT, reduceIte, reduceCtorEq, Nat.reduceBEq, Int.reduceLT, Int.reduceToNat, Int.reducePow, Nat.reduceLeDiff, Int.reduceLE, Nat.reduceMul, Nat.reduceSub]
  simp only [Done, resAV, resL, resOne, look_nil, look_cons, Nat.reduceEqDiff, if_true, if_false, reduceIte, ite_true, ite_false, Nat.zero_ne_one, Nat.one_ne_zero, reduceCtorEq, true_or, or_true, true_and, Option.some.injEq, AV.lit.injEq, Value.int.injEq, Value.bool.injEq]

theorem hasTest (s : Int) (l : List Int) : IsTest 46 [.lit (.int .u32 s)] [] (fun r => hasB s (cls r)) l := ⟨rfl, rfl, rfl, rfl, fun r _ => has1_pure s r⟩
theorem lacksTest (s : Int) (l : List Int) : IsTest 49 [.lit (.int .u32 s)] [] (fun r => !hasB s (cls r)) l := ⟨rfl, rfl, rfl, rfl, fun r _ => lacks1_pure s r⟩

/-- The first one from behind that is no mark. -/
def lastOf (l : List Int) : Option Int := l.reverse.find? fun r => !hasB 256 (cls r)

def failsOf (wi en : Int) (l : List Int) : Int :=
  if l.any (fun r => !hasB wi (cls r)) = true then 10 else match lastOf l with
    | none => 11
    | some r => if hasB en (cls r) = true then 0 else 11

theorem rev_get (l : List Int) (i : Nat) (hi : i < l.length) : l.reverse[i]? = some (l[l.length - 1 - i]'(by omega)) := by
  rw [List.getElem?_reverse hi, List.getElem?_eq_getElem (by omega)]

theorem find_at {p : Int → Bool} {q : List Int} {i : Nat} (hi : i < q.length) (h : ∀ j : Nat, j < i → ∀ r, q[j]? = some r → p r = false) (hp : p q[i] = true) : q.find? p = some q[i] := by
  rw [List.find?_eq_some_iff_getElem]
  exact ⟨hp, i, hi, rfl, fun j hj => by simp [h j hj q[j] (List.getElem?_eq_getElem (by omega))]⟩
theorem find_none {p : Int → Bool} {q : List Int} (h : ∀ j : Nat, j < q.length → ∀ r, q[j]? = some r → p r = false) : q.find? p = none := by
  rw [List.find?_eq_none]
  intro x hx
  obtain ⟨j, hj, rfl⟩ := List.getElem_of_mem hx
  simp [h j hj _ (List.getElem?_eq_getElem hj)]

set_option maxRecDepth 10000 in
theorem fails_pure (wi en : Int) (l : List Int) (hl : l.length ≤ 4611686018427387904) : Pure Try.prog 50 [.ag [.lit (.int .u32 wi), .lit (.int .u32 en)], .sl 21 (runes l) none] [] (.lit (.int .u8 (failsOf wi en l))) := by
  refine pure0 Try.func50 c50 n50 e50 r50 (by simp) rfl ?_
  simp only [a50, astart, argSlots, go_sem, Nat.reduceAdd, Nat.reduceEqDiff, Nat.reduceLT, reduceIte, reduceCtorEq, Nat.reduceBEq, Int.reduceLT, Int.reduceToNat, Int.reducePow, Nat.reduceLeDiff, Int.reduceLE, Nat.reduceMul, Nat.reduceSub, allOne, AV.one, Value.oneCell', Int.natCast_zero]
  refine callGo_pure (containsFunc_pure l hl (lacksTest wi l)) (by rfl) ?_
  simp only [go_sem, Nat.reduceAdd, Nat.reduceEqDiff, Nat.reduceLT, reduceIte, reduceCtorEq, Nat.reduceBEq, Int.reduceLT, Int.reduceToNat, Int.reducePow, Nat.reduceLeDiff, Int.reduceLE, Nat.reduceMul, Nat.reduceSub]
  refine cGo_split (fun h1 => ?_) (fun h1 => ?_)
  · simp only [go_sem, Nat.reduceAdd, Nat.reduceEqDiff, Nat.reduceLT, reduceIte, reduceCtorEq, Nat.reduceBEq, Int.reduceLT, Int.reduceToNat, Int.reducePow, Nat.reduceLeDiff, Int.reduceLE, Nat.reduceMul, Nat.reduceSub, allOne, AV.one, Value.oneCell', Nat.le_refl]
    refine ⟨.inr rfl, ?_⟩
    rw [show failsOf wi en l = 10 by simp only [failsOf, h1, if_true]]
    exact resAV_one (resOne_one (id := 1) (by kernel_rfl) (by kernel_rfl) (by kernel_rfl) (by simp only [go_sem, Nat.reduceAdd, Nat.reduceEqDiff, Nat.reduceLT, reduceIte, reduceCtorEq, Nat.reduceBEq, Int.reduceLT, Int.reduceToNat, Int.reducePow, Nat.reduceLeDiff, Int.reduceLE, Nat.reduceMul, Nat.reduceSub]) (by simp only [go_sem, Nat.reduceAdd, Nat.reduceEqDiff, Nat.reduceLT, reduceIte, reduceCtorEq, Nat.reduceBEq, Int.reduceLT, Int.reduceToNat, Int.reducePow, Nat.reduceLeDiff, Int.reduceLE, Nat.reduceMul, Nat.reduceSub]))
  · have hne : ∀ o, lastOf l = o → failsOf wi en l = (match o with | none => 11 | some r => if hasB en (cls r) = true then 0 else 11) := fun o ho => by
      subst ho; simp only [failsOf, h1, Bool.false_eq_true, if_false]
    simp only [go_sem, Nat.reduceAdd, Nat.reduceEqDiff, Nat.reduceLT, reduceIte, reduceCtorEq, Nat.reduceBEq, Int.reduceLT, Int.reduceToNat, Int.reducePow, Nat.reduceLeDiff, Int.reduceLE, Nat.reduceMul, Nat.reduceSub]
    refine callGo_pure (ofs_pure [8] 256 (by simp) (by rfl)) (by rfl) ?_
    simp only [go_sem, Nat.reduceAdd, Nat.reduceEqDiff, Nat.reduceLT, reduceIte, reduceCtorEq, Nat.reduceBEq, Int.reduceLT, Int.reduceToNat, Int.reducePow, Nat.reduceLeDiff, Int.reduceLE, Nat.reduceMul, Nat.reduceSub, allOne, AV.one, Value.oneCell', Nat.le_refl]
    refine callGo_walk Try.func83 c83 n83 e83 r83 (by simp) ?_
    simp only [a83, astart, argSlots, go_sem, Nat.reduceAdd, Nat.reduceEqDiff, Nat.reduceLT, reduceIte, reduceCtorEq, Nat.reduceBEq, Int.reduceLT, Int.reduceToNat, Int.reducePow, Nat.reduceLeDiff, Int.reduceLE, Nat.reduceMul, Nat.reduceSub, allOne, AV.one]
    refine ⟨by simp, _, rfl, ?_⟩
    refine rfnGo_call [2, 4, 5] _ rfl ?_
    refine callOK_walk Try.func99 c99 n99 e99 r99 (by simp) ?_
    simp only [a99, astart, argSlots, go_sem, Nat.reduceAdd, Nat.reduceEqDiff, Nat.reduceLT, reduceIte, reduceCtorEq, Nat.reduceBEq, Int.reduceLT, Int.reduceToNat, Int.reducePow, Nat.reduceLeDiff, Int.reduceLE, Nat.reduceMul, Nat.reduceSub]
    have hw0 : IntKind.i64.wrap ((l.length : Int) - 1) = (l.length : Int) - 1 := wrap_i64 _ (by omega) (by omega)
    refine loop_to l.length (fun i => ⟨[(0, some (.rf .yield 5)), (1, some (.bp 4 0)), (3, some (.lit (.int .i64 ((l.length : Int) - 1 - i))))],
        [(5, [.ob (.loop ⟨26, [2, 4, 5], [17, 18], as50_0, bd50_0, .ready, none⟩) [.bp 0 0, .bp 1 0, .bp 3 0]]), (4, [.sl 21 (runes l) none]), (3, [.lit (.int .u32 256)]), (1, [.lit (.int .u8 0)]), (0, [.lit (.int .u32 wi), .lit (.int .u32 en)])], [], 6⟩)
      (fun i => ∀ j : Nat, j < i → ∀ r, l.reverse[j]? = some r → (!hasB 256 (cls r)) = false) (weak_by [0, 1, 2, 3, 4, 5] (by simp) rfl ?_ ?_ trivial ?_) (fun j hj => by omega) ?_ ?_
    · simp only [go_sem, Nat.reduceAdd, Nat.reduceEqDiff, Nat.reduceLT, reduceIte, reduceCtorEq, Nat.reduceBEq, Int.reduceLT, Int.reduceToNat, Int.reducePow, Nat.reduceLeDiff, Int.reduceLE, Nat.reduceMul, Nat.reduceSub, slotsBy, boxesBy, tipsBy, rawAt, nm, AV.ren, AV.renL, AV.under, AV.underL, List.all_nil, List.all_cons, bne_self_eq_false, List.getD_cons_zero, List.getD_cons_succ, List.length_nil, List.length_cons, and_true, true_and, hw0, Int.natCast_zero, Int.sub_zero]
    · simp only [go_sem, Nat.reduceAdd, Nat.reduceEqDiff, Nat.reduceLT, reduceIte, reduceCtorEq, Nat.reduceBEq, Int.reduceLT, Int.reduceToNat, Int.reducePow, Nat.reduceLeDiff, Int.reduceLE, Nat.reduceMul, Nat.reduceSub, slotsBy, boxesBy, tipsBy, rawAt, nm, AV.ren, AV.renL, AV.under, AV.underL, List.all_nil, List.all_cons, bne_self_eq_false, List.getD_cons_zero, List.getD_cons_succ, List.length_nil, List.length_cons, and_true, true_and]
      simp
    · refine ⟨by omega, fun i hi => ?_⟩
      match i, hi with
      | 0, _ => rfl
      | 1, _ => rfl
      | 2, _ => rfl
      | 3, _ => rfl
      | 4, _ => rfl
      | 5, _ => rfl
    · intro i hi hp
      have hk : (l.length : Int) - 1 - (i : Int) = ((l.length - 1 - i : Nat) : Int) := by omega
      have hki : l.length - 1 - i < l.length := by omega
      have hge : decide ((l.length : Int) - 1 - (i : Int) ≥ 0) = true := by simp only [decide_eq_true_eq]; omega
      have hre := rev_get l i hi
      simp only [go_sem, Nat.reduceAdd, Nat.reduceEqDiff, Nat.reduceLT, reduceIte, reduceCtorEq, Nat.reduceBEq, Int.reduceLT, Int.reduceToNat, Int.reducePow, Nat.reduceLeDiff, Int.reduceLE, Nat.reduceMul, Nat.reduceSub, hge, hk, runes_get l _ hki]
      refine callGo_yield (i := ⟨26, [2, 4, 5], [17, 18], as50_0, bd50_0, .ready, none⟩) (cells := [.bp 0 0, .bp 1 0, .bp 3 0]) (by simp only [go_sem, Nat.reduceAdd, Nat.reduceEqDiff, Nat.reduceLT, reduceIte, reduceCtorEq, Nat.reduceBEq, Int.reduceLT, Int.reduceToNat, Int.reducePow, Nat.reduceLeDiff, Int.reduceLE, Nat.reduceMul, Nat.reduceSub]) rfl rfl ?_
      simp only [go_sem, Nat.reduceAdd, Nat.reduceEqDiff, Nat.reduceLT, reduceIte, reduceCtorEq, Nat.reduceBEq, Int.reduceLT, Int.reduceToNat, Int.reducePow, Nat.reduceLeDiff, Int.reduceLE, Nat.reduceMul, Nat.reduceSub]
      refine callGo_pure (lacks1_pure 256 _) (by rfl) ?_
      simp only [go_sem, Nat.reduceAdd, Nat.reduceEqDiff, Nat.reduceLT, reduceIte, reduceCtorEq, Nat.reduceBEq, Int.reduceLT, Int.reduceToNat, Int.reducePow, Nat.reduceLeDiff, Int.reduceLE, Nat.reduceMul, Nat.reduceSub]
      refine cGo_split (fun h2 => ?_) (fun h2 => ?_)
      · have hlast : lastOf l = some (l[l.length - 1 - i]'hki) := by
          have hr : i < l.reverse.length := by rw [List.length_reverse]; exact hi
          have he : l.reverse[i] = l[l.length - 1 - i]'hki := by
            have := List.getElem?_eq_getElem hr
            rw [hre, Option.some.injEq] at this
            exact this.symm
          have := find_at (p := fun r => !hasB 256 (cls r)) hr hp (by rw [he]; exact h2)
          rw [he] at this
          exact this
        simp only [go_sem, Nat.reduceAdd, Nat.reduceEqDiff, Nat.reduceLT, reduceIte, reduceCtorEq, Nat.reduceBEq, Int.reduceLT, Int.reduceToNat, Int.reducePow, Nat.reduceLeDiff, Int.reduceLE, Nat.reduceMul, Nat.reduceSub]
        refine callGo_pure (lacks1_pure en _) (by rfl) ?_
        simp only [go_sem, Nat.reduceAdd, Nat.reduceEqDiff, Nat.reduceLT, reduceIte, reduceCtorEq, Nat.reduceBEq, Int.reduceLT, Int.reduceToNat, Int.reducePow, Nat.reduceLeDiff, Int.reduceLE, Nat.reduceMul, Nat.reduceSub]
        refine cGo_split (fun h3 => ?_) (fun h3 => ?_)
        · simp only [go_sem, Nat.reduceAdd, Nat.reduceEqDiff, Nat.reduceLT, reduceIte, reduceCtorEq, Nat.reduceBEq, Int.reduceLT, Int.reduceToNat, Int.reducePow, Nat.reduceLeDiff, Int.reduceLE, Nat.reduceMul, Nat.reduceSub, allOne, AV.one, Value.oneCell', Nat.le_refl]
          refine ⟨by simp, _, rfl, ?_⟩
          simp only [rfnPost, go_sem, Nat.reduceAdd, Nat.reduceEqDiff, Nat.reduceLT, reduceIte, reduceCtorEq, Nat.reduceBEq, Int.reduceLT, Int.reduceToNat, Int.reducePow, Nat.reduceLeDiff, Int.reduceLE, Nat.reduceMul, Nat.reduceSub]
          refine ⟨.inr rfl, ?_⟩
          rw [show failsOf wi en l = 11 by rw [hne _ hlast]; exact if_neg (by simpa using h3)]
          exact resAV_one (resOne_one (id := 1) (by kernel_rfl) (by kernel_rfl) (by kernel_rfl) (by simp only [go_sem, Nat.reduceAdd, Nat.reduceEqDiff, Nat.reduceLT, reduceIte, reduceCtorEq, Nat.reduceBEq, Int.reduceLT, Int.reduceToNat, Int.reducePow, Nat.reduceLeDiff, Int.reduceLE, Nat.reduceMul, Nat.reduceSub]) (by simp only [go_sem, Nat.reduceAdd, Nat.reduceEqDiff, Nat.reduceLT, reduceIte, reduceCtorEq, Nat.reduceBEq, Int.reduceLT, Int.reduceToNat, Int.reducePow, Nat.reduceLeDiff, Int.reduceLE, Nat.reduceMul, Nat.reduceSub]))
        · simp only [go_sem, Nat.reduceAdd, Nat.reduceEqDiff, Nat.reduceLT, reduceIte, reduceCtorEq, Nat.reduceBEq, Int.reduceLT, Int.reduceToNat, Int.reducePow, Nat.reduceLeDiff, Int.reduceLE, Nat.reduceMul, Nat.reduceSub, allOne, AV.one, Value.oneCell', Nat.le_refl]
          refine ⟨by simp, _, rfl, ?_⟩
          simp only [rfnPost, go_sem, Nat.reduceAdd, Nat.reduceEqDiff, Nat.reduceLT, reduceIte, reduceCtorEq, Nat.reduceBEq, Int.reduceLT, Int.reduceToNat, Int.reducePow, Nat.reduceLeDiff, Int.reduceLE, Nat.reduceMul, Nat.reduceSub]
          refine ⟨.inr rfl, ?_⟩
          rw [show failsOf wi en l = 0 by rw [hne _ hlast]; exact if_pos (by simpa using h3)]
          exact resAV_one (resOne_one (id := 1) (by kernel_rfl) (by kernel_rfl) (by kernel_rfl) (by simp only [go_sem, Nat.reduceAdd, Nat.reduceEqDiff, Nat.reduceLT, reduceIte, reduceCtorEq, Nat.reduceBEq, Int.reduceLT, Int.reduceToNat, Int.reducePow, Nat.reduceLeDiff, Int.reduceLE, Nat.reduceMul, Nat.reduceSub]) (by simp only [go_sem, Nat.reduceAdd, Nat.reduceEqDiff, Nat.reduceLT, reduceIte, reduceCtorEq, Nat.reduceBEq, Int.reduceLT, Int.reduceToNat, Int.reducePow, Nat.reduceLeDiff, Int.reduceLE, Nat.reduceMul, Nat.reduceSub]))
      · simp only [go_sem, Nat.reduceAdd, Nat.reduceEqDiff, Nat.reduceLT, reduceIte, reduceCtorEq, Nat.reduceBEq, Int.reduceLT, Int.reduceToNat, Int.reducePow, Nat.reduceLeDiff, Int.reduceLE, Nat.reduceMul, Nat.reduceSub]
        have hw1 : IntKind.i64.wrap (((l.length - 1 - i : Nat) : Int) - 1) = (l.length : Int) - 1 - ((i + 1 : Nat) : Int) := by rw [wrap_i64 _ (by omega) (by omega)]; omega
        simp only [hw1]
        refine ⟨weak_by [0, 1, 2, 3, 4, 5] (by simp) rfl ?_ ?_ trivial ?_, ?_⟩
        · simp only [go_sem, Nat.reduceAdd, Nat.reduceEqDiff, Nat.reduceLT, reduceIte, reduceCtorEq, Nat.reduceBEq, Int.reduceLT, Int.reduceToNat, Int.reducePow, Nat.reduceLeDiff, Int.reduceLE, Nat.reduceMul, Nat.reduceSub, slotsBy, boxesBy, tipsBy, rawAt, nm, AV.ren, AV.renL, AV.under, AV.underL, List.all_nil, List.all_cons, bne_self_eq_false, List.getD_cons_zero, List.getD_cons_succ, List.length_nil, List.length_cons, and_true, true_and]
        · simp only [go_sem, Nat.reduceAdd, Nat.reduceEqDiff, Nat.reduceLT, reduceIte, reduceCtorEq, Nat.reduceBEq, Int.reduceLT, Int.reduceToNat, Int.reducePow, Nat.reduceLeDiff, Int.reduceLE, Nat.reduceMul, Nat.reduceSub, slotsBy, boxesBy, tipsBy, rawAt, nm, AV.ren, AV.renL, AV.under, AV.underL, List.all_nil, List.all_cons, bne_self_eq_false, List.getD_cons_zero, List.getD_cons_succ, List.length_nil, List.length_cons, and_true, true_and]
          simp
        · refine ⟨by omega, fun i hi => ?_⟩
          match i, hi with
          | 0, _ => rfl
          | 1, _ => rfl
          | 2, _ => rfl
          | 3, _ => rfl
          | 4, _ => rfl
          | 5, _ => rfl
        · intro j hj r hjr
          rcases Nat.lt_succ_iff_lt_or_eq.1 hj with hj | hj
          · exact hp j hj r hjr
          · subst hj
            rw [hre, Option.some.injEq] at hjr
            subst hjr; exact h2
    · intro hp
      have hge : decide ((l.length : Int) - 1 - ((l.length : Nat) : Int) ≥ 0) = false := by simp only [decide_eq_false_iff_not]; omega
      simp only [go_sem, Nat.reduceAdd, Nat.reduceEqDiff, Nat.reduceLT, reduceIte, reduceCtorEq, Nat.reduceBEq, Int.reduceLT, Int.reduceToNat, Int.reducePow, Nat.reduceLeDiff, Int.reduceLE, Nat.reduceMul, Nat.reduceSub, hge]
      refine ⟨by simp, _, rfl, ?_⟩
      simp only [rfnPost, go_sem, Nat.reduceAdd, Nat.reduceEqDiff, Nat.reduceLT, reduceIte, reduceCtorEq, Nat.reduceBEq, Int.reduceLT, Int.reduceToNat, Int.reducePow, Nat.reduceLeDiff, Int.reduceLE, Nat.reduceMul, Nat.reduceSub, allOne, AV.one, Value.oneCell', Nat.le_refl]
      refine ⟨.inr rfl, ?_⟩
      have hnone : lastOf l = none := find_none (p := fun r => !hasB 256 (cls r)) (by rw [List.length_reverse]; exact hp)
      rw [hne _ hnone]
      exact resAV_one (resOne_one (id := 1) (by kernel_rfl) (by kernel_rfl) (by kernel_rfl) (by simp only [go_sem, Nat.reduceAdd, Nat.reduceEqDiff, Nat.reduceLT, reduceIte, reduceCtorEq, Nat.reduceBEq, Int.reduceLT, Int.reduceToNat, Int.reducePow, Nat.reduceLeDiff, Int.reduceLE, Nat.reduceMul, Nat.reduceSub]) (by simp only [go_sem, Nat.reduceAdd, Nat.reduceEqDiff, Nat.reduceLT, reduceIte, reduceCtorEq, Nat.reduceBEq, Int.reduceLT, Int.reduceToNat, Int.reducePow, Nat.reduceLeDiff, Int.reduceLE, Nat.reduceMul, Nat.reduceSub]))

def bidiOf (l : List Int) : Bool := l.any fun r => hasB 70 (cls r)

theorem bidi_pure (l : List Int) (hl : l.length ≤ 4611686018427387904) : Pure Try.prog 17 [.sl 21 (runes l) none] [] (.lit (.bool (bidiOf l))) := by
  refine pure0 Try.func17 c17 n17 e17 r17 (by simp) rfl ?_
  simp only [a17, astart, argSlots, go_sem, Nat.reduceAdd, Nat.reduceEqDiff, Nat.reduceLT, reduceIte, reduceCtorEq, Nat.reduceBEq, Int.reduceLT, Int.reduceToNat, Int.reducePow, Nat.reduceLeDiff, Int.reduceLE, Nat.reduceMul, Nat.reduceSub]
  refine callGo_pure (ofs_pure [1, 2, 6] 70 (by simp) (by rfl)) (by rfl) ?_
  simp only [go_sem, Nat.reduceAdd, Nat.reduceEqDiff, Nat.reduceLT, reduceIte, reduceCtorEq, Nat.reduceBEq, Int.reduceLT, Int.reduceToNat, Int.reducePow, Nat.reduceLeDiff, Int.reduceLE, Nat.reduceMul, Nat.reduceSub]
  refine callGo_pure (containsFunc_pure l hl (hasTest 70 l)) (by rfl) ?_
  simp only [go_sem, Nat.reduceAdd, Nat.reduceEqDiff, Nat.reduceLT, reduceIte, reduceCtorEq, Nat.reduceBEq, Int.reduceLT, Int.reduceToNat, Int.reducePow, Nat.reduceLeDiff, Int.reduceLE, Nat.reduceMul, Nat.reduceSub]
  simp only [Done, resAV, resL, resOne, look_nil, look_cons, Nat.reduceEqDiff, if_true, if_false, reduceIte, ite_true, ite_false, Nat.zero_ne_one, Nat.one_ne_zero, reduceCtorEq, true_or, or_true, true_and, Option.some.injEq, AV.lit.injEq, Value.int.injEq, Value.bool.injEq]
  rfl

theorem o1 : orI .u32 9144 1 = 9145 := orI_u32 9144 1 (by omega) (by omega)
theorem o2 : orI .u32 1 8 = 9 := orI_u32 1 8 (by omega) (by omega)
theorem o3 : orI .u32 9144 6 = 9150 := orI_u32 9144 6 (by omega) (by omega)
theorem o4 : orI .u32 9150 64 = 9214 := orI_u32 9150 64 (by omega) (by omega)
theorem o5 : orI .u32 6 8 = 14 := orI_u32 6 8 (by omega) (by omega)
theorem o6 : orI .u32 14 64 = 78 := orI_u32 14 64 (by omega) (by omega)

theorem ways_info : (Try.prog.info? 57).map (·.size) = some 2 := by kernel_rfl
theorem ways_agg : aggB Try.prog 57 = true := by kernel_rfl

set_option maxRecDepth 10000 in
theorem ways_pure : Pure Try.prog 48 [] [] (.tu [.lit (.int .u32 1), .ag [.lit (.int .u32 9145), .lit (.int .u32 9)], .lit (.int .u32 6), .ag [.lit (.int .u32 9214), .lit (.int .u32 78)]]) := by
  refine pure0 Try.func48 c48 n48 e48 r48 (by simp) rfl ?_
  simp only [a48, astart, argSlots, go_sem, Nat.reduceAdd, Nat.reduceEqDiff, Nat.reduceLT, reduceIte, reduceCtorEq, Nat.reduceBEq, Int.reduceLT, Int.reduceToNat, Int.reducePow, Nat.reduceLeDiff, Int.reduceLE, Nat.reduceMul, Nat.reduceSub, allOne, AV.one, Value.oneCell', Int.natCast_zero]
  refine callGo_pure (ofs_pure [3, 4, 7, 5, 13, 9, 8] 9144 (by simp) (by rfl)) (by rfl) ?_
  simp only [go_sem, Nat.reduceAdd, Nat.reduceEqDiff, Nat.reduceLT, reduceIte, reduceCtorEq, Nat.reduceBEq, Int.reduceLT, Int.reduceToNat, Int.reducePow, Nat.reduceLeDiff, Int.reduceLE, Nat.reduceMul, Nat.reduceSub]
  refine callGo_pure (ofs_pure [0] 1 (by simp) (by rfl)) (by rfl) ?_
  simp only [go_sem, Nat.reduceAdd, Nat.reduceEqDiff, Nat.reduceLT, reduceIte, reduceCtorEq, Nat.reduceBEq, Int.reduceLT, Int.reduceToNat, Int.reducePow, Nat.reduceLeDiff, Int.reduceLE, Nat.reduceMul, Nat.reduceSub]
  refine callGo_pure (ofs_pure [1, 2] 6 (by simp) (by rfl)) (by rfl) ?_
  simp only [go_sem, Nat.reduceAdd, Nat.reduceEqDiff, Nat.reduceLT, reduceIte, reduceCtorEq, Nat.reduceBEq, Int.reduceLT, Int.reduceToNat, Int.reducePow, Nat.reduceLeDiff, Int.reduceLE, Nat.reduceMul, Nat.reduceSub]
  refine callGo_pure (ofs_pure [3] 8 (by simp) (by rfl)) (by rfl) ?_
  simp only [go_sem, Nat.reduceAdd, Nat.reduceEqDiff, Nat.reduceLT, reduceIte, reduceCtorEq, Nat.reduceBEq, Int.reduceLT, Int.reduceToNat, Int.reducePow, Nat.reduceLeDiff, Int.reduceLE, Nat.reduceMul, Nat.reduceSub, o1, o2, o3, o4, o5, o6]
  refine callGo_pure (ofs_pure [6] 64 (by simp) (by rfl)) (by rfl) ?_
  simp only [go_sem, Nat.reduceAdd, Nat.reduceEqDiff, Nat.reduceLT, reduceIte, reduceCtorEq, Nat.reduceBEq, Int.reduceLT, Int.reduceToNat, Int.reducePow, Nat.reduceLeDiff, Int.reduceLE, Nat.reduceMul, Nat.reduceSub, o1, o2, o3, o4, o5, o6]
  refine callGo_pure (ofs_pure [6] 64 (by simp) (by rfl)) (by rfl) ?_
  simp only [go_sem, Nat.reduceAdd, Nat.reduceEqDiff, Nat.reduceLT, reduceIte, reduceCtorEq, Nat.reduceBEq, Int.reduceLT, Int.reduceToNat, Int.reducePow, Nat.reduceLeDiff, Int.reduceLE, Nat.reduceMul, Nat.reduceSub, o1, o2, o3, o4, o5, o6, allOne, AV.one, Value.oneCell', Nat.le_refl]
  refine ⟨.inr rfl, ?_⟩
  simp only [resAV, resL]
  rw [resOne_ag (id := 0) (cells := [.lit (.int .u32 9145), .lit (.int .u32 9)]) ways_info ways_agg (by simp only [go_sem, Nat.reduceAdd, Nat.reduceEqDiff, Nat.reduceLT, reduceIte, reduceCtorEq, Nat.reduceBEq, Int.reduceLT, Int.reduceToNat, Int.reducePow, Nat.reduceLeDiff, Int.reduceLE, Nat.reduceMul, Nat.reduceSub]) (by simp only [go_sem, Nat.reduceAdd, Nat.reduceEqDiff, Nat.reduceLT, reduceIte, reduceCtorEq, Nat.reduceBEq, Int.reduceLT, Int.reduceToNat, Int.reducePow, Nat.reduceLeDiff, Int.reduceLE, Nat.reduceMul, Nat.reduceSub]) rfl, resOne_ag (id := 1) (cells := [.lit (.int .u32 9214), .lit (.int .u32 78)]) ways_info ways_agg (by simp only [go_sem, Nat.reduceAdd, Nat.reduceEqDiff, Nat.reduceLT, reduceIte, reduceCtorEq, Nat.reduceBEq, Int.reduceLT, Int.reduceToNat, Int.reducePow, Nat.reduceLeDiff, Int.reduceLE, Nat.reduceMul, Nat.reduceSub]) (by simp only [go_sem, Nat.reduceAdd, Nat.reduceEqDiff, Nat.reduceLT, reduceIte, reduceCtorEq, Nat.reduceBEq, Int.reduceLT, Int.reduceToNat, Int.reducePow, Nat.reduceLeDiff, Int.reduceLE, Nat.reduceMul, Nat.reduceSub]) rfl]
  simp only [resOne, go_sem, Nat.reduceAdd, Nat.reduceEqDiff, Nat.reduceLT, reduceIte, reduceCtorEq, Nat.reduceBEq, Int.reduceLT, Int.reduceToNat, Int.reducePow, Nat.reduceLeDiff, Int.reduceLE, Nat.reduceMul, Nat.reduceSub]

/-- What a label fails. -/
def ruleOf (l : List Int) : Int := match l with
  | [] => 9
  | r :: _ => if hasB 7 (cls r) = false then 9 else if hasB 1 (cls r) = true then failsOf 9145 9 l else
    if failsOf 9214 78 l ≠ 0 then failsOf 9214 78 l else if (l.any (fun r => hasB 8 (cls r)) && l.any (fun r => hasB 64 (cls r))) = true then 12 else 0

set_option maxRecDepth 10000 in
theorem rule_pure (l : List Int) (hl : l.length ≤ 4611686018427387904) : Pure Try.prog 19 [.sl 21 (runes l) none] [] (.lit (.int .u8 (ruleOf l))) := by
  refine pure0 Try.func19 c19 n19 e19 r19 (by simp) rfl ?_
  simp only [a19, astart, argSlots, go_sem, Nat.reduceAdd, Nat.reduceEqDiff, Nat.reduceLT, reduceIte, reduceCtorEq, Nat.reduceBEq, Int.reduceLT, Int.reduceToNat, Int.reducePow, Nat.reduceLeDiff, Int.reduceLE, Nat.reduceMul, Nat.reduceSub, allOne, AV.one, Value.oneCell', Int.natCast_zero]
  refine callGo_pure ways_pure (by rfl) ?_
  simp only [go_sem, Nat.reduceAdd, Nat.reduceEqDiff, Nat.reduceLT, reduceIte, reduceCtorEq, Nat.reduceBEq, Int.reduceLT, Int.reduceToNat, Int.reducePow, Nat.reduceLeDiff, Int.reduceLE, Nat.reduceMul, Nat.reduceSub, allOne, AV.one, Value.oneCell', Int.natCast_zero, Nat.le_refl]
  rcases List.eq_nil_or_concat l with hq | hq
  · have e : ((l.length : Int) == 0) = true := by rw [hq]; rfl
    simp only [e, go_sem, Nat.reduceAdd, Nat.reduceEqDiff, Nat.reduceLT, reduceIte, reduceCtorEq, Nat.reduceBEq, Int.reduceLT, Int.reduceToNat, Int.reducePow, Nat.reduceLeDiff, Int.reduceLE, Nat.reduceMul, Nat.reduceSub]
    simp only [Done, resAV, resL, resOne, look_nil, look_cons, Nat.reduceEqDiff, if_true, if_false, reduceIte, ite_true, ite_false, Nat.zero_ne_one, Nat.one_ne_zero, reduceCtorEq, true_or, or_true, true_and, Option.some.injEq, AV.lit.injEq, Value.int.injEq, Value.bool.injEq]
    rw [hq]; rfl
  · have hpos : 0 < l.length := by obtain ⟨a, b, rfl⟩ := hq; simp
    obtain ⟨r, q, hrq⟩ : ∃ r q, l = r :: q := by
      cases l with
      | nil => simp at hpos
      | cons r q => exact ⟨r, q, rfl⟩
    have e : ((l.length : Int) == 0) = false := by simp; intro h; subst h; simp at hpos
    have g : (runes l)[0]? = some [.int .i32 r] := by rw [hrq]; rfl
    have e7 : orI .u32 1 6 = 7 := orI_u32 1 6 (by omega) (by omega)
    simp only [e, g, e7, go_sem, Nat.reduceAdd, Nat.reduceEqDiff, Nat.reduceLT, reduceIte, reduceCtorEq, Nat.reduceBEq, Int.reduceLT, Int.reduceToNat, Int.reducePow, Nat.reduceLeDiff, Int.reduceLE, Nat.reduceMul, Nat.reduceSub]
    refine callGo_pure (lacks1_pure 7 r) (by rfl) ?_
    simp only [go_sem, Nat.reduceAdd, Nat.reduceEqDiff, Nat.reduceLT, reduceIte, reduceCtorEq, Nat.reduceBEq, Int.reduceLT, Int.reduceToNat, Int.reducePow, Nat.reduceLeDiff, Int.reduceLE, Nat.reduceMul, Nat.reduceSub]
    have hru : ruleOf l = if hasB 7 (cls r) = false then 9 else if hasB 1 (cls r) = true then failsOf 9145 9 l else
      if failsOf 9214 78 l ≠ 0 then failsOf 9214 78 l else if (l.any (fun r => hasB 8 (cls r)) && l.any (fun r => hasB 64 (cls r))) = true then 12 else 0 := by rw [hrq]; rfl
    refine cGo_split (fun h1 => ?_) (fun h1 => ?_)
    · rw [if_pos (by simpa using h1)] at hru
      simp only [go_sem, Nat.reduceAdd, Nat.reduceEqDiff, Nat.reduceLT, reduceIte, reduceCtorEq, Nat.reduceBEq, Int.reduceLT, Int.reduceToNat, Int.reducePow, Nat.reduceLeDiff, Int.reduceLE, Nat.reduceMul, Nat.reduceSub]
      simp only [Done, resAV, resL, resOne, look_nil, look_cons, Nat.reduceEqDiff, if_true, if_false, reduceIte, ite_true, ite_false, Nat.zero_ne_one, Nat.one_ne_zero, reduceCtorEq, true_or, or_true, true_and, Option.some.injEq, AV.lit.injEq, Value.int.injEq, Value.bool.injEq]
      exact hru.symm
    · rw [if_neg (by simpa using h1)] at hru
      simp only [go_sem, Nat.reduceAdd, Nat.reduceEqDiff, Nat.reduceLT, reduceIte, reduceCtorEq, Nat.reduceBEq, Int.reduceLT, Int.reduceToNat, Int.reducePow, Nat.reduceLeDiff, Int.reduceLE, Nat.reduceMul, Nat.reduceSub, g]
      refine callGo_pure (has1_pure 1 r) (by rfl) ?_
      simp only [go_sem, Nat.reduceAdd, Nat.reduceEqDiff, Nat.reduceLT, reduceIte, reduceCtorEq, Nat.reduceBEq, Int.reduceLT, Int.reduceToNat, Int.reducePow, Nat.reduceLeDiff, Int.reduceLE, Nat.reduceMul, Nat.reduceSub]
      refine cGo_split (fun h2 => ?_) (fun h2 => ?_)
      · rw [if_pos h2] at hru
        simp only [go_sem, Nat.reduceAdd, Nat.reduceEqDiff, Nat.reduceLT, reduceIte, reduceCtorEq, Nat.reduceBEq, Int.reduceLT, Int.reduceToNat, Int.reducePow, Nat.reduceLeDiff, Int.reduceLE, Nat.reduceMul, Nat.reduceSub]
        refine callGo_pure (fails_pure 9145 9 l hl) (by rfl) ?_
        simp only [go_sem, Nat.reduceAdd, Nat.reduceEqDiff, Nat.reduceLT, reduceIte, reduceCtorEq, Nat.reduceBEq, Int.reduceLT, Int.reduceToNat, Int.reducePow, Nat.reduceLeDiff, Int.reduceLE, Nat.reduceMul, Nat.reduceSub]
        simp only [Done, resAV, resL, resOne, look_nil, look_cons, Nat.reduceEqDiff, if_true, if_false, reduceIte, ite_true, ite_false, Nat.zero_ne_one, Nat.one_ne_zero, reduceCtorEq, true_or, or_true, true_and, Option.some.injEq, AV.lit.injEq, Value.int.injEq, Value.bool.injEq]
        exact hru.symm
      · rw [if_neg (by simp [h2])] at hru
        simp only [go_sem, Nat.reduceAdd, Nat.reduceEqDiff, Nat.reduceLT, reduceIte, reduceCtorEq, Nat.reduceBEq, Int.reduceLT, Int.reduceToNat, Int.reducePow, Nat.reduceLeDiff, Int.reduceLE, Nat.reduceMul, Nat.reduceSub]
        refine callGo_pure (fails_pure 9214 78 l hl) (by rfl) ?_
        simp only [go_sem, Nat.reduceAdd, Nat.reduceEqDiff, Nat.reduceLT, reduceIte, reduceCtorEq, Nat.reduceBEq, Int.reduceLT, Int.reduceToNat, Int.reducePow, Nat.reduceLeDiff, Int.reduceLE, Nat.reduceMul, Nat.reduceSub]
        refine cGo_split (fun h3 => ?_) (fun h3 => ?_)
        · rw [if_pos (by simpa using h3)] at hru
          simp only [go_sem, Nat.reduceAdd, Nat.reduceEqDiff, Nat.reduceLT, reduceIte, reduceCtorEq, Nat.reduceBEq, Int.reduceLT, Int.reduceToNat, Int.reducePow, Nat.reduceLeDiff, Int.reduceLE, Nat.reduceMul, Nat.reduceSub]
          simp only [Done, resAV, resL, resOne, look_nil, look_cons, Nat.reduceEqDiff, if_true, if_false, reduceIte, ite_true, ite_false, Nat.zero_ne_one, Nat.one_ne_zero, reduceCtorEq, true_or, or_true, true_and, Option.some.injEq, AV.lit.injEq, Value.int.injEq, Value.bool.injEq]
          exact hru.symm
        · rw [if_neg (by simpa using h3)] at hru
          simp only [go_sem, Nat.reduceAdd, Nat.reduceEqDiff, Nat.reduceLT, reduceIte, reduceCtorEq, Nat.reduceBEq, Int.reduceLT, Int.reduceToNat, Int.reducePow, Nat.reduceLeDiff, Int.reduceLE, Nat.reduceMul, Nat.reduceSub]
          refine callGo_pure (ofs_pure [3] 8 (by simp) (by rfl)) (by rfl) ?_
          simp only [go_sem, Nat.reduceAdd, Nat.reduceEqDiff, Nat.reduceLT, reduceIte, reduceCtorEq, Nat.reduceBEq, Int.reduceLT, Int.reduceToNat, Int.reducePow, Nat.reduceLeDiff, Int.reduceLE, Nat.reduceMul, Nat.reduceSub]
          refine callGo_pure (containsFunc_pure l hl (hasTest 8 l)) (by rfl) ?_
          simp only [go_sem, Nat.reduceAdd, Nat.reduceEqDiff, Nat.reduceLT, reduceIte, reduceCtorEq, Nat.reduceBEq, Int.reduceLT, Int.reduceToNat, Int.reducePow, Nat.reduceLeDiff, Int.reduceLE, Nat.reduceMul, Nat.reduceSub]
          refine gGo_splitT (fun h4 => ?_) (fun h4 => ?_)
          · rw [h4, Bool.true_and] at hru
            simp only [h4, go_sem, Nat.reduceAdd, Nat.reduceEqDiff, Nat.reduceLT, reduceIte, reduceCtorEq, Nat.reduceBEq, Int.reduceLT, Int.reduceToNat, Int.reducePow, Nat.reduceLeDiff, Int.reduceLE, Nat.reduceMul, Nat.reduceSub]
            refine callGo_pure (ofs_pure [6] 64 (by simp) (by rfl)) (by rfl) ?_
            simp only [go_sem, Nat.reduceAdd, Nat.reduceEqDiff, Nat.reduceLT, reduceIte, reduceCtorEq, Nat.reduceBEq, Int.reduceLT, Int.reduceToNat, Int.reducePow, Nat.reduceLeDiff, Int.reduceLE, Nat.reduceMul, Nat.reduceSub]
            refine callGo_pure (containsFunc_pure l hl (hasTest 64 l)) (by rfl) ?_
            simp only [go_sem, Nat.reduceAdd, Nat.reduceEqDiff, Nat.reduceLT, reduceIte, reduceCtorEq, Nat.reduceBEq, Int.reduceLT, Int.reduceToNat, Int.reducePow, Nat.reduceLeDiff, Int.reduceLE, Nat.reduceMul, Nat.reduceSub]
            refine cGo_split (fun h5 => ?_) (fun h5 => ?_)
            · rw [if_pos h5] at hru
              simp only [go_sem, Nat.reduceAdd, Nat.reduceEqDiff, Nat.reduceLT, reduceIte, reduceCtorEq, Nat.reduceBEq, Int.reduceLT, Int.reduceToNat, Int.reducePow, Nat.reduceLeDiff, Int.reduceLE, Nat.reduceMul, Nat.reduceSub]
              simp only [Done, resAV, resL, resOne, look_nil, look_cons, Nat.reduceEqDiff, if_true, if_false, reduceIte, ite_true, ite_false, Nat.zero_ne_one, Nat.one_ne_zero, reduceCtorEq, true_or, or_true, true_and, Option.some.injEq, AV.lit.injEq, Value.int.injEq, Value.bool.injEq]
              exact hru.symm
            · rw [if_neg (by simp only [h5, Bool.false_eq_true, not_false_eq_true])] at hru
              simp only [go_sem, Nat.reduceAdd, Nat.reduceEqDiff, Nat.reduceLT, reduceIte, reduceCtorEq, Nat.reduceBEq, Int.reduceLT, Int.reduceToNat, Int.reducePow, Nat.reduceLeDiff, Int.reduceLE, Nat.reduceMul, Nat.reduceSub]
              simp only [Done, resAV, resL, resOne, look_nil, look_cons, Nat.reduceEqDiff, if_true, if_false, reduceIte, ite_true, ite_false, Nat.zero_ne_one, Nat.one_ne_zero, reduceCtorEq, true_or, or_true, true_and, Option.some.injEq, AV.lit.injEq, Value.int.injEq, Value.bool.injEq]
              exact hru.symm
          · rw [h4, Bool.false_and, if_neg (by simp)] at hru
            simp only [h4, go_sem, Nat.reduceAdd, Nat.reduceEqDiff, Nat.reduceLT, reduceIte, reduceCtorEq, Nat.reduceBEq, Int.reduceLT, Int.reduceToNat, Int.reducePow, Nat.reduceLeDiff, Int.reduceLE, Nat.reduceMul, Nat.reduceSub]
            simp only [Done, resAV, resL, resOne, look_nil, look_cons, Nat.reduceEqDiff, if_true, if_false, reduceIte, ite_true, ite_false, Nat.zero_ne_one, Nat.one_ne_zero, reduceCtorEq, true_or, or_true, true_and, Option.some.injEq, AV.lit.injEq, Value.int.injEq, Value.bool.injEq]
            exact hru.symm
end Go.Proofs.Ytocaeclhmkojiaa
