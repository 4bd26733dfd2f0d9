/-
The parts of the table of code points: what each function hands back. Conditions: none.
-/
import Derived.Test.YtmhpjoadfgplgaaAbSet
import Derived.Test.YtmhpjoadfgplgaaProg
import Derived.KernelRfl
set_option linter.unusedSimpArgs false
set_option linter.unusedVariables false
set_option linter.unusedSectionVars false
namespace Go.Proofs.Ytmhpjoadfgplgaa
open Go Go.Ab
def a88 : ACode :=
  (.seq (.reg [⟨(.some 0), (.mv (.k (.slice .none 0 0))), .none⟩]) (.seq (.reg [⟨(.some 1), (.bd [(.int .u8 0), (.int .u8 0), (.int .u8 0), (.int .u8 0), (.int .u8 0), (.int .u8 0), (.int .u8 0)] [(0,
  (1, (.k (.int .u8 9)))), (1, (1, (.k (.int .u8 9))))]), .none⟩, ⟨(.some 2), (.bd [(.int .i32 0), (.int .i32 0), (.int .u8 0), (.int .u8 0), (.int .u8 0), (.int .u8 0), (.int .u8 0), (.int .u8 0),
  (.int .u8 0)] [(0, (1, (.k (.int .i32 0)))), (1, (1, (.k (.int .i32 8)))), (2, (7, (.t 1)))]), .none⟩, ⟨(.some 3), (.bd [(.int .u8 0), (.int .u8 0), (.int .u8 0), (.int .u8 0), (.int .u8 0), (.int .u8
  0), (.int .u8 0)] [(0, (1, (.k (.int .u8 9)))), (1, (1, (.k (.int .u8 11))))]), .none⟩, ⟨(.some 4), (.bd [(.int .i32 0), (.int .i32 0), (.int .u8 0), (.int .u8 0), (.int .u8 0), (.int .u8 0), (.int
  .u8 0), (.int .u8 0), (.int .u8 0)] [(0, (1, (.k (.int .i32 9)))), (1, (1, (.k (.int .i32 9)))), (2, (7, (.t 3)))]), .none⟩, ⟨(.some 5), (.bd [(.int .u8 0), (.int .u8 0), (.int .u8 0), (.int .u8 0),
  (.int .u8 0), (.int .u8 0), (.int .u8 0)] [(0, (1, (.k (.int .u8 9)))), (1, (1, (.k (.int .u8 10))))]), .none⟩, ⟨(.some 6), (.bd [(.int .i32 0), (.int .i32 0), (.int .u8 0), (.int .u8 0), (.int .u8
  0), (.int .u8 0), (.int .u8 0), (.int .u8 0), (.int .u8 0)] [(0, (1, (.k (.int .i32 10)))), (1, (1, (.k (.int .i32 10)))), (2, (7, (.t 5)))]), .none⟩, ⟨(.some 7), (.bd [(.int .u8 0), (.int .u8 0),
  (.int .u8 0), (.int .u8 0), (.int .u8 0), (.int .u8 0), (.int .u8 0)] [(0, (1, (.k (.int .u8 9)))), (1, (1, (.k (.int .u8 11))))]), .none⟩, ⟨(.some 8), (.bd [(.int .i32 0), (.int .i32 0), (.int .u8
  0), (.int .u8 0), (.int .u8 0), (.int .u8 0), (.int .u8 0), (.int .u8 0), (.int .u8 0)] [(0, (1, (.k (.int .i32 11)))), (1, (1, (.k (.int .i32 11)))), (2, (7, (.t 7)))]), .none⟩, ⟨(.some 9), (.bd
  [(.int .u8 0), (.int .u8 0), (.int .u8 0), (.int .u8 0), (.int .u8 0), (.int .u8 0), (.int .u8 0)] [(0, (1, (.k (.int .u8 9)))), (1, (1, (.k (.int .u8 12))))]), .none⟩, ⟨(.some 10), (.bd [(.int .i32
  0), (.int .i32 0), (.int .u8 0), (.int .u8 0), (.int .u8 0), (.int .u8 0), (.int .u8 0), (.int .u8 0), (.int .u8 0)] [(0, (1, (.k (.int .i32 12)))), (1, (1, (.k (.int .i32 12)))), (2, (7, (.t 9)))]),
  .none⟩, ⟨(.some 11), (.bd [(.int .u8 0), (.int .u8 0), (.int .u8 0), (.int .u8 0), (.int .u8 0), (.int .u8 0), (.int .u8 0)] [(0, (1, (.k (.int .u8 9)))), (1, (1, (.k (.int .u8 10))))]), .none⟩,
  ⟨(.some 12), (.bd [(.int .i32 0), (.int .i32 0), (.int .u8 0), (.int .u8 0), (.int .u8 0), (.int .u8 0), (.int .u8 0), (.int .u8 0), (.int .u8 0)] [(0, (1, (.k (.int .i32 13)))), (1, (1, (.k (.int
  .i32 13)))), (2, (7, (.t 11)))]), .none⟩, ⟨(.some 13), (.bd [(.int .u8 0), (.int .u8 0), (.int .u8 0), (.int .u8 0), (.int .u8 0), (.int .u8 0), (.int .u8 0)] [(0, (1, (.k (.int .u8 9)))), (1, (1, (.k
  (.int .u8 9))))]), .none⟩, ⟨(.some 14), (.bd [(.int .i32 0), (.int .i32 0), (.int .u8 0), (.int .u8 0), (.int .u8 0), (.int .u8 0), (.int .u8 0), (.int .u8 0), (.int .u8 0)] [(0, (1, (.k (.int .i32
  14)))), (1, (1, (.k (.int .i32 27)))), (2, (7, (.t 13)))]), .none⟩, ⟨(.some 15), (.bd [(.int .u8 0), (.int .u8 0), (.int .u8 0), (.int .u8 0), (.int .u8 0), (.int .u8 0), (.int .u8 0)] [(0, (1, (.k
  (.int .u8 9)))), (1, (1, (.k (.int .u8 10))))]), .none⟩, ⟨(.some 16), (.bd [(.int .i32 0), (.int .i32 0), (.int .u8 0), (.int .u8 0), (.int .u8 0), (.int .u8 0), (.int .u8 0), (.int .u8 0), (.int .u8
  0)] [(0, (1, (.k (.int .i32 28)))), (1, (1, (.k (.int .i32 30)))), (2, (7, (.t 15)))]), .none⟩, ⟨(.some 17), (.bd [(.int .u8 0), (.int .u8 0), (.int .u8 0), (.int .u8 0), (.int .u8 0), (.int .u8 0),
  (.int .u8 0)] [(0, (1, (.k (.int .u8 9)))), (1, (1, (.k (.int .u8 11))))]), .none⟩, ⟨(.some 18), (.bd [(.int .i32 0), (.int .i32 0), (.int .u8 0), (.int .u8 0), (.int .u8 0), (.int .u8 0), (.int .u8
  0), (.int .u8 0), (.int .u8 0)] [(0, (1, (.k (.int .i32 31)))), (1, (1, (.k (.int .i32 31)))), (2, (7, (.t 17)))]), .none⟩, ⟨(.some 19), (.bd [(.int .u8 0), (.int .u8 0), (.int .u8 0), (.int .u8 0),
  (.int .u8 0), (.int .u8 0), (.int .u8 0)] [(0, (1, (.k (.int .u8 8)))), (1, (1, (.k (.int .u8 12)))), (6, (1, (.k (.int .u8 1))))]), .none⟩, ⟨(.some 20), (.bd [(.int .i32 0), (.int .i32 0), (.int .u8
  0), (.int .u8 0), (.int .u8 0), (.int .u8 0), (.int .u8 0), (.int .u8 0), (.int .u8 0)] [(0, (1, (.k (.int .i32 32)))), (1, (1, (.k (.int .i32 32)))), (2, (7, (.t 19)))]), .none⟩, ⟨(.some 21), (.bd
  [(.int .u8 0), (.int .u8 0), (.int .u8 0), (.int .u8 0), (.int .u8 0), (.int .u8 0), (.int .u8 0)] [(0, (1, (.k (.int .u8 6)))), (1, (1, (.k (.int .u8 13)))), (6, (1, (.k (.int .u8 1))))]), .none⟩,
  ⟨(.some 22), (.bd [(.int .i32 0), (.int .i32 0), (.int .u8 0), (.int .u8 0), (.int .u8 0), (.int .u8 0), (.int .u8 0), (.int .u8 0), (.int .u8 0)] [(0, (1, (.k (.int .i32 33)))), (1, (1, (.k (.int
  .i32 34)))), (2, (7, (.t 21)))]), .none⟩, ⟨(.some 23), (.bd [(.int .u8 0), (.int .u8 0), (.int .u8 0), (.int .u8 0), (.int .u8 0), (.int .u8 0), (.int .u8 0)] [(0, (1, (.k (.int .u8 6)))), (1, (1, (.k
  (.int .u8 5)))), (6, (1, (.k (.int .u8 1))))]), .none⟩, ⟨(.some 24), (.bd [(.int .i32 0), (.int .i32 0), (.int .u8 0), (.int .u8 0), (.int .u8 0), (.int .u8 0), (.int .u8 0), (.int .u8 0), (.int .u8
  0)] [(0, (1, (.k (.int .i32 35)))), (1, (1, (.k (.int .i32 35)))), (2, (7, (.t 23)))]), .none⟩, ⟨(.some 25), (.bd [(.int .u8 0), (.int .u8 0), (.int .u8 0), (.int .u8 0), (.int .u8 0), (.int .u8 0),
  (.int .u8 0)] [(0, (1, (.k (.int .u8 7)))), (1, (1, (.k (.int .u8 5)))), (6, (1, (.k (.int .u8 1))))]), .none⟩, ⟨(.some 26), (.bd [(.int .i32 0), (.int .i32 0), (.int .u8 0), (.int .u8 0), (.int .u8
  0), (.int .u8 0), (.int .u8 0), (.int .u8 0), (.int .u8 0)] [(0, (1, (.k (.int .i32 36)))), (1, (1, (.k (.int .i32 36)))), (2, (7, (.t 25)))]), .none⟩, ⟨(.some 27), (.bd [(.int .u8 0), (.int .u8 0),
  (.int .u8 0), (.int .u8 0), (.int .u8 0), (.int .u8 0), (.int .u8 0)] [(0, (1, (.k (.int .u8 6)))), (1, (1, (.k (.int .u8 5)))), (6, (1, (.k (.int .u8 1))))]), .none⟩, ⟨(.some 28), (.bd [(.int .i32
  0), (.int .i32 0), (.int .u8 0), (.int .u8 0), (.int .u8 0), (.int .u8 0), (.int .u8 0), (.int .u8 0), (.int .u8 0)] [(0, (1, (.k (.int .i32 37)))), (1, (1, (.k (.int .i32 37)))), (2, (7, (.t 27)))]),
  .none⟩, ⟨(.some 29), (.bd [(.int .u8 0), (.int .u8 0), (.int .u8 0), (.int .u8 0), (.int .u8 0), (.int .u8 0), (.int .u8 0)] [(0, (1, (.k (.int .u8 6)))), (1, (1, (.k (.int .u8 13)))), (6, (1, (.k
  (.int .u8 1))))]), .none⟩, ⟨(.some 30), (.bd [(.int .i32 0), (.int .i32 0), (.int .u8 0), (.int .u8 0), (.int .u8 0), (.int .u8 0), (.int .u8 0), (.int .u8 0), (.int .u8 0)] [(0, (1, (.k (.int .i32
  38)))), (1, (1, (.k (.int .i32 42)))), (2, (7, (.t 29)))]), .none⟩, ⟨(.some 31), (.bd [(.int .u8 0), (.int .u8 0), (.int .u8 0), (.int .u8 0), (.int .u8 0), (.int .u8 0), (.int .u8 0)] [(0, (1, (.k
  (.int .u8 7)))), (1, (1, (.k (.int .u8 4)))), (6, (1, (.k (.int .u8 1))))]), .none⟩, ⟨(.some 32), (.bd [(.int .i32 0), (.int .i32 0), (.int .u8 0), (.int .u8 0), (.int .u8 0), (.int .u8 0), (.int .u8
  0), (.int .u8 0), (.int .u8 0)] [(0, (1, (.k (.int .i32 43)))), (1, (1, (.k (.int .i32 43)))), (2, (7, (.t 31)))]), .none⟩, ⟨(.some 33), (.bd [(.int .u8 0), (.int .u8 0), (.int .u8 0), (.int .u8 0),
  (.int .u8 0), (.int .u8 0), (.int .u8 0)] [(0, (1, (.k (.int .u8 6)))), (1, (1, (.k (.int .u8 7)))), (6, (1, (.k (.int .u8 1))))]), .none⟩, ⟨(.some 34), (.bd [(.int .i32 0), (.int .i32 0), (.int .u8
  0), (.int .u8 0), (.int .u8 0), (.int .u8 0), (.int .u8 0), (.int .u8 0), (.int .u8 0)] [(0, (1, (.k (.int .i32 44)))), (1, (1, (.k (.int .i32 44)))), (2, (7, (.t 33)))]), .none⟩, ⟨(.some 35), (.bd
  [(.int .u8 0), (.int .u8 0), (.int .u8 0), (.int .u8 0), (.int .u8 0), (.int .u8 0), (.int .u8 0)] [(0, (1, (.k (.int .u8 6)))), (1, (1, (.k (.int .u8 4)))), (6, (1, (.k (.int .u8 1))))]), .none⟩,
  ⟨(.some 36), (.bd [(.int .i32 0), (.int .i32 0), (.int .u8 0), (.int .u8 0), (.int .u8 0), (.int .u8 0), (.int .u8 0), (.int .u8 0), (.int .u8 0)] [(0, (1, (.k (.int .i32 45)))), (1, (1, (.k (.int
  .i32 45)))), (2, (7, (.t 35)))]), .none⟩, ⟨(.some 37), (.bd [(.int .u8 0), (.int .u8 0), (.int .u8 0), (.int .u8 0), (.int .u8 0), (.int .u8 0), (.int .u8 0)] [(0, (1, (.k (.int .u8 6)))), (1, (1, (.k
  (.int .u8 7)))), (6, (1, (.k (.int .u8 1))))]), .none⟩, ⟨(.some 38), (.bd [(.int .i32 0), (.int .i32 0), (.int .u8 0), (.int .u8 0), (.int .u8 0), (.int .u8 0), (.int .u8 0), (.int .u8 0), (.int .u8
  0)] [(0, (1, (.k (.int .i32 46)))), (1, (1, (.k (.int .i32 47)))), (2, (7, (.t 37)))]), .none⟩, ⟨(.some 39), (.bd [(.int .u8 0), (.int .u8 0), (.int .u8 0), (.int .u8 0), (.int .u8 0), (.int .u8 0),
  (.int .u8 0)] [(0, (1, (.k (.int .u8 5)))), (1, (1, (.k (.int .u8 3)))), (5, (1, (.k (.int .u8 1)))), (6, (1, (.k (.int .u8 1))))]), .none⟩, ⟨(.some 40), (.bd [(.int .i32 0), (.int .i32 0), (.int .u8
  0), (.int .u8 0), (.int .u8 0), (.int .u8 0), (.int .u8 0), (.int .u8 0), (.int .u8 0)] [(0, (1, (.k (.int .i32 48)))), (1, (1, (.k (.int .i32 57)))), (2, (7, (.t 39)))]), .none⟩, ⟨(.some 41), (.bd
  [(.int .u8 0), (.int .u8 0), (.int .u8 0), (.int .u8 0), (.int .u8 0), (.int .u8 0), (.int .u8 0)] [(0, (1, (.k (.int .u8 6)))), (1, (1, (.k (.int .u8 7)))), (6, (1, (.k (.int .u8 1))))]), .none⟩,
  ⟨(.some 42), (.bd [(.int .i32 0), (.int .i32 0), (.int .u8 0), (.int .u8 0), (.int .u8 0), (.int .u8 0), (.int .u8 0), (.int .u8 0), (.int .u8 0)] [(0, (1, (.k (.int .i32 58)))), (1, (1, (.k (.int
  .i32 58)))), (2, (7, (.t 41)))]), .none⟩, ⟨(.some 43), (.bd [(.int .u8 0), (.int .u8 0), (.int .u8 0), (.int .u8 0), (.int .u8 0), (.int .u8 0), (.int .u8 0)] [(0, (1, (.k (.int .u8 6)))), (1, (1, (.k
  (.int .u8 13)))), (6, (1, (.k (.int .u8 1))))]), .none⟩, ⟨(.some 44), (.bd [(.int .i32 0), (.int .i32 0), (.int .u8 0), (.int .u8 0), (.int .u8 0), (.int .u8 0), (.int .u8 0), (.int .u8 0), (.int .u8
  0)] [(0, (1, (.k (.int .i32 59)))), (1, (1, (.k (.int .i32 59)))), (2, (7, (.t 43)))]), .none⟩, ⟨(.some 45), (.bd [(.int .u8 0), (.int .u8 0), (.int .u8 0), (.int .u8 0), (.int .u8 0), (.int .u8 0),
  (.int .u8 0)] [(0, (1, (.k (.int .u8 7)))), (1, (1, (.k (.int .u8 13)))), (6, (1, (.k (.int .u8 1))))]), .none⟩, ⟨(.some 46), (.bd [(.int .i32 0), (.int .i32 0), (.int .u8 0), (.int .u8 0), (.int .u8
  0), (.int .u8 0), (.int .u8 0), (.int .u8 0), (.int .u8 0)] [(0, (1, (.k (.int .i32 60)))), (1, (1, (.k (.int .i32 62)))), (2, (7, (.t 45)))]), .none⟩, ⟨(.some 47), (.bd [(.int .u8 0), (.int .u8 0),
  (.int .u8 0), (.int .u8 0), (.int .u8 0), (.int .u8 0), (.int .u8 0)] [(0, (1, (.k (.int .u8 6)))), (1, (1, (.k (.int .u8 13)))), (6, (1, (.k (.int .u8 1))))]), .none⟩, ⟨(.some 48), (.bd [(.int .i32
  0), (.int .i32 0), (.int .u8 0), (.int .u8 0), (.int .u8 0), (.int .u8 0), (.int .u8 0), (.int .u8 0), (.int .u8 0)] [(0, (1, (.k (.int .i32 63)))), (1, (1, (.k (.int .i32 64)))), (2, (7, (.t 47)))]),
  .none⟩, ⟨(.some 49), (.bd [(.int .u8 0), (.int .u8 0), (.int .u8 0), (.int .u8 0), (.int .u8 0), (.int .u8 0), (.int .u8 0)] [(0, (1, (.k (.int .u8 2)))), (4, (1, (.k (.int .u8 2)))), (6, (1, (.k
  (.int .u8 1))))]), .none⟩, ⟨(.some 50), (.bd [(.int .i32 0), (.int .i32 0), (.int .u8 0), (.int .u8 0), (.int .u8 0), (.int .u8 0), (.int .u8 0), (.int .u8 0), (.int .u8 0)] [(0, (1, (.k (.int .i32
  65)))), (1, (1, (.k (.int .i32 90)))), (2, (7, (.t 49)))]), .none⟩, ⟨(.some 51), (.bd [(.int .u8 0), (.int .u8 0), (.int .u8 0), (.int .u8 0), (.int .u8 0), (.int .u8 0), (.int .u8 0)] [(0, (1, (.k
  (.int .u8 6)))), (1, (1, (.k (.int .u8 13)))), (6, (1, (.k (.int .u8 1))))]), .none⟩, ⟨(.some 52), (.bd [(.int .i32 0), (.int .i32 0), (.int .u8 0), (.int .u8 0), (.int .u8 0), (.int .u8 0), (.int .u8
  0), (.int .u8 0), (.int .u8 0)] [(0, (1, (.k (.int .i32 91)))), (1, (1, (.k (.int .i32 93)))), (2, (7, (.t 51)))]), .none⟩, ⟨(.some 53), (.bd [(.int .u8 0), (.int .u8 0), (.int .u8 0), (.int .u8 0),
  (.int .u8 0), (.int .u8 0), (.int .u8 0)] [(0, (1, (.k (.int .u8 7)))), (1, (1, (.k (.int .u8 13)))), (6, (1, (.k (.int .u8 1))))]), .none⟩, ⟨(.some 54), (.bd [(.int .i32 0), (.int .i32 0), (.int .u8
  0), (.int .u8 0), (.int .u8 0), (.int .u8 0), (.int .u8 0), (.int .u8 0), (.int .u8 0)] [(0, (1, (.k (.int .i32 94)))), (1, (1, (.k (.int .i32 94)))), (2, (7, (.t 53)))]), .none⟩, ⟨(.some 55), (.bd
  [(.int .u8 0), (.int .u8 0), (.int .u8 0), (.int .u8 0), (.int .u8 0), (.int .u8 0), (.int .u8 0)] [(0, (1, (.k (.int .u8 6)))), (1, (1, (.k (.int .u8 13)))), (6, (1, (.k (.int .u8 1))))]), .none⟩,
  ⟨(.some 56), (.bd [(.int .i32 0), (.int .i32 0), (.int .u8 0), (.int .u8 0), (.int .u8 0), (.int .u8 0), (.int .u8 0), (.int .u8 0), (.int .u8 0)] [(0, (1, (.k (.int .i32 95)))), (1, (1, (.k (.int
  .i32 95)))), (2, (7, (.t 55)))]), .none⟩, ⟨(.some 57), (.bd [(.int .u8 0), (.int .u8 0), (.int .u8 0), (.int .u8 0), (.int .u8 0), (.int .u8 0), (.int .u8 0)] [(0, (1, (.k (.int .u8 7)))), (1, (1, (.k
  (.int .u8 13)))), (6, (1, (.k (.int .u8 1))))]), .none⟩, ⟨(.some 58), (.bd [(.int .i32 0), (.int .i32 0), (.int .u8 0), (.int .u8 0), (.int .u8 0), (.int .u8 0), (.int .u8 0), (.int .u8 0), (.int .u8
  0)] [(0, (1, (.k (.int .i32 96)))), (1, (1, (.k (.int .i32 96)))), (2, (7, (.t 57)))]), .none⟩, ⟨(.some 59), (.bd [(.int .u8 0), (.int .u8 0), (.int .u8 0), (.int .u8 0), (.int .u8 0), (.int .u8 0),
  (.int .u8 0)] [(0, (1, (.k (.int .u8 1)))), (4, (1, (.k (.int .u8 2)))), (6, (1, (.k (.int .u8 1))))]), .none⟩, ⟨(.some 60), (.bd [(.int .i32 0), (.int .i32 0), (.int .u8 0), (.int .u8 0), (.int .u8
  0), (.int .u8 0), (.int .u8 0), (.int .u8 0), (.int .u8 0)] [(0, (1, (.k (.int .i32 97)))), (1, (1, (.k (.int .i32 122)))), (2, (7, (.t 59)))]), .none⟩, ⟨(.some 61), (.bd [(.int .u8 0), (.int .u8 0),
  (.int .u8 0), (.int .u8 0), (.int .u8 0), (.int .u8 0), (.int .u8 0)] [(0, (1, (.k (.int .u8 6)))), (1, (1, (.k (.int .u8 13)))), (6, (1, (.k (.int .u8 1))))]), .none⟩, ⟨(.some 62), (.bd [(.int .i32
  0), (.int .i32 0), (.int .u8 0), (.int .u8 0), (.int .u8 0), (.int .u8 0), (.int .u8 0), (.int .u8 0), (.int .u8 0)] [(0, (1, (.k (.int .i32 123)))), (1, (1, (.k (.int .i32 123)))), (2, (7, (.t
  61)))]), .none⟩, ⟨(.some 63), (.bd [(.int .u8 0), (.int .u8 0), (.int .u8 0), (.int .u8 0), (.int .u8 0), (.int .u8 0), (.int .u8 0)] [(0, (1, (.k (.int .u8 7)))), (1, (1, (.k (.int .u8 13)))), (6,
  (1, (.k (.int .u8 1))))]), .none⟩, ⟨(.some 64), (.bd [(.int .i32 0), (.int .i32 0), (.int .u8 0), (.int .u8 0), (.int .u8 0), (.int .u8 0), (.int .u8 0), (.int .u8 0), (.int .u8 0)] [(0, (1, (.k (.int
  .i32 124)))), (1, (1, (.k (.int .i32 124)))), (2, (7, (.t 63)))]), .none⟩, ⟨(.some 65), (.bd [(.int .u8 0), (.int .u8 0), (.int .u8 0), (.int .u8 0), (.int .u8 0), (.int .u8 0), (.int .u8 0)] [(0, (1,
  (.k (.int .u8 6)))), (1, (1, (.k (.int .u8 13)))), (6, (1, (.k (.int .u8 1))))]), .none⟩, ⟨(.some 66), (.bd [(.int .i32 0), (.int .i32 0), (.int .u8 0), (.int .u8 0), (.int .u8 0), (.int .u8 0), (.int
  .u8 0), (.int .u8 0), (.int .u8 0)] [(0, (1, (.k (.int .i32 125)))), (1, (1, (.k (.int .i32 125)))), (2, (7, (.t 65)))]), .none⟩, ⟨(.some 67), (.bd [(.int .u8 0), (.int .u8 0), (.int .u8 0), (.int .u8
  0), (.int .u8 0), (.int .u8 0), (.int .u8 0)] [(0, (1, (.k (.int .u8 7)))), (1, (1, (.k (.int .u8 13)))), (6, (1, (.k (.int .u8 1))))]), .none⟩, ⟨(.some 68), (.bd [(.int .i32 0), (.int .i32 0), (.int
  .u8 0), (.int .u8 0), (.int .u8 0), (.int .u8 0), (.int .u8 0), (.int .u8 0), (.int .u8 0)] [(0, (1, (.k (.int .i32 126)))), (1, (1, (.k (.int .i32 126)))), (2, (7, (.t 67)))]), .none⟩, ⟨(.some 69),
  (.bs 99 9 [(.t 2), (.t 4), (.t 6), (.t 8), (.t 10), (.t 12), (.t 14), (.t 16), (.t 18), (.t 20), (.t 22), (.t 24), (.t 26), (.t 28), (.t 30), (.t 32), (.t 34), (.t 36), (.t 38), (.t 40), (.t 42), (.t
  44), (.t 46), (.t 48), (.t 50), (.t 52), (.t 54), (.t 56), (.t 58), (.t 60), (.t 62), (.t 64), (.t 66), (.t 68)]), .none⟩, ⟨(.some 0), (.mv (.t 69)), .none⟩]) .ret))
theorem c88 : Try.f88.body.bind (cCode Try.prog 70) = some a88 := by kernel_rfl
theorem r88 : Try.f88.results.toList = [(.tmp 0)] := by kernel_rfl
theorem n88 : Try.f88.ntmps = 70 := by kernel_rfl
theorem e88 : Enters Try.prog 88 := enters_of Try.func88 (by kernel_rfl) (by kernel_rfl)
def a89 : ACode :=
  (.seq (.reg [⟨(.some 0), (.mv (.k (.slice .none 0 0))), .none⟩]) (.seq (.reg [⟨(.some 1), (.bd [(.int .u8 0), (.int .u8 0), (.int .u8 0), (.int .u8 0), (.int .u8 0), (.int .u8 0), (.int .u8 0)] [(0,
  (1, (.k (.int .u8 9)))), (1, (1, (.k (.int .u8 9))))]), .none⟩, ⟨(.some 2), (.bd [(.int .i32 0), (.int .i32 0), (.int .u8 0), (.int .u8 0), (.int .u8 0), (.int .u8 0), (.int .u8 0), (.int .u8 0),
  (.int .u8 0)] [(0, (1, (.k (.int .i32 127)))), (1, (1, (.k (.int .i32 132)))), (2, (7, (.t 1)))]), .none⟩, ⟨(.some 3), (.bd [(.int .u8 0), (.int .u8 0), (.int .u8 0), (.int .u8 0), (.int .u8 0), (.int
  .u8 0), (.int .u8 0)] [(0, (1, (.k (.int .u8 9)))), (1, (1, (.k (.int .u8 10))))]), .none⟩, ⟨(.some 4), (.bd [(.int .i32 0), (.int .i32 0), (.int .u8 0), (.int .u8 0), (.int .u8 0), (.int .u8 0),
  (.int .u8 0), (.int .u8 0), (.int .u8 0)] [(0, (1, (.k (.int .i32 133)))), (1, (1, (.k (.int .i32 133)))), (2, (7, (.t 3)))]), .none⟩, ⟨(.some 5), (.bd [(.int .u8 0), (.int .u8 0), (.int .u8 0), (.int
  .u8 0), (.int .u8 0), (.int .u8 0), (.int .u8 0)] [(0, (1, (.k (.int .u8 9)))), (1, (1, (.k (.int .u8 9))))]), .none⟩, ⟨(.some 6), (.bd [(.int .i32 0), (.int .i32 0), (.int .u8 0), (.int .u8 0), (.int
  .u8 0), (.int .u8 0), (.int .u8 0), (.int .u8 0), (.int .u8 0)] [(0, (1, (.k (.int .i32 134)))), (1, (1, (.k (.int .i32 159)))), (2, (7, (.t 5)))]), .none⟩, ⟨(.some 7), (.bd [(.int .u8 0), (.int .u8
  0), (.int .u8 0), (.int .u8 0), (.int .u8 0), (.int .u8 0), (.int .u8 0)] [(0, (1, (.k (.int .u8 8)))), (1, (1, (.k (.int .u8 7)))), (6, (1, (.k (.int .u8 1))))]), .none⟩, ⟨(.some 8), (.bd [(.int .i32
  0), (.int .i32 0), (.int .u8 0), (.int .u8 0), (.int .u8 0), (.int .u8 0), (.int .u8 0), (.int .u8 0), (.int .u8 0)] [(0, (1, (.k (.int .i32 160)))), (1, (1, (.k (.int .i32 160)))), (2, (7, (.t
  7)))]), .none⟩, ⟨(.some 9), (.bd [(.int .u8 0), (.int .u8 0), (.int .u8 0), (.int .u8 0), (.int .u8 0), (.int .u8 0), (.int .u8 0)] [(0, (1, (.k (.int .u8 7)))), (1, (1, (.k (.int .u8 5)))), (6, (1,
  (.k (.int .u8 1))))]), .none⟩, ⟨(.some 10), (.bd [(.int .i32 0), (.int .i32 0), (.int .u8 0), (.int .u8 0), (.int .u8 0), (.int .u8 0), (.int .u8 0), (.int .u8 0), (.int .u8 0)] [(0, (1, (.k (.int
  .i32 162)))), (1, (1, (.k (.int .i32 165)))), (2, (7, (.t 9)))]), .none⟩, ⟨(.some 11), (.bd [(.int .u8 0), (.int .u8 0), (.int .u8 0), (.int .u8 0), (.int .u8 0), (.int .u8 0), (.int .u8 0)] [(0, (1,
  (.k (.int .u8 6)))), (1, (1, (.k (.int .u8 13)))), (6, (1, (.k (.int .u8 1))))]), .none⟩, ⟨(.some 12), (.bd [(.int .i32 0), (.int .i32 0), (.int .u8 0), (.int .u8 0), (.int .u8 0), (.int .u8 0), (.int
  .u8 0), (.int .u8 0), (.int .u8 0)] [(0, (1, (.k (.int .i32 167)))), (1, (1, (.k (.int .i32 167)))), (2, (7, (.t 11)))]), .none⟩, ⟨(.some 13), (.bd [(.int .u8 0), (.int .u8 0), (.int .u8 0), (.int .u8
  0), (.int .u8 0), (.int .u8 0), (.int .u8 0)] [(0, (1, (.k (.int .u8 6)))), (1, (1, (.k (.int .u8 13)))), (6, (1, (.k (.int .u8 1))))]), .none⟩, ⟨(.some 14), (.bd [(.int .i32 0), (.int .i32 0), (.int
  .u8 0), (.int .u8 0), (.int .u8 0), (.int .u8 0), (.int .u8 0), (.int .u8 0), (.int .u8 0)] [(0, (1, (.k (.int .i32 171)))), (1, (1, (.k (.int .i32 171)))), (2, (7, (.t 13)))]), .none⟩, ⟨(.some 15),
  (.bd [(.int .u8 0), (.int .u8 0), (.int .u8 0), (.int .u8 0), (.int .u8 0), (.int .u8 0), (.int .u8 0)] [(0, (1, (.k (.int .u8 10)))), (1, (1, (.k (.int .u8 9))))]), .none⟩, ⟨(.some 16), (.bd [(.int
  .i32 0), (.int .i32 0), (.int .u8 0), (.int .u8 0), (.int .u8 0), (.int .u8 0), (.int .u8 0), (.int .u8 0), (.int .u8 0)] [(0, (1, (.k (.int .i32 173)))), (1, (1, (.k (.int .i32 173)))), (2, (7, (.t
  15)))]), .none⟩, ⟨(.some 17), (.bd [(.int .u8 0), (.int .u8 0), (.int .u8 0), (.int .u8 0), (.int .u8 0), (.int .u8 0), (.int .u8 0)] [(0, (1, (.k (.int .u8 7)))), (1, (1, (.k (.int .u8 5)))), (6, (1,
  (.k (.int .u8 1))))]), .none⟩, ⟨(.some 18), (.bd [(.int .i32 0), (.int .i32 0), (.int .u8 0), (.int .u8 0), (.int .u8 0), (.int .u8 0), (.int .u8 0), (.int .u8 0), (.int .u8 0)] [(0, (1, (.k (.int
  .i32 176)))), (1, (1, (.k (.int .i32 177)))), (2, (7, (.t 17)))]), .none⟩, ⟨(.some 19), (.bd [(.int .u8 0), (.int .u8 0), (.int .u8 0), (.int .u8 0), (.int .u8 0), (.int .u8 0), (.int .u8 0)] [(0, (1,
  (.k (.int .u8 6)))), (1, (1, (.k (.int .u8 13)))), (6, (1, (.k (.int .u8 1))))]), .none⟩, ⟨(.some 20), (.bd [(.int .i32 0), (.int .i32 0), (.int .u8 0), (.int .u8 0), (.int .u8 0), (.int .u8 0), (.int
  .u8 0), (.int .u8 0), (.int .u8 0)] [(0, (1, (.k (.int .i32 183)))), (1, (1, (.k (.int .i32 183)))), (2, (7, (.t 19)))]), .none⟩, ⟨(.some 21), (.bd [(.int .u8 0), (.int .u8 0), (.int .u8 0), (.int .u8
  0), (.int .u8 0), (.int .u8 0), (.int .u8 0)] [(0, (1, (.k (.int .u8 6)))), (1, (1, (.k (.int .u8 13)))), (6, (1, (.k (.int .u8 1))))]), .none⟩, ⟨(.some 22), (.bd [(.int .i32 0), (.int .i32 0), (.int
  .u8 0), (.int .u8 0), (.int .u8 0), (.int .u8 0), (.int .u8 0), (.int .u8 0), (.int .u8 0)] [(0, (1, (.k (.int .i32 187)))), (1, (1, (.k (.int .i32 187)))), (2, (7, (.t 21)))]), .none⟩, ⟨(.some 23),
  (.bd [(.int .u8 0), (.int .u8 0), (.int .u8 0), (.int .u8 0), (.int .u8 0), (.int .u8 0), (.int .u8 0)] [(0, (1, (.k (.int .u8 2)))), (4, (1, (.k (.int .u8 2)))), (6, (1, (.k (.int .u8 1))))]),
  .none⟩, ⟨(.some 24), (.bd [(.int .i32 0), (.int .i32 0), (.int .u8 0), (.int .u8 0), (.int .u8 0), (.int .u8 0), (.int .u8 0), (.int .u8 0), (.int .u8 0)] [(0, (1, (.k (.int .i32 192)))), (1, (1, (.k
  (.int .i32 214)))), (2, (7, (.t 23)))]), .none⟩, ⟨(.some 25), (.bd [(.int .u8 0), (.int .u8 0), (.int .u8 0), (.int .u8 0), (.int .u8 0), (.int .u8 0), (.int .u8 0)] [(0, (1, (.k (.int .u8 7)))), (1,
  (1, (.k (.int .u8 13)))), (6, (1, (.k (.int .u8 1))))]), .none⟩, ⟨(.some 26), (.bd [(.int .i32 0), (.int .i32 0), (.int .u8 0), (.int .u8 0), (.int .u8 0), (.int .u8 0), (.int .u8 0), (.int .u8 0),
  (.int .u8 0)] [(0, (1, (.k (.int .i32 215)))), (1, (1, (.k (.int .i32 215)))), (2, (7, (.t 25)))]), .none⟩, ⟨(.some 27), (.bd [(.int .u8 0), (.int .u8 0), (.int .u8 0), (.int .u8 0), (.int .u8 0),
  (.int .u8 0), (.int .u8 0)] [(0, (1, (.k (.int .u8 2)))), (4, (1, (.k (.int .u8 2)))), (6, (1, (.k (.int .u8 1))))]), .none⟩, ⟨(.some 28), (.bd [(.int .i32 0), (.int .i32 0), (.int .u8 0), (.int .u8
  0), (.int .u8 0), (.int .u8 0), (.int .u8 0), (.int .u8 0), (.int .u8 0)] [(0, (1, (.k (.int .i32 216)))), (1, (1, (.k (.int .i32 222)))), (2, (7, (.t 27)))]), .none⟩, ⟨(.some 29), (.bd [(.int .u8 0),
  (.int .u8 0), (.int .u8 0), (.int .u8 0), (.int .u8 0), (.int .u8 0), (.int .u8 0)] [(0, (1, (.k (.int .u8 1)))), (4, (1, (.k (.int .u8 2)))), (6, (1, (.k (.int .u8 1))))]), .none⟩, ⟨(.some 30), (.bd
  [(.int .i32 0), (.int .i32 0), (.int .u8 0), (.int .u8 0), (.int .u8 0), (.int .u8 0), (.int .u8 0), (.int .u8 0), (.int .u8 0)] [(0, (1, (.k (.int .i32 223)))), (1, (1, (.k (.int .i32 246)))), (2,
  (7, (.t 29)))]), .none⟩, ⟨(.some 31), (.bd [(.int .u8 0), (.int .u8 0), (.int .u8 0), (.int .u8 0), (.int .u8 0), (.int .u8 0), (.int .u8 0)] [(0, (1, (.k (.int .u8 7)))), (1, (1, (.k (.int .u8
  13)))), (6, (1, (.k (.int .u8 1))))]), .none⟩, ⟨(.some 32), (.bd [(.int .i32 0), (.int .i32 0), (.int .u8 0), (.int .u8 0), (.int .u8 0), (.int .u8 0), (.int .u8 0), (.int .u8 0), (.int .u8 0)] [(0,
  (1, (.k (.int .i32 247)))), (1, (1, (.k (.int .i32 247)))), (2, (7, (.t 31)))]), .none⟩, ⟨(.some 33), (.bd [(.int .u8 0), (.int .u8 0), (.int .u8 0), (.int .u8 0), (.int .u8 0), (.int .u8 0), (.int
  .u8 0)] [(0, (1, (.k (.int .u8 1)))), (4, (1, (.k (.int .u8 2)))), (6, (1, (.k (.int .u8 1))))]), .none⟩, ⟨(.some 34), (.bd [(.int .i32 0), (.int .i32 0), (.int .u8 0), (.int .u8 0), (.int .u8 0),
  (.int .u8 0), (.int .u8 0), (.int .u8 0), (.int .u8 0)] [(0, (1, (.k (.int .i32 248)))), (1, (1, (.k (.int .i32 255)))), (2, (7, (.t 33)))]), .none⟩, ⟨(.some 35), (.bd [(.int .u8 0), (.int .u8 0),
  (.int .u8 0), (.int .u8 0), (.int .u8 0), (.int .u8 0), (.int .u8 0)] [(0, (1, (.k (.int .u8 1)))), (4, (1, (.k (.int .u8 2)))), (6, (1, (.k (.int .u8 1))))]), .none⟩, ⟨(.some 36), (.bd [(.int .i32
  0), (.int .i32 0), (.int .u8 0), (.int .u8 0), (.int .u8 0), (.int .u8 0), (.int .u8 0), (.int .u8 0), (.int .u8 0)] [(0, (1, (.k (.int .i32 305)))), (1, (1, (.k (.int .i32 305)))), (2, (7, (.t
  35)))]), .none⟩, ⟨(.some 37), (.bd [(.int .u8 0), (.int .u8 0), (.int .u8 0), (.int .u8 0), (.int .u8 0), (.int .u8 0), (.int .u8 0)] [(0, (1, (.k (.int .u8 2)))), (4, (1, (.k (.int .u8 2)))), (6, (1,
  (.k (.int .u8 1))))]), .none⟩, ⟨(.some 38), (.bd [(.int .i32 0), (.int .i32 0), (.int .u8 0), (.int .u8 0), (.int .u8 0), (.int .u8 0), (.int .u8 0), (.int .u8 0), (.int .u8 0)] [(0, (1, (.k (.int
  .i32 338)))), (1, (1, (.k (.int .i32 338)))), (2, (7, (.t 37)))]), .none⟩, ⟨(.some 39), (.bd [(.int .u8 0), (.int .u8 0), (.int .u8 0), (.int .u8 0), (.int .u8 0), (.int .u8 0), (.int .u8 0)] [(0, (1,
  (.k (.int .u8 1)))), (4, (1, (.k (.int .u8 2)))), (6, (1, (.k (.int .u8 1))))]), .none⟩, ⟨(.some 40), (.bd [(.int .i32 0), (.int .i32 0), (.int .u8 0), (.int .u8 0), (.int .u8 0), (.int .u8 0), (.int
  .u8 0), (.int .u8 0), (.int .u8 0)] [(0, (1, (.k (.int .i32 339)))), (1, (1, (.k (.int .i32 339)))), (2, (7, (.t 39)))]), .none⟩, ⟨(.some 41), (.bd [(.int .u8 0), (.int .u8 0), (.int .u8 0), (.int .u8
  0), (.int .u8 0), (.int .u8 0), (.int .u8 0)] [(0, (1, (.k (.int .u8 2)))), (4, (1, (.k (.int .u8 2)))), (6, (1, (.k (.int .u8 1))))]), .none⟩, ⟨(.some 42), (.bd [(.int .i32 0), (.int .i32 0), (.int
  .u8 0), (.int .u8 0), (.int .u8 0), (.int .u8 0), (.int .u8 0), (.int .u8 0), (.int .u8 0)] [(0, (1, (.k (.int .i32 471)))), (1, (1, (.k (.int .i32 471)))), (2, (7, (.t 41)))]), .none⟩, ⟨(.some 43),
  (.bd [(.int .u8 0), (.int .u8 0), (.int .u8 0), (.int .u8 0), (.int .u8 0), (.int .u8 0), (.int .u8 0)] [(0, (1, (.k (.int .u8 1)))), (4, (1, (.k (.int .u8 2)))), (6, (1, (.k (.int .u8 1))))]),
  .none⟩, ⟨(.some 44), (.bd [(.int .i32 0), (.int .i32 0), (.int .u8 0), (.int .u8 0), (.int .u8 0), (.int .u8 0), (.int .u8 0), (.int .u8 0), (.int .u8 0)] [(0, (1, (.k (.int .i32 472)))), (1, (1, (.k
  (.int .i32 472)))), (2, (7, (.t 43)))]), .none⟩, ⟨(.some 45), (.bd [(.int .u8 0), (.int .u8 0), (.int .u8 0), (.int .u8 0), (.int .u8 0), (.int .u8 0), (.int .u8 0)] [(0, (1, (.k (.int .u8 4)))), (1,
  (1, (.k (.int .u8 8)))), (2, (1, (.k (.int .u8 2)))), (3, (1, (.k (.int .u8 230)))), (4, (1, (.k (.int .u8 1))))]), .none⟩, ⟨(.some 46), (.bd [(.int .i32 0), (.int .i32 0), (.int .u8 0), (.int .u8 0),
  (.int .u8 0), (.int .u8 0), (.int .u8 0), (.int .u8 0), (.int .u8 0)] [(0, (1, (.k (.int .i32 768)))), (1, (1, (.k (.int .i32 788)))), (2, (7, (.t 45)))]), .none⟩, ⟨(.some 47), (.bd [(.int .u8 0),
  (.int .u8 0), (.int .u8 0), (.int .u8 0), (.int .u8 0), (.int .u8 0), (.int .u8 0)] [(0, (1, (.k (.int .u8 4)))), (1, (1, (.k (.int .u8 8)))), (2, (1, (.k (.int .u8 2)))), (3, (1, (.k (.int .u8
  220)))), (4, (1, (.k (.int .u8 1))))]), .none⟩, ⟨(.some 48), (.bd [(.int .i32 0), (.int .i32 0), (.int .u8 0), (.int .u8 0), (.int .u8 0), (.int .u8 0), (.int .u8 0), (.int .u8 0), (.int .u8 0)] [(0,
  (1, (.k (.int .i32 803)))), (1, (1, (.k (.int .i32 806)))), (2, (7, (.t 47)))]), .none⟩, ⟨(.some 49), (.bd [(.int .u8 0), (.int .u8 0), (.int .u8 0), (.int .u8 0), (.int .u8 0), (.int .u8 0), (.int
  .u8 0)] [(0, (1, (.k (.int .u8 4)))), (1, (1, (.k (.int .u8 8)))), (2, (1, (.k (.int .u8 2)))), (3, (1, (.k (.int .u8 202)))), (4, (1, (.k (.int .u8 1))))]), .none⟩, ⟨(.some 50), (.bd [(.int .i32 0),
  (.int .i32 0), (.int .u8 0), (.int .u8 0), (.int .u8 0), (.int .u8 0), (.int .u8 0), (.int .u8 0), (.int .u8 0)] [(0, (1, (.k (.int .i32 807)))), (1, (1, (.k (.int .i32 808)))), (2, (7, (.t 49)))]),
  .none⟩, ⟨(.some 51), (.bd [(.int .u8 0), (.int .u8 0), (.int .u8 0), (.int .u8 0), (.int .u8 0), (.int .u8 0), (.int .u8 0)] [(0, (1, (.k (.int .u8 4)))), (1, (1, (.k (.int .u8 8)))), (2, (1, (.k
  (.int .u8 2)))), (3, (1, (.k (.int .u8 1)))), (4, (1, (.k (.int .u8 1))))]), .none⟩, ⟨(.some 52), (.bd [(.int .i32 0), (.int .i32 0), (.int .u8 0), (.int .u8 0), (.int .u8 0), (.int .u8 0), (.int .u8
  0), (.int .u8 0), (.int .u8 0)] [(0, (1, (.k (.int .i32 820)))), (1, (1, (.k (.int .i32 824)))), (2, (7, (.t 51)))]), .none⟩, ⟨(.some 53), (.bd [(.int .u8 0), (.int .u8 0), (.int .u8 0), (.int .u8 0),
  (.int .u8 0), (.int .u8 0), (.int .u8 0)] [(0, (1, (.k (.int .u8 7)))), (1, (1, (.k (.int .u8 13)))), (4, (1, (.k (.int .u8 3)))), (6, (1, (.k (.int .u8 1))))]), .none⟩, ⟨(.some 54), (.bd [(.int .i32
  0), (.int .i32 0), (.int .u8 0), (.int .u8 0), (.int .u8 0), (.int .u8 0), (.int .u8 0), (.int .u8 0), (.int .u8 0)] [(0, (1, (.k (.int .i32 885)))), (1, (1, (.k (.int .i32 885)))), (2, (7, (.t
  53)))]), .none⟩, ⟨(.some 55), (.bd [(.int .u8 0), (.int .u8 0), (.int .u8 0), (.int .u8 0), (.int .u8 0), (.int .u8 0), (.int .u8 0)] [(0, (1, (.k (.int .u8 2)))), (4, (1, (.k (.int .u8 3)))), (6, (1,
  (.k (.int .u8 1))))]), .none⟩, ⟨(.some 56), (.bd [(.int .i32 0), (.int .i32 0), (.int .u8 0), (.int .u8 0), (.int .u8 0), (.int .u8 0), (.int .u8 0), (.int .u8 0), (.int .u8 0)] [(0, (1, (.k (.int
  .i32 902)))), (1, (1, (.k (.int .i32 902)))), (2, (7, (.t 55)))]), .none⟩, ⟨(.some 57), (.bd [(.int .u8 0), (.int .u8 0), (.int .u8 0), (.int .u8 0), (.int .u8 0), (.int .u8 0), (.int .u8 0)] [(0, (1,
  (.k (.int .u8 2)))), (4, (1, (.k (.int .u8 3)))), (6, (1, (.k (.int .u8 1))))]), .none⟩, ⟨(.some 58), (.bd [(.int .i32 0), (.int .i32 0), (.int .u8 0), (.int .u8 0), (.int .u8 0), (.int .u8 0), (.int
  .u8 0), (.int .u8 0), (.int .u8 0)] [(0, (1, (.k (.int .i32 904)))), (1, (1, (.k (.int .i32 906)))), (2, (7, (.t 57)))]), .none⟩, ⟨(.some 59), (.bd [(.int .u8 0), (.int .u8 0), (.int .u8 0), (.int .u8
  0), (.int .u8 0), (.int .u8 0), (.int .u8 0)] [(0, (1, (.k (.int .u8 2)))), (4, (1, (.k (.int .u8 3)))), (6, (1, (.k (.int .u8 1))))]), .none⟩, ⟨(.some 60), (.bd [(.int .i32 0), (.int .i32 0), (.int
  .u8 0), (.int .u8 0), (.int .u8 0), (.int .u8 0), (.int .u8 0), (.int .u8 0), (.int .u8 0)] [(0, (1, (.k (.int .i32 913)))), (1, (1, (.k (.int .i32 929)))), (2, (7, (.t 59)))]), .none⟩, ⟨(.some 61),
  (.bd [(.int .u8 0), (.int .u8 0), (.int .u8 0), (.int .u8 0), (.int .u8 0), (.int .u8 0), (.int .u8 0)] [(0, (1, (.k (.int .u8 2)))), (4, (1, (.k (.int .u8 3)))), (6, (1, (.k (.int .u8 1))))]),
  .none⟩, ⟨(.some 62), (.bd [(.int .i32 0), (.int .i32 0), (.int .u8 0), (.int .u8 0), (.int .u8 0), (.int .u8 0), (.int .u8 0), (.int .u8 0), (.int .u8 0)] [(0, (1, (.k (.int .i32 931)))), (1, (1, (.k
  (.int .i32 937)))), (2, (7, (.t 61)))]), .none⟩, ⟨(.some 63), (.bd [(.int .u8 0), (.int .u8 0), (.int .u8 0), (.int .u8 0), (.int .u8 0), (.int .u8 0), (.int .u8 0)] [(0, (1, (.k (.int .u8 1)))), (4,
  (1, (.k (.int .u8 3)))), (6, (1, (.k (.int .u8 1))))]), .none⟩, ⟨(.some 64), (.bd [(.int .i32 0), (.int .i32 0), (.int .u8 0), (.int .u8 0), (.int .u8 0), (.int .u8 0), (.int .u8 0), (.int .u8 0),
  (.int .u8 0)] [(0, (1, (.k (.int .i32 940)))), (1, (1, (.k (.int .i32 943)))), (2, (7, (.t 63)))]), .none⟩, ⟨(.some 65), (.bd [(.int .u8 0), (.int .u8 0), (.int .u8 0), (.int .u8 0), (.int .u8 0),
  (.int .u8 0), (.int .u8 0)] [(0, (1, (.k (.int .u8 1)))), (4, (1, (.k (.int .u8 3)))), (6, (1, (.k (.int .u8 1))))]), .none⟩, ⟨(.some 66), (.bd [(.int .i32 0), (.int .i32 0), (.int .u8 0), (.int .u8
  0), (.int .u8 0), (.int .u8 0), (.int .u8 0), (.int .u8 0), (.int .u8 0)] [(0, (1, (.k (.int .i32 945)))), (1, (1, (.k (.int .i32 969)))), (2, (7, (.t 65)))]), .none⟩, ⟨(.some 67), (.bd [(.int .u8 0),
  (.int .u8 0), (.int .u8 0), (.int .u8 0), (.int .u8 0), (.int .u8 0), (.int .u8 0)] [(0, (1, (.k (.int .u8 2)))), (4, (1, (.k (.int .u8 4)))), (6, (1, (.k (.int .u8 1))))]), .none⟩, ⟨(.some 68), (.bd
  [(.int .i32 0), (.int .i32 0), (.int .u8 0), (.int .u8 0), (.int .u8 0), (.int .u8 0), (.int .u8 0), (.int .u8 0), (.int .u8 0)] [(0, (1, (.k (.int .i32 1025)))), (1, (1, (.k (.int .i32 1025)))), (2,
  (7, (.t 67)))]), .none⟩, ⟨(.some 69), (.bs 99 9 [(.t 2), (.t 4), (.t 6), (.t 8), (.t 10), (.t 12), (.t 14), (.t 16), (.t 18), (.t 20), (.t 22), (.t 24), (.t 26), (.t 28), (.t 30), (.t 32), (.t 34),
  (.t 36), (.t 38), (.t 40), (.t 42), (.t 44), (.t 46), (.t 48), (.t 50), (.t 52), (.t 54), (.t 56), (.t 58), (.t 60), (.t 62), (.t 64), (.t 66), (.t 68)]), .none⟩, ⟨(.some 0), (.mv (.t 69)), .none⟩])
  .ret))
theorem c89 : Try.f89.body.bind (cCode Try.prog 70) = some a89 := by kernel_rfl
theorem r89 : Try.f89.results.toList = [(.tmp 0)] := by kernel_rfl
theorem n89 : Try.f89.ntmps = 70 := by kernel_rfl
theorem e89 : Enters Try.prog 89 := enters_of Try.func89 (by kernel_rfl) (by kernel_rfl)
def a90 : ACode :=
  (.seq (.reg [⟨(.some 0), (.mv (.k (.slice .none 0 0))), .none⟩]) (.seq (.reg [⟨(.some 1), (.bd [(.int .u8 0), (.int .u8 0), (.int .u8 0), (.int .u8 0), (.int .u8 0), (.int .u8 0), (.int .u8 0)] [(0,
  (1, (.k (.int .u8 2)))), (4, (1, (.k (.int .u8 4)))), (6, (1, (.k (.int .u8 1))))]), .none⟩, ⟨(.some 2), (.bd [(.int .i32 0), (.int .i32 0), (.int .u8 0), (.int .u8 0), (.int .u8 0), (.int .u8 0),
  (.int .u8 0), (.int .u8 0), (.int .u8 0)] [(0, (1, (.k (.int .i32 1030)))), (1, (1, (.k (.int .i32 1030)))), (2, (7, (.t 1)))]), .none⟩, ⟨(.some 3), (.bd [(.int .u8 0), (.int .u8 0), (.int .u8 0),
  (.int .u8 0), (.int .u8 0), (.int .u8 0), (.int .u8 0)] [(0, (1, (.k (.int .u8 2)))), (4, (1, (.k (.int .u8 4)))), (6, (1, (.k (.int .u8 1))))]), .none⟩, ⟨(.some 4), (.bd [(.int .i32 0), (.int .i32
  0), (.int .u8 0), (.int .u8 0), (.int .u8 0), (.int .u8 0), (.int .u8 0), (.int .u8 0), (.int .u8 0)] [(0, (1, (.k (.int .i32 1040)))), (1, (1, (.k (.int .i32 1071)))), (2, (7, (.t 3)))]), .none⟩,
  ⟨(.some 5), (.bd [(.int .u8 0), (.int .u8 0), (.int .u8 0), (.int .u8 0), (.int .u8 0), (.int .u8 0), (.int .u8 0)] [(0, (1, (.k (.int .u8 1)))), (4, (1, (.k (.int .u8 4)))), (6, (1, (.k (.int .u8
  1))))]), .none⟩, ⟨(.some 6), (.bd [(.int .i32 0), (.int .i32 0), (.int .u8 0), (.int .u8 0), (.int .u8 0), (.int .u8 0), (.int .u8 0), (.int .u8 0), (.int .u8 0)] [(0, (1, (.k (.int .i32 1072)))), (1,
  (1, (.k (.int .i32 1103)))), (2, (7, (.t 5)))]), .none⟩, ⟨(.some 7), (.bd [(.int .u8 0), (.int .u8 0), (.int .u8 0), (.int .u8 0), (.int .u8 0), (.int .u8 0), (.int .u8 0)] [(0, (1, (.k (.int .u8
  1)))), (4, (1, (.k (.int .u8 4)))), (6, (1, (.k (.int .u8 1))))]), .none⟩, ⟨(.some 8), (.bd [(.int .i32 0), (.int .i32 0), (.int .u8 0), (.int .u8 0), (.int .u8 0), (.int .u8 0), (.int .u8 0), (.int
  .u8 0), (.int .u8 0)] [(0, (1, (.k (.int .i32 1105)))), (1, (1, (.k (.int .i32 1105)))), (2, (7, (.t 7)))]), .none⟩, ⟨(.some 9), (.bd [(.int .u8 0), (.int .u8 0), (.int .u8 0), (.int .u8 0), (.int .u8
  0), (.int .u8 0), (.int .u8 0)] [(0, (1, (.k (.int .u8 1)))), (4, (1, (.k (.int .u8 4)))), (6, (1, (.k (.int .u8 1))))]), .none⟩, ⟨(.some 10), (.bd [(.int .i32 0), (.int .i32 0), (.int .u8 0), (.int
  .u8 0), (.int .u8 0), (.int .u8 0), (.int .u8 0), (.int .u8 0), (.int .u8 0)] [(0, (1, (.k (.int .i32 1110)))), (1, (1, (.k (.int .i32 1110)))), (2, (7, (.t 9)))]), .none⟩, ⟨(.some 11), (.bd [(.int
  .u8 0), (.int .u8 0), (.int .u8 0), (.int .u8 0), (.int .u8 0), (.int .u8 0), (.int .u8 0)] [(0, (1, (.k (.int .u8 4)))), (1, (1, (.k (.int .u8 8)))), (2, (1, (.k (.int .u8 2)))), (3, (1, (.k (.int
  .u8 14)))), (4, (1, (.k (.int .u8 5))))]), .none⟩, ⟨(.some 12), (.bd [(.int .i32 0), (.int .i32 0), (.int .u8 0), (.int .u8 0), (.int .u8 0), (.int .u8 0), (.int .u8 0), (.int .u8 0), (.int .u8 0)]
  [(0, (1, (.k (.int .i32 1460)))), (1, (1, (.k (.int .i32 1460)))), (2, (7, (.t 11)))]), .none⟩, ⟨(.some 13), (.bd [(.int .u8 0), (.int .u8 0), (.int .u8 0), (.int .u8 0), (.int .u8 0), (.int .u8 0),
  (.int .u8 0)] [(0, (1, (.k (.int .u8 4)))), (1, (1, (.k (.int .u8 8)))), (2, (1, (.k (.int .u8 2)))), (3, (1, (.k (.int .u8 17)))), (4, (1, (.k (.int .u8 5))))]), .none⟩, ⟨(.some 14), (.bd [(.int .i32
  0), (.int .i32 0), (.int .u8 0), (.int .u8 0), (.int .u8 0), (.int .u8 0), (.int .u8 0), (.int .u8 0), (.int .u8 0)] [(0, (1, (.k (.int .i32 1463)))), (1, (1, (.k (.int .i32 1463)))), (2, (7, (.t
  13)))]), .none⟩, ⟨(.some 15), (.bd [(.int .u8 0), (.int .u8 0), (.int .u8 0), (.int .u8 0), (.int .u8 0), (.int .u8 0), (.int .u8 0)] [(0, (1, (.k (.int .u8 4)))), (1, (1, (.k (.int .u8 8)))), (2, (1,
  (.k (.int .u8 2)))), (3, (1, (.k (.int .u8 21)))), (4, (1, (.k (.int .u8 5))))]), .none⟩, ⟨(.some 16), (.bd [(.int .i32 0), (.int .i32 0), (.int .u8 0), (.int .u8 0), (.int .u8 0), (.int .u8 0), (.int
  .u8 0), (.int .u8 0), (.int .u8 0)] [(0, (1, (.k (.int .i32 1468)))), (1, (1, (.k (.int .i32 1468)))), (2, (7, (.t 15)))]), .none⟩, ⟨(.some 17), (.bd [(.int .u8 0), (.int .u8 0), (.int .u8 0), (.int
  .u8 0), (.int .u8 0), (.int .u8 0), (.int .u8 0)] [(0, (1, (.k (.int .u8 6)))), (1, (1, (.k (.int .u8 1)))), (4, (1, (.k (.int .u8 5)))), (6, (1, (.k (.int .u8 1))))]), .none⟩, ⟨(.some 18), (.bd
  [(.int .i32 0), (.int .i32 0), (.int .u8 0), (.int .u8 0), (.int .u8 0), (.int .u8 0), (.int .u8 0), (.int .u8 0), (.int .u8 0)] [(0, (1, (.k (.int .i32 1470)))), (1, (1, (.k (.int .i32 1470)))), (2,
  (7, (.t 17)))]), .none⟩, ⟨(.some 19), (.bd [(.int .u8 0), (.int .u8 0), (.int .u8 0), (.int .u8 0), (.int .u8 0), (.int .u8 0), (.int .u8 0)] [(0, (1, (.k (.int .u8 3)))), (1, (1, (.k (.int .u8 1)))),
  (4, (1, (.k (.int .u8 5)))), (6, (1, (.k (.int .u8 1))))]), .none⟩, ⟨(.some 20), (.bd [(.int .i32 0), (.int .i32 0), (.int .u8 0), (.int .u8 0), (.int .u8 0), (.int .u8 0), (.int .u8 0), (.int .u8 0),
  (.int .u8 0)] [(0, (1, (.k (.int .i32 1488)))), (1, (1, (.k (.int .i32 1514)))), (2, (7, (.t 19)))]), .none⟩, ⟨(.some 21), (.bd [(.int .u8 0), (.int .u8 0), (.int .u8 0), (.int .u8 0), (.int .u8 0),
  (.int .u8 0), (.int .u8 0)] [(0, (1, (.k (.int .u8 6)))), (1, (1, (.k (.int .u8 1)))), (4, (1, (.k (.int .u8 5)))), (6, (1, (.k (.int .u8 1))))]), .none⟩, ⟨(.some 22), (.bd [(.int .i32 0), (.int .i32
  0), (.int .u8 0), (.int .u8 0), (.int .u8 0), (.int .u8 0), (.int .u8 0), (.int .u8 0), (.int .u8 0)] [(0, (1, (.k (.int .i32 1523)))), (1, (1, (.k (.int .i32 1524)))), (2, (7, (.t 21)))]), .none⟩,
  ⟨(.some 23), (.bd [(.int .u8 0), (.int .u8 0), (.int .u8 0), (.int .u8 0), (.int .u8 0), (.int .u8 0), (.int .u8 0)] [(0, (1, (.k (.int .u8 6)))), (1, (1, (.k (.int .u8 7)))), (6, (1, (.k (.int .u8
  1))))]), .none⟩, ⟨(.some 24), (.bd [(.int .i32 0), (.int .i32 0), (.int .u8 0), (.int .u8 0), (.int .u8 0), (.int .u8 0), (.int .u8 0), (.int .u8 0), (.int .u8 0)] [(0, (1, (.k (.int .i32 1548)))),
  (1, (1, (.k (.int .i32 1548)))), (2, (7, (.t 23)))]), .none⟩, ⟨(.some 25), (.bd [(.int .u8 0), (.int .u8 0), (.int .u8 0), (.int .u8 0), (.int .u8 0), (.int .u8 0), (.int .u8 0)] [(0, (1, (.k (.int
  .u8 6)))), (1, (1, (.k (.int .u8 2)))), (6, (1, (.k (.int .u8 1))))]), .none⟩, ⟨(.some 26), (.bd [(.int .i32 0), (.int .i32 0), (.int .u8 0), (.int .u8 0), (.int .u8 0), (.int .u8 0), (.int .u8 0),
  (.int .u8 0), (.int .u8 0)] [(0, (1, (.k (.int .i32 1563)))), (1, (1, (.k (.int .i32 1563)))), (2, (7, (.t 25)))]), .none⟩, ⟨(.some 27), (.bd [(.int .u8 0), (.int .u8 0), (.int .u8 0), (.int .u8 0),
  (.int .u8 0), (.int .u8 0), (.int .u8 0)] [(0, (1, (.k (.int .u8 10)))), (1, (1, (.k (.int .u8 2)))), (2, (1, (.k (.int .u8 2)))), (4, (1, (.k (.int .u8 6))))]), .none⟩, ⟨(.some 28), (.bd [(.int .i32
  0), (.int .i32 0), (.int .u8 0), (.int .u8 0), (.int .u8 0), (.int .u8 0), (.int .u8 0), (.int .u8 0), (.int .u8 0)] [(0, (1, (.k (.int .i32 1564)))), (1, (1, (.k (.int .i32 1564)))), (2, (7, (.t
  27)))]), .none⟩, ⟨(.some 29), (.bd [(.int .u8 0), (.int .u8 0), (.int .u8 0), (.int .u8 0), (.int .u8 0), (.int .u8 0), (.int .u8 0)] [(0, (1, (.k (.int .u8 6)))), (1, (1, (.k (.int .u8 2)))), (6, (1,
  (.k (.int .u8 1))))]), .none⟩, ⟨(.some 30), (.bd [(.int .i32 0), (.int .i32 0), (.int .u8 0), (.int .u8 0), (.int .u8 0), (.int .u8 0), (.int .u8 0), (.int .u8 0), (.int .u8 0)] [(0, (1, (.k (.int
  .i32 1567)))), (1, (1, (.k (.int .i32 1567)))), (2, (7, (.t 29)))]), .none⟩, ⟨(.some 31), (.bd [(.int .u8 0), (.int .u8 0), (.int .u8 0), (.int .u8 0), (.int .u8 0), (.int .u8 0), (.int .u8 0)] [(0,
  (1, (.k (.int .u8 3)))), (1, (1, (.k (.int .u8 2)))), (4, (1, (.k (.int .u8 6)))), (6, (1, (.k (.int .u8 1))))]), .none⟩, ⟨(.some 32), (.bd [(.int .i32 0), (.int .i32 0), (.int .u8 0), (.int .u8 0),
  (.int .u8 0), (.int .u8 0), (.int .u8 0), (.int .u8 0), (.int .u8 0)] [(0, (1, (.k (.int .i32 1569)))), (1, (1, (.k (.int .i32 1569)))), (2, (7, (.t 31)))]), .none⟩, ⟨(.some 33), (.bd [(.int .u8 0),
  (.int .u8 0), (.int .u8 0), (.int .u8 0), (.int .u8 0), (.int .u8 0), (.int .u8 0)] [(0, (1, (.k (.int .u8 3)))), (1, (1, (.k (.int .u8 2)))), (2, (1, (.k (.int .u8 5)))), (4, (1, (.k (.int .u8 6)))),
  (6, (1, (.k (.int .u8 1))))]), .none⟩, ⟨(.some 34), (.bd [(.int .i32 0), (.int .i32 0), (.int .u8 0), (.int .u8 0), (.int .u8 0), (.int .u8 0), (.int .u8 0), (.int .u8 0), (.int .u8 0)] [(0, (1, (.k
  (.int .i32 1570)))), (1, (1, (.k (.int .i32 1573)))), (2, (7, (.t 33)))]), .none⟩, ⟨(.some 35), (.bd [(.int .u8 0), (.int .u8 0), (.int .u8 0), (.int .u8 0), (.int .u8 0), (.int .u8 0), (.int .u8 0)]
  [(0, (1, (.k (.int .u8 3)))), (1, (1, (.k (.int .u8 2)))), (2, (1, (.k (.int .u8 3)))), (4, (1, (.k (.int .u8 6)))), (6, (1, (.k (.int .u8 1))))]), .none⟩, ⟨(.some 36), (.bd [(.int .i32 0), (.int .i32
  0), (.int .u8 0), (.int .u8 0), (.int .u8 0), (.int .u8 0), (.int .u8 0), (.int .u8 0), (.int .u8 0)] [(0, (1, (.k (.int .i32 1574)))), (1, (1, (.k (.int .i32 1574)))), (2, (7, (.t 35)))]), .none⟩,
  ⟨(.some 37), (.bd [(.int .u8 0), (.int .u8 0), (.int .u8 0), (.int .u8 0), (.int .u8 0), (.int .u8 0), (.int .u8 0)] [(0, (1, (.k (.int .u8 3)))), (1, (1, (.k (.int .u8 2)))), (2, (1, (.k (.int .u8
  5)))), (4, (1, (.k (.int .u8 6)))), (6, (1, (.k (.int .u8 1))))]), .none⟩, ⟨(.some 38), (.bd [(.int .i32 0), (.int .i32 0), (.int .u8 0), (.int .u8 0), (.int .u8 0), (.int .u8 0), (.int .u8 0), (.int
  .u8 0), (.int .u8 0)] [(0, (1, (.k (.int .i32 1575)))), (1, (1, (.k (.int .i32 1575)))), (2, (7, (.t 37)))]), .none⟩, ⟨(.some 39), (.bd [(.int .u8 0), (.int .u8 0), (.int .u8 0), (.int .u8 0), (.int
  .u8 0), (.int .u8 0), (.int .u8 0)] [(0, (1, (.k (.int .u8 3)))), (1, (1, (.k (.int .u8 2)))), (2, (1, (.k (.int .u8 3)))), (4, (1, (.k (.int .u8 6)))), (6, (1, (.k (.int .u8 1))))]), .none⟩, ⟨(.some
  40), (.bd [(.int .i32 0), (.int .i32 0), (.int .u8 0), (.int .u8 0), (.int .u8 0), (.int .u8 0), (.int .u8 0), (.int .u8 0), (.int .u8 0)] [(0, (1, (.k (.int .i32 1576)))), (1, (1, (.k (.int .i32
  1576)))), (2, (7, (.t 39)))]), .none⟩, ⟨(.some 41), (.bd [(.int .u8 0), (.int .u8 0), (.int .u8 0), (.int .u8 0), (.int .u8 0), (.int .u8 0), (.int .u8 0)] [(0, (1, (.k (.int .u8 3)))), (1, (1, (.k
  (.int .u8 2)))), (2, (1, (.k (.int .u8 5)))), (4, (1, (.k (.int .u8 6)))), (6, (1, (.k (.int .u8 1))))]), .none⟩, ⟨(.some 42), (.bd [(.int .i32 0), (.int .i32 0), (.int .u8 0), (.int .u8 0), (.int .u8
  0), (.int .u8 0), (.int .u8 0), (.int .u8 0), (.int .u8 0)] [(0, (1, (.k (.int .i32 1577)))), (1, (1, (.k (.int .i32 1577)))), (2, (7, (.t 41)))]), .none⟩, ⟨(.some 43), (.bd [(.int .u8 0), (.int .u8
  0), (.int .u8 0), (.int .u8 0), (.int .u8 0), (.int .u8 0), (.int .u8 0)] [(0, (1, (.k (.int .u8 3)))), (1, (1, (.k (.int .u8 2)))), (2, (1, (.k (.int .u8 3)))), (4, (1, (.k (.int .u8 6)))), (6, (1,
  (.k (.int .u8 1))))]), .none⟩, ⟨(.some 44), (.bd [(.int .i32 0), (.int .i32 0), (.int .u8 0), (.int .u8 0), (.int .u8 0), (.int .u8 0), (.int .u8 0), (.int .u8 0), (.int .u8 0)] [(0, (1, (.k (.int
  .i32 1578)))), (1, (1, (.k (.int .i32 1582)))), (2, (7, (.t 43)))]), .none⟩, ⟨(.some 45), (.bd [(.int .u8 0), (.int .u8 0), (.int .u8 0), (.int .u8 0), (.int .u8 0), (.int .u8 0), (.int .u8 0)] [(0,
  (1, (.k (.int .u8 3)))), (1, (1, (.k (.int .u8 2)))), (2, (1, (.k (.int .u8 5)))), (4, (1, (.k (.int .u8 6)))), (6, (1, (.k (.int .u8 1))))]), .none⟩, ⟨(.some 46), (.bd [(.int .i32 0), (.int .i32 0),
  (.int .u8 0), (.int .u8 0), (.int .u8 0), (.int .u8 0), (.int .u8 0), (.int .u8 0), (.int .u8 0)] [(0, (1, (.k (.int .i32 1583)))), (1, (1, (.k (.int .i32 1586)))), (2, (7, (.t 45)))]), .none⟩,
  ⟨(.some 47), (.bd [(.int .u8 0), (.int .u8 0), (.int .u8 0), (.int .u8 0), (.int .u8 0), (.int .u8 0), (.int .u8 0)] [(0, (1, (.k (.int .u8 3)))), (1, (1, (.k (.int .u8 2)))), (2, (1, (.k (.int .u8
  3)))), (4, (1, (.k (.int .u8 6)))), (6, (1, (.k (.int .u8 1))))]), .none⟩, ⟨(.some 48), (.bd [(.int .i32 0), (.int .i32 0), (.int .u8 0), (.int .u8 0), (.int .u8 0), (.int .u8 0), (.int .u8 0), (.int
  .u8 0), (.int .u8 0)] [(0, (1, (.k (.int .i32 1587)))), (1, (1, (.k (.int .i32 1594)))), (2, (7, (.t 47)))]), .none⟩, ⟨(.some 49), (.bd [(.int .u8 0), (.int .u8 0), (.int .u8 0), (.int .u8 0), (.int
  .u8 0), (.int .u8 0), (.int .u8 0)] [(0, (1, (.k (.int .u8 3)))), (1, (1, (.k (.int .u8 2)))), (2, (1, (.k (.int .u8 1)))), (6, (1, (.k (.int .u8 1))))]), .none⟩, ⟨(.some 50), (.bd [(.int .i32 0),
  (.int .i32 0), (.int .u8 0), (.int .u8 0), (.int .u8 0), (.int .u8 0), (.int .u8 0), (.int .u8 0), (.int .u8 0)] [(0, (1, (.k (.int .i32 1600)))), (1, (1, (.k (.int .i32 1600)))), (2, (7, (.t 49)))]),
  .none⟩, ⟨(.some 51), (.bd [(.int .u8 0), (.int .u8 0), (.int .u8 0), (.int .u8 0), (.int .u8 0), (.int .u8 0), (.int .u8 0)] [(0, (1, (.k (.int .u8 3)))), (1, (1, (.k (.int .u8 2)))), (2, (1, (.k
  (.int .u8 3)))), (4, (1, (.k (.int .u8 6)))), (6, (1, (.k (.int .u8 1))))]), .none⟩, ⟨(.some 52), (.bd [(.int .i32 0), (.int .i32 0), (.int .u8 0), (.int .u8 0), (.int .u8 0), (.int .u8 0), (.int .u8
  0), (.int .u8 0), (.int .u8 0)] [(0, (1, (.k (.int .i32 1601)))), (1, (1, (.k (.int .i32 1607)))), (2, (7, (.t 51)))]), .none⟩, ⟨(.some 53), (.bd [(.int .u8 0), (.int .u8 0), (.int .u8 0), (.int .u8
  0), (.int .u8 0), (.int .u8 0), (.int .u8 0)] [(0, (1, (.k (.int .u8 3)))), (1, (1, (.k (.int .u8 2)))), (2, (1, (.k (.int .u8 5)))), (4, (1, (.k (.int .u8 6)))), (6, (1, (.k (.int .u8 1))))]),
  .none⟩, ⟨(.some 54), (.bd [(.int .i32 0), (.int .i32 0), (.int .u8 0), (.int .u8 0), (.int .u8 0), (.int .u8 0), (.int .u8 0), (.int .u8 0), (.int .u8 0)] [(0, (1, (.k (.int .i32 1608)))), (1, (1, (.k
  (.int .i32 1608)))), (2, (7, (.t 53)))]), .none⟩, ⟨(.some 55), (.bd [(.int .u8 0), (.int .u8 0), (.int .u8 0), (.int .u8 0), (.int .u8 0), (.int .u8 0), (.int .u8 0)] [(0, (1, (.k (.int .u8 3)))), (1,
  (1, (.k (.int .u8 2)))), (2, (1, (.k (.int .u8 3)))), (4, (1, (.k (.int .u8 6)))), (6, (1, (.k (.int .u8 1))))]), .none⟩, ⟨(.some 56), (.bd [(.int .i32 0), (.int .i32 0), (.int .u8 0), (.int .u8 0),
  (.int .u8 0), (.int .u8 0), (.int .u8 0), (.int .u8 0), (.int .u8 0)] [(0, (1, (.k (.int .i32 1609)))), (1, (1, (.k (.int .i32 1610)))), (2, (7, (.t 55)))]), .none⟩, ⟨(.some 57), (.bd [(.int .u8 0),
  (.int .u8 0), (.int .u8 0), (.int .u8 0), (.int .u8 0), (.int .u8 0), (.int .u8 0)] [(0, (1, (.k (.int .u8 4)))), (1, (1, (.k (.int .u8 8)))), (2, (1, (.k (.int .u8 2)))), (3, (1, (.k (.int .u8
  27)))), (4, (1, (.k (.int .u8 1))))]), .none⟩, ⟨(.some 58), (.bd [(.int .i32 0), (.int .i32 0), (.int .u8 0), (.int .u8 0), (.int .u8 0), (.int .u8 0), (.int .u8 0), (.int .u8 0), (.int .u8 0)] [(0,
  (1, (.k (.int .i32 1611)))), (1, (1, (.k (.int .i32 1611)))), (2, (7, (.t 57)))]), .none⟩, ⟨(.some 59), (.bd [(.int .u8 0), (.int .u8 0), (.int .u8 0), (.int .u8 0), (.int .u8 0), (.int .u8 0), (.int
  .u8 0)] [(0, (1, (.k (.int .u8 4)))), (1, (1, (.k (.int .u8 8)))), (2, (1, (.k (.int .u8 2)))), (3, (1, (.k (.int .u8 28)))), (4, (1, (.k (.int .u8 1))))]), .none⟩, ⟨(.some 60), (.bd [(.int .i32 0),
  (.int .i32 0), (.int .u8 0), (.int .u8 0), (.int .u8 0), (.int .u8 0), (.int .u8 0), (.int .u8 0), (.int .u8 0)] [(0, (1, (.k (.int .i32 1612)))), (1, (1, (.k (.int .i32 1612)))), (2, (7, (.t 59)))]),
  .none⟩, ⟨(.some 61), (.bd [(.int .u8 0), (.int .u8 0), (.int .u8 0), (.int .u8 0), (.int .u8 0), (.int .u8 0), (.int .u8 0)] [(0, (1, (.k (.int .u8 4)))), (1, (1, (.k (.int .u8 8)))), (2, (1, (.k
  (.int .u8 2)))), (3, (1, (.k (.int .u8 29)))), (4, (1, (.k (.int .u8 1))))]), .none⟩, ⟨(.some 62), (.bd [(.int .i32 0), (.int .i32 0), (.int .u8 0), (.int .u8 0), (.int .u8 0), (.int .u8 0), (.int .u8
  0), (.int .u8 0), (.int .u8 0)] [(0, (1, (.k (.int .i32 1613)))), (1, (1, (.k (.int .i32 1613)))), (2, (7, (.t 61)))]), .none⟩, ⟨(.some 63), (.bd [(.int .u8 0), (.int .u8 0), (.int .u8 0), (.int .u8
  0), (.int .u8 0), (.int .u8 0), (.int .u8 0)] [(0, (1, (.k (.int .u8 4)))), (1, (1, (.k (.int .u8 8)))), (2, (1, (.k (.int .u8 2)))), (3, (1, (.k (.int .u8 30)))), (4, (1, (.k (.int .u8 1))))]),
  .none⟩, ⟨(.some 64), (.bd [(.int .i32 0), (.int .i32 0), (.int .u8 0), (.int .u8 0), (.int .u8 0), (.int .u8 0), (.int .u8 0), (.int .u8 0), (.int .u8 0)] [(0, (1, (.k (.int .i32 1614)))), (1, (1, (.k
  (.int .i32 1614)))), (2, (7, (.t 63)))]), .none⟩, ⟨(.some 65), (.bd [(.int .u8 0), (.int .u8 0), (.int .u8 0), (.int .u8 0), (.int .u8 0), (.int .u8 0), (.int .u8 0)] [(0, (1, (.k (.int .u8 4)))), (1,
  (1, (.k (.int .u8 8)))), (2, (1, (.k (.int .u8 2)))), (3, (1, (.k (.int .u8 31)))), (4, (1, (.k (.int .u8 1))))]), .none⟩, ⟨(.some 66), (.bd [(.int .i32 0), (.int .i32 0), (.int .u8 0), (.int .u8 0),
  (.int .u8 0), (.int .u8 0), (.int .u8 0), (.int .u8 0), (.int .u8 0)] [(0, (1, (.k (.int .i32 1615)))), (1, (1, (.k (.int .i32 1615)))), (2, (7, (.t 65)))]), .none⟩, ⟨(.some 67), (.bd [(.int .u8 0),
  (.int .u8 0), (.int .u8 0), (.int .u8 0), (.int .u8 0), (.int .u8 0), (.int .u8 0)] [(0, (1, (.k (.int .u8 4)))), (1, (1, (.k (.int .u8 8)))), (2, (1, (.k (.int .u8 2)))), (3, (1, (.k (.int .u8
  32)))), (4, (1, (.k (.int .u8 1))))]), .none⟩, ⟨(.some 68), (.bd [(.int .i32 0), (.int .i32 0), (.int .u8 0), (.int .u8 0), (.int .u8 0), (.int .u8 0), (.int .u8 0), (.int .u8 0), (.int .u8 0)] [(0,
  (1, (.k (.int .i32 1616)))), (1, (1, (.k (.int .i32 1616)))), (2, (7, (.t 67)))]), .none⟩, ⟨(.some 69), (.bs 99 9 [(.t 2), (.t 4), (.t 6), (.t 8), (.t 10), (.t 12), (.t 14), (.t 16), (.t 18), (.t 20),
  (.t 22), (.t 24), (.t 26), (.t 28), (.t 30), (.t 32), (.t 34), (.t 36), (.t 38), (.t 40), (.t 42), (.t 44), (.t 46), (.t 48), (.t 50), (.t 52), (.t 54), (.t 56), (.t 58), (.t 60), (.t 62), (.t 64),
  (.t 66), (.t 68)]), .none⟩, ⟨(.some 0), (.mv (.t 69)), .none⟩]) .ret))
theorem c90 : Try.f90.body.bind (cCode Try.prog 70) = some a90 := by kernel_rfl
theorem r90 : Try.f90.results.toList = [(.tmp 0)] := by kernel_rfl
theorem n90 : Try.f90.ntmps = 70 := by kernel_rfl
theorem e90 : Enters Try.prog 90 := enters_of Try.func90 (by kernel_rfl) (by kernel_rfl)
def a91 : ACode :=
  (.seq (.reg [⟨(.some 0), (.mv (.k (.slice .none 0 0))), .none⟩]) (.seq (.reg [⟨(.some 1), (.bd [(.int .u8 0), (.int .u8 0), (.int .u8 0), (.int .u8 0), (.int .u8 0), (.int .u8 0), (.int .u8 0)] [(0,
  (1, (.k (.int .u8 4)))), (1, (1, (.k (.int .u8 8)))), (2, (1, (.k (.int .u8 2)))), (3, (1, (.k (.int .u8 33)))), (4, (1, (.k (.int .u8 1))))]), .none⟩, ⟨(.some 2), (.bd [(.int .i32 0), (.int .i32 0),
  (.int .u8 0), (.int .u8 0), (.int .u8 0), (.int .u8 0), (.int .u8 0), (.int .u8 0), (.int .u8 0)] [(0, (1, (.k (.int .i32 1617)))), (1, (1, (.k (.int .i32 1617)))), (2, (7, (.t 1)))]), .none⟩, ⟨(.some
  3), (.bd [(.int .u8 0), (.int .u8 0), (.int .u8 0), (.int .u8 0), (.int .u8 0), (.int .u8 0), (.int .u8 0)] [(0, (1, (.k (.int .u8 4)))), (1, (1, (.k (.int .u8 8)))), (2, (1, (.k (.int .u8 2)))), (3,
  (1, (.k (.int .u8 34)))), (4, (1, (.k (.int .u8 1))))]), .none⟩, ⟨(.some 4), (.bd [(.int .i32 0), (.int .i32 0), (.int .u8 0), (.int .u8 0), (.int .u8 0), (.int .u8 0), (.int .u8 0), (.int .u8 0),
  (.int .u8 0)] [(0, (1, (.k (.int .i32 1618)))), (1, (1, (.k (.int .i32 1618)))), (2, (7, (.t 3)))]), .none⟩, ⟨(.some 5), (.bd [(.int .u8 0), (.int .u8 0), (.int .u8 0), (.int .u8 0), (.int .u8 0),
  (.int .u8 0), (.int .u8 0)] [(0, (1, (.k (.int .u8 4)))), (1, (1, (.k (.int .u8 8)))), (2, (1, (.k (.int .u8 2)))), (3, (1, (.k (.int .u8 230)))), (4, (1, (.k (.int .u8 1))))]), .none⟩, ⟨(.some 6),
  (.bd [(.int .i32 0), (.int .i32 0), (.int .u8 0), (.int .u8 0), (.int .u8 0), (.int .u8 0), (.int .u8 0), (.int .u8 0), (.int .u8 0)] [(0, (1, (.k (.int .i32 1619)))), (1, (1, (.k (.int .i32 1620)))),
  (2, (7, (.t 5)))]), .none⟩, ⟨(.some 7), (.bd [(.int .u8 0), (.int .u8 0), (.int .u8 0), (.int .u8 0), (.int .u8 0), (.int .u8 0), (.int .u8 0)] [(0, (1, (.k (.int .u8 4)))), (1, (1, (.k (.int .u8
  8)))), (2, (1, (.k (.int .u8 2)))), (3, (1, (.k (.int .u8 220)))), (4, (1, (.k (.int .u8 1))))]), .none⟩, ⟨(.some 8), (.bd [(.int .i32 0), (.int .i32 0), (.int .u8 0), (.int .u8 0), (.int .u8 0),
  (.int .u8 0), (.int .u8 0), (.int .u8 0), (.int .u8 0)] [(0, (1, (.k (.int .i32 1621)))), (1, (1, (.k (.int .i32 1621)))), (2, (7, (.t 7)))]), .none⟩, ⟨(.some 9), (.bd [(.int .u8 0), (.int .u8 0),
  (.int .u8 0), (.int .u8 0), (.int .u8 0), (.int .u8 0), (.int .u8 0)] [(0, (1, (.k (.int .u8 5)))), (1, (1, (.k (.int .u8 6)))), (4, (1, (.k (.int .u8 6)))), (5, (1, (.k (.int .u8 2)))), (6, (1, (.k
  (.int .u8 1))))]), .none⟩, ⟨(.some 10), (.bd [(.int .i32 0), (.int .i32 0), (.int .u8 0), (.int .u8 0), (.int .u8 0), (.int .u8 0), (.int .u8 0), (.int .u8 0), (.int .u8 0)] [(0, (1, (.k (.int .i32
  1632)))), (1, (1, (.k (.int .i32 1641)))), (2, (7, (.t 9)))]), .none⟩, ⟨(.some 11), (.bd [(.int .u8 0), (.int .u8 0), (.int .u8 0), (.int .u8 0), (.int .u8 0), (.int .u8 0), (.int .u8 0)] [(0, (1, (.k
  (.int .u8 6)))), (1, (1, (.k (.int .u8 5)))), (4, (1, (.k (.int .u8 6)))), (6, (1, (.k (.int .u8 1))))]), .none⟩, ⟨(.some 12), (.bd [(.int .i32 0), (.int .i32 0), (.int .u8 0), (.int .u8 0), (.int .u8
  0), (.int .u8 0), (.int .u8 0), (.int .u8 0), (.int .u8 0)] [(0, (1, (.k (.int .i32 1642)))), (1, (1, (.k (.int .i32 1642)))), (2, (7, (.t 11)))]), .none⟩, ⟨(.some 13), (.bd [(.int .u8 0), (.int .u8
  0), (.int .u8 0), (.int .u8 0), (.int .u8 0), (.int .u8 0), (.int .u8 0)] [(0, (1, (.k (.int .u8 6)))), (1, (1, (.k (.int .u8 6)))), (4, (1, (.k (.int .u8 6)))), (6, (1, (.k (.int .u8 1))))]), .none⟩,
  ⟨(.some 14), (.bd [(.int .i32 0), (.int .i32 0), (.int .u8 0), (.int .u8 0), (.int .u8 0), (.int .u8 0), (.int .u8 0), (.int .u8 0), (.int .u8 0)] [(0, (1, (.k (.int .i32 1643)))), (1, (1, (.k (.int
  .i32 1644)))), (2, (7, (.t 13)))]), .none⟩, ⟨(.some 15), (.bd [(.int .u8 0), (.int .u8 0), (.int .u8 0), (.int .u8 0), (.int .u8 0), (.int .u8 0), (.int .u8 0)] [(0, (1, (.k (.int .u8 3)))), (1, (1,
  (.k (.int .u8 2)))), (2, (1, (.k (.int .u8 3)))), (4, (1, (.k (.int .u8 6)))), (6, (1, (.k (.int .u8 1))))]), .none⟩, ⟨(.some 16), (.bd [(.int .i32 0), (.int .i32 0), (.int .u8 0), (.int .u8 0), (.int
  .u8 0), (.int .u8 0), (.int .u8 0), (.int .u8 0), (.int .u8 0)] [(0, (1, (.k (.int .i32 1740)))), (1, (1, (.k (.int .i32 1740)))), (2, (7, (.t 15)))]), .none⟩, ⟨(.some 17), (.bd [(.int .u8 0), (.int
  .u8 0), (.int .u8 0), (.int .u8 0), (.int .u8 0), (.int .u8 0), (.int .u8 0)] [(0, (1, (.k (.int .u8 5)))), (1, (1, (.k (.int .u8 3)))), (4, (1, (.k (.int .u8 6)))), (5, (1, (.k (.int .u8 3)))), (6,
  (1, (.k (.int .u8 1))))]), .none⟩, ⟨(.some 18), (.bd [(.int .i32 0), (.int .i32 0), (.int .u8 0), (.int .u8 0), (.int .u8 0), (.int .u8 0), (.int .u8 0), (.int .u8 0), (.int .u8 0)] [(0, (1, (.k (.int
  .i32 1776)))), (1, (1, (.k (.int .i32 1785)))), (2, (7, (.t 17)))]), .none⟩, ⟨(.some 19), (.bd [(.int .u8 0), (.int .u8 0), (.int .u8 0), (.int .u8 0), (.int .u8 0), (.int .u8 0), (.int .u8 0)] [(0,
  (1, (.k (.int .u8 4)))), (1, (1, (.k (.int .u8 8)))), (2, (1, (.k (.int .u8 2)))), (4, (1, (.k (.int .u8 7))))]), .none⟩, ⟨(.some 20), (.bd [(.int .i32 0), (.int .i32 0), (.int .u8 0), (.int .u8 0),
  (.int .u8 0), (.int .u8 0), (.int .u8 0), (.int .u8 0), (.int .u8 0)] [(0, (1, (.k (.int .i32 2306)))), (1, (1, (.k (.int .i32 2306)))), (2, (7, (.t 19)))]), .none⟩, ⟨(.some 21), (.bd [(.int .u8 0),
  (.int .u8 0), (.int .u8 0), (.int .u8 0), (.int .u8 0), (.int .u8 0), (.int .u8 0)] [(0, (1, (.k (.int .u8 4)))), (4, (1, (.k (.int .u8 7)))), (6, (1, (.k (.int .u8 1))))]), .none⟩, ⟨(.some 22), (.bd
  [(.int .i32 0), (.int .i32 0), (.int .u8 0), (.int .u8 0), (.int .u8 0), (.int .u8 0), (.int .u8 0), (.int .u8 0), (.int .u8 0)] [(0, (1, (.k (.int .i32 2307)))), (1, (1, (.k (.int .i32 2307)))), (2,
  (7, (.t 21)))]), .none⟩, ⟨(.some 23), (.bd [(.int .u8 0), (.int .u8 0), (.int .u8 0), (.int .u8 0), (.int .u8 0), (.int .u8 0), (.int .u8 0)] [(0, (1, (.k (.int .u8 3)))), (4, (1, (.k (.int .u8 7)))),
  (6, (1, (.k (.int .u8 1))))]), .none⟩, ⟨(.some 24), (.bd [(.int .i32 0), (.int .i32 0), (.int .u8 0), (.int .u8 0), (.int .u8 0), (.int .u8 0), (.int .u8 0), (.int .u8 0), (.int .u8 0)] [(0, (1, (.k
  (.int .i32 2309)))), (1, (1, (.k (.int .i32 2361)))), (2, (7, (.t 23)))]), .none⟩, ⟨(.some 25), (.bd [(.int .u8 0), (.int .u8 0), (.int .u8 0), (.int .u8 0), (.int .u8 0), (.int .u8 0), (.int .u8 0)]
  [(0, (1, (.k (.int .u8 4)))), (1, (1, (.k (.int .u8 8)))), (2, (1, (.k (.int .u8 2)))), (3, (1, (.k (.int .u8 7)))), (4, (1, (.k (.int .u8 7))))]), .none⟩, ⟨(.some 26), (.bd [(.int .i32 0), (.int .i32
  0), (.int .u8 0), (.int .u8 0), (.int .u8 0), (.int .u8 0), (.int .u8 0), (.int .u8 0), (.int .u8 0)] [(0, (1, (.k (.int .i32 2364)))), (1, (1, (.k (.int .i32 2364)))), (2, (7, (.t 25)))]), .none⟩,
  ⟨(.some 27), (.bd [(.int .u8 0), (.int .u8 0), (.int .u8 0), (.int .u8 0), (.int .u8 0), (.int .u8 0), (.int .u8 0)] [(0, (1, (.k (.int .u8 4)))), (4, (1, (.k (.int .u8 7)))), (6, (1, (.k (.int .u8
  1))))]), .none⟩, ⟨(.some 28), (.bd [(.int .i32 0), (.int .i32 0), (.int .u8 0), (.int .u8 0), (.int .u8 0), (.int .u8 0), (.int .u8 0), (.int .u8 0), (.int .u8 0)] [(0, (1, (.k (.int .i32 2366)))),
  (1, (1, (.k (.int .i32 2368)))), (2, (7, (.t 27)))]), .none⟩, ⟨(.some 29), (.bd [(.int .u8 0), (.int .u8 0), (.int .u8 0), (.int .u8 0), (.int .u8 0), (.int .u8 0), (.int .u8 0)] [(0, (1, (.k (.int
  .u8 4)))), (1, (1, (.k (.int .u8 8)))), (2, (1, (.k (.int .u8 2)))), (4, (1, (.k (.int .u8 7))))]), .none⟩, ⟨(.some 30), (.bd [(.int .i32 0), (.int .i32 0), (.int .u8 0), (.int .u8 0), (.int .u8 0),
  (.int .u8 0), (.int .u8 0), (.int .u8 0), (.int .u8 0)] [(0, (1, (.k (.int .i32 2369)))), (1, (1, (.k (.int .i32 2376)))), (2, (7, (.t 29)))]), .none⟩, ⟨(.some 31), (.bd [(.int .u8 0), (.int .u8 0),
  (.int .u8 0), (.int .u8 0), (.int .u8 0), (.int .u8 0), (.int .u8 0)] [(0, (1, (.k (.int .u8 4)))), (1, (1, (.k (.int .u8 8)))), (2, (1, (.k (.int .u8 2)))), (3, (1, (.k (.int .u8 9)))), (4, (1, (.k
  (.int .u8 7))))]), .none⟩, ⟨(.some 32), (.bd [(.int .i32 0), (.int .i32 0), (.int .u8 0), (.int .u8 0), (.int .u8 0), (.int .u8 0), (.int .u8 0), (.int .u8 0), (.int .u8 0)] [(0, (1, (.k (.int .i32
  2381)))), (1, (1, (.k (.int .i32 2381)))), (2, (7, (.t 31)))]), .none⟩, ⟨(.some 33), (.bd [(.int .u8 0), (.int .u8 0), (.int .u8 0), (.int .u8 0), (.int .u8 0), (.int .u8 0), (.int .u8 0)] [(0, (1,
  (.k (.int .u8 5)))), (4, (1, (.k (.int .u8 7)))), (5, (1, (.k (.int .u8 4)))), (6, (1, (.k (.int .u8 1))))]), .none⟩, ⟨(.some 34), (.bd [(.int .i32 0), (.int .i32 0), (.int .u8 0), (.int .u8 0), (.int
  .u8 0), (.int .u8 0), (.int .u8 0), (.int .u8 0), (.int .u8 0)] [(0, (1, (.k (.int .i32 2406)))), (1, (1, (.k (.int .i32 2415)))), (2, (7, (.t 33)))]), .none⟩, ⟨(.some 35), (.bd [(.int .u8 0), (.int
  .u8 0), (.int .u8 0), (.int .u8 0), (.int .u8 0), (.int .u8 0), (.int .u8 0)] [(0, (1, (.k (.int .u8 3)))), (4, (1, (.k (.int .u8 11)))), (6, (1, (.k (.int .u8 2))))]), .none⟩, ⟨(.some 36), (.bd
  [(.int .i32 0), (.int .i32 0), (.int .u8 0), (.int .u8 0), (.int .u8 0), (.int .u8 0), (.int .u8 0), (.int .u8 0), (.int .u8 0)] [(0, (1, (.k (.int .i32 4352)))), (1, (1, (.k (.int .i32 4370)))), (2,
  (7, (.t 35)))]), .none⟩, ⟨(.some 37), (.bd [(.int .u8 0), (.int .u8 0), (.int .u8 0), (.int .u8 0), (.int .u8 0), (.int .u8 0), (.int .u8 0)] [(0, (1, (.k (.int .u8 3)))), (4, (1, (.k (.int .u8
  11))))]), .none⟩, ⟨(.some 38), (.bd [(.int .i32 0), (.int .i32 0), (.int .u8 0), (.int .u8 0), (.int .u8 0), (.int .u8 0), (.int .u8 0), (.int .u8 0), (.int .u8 0)] [(0, (1, (.k (.int .i32 4449)))),
  (1, (1, (.k (.int .i32 4469)))), (2, (7, (.t 37)))]), .none⟩, ⟨(.some 39), (.bd [(.int .u8 0), (.int .u8 0), (.int .u8 0), (.int .u8 0), (.int .u8 0), (.int .u8 0), (.int .u8 0)] [(0, (1, (.k (.int
  .u8 3)))), (4, (1, (.k (.int .u8 11))))]), .none⟩, ⟨(.some 40), (.bd [(.int .i32 0), (.int .i32 0), (.int .u8 0), (.int .u8 0), (.int .u8 0), (.int .u8 0), (.int .u8 0), (.int .u8 0), (.int .u8 0)]
  [(0, (1, (.k (.int .i32 4520)))), (1, (1, (.k (.int .i32 4546)))), (2, (7, (.t 39)))]), .none⟩, ⟨(.some 41), (.bd [(.int .u8 0), (.int .u8 0), (.int .u8 0), (.int .u8 0), (.int .u8 0), (.int .u8 0),
  (.int .u8 0)] [(0, (1, (.k (.int .u8 10)))), (1, (1, (.k (.int .u8 9)))), (2, (1, (.k (.int .u8 2))))]), .none⟩, ⟨(.some 42), (.bd [(.int .i32 0), (.int .i32 0), (.int .u8 0), (.int .u8 0), (.int .u8
  0), (.int .u8 0), (.int .u8 0), (.int .u8 0), (.int .u8 0)] [(0, (1, (.k (.int .i32 8203)))), (1, (1, (.k (.int .i32 8203)))), (2, (7, (.t 41)))]), .none⟩, ⟨(.some 43), (.bd [(.int .u8 0), (.int .u8
  0), (.int .u8 0), (.int .u8 0), (.int .u8 0), (.int .u8 0), (.int .u8 0)] [(0, (1, (.k (.int .u8 10)))), (1, (1, (.k (.int .u8 9)))), (4, (1, (.k (.int .u8 1))))]), .none⟩, ⟨(.some 44), (.bd [(.int
  .i32 0), (.int .i32 0), (.int .u8 0), (.int .u8 0), (.int .u8 0), (.int .u8 0), (.int .u8 0), (.int .u8 0), (.int .u8 0)] [(0, (1, (.k (.int .i32 8204)))), (1, (1, (.k (.int .i32 8204)))), (2, (7, (.t
  43)))]), .none⟩, ⟨(.some 45), (.bd [(.int .u8 0), (.int .u8 0), (.int .u8 0), (.int .u8 0), (.int .u8 0), (.int .u8 0), (.int .u8 0)] [(0, (1, (.k (.int .u8 10)))), (1, (1, (.k (.int .u8 9)))), (2,
  (1, (.k (.int .u8 1)))), (4, (1, (.k (.int .u8 1))))]), .none⟩, ⟨(.some 46), (.bd [(.int .i32 0), (.int .i32 0), (.int .u8 0), (.int .u8 0), (.int .u8 0), (.int .u8 0), (.int .u8 0), (.int .u8 0),
  (.int .u8 0)] [(0, (1, (.k (.int .i32 8205)))), (1, (1, (.k (.int .i32 8205)))), (2, (7, (.t 45)))]), .none⟩, ⟨(.some 47), (.bd [(.int .u8 0), (.int .u8 0), (.int .u8 0), (.int .u8 0), (.int .u8 0),
  (.int .u8 0), (.int .u8 0)] [(0, (1, (.k (.int .u8 10)))), (2, (1, (.k (.int .u8 2))))]), .none⟩, ⟨(.some 48), (.bd [(.int .i32 0), (.int .i32 0), (.int .u8 0), (.int .u8 0), (.int .u8 0), (.int .u8
  0), (.int .u8 0), (.int .u8 0), (.int .u8 0)] [(0, (1, (.k (.int .i32 8206)))), (1, (1, (.k (.int .i32 8206)))), (2, (7, (.t 47)))]), .none⟩, ⟨(.some 49), (.bd [(.int .u8 0), (.int .u8 0), (.int .u8
  0), (.int .u8 0), (.int .u8 0), (.int .u8 0), (.int .u8 0)] [(0, (1, (.k (.int .u8 10)))), (1, (1, (.k (.int .u8 1)))), (2, (1, (.k (.int .u8 2))))]), .none⟩, ⟨(.some 50), (.bd [(.int .i32 0), (.int
  .i32 0), (.int .u8 0), (.int .u8 0), (.int .u8 0), (.int .u8 0), (.int .u8 0), (.int .u8 0), (.int .u8 0)] [(0, (1, (.k (.int .i32 8207)))), (1, (1, (.k (.int .i32 8207)))), (2, (7, (.t 49)))]),
  .none⟩, ⟨(.some 51), (.bd [(.int .u8 0), (.int .u8 0), (.int .u8 0), (.int .u8 0), (.int .u8 0), (.int .u8 0), (.int .u8 0)] [(0, (1, (.k (.int .u8 6)))), (1, (1, (.k (.int .u8 13)))), (6, (1, (.k
  (.int .u8 1))))]), .none⟩, ⟨(.some 52), (.bd [(.int .i32 0), (.int .i32 0), (.int .u8 0), (.int .u8 0), (.int .u8 0), (.int .u8 0), (.int .u8 0), (.int .u8 0), (.int .u8 0)] [(0, (1, (.k (.int .i32
  8211)))), (1, (1, (.k (.int .i32 8212)))), (2, (7, (.t 51)))]), .none⟩, ⟨(.some 53), (.bd [(.int .u8 0), (.int .u8 0), (.int .u8 0), (.int .u8 0), (.int .u8 0), (.int .u8 0), (.int .u8 0)] [(0, (1,
  (.k (.int .u8 6)))), (1, (1, (.k (.int .u8 13)))), (6, (1, (.k (.int .u8 1))))]), .none⟩, ⟨(.some 54), (.bd [(.int .i32 0), (.int .i32 0), (.int .u8 0), (.int .u8 0), (.int .u8 0), (.int .u8 0), (.int
  .u8 0), (.int .u8 0), (.int .u8 0)] [(0, (1, (.k (.int .i32 8216)))), (1, (1, (.k (.int .i32 8223)))), (2, (7, (.t 53)))]), .none⟩, ⟨(.some 55), (.bd [(.int .u8 0), (.int .u8 0), (.int .u8 0), (.int
  .u8 0), (.int .u8 0), (.int .u8 0), (.int .u8 0)] [(0, (1, (.k (.int .u8 6)))), (1, (1, (.k (.int .u8 13)))), (6, (1, (.k (.int .u8 1))))]), .none⟩, ⟨(.some 56), (.bd [(.int .i32 0), (.int .i32 0),
  (.int .u8 0), (.int .u8 0), (.int .u8 0), (.int .u8 0), (.int .u8 0), (.int .u8 0), (.int .u8 0)] [(0, (1, (.k (.int .i32 8230)))), (1, (1, (.k (.int .i32 8230)))), (2, (7, (.t 55)))]), .none⟩,
  ⟨(.some 57), (.bd [(.int .u8 0), (.int .u8 0), (.int .u8 0), (.int .u8 0), (.int .u8 0), (.int .u8 0), (.int .u8 0)] [(0, (1, (.k (.int .u8 8)))), (1, (1, (.k (.int .u8 12))))]), .none⟩, ⟨(.some 58),
  (.bd [(.int .i32 0), (.int .i32 0), (.int .u8 0), (.int .u8 0), (.int .u8 0), (.int .u8 0), (.int .u8 0), (.int .u8 0), (.int .u8 0)] [(0, (1, (.k (.int .i32 8232)))), (1, (1, (.k (.int .i32 8232)))),
  (2, (7, (.t 57)))]), .none⟩, ⟨(.some 59), (.bd [(.int .u8 0), (.int .u8 0), (.int .u8 0), (.int .u8 0), (.int .u8 0), (.int .u8 0), (.int .u8 0)] [(0, (1, (.k (.int .u8 8)))), (1, (1, (.k (.int .u8
  10))))]), .none⟩, ⟨(.some 60), (.bd [(.int .i32 0), (.int .i32 0), (.int .u8 0), (.int .u8 0), (.int .u8 0), (.int .u8 0), (.int .u8 0), (.int .u8 0), (.int .u8 0)] [(0, (1, (.k (.int .i32 8233)))),
  (1, (1, (.k (.int .i32 8233)))), (2, (7, (.t 59)))]), .none⟩, ⟨(.some 61), (.bd [(.int .u8 0), (.int .u8 0), (.int .u8 0), (.int .u8 0), (.int .u8 0), (.int .u8 0), (.int .u8 0)] [(0, (1, (.k (.int
  .u8 10)))), (1, (1, (.k (.int .u8 14)))), (2, (1, (.k (.int .u8 2))))]), .none⟩, ⟨(.some 62), (.bd [(.int .i32 0), (.int .i32 0), (.int .u8 0), (.int .u8 0), (.int .u8 0), (.int .u8 0), (.int .u8 0),
  (.int .u8 0), (.int .u8 0)] [(0, (1, (.k (.int .i32 8234)))), (1, (1, (.k (.int .i32 8234)))), (2, (7, (.t 61)))]), .none⟩, ⟨(.some 63), (.bd [(.int .u8 0), (.int .u8 0), (.int .u8 0), (.int .u8 0),
  (.int .u8 0), (.int .u8 0), (.int .u8 0)] [(0, (1, (.k (.int .u8 10)))), (1, (1, (.k (.int .u8 15)))), (2, (1, (.k (.int .u8 2))))]), .none⟩, ⟨(.some 64), (.bd [(.int .i32 0), (.int .i32 0), (.int .u8
  0), (.int .u8 0), (.int .u8 0), (.int .u8 0), (.int .u8 0), (.int .u8 0), (.int .u8 0)] [(0, (1, (.k (.int .i32 8235)))), (1, (1, (.k (.int .i32 8235)))), (2, (7, (.t 63)))]), .none⟩, ⟨(.some 65),
  (.bd [(.int .u8 0), (.int .u8 0), (.int .u8 0), (.int .u8 0), (.int .u8 0), (.int .u8 0), (.int .u8 0)] [(0, (1, (.k (.int .u8 10)))), (1, (1, (.k (.int .u8 16)))), (2, (1, (.k (.int .u8 2))))]),
  .none⟩, ⟨(.some 66), (.bd [(.int .i32 0), (.int .i32 0), (.int .u8 0), (.int .u8 0), (.int .u8 0), (.int .u8 0), (.int .u8 0), (.int .u8 0), (.int .u8 0)] [(0, (1, (.k (.int .i32 8236)))), (1, (1, (.k
  (.int .i32 8236)))), (2, (7, (.t 65)))]), .none⟩, ⟨(.some 67), (.bd [(.int .u8 0), (.int .u8 0), (.int .u8 0), (.int .u8 0), (.int .u8 0), (.int .u8 0), (.int .u8 0)] [(0, (1, (.k (.int .u8 10)))),
  (1, (1, (.k (.int .u8 17)))), (2, (1, (.k (.int .u8 2))))]), .none⟩, ⟨(.some 68), (.bd [(.int .i32 0), (.int .i32 0), (.int .u8 0), (.int .u8 0), (.int .u8 0), (.int .u8 0), (.int .u8 0), (.int .u8
  0), (.int .u8 0)] [(0, (1, (.k (.int .i32 8237)))), (1, (1, (.k (.int .i32 8237)))), (2, (7, (.t 67)))]), .none⟩, ⟨(.some 69), (.bs 99 9 [(.t 2), (.t 4), (.t 6), (.t 8), (.t 10), (.t 12), (.t 14), (.t
  16), (.t 18), (.t 20), (.t 22), (.t 24), (.t 26), (.t 28), (.t 30), (.t 32), (.t 34), (.t 36), (.t 38), (.t 40), (.t 42), (.t 44), (.t 46), (.t 48), (.t 50), (.t 52), (.t 54), (.t 56), (.t 58), (.t
  60), (.t 62), (.t 64), (.t 66), (.t 68)]), .none⟩, ⟨(.some 0), (.mv (.t 69)), .none⟩]) .ret))
theorem c91 : Try.f91.body.bind (cCode Try.prog 70) = some a91 := by kernel_rfl
theorem r91 : Try.f91.results.toList = [(.tmp 0)] := by kernel_rfl
theorem n91 : Try.f91.ntmps = 70 := by kernel_rfl
theorem e91 : Enters Try.prog 91 := enters_of Try.func91 (by kernel_rfl) (by kernel_rfl)
def a92 : ACode :=
  (.seq (.reg [⟨(.some 0), (.mv (.k (.slice .none 0 0))), .none⟩]) (.seq (.reg [⟨(.some 1), (.bd [(.int .u8 0), (.int .u8 0), (.int .u8 0), (.int .u8 0), (.int .u8 0), (.int .u8 0), (.int .u8 0)] [(0,
  (1, (.k (.int .u8 10)))), (1, (1, (.k (.int .u8 18)))), (2, (1, (.k (.int .u8 2))))]), .none⟩, ⟨(.some 2), (.bd [(.int .i32 0), (.int .i32 0), (.int .u8 0), (.int .u8 0), (.int .u8 0), (.int .u8 0),
  (.int .u8 0), (.int .u8 0), (.int .u8 0)] [(0, (1, (.k (.int .i32 8238)))), (1, (1, (.k (.int .i32 8238)))), (2, (7, (.t 1)))]), .none⟩, ⟨(.some 3), (.bd [(.int .u8 0), (.int .u8 0), (.int .u8 0),
  (.int .u8 0), (.int .u8 0), (.int .u8 0), (.int .u8 0)] [(0, (1, (.k (.int .u8 7)))), (1, (1, (.k (.int .u8 7)))), (6, (1, (.k (.int .u8 1))))]), .none⟩, ⟨(.some 4), (.bd [(.int .i32 0), (.int .i32
  0), (.int .u8 0), (.int .u8 0), (.int .u8 0), (.int .u8 0), (.int .u8 0), (.int .u8 0), (.int .u8 0)] [(0, (1, (.k (.int .i32 8260)))), (1, (1, (.k (.int .i32 8260)))), (2, (7, (.t 3)))]), .none⟩,
  ⟨(.some 5), (.bd [(.int .u8 0), (.int .u8 0), (.int .u8 0), (.int .u8 0), (.int .u8 0), (.int .u8 0), (.int .u8 0)] [(0, (1, (.k (.int .u8 10)))), (1, (1, (.k (.int .u8 19))))]), .none⟩, ⟨(.some 6),
  (.bd [(.int .i32 0), (.int .i32 0), (.int .u8 0), (.int .u8 0), (.int .u8 0), (.int .u8 0), (.int .u8 0), (.int .u8 0), (.int .u8 0)] [(0, (1, (.k (.int .i32 8294)))), (1, (1, (.k (.int .i32 8294)))),
  (2, (7, (.t 5)))]), .none⟩, ⟨(.some 7), (.bd [(.int .u8 0), (.int .u8 0), (.int .u8 0), (.int .u8 0), (.int .u8 0), (.int .u8 0), (.int .u8 0)] [(0, (1, (.k (.int .u8 10)))), (1, (1, (.k (.int .u8
  20))))]), .none⟩, ⟨(.some 8), (.bd [(.int .i32 0), (.int .i32 0), (.int .u8 0), (.int .u8 0), (.int .u8 0), (.int .u8 0), (.int .u8 0), (.int .u8 0), (.int .u8 0)] [(0, (1, (.k (.int .i32 8295)))),
  (1, (1, (.k (.int .i32 8295)))), (2, (7, (.t 7)))]), .none⟩, ⟨(.some 9), (.bd [(.int .u8 0), (.int .u8 0), (.int .u8 0), (.int .u8 0), (.int .u8 0), (.int .u8 0), (.int .u8 0)] [(0, (1, (.k (.int .u8
  10)))), (1, (1, (.k (.int .u8 21))))]), .none⟩, ⟨(.some 10), (.bd [(.int .i32 0), (.int .i32 0), (.int .u8 0), (.int .u8 0), (.int .u8 0), (.int .u8 0), (.int .u8 0), (.int .u8 0), (.int .u8 0)] [(0,
  (1, (.k (.int .i32 8296)))), (1, (1, (.k (.int .i32 8296)))), (2, (7, (.t 9)))]), .none⟩, ⟨(.some 11), (.bd [(.int .u8 0), (.int .u8 0), (.int .u8 0), (.int .u8 0), (.int .u8 0), (.int .u8 0), (.int
  .u8 0)] [(0, (1, (.k (.int .u8 10)))), (1, (1, (.k (.int .u8 22))))]), .none⟩, ⟨(.some 12), (.bd [(.int .i32 0), (.int .i32 0), (.int .u8 0), (.int .u8 0), (.int .u8 0), (.int .u8 0), (.int .u8 0),
  (.int .u8 0), (.int .u8 0)] [(0, (1, (.k (.int .i32 8297)))), (1, (1, (.k (.int .i32 8297)))), (2, (7, (.t 11)))]), .none⟩, ⟨(.some 13), (.bd [(.int .u8 0), (.int .u8 0), (.int .u8 0), (.int .u8 0),
  (.int .u8 0), (.int .u8 0), (.int .u8 0)] [(0, (1, (.k (.int .u8 7)))), (1, (1, (.k (.int .u8 5)))), (6, (1, (.k (.int .u8 1))))]), .none⟩, ⟨(.some 14), (.bd [(.int .i32 0), (.int .i32 0), (.int .u8
  0), (.int .u8 0), (.int .u8 0), (.int .u8 0), (.int .u8 0), (.int .u8 0), (.int .u8 0)] [(0, (1, (.k (.int .i32 8364)))), (1, (1, (.k (.int .i32 8364)))), (2, (7, (.t 13)))]), .none⟩, ⟨(.some 15),
  (.bd [(.int .u8 0), (.int .u8 0), (.int .u8 0), (.int .u8 0), (.int .u8 0), (.int .u8 0), (.int .u8 0)] [(0, (1, (.k (.int .u8 7)))), (1, (1, (.k (.int .u8 4)))), (6, (1, (.k (.int .u8 1))))]),
  .none⟩, ⟨(.some 16), (.bd [(.int .i32 0), (.int .i32 0), (.int .u8 0), (.int .u8 0), (.int .u8 0), (.int .u8 0), (.int .u8 0), (.int .u8 0), (.int .u8 0)] [(0, (1, (.k (.int .i32 8722)))), (1, (1, (.k
  (.int .i32 8722)))), (2, (7, (.t 15)))]), .none⟩, ⟨(.some 17), (.bd [(.int .u8 0), (.int .u8 0), (.int .u8 0), (.int .u8 0), (.int .u8 0), (.int .u8 0), (.int .u8 0)] [(0, (1, (.k (.int .u8 7)))), (1,
  (1, (.k (.int .u8 13)))), (6, (1, (.k (.int .u8 1))))]), .none⟩, ⟨(.some 18), (.bd [(.int .i32 0), (.int .i32 0), (.int .u8 0), (.int .u8 0), (.int .u8 0), (.int .u8 0), (.int .u8 0), (.int .u8 0),
  (.int .u8 0)] [(0, (1, (.k (.int .i32 8725)))), (1, (1, (.k (.int .i32 8725)))), (2, (7, (.t 17)))]), .none⟩, ⟨(.some 19), (.bd [(.int .u8 0), (.int .u8 0), (.int .u8 0), (.int .u8 0), (.int .u8 0),
  (.int .u8 0), (.int .u8 0)] [(0, (1, (.k (.int .u8 6)))), (1, (1, (.k (.int .u8 13)))), (6, (1, (.k (.int .u8 2))))]), .none⟩, ⟨(.some 20), (.bd [(.int .i32 0), (.int .i32 0), (.int .u8 0), (.int .u8
  0), (.int .u8 0), (.int .u8 0), (.int .u8 0), (.int .u8 0), (.int .u8 0)] [(0, (1, (.k (.int .i32 9001)))), (1, (1, (.k (.int .i32 9002)))), (2, (7, (.t 19)))]), .none⟩, ⟨(.some 21), (.bd [(.int .u8
  0), (.int .u8 0), (.int .u8 0), (.int .u8 0), (.int .u8 0), (.int .u8 0), (.int .u8 0)] [(0, (1, (.k (.int .u8 6)))), (1, (1, (.k (.int .u8 13)))), (6, (1, (.k (.int .u8 2))))]), .none⟩, ⟨(.some 22),
  (.bd [(.int .i32 0), (.int .i32 0), (.int .u8 0), (.int .u8 0), (.int .u8 0), (.int .u8 0), (.int .u8 0), (.int .u8 0), (.int .u8 0)] [(0, (1, (.k (.int .i32 12290)))), (1, (1, (.k (.int .i32
  12290)))), (2, (7, (.t 21)))]), .none⟩, ⟨(.some 23), (.bd [(.int .u8 0), (.int .u8 0), (.int .u8 0), (.int .u8 0), (.int .u8 0), (.int .u8 0), (.int .u8 0)] [(0, (1, (.k (.int .u8 3)))), (4, (1, (.k
  (.int .u8 8)))), (6, (1, (.k (.int .u8 2))))]), .none⟩, ⟨(.some 24), (.bd [(.int .i32 0), (.int .i32 0), (.int .u8 0), (.int .u8 0), (.int .u8 0), (.int .u8 0), (.int .u8 0), (.int .u8 0), (.int .u8
  0)] [(0, (1, (.k (.int .i32 12293)))), (1, (1, (.k (.int .i32 12293)))), (2, (7, (.t 23)))]), .none⟩, ⟨(.some 25), (.bd [(.int .u8 0), (.int .u8 0), (.int .u8 0), (.int .u8 0), (.int .u8 0), (.int .u8
  0), (.int .u8 0)] [(0, (1, (.k (.int .u8 6)))), (1, (1, (.k (.int .u8 13)))), (6, (1, (.k (.int .u8 2))))]), .none⟩, ⟨(.some 26), (.bd [(.int .i32 0), (.int .i32 0), (.int .u8 0), (.int .u8 0), (.int
  .u8 0), (.int .u8 0), (.int .u8 0), (.int .u8 0), (.int .u8 0)] [(0, (1, (.k (.int .i32 12296)))), (1, (1, (.k (.int .i32 12297)))), (2, (7, (.t 25)))]), .none⟩, ⟨(.some 27), (.bd [(.int .u8 0), (.int
  .u8 0), (.int .u8 0), (.int .u8 0), (.int .u8 0), (.int .u8 0), (.int .u8 0)] [(0, (1, (.k (.int .u8 6)))), (1, (1, (.k (.int .u8 13)))), (6, (1, (.k (.int .u8 2))))]), .none⟩, ⟨(.some 28), (.bd
  [(.int .i32 0), (.int .i32 0), (.int .u8 0), (.int .u8 0), (.int .u8 0), (.int .u8 0), (.int .u8 0), (.int .u8 0), (.int .u8 0)] [(0, (1, (.k (.int .i32 12300)))), (1, (1, (.k (.int .i32 12301)))),
  (2, (7, (.t 27)))]), .none⟩, ⟨(.some 29), (.bd [(.int .u8 0), (.int .u8 0), (.int .u8 0), (.int .u8 0), (.int .u8 0), (.int .u8 0), (.int .u8 0)] [(0, (1, (.k (.int .u8 3)))), (4, (1, (.k (.int .u8
  9)))), (6, (1, (.k (.int .u8 2))))]), .none⟩, ⟨(.some 30), (.bd [(.int .i32 0), (.int .i32 0), (.int .u8 0), (.int .u8 0), (.int .u8 0), (.int .u8 0), (.int .u8 0), (.int .u8 0), (.int .u8 0)] [(0,
  (1, (.k (.int .i32 12353)))), (1, (1, (.k (.int .i32 12438)))), (2, (7, (.t 29)))]), .none⟩, ⟨(.some 31), (.bd [(.int .u8 0), (.int .u8 0), (.int .u8 0), (.int .u8 0), (.int .u8 0), (.int .u8 0),
  (.int .u8 0)] [(0, (1, (.k (.int .u8 4)))), (1, (1, (.k (.int .u8 8)))), (2, (1, (.k (.int .u8 2)))), (3, (1, (.k (.int .u8 8)))), (4, (1, (.k (.int .u8 1))))]), .none⟩, ⟨(.some 32), (.bd [(.int .i32
  0), (.int .i32 0), (.int .u8 0), (.int .u8 0), (.int .u8 0), (.int .u8 0), (.int .u8 0), (.int .u8 0), (.int .u8 0)] [(0, (1, (.k (.int .i32 12441)))), (1, (1, (.k (.int .i32 12441)))), (2, (7, (.t
  31)))]), .none⟩, ⟨(.some 33), (.bd [(.int .u8 0), (.int .u8 0), (.int .u8 0), (.int .u8 0), (.int .u8 0), (.int .u8 0), (.int .u8 0)] [(0, (1, (.k (.int .u8 3)))), (4, (1, (.k (.int .u8 10)))), (6,
  (1, (.k (.int .u8 2))))]), .none⟩, ⟨(.some 34), (.bd [(.int .i32 0), (.int .i32 0), (.int .u8 0), (.int .u8 0), (.int .u8 0), (.int .u8 0), (.int .u8 0), (.int .u8 0), (.int .u8 0)] [(0, (1, (.k (.int
  .i32 12449)))), (1, (1, (.k (.int .i32 12538)))), (2, (7, (.t 33)))]), .none⟩, ⟨(.some 35), (.bd [(.int .u8 0), (.int .u8 0), (.int .u8 0), (.int .u8 0), (.int .u8 0), (.int .u8 0), (.int .u8 0)] [(0,
  (1, (.k (.int .u8 6)))), (1, (1, (.k (.int .u8 13)))), (6, (1, (.k (.int .u8 2))))]), .none⟩, ⟨(.some 36), (.bd [(.int .i32 0), (.int .i32 0), (.int .u8 0), (.int .u8 0), (.int .u8 0), (.int .u8 0),
  (.int .u8 0), (.int .u8 0), (.int .u8 0)] [(0, (1, (.k (.int .i32 12539)))), (1, (1, (.k (.int .i32 12539)))), (2, (7, (.t 35)))]), .none⟩, ⟨(.some 37), (.bd [(.int .u8 0), (.int .u8 0), (.int .u8 0),
  (.int .u8 0), (.int .u8 0), (.int .u8 0), (.int .u8 0)] [(0, (1, (.k (.int .u8 3)))), (6, (1, (.k (.int .u8 2))))]), .none⟩, ⟨(.some 38), (.bd [(.int .i32 0), (.int .i32 0), (.int .u8 0), (.int .u8
  0), (.int .u8 0), (.int .u8 0), (.int .u8 0), (.int .u8 0), (.int .u8 0)] [(0, (1, (.k (.int .i32 12540)))), (1, (1, (.k (.int .i32 12540)))), (2, (7, (.t 37)))]), .none⟩, ⟨(.some 39), (.bd [(.int .u8
  0), (.int .u8 0), (.int .u8 0), (.int .u8 0), (.int .u8 0), (.int .u8 0), (.int .u8 0)] [(0, (1, (.k (.int .u8 3)))), (4, (1, (.k (.int .u8 8)))), (6, (1, (.k (.int .u8 2))))]), .none⟩, ⟨(.some 40),
  (.bd [(.int .i32 0), (.int .i32 0), (.int .u8 0), (.int .u8 0), (.int .u8 0), (.int .u8 0), (.int .u8 0), (.int .u8 0), (.int .u8 0)] [(0, (1, (.k (.int .i32 19968)))), (1, (1, (.k (.int .i32
  40959)))), (2, (7, (.t 39)))]), .none⟩, ⟨(.some 41), (.bd [(.int .u8 0), (.int .u8 0), (.int .u8 0), (.int .u8 0), (.int .u8 0), (.int .u8 0), (.int .u8 0)] [(0, (1, (.k (.int .u8 3)))), (4, (1, (.k
  (.int .u8 11)))), (6, (1, (.k (.int .u8 2))))]), .none⟩, ⟨(.some 42), (.bd [(.int .i32 0), (.int .i32 0), (.int .u8 0), (.int .u8 0), (.int .u8 0), (.int .u8 0), (.int .u8 0), (.int .u8 0), (.int .u8
  0)] [(0, (1, (.k (.int .i32 44032)))), (1, (1, (.k (.int .i32 55203)))), (2, (7, (.t 41)))]), .none⟩, ⟨(.some 43), (.bd [(.int .u8 0), (.int .u8 0), (.int .u8 0), (.int .u8 0), (.int .u8 0), (.int .u8
  0), (.int .u8 0)] [(0, (1, (.k (.int .u8 4)))), (1, (1, (.k (.int .u8 8)))), (2, (1, (.k (.int .u8 2)))), (4, (1, (.k (.int .u8 1))))]), .none⟩, ⟨(.some 44), (.bd [(.int .i32 0), (.int .i32 0), (.int
  .u8 0), (.int .u8 0), (.int .u8 0), (.int .u8 0), (.int .u8 0), (.int .u8 0), (.int .u8 0)] [(0, (1, (.k (.int .i32 65038)))), (1, (1, (.k (.int .i32 65039)))), (2, (7, (.t 43)))]), .none⟩, ⟨(.some
  45), (.bd [(.int .u8 0), (.int .u8 0), (.int .u8 0), (.int .u8 0), (.int .u8 0), (.int .u8 0), (.int .u8 0)] [(0, (1, (.k (.int .u8 10)))), (1, (1, (.k (.int .u8 9)))), (2, (1, (.k (.int .u8 2))))]),
  .none⟩, ⟨(.some 46), (.bd [(.int .i32 0), (.int .i32 0), (.int .u8 0), (.int .u8 0), (.int .u8 0), (.int .u8 0), (.int .u8 0), (.int .u8 0), (.int .u8 0)] [(0, (1, (.k (.int .i32 65279)))), (1, (1,
  (.k (.int .i32 65279)))), (2, (7, (.t 45)))]), .none⟩, ⟨(.some 47), (.bd [(.int .u8 0), (.int .u8 0), (.int .u8 0), (.int .u8 0), (.int .u8 0), (.int .u8 0), (.int .u8 0)] [(0, (1, (.k (.int .u8
  6)))), (1, (1, (.k (.int .u8 13)))), (6, (1, (.k (.int .u8 2))))]), .none⟩, ⟨(.some 48), (.bd [(.int .i32 0), (.int .i32 0), (.int .u8 0), (.int .u8 0), (.int .u8 0), (.int .u8 0), (.int .u8 0), (.int
  .u8 0), (.int .u8 0)] [(0, (1, (.k (.int .i32 65288)))), (1, (1, (.k (.int .i32 65289)))), (2, (7, (.t 47)))]), .none⟩, ⟨(.some 49), (.bd [(.int .u8 0), (.int .u8 0), (.int .u8 0), (.int .u8 0), (.int
  .u8 0), (.int .u8 0), (.int .u8 0)] [(0, (1, (.k (.int .u8 6)))), (1, (1, (.k (.int .u8 7)))), (6, (1, (.k (.int .u8 2))))]), .none⟩, ⟨(.some 50), (.bd [(.int .i32 0), (.int .i32 0), (.int .u8 0),
  (.int .u8 0), (.int .u8 0), (.int .u8 0), (.int .u8 0), (.int .u8 0), (.int .u8 0)] [(0, (1, (.k (.int .i32 65294)))), (1, (1, (.k (.int .i32 65295)))), (2, (7, (.t 49)))]), .none⟩, ⟨(.some 51), (.bd
  [(.int .u8 0), (.int .u8 0), (.int .u8 0), (.int .u8 0), (.int .u8 0), (.int .u8 0), (.int .u8 0)] [(0, (1, (.k (.int .u8 5)))), (1, (1, (.k (.int .u8 3)))), (5, (1, (.k (.int .u8 5)))), (6, (1, (.k
  (.int .u8 2))))]), .none⟩, ⟨(.some 52), (.bd [(.int .i32 0), (.int .i32 0), (.int .u8 0), (.int .u8 0), (.int .u8 0), (.int .u8 0), (.int .u8 0), (.int .u8 0), (.int .u8 0)] [(0, (1, (.k (.int .i32
  65296)))), (1, (1, (.k (.int .i32 65305)))), (2, (7, (.t 51)))]), .none⟩, ⟨(.some 53), (.bd [(.int .u8 0), (.int .u8 0), (.int .u8 0), (.int .u8 0), (.int .u8 0), (.int .u8 0), (.int .u8 0)] [(0, (1,
  (.k (.int .u8 6)))), (1, (1, (.k (.int .u8 7)))), (6, (1, (.k (.int .u8 2))))]), .none⟩, ⟨(.some 54), (.bd [(.int .i32 0), (.int .i32 0), (.int .u8 0), (.int .u8 0), (.int .u8 0), (.int .u8 0), (.int
  .u8 0), (.int .u8 0), (.int .u8 0)] [(0, (1, (.k (.int .i32 65306)))), (1, (1, (.k (.int .i32 65306)))), (2, (7, (.t 53)))]), .none⟩, ⟨(.some 55), (.bd [(.int .u8 0), (.int .u8 0), (.int .u8 0), (.int
  .u8 0), (.int .u8 0), (.int .u8 0), (.int .u8 0)] [(0, (1, (.k (.int .u8 2)))), (4, (1, (.k (.int .u8 2)))), (6, (1, (.k (.int .u8 2))))]), .none⟩, ⟨(.some 56), (.bd [(.int .i32 0), (.int .i32 0),
  (.int .u8 0), (.int .u8 0), (.int .u8 0), (.int .u8 0), (.int .u8 0), (.int .u8 0), (.int .u8 0)] [(0, (1, (.k (.int .i32 65313)))), (1, (1, (.k (.int .i32 65338)))), (2, (7, (.t 55)))]), .none⟩,
  ⟨(.some 57), (.bd [(.int .u8 0), (.int .u8 0), (.int .u8 0), (.int .u8 0), (.int .u8 0), (.int .u8 0), (.int .u8 0)] [(0, (1, (.k (.int .u8 1)))), (4, (1, (.k (.int .u8 2)))), (6, (1, (.k (.int .u8
  2))))]), .none⟩, ⟨(.some 58), (.bd [(.int .i32 0), (.int .i32 0), (.int .u8 0), (.int .u8 0), (.int .u8 0), (.int .u8 0), (.int .u8 0), (.int .u8 0), (.int .u8 0)] [(0, (1, (.k (.int .i32 65345)))),
  (1, (1, (.k (.int .i32 65370)))), (2, (7, (.t 57)))]), .none⟩, ⟨(.some 59), (.bd [(.int .u8 0), (.int .u8 0), (.int .u8 0), (.int .u8 0), (.int .u8 0), (.int .u8 0), (.int .u8 0)] [(0, (1, (.k (.int
  .u8 7)))), (1, (1, (.k (.int .u8 13)))), (6, (1, (.k (.int .u8 1))))]), .none⟩, ⟨(.some 60), (.bd [(.int .i32 0), (.int .i32 0), (.int .u8 0), (.int .u8 0), (.int .u8 0), (.int .u8 0), (.int .u8 0),
  (.int .u8 0), (.int .u8 0)] [(0, (1, (.k (.int .i32 65533)))), (1, (1, (.k (.int .i32 65533)))), (2, (7, (.t 59)))]), .none⟩, ⟨(.some 61), (.bs 99 9 [(.t 2), (.t 4), (.t 6), (.t 8), (.t 10), (.t 12),
  (.t 14), (.t 16), (.t 18), (.t 20), (.t 22), (.t 24), (.t 26), (.t 28), (.t 30), (.t 32), (.t 34), (.t 36), (.t 38), (.t 40), (.t 42), (.t 44), (.t 46), (.t 48), (.t 50), (.t 52), (.t 54), (.t 56),
  (.t 58), (.t 60)]), .none⟩, ⟨(.some 0), (.mv (.t 61)), .none⟩]) .ret))
theorem c92 : Try.f92.body.bind (cCode Try.prog 62) = some a92 := by kernel_rfl
theorem r92 : Try.f92.results.toList = [(.tmp 0)] := by kernel_rfl
theorem n92 : Try.f92.ntmps = 62 := by kernel_rfl
theorem e92 : Enters Try.prog 92 := enters_of Try.func92 (by kernel_rfl) (by kernel_rfl)
def a106 : ACode :=
  (.seq (.reg [⟨(.some 0), (.mv (.k (.slice .none 0 0))), .none⟩]) (.seq (.reg [⟨(.some 1), (.bd [(.int .i64 0), (.int .i64 0), (.int .i64 0), (.int .i64 0), (.int .i64 0), (.int .i64 0), (.int .i64 0),
  (.int .i64 0), (.int .i64 0)] [(0, (1, (.k (.int .i64 0)))), (1, (1, (.k (.int .i64 8)))), (2, (1, (.k (.int .i64 9)))), (3, (1, (.k (.int .i64 9)))), (4, (1, (.k (.int .i64 0)))), (5, (1, (.k (.int
  .i64 0)))), (6, (1, (.k (.int .i64 0)))), (7, (1, (.k (.int .i64 0)))), (8, (1, (.k (.int .i64 0))))]), .none⟩, ⟨(.some 2), (.bd [(.int .i64 0), (.int .i64 0), (.int .i64 0), (.int .i64 0), (.int .i64
  0), (.int .i64 0), (.int .i64 0), (.int .i64 0), (.int .i64 0)] [(0, (1, (.k (.int .i64 9)))), (1, (1, (.k (.int .i64 9)))), (2, (1, (.k (.int .i64 9)))), (3, (1, (.k (.int .i64 11)))), (4, (1, (.k
  (.int .i64 0)))), (5, (1, (.k (.int .i64 0)))), (6, (1, (.k (.int .i64 0)))), (7, (1, (.k (.int .i64 0)))), (8, (1, (.k (.int .i64 0))))]), .none⟩, ⟨(.some 3), (.bd [(.int .i64 0), (.int .i64 0),
  (.int .i64 0), (.int .i64 0), (.int .i64 0), (.int .i64 0), (.int .i64 0), (.int .i64 0), (.int .i64 0)] [(0, (1, (.k (.int .i64 10)))), (1, (1, (.k (.int .i64 10)))), (2, (1, (.k (.int .i64 9)))),
  (3, (1, (.k (.int .i64 10)))), (4, (1, (.k (.int .i64 0)))), (5, (1, (.k (.int .i64 0)))), (6, (1, (.k (.int .i64 0)))), (7, (1, (.k (.int .i64 0)))), (8, (1, (.k (.int .i64 0))))]), .none⟩, ⟨(.some
  4), (.bd [(.int .i64 0), (.int .i64 0), (.int .i64 0), (.int .i64 0), (.int .i64 0), (.int .i64 0), (.int .i64 0), (.int .i64 0), (.int .i64 0)] [(0, (1, (.k (.int .i64 11)))), (1, (1, (.k (.int .i64
  11)))), (2, (1, (.k (.int .i64 9)))), (3, (1, (.k (.int .i64 11)))), (4, (1, (.k (.int .i64 0)))), (5, (1, (.k (.int .i64 0)))), (6, (1, (.k (.int .i64 0)))), (7, (1, (.k (.int .i64 0)))), (8, (1, (.k
  (.int .i64 0))))]), .none⟩, ⟨(.some 5), (.bd [(.int .i64 0), (.int .i64 0), (.int .i64 0), (.int .i64 0), (.int .i64 0), (.int .i64 0), (.int .i64 0), (.int .i64 0), (.int .i64 0)] [(0, (1, (.k (.int
  .i64 12)))), (1, (1, (.k (.int .i64 12)))), (2, (1, (.k (.int .i64 9)))), (3, (1, (.k (.int .i64 12)))), (4, (1, (.k (.int .i64 0)))), (5, (1, (.k (.int .i64 0)))), (6, (1, (.k (.int .i64 0)))), (7,
  (1, (.k (.int .i64 0)))), (8, (1, (.k (.int .i64 0))))]), .none⟩, ⟨(.some 6), (.bd [(.int .i64 0), (.int .i64 0), (.int .i64 0), (.int .i64 0), (.int .i64 0), (.int .i64 0), (.int .i64 0), (.int .i64
  0), (.int .i64 0)] [(0, (1, (.k (.int .i64 13)))), (1, (1, (.k (.int .i64 13)))), (2, (1, (.k (.int .i64 9)))), (3, (1, (.k (.int .i64 10)))), (4, (1, (.k (.int .i64 0)))), (5, (1, (.k (.int .i64
  0)))), (6, (1, (.k (.int .i64 0)))), (7, (1, (.k (.int .i64 0)))), (8, (1, (.k (.int .i64 0))))]), .none⟩, ⟨(.some 7), (.bd [(.int .i64 0), (.int .i64 0), (.int .i64 0), (.int .i64 0), (.int .i64 0),
  (.int .i64 0), (.int .i64 0), (.int .i64 0), (.int .i64 0)] [(0, (1, (.k (.int .i64 14)))), (1, (1, (.k (.int .i64 27)))), (2, (1, (.k (.int .i64 9)))), (3, (1, (.k (.int .i64 9)))), (4, (1, (.k (.int
  .i64 0)))), (5, (1, (.k (.int .i64 0)))), (6, (1, (.k (.int .i64 0)))), (7, (1, (.k (.int .i64 0)))), (8, (1, (.k (.int .i64 0))))]), .none⟩, ⟨(.some 8), (.bd [(.int .i64 0), (.int .i64 0), (.int .i64
  0), (.int .i64 0), (.int .i64 0), (.int .i64 0), (.int .i64 0), (.int .i64 0), (.int .i64 0)] [(0, (1, (.k (.int .i64 28)))), (1, (1, (.k (.int .i64 30)))), (2, (1, (.k (.int .i64 9)))), (3, (1, (.k
  (.int .i64 10)))), (4, (1, (.k (.int .i64 0)))), (5, (1, (.k (.int .i64 0)))), (6, (1, (.k (.int .i64 0)))), (7, (1, (.k (.int .i64 0)))), (8, (1, (.k (.int .i64 0))))]), .none⟩, ⟨(.some 9), (.bd
  [(.int .i64 0), (.int .i64 0), (.int .i64 0), (.int .i64 0), (.int .i64 0), (.int .i64 0), (.int .i64 0), (.int .i64 0), (.int .i64 0)] [(0, (1, (.k (.int .i64 31)))), (1, (1, (.k (.int .i64 31)))),
  (2, (1, (.k (.int .i64 9)))), (3, (1, (.k (.int .i64 11)))), (4, (1, (.k (.int .i64 0)))), (5, (1, (.k (.int .i64 0)))), (6, (1, (.k (.int .i64 0)))), (7, (1, (.k (.int .i64 0)))), (8, (1, (.k (.int
  .i64 0))))]), .none⟩, ⟨(.some 10), (.bd [(.int .i64 0), (.int .i64 0), (.int .i64 0), (.int .i64 0), (.int .i64 0), (.int .i64 0), (.int .i64 0), (.int .i64 0), (.int .i64 0)] [(0, (1, (.k (.int .i64
  32)))), (1, (1, (.k (.int .i64 32)))), (2, (1, (.k (.int .i64 8)))), (3, (1, (.k (.int .i64 12)))), (4, (1, (.k (.int .i64 0)))), (5, (1, (.k (.int .i64 0)))), (6, (1, (.k (.int .i64 0)))), (7, (1,
  (.k (.int .i64 0)))), (8, (1, (.k (.int .i64 1))))]), .none⟩, ⟨(.some 11), (.bd [(.int .i64 0), (.int .i64 0), (.int .i64 0), (.int .i64 0), (.int .i64 0), (.int .i64 0), (.int .i64 0), (.int .i64 0),
  (.int .i64 0)] [(0, (1, (.k (.int .i64 33)))), (1, (1, (.k (.int .i64 34)))), (2, (1, (.k (.int .i64 6)))), (3, (1, (.k (.int .i64 13)))), (4, (1, (.k (.int .i64 0)))), (5, (1, (.k (.int .i64 0)))),
  (6, (1, (.k (.int .i64 0)))), (7, (1, (.k (.int .i64 0)))), (8, (1, (.k (.int .i64 1))))]), .none⟩, ⟨(.some 12), (.bd [(.int .i64 0), (.int .i64 0), (.int .i64 0), (.int .i64 0), (.int .i64 0), (.int
  .i64 0), (.int .i64 0), (.int .i64 0), (.int .i64 0)] [(0, (1, (.k (.int .i64 35)))), (1, (1, (.k (.int .i64 35)))), (2, (1, (.k (.int .i64 6)))), (3, (1, (.k (.int .i64 5)))), (4, (1, (.k (.int .i64
  0)))), (5, (1, (.k (.int .i64 0)))), (6, (1, (.k (.int .i64 0)))), (7, (1, (.k (.int .i64 0)))), (8, (1, (.k (.int .i64 1))))]), .none⟩, ⟨(.some 13), (.bd [(.int .i64 0), (.int .i64 0), (.int .i64 0),
  (.int .i64 0), (.int .i64 0), (.int .i64 0), (.int .i64 0), (.int .i64 0), (.int .i64 0)] [(0, (1, (.k (.int .i64 36)))), (1, (1, (.k (.int .i64 36)))), (2, (1, (.k (.int .i64 7)))), (3, (1, (.k (.int
  .i64 5)))), (4, (1, (.k (.int .i64 0)))), (5, (1, (.k (.int .i64 0)))), (6, (1, (.k (.int .i64 0)))), (7, (1, (.k (.int .i64 0)))), (8, (1, (.k (.int .i64 1))))]), .none⟩, ⟨(.some 14), (.bd [(.int
  .i64 0), (.int .i64 0), (.int .i64 0), (.int .i64 0), (.int .i64 0), (.int .i64 0), (.int .i64 0), (.int .i64 0), (.int .i64 0)] [(0, (1, (.k (.int .i64 37)))), (1, (1, (.k (.int .i64 37)))), (2, (1,
  (.k (.int .i64 6)))), (3, (1, (.k (.int .i64 5)))), (4, (1, (.k (.int .i64 0)))), (5, (1, (.k (.int .i64 0)))), (6, (1, (.k (.int .i64 0)))), (7, (1, (.k (.int .i64 0)))), (8, (1, (.k (.int .i64
  1))))]), .none⟩, ⟨(.some 15), (.bd [(.int .i64 0), (.int .i64 0), (.int .i64 0), (.int .i64 0), (.int .i64 0), (.int .i64 0), (.int .i64 0), (.int .i64 0), (.int .i64 0)] [(0, (1, (.k (.int .i64
  38)))), (1, (1, (.k (.int .i64 42)))), (2, (1, (.k (.int .i64 6)))), (3, (1, (.k (.int .i64 13)))), (4, (1, (.k (.int .i64 0)))), (5, (1, (.k (.int .i64 0)))), (6, (1, (.k (.int .i64 0)))), (7, (1,
  (.k (.int .i64 0)))), (8, (1, (.k (.int .i64 1))))]), .none⟩, ⟨(.some 16), (.bd [(.int .i64 0), (.int .i64 0), (.int .i64 0), (.int .i64 0), (.int .i64 0), (.int .i64 0), (.int .i64 0), (.int .i64 0),
  (.int .i64 0)] [(0, (1, (.k (.int .i64 43)))), (1, (1, (.k (.int .i64 43)))), (2, (1, (.k (.int .i64 7)))), (3, (1, (.k (.int .i64 4)))), (4, (1, (.k (.int .i64 0)))), (5, (1, (.k (.int .i64 0)))),
  (6, (1, (.k (.int .i64 0)))), (7, (1, (.k (.int .i64 0)))), (8, (1, (.k (.int .i64 1))))]), .none⟩, ⟨(.some 17), (.bd [(.int .i64 0), (.int .i64 0), (.int .i64 0), (.int .i64 0), (.int .i64 0), (.int
  .i64 0), (.int .i64 0), (.int .i64 0), (.int .i64 0)] [(0, (1, (.k (.int .i64 44)))), (1, (1, (.k (.int .i64 44)))), (2, (1, (.k (.int .i64 6)))), (3, (1, (.k (.int .i64 7)))), (4, (1, (.k (.int .i64
  0)))), (5, (1, (.k (.int .i64 0)))), (6, (1, (.k (.int .i64 0)))), (7, (1, (.k (.int .i64 0)))), (8, (1, (.k (.int .i64 1))))]), .none⟩, ⟨(.some 18), (.bd [(.int .i64 0), (.int .i64 0), (.int .i64 0),
  (.int .i64 0), (.int .i64 0), (.int .i64 0), (.int .i64 0), (.int .i64 0), (.int .i64 0)] [(0, (1, (.k (.int .i64 45)))), (1, (1, (.k (.int .i64 45)))), (2, (1, (.k (.int .i64 6)))), (3, (1, (.k (.int
  .i64 4)))), (4, (1, (.k (.int .i64 0)))), (5, (1, (.k (.int .i64 0)))), (6, (1, (.k (.int .i64 0)))), (7, (1, (.k (.int .i64 0)))), (8, (1, (.k (.int .i64 1))))]), .none⟩, ⟨(.some 19), (.bd [(.int
  .i64 0), (.int .i64 0), (.int .i64 0), (.int .i64 0), (.int .i64 0), (.int .i64 0), (.int .i64 0), (.int .i64 0), (.int .i64 0)] [(0, (1, (.k (.int .i64 46)))), (1, (1, (.k (.int .i64 47)))), (2, (1,
  (.k (.int .i64 6)))), (3, (1, (.k (.int .i64 7)))), (4, (1, (.k (.int .i64 0)))), (5, (1, (.k (.int .i64 0)))), (6, (1, (.k (.int .i64 0)))), (7, (1, (.k (.int .i64 0)))), (8, (1, (.k (.int .i64
  1))))]), .none⟩, ⟨(.some 20), (.bd [(.int .i64 0), (.int .i64 0), (.int .i64 0), (.int .i64 0), (.int .i64 0), (.int .i64 0), (.int .i64 0), (.int .i64 0), (.int .i64 0)] [(0, (1, (.k (.int .i64
  48)))), (1, (1, (.k (.int .i64 57)))), (2, (1, (.k (.int .i64 5)))), (3, (1, (.k (.int .i64 3)))), (4, (1, (.k (.int .i64 0)))), (5, (1, (.k (.int .i64 0)))), (6, (1, (.k (.int .i64 0)))), (7, (1, (.k
  (.int .i64 1)))), (8, (1, (.k (.int .i64 1))))]), .none⟩, ⟨(.some 21), (.bd [(.int .i64 0), (.int .i64 0), (.int .i64 0), (.int .i64 0), (.int .i64 0), (.int .i64 0), (.int .i64 0), (.int .i64 0),
  (.int .i64 0)] [(0, (1, (.k (.int .i64 58)))), (1, (1, (.k (.int .i64 58)))), (2, (1, (.k (.int .i64 6)))), (3, (1, (.k (.int .i64 7)))), (4, (1, (.k (.int .i64 0)))), (5, (1, (.k (.int .i64 0)))),
  (6, (1, (.k (.int .i64 0)))), (7, (1, (.k (.int .i64 0)))), (8, (1, (.k (.int .i64 1))))]), .none⟩, ⟨(.some 22), (.bd [(.int .i64 0), (.int .i64 0), (.int .i64 0), (.int .i64 0), (.int .i64 0), (.int
  .i64 0), (.int .i64 0), (.int .i64 0), (.int .i64 0)] [(0, (1, (.k (.int .i64 59)))), (1, (1, (.k (.int .i64 59)))), (2, (1, (.k (.int .i64 6)))), (3, (1, (.k (.int .i64 13)))), (4, (1, (.k (.int .i64
  0)))), (5, (1, (.k (.int .i64 0)))), (6, (1, (.k (.int .i64 0)))), (7, (1, (.k (.int .i64 0)))), (8, (1, (.k (.int .i64 1))))]), .none⟩, ⟨(.some 23), (.bd [(.int .i64 0), (.int .i64 0), (.int .i64 0),
  (.int .i64 0), (.int .i64 0), (.int .i64 0), (.int .i64 0), (.int .i64 0), (.int .i64 0)] [(0, (1, (.k (.int .i64 60)))), (1, (1, (.k (.int .i64 62)))), (2, (1, (.k (.int .i64 7)))), (3, (1, (.k (.int
  .i64 13)))), (4, (1, (.k (.int .i64 0)))), (5, (1, (.k (.int .i64 0)))), (6, (1, (.k (.int .i64 0)))), (7, (1, (.k (.int .i64 0)))), (8, (1, (.k (.int .i64 1))))]), .none⟩, ⟨(.some 24), (.bd [(.int
  .i64 0), (.int .i64 0), (.int .i64 0), (.int .i64 0), (.int .i64 0), (.int .i64 0), (.int .i64 0), (.int .i64 0), (.int .i64 0)] [(0, (1, (.k (.int .i64 63)))), (1, (1, (.k (.int .i64 64)))), (2, (1,
  (.k (.int .i64 6)))), (3, (1, (.k (.int .i64 13)))), (4, (1, (.k (.int .i64 0)))), (5, (1, (.k (.int .i64 0)))), (6, (1, (.k (.int .i64 0)))), (7, (1, (.k (.int .i64 0)))), (8, (1, (.k (.int .i64
  1))))]), .none⟩, ⟨(.some 25), (.bd [(.int .i64 0), (.int .i64 0), (.int .i64 0), (.int .i64 0), (.int .i64 0), (.int .i64 0), (.int .i64 0), (.int .i64 0), (.int .i64 0)] [(0, (1, (.k (.int .i64
  65)))), (1, (1, (.k (.int .i64 90)))), (2, (1, (.k (.int .i64 2)))), (3, (1, (.k (.int .i64 0)))), (4, (1, (.k (.int .i64 0)))), (5, (1, (.k (.int .i64 0)))), (6, (1, (.k (.int .i64 2)))), (7, (1, (.k
  (.int .i64 0)))), (8, (1, (.k (.int .i64 1))))]), .none⟩, ⟨(.some 26), (.bd [(.int .i64 0), (.int .i64 0), (.int .i64 0), (.int .i64 0), (.int .i64 0), (.int .i64 0), (.int .i64 0), (.int .i64 0),
  (.int .i64 0)] [(0, (1, (.k (.int .i64 91)))), (1, (1, (.k (.int .i64 93)))), (2, (1, (.k (.int .i64 6)))), (3, (1, (.k (.int .i64 13)))), (4, (1, (.k (.int .i64 0)))), (5, (1, (.k (.int .i64 0)))),
  (6, (1, (.k (.int .i64 0)))), (7, (1, (.k (.int .i64 0)))), (8, (1, (.k (.int .i64 1))))]), .none⟩, ⟨(.some 27), (.bd [(.int .i64 0), (.int .i64 0), (.int .i64 0), (.int .i64 0), (.int .i64 0), (.int
  .i64 0), (.int .i64 0), (.int .i64 0), (.int .i64 0)] [(0, (1, (.k (.int .i64 94)))), (1, (1, (.k (.int .i64 94)))), (2, (1, (.k (.int .i64 7)))), (3, (1, (.k (.int .i64 13)))), (4, (1, (.k (.int .i64
  0)))), (5, (1, (.k (.int .i64 0)))), (6, (1, (.k (.int .i64 0)))), (7, (1, (.k (.int .i64 0)))), (8, (1, (.k (.int .i64 1))))]), .none⟩, ⟨(.some 28), (.bd [(.int .i64 0), (.int .i64 0), (.int .i64 0),
  (.int .i64 0), (.int .i64 0), (.int .i64 0), (.int .i64 0), (.int .i64 0), (.int .i64 0)] [(0, (1, (.k (.int .i64 95)))), (1, (1, (.k (.int .i64 95)))), (2, (1, (.k (.int .i64 6)))), (3, (1, (.k (.int
  .i64 13)))), (4, (1, (.k (.int .i64 0)))), (5, (1, (.k (.int .i64 0)))), (6, (1, (.k (.int .i64 0)))), (7, (1, (.k (.int .i64 0)))), (8, (1, (.k (.int .i64 1))))]), .none⟩, ⟨(.some 29), (.bd [(.int
  .i64 0), (.int .i64 0), (.int .i64 0), (.int .i64 0), (.int .i64 0), (.int .i64 0), (.int .i64 0), (.int .i64 0), (.int .i64 0)] [(0, (1, (.k (.int .i64 96)))), (1, (1, (.k (.int .i64 96)))), (2, (1,
  (.k (.int .i64 7)))), (3, (1, (.k (.int .i64 13)))), (4, (1, (.k (.int .i64 0)))), (5, (1, (.k (.int .i64 0)))), (6, (1, (.k (.int .i64 0)))), (7, (1, (.k (.int .i64 0)))), (8, (1, (.k (.int .i64
  1))))]), .none⟩, ⟨(.some 30), (.bd [(.int .i64 0), (.int .i64 0), (.int .i64 0), (.int .i64 0), (.int .i64 0), (.int .i64 0), (.int .i64 0), (.int .i64 0), (.int .i64 0)] [(0, (1, (.k (.int .i64
  97)))), (1, (1, (.k (.int .i64 122)))), (2, (1, (.k (.int .i64 1)))), (3, (1, (.k (.int .i64 0)))), (4, (1, (.k (.int .i64 0)))), (5, (1, (.k (.int .i64 0)))), (6, (1, (.k (.int .i64 2)))), (7, (1,
  (.k (.int .i64 0)))), (8, (1, (.k (.int .i64 1))))]), .none⟩, ⟨(.some 31), (.bd [(.int .i64 0), (.int .i64 0), (.int .i64 0), (.int .i64 0), (.int .i64 0), (.int .i64 0), (.int .i64 0), (.int .i64 0),
  (.int .i64 0)] [(0, (1, (.k (.int .i64 123)))), (1, (1, (.k (.int .i64 123)))), (2, (1, (.k (.int .i64 6)))), (3, (1, (.k (.int .i64 13)))), (4, (1, (.k (.int .i64 0)))), (5, (1, (.k (.int .i64 0)))),
  (6, (1, (.k (.int .i64 0)))), (7, (1, (.k (.int .i64 0)))), (8, (1, (.k (.int .i64 1))))]), .none⟩, ⟨(.some 32), (.bd [(.int .i64 0), (.int .i64 0), (.int .i64 0), (.int .i64 0), (.int .i64 0), (.int
  .i64 0), (.int .i64 0), (.int .i64 0), (.int .i64 0)] [(0, (1, (.k (.int .i64 124)))), (1, (1, (.k (.int .i64 124)))), (2, (1, (.k (.int .i64 7)))), (3, (1, (.k (.int .i64 13)))), (4, (1, (.k (.int
  .i64 0)))), (5, (1, (.k (.int .i64 0)))), (6, (1, (.k (.int .i64 0)))), (7, (1, (.k (.int .i64 0)))), (8, (1, (.k (.int .i64 1))))]), .none⟩, ⟨(.some 33), (.bd [(.int .i64 0), (.int .i64 0), (.int
  .i64 0), (.int .i64 0), (.int .i64 0), (.int .i64 0), (.int .i64 0), (.int .i64 0), (.int .i64 0)] [(0, (1, (.k (.int .i64 125)))), (1, (1, (.k (.int .i64 125)))), (2, (1, (.k (.int .i64 6)))), (3,
  (1, (.k (.int .i64 13)))), (4, (1, (.k (.int .i64 0)))), (5, (1, (.k (.int .i64 0)))), (6, (1, (.k (.int .i64 0)))), (7, (1, (.k (.int .i64 0)))), (8, (1, (.k (.int .i64 1))))]), .none⟩, ⟨(.some 34),
  (.bd [(.int .i64 0), (.int .i64 0), (.int .i64 0), (.int .i64 0), (.int .i64 0), (.int .i64 0), (.int .i64 0), (.int .i64 0), (.int .i64 0)] [(0, (1, (.k (.int .i64 126)))), (1, (1, (.k (.int .i64
  126)))), (2, (1, (.k (.int .i64 7)))), (3, (1, (.k (.int .i64 13)))), (4, (1, (.k (.int .i64 0)))), (5, (1, (.k (.int .i64 0)))), (6, (1, (.k (.int .i64 0)))), (7, (1, (.k (.int .i64 0)))), (8, (1,
  (.k (.int .i64 1))))]), .none⟩, ⟨(.some 35), (.bs 133 9 [(.t 1), (.t 2), (.t 3), (.t 4), (.t 5), (.t 6), (.t 7), (.t 8), (.t 9), (.t 10), (.t 11), (.t 12), (.t 13), (.t 14), (.t 15), (.t 16), (.t 17),
  (.t 18), (.t 19), (.t 20), (.t 21), (.t 22), (.t 23), (.t 24), (.t 25), (.t 26), (.t 27), (.t 28), (.t 29), (.t 30), (.t 31), (.t 32), (.t 33), (.t 34)]), .none⟩, ⟨(.some 0), (.mv (.t 35)), .none⟩])
  .ret))
theorem c106 : Try.f106.body.bind (cCode Try.prog 36) = some a106 := by kernel_rfl
theorem r106 : Try.f106.results.toList = [(.tmp 0)] := by kernel_rfl
theorem n106 : Try.f106.ntmps = 36 := by kernel_rfl
theorem e106 : Enters Try.prog 106 := enters_of Try.func106 (by kernel_rfl) (by kernel_rfl)
def a107 : ACode :=
  (.seq (.reg [⟨(.some 0), (.mv (.k (.slice .none 0 0))), .none⟩]) (.seq (.reg [⟨(.some 1), (.bd [(.int .i64 0), (.int .i64 0), (.int .i64 0), (.int .i64 0), (.int .i64 0), (.int .i64 0), (.int .i64 0),
  (.int .i64 0), (.int .i64 0)] [(0, (1, (.k (.int .i64 127)))), (1, (1, (.k (.int .i64 132)))), (2, (1, (.k (.int .i64 9)))), (3, (1, (.k (.int .i64 9)))), (4, (1, (.k (.int .i64 0)))), (5, (1, (.k
  (.int .i64 0)))), (6, (1, (.k (.int .i64 0)))), (7, (1, (.k (.int .i64 0)))), (8, (1, (.k (.int .i64 0))))]), .none⟩, ⟨(.some 2), (.bd [(.int .i64 0), (.int .i64 0), (.int .i64 0), (.int .i64 0),
  (.int .i64 0), (.int .i64 0), (.int .i64 0), (.int .i64 0), (.int .i64 0)] [(0, (1, (.k (.int .i64 133)))), (1, (1, (.k (.int .i64 133)))), (2, (1, (.k (.int .i64 9)))), (3, (1, (.k (.int .i64 10)))),
  (4, (1, (.k (.int .i64 0)))), (5, (1, (.k (.int .i64 0)))), (6, (1, (.k (.int .i64 0)))), (7, (1, (.k (.int .i64 0)))), (8, (1, (.k (.int .i64 0))))]), .none⟩, ⟨(.some 3), (.bd [(.int .i64 0), (.int
  .i64 0), (.int .i64 0), (.int .i64 0), (.int .i64 0), (.int .i64 0), (.int .i64 0), (.int .i64 0), (.int .i64 0)] [(0, (1, (.k (.int .i64 134)))), (1, (1, (.k (.int .i64 159)))), (2, (1, (.k (.int
  .i64 9)))), (3, (1, (.k (.int .i64 9)))), (4, (1, (.k (.int .i64 0)))), (5, (1, (.k (.int .i64 0)))), (6, (1, (.k (.int .i64 0)))), (7, (1, (.k (.int .i64 0)))), (8, (1, (.k (.int .i64 0))))]),
  .none⟩, ⟨(.some 4), (.bd [(.int .i64 0), (.int .i64 0), (.int .i64 0), (.int .i64 0), (.int .i64 0), (.int .i64 0), (.int .i64 0), (.int .i64 0), (.int .i64 0)] [(0, (1, (.k (.int .i64 160)))), (1,
  (1, (.k (.int .i64 160)))), (2, (1, (.k (.int .i64 8)))), (3, (1, (.k (.int .i64 7)))), (4, (1, (.k (.int .i64 0)))), (5, (1, (.k (.int .i64 0)))), (6, (1, (.k (.int .i64 0)))), (7, (1, (.k (.int .i64
  0)))), (8, (1, (.k (.int .i64 1))))]), .none⟩, ⟨(.some 5), (.bd [(.int .i64 0), (.int .i64 0), (.int .i64 0), (.int .i64 0), (.int .i64 0), (.int .i64 0), (.int .i64 0), (.int .i64 0), (.int .i64 0)]
  [(0, (1, (.k (.int .i64 162)))), (1, (1, (.k (.int .i64 165)))), (2, (1, (.k (.int .i64 7)))), (3, (1, (.k (.int .i64 5)))), (4, (1, (.k (.int .i64 0)))), (5, (1, (.k (.int .i64 0)))), (6, (1, (.k
  (.int .i64 0)))), (7, (1, (.k (.int .i64 0)))), (8, (1, (.k (.int .i64 1))))]), .none⟩, ⟨(.some 6), (.bd [(.int .i64 0), (.int .i64 0), (.int .i64 0), (.int .i64 0), (.int .i64 0), (.int .i64 0),
  (.int .i64 0), (.int .i64 0), (.int .i64 0)] [(0, (1, (.k (.int .i64 167)))), (1, (1, (.k (.int .i64 167)))), (2, (1, (.k (.int .i64 6)))), (3, (1, (.k (.int .i64 13)))), (4, (1, (.k (.int .i64 0)))),
  (5, (1, (.k (.int .i64 0)))), (6, (1, (.k (.int .i64 0)))), (7, (1, (.k (.int .i64 0)))), (8, (1, (.k (.int .i64 1))))]), .none⟩, ⟨(.some 7), (.bd [(.int .i64 0), (.int .i64 0), (.int .i64 0), (.int
  .i64 0), (.int .i64 0), (.int .i64 0), (.int .i64 0), (.int .i64 0), (.int .i64 0)] [(0, (1, (.k (.int .i64 171)))), (1, (1, (.k (.int .i64 171)))), (2, (1, (.k (.int .i64 6)))), (3, (1, (.k (.int
  .i64 13)))), (4, (1, (.k (.int .i64 0)))), (5, (1, (.k (.int .i64 0)))), (6, (1, (.k (.int .i64 0)))), (7, (1, (.k (.int .i64 0)))), (8, (1, (.k (.int .i64 1))))]), .none⟩, ⟨(.some 8), (.bd [(.int
  .i64 0), (.int .i64 0), (.int .i64 0), (.int .i64 0), (.int .i64 0), (.int .i64 0), (.int .i64 0), (.int .i64 0), (.int .i64 0)] [(0, (1, (.k (.int .i64 173)))), (1, (1, (.k (.int .i64 173)))), (2,
  (1, (.k (.int .i64 10)))), (3, (1, (.k (.int .i64 9)))), (4, (1, (.k (.int .i64 0)))), (5, (1, (.k (.int .i64 0)))), (6, (1, (.k (.int .i64 0)))), (7, (1, (.k (.int .i64 0)))), (8, (1, (.k (.int .i64
  0))))]), .none⟩, ⟨(.some 9), (.bd [(.int .i64 0), (.int .i64 0), (.int .i64 0), (.int .i64 0), (.int .i64 0), (.int .i64 0), (.int .i64 0), (.int .i64 0), (.int .i64 0)] [(0, (1, (.k (.int .i64
  176)))), (1, (1, (.k (.int .i64 177)))), (2, (1, (.k (.int .i64 7)))), (3, (1, (.k (.int .i64 5)))), (4, (1, (.k (.int .i64 0)))), (5, (1, (.k (.int .i64 0)))), (6, (1, (.k (.int .i64 0)))), (7, (1,
  (.k (.int .i64 0)))), (8, (1, (.k (.int .i64 1))))]), .none⟩, ⟨(.some 10), (.bd [(.int .i64 0), (.int .i64 0), (.int .i64 0), (.int .i64 0), (.int .i64 0), (.int .i64 0), (.int .i64 0), (.int .i64 0),
  (.int .i64 0)] [(0, (1, (.k (.int .i64 183)))), (1, (1, (.k (.int .i64 183)))), (2, (1, (.k (.int .i64 6)))), (3, (1, (.k (.int .i64 13)))), (4, (1, (.k (.int .i64 0)))), (5, (1, (.k (.int .i64 0)))),
  (6, (1, (.k (.int .i64 0)))), (7, (1, (.k (.int .i64 0)))), (8, (1, (.k (.int .i64 1))))]), .none⟩, ⟨(.some 11), (.bd [(.int .i64 0), (.int .i64 0), (.int .i64 0), (.int .i64 0), (.int .i64 0), (.int
  .i64 0), (.int .i64 0), (.int .i64 0), (.int .i64 0)] [(0, (1, (.k (.int .i64 187)))), (1, (1, (.k (.int .i64 187)))), (2, (1, (.k (.int .i64 6)))), (3, (1, (.k (.int .i64 13)))), (4, (1, (.k (.int
  .i64 0)))), (5, (1, (.k (.int .i64 0)))), (6, (1, (.k (.int .i64 0)))), (7, (1, (.k (.int .i64 0)))), (8, (1, (.k (.int .i64 1))))]), .none⟩, ⟨(.some 12), (.bd [(.int .i64 0), (.int .i64 0), (.int
  .i64 0), (.int .i64 0), (.int .i64 0), (.int .i64 0), (.int .i64 0), (.int .i64 0), (.int .i64 0)] [(0, (1, (.k (.int .i64 192)))), (1, (1, (.k (.int .i64 214)))), (2, (1, (.k (.int .i64 2)))), (3,
  (1, (.k (.int .i64 0)))), (4, (1, (.k (.int .i64 0)))), (5, (1, (.k (.int .i64 0)))), (6, (1, (.k (.int .i64 2)))), (7, (1, (.k (.int .i64 0)))), (8, (1, (.k (.int .i64 1))))]), .none⟩, ⟨(.some 13),
  (.bd [(.int .i64 0), (.int .i64 0), (.int .i64 0), (.int .i64 0), (.int .i64 0), (.int .i64 0), (.int .i64 0), (.int .i64 0), (.int .i64 0)] [(0, (1, (.k (.int .i64 215)))), (1, (1, (.k (.int .i64
  215)))), (2, (1, (.k (.int .i64 7)))), (3, (1, (.k (.int .i64 13)))), (4, (1, (.k (.int .i64 0)))), (5, (1, (.k (.int .i64 0)))), (6, (1, (.k (.int .i64 0)))), (7, (1, (.k (.int .i64 0)))), (8, (1,
  (.k (.int .i64 1))))]), .none⟩, ⟨(.some 14), (.bd [(.int .i64 0), (.int .i64 0), (.int .i64 0), (.int .i64 0), (.int .i64 0), (.int .i64 0), (.int .i64 0), (.int .i64 0), (.int .i64 0)] [(0, (1, (.k
  (.int .i64 216)))), (1, (1, (.k (.int .i64 222)))), (2, (1, (.k (.int .i64 2)))), (3, (1, (.k (.int .i64 0)))), (4, (1, (.k (.int .i64 0)))), (5, (1, (.k (.int .i64 0)))), (6, (1, (.k (.int .i64
  2)))), (7, (1, (.k (.int .i64 0)))), (8, (1, (.k (.int .i64 1))))]), .none⟩, ⟨(.some 15), (.bd [(.int .i64 0), (.int .i64 0), (.int .i64 0), (.int .i64 0), (.int .i64 0), (.int .i64 0), (.int .i64 0),
  (.int .i64 0), (.int .i64 0)] [(0, (1, (.k (.int .i64 223)))), (1, (1, (.k (.int .i64 246)))), (2, (1, (.k (.int .i64 1)))), (3, (1, (.k (.int .i64 0)))), (4, (1, (.k (.int .i64 0)))), (5, (1, (.k
  (.int .i64 0)))), (6, (1, (.k (.int .i64 2)))), (7, (1, (.k (.int .i64 0)))), (8, (1, (.k (.int .i64 1))))]), .none⟩, ⟨(.some 16), (.bd [(.int .i64 0), (.int .i64 0), (.int .i64 0), (.int .i64 0),
  (.int .i64 0), (.int .i64 0), (.int .i64 0), (.int .i64 0), (.int .i64 0)] [(0, (1, (.k (.int .i64 247)))), (1, (1, (.k (.int .i64 247)))), (2, (1, (.k (.int .i64 7)))), (3, (1, (.k (.int .i64 13)))),
  (4, (1, (.k (.int .i64 0)))), (5, (1, (.k (.int .i64 0)))), (6, (1, (.k (.int .i64 0)))), (7, (1, (.k (.int .i64 0)))), (8, (1, (.k (.int .i64 1))))]), .none⟩, ⟨(.some 17), (.bd [(.int .i64 0), (.int
  .i64 0), (.int .i64 0), (.int .i64 0), (.int .i64 0), (.int .i64 0), (.int .i64 0), (.int .i64 0), (.int .i64 0)] [(0, (1, (.k (.int .i64 248)))), (1, (1, (.k (.int .i64 255)))), (2, (1, (.k (.int
  .i64 1)))), (3, (1, (.k (.int .i64 0)))), (4, (1, (.k (.int .i64 0)))), (5, (1, (.k (.int .i64 0)))), (6, (1, (.k (.int .i64 2)))), (7, (1, (.k (.int .i64 0)))), (8, (1, (.k (.int .i64 1))))]),
  .none⟩, ⟨(.some 18), (.bd [(.int .i64 0), (.int .i64 0), (.int .i64 0), (.int .i64 0), (.int .i64 0), (.int .i64 0), (.int .i64 0), (.int .i64 0), (.int .i64 0)] [(0, (1, (.k (.int .i64 305)))), (1,
  (1, (.k (.int .i64 305)))), (2, (1, (.k (.int .i64 1)))), (3, (1, (.k (.int .i64 0)))), (4, (1, (.k (.int .i64 0)))), (5, (1, (.k (.int .i64 0)))), (6, (1, (.k (.int .i64 2)))), (7, (1, (.k (.int .i64
  0)))), (8, (1, (.k (.int .i64 1))))]), .none⟩, ⟨(.some 19), (.bd [(.int .i64 0), (.int .i64 0), (.int .i64 0), (.int .i64 0), (.int .i64 0), (.int .i64 0), (.int .i64 0), (.int .i64 0), (.int .i64 0)]
  [(0, (1, (.k (.int .i64 338)))), (1, (1, (.k (.int .i64 338)))), (2, (1, (.k (.int .i64 2)))), (3, (1, (.k (.int .i64 0)))), (4, (1, (.k (.int .i64 0)))), (5, (1, (.k (.int .i64 0)))), (6, (1, (.k
  (.int .i64 2)))), (7, (1, (.k (.int .i64 0)))), (8, (1, (.k (.int .i64 1))))]), .none⟩, ⟨(.some 20), (.bd [(.int .i64 0), (.int .i64 0), (.int .i64 0), (.int .i64 0), (.int .i64 0), (.int .i64 0),
  (.int .i64 0), (.int .i64 0), (.int .i64 0)] [(0, (1, (.k (.int .i64 339)))), (1, (1, (.k (.int .i64 339)))), (2, (1, (.k (.int .i64 1)))), (3, (1, (.k (.int .i64 0)))), (4, (1, (.k (.int .i64 0)))),
  (5, (1, (.k (.int .i64 0)))), (6, (1, (.k (.int .i64 2)))), (7, (1, (.k (.int .i64 0)))), (8, (1, (.k (.int .i64 1))))]), .none⟩, ⟨(.some 21), (.bd [(.int .i64 0), (.int .i64 0), (.int .i64 0), (.int
  .i64 0), (.int .i64 0), (.int .i64 0), (.int .i64 0), (.int .i64 0), (.int .i64 0)] [(0, (1, (.k (.int .i64 471)))), (1, (1, (.k (.int .i64 471)))), (2, (1, (.k (.int .i64 2)))), (3, (1, (.k (.int
  .i64 0)))), (4, (1, (.k (.int .i64 0)))), (5, (1, (.k (.int .i64 0)))), (6, (1, (.k (.int .i64 2)))), (7, (1, (.k (.int .i64 0)))), (8, (1, (.k (.int .i64 1))))]), .none⟩, ⟨(.some 22), (.bd [(.int
  .i64 0), (.int .i64 0), (.int .i64 0), (.int .i64 0), (.int .i64 0), (.int .i64 0), (.int .i64 0), (.int .i64 0), (.int .i64 0)] [(0, (1, (.k (.int .i64 472)))), (1, (1, (.k (.int .i64 472)))), (2,
  (1, (.k (.int .i64 1)))), (3, (1, (.k (.int .i64 0)))), (4, (1, (.k (.int .i64 0)))), (5, (1, (.k (.int .i64 0)))), (6, (1, (.k (.int .i64 2)))), (7, (1, (.k (.int .i64 0)))), (8, (1, (.k (.int .i64
  1))))]), .none⟩, ⟨(.some 23), (.bd [(.int .i64 0), (.int .i64 0), (.int .i64 0), (.int .i64 0), (.int .i64 0), (.int .i64 0), (.int .i64 0), (.int .i64 0), (.int .i64 0)] [(0, (1, (.k (.int .i64
  768)))), (1, (1, (.k (.int .i64 788)))), (2, (1, (.k (.int .i64 4)))), (3, (1, (.k (.int .i64 8)))), (4, (1, (.k (.int .i64 2)))), (5, (1, (.k (.int .i64 230)))), (6, (1, (.k (.int .i64 1)))), (7, (1,
  (.k (.int .i64 0)))), (8, (1, (.k (.int .i64 0))))]), .none⟩, ⟨(.some 24), (.bd [(.int .i64 0), (.int .i64 0), (.int .i64 0), (.int .i64 0), (.int .i64 0), (.int .i64 0), (.int .i64 0), (.int .i64 0),
  (.int .i64 0)] [(0, (1, (.k (.int .i64 803)))), (1, (1, (.k (.int .i64 806)))), (2, (1, (.k (.int .i64 4)))), (3, (1, (.k (.int .i64 8)))), (4, (1, (.k (.int .i64 2)))), (5, (1, (.k (.int .i64
  220)))), (6, (1, (.k (.int .i64 1)))), (7, (1, (.k (.int .i64 0)))), (8, (1, (.k (.int .i64 0))))]), .none⟩, ⟨(.some 25), (.bd [(.int .i64 0), (.int .i64 0), (.int .i64 0), (.int .i64 0), (.int .i64
  0), (.int .i64 0), (.int .i64 0), (.int .i64 0), (.int .i64 0)] [(0, (1, (.k (.int .i64 807)))), (1, (1, (.k (.int .i64 808)))), (2, (1, (.k (.int .i64 4)))), (3, (1, (.k (.int .i64 8)))), (4, (1, (.k
  (.int .i64 2)))), (5, (1, (.k (.int .i64 202)))), (6, (1, (.k (.int .i64 1)))), (7, (1, (.k (.int .i64 0)))), (8, (1, (.k (.int .i64 0))))]), .none⟩, ⟨(.some 26), (.bd [(.int .i64 0), (.int .i64 0),
  (.int .i64 0), (.int .i64 0), (.int .i64 0), (.int .i64 0), (.int .i64 0), (.int .i64 0), (.int .i64 0)] [(0, (1, (.k (.int .i64 820)))), (1, (1, (.k (.int .i64 824)))), (2, (1, (.k (.int .i64 4)))),
  (3, (1, (.k (.int .i64 8)))), (4, (1, (.k (.int .i64 2)))), (5, (1, (.k (.int .i64 1)))), (6, (1, (.k (.int .i64 1)))), (7, (1, (.k (.int .i64 0)))), (8, (1, (.k (.int .i64 0))))]), .none⟩, ⟨(.some
  27), (.bd [(.int .i64 0), (.int .i64 0), (.int .i64 0), (.int .i64 0), (.int .i64 0), (.int .i64 0), (.int .i64 0), (.int .i64 0), (.int .i64 0)] [(0, (1, (.k (.int .i64 885)))), (1, (1, (.k (.int
  .i64 885)))), (2, (1, (.k (.int .i64 7)))), (3, (1, (.k (.int .i64 13)))), (4, (1, (.k (.int .i64 0)))), (5, (1, (.k (.int .i64 0)))), (6, (1, (.k (.int .i64 3)))), (7, (1, (.k (.int .i64 0)))), (8,
  (1, (.k (.int .i64 1))))]), .none⟩, ⟨(.some 28), (.bd [(.int .i64 0), (.int .i64 0), (.int .i64 0), (.int .i64 0), (.int .i64 0), (.int .i64 0), (.int .i64 0), (.int .i64 0), (.int .i64 0)] [(0, (1,
  (.k (.int .i64 902)))), (1, (1, (.k (.int .i64 902)))), (2, (1, (.k (.int .i64 2)))), (3, (1, (.k (.int .i64 0)))), (4, (1, (.k (.int .i64 0)))), (5, (1, (.k (.int .i64 0)))), (6, (1, (.k (.int .i64
  3)))), (7, (1, (.k (.int .i64 0)))), (8, (1, (.k (.int .i64 1))))]), .none⟩, ⟨(.some 29), (.bd [(.int .i64 0), (.int .i64 0), (.int .i64 0), (.int .i64 0), (.int .i64 0), (.int .i64 0), (.int .i64 0),
  (.int .i64 0), (.int .i64 0)] [(0, (1, (.k (.int .i64 904)))), (1, (1, (.k (.int .i64 906)))), (2, (1, (.k (.int .i64 2)))), (3, (1, (.k (.int .i64 0)))), (4, (1, (.k (.int .i64 0)))), (5, (1, (.k
  (.int .i64 0)))), (6, (1, (.k (.int .i64 3)))), (7, (1, (.k (.int .i64 0)))), (8, (1, (.k (.int .i64 1))))]), .none⟩, ⟨(.some 30), (.bd [(.int .i64 0), (.int .i64 0), (.int .i64 0), (.int .i64 0),
  (.int .i64 0), (.int .i64 0), (.int .i64 0), (.int .i64 0), (.int .i64 0)] [(0, (1, (.k (.int .i64 913)))), (1, (1, (.k (.int .i64 929)))), (2, (1, (.k (.int .i64 2)))), (3, (1, (.k (.int .i64 0)))),
  (4, (1, (.k (.int .i64 0)))), (5, (1, (.k (.int .i64 0)))), (6, (1, (.k (.int .i64 3)))), (7, (1, (.k (.int .i64 0)))), (8, (1, (.k (.int .i64 1))))]), .none⟩, ⟨(.some 31), (.bd [(.int .i64 0), (.int
  .i64 0), (.int .i64 0), (.int .i64 0), (.int .i64 0), (.int .i64 0), (.int .i64 0), (.int .i64 0), (.int .i64 0)] [(0, (1, (.k (.int .i64 931)))), (1, (1, (.k (.int .i64 937)))), (2, (1, (.k (.int
  .i64 2)))), (3, (1, (.k (.int .i64 0)))), (4, (1, (.k (.int .i64 0)))), (5, (1, (.k (.int .i64 0)))), (6, (1, (.k (.int .i64 3)))), (7, (1, (.k (.int .i64 0)))), (8, (1, (.k (.int .i64 1))))]),
  .none⟩, ⟨(.some 32), (.bd [(.int .i64 0), (.int .i64 0), (.int .i64 0), (.int .i64 0), (.int .i64 0), (.int .i64 0), (.int .i64 0), (.int .i64 0), (.int .i64 0)] [(0, (1, (.k (.int .i64 940)))), (1,
  (1, (.k (.int .i64 943)))), (2, (1, (.k (.int .i64 1)))), (3, (1, (.k (.int .i64 0)))), (4, (1, (.k (.int .i64 0)))), (5, (1, (.k (.int .i64 0)))), (6, (1, (.k (.int .i64 3)))), (7, (1, (.k (.int .i64
  0)))), (8, (1, (.k (.int .i64 1))))]), .none⟩, ⟨(.some 33), (.bd [(.int .i64 0), (.int .i64 0), (.int .i64 0), (.int .i64 0), (.int .i64 0), (.int .i64 0), (.int .i64 0), (.int .i64 0), (.int .i64 0)]
  [(0, (1, (.k (.int .i64 945)))), (1, (1, (.k (.int .i64 969)))), (2, (1, (.k (.int .i64 1)))), (3, (1, (.k (.int .i64 0)))), (4, (1, (.k (.int .i64 0)))), (5, (1, (.k (.int .i64 0)))), (6, (1, (.k
  (.int .i64 3)))), (7, (1, (.k (.int .i64 0)))), (8, (1, (.k (.int .i64 1))))]), .none⟩, ⟨(.some 34), (.bd [(.int .i64 0), (.int .i64 0), (.int .i64 0), (.int .i64 0), (.int .i64 0), (.int .i64 0),
  (.int .i64 0), (.int .i64 0), (.int .i64 0)] [(0, (1, (.k (.int .i64 1025)))), (1, (1, (.k (.int .i64 1025)))), (2, (1, (.k (.int .i64 2)))), (3, (1, (.k (.int .i64 0)))), (4, (1, (.k (.int .i64
  0)))), (5, (1, (.k (.int .i64 0)))), (6, (1, (.k (.int .i64 4)))), (7, (1, (.k (.int .i64 0)))), (8, (1, (.k (.int .i64 1))))]), .none⟩, ⟨(.some 35), (.bs 133 9 [(.t 1), (.t 2), (.t 3), (.t 4), (.t
  5), (.t 6), (.t 7), (.t 8), (.t 9), (.t 10), (.t 11), (.t 12), (.t 13), (.t 14), (.t 15), (.t 16), (.t 17), (.t 18), (.t 19), (.t 20), (.t 21), (.t 22), (.t 23), (.t 24), (.t 25), (.t 26), (.t 27),
  (.t 28), (.t 29), (.t 30), (.t 31), (.t 32), (.t 33), (.t 34)]), .none⟩, ⟨(.some 0), (.mv (.t 35)), .none⟩]) .ret))
theorem c107 : Try.f107.body.bind (cCode Try.prog 36) = some a107 := by kernel_rfl
theorem r107 : Try.f107.results.toList = [(.tmp 0)] := by kernel_rfl
theorem n107 : Try.f107.ntmps = 36 := by kernel_rfl
theorem e107 : Enters Try.prog 107 := enters_of Try.func107 (by kernel_rfl) (by kernel_rfl)
def a108 : ACode :=
  (.seq (.reg [⟨(.some 0), (.mv (.k (.slice .none 0 0))), .none⟩]) (.seq (.reg [⟨(.some 1), (.bd [(.int .i64 0), (.int .i64 0), (.int .i64 0), (.int .i64 0), (.int .i64 0), (.int .i64 0), (.int .i64 0),
  (.int .i64 0), (.int .i64 0)] [(0, (1, (.k (.int .i64 1030)))), (1, (1, (.k (.int .i64 1030)))), (2, (1, (.k (.int .i64 2)))), (3, (1, (.k (.int .i64 0)))), (4, (1, (.k (.int .i64 0)))), (5, (1, (.k
  (.int .i64 0)))), (6, (1, (.k (.int .i64 4)))), (7, (1, (.k (.int .i64 0)))), (8, (1, (.k (.int .i64 1))))]), .none⟩, ⟨(.some 2), (.bd [(.int .i64 0), (.int .i64 0), (.int .i64 0), (.int .i64 0),
  (.int .i64 0), (.int .i64 0), (.int .i64 0), (.int .i64 0), (.int .i64 0)] [(0, (1, (.k (.int .i64 1040)))), (1, (1, (.k (.int .i64 1071)))), (2, (1, (.k (.int .i64 2)))), (3, (1, (.k (.int .i64
  0)))), (4, (1, (.k (.int .i64 0)))), (5, (1, (.k (.int .i64 0)))), (6, (1, (.k (.int .i64 4)))), (7, (1, (.k (.int .i64 0)))), (8, (1, (.k (.int .i64 1))))]), .none⟩, ⟨(.some 3), (.bd [(.int .i64 0),
  (.int .i64 0), (.int .i64 0), (.int .i64 0), (.int .i64 0), (.int .i64 0), (.int .i64 0), (.int .i64 0), (.int .i64 0)] [(0, (1, (.k (.int .i64 1072)))), (1, (1, (.k (.int .i64 1103)))), (2, (1, (.k
  (.int .i64 1)))), (3, (1, (.k (.int .i64 0)))), (4, (1, (.k (.int .i64 0)))), (5, (1, (.k (.int .i64 0)))), (6, (1, (.k (.int .i64 4)))), (7, (1, (.k (.int .i64 0)))), (8, (1, (.k (.int .i64 1))))]),
  .none⟩, ⟨(.some 4), (.bd [(.int .i64 0), (.int .i64 0), (.int .i64 0), (.int .i64 0), (.int .i64 0), (.int .i64 0), (.int .i64 0), (.int .i64 0), (.int .i64 0)] [(0, (1, (.k (.int .i64 1105)))), (1,
  (1, (.k (.int .i64 1105)))), (2, (1, (.k (.int .i64 1)))), (3, (1, (.k (.int .i64 0)))), (4, (1, (.k (.int .i64 0)))), (5, (1, (.k (.int .i64 0)))), (6, (1, (.k (.int .i64 4)))), (7, (1, (.k (.int
  .i64 0)))), (8, (1, (.k (.int .i64 1))))]), .none⟩, ⟨(.some 5), (.bd [(.int .i64 0), (.int .i64 0), (.int .i64 0), (.int .i64 0), (.int .i64 0), (.int .i64 0), (.int .i64 0), (.int .i64 0), (.int .i64
  0)] [(0, (1, (.k (.int .i64 1110)))), (1, (1, (.k (.int .i64 1110)))), (2, (1, (.k (.int .i64 1)))), (3, (1, (.k (.int .i64 0)))), (4, (1, (.k (.int .i64 0)))), (5, (1, (.k (.int .i64 0)))), (6, (1,
  (.k (.int .i64 4)))), (7, (1, (.k (.int .i64 0)))), (8, (1, (.k (.int .i64 1))))]), .none⟩, ⟨(.some 6), (.bd [(.int .i64 0), (.int .i64 0), (.int .i64 0), (.int .i64 0), (.int .i64 0), (.int .i64 0),
  (.int .i64 0), (.int .i64 0), (.int .i64 0)] [(0, (1, (.k (.int .i64 1460)))), (1, (1, (.k (.int .i64 1460)))), (2, (1, (.k (.int .i64 4)))), (3, (1, (.k (.int .i64 8)))), (4, (1, (.k (.int .i64
  2)))), (5, (1, (.k (.int .i64 14)))), (6, (1, (.k (.int .i64 5)))), (7, (1, (.k (.int .i64 0)))), (8, (1, (.k (.int .i64 0))))]), .none⟩, ⟨(.some 7), (.bd [(.int .i64 0), (.int .i64 0), (.int .i64 0),
  (.int .i64 0), (.int .i64 0), (.int .i64 0), (.int .i64 0), (.int .i64 0), (.int .i64 0)] [(0, (1, (.k (.int .i64 1463)))), (1, (1, (.k (.int .i64 1463)))), (2, (1, (.k (.int .i64 4)))), (3, (1, (.k
  (.int .i64 8)))), (4, (1, (.k (.int .i64 2)))), (5, (1, (.k (.int .i64 17)))), (6, (1, (.k (.int .i64 5)))), (7, (1, (.k (.int .i64 0)))), (8, (1, (.k (.int .i64 0))))]), .none⟩, ⟨(.some 8), (.bd
  [(.int .i64 0), (.int .i64 0), (.int .i64 0), (.int .i64 0), (.int .i64 0), (.int .i64 0), (.int .i64 0), (.int .i64 0), (.int .i64 0)] [(0, (1, (.k (.int .i64 1468)))), (1, (1, (.k (.int .i64
  1468)))), (2, (1, (.k (.int .i64 4)))), (3, (1, (.k (.int .i64 8)))), (4, (1, (.k (.int .i64 2)))), (5, (1, (.k (.int .i64 21)))), (6, (1, (.k (.int .i64 5)))), (7, (1, (.k (.int .i64 0)))), (8, (1,
  (.k (.int .i64 0))))]), .none⟩, ⟨(.some 9), (.bd [(.int .i64 0), (.int .i64 0), (.int .i64 0), (.int .i64 0), (.int .i64 0), (.int .i64 0), (.int .i64 0), (.int .i64 0), (.int .i64 0)] [(0, (1, (.k
  (.int .i64 1470)))), (1, (1, (.k (.int .i64 1470)))), (2, (1, (.k (.int .i64 6)))), (3, (1, (.k (.int .i64 1)))), (4, (1, (.k (.int .i64 0)))), (5, (1, (.k (.int .i64 0)))), (6, (1, (.k (.int .i64
  5)))), (7, (1, (.k (.int .i64 0)))), (8, (1, (.k (.int .i64 1))))]), .none⟩, ⟨(.some 10), (.bd [(.int .i64 0), (.int .i64 0), (.int .i64 0), (.int .i64 0), (.int .i64 0), (.int .i64 0), (.int .i64 0),
  (.int .i64 0), (.int .i64 0)] [(0, (1, (.k (.int .i64 1488)))), (1, (1, (.k (.int .i64 1514)))), (2, (1, (.k (.int .i64 3)))), (3, (1, (.k (.int .i64 1)))), (4, (1, (.k (.int .i64 0)))), (5, (1, (.k
  (.int .i64 0)))), (6, (1, (.k (.int .i64 5)))), (7, (1, (.k (.int .i64 0)))), (8, (1, (.k (.int .i64 1))))]), .none⟩, ⟨(.some 11), (.bd [(.int .i64 0), (.int .i64 0), (.int .i64 0), (.int .i64 0),
  (.int .i64 0), (.int .i64 0), (.int .i64 0), (.int .i64 0), (.int .i64 0)] [(0, (1, (.k (.int .i64 1523)))), (1, (1, (.k (.int .i64 1524)))), (2, (1, (.k (.int .i64 6)))), (3, (1, (.k (.int .i64
  1)))), (4, (1, (.k (.int .i64 0)))), (5, (1, (.k (.int .i64 0)))), (6, (1, (.k (.int .i64 5)))), (7, (1, (.k (.int .i64 0)))), (8, (1, (.k (.int .i64 1))))]), .none⟩, ⟨(.some 12), (.bd [(.int .i64 0),
  (.int .i64 0), (.int .i64 0), (.int .i64 0), (.int .i64 0), (.int .i64 0), (.int .i64 0), (.int .i64 0), (.int .i64 0)] [(0, (1, (.k (.int .i64 1548)))), (1, (1, (.k (.int .i64 1548)))), (2, (1, (.k
  (.int .i64 6)))), (3, (1, (.k (.int .i64 7)))), (4, (1, (.k (.int .i64 0)))), (5, (1, (.k (.int .i64 0)))), (6, (1, (.k (.int .i64 0)))), (7, (1, (.k (.int .i64 0)))), (8, (1, (.k (.int .i64 1))))]),
  .none⟩, ⟨(.some 13), (.bd [(.int .i64 0), (.int .i64 0), (.int .i64 0), (.int .i64 0), (.int .i64 0), (.int .i64 0), (.int .i64 0), (.int .i64 0), (.int .i64 0)] [(0, (1, (.k (.int .i64 1563)))), (1,
  (1, (.k (.int .i64 1563)))), (2, (1, (.k (.int .i64 6)))), (3, (1, (.k (.int .i64 2)))), (4, (1, (.k (.int .i64 0)))), (5, (1, (.k (.int .i64 0)))), (6, (1, (.k (.int .i64 0)))), (7, (1, (.k (.int
  .i64 0)))), (8, (1, (.k (.int .i64 1))))]), .none⟩, ⟨(.some 14), (.bd [(.int .i64 0), (.int .i64 0), (.int .i64 0), (.int .i64 0), (.int .i64 0), (.int .i64 0), (.int .i64 0), (.int .i64 0), (.int
  .i64 0)] [(0, (1, (.k (.int .i64 1564)))), (1, (1, (.k (.int .i64 1564)))), (2, (1, (.k (.int .i64 10)))), (3, (1, (.k (.int .i64 2)))), (4, (1, (.k (.int .i64 2)))), (5, (1, (.k (.int .i64 0)))), (6,
  (1, (.k (.int .i64 6)))), (7, (1, (.k (.int .i64 0)))), (8, (1, (.k (.int .i64 0))))]), .none⟩, ⟨(.some 15), (.bd [(.int .i64 0), (.int .i64 0), (.int .i64 0), (.int .i64 0), (.int .i64 0), (.int .i64
  0), (.int .i64 0), (.int .i64 0), (.int .i64 0)] [(0, (1, (.k (.int .i64 1567)))), (1, (1, (.k (.int .i64 1567)))), (2, (1, (.k (.int .i64 6)))), (3, (1, (.k (.int .i64 2)))), (4, (1, (.k (.int .i64
  0)))), (5, (1, (.k (.int .i64 0)))), (6, (1, (.k (.int .i64 0)))), (7, (1, (.k (.int .i64 0)))), (8, (1, (.k (.int .i64 1))))]), .none⟩, ⟨(.some 16), (.bd [(.int .i64 0), (.int .i64 0), (.int .i64 0),
  (.int .i64 0), (.int .i64 0), (.int .i64 0), (.int .i64 0), (.int .i64 0), (.int .i64 0)] [(0, (1, (.k (.int .i64 1569)))), (1, (1, (.k (.int .i64 1569)))), (2, (1, (.k (.int .i64 3)))), (3, (1, (.k
  (.int .i64 2)))), (4, (1, (.k (.int .i64 0)))), (5, (1, (.k (.int .i64 0)))), (6, (1, (.k (.int .i64 6)))), (7, (1, (.k (.int .i64 0)))), (8, (1, (.k (.int .i64 1))))]), .none⟩, ⟨(.some 17), (.bd
  [(.int .i64 0), (.int .i64 0), (.int .i64 0), (.int .i64 0), (.int .i64 0), (.int .i64 0), (.int .i64 0), (.int .i64 0), (.int .i64 0)] [(0, (1, (.k (.int .i64 1570)))), (1, (1, (.k (.int .i64
  1573)))), (2, (1, (.k (.int .i64 3)))), (3, (1, (.k (.int .i64 2)))), (4, (1, (.k (.int .i64 5)))), (5, (1, (.k (.int .i64 0)))), (6, (1, (.k (.int .i64 6)))), (7, (1, (.k (.int .i64 0)))), (8, (1,
  (.k (.int .i64 1))))]), .none⟩, ⟨(.some 18), (.bd [(.int .i64 0), (.int .i64 0), (.int .i64 0), (.int .i64 0), (.int .i64 0), (.int .i64 0), (.int .i64 0), (.int .i64 0), (.int .i64 0)] [(0, (1, (.k
  (.int .i64 1574)))), (1, (1, (.k (.int .i64 1574)))), (2, (1, (.k (.int .i64 3)))), (3, (1, (.k (.int .i64 2)))), (4, (1, (.k (.int .i64 3)))), (5, (1, (.k (.int .i64 0)))), (6, (1, (.k (.int .i64
  6)))), (7, (1, (.k (.int .i64 0)))), (8, (1, (.k (.int .i64 1))))]), .none⟩, ⟨(.some 19), (.bd [(.int .i64 0), (.int .i64 0), (.int .i64 0), (.int .i64 0), (.int .i64 0), (.int .i64 0), (.int .i64 0),
  (.int .i64 0), (.int .i64 0)] [(0, (1, (.k (.int .i64 1575)))), (1, (1, (.k (.int .i64 1575)))), (2, (1, (.k (.int .i64 3)))), (3, (1, (.k (.int .i64 2)))), (4, (1, (.k (.int .i64 5)))), (5, (1, (.k
  (.int .i64 0)))), (6, (1, (.k (.int .i64 6)))), (7, (1, (.k (.int .i64 0)))), (8, (1, (.k (.int .i64 1))))]), .none⟩, ⟨(.some 20), (.bd [(.int .i64 0), (.int .i64 0), (.int .i64 0), (.int .i64 0),
  (.int .i64 0), (.int .i64 0), (.int .i64 0), (.int .i64 0), (.int .i64 0)] [(0, (1, (.k (.int .i64 1576)))), (1, (1, (.k (.int .i64 1576)))), (2, (1, (.k (.int .i64 3)))), (3, (1, (.k (.int .i64
  2)))), (4, (1, (.k (.int .i64 3)))), (5, (1, (.k (.int .i64 0)))), (6, (1, (.k (.int .i64 6)))), (7, (1, (.k (.int .i64 0)))), (8, (1, (.k (.int .i64 1))))]), .none⟩, ⟨(.some 21), (.bd [(.int .i64 0),
  (.int .i64 0), (.int .i64 0), (.int .i64 0), (.int .i64 0), (.int .i64 0), (.int .i64 0), (.int .i64 0), (.int .i64 0)] [(0, (1, (.k (.int .i64 1577)))), (1, (1, (.k (.int .i64 1577)))), (2, (1, (.k
  (.int .i64 3)))), (3, (1, (.k (.int .i64 2)))), (4, (1, (.k (.int .i64 5)))), (5, (1, (.k (.int .i64 0)))), (6, (1, (.k (.int .i64 6)))), (7, (1, (.k (.int .i64 0)))), (8, (1, (.k (.int .i64 1))))]),
  .none⟩, ⟨(.some 22), (.bd [(.int .i64 0), (.int .i64 0), (.int .i64 0), (.int .i64 0), (.int .i64 0), (.int .i64 0), (.int .i64 0), (.int .i64 0), (.int .i64 0)] [(0, (1, (.k (.int .i64 1578)))), (1,
  (1, (.k (.int .i64 1582)))), (2, (1, (.k (.int .i64 3)))), (3, (1, (.k (.int .i64 2)))), (4, (1, (.k (.int .i64 3)))), (5, (1, (.k (.int .i64 0)))), (6, (1, (.k (.int .i64 6)))), (7, (1, (.k (.int
  .i64 0)))), (8, (1, (.k (.int .i64 1))))]), .none⟩, ⟨(.some 23), (.bd [(.int .i64 0), (.int .i64 0), (.int .i64 0), (.int .i64 0), (.int .i64 0), (.int .i64 0), (.int .i64 0), (.int .i64 0), (.int
  .i64 0)] [(0, (1, (.k (.int .i64 1583)))), (1, (1, (.k (.int .i64 1586)))), (2, (1, (.k (.int .i64 3)))), (3, (1, (.k (.int .i64 2)))), (4, (1, (.k (.int .i64 5)))), (5, (1, (.k (.int .i64 0)))), (6,
  (1, (.k (.int .i64 6)))), (7, (1, (.k (.int .i64 0)))), (8, (1, (.k (.int .i64 1))))]), .none⟩, ⟨(.some 24), (.bd [(.int .i64 0), (.int .i64 0), (.int .i64 0), (.int .i64 0), (.int .i64 0), (.int .i64
  0), (.int .i64 0), (.int .i64 0), (.int .i64 0)] [(0, (1, (.k (.int .i64 1587)))), (1, (1, (.k (.int .i64 1594)))), (2, (1, (.k (.int .i64 3)))), (3, (1, (.k (.int .i64 2)))), (4, (1, (.k (.int .i64
  3)))), (5, (1, (.k (.int .i64 0)))), (6, (1, (.k (.int .i64 6)))), (7, (1, (.k (.int .i64 0)))), (8, (1, (.k (.int .i64 1))))]), .none⟩, ⟨(.some 25), (.bd [(.int .i64 0), (.int .i64 0), (.int .i64 0),
  (.int .i64 0), (.int .i64 0), (.int .i64 0), (.int .i64 0), (.int .i64 0), (.int .i64 0)] [(0, (1, (.k (.int .i64 1600)))), (1, (1, (.k (.int .i64 1600)))), (2, (1, (.k (.int .i64 3)))), (3, (1, (.k
  (.int .i64 2)))), (4, (1, (.k (.int .i64 1)))), (5, (1, (.k (.int .i64 0)))), (6, (1, (.k (.int .i64 0)))), (7, (1, (.k (.int .i64 0)))), (8, (1, (.k (.int .i64 1))))]), .none⟩, ⟨(.some 26), (.bd
  [(.int .i64 0), (.int .i64 0), (.int .i64 0), (.int .i64 0), (.int .i64 0), (.int .i64 0), (.int .i64 0), (.int .i64 0), (.int .i64 0)] [(0, (1, (.k (.int .i64 1601)))), (1, (1, (.k (.int .i64
  1607)))), (2, (1, (.k (.int .i64 3)))), (3, (1, (.k (.int .i64 2)))), (4, (1, (.k (.int .i64 3)))), (5, (1, (.k (.int .i64 0)))), (6, (1, (.k (.int .i64 6)))), (7, (1, (.k (.int .i64 0)))), (8, (1,
  (.k (.int .i64 1))))]), .none⟩, ⟨(.some 27), (.bd [(.int .i64 0), (.int .i64 0), (.int .i64 0), (.int .i64 0), (.int .i64 0), (.int .i64 0), (.int .i64 0), (.int .i64 0), (.int .i64 0)] [(0, (1, (.k
  (.int .i64 1608)))), (1, (1, (.k (.int .i64 1608)))), (2, (1, (.k (.int .i64 3)))), (3, (1, (.k (.int .i64 2)))), (4, (1, (.k (.int .i64 5)))), (5, (1, (.k (.int .i64 0)))), (6, (1, (.k (.int .i64
  6)))), (7, (1, (.k (.int .i64 0)))), (8, (1, (.k (.int .i64 1))))]), .none⟩, ⟨(.some 28), (.bd [(.int .i64 0), (.int .i64 0), (.int .i64 0), (.int .i64 0), (.int .i64 0), (.int .i64 0), (.int .i64 0),
  (.int .i64 0), (.int .i64 0)] [(0, (1, (.k (.int .i64 1609)))), (1, (1, (.k (.int .i64 1610)))), (2, (1, (.k (.int .i64 3)))), (3, (1, (.k (.int .i64 2)))), (4, (1, (.k (.int .i64 3)))), (5, (1, (.k
  (.int .i64 0)))), (6, (1, (.k (.int .i64 6)))), (7, (1, (.k (.int .i64 0)))), (8, (1, (.k (.int .i64 1))))]), .none⟩, ⟨(.some 29), (.bd [(.int .i64 0), (.int .i64 0), (.int .i64 0), (.int .i64 0),
  (.int .i64 0), (.int .i64 0), (.int .i64 0), (.int .i64 0), (.int .i64 0)] [(0, (1, (.k (.int .i64 1611)))), (1, (1, (.k (.int .i64 1611)))), (2, (1, (.k (.int .i64 4)))), (3, (1, (.k (.int .i64
  8)))), (4, (1, (.k (.int .i64 2)))), (5, (1, (.k (.int .i64 27)))), (6, (1, (.k (.int .i64 1)))), (7, (1, (.k (.int .i64 0)))), (8, (1, (.k (.int .i64 0))))]), .none⟩, ⟨(.some 30), (.bd [(.int .i64
  0), (.int .i64 0), (.int .i64 0), (.int .i64 0), (.int .i64 0), (.int .i64 0), (.int .i64 0), (.int .i64 0), (.int .i64 0)] [(0, (1, (.k (.int .i64 1612)))), (1, (1, (.k (.int .i64 1612)))), (2, (1,
  (.k (.int .i64 4)))), (3, (1, (.k (.int .i64 8)))), (4, (1, (.k (.int .i64 2)))), (5, (1, (.k (.int .i64 28)))), (6, (1, (.k (.int .i64 1)))), (7, (1, (.k (.int .i64 0)))), (8, (1, (.k (.int .i64
  0))))]), .none⟩, ⟨(.some 31), (.bd [(.int .i64 0), (.int .i64 0), (.int .i64 0), (.int .i64 0), (.int .i64 0), (.int .i64 0), (.int .i64 0), (.int .i64 0), (.int .i64 0)] [(0, (1, (.k (.int .i64
  1613)))), (1, (1, (.k (.int .i64 1613)))), (2, (1, (.k (.int .i64 4)))), (3, (1, (.k (.int .i64 8)))), (4, (1, (.k (.int .i64 2)))), (5, (1, (.k (.int .i64 29)))), (6, (1, (.k (.int .i64 1)))), (7,
  (1, (.k (.int .i64 0)))), (8, (1, (.k (.int .i64 0))))]), .none⟩, ⟨(.some 32), (.bd [(.int .i64 0), (.int .i64 0), (.int .i64 0), (.int .i64 0), (.int .i64 0), (.int .i64 0), (.int .i64 0), (.int .i64
  0), (.int .i64 0)] [(0, (1, (.k (.int .i64 1614)))), (1, (1, (.k (.int .i64 1614)))), (2, (1, (.k (.int .i64 4)))), (3, (1, (.k (.int .i64 8)))), (4, (1, (.k (.int .i64 2)))), (5, (1, (.k (.int .i64
  30)))), (6, (1, (.k (.int .i64 1)))), (7, (1, (.k (.int .i64 0)))), (8, (1, (.k (.int .i64 0))))]), .none⟩, ⟨(.some 33), (.bd [(.int .i64 0), (.int .i64 0), (.int .i64 0), (.int .i64 0), (.int .i64
  0), (.int .i64 0), (.int .i64 0), (.int .i64 0), (.int .i64 0)] [(0, (1, (.k (.int .i64 1615)))), (1, (1, (.k (.int .i64 1615)))), (2, (1, (.k (.int .i64 4)))), (3, (1, (.k (.int .i64 8)))), (4, (1,
  (.k (.int .i64 2)))), (5, (1, (.k (.int .i64 31)))), (6, (1, (.k (.int .i64 1)))), (7, (1, (.k (.int .i64 0)))), (8, (1, (.k (.int .i64 0))))]), .none⟩, ⟨(.some 34), (.bd [(.int .i64 0), (.int .i64
  0), (.int .i64 0), (.int .i64 0), (.int .i64 0), (.int .i64 0), (.int .i64 0), (.int .i64 0), (.int .i64 0)] [(0, (1, (.k (.int .i64 1616)))), (1, (1, (.k (.int .i64 1616)))), (2, (1, (.k (.int .i64
  4)))), (3, (1, (.k (.int .i64 8)))), (4, (1, (.k (.int .i64 2)))), (5, (1, (.k (.int .i64 32)))), (6, (1, (.k (.int .i64 1)))), (7, (1, (.k (.int .i64 0)))), (8, (1, (.k (.int .i64 0))))]), .none⟩,
  ⟨(.some 35), (.bs 133 9 [(.t 1), (.t 2), (.t 3), (.t 4), (.t 5), (.t 6), (.t 7), (.t 8), (.t 9), (.t 10), (.t 11), (.t 12), (.t 13), (.t 14), (.t 15), (.t 16), (.t 17), (.t 18), (.t 19), (.t 20), (.t
  21), (.t 22), (.t 23), (.t 24), (.t 25), (.t 26), (.t 27), (.t 28), (.t 29), (.t 30), (.t 31), (.t 32), (.t 33), (.t 34)]), .none⟩, ⟨(.some 0), (.mv (.t 35)), .none⟩]) .ret))
theorem c108 : Try.f108.body.bind (cCode Try.prog 36) = some a108 := by kernel_rfl
theorem r108 : Try.f108.results.toList = [(.tmp 0)] := by kernel_rfl
theorem n108 : Try.f108.ntmps = 36 := by kernel_rfl
theorem e108 : Enters Try.prog 108 := enters_of Try.func108 (by kernel_rfl) (by kernel_rfl)
def a109 : ACode :=
  (.seq (.reg [⟨(.some 0), (.mv (.k (.slice .none 0 0))), .none⟩]) (.seq (.reg [⟨(.some 1), (.bd [(.int .i64 0), (.int .i64 0), (.int .i64 0), (.int .i64 0), (.int .i64 0), (.int .i64 0), (.int .i64 0),
  (.int .i64 0), (.int .i64 0)] [(0, (1, (.k (.int .i64 1617)))), (1, (1, (.k (.int .i64 1617)))), (2, (1, (.k (.int .i64 4)))), (3, (1, (.k (.int .i64 8)))), (4, (1, (.k (.int .i64 2)))), (5, (1, (.k
  (.int .i64 33)))), (6, (1, (.k (.int .i64 1)))), (7, (1, (.k (.int .i64 0)))), (8, (1, (.k (.int .i64 0))))]), .none⟩, ⟨(.some 2), (.bd [(.int .i64 0), (.int .i64 0), (.int .i64 0), (.int .i64 0),
  (.int .i64 0), (.int .i64 0), (.int .i64 0), (.int .i64 0), (.int .i64 0)] [(0, (1, (.k (.int .i64 1618)))), (1, (1, (.k (.int .i64 1618)))), (2, (1, (.k (.int .i64 4)))), (3, (1, (.k (.int .i64
  8)))), (4, (1, (.k (.int .i64 2)))), (5, (1, (.k (.int .i64 34)))), (6, (1, (.k (.int .i64 1)))), (7, (1, (.k (.int .i64 0)))), (8, (1, (.k (.int .i64 0))))]), .none⟩, ⟨(.some 3), (.bd [(.int .i64 0),
  (.int .i64 0), (.int .i64 0), (.int .i64 0), (.int .i64 0), (.int .i64 0), (.int .i64 0), (.int .i64 0), (.int .i64 0)] [(0, (1, (.k (.int .i64 1619)))), (1, (1, (.k (.int .i64 1620)))), (2, (1, (.k
  (.int .i64 4)))), (3, (1, (.k (.int .i64 8)))), (4, (1, (.k (.int .i64 2)))), (5, (1, (.k (.int .i64 230)))), (6, (1, (.k (.int .i64 1)))), (7, (1, (.k (.int .i64 0)))), (8, (1, (.k (.int .i64
  0))))]), .none⟩, ⟨(.some 4), (.bd [(.int .i64 0), (.int .i64 0), (.int .i64 0), (.int .i64 0), (.int .i64 0), (.int .i64 0), (.int .i64 0), (.int .i64 0), (.int .i64 0)] [(0, (1, (.k (.int .i64
  1621)))), (1, (1, (.k (.int .i64 1621)))), (2, (1, (.k (.int .i64 4)))), (3, (1, (.k (.int .i64 8)))), (4, (1, (.k (.int .i64 2)))), (5, (1, (.k (.int .i64 220)))), (6, (1, (.k (.int .i64 1)))), (7,
  (1, (.k (.int .i64 0)))), (8, (1, (.k (.int .i64 0))))]), .none⟩, ⟨(.some 5), (.bd [(.int .i64 0), (.int .i64 0), (.int .i64 0), (.int .i64 0), (.int .i64 0), (.int .i64 0), (.int .i64 0), (.int .i64
  0), (.int .i64 0)] [(0, (1, (.k (.int .i64 1632)))), (1, (1, (.k (.int .i64 1641)))), (2, (1, (.k (.int .i64 5)))), (3, (1, (.k (.int .i64 6)))), (4, (1, (.k (.int .i64 0)))), (5, (1, (.k (.int .i64
  0)))), (6, (1, (.k (.int .i64 6)))), (7, (1, (.k (.int .i64 2)))), (8, (1, (.k (.int .i64 1))))]), .none⟩, ⟨(.some 6), (.bd [(.int .i64 0), (.int .i64 0), (.int .i64 0), (.int .i64 0), (.int .i64 0),
  (.int .i64 0), (.int .i64 0), (.int .i64 0), (.int .i64 0)] [(0, (1, (.k (.int .i64 1642)))), (1, (1, (.k (.int .i64 1642)))), (2, (1, (.k (.int .i64 6)))), (3, (1, (.k (.int .i64 5)))), (4, (1, (.k
  (.int .i64 0)))), (5, (1, (.k (.int .i64 0)))), (6, (1, (.k (.int .i64 6)))), (7, (1, (.k (.int .i64 0)))), (8, (1, (.k (.int .i64 1))))]), .none⟩, ⟨(.some 7), (.bd [(.int .i64 0), (.int .i64 0),
  (.int .i64 0), (.int .i64 0), (.int .i64 0), (.int .i64 0), (.int .i64 0), (.int .i64 0), (.int .i64 0)] [(0, (1, (.k (.int .i64 1643)))), (1, (1, (.k (.int .i64 1644)))), (2, (1, (.k (.int .i64
  6)))), (3, (1, (.k (.int .i64 6)))), (4, (1, (.k (.int .i64 0)))), (5, (1, (.k (.int .i64 0)))), (6, (1, (.k (.int .i64 6)))), (7, (1, (.k (.int .i64 0)))), (8, (1, (.k (.int .i64 1))))]), .none⟩,
  ⟨(.some 8), (.bd [(.int .i64 0), (.int .i64 0), (.int .i64 0), (.int .i64 0), (.int .i64 0), (.int .i64 0), (.int .i64 0), (.int .i64 0), (.int .i64 0)] [(0, (1, (.k (.int .i64 1740)))), (1, (1, (.k
  (.int .i64 1740)))), (2, (1, (.k (.int .i64 3)))), (3, (1, (.k (.int .i64 2)))), (4, (1, (.k (.int .i64 3)))), (5, (1, (.k (.int .i64 0)))), (6, (1, (.k (.int .i64 6)))), (7, (1, (.k (.int .i64 0)))),
  (8, (1, (.k (.int .i64 1))))]), .none⟩, ⟨(.some 9), (.bd [(.int .i64 0), (.int .i64 0), (.int .i64 0), (.int .i64 0), (.int .i64 0), (.int .i64 0), (.int .i64 0), (.int .i64 0), (.int .i64 0)] [(0,
  (1, (.k (.int .i64 1776)))), (1, (1, (.k (.int .i64 1785)))), (2, (1, (.k (.int .i64 5)))), (3, (1, (.k (.int .i64 3)))), (4, (1, (.k (.int .i64 0)))), (5, (1, (.k (.int .i64 0)))), (6, (1, (.k (.int
  .i64 6)))), (7, (1, (.k (.int .i64 3)))), (8, (1, (.k (.int .i64 1))))]), .none⟩, ⟨(.some 10), (.bd [(.int .i64 0), (.int .i64 0), (.int .i64 0), (.int .i64 0), (.int .i64 0), (.int .i64 0), (.int
  .i64 0), (.int .i64 0), (.int .i64 0)] [(0, (1, (.k (.int .i64 2306)))), (1, (1, (.k (.int .i64 2306)))), (2, (1, (.k (.int .i64 4)))), (3, (1, (.k (.int .i64 8)))), (4, (1, (.k (.int .i64 2)))), (5,
  (1, (.k (.int .i64 0)))), (6, (1, (.k (.int .i64 7)))), (7, (1, (.k (.int .i64 0)))), (8, (1, (.k (.int .i64 0))))]), .none⟩, ⟨(.some 11), (.bd [(.int .i64 0), (.int .i64 0), (.int .i64 0), (.int .i64
  0), (.int .i64 0), (.int .i64 0), (.int .i64 0), (.int .i64 0), (.int .i64 0)] [(0, (1, (.k (.int .i64 2307)))), (1, (1, (.k (.int .i64 2307)))), (2, (1, (.k (.int .i64 4)))), (3, (1, (.k (.int .i64
  0)))), (4, (1, (.k (.int .i64 0)))), (5, (1, (.k (.int .i64 0)))), (6, (1, (.k (.int .i64 7)))), (7, (1, (.k (.int .i64 0)))), (8, (1, (.k (.int .i64 1))))]), .none⟩, ⟨(.some 12), (.bd [(.int .i64 0),
  (.int .i64 0), (.int .i64 0), (.int .i64 0), (.int .i64 0), (.int .i64 0), (.int .i64 0), (.int .i64 0), (.int .i64 0)] [(0, (1, (.k (.int .i64 2309)))), (1, (1, (.k (.int .i64 2361)))), (2, (1, (.k
  (.int .i64 3)))), (3, (1, (.k (.int .i64 0)))), (4, (1, (.k (.int .i64 0)))), (5, (1, (.k (.int .i64 0)))), (6, (1, (.k (.int .i64 7)))), (7, (1, (.k (.int .i64 0)))), (8, (1, (.k (.int .i64 1))))]),
  .none⟩, ⟨(.some 13), (.bd [(.int .i64 0), (.int .i64 0), (.int .i64 0), (.int .i64 0), (.int .i64 0), (.int .i64 0), (.int .i64 0), (.int .i64 0), (.int .i64 0)] [(0, (1, (.k (.int .i64 2364)))), (1,
  (1, (.k (.int .i64 2364)))), (2, (1, (.k (.int .i64 4)))), (3, (1, (.k (.int .i64 8)))), (4, (1, (.k (.int .i64 2)))), (5, (1, (.k (.int .i64 7)))), (6, (1, (.k (.int .i64 7)))), (7, (1, (.k (.int
  .i64 0)))), (8, (1, (.k (.int .i64 0))))]), .none⟩, ⟨(.some 14), (.bd [(.int .i64 0), (.int .i64 0), (.int .i64 0), (.int .i64 0), (.int .i64 0), (.int .i64 0), (.int .i64 0), (.int .i64 0), (.int
  .i64 0)] [(0, (1, (.k (.int .i64 2366)))), (1, (1, (.k (.int .i64 2368)))), (2, (1, (.k (.int .i64 4)))), (3, (1, (.k (.int .i64 0)))), (4, (1, (.k (.int .i64 0)))), (5, (1, (.k (.int .i64 0)))), (6,
  (1, (.k (.int .i64 7)))), (7, (1, (.k (.int .i64 0)))), (8, (1, (.k (.int .i64 1))))]), .none⟩, ⟨(.some 15), (.bd [(.int .i64 0), (.int .i64 0), (.int .i64 0), (.int .i64 0), (.int .i64 0), (.int .i64
  0), (.int .i64 0), (.int .i64 0), (.int .i64 0)] [(0, (1, (.k (.int .i64 2369)))), (1, (1, (.k (.int .i64 2376)))), (2, (1, (.k (.int .i64 4)))), (3, (1, (.k (.int .i64 8)))), (4, (1, (.k (.int .i64
  2)))), (5, (1, (.k (.int .i64 0)))), (6, (1, (.k (.int .i64 7)))), (7, (1, (.k (.int .i64 0)))), (8, (1, (.k (.int .i64 0))))]), .none⟩, ⟨(.some 16), (.bd [(.int .i64 0), (.int .i64 0), (.int .i64 0),
  (.int .i64 0), (.int .i64 0), (.int .i64 0), (.int .i64 0), (.int .i64 0), (.int .i64 0)] [(0, (1, (.k (.int .i64 2381)))), (1, (1, (.k (.int .i64 2381)))), (2, (1, (.k (.int .i64 4)))), (3, (1, (.k
  (.int .i64 8)))), (4, (1, (.k (.int .i64 2)))), (5, (1, (.k (.int .i64 9)))), (6, (1, (.k (.int .i64 7)))), (7, (1, (.k (.int .i64 0)))), (8, (1, (.k (.int .i64 0))))]), .none⟩, ⟨(.some 17), (.bd
  [(.int .i64 0), (.int .i64 0), (.int .i64 0), (.int .i64 0), (.int .i64 0), (.int .i64 0), (.int .i64 0), (.int .i64 0), (.int .i64 0)] [(0, (1, (.k (.int .i64 2406)))), (1, (1, (.k (.int .i64
  2415)))), (2, (1, (.k (.int .i64 5)))), (3, (1, (.k (.int .i64 0)))), (4, (1, (.k (.int .i64 0)))), (5, (1, (.k (.int .i64 0)))), (6, (1, (.k (.int .i64 7)))), (7, (1, (.k (.int .i64 4)))), (8, (1,
  (.k (.int .i64 1))))]), .none⟩, ⟨(.some 18), (.bd [(.int .i64 0), (.int .i64 0), (.int .i64 0), (.int .i64 0), (.int .i64 0), (.int .i64 0), (.int .i64 0), (.int .i64 0), (.int .i64 0)] [(0, (1, (.k
  (.int .i64 4352)))), (1, (1, (.k (.int .i64 4370)))), (2, (1, (.k (.int .i64 3)))), (3, (1, (.k (.int .i64 0)))), (4, (1, (.k (.int .i64 0)))), (5, (1, (.k (.int .i64 0)))), (6, (1, (.k (.int .i64
  11)))), (7, (1, (.k (.int .i64 0)))), (8, (1, (.k (.int .i64 2))))]), .none⟩, ⟨(.some 19), (.bd [(.int .i64 0), (.int .i64 0), (.int .i64 0), (.int .i64 0), (.int .i64 0), (.int .i64 0), (.int .i64
  0), (.int .i64 0), (.int .i64 0)] [(0, (1, (.k (.int .i64 4449)))), (1, (1, (.k (.int .i64 4469)))), (2, (1, (.k (.int .i64 3)))), (3, (1, (.k (.int .i64 0)))), (4, (1, (.k (.int .i64 0)))), (5, (1,
  (.k (.int .i64 0)))), (6, (1, (.k (.int .i64 11)))), (7, (1, (.k (.int .i64 0)))), (8, (1, (.k (.int .i64 0))))]), .none⟩, ⟨(.some 20), (.bd [(.int .i64 0), (.int .i64 0), (.int .i64 0), (.int .i64
  0), (.int .i64 0), (.int .i64 0), (.int .i64 0), (.int .i64 0), (.int .i64 0)] [(0, (1, (.k (.int .i64 4520)))), (1, (1, (.k (.int .i64 4546)))), (2, (1, (.k (.int .i64 3)))), (3, (1, (.k (.int .i64
  0)))), (4, (1, (.k (.int .i64 0)))), (5, (1, (.k (.int .i64 0)))), (6, (1, (.k (.int .i64 11)))), (7, (1, (.k (.int .i64 0)))), (8, (1, (.k (.int .i64 0))))]), .none⟩, ⟨(.some 21), (.bd [(.int .i64
  0), (.int .i64 0), (.int .i64 0), (.int .i64 0), (.int .i64 0), (.int .i64 0), (.int .i64 0), (.int .i64 0), (.int .i64 0)] [(0, (1, (.k (.int .i64 8203)))), (1, (1, (.k (.int .i64 8203)))), (2, (1,
  (.k (.int .i64 10)))), (3, (1, (.k (.int .i64 9)))), (4, (1, (.k (.int .i64 2)))), (5, (1, (.k (.int .i64 0)))), (6, (1, (.k (.int .i64 0)))), (7, (1, (.k (.int .i64 0)))), (8, (1, (.k (.int .i64
  0))))]), .none⟩, ⟨(.some 22), (.bd [(.int .i64 0), (.int .i64 0), (.int .i64 0), (.int .i64 0), (.int .i64 0), (.int .i64 0), (.int .i64 0), (.int .i64 0), (.int .i64 0)] [(0, (1, (.k (.int .i64
  8204)))), (1, (1, (.k (.int .i64 8204)))), (2, (1, (.k (.int .i64 10)))), (3, (1, (.k (.int .i64 9)))), (4, (1, (.k (.int .i64 0)))), (5, (1, (.k (.int .i64 0)))), (6, (1, (.k (.int .i64 1)))), (7,
  (1, (.k (.int .i64 0)))), (8, (1, (.k (.int .i64 0))))]), .none⟩, ⟨(.some 23), (.bd [(.int .i64 0), (.int .i64 0), (.int .i64 0), (.int .i64 0), (.int .i64 0), (.int .i64 0), (.int .i64 0), (.int .i64
  0), (.int .i64 0)] [(0, (1, (.k (.int .i64 8205)))), (1, (1, (.k (.int .i64 8205)))), (2, (1, (.k (.int .i64 10)))), (3, (1, (.k (.int .i64 9)))), (4, (1, (.k (.int .i64 1)))), (5, (1, (.k (.int .i64
  0)))), (6, (1, (.k (.int .i64 1)))), (7, (1, (.k (.int .i64 0)))), (8, (1, (.k (.int .i64 0))))]), .none⟩, ⟨(.some 24), (.bd [(.int .i64 0), (.int .i64 0), (.int .i64 0), (.int .i64 0), (.int .i64 0),
  (.int .i64 0), (.int .i64 0), (.int .i64 0), (.int .i64 0)] [(0, (1, (.k (.int .i64 8206)))), (1, (1, (.k (.int .i64 8206)))), (2, (1, (.k (.int .i64 10)))), (3, (1, (.k (.int .i64 0)))), (4, (1, (.k
  (.int .i64 2)))), (5, (1, (.k (.int .i64 0)))), (6, (1, (.k (.int .i64 0)))), (7, (1, (.k (.int .i64 0)))), (8, (1, (.k (.int .i64 0))))]), .none⟩, ⟨(.some 25), (.bd [(.int .i64 0), (.int .i64 0),
  (.int .i64 0), (.int .i64 0), (.int .i64 0), (.int .i64 0), (.int .i64 0), (.int .i64 0), (.int .i64 0)] [(0, (1, (.k (.int .i64 8207)))), (1, (1, (.k (.int .i64 8207)))), (2, (1, (.k (.int .i64
  10)))), (3, (1, (.k (.int .i64 1)))), (4, (1, (.k (.int .i64 2)))), (5, (1, (.k (.int .i64 0)))), (6, (1, (.k (.int .i64 0)))), (7, (1, (.k (.int .i64 0)))), (8, (1, (.k (.int .i64 0))))]), .none⟩,
  ⟨(.some 26), (.bd [(.int .i64 0), (.int .i64 0), (.int .i64 0), (.int .i64 0), (.int .i64 0), (.int .i64 0), (.int .i64 0), (.int .i64 0), (.int .i64 0)] [(0, (1, (.k (.int .i64 8211)))), (1, (1, (.k
  (.int .i64 8212)))), (2, (1, (.k (.int .i64 6)))), (3, (1, (.k (.int .i64 13)))), (4, (1, (.k (.int .i64 0)))), (5, (1, (.k (.int .i64 0)))), (6, (1, (.k (.int .i64 0)))), (7, (1, (.k (.int .i64
  0)))), (8, (1, (.k (.int .i64 1))))]), .none⟩, ⟨(.some 27), (.bd [(.int .i64 0), (.int .i64 0), (.int .i64 0), (.int .i64 0), (.int .i64 0), (.int .i64 0), (.int .i64 0), (.int .i64 0), (.int .i64 0)]
  [(0, (1, (.k (.int .i64 8216)))), (1, (1, (.k (.int .i64 8223)))), (2, (1, (.k (.int .i64 6)))), (3, (1, (.k (.int .i64 13)))), (4, (1, (.k (.int .i64 0)))), (5, (1, (.k (.int .i64 0)))), (6, (1, (.k
  (.int .i64 0)))), (7, (1, (.k (.int .i64 0)))), (8, (1, (.k (.int .i64 1))))]), .none⟩, ⟨(.some 28), (.bd [(.int .i64 0), (.int .i64 0), (.int .i64 0), (.int .i64 0), (.int .i64 0), (.int .i64 0),
  (.int .i64 0), (.int .i64 0), (.int .i64 0)] [(0, (1, (.k (.int .i64 8230)))), (1, (1, (.k (.int .i64 8230)))), (2, (1, (.k (.int .i64 6)))), (3, (1, (.k (.int .i64 13)))), (4, (1, (.k (.int .i64
  0)))), (5, (1, (.k (.int .i64 0)))), (6, (1, (.k (.int .i64 0)))), (7, (1, (.k (.int .i64 0)))), (8, (1, (.k (.int .i64 1))))]), .none⟩, ⟨(.some 29), (.bd [(.int .i64 0), (.int .i64 0), (.int .i64 0),
  (.int .i64 0), (.int .i64 0), (.int .i64 0), (.int .i64 0), (.int .i64 0), (.int .i64 0)] [(0, (1, (.k (.int .i64 8232)))), (1, (1, (.k (.int .i64 8232)))), (2, (1, (.k (.int .i64 8)))), (3, (1, (.k
  (.int .i64 12)))), (4, (1, (.k (.int .i64 0)))), (5, (1, (.k (.int .i64 0)))), (6, (1, (.k (.int .i64 0)))), (7, (1, (.k (.int .i64 0)))), (8, (1, (.k (.int .i64 0))))]), .none⟩, ⟨(.some 30), (.bd
  [(.int .i64 0), (.int .i64 0), (.int .i64 0), (.int .i64 0), (.int .i64 0), (.int .i64 0), (.int .i64 0), (.int .i64 0), (.int .i64 0)] [(0, (1, (.k (.int .i64 8233)))), (1, (1, (.k (.int .i64
  8233)))), (2, (1, (.k (.int .i64 8)))), (3, (1, (.k (.int .i64 10)))), (4, (1, (.k (.int .i64 0)))), (5, (1, (.k (.int .i64 0)))), (6, (1, (.k (.int .i64 0)))), (7, (1, (.k (.int .i64 0)))), (8, (1,
  (.k (.int .i64 0))))]), .none⟩, ⟨(.some 31), (.bd [(.int .i64 0), (.int .i64 0), (.int .i64 0), (.int .i64 0), (.int .i64 0), (.int .i64 0), (.int .i64 0), (.int .i64 0), (.int .i64 0)] [(0, (1, (.k
  (.int .i64 8234)))), (1, (1, (.k (.int .i64 8234)))), (2, (1, (.k (.int .i64 10)))), (3, (1, (.k (.int .i64 14)))), (4, (1, (.k (.int .i64 2)))), (5, (1, (.k (.int .i64 0)))), (6, (1, (.k (.int .i64
  0)))), (7, (1, (.k (.int .i64 0)))), (8, (1, (.k (.int .i64 0))))]), .none⟩, ⟨(.some 32), (.bd [(.int .i64 0), (.int .i64 0), (.int .i64 0), (.int .i64 0), (.int .i64 0), (.int .i64 0), (.int .i64 0),
  (.int .i64 0), (.int .i64 0)] [(0, (1, (.k (.int .i64 8235)))), (1, (1, (.k (.int .i64 8235)))), (2, (1, (.k (.int .i64 10)))), (3, (1, (.k (.int .i64 15)))), (4, (1, (.k (.int .i64 2)))), (5, (1, (.k
  (.int .i64 0)))), (6, (1, (.k (.int .i64 0)))), (7, (1, (.k (.int .i64 0)))), (8, (1, (.k (.int .i64 0))))]), .none⟩, ⟨(.some 33), (.bd [(.int .i64 0), (.int .i64 0), (.int .i64 0), (.int .i64 0),
  (.int .i64 0), (.int .i64 0), (.int .i64 0), (.int .i64 0), (.int .i64 0)] [(0, (1, (.k (.int .i64 8236)))), (1, (1, (.k (.int .i64 8236)))), (2, (1, (.k (.int .i64 10)))), (3, (1, (.k (.int .i64
  16)))), (4, (1, (.k (.int .i64 2)))), (5, (1, (.k (.int .i64 0)))), (6, (1, (.k (.int .i64 0)))), (7, (1, (.k (.int .i64 0)))), (8, (1, (.k (.int .i64 0))))]), .none⟩, ⟨(.some 34), (.bd [(.int .i64
  0), (.int .i64 0), (.int .i64 0), (.int .i64 0), (.int .i64 0), (.int .i64 0), (.int .i64 0), (.int .i64 0), (.int .i64 0)] [(0, (1, (.k (.int .i64 8237)))), (1, (1, (.k (.int .i64 8237)))), (2, (1,
  (.k (.int .i64 10)))), (3, (1, (.k (.int .i64 17)))), (4, (1, (.k (.int .i64 2)))), (5, (1, (.k (.int .i64 0)))), (6, (1, (.k (.int .i64 0)))), (7, (1, (.k (.int .i64 0)))), (8, (1, (.k (.int .i64
  0))))]), .none⟩, ⟨(.some 35), (.bs 133 9 [(.t 1), (.t 2), (.t 3), (.t 4), (.t 5), (.t 6), (.t 7), (.t 8), (.t 9), (.t 10), (.t 11), (.t 12), (.t 13), (.t 14), (.t 15), (.t 16), (.t 17), (.t 18), (.t
  19), (.t 20), (.t 21), (.t 22), (.t 23), (.t 24), (.t 25), (.t 26), (.t 27), (.t 28), (.t 29), (.t 30), (.t 31), (.t 32), (.t 33), (.t 34)]), .none⟩, ⟨(.some 0), (.mv (.t 35)), .none⟩]) .ret))
theorem c109 : Try.f109.body.bind (cCode Try.prog 36) = some a109 := by kernel_rfl
theorem r109 : Try.f109.results.toList = [(.tmp 0)] := by kernel_rfl
theorem n109 : Try.f109.ntmps = 36 := by kernel_rfl
theorem e109 : Enters Try.prog 109 := enters_of Try.func109 (by kernel_rfl) (by kernel_rfl)
def a110 : ACode :=
  (.seq (.reg [⟨(.some 0), (.mv (.k (.slice .none 0 0))), .none⟩]) (.seq (.reg [⟨(.some 1), (.bd [(.int .i64 0), (.int .i64 0), (.int .i64 0), (.int .i64 0), (.int .i64 0), (.int .i64 0), (.int .i64 0),
  (.int .i64 0), (.int .i64 0)] [(0, (1, (.k (.int .i64 8238)))), (1, (1, (.k (.int .i64 8238)))), (2, (1, (.k (.int .i64 10)))), (3, (1, (.k (.int .i64 18)))), (4, (1, (.k (.int .i64 2)))), (5, (1, (.k
  (.int .i64 0)))), (6, (1, (.k (.int .i64 0)))), (7, (1, (.k (.int .i64 0)))), (8, (1, (.k (.int .i64 0))))]), .none⟩, ⟨(.some 2), (.bd [(.int .i64 0), (.int .i64 0), (.int .i64 0), (.int .i64 0),
  (.int .i64 0), (.int .i64 0), (.int .i64 0), (.int .i64 0), (.int .i64 0)] [(0, (1, (.k (.int .i64 8260)))), (1, (1, (.k (.int .i64 8260)))), (2, (1, (.k (.int .i64 7)))), (3, (1, (.k (.int .i64
  7)))), (4, (1, (.k (.int .i64 0)))), (5, (1, (.k (.int .i64 0)))), (6, (1, (.k (.int .i64 0)))), (7, (1, (.k (.int .i64 0)))), (8, (1, (.k (.int .i64 1))))]), .none⟩, ⟨(.some 3), (.bd [(.int .i64 0),
  (.int .i64 0), (.int .i64 0), (.int .i64 0), (.int .i64 0), (.int .i64 0), (.int .i64 0), (.int .i64 0), (.int .i64 0)] [(0, (1, (.k (.int .i64 8294)))), (1, (1, (.k (.int .i64 8294)))), (2, (1, (.k
  (.int .i64 10)))), (3, (1, (.k (.int .i64 19)))), (4, (1, (.k (.int .i64 0)))), (5, (1, (.k (.int .i64 0)))), (6, (1, (.k (.int .i64 0)))), (7, (1, (.k (.int .i64 0)))), (8, (1, (.k (.int .i64
  0))))]), .none⟩, ⟨(.some 4), (.bd [(.int .i64 0), (.int .i64 0), (.int .i64 0), (.int .i64 0), (.int .i64 0), (.int .i64 0), (.int .i64 0), (.int .i64 0), (.int .i64 0)] [(0, (1, (.k (.int .i64
  8295)))), (1, (1, (.k (.int .i64 8295)))), (2, (1, (.k (.int .i64 10)))), (3, (1, (.k (.int .i64 20)))), (4, (1, (.k (.int .i64 0)))), (5, (1, (.k (.int .i64 0)))), (6, (1, (.k (.int .i64 0)))), (7,
  (1, (.k (.int .i64 0)))), (8, (1, (.k (.int .i64 0))))]), .none⟩, ⟨(.some 5), (.bd [(.int .i64 0), (.int .i64 0), (.int .i64 0), (.int .i64 0), (.int .i64 0), (.int .i64 0), (.int .i64 0), (.int .i64
  0), (.int .i64 0)] [(0, (1, (.k (.int .i64 8296)))), (1, (1, (.k (.int .i64 8296)))), (2, (1, (.k (.int .i64 10)))), (3, (1, (.k (.int .i64 21)))), (4, (1, (.k (.int .i64 0)))), (5, (1, (.k (.int .i64
  0)))), (6, (1, (.k (.int .i64 0)))), (7, (1, (.k (.int .i64 0)))), (8, (1, (.k (.int .i64 0))))]), .none⟩, ⟨(.some 6), (.bd [(.int .i64 0), (.int .i64 0), (.int .i64 0), (.int .i64 0), (.int .i64 0),
  (.int .i64 0), (.int .i64 0), (.int .i64 0), (.int .i64 0)] [(0, (1, (.k (.int .i64 8297)))), (1, (1, (.k (.int .i64 8297)))), (2, (1, (.k (.int .i64 10)))), (3, (1, (.k (.int .i64 22)))), (4, (1, (.k
  (.int .i64 0)))), (5, (1, (.k (.int .i64 0)))), (6, (1, (.k (.int .i64 0)))), (7, (1, (.k (.int .i64 0)))), (8, (1, (.k (.int .i64 0))))]), .none⟩, ⟨(.some 7), (.bd [(.int .i64 0), (.int .i64 0),
  (.int .i64 0), (.int .i64 0), (.int .i64 0), (.int .i64 0), (.int .i64 0), (.int .i64 0), (.int .i64 0)] [(0, (1, (.k (.int .i64 8364)))), (1, (1, (.k (.int .i64 8364)))), (2, (1, (.k (.int .i64
  7)))), (3, (1, (.k (.int .i64 5)))), (4, (1, (.k (.int .i64 0)))), (5, (1, (.k (.int .i64 0)))), (6, (1, (.k (.int .i64 0)))), (7, (1, (.k (.int .i64 0)))), (8, (1, (.k (.int .i64 1))))]), .none⟩,
  ⟨(.some 8), (.bd [(.int .i64 0), (.int .i64 0), (.int .i64 0), (.int .i64 0), (.int .i64 0), (.int .i64 0), (.int .i64 0), (.int .i64 0), (.int .i64 0)] [(0, (1, (.k (.int .i64 8722)))), (1, (1, (.k
  (.int .i64 8722)))), (2, (1, (.k (.int .i64 7)))), (3, (1, (.k (.int .i64 4)))), (4, (1, (.k (.int .i64 0)))), (5, (1, (.k (.int .i64 0)))), (6, (1, (.k (.int .i64 0)))), (7, (1, (.k (.int .i64 0)))),
  (8, (1, (.k (.int .i64 1))))]), .none⟩, ⟨(.some 9), (.bd [(.int .i64 0), (.int .i64 0), (.int .i64 0), (.int .i64 0), (.int .i64 0), (.int .i64 0), (.int .i64 0), (.int .i64 0), (.int .i64 0)] [(0,
  (1, (.k (.int .i64 8725)))), (1, (1, (.k (.int .i64 8725)))), (2, (1, (.k (.int .i64 7)))), (3, (1, (.k (.int .i64 13)))), (4, (1, (.k (.int .i64 0)))), (5, (1, (.k (.int .i64 0)))), (6, (1, (.k (.int
  .i64 0)))), (7, (1, (.k (.int .i64 0)))), (8, (1, (.k (.int .i64 1))))]), .none⟩, ⟨(.some 10), (.bd [(.int .i64 0), (.int .i64 0), (.int .i64 0), (.int .i64 0), (.int .i64 0), (.int .i64 0), (.int
  .i64 0), (.int .i64 0), (.int .i64 0)] [(0, (1, (.k (.int .i64 9001)))), (1, (1, (.k (.int .i64 9002)))), (2, (1, (.k (.int .i64 6)))), (3, (1, (.k (.int .i64 13)))), (4, (1, (.k (.int .i64 0)))), (5,
  (1, (.k (.int .i64 0)))), (6, (1, (.k (.int .i64 0)))), (7, (1, (.k (.int .i64 0)))), (8, (1, (.k (.int .i64 2))))]), .none⟩, ⟨(.some 11), (.bd [(.int .i64 0), (.int .i64 0), (.int .i64 0), (.int .i64
  0), (.int .i64 0), (.int .i64 0), (.int .i64 0), (.int .i64 0), (.int .i64 0)] [(0, (1, (.k (.int .i64 12290)))), (1, (1, (.k (.int .i64 12290)))), (2, (1, (.k (.int .i64 6)))), (3, (1, (.k (.int .i64
  13)))), (4, (1, (.k (.int .i64 0)))), (5, (1, (.k (.int .i64 0)))), (6, (1, (.k (.int .i64 0)))), (7, (1, (.k (.int .i64 0)))), (8, (1, (.k (.int .i64 2))))]), .none⟩, ⟨(.some 12), (.bd [(.int .i64
  0), (.int .i64 0), (.int .i64 0), (.int .i64 0), (.int .i64 0), (.int .i64 0), (.int .i64 0), (.int .i64 0), (.int .i64 0)] [(0, (1, (.k (.int .i64 12293)))), (1, (1, (.k (.int .i64 12293)))), (2, (1,
  (.k (.int .i64 3)))), (3, (1, (.k (.int .i64 0)))), (4, (1, (.k (.int .i64 0)))), (5, (1, (.k (.int .i64 0)))), (6, (1, (.k (.int .i64 8)))), (7, (1, (.k (.int .i64 0)))), (8, (1, (.k (.int .i64
  2))))]), .none⟩, ⟨(.some 13), (.bd [(.int .i64 0), (.int .i64 0), (.int .i64 0), (.int .i64 0), (.int .i64 0), (.int .i64 0), (.int .i64 0), (.int .i64 0), (.int .i64 0)] [(0, (1, (.k (.int .i64
  12296)))), (1, (1, (.k (.int .i64 12297)))), (2, (1, (.k (.int .i64 6)))), (3, (1, (.k (.int .i64 13)))), (4, (1, (.k (.int .i64 0)))), (5, (1, (.k (.int .i64 0)))), (6, (1, (.k (.int .i64 0)))), (7,
  (1, (.k (.int .i64 0)))), (8, (1, (.k (.int .i64 2))))]), .none⟩, ⟨(.some 14), (.bd [(.int .i64 0), (.int .i64 0), (.int .i64 0), (.int .i64 0), (.int .i64 0), (.int .i64 0), (.int .i64 0), (.int .i64
  0), (.int .i64 0)] [(0, (1, (.k (.int .i64 12300)))), (1, (1, (.k (.int .i64 12301)))), (2, (1, (.k (.int .i64 6)))), (3, (1, (.k (.int .i64 13)))), (4, (1, (.k (.int .i64 0)))), (5, (1, (.k (.int
  .i64 0)))), (6, (1, (.k (.int .i64 0)))), (7, (1, (.k (.int .i64 0)))), (8, (1, (.k (.int .i64 2))))]), .none⟩, ⟨(.some 15), (.bd [(.int .i64 0), (.int .i64 0), (.int .i64 0), (.int .i64 0), (.int
  .i64 0), (.int .i64 0), (.int .i64 0), (.int .i64 0), (.int .i64 0)] [(0, (1, (.k (.int .i64 12353)))), (1, (1, (.k (.int .i64 12438)))), (2, (1, (.k (.int .i64 3)))), (3, (1, (.k (.int .i64 0)))),
  (4, (1, (.k (.int .i64 0)))), (5, (1, (.k (.int .i64 0)))), (6, (1, (.k (.int .i64 9)))), (7, (1, (.k (.int .i64 0)))), (8, (1, (.k (.int .i64 2))))]), .none⟩, ⟨(.some 16), (.bd [(.int .i64 0), (.int
  .i64 0), (.int .i64 0), (.int .i64 0), (.int .i64 0), (.int .i64 0), (.int .i64 0), (.int .i64 0), (.int .i64 0)] [(0, (1, (.k (.int .i64 12441)))), (1, (1, (.k (.int .i64 12441)))), (2, (1, (.k (.int
  .i64 4)))), (3, (1, (.k (.int .i64 8)))), (4, (1, (.k (.int .i64 2)))), (5, (1, (.k (.int .i64 8)))), (6, (1, (.k (.int .i64 1)))), (7, (1, (.k (.int .i64 0)))), (8, (1, (.k (.int .i64 0))))]),
  .none⟩, ⟨(.some 17), (.bd [(.int .i64 0), (.int .i64 0), (.int .i64 0), (.int .i64 0), (.int .i64 0), (.int .i64 0), (.int .i64 0), (.int .i64 0), (.int .i64 0)] [(0, (1, (.k (.int .i64 12449)))), (1,
  (1, (.k (.int .i64 12538)))), (2, (1, (.k (.int .i64 3)))), (3, (1, (.k (.int .i64 0)))), (4, (1, (.k (.int .i64 0)))), (5, (1, (.k (.int .i64 0)))), (6, (1, (.k (.int .i64 10)))), (7, (1, (.k (.int
  .i64 0)))), (8, (1, (.k (.int .i64 2))))]), .none⟩, ⟨(.some 18), (.bd [(.int .i64 0), (.int .i64 0), (.int .i64 0), (.int .i64 0), (.int .i64 0), (.int .i64 0), (.int .i64 0), (.int .i64 0), (.int
  .i64 0)] [(0, (1, (.k (.int .i64 12539)))), (1, (1, (.k (.int .i64 12539)))), (2, (1, (.k (.int .i64 6)))), (3, (1, (.k (.int .i64 13)))), (4, (1, (.k (.int .i64 0)))), (5, (1, (.k (.int .i64 0)))),
  (6, (1, (.k (.int .i64 0)))), (7, (1, (.k (.int .i64 0)))), (8, (1, (.k (.int .i64 2))))]), .none⟩, ⟨(.some 19), (.bd [(.int .i64 0), (.int .i64 0), (.int .i64 0), (.int .i64 0), (.int .i64 0), (.int
  .i64 0), (.int .i64 0), (.int .i64 0), (.int .i64 0)] [(0, (1, (.k (.int .i64 12540)))), (1, (1, (.k (.int .i64 12540)))), (2, (1, (.k (.int .i64 3)))), (3, (1, (.k (.int .i64 0)))), (4, (1, (.k (.int
  .i64 0)))), (5, (1, (.k (.int .i64 0)))), (6, (1, (.k (.int .i64 0)))), (7, (1, (.k (.int .i64 0)))), (8, (1, (.k (.int .i64 2))))]), .none⟩, ⟨(.some 20), (.bd [(.int .i64 0), (.int .i64 0), (.int
  .i64 0), (.int .i64 0), (.int .i64 0), (.int .i64 0), (.int .i64 0), (.int .i64 0), (.int .i64 0)] [(0, (1, (.k (.int .i64 19968)))), (1, (1, (.k (.int .i64 40959)))), (2, (1, (.k (.int .i64 3)))),
  (3, (1, (.k (.int .i64 0)))), (4, (1, (.k (.int .i64 0)))), (5, (1, (.k (.int .i64 0)))), (6, (1, (.k (.int .i64 8)))), (7, (1, (.k (.int .i64 0)))), (8, (1, (.k (.int .i64 2))))]), .none⟩, ⟨(.some
  21), (.bd [(.int .i64 0), (.int .i64 0), (.int .i64 0), (.int .i64 0), (.int .i64 0), (.int .i64 0), (.int .i64 0), (.int .i64 0), (.int .i64 0)] [(0, (1, (.k (.int .i64 44032)))), (1, (1, (.k (.int
  .i64 55203)))), (2, (1, (.k (.int .i64 3)))), (3, (1, (.k (.int .i64 0)))), (4, (1, (.k (.int .i64 0)))), (5, (1, (.k (.int .i64 0)))), (6, (1, (.k (.int .i64 11)))), (7, (1, (.k (.int .i64 0)))), (8,
  (1, (.k (.int .i64 2))))]), .none⟩, ⟨(.some 22), (.bd [(.int .i64 0), (.int .i64 0), (.int .i64 0), (.int .i64 0), (.int .i64 0), (.int .i64 0), (.int .i64 0), (.int .i64 0), (.int .i64 0)] [(0, (1,
  (.k (.int .i64 65038)))), (1, (1, (.k (.int .i64 65039)))), (2, (1, (.k (.int .i64 4)))), (3, (1, (.k (.int .i64 8)))), (4, (1, (.k (.int .i64 2)))), (5, (1, (.k (.int .i64 0)))), (6, (1, (.k (.int
  .i64 1)))), (7, (1, (.k (.int .i64 0)))), (8, (1, (.k (.int .i64 0))))]), .none⟩, ⟨(.some 23), (.bd [(.int .i64 0), (.int .i64 0), (.int .i64 0), (.int .i64 0), (.int .i64 0), (.int .i64 0), (.int
  .i64 0), (.int .i64 0), (.int .i64 0)] [(0, (1, (.k (.int .i64 65279)))), (1, (1, (.k (.int .i64 65279)))), (2, (1, (.k (.int .i64 10)))), (3, (1, (.k (.int .i64 9)))), (4, (1, (.k (.int .i64 2)))),
  (5, (1, (.k (.int .i64 0)))), (6, (1, (.k (.int .i64 0)))), (7, (1, (.k (.int .i64 0)))), (8, (1, (.k (.int .i64 0))))]), .none⟩, ⟨(.some 24), (.bd [(.int .i64 0), (.int .i64 0), (.int .i64 0), (.int
  .i64 0), (.int .i64 0), (.int .i64 0), (.int .i64 0), (.int .i64 0), (.int .i64 0)] [(0, (1, (.k (.int .i64 65288)))), (1, (1, (.k (.int .i64 65289)))), (2, (1, (.k (.int .i64 6)))), (3, (1, (.k (.int
  .i64 13)))), (4, (1, (.k (.int .i64 0)))), (5, (1, (.k (.int .i64 0)))), (6, (1, (.k (.int .i64 0)))), (7, (1, (.k (.int .i64 0)))), (8, (1, (.k (.int .i64 2))))]), .none⟩, ⟨(.some 25), (.bd [(.int
  .i64 0), (.int .i64 0), (.int .i64 0), (.int .i64 0), (.int .i64 0), (.int .i64 0), (.int .i64 0), (.int .i64 0), (.int .i64 0)] [(0, (1, (.k (.int .i64 65294)))), (1, (1, (.k (.int .i64 65295)))),
  (2, (1, (.k (.int .i64 6)))), (3, (1, (.k (.int .i64 7)))), (4, (1, (.k (.int .i64 0)))), (5, (1, (.k (.int .i64 0)))), (6, (1, (.k (.int .i64 0)))), (7, (1, (.k (.int .i64 0)))), (8, (1, (.k (.int
  .i64 2))))]), .none⟩, ⟨(.some 26), (.bd [(.int .i64 0), (.int .i64 0), (.int .i64 0), (.int .i64 0), (.int .i64 0), (.int .i64 0), (.int .i64 0), (.int .i64 0), (.int .i64 0)] [(0, (1, (.k (.int .i64
  65296)))), (1, (1, (.k (.int .i64 65305)))), (2, (1, (.k (.int .i64 5)))), (3, (1, (.k (.int .i64 3)))), (4, (1, (.k (.int .i64 0)))), (5, (1, (.k (.int .i64 0)))), (6, (1, (.k (.int .i64 0)))), (7,
  (1, (.k (.int .i64 5)))), (8, (1, (.k (.int .i64 2))))]), .none⟩, ⟨(.some 27), (.bd [(.int .i64 0), (.int .i64 0), (.int .i64 0), (.int .i64 0), (.int .i64 0), (.int .i64 0), (.int .i64 0), (.int .i64
  0), (.int .i64 0)] [(0, (1, (.k (.int .i64 65306)))), (1, (1, (.k (.int .i64 65306)))), (2, (1, (.k (.int .i64 6)))), (3, (1, (.k (.int .i64 7)))), (4, (1, (.k (.int .i64 0)))), (5, (1, (.k (.int .i64
  0)))), (6, (1, (.k (.int .i64 0)))), (7, (1, (.k (.int .i64 0)))), (8, (1, (.k (.int .i64 2))))]), .none⟩, ⟨(.some 28), (.bd [(.int .i64 0), (.int .i64 0), (.int .i64 0), (.int .i64 0), (.int .i64 0),
  (.int .i64 0), (.int .i64 0), (.int .i64 0), (.int .i64 0)] [(0, (1, (.k (.int .i64 65313)))), (1, (1, (.k (.int .i64 65338)))), (2, (1, (.k (.int .i64 2)))), (3, (1, (.k (.int .i64 0)))), (4, (1, (.k
  (.int .i64 0)))), (5, (1, (.k (.int .i64 0)))), (6, (1, (.k (.int .i64 2)))), (7, (1, (.k (.int .i64 0)))), (8, (1, (.k (.int .i64 2))))]), .none⟩, ⟨(.some 29), (.bd [(.int .i64 0), (.int .i64 0),
  (.int .i64 0), (.int .i64 0), (.int .i64 0), (.int .i64 0), (.int .i64 0), (.int .i64 0), (.int .i64 0)] [(0, (1, (.k (.int .i64 65345)))), (1, (1, (.k (.int .i64 65370)))), (2, (1, (.k (.int .i64
  1)))), (3, (1, (.k (.int .i64 0)))), (4, (1, (.k (.int .i64 0)))), (5, (1, (.k (.int .i64 0)))), (6, (1, (.k (.int .i64 2)))), (7, (1, (.k (.int .i64 0)))), (8, (1, (.k (.int .i64 2))))]), .none⟩,
  ⟨(.some 30), (.bd [(.int .i64 0), (.int .i64 0), (.int .i64 0), (.int .i64 0), (.int .i64 0), (.int .i64 0), (.int .i64 0), (.int .i64 0), (.int .i64 0)] [(0, (1, (.k (.int .i64 65533)))), (1, (1, (.k
  (.int .i64 65533)))), (2, (1, (.k (.int .i64 7)))), (3, (1, (.k (.int .i64 13)))), (4, (1, (.k (.int .i64 0)))), (5, (1, (.k (.int .i64 0)))), (6, (1, (.k (.int .i64 0)))), (7, (1, (.k (.int .i64
  0)))), (8, (1, (.k (.int .i64 1))))]), .none⟩, ⟨(.some 31), (.bs 133 9 [(.t 1), (.t 2), (.t 3), (.t 4), (.t 5), (.t 6), (.t 7), (.t 8), (.t 9), (.t 10), (.t 11), (.t 12), (.t 13), (.t 14), (.t 15),
  (.t 16), (.t 17), (.t 18), (.t 19), (.t 20), (.t 21), (.t 22), (.t 23), (.t 24), (.t 25), (.t 26), (.t 27), (.t 28), (.t 29), (.t 30)]), .none⟩, ⟨(.some 0), (.mv (.t 31)), .none⟩]) .ret))
theorem c110 : Try.f110.body.bind (cCode Try.prog 32) = some a110 := by kernel_rfl
theorem r110 : Try.f110.results.toList = [(.tmp 0)] := by kernel_rfl
theorem n110 : Try.f110.ntmps = 32 := by kernel_rfl
theorem e110 : Enters Try.prog 110 := enters_of Try.func110 (by kernel_rfl) (by kernel_rfl)

/-- The rows that straight code makes. -/
def rowsOf (A : ACode) (rs : List ResultVar) : List (List Value) := ((rowC A rs).map (·.2)).getD []

def tb1 : List (List Value) := rowsOf a88 [.tmp 0]
def tb2 : List (List Value) := rowsOf a89 [.tmp 0]
def tb3 : List (List Value) := rowsOf a90 [.tmp 0]
def tb4 : List (List Value) := rowsOf a91 [.tmp 0]
def tb5 : List (List Value) := rowsOf a92 [.tmp 0]
def rf1 : List (List Value) := rowsOf a106 [.tmp 0]
def rf2 : List (List Value) := rowsOf a107 [.tmp 0]
def rf3 : List (List Value) := rowsOf a108 [.tmp 0]
def rf4 : List (List Value) := rowsOf a109 [.tmp 0]
def rf5 : List (List Value) := rowsOf a110 [.tmp 0]

theorem part1_pure : Pure Try.prog 88 [] [99] (.sl 99 tb1 (some 0)) := pure1_run Try.func88 c88 n88 e88 r88 (by kernel_rfl)
theorem part2_pure : Pure Try.prog 89 [] [99] (.sl 99 tb2 (some 0)) := pure1_run Try.func89 c89 n89 e89 r89 (by kernel_rfl)
theorem part3_pure : Pure Try.prog 90 [] [99] (.sl 99 tb3 (some 0)) := pure1_run Try.func90 c90 n90 e90 r90 (by kernel_rfl)
theorem part4_pure : Pure Try.prog 91 [] [99] (.sl 99 tb4 (some 0)) := pure1_run Try.func91 c91 n91 e91 r91 (by kernel_rfl)
theorem part5_pure : Pure Try.prog 92 [] [99] (.sl 99 tb5 (some 0)) := pure1_run Try.func92 c92 n92 e92 r92 (by kernel_rfl)
theorem rows1_pure : Pure Try.prog 106 [] [133] (.sl 133 rf1 (some 0)) := pure1_run Try.func106 c106 n106 e106 r106 (by kernel_rfl)
theorem rows2_pure : Pure Try.prog 107 [] [133] (.sl 133 rf2 (some 0)) := pure1_run Try.func107 c107 n107 e107 r107 (by kernel_rfl)
theorem rows3_pure : Pure Try.prog 108 [] [133] (.sl 133 rf3 (some 0)) := pure1_run Try.func108 c108 n108 e108 r108 (by kernel_rfl)
theorem rows4_pure : Pure Try.prog 109 [] [133] (.sl 133 rf4 (some 0)) := pure1_run Try.func109 c109 n109 e109 r109 (by kernel_rfl)
theorem rows5_pure : Pure Try.prog 110 [] [133] (.sl 133 rf5 (some 0)) := pure1_run Try.func110 c110 n110 e110 r110 (by kernel_rfl)
end Go.Proofs.Ytmhpjoadfgplgaa
