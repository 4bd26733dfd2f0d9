/-
The table of pairs, on both sides, and what is known of it. Conditions: none.
-/
import Derived.Test.YtmhpjoadfgplgaaNrmW
set_option linter.unusedSimpArgs false
set_option linter.unusedVariables false
set_option linter.unusedSectionVars false
namespace Go.Proofs.Ytmhpjoadfgplgaa
open Go Go.Ab
def a60 : ACode :=
  (.seq (.reg [⟨(.some 0), (.mv (.k (.slice .none 0 0))), .none⟩]) (.seq (.reg [⟨(.some 1), (.bd [(.int .i32 0), (.int .i32 0), (.int .i32 0)] [(0, (1, (.k (.int .i32 192)))), (1, (1, (.k (.int .i32
  65)))), (2, (1, (.k (.int .i32 768))))]), .none⟩, ⟨(.some 2), (.bd [(.int .i32 0), (.int .i32 0), (.int .i32 0)] [(0, (1, (.k (.int .i32 193)))), (1, (1, (.k (.int .i32 65)))), (2, (1, (.k (.int .i32
  769))))]), .none⟩, ⟨(.some 3), (.bd [(.int .i32 0), (.int .i32 0), (.int .i32 0)] [(0, (1, (.k (.int .i32 194)))), (1, (1, (.k (.int .i32 65)))), (2, (1, (.k (.int .i32 770))))]), .none⟩, ⟨(.some 4),
  (.bd [(.int .i32 0), (.int .i32 0), (.int .i32 0)] [(0, (1, (.k (.int .i32 195)))), (1, (1, (.k (.int .i32 65)))), (2, (1, (.k (.int .i32 771))))]), .none⟩, ⟨(.some 5), (.bd [(.int .i32 0), (.int .i32
  0), (.int .i32 0)] [(0, (1, (.k (.int .i32 196)))), (1, (1, (.k (.int .i32 65)))), (2, (1, (.k (.int .i32 776))))]), .none⟩, ⟨(.some 6), (.bd [(.int .i32 0), (.int .i32 0), (.int .i32 0)] [(0, (1, (.k
  (.int .i32 197)))), (1, (1, (.k (.int .i32 65)))), (2, (1, (.k (.int .i32 778))))]), .none⟩, ⟨(.some 7), (.bd [(.int .i32 0), (.int .i32 0), (.int .i32 0)] [(0, (1, (.k (.int .i32 199)))), (1, (1, (.k
  (.int .i32 67)))), (2, (1, (.k (.int .i32 807))))]), .none⟩, ⟨(.some 8), (.bd [(.int .i32 0), (.int .i32 0), (.int .i32 0)] [(0, (1, (.k (.int .i32 200)))), (1, (1, (.k (.int .i32 69)))), (2, (1, (.k
  (.int .i32 768))))]), .none⟩, ⟨(.some 9), (.bd [(.int .i32 0), (.int .i32 0), (.int .i32 0)] [(0, (1, (.k (.int .i32 201)))), (1, (1, (.k (.int .i32 69)))), (2, (1, (.k (.int .i32 769))))]), .none⟩,
  ⟨(.some 10), (.bd [(.int .i32 0), (.int .i32 0), (.int .i32 0)] [(0, (1, (.k (.int .i32 202)))), (1, (1, (.k (.int .i32 69)))), (2, (1, (.k (.int .i32 770))))]), .none⟩, ⟨(.some 11), (.bd [(.int .i32
  0), (.int .i32 0), (.int .i32 0)] [(0, (1, (.k (.int .i32 203)))), (1, (1, (.k (.int .i32 69)))), (2, (1, (.k (.int .i32 776))))]), .none⟩, ⟨(.some 12), (.bd [(.int .i32 0), (.int .i32 0), (.int .i32
  0)] [(0, (1, (.k (.int .i32 204)))), (1, (1, (.k (.int .i32 73)))), (2, (1, (.k (.int .i32 768))))]), .none⟩, ⟨(.some 13), (.bd [(.int .i32 0), (.int .i32 0), (.int .i32 0)] [(0, (1, (.k (.int .i32
  205)))), (1, (1, (.k (.int .i32 73)))), (2, (1, (.k (.int .i32 769))))]), .none⟩, ⟨(.some 14), (.bd [(.int .i32 0), (.int .i32 0), (.int .i32 0)] [(0, (1, (.k (.int .i32 206)))), (1, (1, (.k (.int
  .i32 73)))), (2, (1, (.k (.int .i32 770))))]), .none⟩, ⟨(.some 15), (.bd [(.int .i32 0), (.int .i32 0), (.int .i32 0)] [(0, (1, (.k (.int .i32 207)))), (1, (1, (.k (.int .i32 73)))), (2, (1, (.k (.int
  .i32 776))))]), .none⟩, ⟨(.some 16), (.bd [(.int .i32 0), (.int .i32 0), (.int .i32 0)] [(0, (1, (.k (.int .i32 209)))), (1, (1, (.k (.int .i32 78)))), (2, (1, (.k (.int .i32 771))))]), .none⟩,
  ⟨(.some 17), (.bd [(.int .i32 0), (.int .i32 0), (.int .i32 0)] [(0, (1, (.k (.int .i32 210)))), (1, (1, (.k (.int .i32 79)))), (2, (1, (.k (.int .i32 768))))]), .none⟩, ⟨(.some 18), (.bd [(.int .i32
  0), (.int .i32 0), (.int .i32 0)] [(0, (1, (.k (.int .i32 211)))), (1, (1, (.k (.int .i32 79)))), (2, (1, (.k (.int .i32 769))))]), .none⟩, ⟨(.some 19), (.bd [(.int .i32 0), (.int .i32 0), (.int .i32
  0)] [(0, (1, (.k (.int .i32 212)))), (1, (1, (.k (.int .i32 79)))), (2, (1, (.k (.int .i32 770))))]), .none⟩, ⟨(.some 20), (.bd [(.int .i32 0), (.int .i32 0), (.int .i32 0)] [(0, (1, (.k (.int .i32
  213)))), (1, (1, (.k (.int .i32 79)))), (2, (1, (.k (.int .i32 771))))]), .none⟩, ⟨(.some 21), (.bd [(.int .i32 0), (.int .i32 0), (.int .i32 0)] [(0, (1, (.k (.int .i32 214)))), (1, (1, (.k (.int
  .i32 79)))), (2, (1, (.k (.int .i32 776))))]), .none⟩, ⟨(.some 22), (.bd [(.int .i32 0), (.int .i32 0), (.int .i32 0)] [(0, (1, (.k (.int .i32 217)))), (1, (1, (.k (.int .i32 85)))), (2, (1, (.k (.int
  .i32 768))))]), .none⟩, ⟨(.some 23), (.bd [(.int .i32 0), (.int .i32 0), (.int .i32 0)] [(0, (1, (.k (.int .i32 218)))), (1, (1, (.k (.int .i32 85)))), (2, (1, (.k (.int .i32 769))))]), .none⟩,
  ⟨(.some 24), (.bd [(.int .i32 0), (.int .i32 0), (.int .i32 0)] [(0, (1, (.k (.int .i32 219)))), (1, (1, (.k (.int .i32 85)))), (2, (1, (.k (.int .i32 770))))]), .none⟩, ⟨(.some 25), (.bd [(.int .i32
  0), (.int .i32 0), (.int .i32 0)] [(0, (1, (.k (.int .i32 220)))), (1, (1, (.k (.int .i32 85)))), (2, (1, (.k (.int .i32 776))))]), .none⟩, ⟨(.some 26), (.bd [(.int .i32 0), (.int .i32 0), (.int .i32
  0)] [(0, (1, (.k (.int .i32 221)))), (1, (1, (.k (.int .i32 89)))), (2, (1, (.k (.int .i32 769))))]), .none⟩, ⟨(.some 27), (.bd [(.int .i32 0), (.int .i32 0), (.int .i32 0)] [(0, (1, (.k (.int .i32
  224)))), (1, (1, (.k (.int .i32 97)))), (2, (1, (.k (.int .i32 768))))]), .none⟩, ⟨(.some 28), (.bd [(.int .i32 0), (.int .i32 0), (.int .i32 0)] [(0, (1, (.k (.int .i32 225)))), (1, (1, (.k (.int
  .i32 97)))), (2, (1, (.k (.int .i32 769))))]), .none⟩, ⟨(.some 29), (.bd [(.int .i32 0), (.int .i32 0), (.int .i32 0)] [(0, (1, (.k (.int .i32 226)))), (1, (1, (.k (.int .i32 97)))), (2, (1, (.k (.int
  .i32 770))))]), .none⟩, ⟨(.some 30), (.bd [(.int .i32 0), (.int .i32 0), (.int .i32 0)] [(0, (1, (.k (.int .i32 227)))), (1, (1, (.k (.int .i32 97)))), (2, (1, (.k (.int .i32 771))))]), .none⟩,
  ⟨(.some 31), (.bd [(.int .i32 0), (.int .i32 0), (.int .i32 0)] [(0, (1, (.k (.int .i32 228)))), (1, (1, (.k (.int .i32 97)))), (2, (1, (.k (.int .i32 776))))]), .none⟩, ⟨(.some 32), (.bd [(.int .i32
  0), (.int .i32 0), (.int .i32 0)] [(0, (1, (.k (.int .i32 229)))), (1, (1, (.k (.int .i32 97)))), (2, (1, (.k (.int .i32 778))))]), .none⟩, ⟨(.some 33), (.bd [(.int .i32 0), (.int .i32 0), (.int .i32
  0)] [(0, (1, (.k (.int .i32 231)))), (1, (1, (.k (.int .i32 99)))), (2, (1, (.k (.int .i32 807))))]), .none⟩, ⟨(.some 34), (.bd [(.int .i32 0), (.int .i32 0), (.int .i32 0)] [(0, (1, (.k (.int .i32
  232)))), (1, (1, (.k (.int .i32 101)))), (2, (1, (.k (.int .i32 768))))]), .none⟩, ⟨(.some 35), (.bd [(.int .i32 0), (.int .i32 0), (.int .i32 0)] [(0, (1, (.k (.int .i32 233)))), (1, (1, (.k (.int
  .i32 101)))), (2, (1, (.k (.int .i32 769))))]), .none⟩, ⟨(.some 36), (.bd [(.int .i32 0), (.int .i32 0), (.int .i32 0)] [(0, (1, (.k (.int .i32 234)))), (1, (1, (.k (.int .i32 101)))), (2, (1, (.k
  (.int .i32 770))))]), .none⟩, ⟨(.some 37), (.bd [(.int .i32 0), (.int .i32 0), (.int .i32 0)] [(0, (1, (.k (.int .i32 235)))), (1, (1, (.k (.int .i32 101)))), (2, (1, (.k (.int .i32 776))))]), .none⟩,
  ⟨(.some 38), (.bd [(.int .i32 0), (.int .i32 0), (.int .i32 0)] [(0, (1, (.k (.int .i32 236)))), (1, (1, (.k (.int .i32 105)))), (2, (1, (.k (.int .i32 768))))]), .none⟩, ⟨(.some 39), (.bd [(.int .i32
  0), (.int .i32 0), (.int .i32 0)] [(0, (1, (.k (.int .i32 237)))), (1, (1, (.k (.int .i32 105)))), (2, (1, (.k (.int .i32 769))))]), .none⟩, ⟨(.some 40), (.bd [(.int .i32 0), (.int .i32 0), (.int .i32
  0)] [(0, (1, (.k (.int .i32 238)))), (1, (1, (.k (.int .i32 105)))), (2, (1, (.k (.int .i32 770))))]), .none⟩, ⟨(.some 41), (.bd [(.int .i32 0), (.int .i32 0), (.int .i32 0)] [(0, (1, (.k (.int .i32
  239)))), (1, (1, (.k (.int .i32 105)))), (2, (1, (.k (.int .i32 776))))]), .none⟩, ⟨(.some 42), (.bd [(.int .i32 0), (.int .i32 0), (.int .i32 0)] [(0, (1, (.k (.int .i32 241)))), (1, (1, (.k (.int
  .i32 110)))), (2, (1, (.k (.int .i32 771))))]), .none⟩, ⟨(.some 43), (.bd [(.int .i32 0), (.int .i32 0), (.int .i32 0)] [(0, (1, (.k (.int .i32 242)))), (1, (1, (.k (.int .i32 111)))), (2, (1, (.k
  (.int .i32 768))))]), .none⟩, ⟨(.some 44), (.bd [(.int .i32 0), (.int .i32 0), (.int .i32 0)] [(0, (1, (.k (.int .i32 243)))), (1, (1, (.k (.int .i32 111)))), (2, (1, (.k (.int .i32 769))))]), .none⟩,
  ⟨(.some 45), (.bd [(.int .i32 0), (.int .i32 0), (.int .i32 0)] [(0, (1, (.k (.int .i32 244)))), (1, (1, (.k (.int .i32 111)))), (2, (1, (.k (.int .i32 770))))]), .none⟩, ⟨(.some 46), (.bd [(.int .i32
  0), (.int .i32 0), (.int .i32 0)] [(0, (1, (.k (.int .i32 245)))), (1, (1, (.k (.int .i32 111)))), (2, (1, (.k (.int .i32 771))))]), .none⟩, ⟨(.some 47), (.bd [(.int .i32 0), (.int .i32 0), (.int .i32
  0)] [(0, (1, (.k (.int .i32 246)))), (1, (1, (.k (.int .i32 111)))), (2, (1, (.k (.int .i32 776))))]), .none⟩, ⟨(.some 48), (.bd [(.int .i32 0), (.int .i32 0), (.int .i32 0)] [(0, (1, (.k (.int .i32
  249)))), (1, (1, (.k (.int .i32 117)))), (2, (1, (.k (.int .i32 768))))]), .none⟩, ⟨(.some 49), (.bd [(.int .i32 0), (.int .i32 0), (.int .i32 0)] [(0, (1, (.k (.int .i32 250)))), (1, (1, (.k (.int
  .i32 117)))), (2, (1, (.k (.int .i32 769))))]), .none⟩, ⟨(.some 50), (.bd [(.int .i32 0), (.int .i32 0), (.int .i32 0)] [(0, (1, (.k (.int .i32 251)))), (1, (1, (.k (.int .i32 117)))), (2, (1, (.k
  (.int .i32 770))))]), .none⟩, ⟨(.some 51), (.bd [(.int .i32 0), (.int .i32 0), (.int .i32 0)] [(0, (1, (.k (.int .i32 252)))), (1, (1, (.k (.int .i32 117)))), (2, (1, (.k (.int .i32 776))))]), .none⟩,
  ⟨(.some 52), (.bd [(.int .i32 0), (.int .i32 0), (.int .i32 0)] [(0, (1, (.k (.int .i32 253)))), (1, (1, (.k (.int .i32 121)))), (2, (1, (.k (.int .i32 769))))]), .none⟩, ⟨(.some 53), (.bd [(.int .i32
  0), (.int .i32 0), (.int .i32 0)] [(0, (1, (.k (.int .i32 255)))), (1, (1, (.k (.int .i32 121)))), (2, (1, (.k (.int .i32 776))))]), .none⟩, ⟨(.some 54), (.bd [(.int .i32 0), (.int .i32 0), (.int .i32
  0)] [(0, (1, (.k (.int .i32 471)))), (1, (1, (.k (.int .i32 220)))), (2, (1, (.k (.int .i32 769))))]), .none⟩, ⟨(.some 55), (.bd [(.int .i32 0), (.int .i32 0), (.int .i32 0)] [(0, (1, (.k (.int .i32
  472)))), (1, (1, (.k (.int .i32 252)))), (2, (1, (.k (.int .i32 769))))]), .none⟩, ⟨(.some 56), (.bd [(.int .i32 0), (.int .i32 0), (.int .i32 0)] [(0, (1, (.k (.int .i32 902)))), (1, (1, (.k (.int
  .i32 913)))), (2, (1, (.k (.int .i32 769))))]), .none⟩, ⟨(.some 57), (.bd [(.int .i32 0), (.int .i32 0), (.int .i32 0)] [(0, (1, (.k (.int .i32 904)))), (1, (1, (.k (.int .i32 917)))), (2, (1, (.k
  (.int .i32 769))))]), .none⟩, ⟨(.some 58), (.bd [(.int .i32 0), (.int .i32 0), (.int .i32 0)] [(0, (1, (.k (.int .i32 905)))), (1, (1, (.k (.int .i32 919)))), (2, (1, (.k (.int .i32 769))))]), .none⟩,
  ⟨(.some 59), (.bd [(.int .i32 0), (.int .i32 0), (.int .i32 0)] [(0, (1, (.k (.int .i32 906)))), (1, (1, (.k (.int .i32 921)))), (2, (1, (.k (.int .i32 769))))]), .none⟩, ⟨(.some 60), (.bd [(.int .i32
  0), (.int .i32 0), (.int .i32 0)] [(0, (1, (.k (.int .i32 940)))), (1, (1, (.k (.int .i32 945)))), (2, (1, (.k (.int .i32 769))))]), .none⟩, ⟨(.some 61), (.bd [(.int .i32 0), (.int .i32 0), (.int .i32
  0)] [(0, (1, (.k (.int .i32 941)))), (1, (1, (.k (.int .i32 949)))), (2, (1, (.k (.int .i32 769))))]), .none⟩, ⟨(.some 62), (.bd [(.int .i32 0), (.int .i32 0), (.int .i32 0)] [(0, (1, (.k (.int .i32
  942)))), (1, (1, (.k (.int .i32 951)))), (2, (1, (.k (.int .i32 769))))]), .none⟩, ⟨(.some 63), (.bd [(.int .i32 0), (.int .i32 0), (.int .i32 0)] [(0, (1, (.k (.int .i32 943)))), (1, (1, (.k (.int
  .i32 953)))), (2, (1, (.k (.int .i32 769))))]), .none⟩, ⟨(.some 64), (.bd [(.int .i32 0), (.int .i32 0), (.int .i32 0)] [(0, (1, (.k (.int .i32 1025)))), (1, (1, (.k (.int .i32 1045)))), (2, (1, (.k
  (.int .i32 776))))]), .none⟩, ⟨(.some 65), (.bd [(.int .i32 0), (.int .i32 0), (.int .i32 0)] [(0, (1, (.k (.int .i32 1105)))), (1, (1, (.k (.int .i32 1077)))), (2, (1, (.k (.int .i32 776))))]),
  .none⟩, ⟨(.some 66), (.bd [(.int .i32 0), (.int .i32 0), (.int .i32 0)] [(0, (1, (.k (.int .i32 1570)))), (1, (1, (.k (.int .i32 1575)))), (2, (1, (.k (.int .i32 1619))))]), .none⟩, ⟨(.some 67), (.bd
  [(.int .i32 0), (.int .i32 0), (.int .i32 0)] [(0, (1, (.k (.int .i32 1571)))), (1, (1, (.k (.int .i32 1575)))), (2, (1, (.k (.int .i32 1620))))]), .none⟩, ⟨(.some 68), (.bd [(.int .i32 0), (.int .i32
  0), (.int .i32 0)] [(0, (1, (.k (.int .i32 1572)))), (1, (1, (.k (.int .i32 1608)))), (2, (1, (.k (.int .i32 1620))))]), .none⟩, ⟨(.some 69), (.bd [(.int .i32 0), (.int .i32 0), (.int .i32 0)] [(0,
  (1, (.k (.int .i32 1573)))), (1, (1, (.k (.int .i32 1575)))), (2, (1, (.k (.int .i32 1621))))]), .none⟩, ⟨(.some 70), (.bd [(.int .i32 0), (.int .i32 0), (.int .i32 0)] [(0, (1, (.k (.int .i32
  1574)))), (1, (1, (.k (.int .i32 1610)))), (2, (1, (.k (.int .i32 1620))))]), .none⟩, ⟨(.some 71), (.bd [(.int .i32 0), (.int .i32 0), (.int .i32 0)] [(0, (1, (.k (.int .i32 2345)))), (1, (1, (.k
  (.int .i32 2344)))), (2, (1, (.k (.int .i32 2364))))]), .none⟩, ⟨(.some 72), (.bd [(.int .i32 0), (.int .i32 0), (.int .i32 0)] [(0, (1, (.k (.int .i32 2353)))), (1, (1, (.k (.int .i32 2352)))), (2,
  (1, (.k (.int .i32 2364))))]), .none⟩, ⟨(.some 73), (.bd [(.int .i32 0), (.int .i32 0), (.int .i32 0)] [(0, (1, (.k (.int .i32 2356)))), (1, (1, (.k (.int .i32 2355)))), (2, (1, (.k (.int .i32
  2364))))]), .none⟩, ⟨(.some 74), (.bd [(.int .i32 0), (.int .i32 0), (.int .i32 0)] [(0, (1, (.k (.int .i32 12364)))), (1, (1, (.k (.int .i32 12363)))), (2, (1, (.k (.int .i32 12441))))]), .none⟩,
  ⟨(.some 75), (.bd [(.int .i32 0), (.int .i32 0), (.int .i32 0)] [(0, (1, (.k (.int .i32 12366)))), (1, (1, (.k (.int .i32 12365)))), (2, (1, (.k (.int .i32 12441))))]), .none⟩, ⟨(.some 76), (.bd
  [(.int .i32 0), (.int .i32 0), (.int .i32 0)] [(0, (1, (.k (.int .i32 12368)))), (1, (1, (.k (.int .i32 12367)))), (2, (1, (.k (.int .i32 12441))))]), .none⟩, ⟨(.some 77), (.bd [(.int .i32 0), (.int
  .i32 0), (.int .i32 0)] [(0, (1, (.k (.int .i32 12370)))), (1, (1, (.k (.int .i32 12369)))), (2, (1, (.k (.int .i32 12441))))]), .none⟩, ⟨(.some 78), (.bd [(.int .i32 0), (.int .i32 0), (.int .i32 0)]
  [(0, (1, (.k (.int .i32 12372)))), (1, (1, (.k (.int .i32 12371)))), (2, (1, (.k (.int .i32 12441))))]), .none⟩, ⟨(.some 79), (.bd [(.int .i32 0), (.int .i32 0), (.int .i32 0)] [(0, (1, (.k (.int .i32
  12460)))), (1, (1, (.k (.int .i32 12459)))), (2, (1, (.k (.int .i32 12441))))]), .none⟩, ⟨(.some 80), (.bd [(.int .i32 0), (.int .i32 0), (.int .i32 0)] [(0, (1, (.k (.int .i32 12462)))), (1, (1, (.k
  (.int .i32 12461)))), (2, (1, (.k (.int .i32 12441))))]), .none⟩, ⟨(.some 81), (.bd [(.int .i32 0), (.int .i32 0), (.int .i32 0)] [(0, (1, (.k (.int .i32 12464)))), (1, (1, (.k (.int .i32 12463)))),
  (2, (1, (.k (.int .i32 12441))))]), .none⟩, ⟨(.some 82), (.bs 93 3 [(.t 1), (.t 2), (.t 3), (.t 4), (.t 5), (.t 6), (.t 7), (.t 8), (.t 9), (.t 10), (.t 11), (.t 12), (.t 13), (.t 14), (.t 15), (.t
  16), (.t 17), (.t 18), (.t 19), (.t 20), (.t 21), (.t 22), (.t 23), (.t 24), (.t 25), (.t 26), (.t 27), (.t 28), (.t 29), (.t 30), (.t 31), (.t 32), (.t 33), (.t 34), (.t 35), (.t 36), (.t 37), (.t
  38), (.t 39), (.t 40), (.t 41), (.t 42), (.t 43), (.t 44), (.t 45), (.t 46), (.t 47), (.t 48), (.t 49), (.t 50), (.t 51), (.t 52), (.t 53), (.t 54), (.t 55), (.t 56), (.t 57), (.t 58), (.t 59), (.t
  60), (.t 61), (.t 62), (.t 63), (.t 64), (.t 65), (.t 66), (.t 67), (.t 68), (.t 69), (.t 70), (.t 71), (.t 72), (.t 73), (.t 74), (.t 75), (.t 76), (.t 77), (.t 78), (.t 79), (.t 80), (.t 81)]),
  .none⟩, ⟨(.some 0), (.mv (.t 82)), .none⟩]) .ret))
theorem c60 : Try.f60.body.bind (cCode Try.prog 83) = some a60 := by kernel_rfl
theorem r60 : Try.f60.results.toList = [(.tmp 0)] := by kernel_rfl
theorem n60 : Try.f60.ntmps = 83 := by kernel_rfl
theorem e60 : Enters Try.prog 60 := enters_of Try.func60 (by kernel_rfl) (by kernel_rfl)
def a68 : ACode :=
  (.seq (.reg [⟨(.some 0), (.mv (.k (.slice .none 0 0))), .none⟩]) (.seq (.reg [⟨(.some 1), (.bd [(.int .i32 0), (.int .i32 0), (.int .i32 0)] [(0, (1, (.k (.int .i32 192)))), (1, (1, (.k (.int .i32
  65)))), (2, (1, (.k (.int .i32 768))))]), .none⟩, ⟨(.some 2), (.bd [(.int .i32 0), (.int .i32 0), (.int .i32 0)] [(0, (1, (.k (.int .i32 193)))), (1, (1, (.k (.int .i32 65)))), (2, (1, (.k (.int .i32
  769))))]), .none⟩, ⟨(.some 3), (.bd [(.int .i32 0), (.int .i32 0), (.int .i32 0)] [(0, (1, (.k (.int .i32 194)))), (1, (1, (.k (.int .i32 65)))), (2, (1, (.k (.int .i32 770))))]), .none⟩, ⟨(.some 4),
  (.bd [(.int .i32 0), (.int .i32 0), (.int .i32 0)] [(0, (1, (.k (.int .i32 195)))), (1, (1, (.k (.int .i32 65)))), (2, (1, (.k (.int .i32 771))))]), .none⟩, ⟨(.some 5), (.bd [(.int .i32 0), (.int .i32
  0), (.int .i32 0)] [(0, (1, (.k (.int .i32 196)))), (1, (1, (.k (.int .i32 65)))), (2, (1, (.k (.int .i32 776))))]), .none⟩, ⟨(.some 6), (.bd [(.int .i32 0), (.int .i32 0), (.int .i32 0)] [(0, (1, (.k
  (.int .i32 197)))), (1, (1, (.k (.int .i32 65)))), (2, (1, (.k (.int .i32 778))))]), .none⟩, ⟨(.some 7), (.bd [(.int .i32 0), (.int .i32 0), (.int .i32 0)] [(0, (1, (.k (.int .i32 199)))), (1, (1, (.k
  (.int .i32 67)))), (2, (1, (.k (.int .i32 807))))]), .none⟩, ⟨(.some 8), (.bd [(.int .i32 0), (.int .i32 0), (.int .i32 0)] [(0, (1, (.k (.int .i32 200)))), (1, (1, (.k (.int .i32 69)))), (2, (1, (.k
  (.int .i32 768))))]), .none⟩, ⟨(.some 9), (.bd [(.int .i32 0), (.int .i32 0), (.int .i32 0)] [(0, (1, (.k (.int .i32 201)))), (1, (1, (.k (.int .i32 69)))), (2, (1, (.k (.int .i32 769))))]), .none⟩,
  ⟨(.some 10), (.bd [(.int .i32 0), (.int .i32 0), (.int .i32 0)] [(0, (1, (.k (.int .i32 202)))), (1, (1, (.k (.int .i32 69)))), (2, (1, (.k (.int .i32 770))))]), .none⟩, ⟨(.some 11), (.bd [(.int .i32
  0), (.int .i32 0), (.int .i32 0)] [(0, (1, (.k (.int .i32 203)))), (1, (1, (.k (.int .i32 69)))), (2, (1, (.k (.int .i32 776))))]), .none⟩, ⟨(.some 12), (.bd [(.int .i32 0), (.int .i32 0), (.int .i32
  0)] [(0, (1, (.k (.int .i32 204)))), (1, (1, (.k (.int .i32 73)))), (2, (1, (.k (.int .i32 768))))]), .none⟩, ⟨(.some 13), (.bd [(.int .i32 0), (.int .i32 0), (.int .i32 0)] [(0, (1, (.k (.int .i32
  205)))), (1, (1, (.k (.int .i32 73)))), (2, (1, (.k (.int .i32 769))))]), .none⟩, ⟨(.some 14), (.bd [(.int .i32 0), (.int .i32 0), (.int .i32 0)] [(0, (1, (.k (.int .i32 206)))), (1, (1, (.k (.int
  .i32 73)))), (2, (1, (.k (.int .i32 770))))]), .none⟩, ⟨(.some 15), (.bd [(.int .i32 0), (.int .i32 0), (.int .i32 0)] [(0, (1, (.k (.int .i32 207)))), (1, (1, (.k (.int .i32 73)))), (2, (1, (.k (.int
  .i32 776))))]), .none⟩, ⟨(.some 16), (.bd [(.int .i32 0), (.int .i32 0), (.int .i32 0)] [(0, (1, (.k (.int .i32 209)))), (1, (1, (.k (.int .i32 78)))), (2, (1, (.k (.int .i32 771))))]), .none⟩,
  ⟨(.some 17), (.bd [(.int .i32 0), (.int .i32 0), (.int .i32 0)] [(0, (1, (.k (.int .i32 210)))), (1, (1, (.k (.int .i32 79)))), (2, (1, (.k (.int .i32 768))))]), .none⟩, ⟨(.some 18), (.bd [(.int .i32
  0), (.int .i32 0), (.int .i32 0)] [(0, (1, (.k (.int .i32 211)))), (1, (1, (.k (.int .i32 79)))), (2, (1, (.k (.int .i32 769))))]), .none⟩, ⟨(.some 19), (.bd [(.int .i32 0), (.int .i32 0), (.int .i32
  0)] [(0, (1, (.k (.int .i32 212)))), (1, (1, (.k (.int .i32 79)))), (2, (1, (.k (.int .i32 770))))]), .none⟩, ⟨(.some 20), (.bd [(.int .i32 0), (.int .i32 0), (.int .i32 0)] [(0, (1, (.k (.int .i32
  213)))), (1, (1, (.k (.int .i32 79)))), (2, (1, (.k (.int .i32 771))))]), .none⟩, ⟨(.some 21), (.bd [(.int .i32 0), (.int .i32 0), (.int .i32 0)] [(0, (1, (.k (.int .i32 214)))), (1, (1, (.k (.int
  .i32 79)))), (2, (1, (.k (.int .i32 776))))]), .none⟩, ⟨(.some 22), (.bd [(.int .i32 0), (.int .i32 0), (.int .i32 0)] [(0, (1, (.k (.int .i32 217)))), (1, (1, (.k (.int .i32 85)))), (2, (1, (.k (.int
  .i32 768))))]), .none⟩, ⟨(.some 23), (.bd [(.int .i32 0), (.int .i32 0), (.int .i32 0)] [(0, (1, (.k (.int .i32 218)))), (1, (1, (.k (.int .i32 85)))), (2, (1, (.k (.int .i32 769))))]), .none⟩,
  ⟨(.some 24), (.bd [(.int .i32 0), (.int .i32 0), (.int .i32 0)] [(0, (1, (.k (.int .i32 219)))), (1, (1, (.k (.int .i32 85)))), (2, (1, (.k (.int .i32 770))))]), .none⟩, ⟨(.some 25), (.bd [(.int .i32
  0), (.int .i32 0), (.int .i32 0)] [(0, (1, (.k (.int .i32 220)))), (1, (1, (.k (.int .i32 85)))), (2, (1, (.k (.int .i32 776))))]), .none⟩, ⟨(.some 26), (.bd [(.int .i32 0), (.int .i32 0), (.int .i32
  0)] [(0, (1, (.k (.int .i32 221)))), (1, (1, (.k (.int .i32 89)))), (2, (1, (.k (.int .i32 769))))]), .none⟩, ⟨(.some 27), (.bd [(.int .i32 0), (.int .i32 0), (.int .i32 0)] [(0, (1, (.k (.int .i32
  224)))), (1, (1, (.k (.int .i32 97)))), (2, (1, (.k (.int .i32 768))))]), .none⟩, ⟨(.some 28), (.bd [(.int .i32 0), (.int .i32 0), (.int .i32 0)] [(0, (1, (.k (.int .i32 225)))), (1, (1, (.k (.int
  .i32 97)))), (2, (1, (.k (.int .i32 769))))]), .none⟩, ⟨(.some 29), (.bd [(.int .i32 0), (.int .i32 0), (.int .i32 0)] [(0, (1, (.k (.int .i32 226)))), (1, (1, (.k (.int .i32 97)))), (2, (1, (.k (.int
  .i32 770))))]), .none⟩, ⟨(.some 30), (.bd [(.int .i32 0), (.int .i32 0), (.int .i32 0)] [(0, (1, (.k (.int .i32 227)))), (1, (1, (.k (.int .i32 97)))), (2, (1, (.k (.int .i32 771))))]), .none⟩,
  ⟨(.some 31), (.bd [(.int .i32 0), (.int .i32 0), (.int .i32 0)] [(0, (1, (.k (.int .i32 228)))), (1, (1, (.k (.int .i32 97)))), (2, (1, (.k (.int .i32 776))))]), .none⟩, ⟨(.some 32), (.bd [(.int .i32
  0), (.int .i32 0), (.int .i32 0)] [(0, (1, (.k (.int .i32 229)))), (1, (1, (.k (.int .i32 97)))), (2, (1, (.k (.int .i32 778))))]), .none⟩, ⟨(.some 33), (.bd [(.int .i32 0), (.int .i32 0), (.int .i32
  0)] [(0, (1, (.k (.int .i32 231)))), (1, (1, (.k (.int .i32 99)))), (2, (1, (.k (.int .i32 807))))]), .none⟩, ⟨(.some 34), (.bd [(.int .i32 0), (.int .i32 0), (.int .i32 0)] [(0, (1, (.k (.int .i32
  232)))), (1, (1, (.k (.int .i32 101)))), (2, (1, (.k (.int .i32 768))))]), .none⟩, ⟨(.some 35), (.bd [(.int .i32 0), (.int .i32 0), (.int .i32 0)] [(0, (1, (.k (.int .i32 233)))), (1, (1, (.k (.int
  .i32 101)))), (2, (1, (.k (.int .i32 769))))]), .none⟩, ⟨(.some 36), (.bd [(.int .i32 0), (.int .i32 0), (.int .i32 0)] [(0, (1, (.k (.int .i32 234)))), (1, (1, (.k (.int .i32 101)))), (2, (1, (.k
  (.int .i32 770))))]), .none⟩, ⟨(.some 37), (.bd [(.int .i32 0), (.int .i32 0), (.int .i32 0)] [(0, (1, (.k (.int .i32 235)))), (1, (1, (.k (.int .i32 101)))), (2, (1, (.k (.int .i32 776))))]), .none⟩,
  ⟨(.some 38), (.bd [(.int .i32 0), (.int .i32 0), (.int .i32 0)] [(0, (1, (.k (.int .i32 236)))), (1, (1, (.k (.int .i32 105)))), (2, (1, (.k (.int .i32 768))))]), .none⟩, ⟨(.some 39), (.bd [(.int .i32
  0), (.int .i32 0), (.int .i32 0)] [(0, (1, (.k (.int .i32 237)))), (1, (1, (.k (.int .i32 105)))), (2, (1, (.k (.int .i32 769))))]), .none⟩, ⟨(.some 40), (.bd [(.int .i32 0), (.int .i32 0), (.int .i32
  0)] [(0, (1, (.k (.int .i32 238)))), (1, (1, (.k (.int .i32 105)))), (2, (1, (.k (.int .i32 770))))]), .none⟩, ⟨(.some 41), (.bd [(.int .i32 0), (.int .i32 0), (.int .i32 0)] [(0, (1, (.k (.int .i32
  239)))), (1, (1, (.k (.int .i32 105)))), (2, (1, (.k (.int .i32 776))))]), .none⟩, ⟨(.some 42), (.bd [(.int .i32 0), (.int .i32 0), (.int .i32 0)] [(0, (1, (.k (.int .i32 241)))), (1, (1, (.k (.int
  .i32 110)))), (2, (1, (.k (.int .i32 771))))]), .none⟩, ⟨(.some 43), (.bd [(.int .i32 0), (.int .i32 0), (.int .i32 0)] [(0, (1, (.k (.int .i32 242)))), (1, (1, (.k (.int .i32 111)))), (2, (1, (.k
  (.int .i32 768))))]), .none⟩, ⟨(.some 44), (.bd [(.int .i32 0), (.int .i32 0), (.int .i32 0)] [(0, (1, (.k (.int .i32 243)))), (1, (1, (.k (.int .i32 111)))), (2, (1, (.k (.int .i32 769))))]), .none⟩,
  ⟨(.some 45), (.bd [(.int .i32 0), (.int .i32 0), (.int .i32 0)] [(0, (1, (.k (.int .i32 244)))), (1, (1, (.k (.int .i32 111)))), (2, (1, (.k (.int .i32 770))))]), .none⟩, ⟨(.some 46), (.bd [(.int .i32
  0), (.int .i32 0), (.int .i32 0)] [(0, (1, (.k (.int .i32 245)))), (1, (1, (.k (.int .i32 111)))), (2, (1, (.k (.int .i32 771))))]), .none⟩, ⟨(.some 47), (.bd [(.int .i32 0), (.int .i32 0), (.int .i32
  0)] [(0, (1, (.k (.int .i32 246)))), (1, (1, (.k (.int .i32 111)))), (2, (1, (.k (.int .i32 776))))]), .none⟩, ⟨(.some 48), (.bd [(.int .i32 0), (.int .i32 0), (.int .i32 0)] [(0, (1, (.k (.int .i32
  249)))), (1, (1, (.k (.int .i32 117)))), (2, (1, (.k (.int .i32 768))))]), .none⟩, ⟨(.some 49), (.bd [(.int .i32 0), (.int .i32 0), (.int .i32 0)] [(0, (1, (.k (.int .i32 250)))), (1, (1, (.k (.int
  .i32 117)))), (2, (1, (.k (.int .i32 769))))]), .none⟩, ⟨(.some 50), (.bd [(.int .i32 0), (.int .i32 0), (.int .i32 0)] [(0, (1, (.k (.int .i32 251)))), (1, (1, (.k (.int .i32 117)))), (2, (1, (.k
  (.int .i32 770))))]), .none⟩, ⟨(.some 51), (.bd [(.int .i32 0), (.int .i32 0), (.int .i32 0)] [(0, (1, (.k (.int .i32 252)))), (1, (1, (.k (.int .i32 117)))), (2, (1, (.k (.int .i32 776))))]), .none⟩,
  ⟨(.some 52), (.bd [(.int .i32 0), (.int .i32 0), (.int .i32 0)] [(0, (1, (.k (.int .i32 253)))), (1, (1, (.k (.int .i32 121)))), (2, (1, (.k (.int .i32 769))))]), .none⟩, ⟨(.some 53), (.bd [(.int .i32
  0), (.int .i32 0), (.int .i32 0)] [(0, (1, (.k (.int .i32 255)))), (1, (1, (.k (.int .i32 121)))), (2, (1, (.k (.int .i32 776))))]), .none⟩, ⟨(.some 54), (.bd [(.int .i32 0), (.int .i32 0), (.int .i32
  0)] [(0, (1, (.k (.int .i32 471)))), (1, (1, (.k (.int .i32 220)))), (2, (1, (.k (.int .i32 769))))]), .none⟩, ⟨(.some 55), (.bd [(.int .i32 0), (.int .i32 0), (.int .i32 0)] [(0, (1, (.k (.int .i32
  472)))), (1, (1, (.k (.int .i32 252)))), (2, (1, (.k (.int .i32 769))))]), .none⟩, ⟨(.some 56), (.bd [(.int .i32 0), (.int .i32 0), (.int .i32 0)] [(0, (1, (.k (.int .i32 902)))), (1, (1, (.k (.int
  .i32 913)))), (2, (1, (.k (.int .i32 769))))]), .none⟩, ⟨(.some 57), (.bd [(.int .i32 0), (.int .i32 0), (.int .i32 0)] [(0, (1, (.k (.int .i32 904)))), (1, (1, (.k (.int .i32 917)))), (2, (1, (.k
  (.int .i32 769))))]), .none⟩, ⟨(.some 58), (.bd [(.int .i32 0), (.int .i32 0), (.int .i32 0)] [(0, (1, (.k (.int .i32 905)))), (1, (1, (.k (.int .i32 919)))), (2, (1, (.k (.int .i32 769))))]), .none⟩,
  ⟨(.some 59), (.bd [(.int .i32 0), (.int .i32 0), (.int .i32 0)] [(0, (1, (.k (.int .i32 906)))), (1, (1, (.k (.int .i32 921)))), (2, (1, (.k (.int .i32 769))))]), .none⟩, ⟨(.some 60), (.bd [(.int .i32
  0), (.int .i32 0), (.int .i32 0)] [(0, (1, (.k (.int .i32 940)))), (1, (1, (.k (.int .i32 945)))), (2, (1, (.k (.int .i32 769))))]), .none⟩, ⟨(.some 61), (.bd [(.int .i32 0), (.int .i32 0), (.int .i32
  0)] [(0, (1, (.k (.int .i32 941)))), (1, (1, (.k (.int .i32 949)))), (2, (1, (.k (.int .i32 769))))]), .none⟩, ⟨(.some 62), (.bd [(.int .i32 0), (.int .i32 0), (.int .i32 0)] [(0, (1, (.k (.int .i32
  942)))), (1, (1, (.k (.int .i32 951)))), (2, (1, (.k (.int .i32 769))))]), .none⟩, ⟨(.some 63), (.bd [(.int .i32 0), (.int .i32 0), (.int .i32 0)] [(0, (1, (.k (.int .i32 943)))), (1, (1, (.k (.int
  .i32 953)))), (2, (1, (.k (.int .i32 769))))]), .none⟩, ⟨(.some 64), (.bd [(.int .i32 0), (.int .i32 0), (.int .i32 0)] [(0, (1, (.k (.int .i32 1025)))), (1, (1, (.k (.int .i32 1045)))), (2, (1, (.k
  (.int .i32 776))))]), .none⟩, ⟨(.some 65), (.bd [(.int .i32 0), (.int .i32 0), (.int .i32 0)] [(0, (1, (.k (.int .i32 1105)))), (1, (1, (.k (.int .i32 1077)))), (2, (1, (.k (.int .i32 776))))]),
  .none⟩, ⟨(.some 66), (.bd [(.int .i32 0), (.int .i32 0), (.int .i32 0)] [(0, (1, (.k (.int .i32 1570)))), (1, (1, (.k (.int .i32 1575)))), (2, (1, (.k (.int .i32 1619))))]), .none⟩, ⟨(.some 67), (.bd
  [(.int .i32 0), (.int .i32 0), (.int .i32 0)] [(0, (1, (.k (.int .i32 1571)))), (1, (1, (.k (.int .i32 1575)))), (2, (1, (.k (.int .i32 1620))))]), .none⟩, ⟨(.some 68), (.bd [(.int .i32 0), (.int .i32
  0), (.int .i32 0)] [(0, (1, (.k (.int .i32 1572)))), (1, (1, (.k (.int .i32 1608)))), (2, (1, (.k (.int .i32 1620))))]), .none⟩, ⟨(.some 69), (.bd [(.int .i32 0), (.int .i32 0), (.int .i32 0)] [(0,
  (1, (.k (.int .i32 1573)))), (1, (1, (.k (.int .i32 1575)))), (2, (1, (.k (.int .i32 1621))))]), .none⟩, ⟨(.some 70), (.bd [(.int .i32 0), (.int .i32 0), (.int .i32 0)] [(0, (1, (.k (.int .i32
  1574)))), (1, (1, (.k (.int .i32 1610)))), (2, (1, (.k (.int .i32 1620))))]), .none⟩, ⟨(.some 71), (.bd [(.int .i32 0), (.int .i32 0), (.int .i32 0)] [(0, (1, (.k (.int .i32 2345)))), (1, (1, (.k
  (.int .i32 2344)))), (2, (1, (.k (.int .i32 2364))))]), .none⟩, ⟨(.some 72), (.bd [(.int .i32 0), (.int .i32 0), (.int .i32 0)] [(0, (1, (.k (.int .i32 2353)))), (1, (1, (.k (.int .i32 2352)))), (2,
  (1, (.k (.int .i32 2364))))]), .none⟩, ⟨(.some 73), (.bd [(.int .i32 0), (.int .i32 0), (.int .i32 0)] [(0, (1, (.k (.int .i32 2356)))), (1, (1, (.k (.int .i32 2355)))), (2, (1, (.k (.int .i32
  2364))))]), .none⟩, ⟨(.some 74), (.bd [(.int .i32 0), (.int .i32 0), (.int .i32 0)] [(0, (1, (.k (.int .i32 12364)))), (1, (1, (.k (.int .i32 12363)))), (2, (1, (.k (.int .i32 12441))))]), .none⟩,
  ⟨(.some 75), (.bd [(.int .i32 0), (.int .i32 0), (.int .i32 0)] [(0, (1, (.k (.int .i32 12366)))), (1, (1, (.k (.int .i32 12365)))), (2, (1, (.k (.int .i32 12441))))]), .none⟩, ⟨(.some 76), (.bd
  [(.int .i32 0), (.int .i32 0), (.int .i32 0)] [(0, (1, (.k (.int .i32 12368)))), (1, (1, (.k (.int .i32 12367)))), (2, (1, (.k (.int .i32 12441))))]), .none⟩, ⟨(.some 77), (.bd [(.int .i32 0), (.int
  .i32 0), (.int .i32 0)] [(0, (1, (.k (.int .i32 12370)))), (1, (1, (.k (.int .i32 12369)))), (2, (1, (.k (.int .i32 12441))))]), .none⟩, ⟨(.some 78), (.bd [(.int .i32 0), (.int .i32 0), (.int .i32 0)]
  [(0, (1, (.k (.int .i32 12372)))), (1, (1, (.k (.int .i32 12371)))), (2, (1, (.k (.int .i32 12441))))]), .none⟩, ⟨(.some 79), (.bd [(.int .i32 0), (.int .i32 0), (.int .i32 0)] [(0, (1, (.k (.int .i32
  12460)))), (1, (1, (.k (.int .i32 12459)))), (2, (1, (.k (.int .i32 12441))))]), .none⟩, ⟨(.some 80), (.bd [(.int .i32 0), (.int .i32 0), (.int .i32 0)] [(0, (1, (.k (.int .i32 12462)))), (1, (1, (.k
  (.int .i32 12461)))), (2, (1, (.k (.int .i32 12441))))]), .none⟩, ⟨(.some 81), (.bd [(.int .i32 0), (.int .i32 0), (.int .i32 0)] [(0, (1, (.k (.int .i32 12464)))), (1, (1, (.k (.int .i32 12463)))),
  (2, (1, (.k (.int .i32 12441))))]), .none⟩, ⟨(.some 82), (.bs 93 3 [(.t 1), (.t 2), (.t 3), (.t 4), (.t 5), (.t 6), (.t 7), (.t 8), (.t 9), (.t 10), (.t 11), (.t 12), (.t 13), (.t 14), (.t 15), (.t
  16), (.t 17), (.t 18), (.t 19), (.t 20), (.t 21), (.t 22), (.t 23), (.t 24), (.t 25), (.t 26), (.t 27), (.t 28), (.t 29), (.t 30), (.t 31), (.t 32), (.t 33), (.t 34), (.t 35), (.t 36), (.t 37), (.t
  38), (.t 39), (.t 40), (.t 41), (.t 42), (.t 43), (.t 44), (.t 45), (.t 46), (.t 47), (.t 48), (.t 49), (.t 50), (.t 51), (.t 52), (.t 53), (.t 54), (.t 55), (.t 56), (.t 57), (.t 58), (.t 59), (.t
  60), (.t 61), (.t 62), (.t 63), (.t 64), (.t 65), (.t 66), (.t 67), (.t 68), (.t 69), (.t 70), (.t 71), (.t 72), (.t 73), (.t 74), (.t 75), (.t 76), (.t 77), (.t 78), (.t 79), (.t 80), (.t 81)]),
  .none⟩, ⟨(.some 0), (.mv (.t 82)), .none⟩]) .ret))
theorem c68 : Try.f68.body.bind (cCode Try.prog 83) = some a68 := by kernel_rfl
theorem r68 : Try.f68.results.toList = [(.tmp 0)] := by kernel_rfl
theorem n68 : Try.f68.ntmps = 83 := by kernel_rfl
theorem e68 : Enters Try.prog 68 := enters_of Try.func68 (by kernel_rfl) (by kernel_rfl)

def rowsOf3 (A : ACode) (rs : List ResultVar) : List (List Value) := ((rowC A rs).map (·.2)).getD []
def pT : List (List Value) := rowsOf3 a60 [.tmp 0]
theorem pairs_pure : Pure Try.prog 60 [] [93] (.sl 93 pT (some 0)) := pure1_run Try.func60 c60 n60 e60 r60 (by kernel_rfl)
theorem refPairs_pure : Pure Try.prog 68 [] [93] (.sl 93 pT (some 0)) := pure1_run Try.func68 c68 n68 e68 r68 (by kernel_rfl)

def read3 : List Value → Int × Int × Int
  | [.int _ a, .int _ b, .int _ c] => (a, b, c)
  | _ => (0, 0, 0)
def tri (p : Int × Int × Int) : List Value := [.int .i32 p.1, .int .i32 p.2.1, .int .i32 p.2.2]
/-- What is made, of which two. -/
def T : List (Int × Int × Int) := pT.map read3
theorem pT_eq : pT = T.map tri := by kernel_rfl
theorem T_len : T.length ≤ 100 := of_decide_eq_true (by kernel_rfl)

theorem rowAt_cases (r : Int) : rowAt r = ⟨0, 0, 0, 0, 0, 0, 0, 0, 1⟩ ∨ (rowAt r ∈ partOf r ∧ (rowAt r).fr ≤ r ∧ r ≤ (rowAt r).to) := by
  unfold rowAt
  split
  · rename_i x hx
    have h := place_ge (Nat.le_refl _) hx
    simp only [decide_eq_true_eq] at h
    split
    · exact .inl rfl
    · exact .inr ⟨List.mem_of_getElem? hx, by omega, h⟩
  · exact .inl rfl
def flatB (x : Row) : Bool := (decide (x.fr < 128) || (decide (x.fr ≤ 4607) && decide (4352 ≤ x.to)) || (decide (x.fr ≤ 55203) && decide (44032 ≤ x.to)) || (decide (x.fr ≤ 9002) && decide (9001 ≤ x.to))) && decide (x.ccc ≠ 0)
theorem flat_ok : ((t1.any flatB || t2.any flatB) || (t3.any flatB || t4.any flatB) || t5.any flatB) = false := by kernel_rfl
theorem cls_zero {r : Int} (h : r < 128 ∨ (4352 ≤ r ∧ r ≤ 4607) ∨ (44032 ≤ r ∧ r ≤ 55203) ∨ (9001 ≤ r ∧ r ≤ 9002)) : cls r = 0 := by
  have hf := flat_ok
  simp only [Bool.or_eq_false_iff] at hf
  have key : ∀ x ∈ partOf r, flatB x = false := partOf_cases (p := fun l => ∀ x ∈ l, flatB x = false)
    (fun x hx => by simpa using List.any_eq_false.1 hf.1.1.1 x hx) (fun x hx => by simpa using List.any_eq_false.1 hf.1.1.2 x hx) (fun x hx => by simpa using List.any_eq_false.1 hf.1.2.1 x hx)
    (fun x hx => by simpa using List.any_eq_false.1 hf.1.2.2 x hx) (fun x hx => by simpa using List.any_eq_false.1 hf.2 x hx) r
  unfold cls
  rcases rowAt_cases r with h1 | ⟨h1, h2, h3⟩
  · rw [h1]; rfl
  · have := key _ h1
    generalize rowAt r = x at *
    simp only [flatB, Bool.and_eq_false_iff, decide_eq_false_iff_not, Bool.or_eq_false_iff, Decidable.not_not] at this
    omega
theorem octets_rowAt (r : Int) : octets (rowAt r) = true := by
  rcases rowAt_cases r with h1 | ⟨h1, h2, h3⟩
  · rw [h1]; rfl
  · exact partOf_octets r _ h1
theorem ccc_eq (r : Int) : (rowAt r).ccc = (cls r : Int) ∧ cls r ≤ 255 := by
  have := (octets_in (octets_rowAt r)).2.2.2.1
  unfold cls
  omega

def pairB (p : Int × Int × Int) : Bool :=
  decide (192 ≤ p.1) && !(decide (4352 ≤ p.1) && decide (p.1 ≤ 4607)) && !isSyl p.1 && !(p.1 == 9001) && !(p.1 == 9002) && !(p.1 == 12296) && !(p.1 == 12297) &&
  (!isSyl p.2.1 && !(decide (4352 ≤ p.2.1) && decide (p.2.1 ≤ 4607)) && decide (128 ≤ p.2.2) && (splitP T p.1 == splitP T p.2.1 ++ [p.2.2]) && (splitP T p.1).all fun x => splitP T x == [x])
theorem pair_ok : T.all pairB = true := by decide +kernel
theorem zero_ok : T.all (fun p => cls p.1 == 0 && cls p.2.1 == 0) = true := by decide +kernel
theorem nf : NF T cls := by
  have h1 := List.all_eq_true.1 pair_ok
  have h2 := List.all_eq_true.1 zero_ok
  refine ⟨fun p hp => ?_, fun p hp => ?_, fun p hp => ?_, fun p hp => ?_, fun r ha hb => cls_zero (by omega), fun r ha hb => cls_zero (by omega), ⟨cls_zero (by omega), cls_zero (by omega)⟩, fun r hr => cls_zero (.inl hr)⟩
  · have := h2 p hp
    simpa using this
  · have := h1 p hp
    simp only [pairB, Bool.and_eq_true, decide_eq_true_eq, Bool.not_eq_true', Bool.and_eq_false_iff, decide_eq_false_iff_not, beq_eq_false_iff_ne, ne_eq] at this
    obtain ⟨⟨⟨⟨⟨⟨⟨a1, a2⟩, a3⟩, a4⟩, a5⟩, a6⟩, a7⟩, ⟨⟨⟨⟨b1, b2⟩, b3⟩, b4⟩, b5⟩⟩ := this
    exact ⟨⟨a1, by omega, a3, a4, a5, a6, a7⟩, b1, by omega, b3⟩
  · have := h1 p hp
    simp only [pairB, Bool.and_eq_true, beq_iff_eq] at this
    exact this.2.1.2
  · have := h1 p hp
    simp only [pairB, Bool.and_eq_true] at this
    intro x hx
    simpa using List.all_eq_true.1 this.2.2 x hx
theorem two_ok : T.all (fun p => nfcP T cls [p.2.1, p.2.2] == [p.1]) = true := by decide +kernel
theorem nf_two : ∀ p ∈ T, nfcP T cls [p.2.1, p.2.2] = [p.1] := fun p hp => by simpa using List.all_eq_true.1 two_ok p hp
end Go.Proofs.Ytmhpjoadfgplgaa
