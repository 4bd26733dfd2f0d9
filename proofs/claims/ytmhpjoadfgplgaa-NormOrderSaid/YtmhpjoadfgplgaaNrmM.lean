/-
Taking code points apart, and putting them together: the law over any table. Conditions: none.
-/
import Derived.Test.YtmhpjoadfgplgaaNrmL
set_option linter.unusedSimpArgs false
set_option linter.unusedVariables false
set_option linter.unusedSectionVars false
namespace Go.Proofs.Ytmhpjoadfgplgaa
section
variable (T : List (Int × Int × Int)) (cc : Int → Nat)

def isSyl (r : Int) : Bool := decide (44032 ≤ r) && decide (r ≤ 55203)
/-- A syllable taken apart. -/
def sylP (s : Int) : List Int := if s % 28 = 0 then [4352 + s / 588, 4449 + s / 28 % 21] else [4352 + s / 588, 4449 + s / 28 % 21, 4519 + s % 28]
/-- What a code point is made of, by the table. -/
def oneP (r : Int) : Option (Int × Int) := (T.find? fun p => p.1 == r).map (·.2)
def deepP (r : Int) : List Int := match oneP T r with
  | none => [r]
  | some p => [p.1, p.2]
/-- A code point taken apart. -/
def splitP (r : Int) : List Int :=
  if isSyl r = true then sylP (r - 44032) else if r = 9001 then [12296] else if r = 9002 then [12297] else match oneP T r with
  | none => [r]
  | some p => deepP T p.1 ++ [p.2]
/-- What two make. -/
def joinP (a b : Int) : Option Int :=
  if (4352 ≤ a ∧ a ≤ 4370) ∧ (4449 ≤ b ∧ b ≤ 4469) then some (44032 + ((a - 4352) * 21 + b - 4449) * 28)
  else if (44032 ≤ a ∧ a ≤ 55203 ∧ (a - 44032) % 28 = 0) ∧ (4520 ≤ b ∧ b ≤ 4546) then some (a + b - 4519)
  else (T.find? fun p => p.2.1 == a && p.2.2 == b).map (·.1)
def flatP (l : List Int) : List Int := l.flatMap (splitP T)
/-- A row taken apart, in order. -/
def nfdP (l : List Int) : List Int := canon cc (flatP T l)
/-- A row put together: what stands ahead of the last starter, it, and what stands behind. -/
def compS : List Int → Int → List Int → List Int → List Int
  | a, s, t, [] => a ++ s :: t
  | a, s, t, c :: rest => match (if t.all (fun y => decide (cc y < cc c)) = true then joinP T s c else none) with
    | some m => compS a m t rest
    | none => if cc c = 0 then compS (a ++ s :: t) c [] rest else compS a s (t ++ [c]) rest
def comp0 : List Int → List Int → List Int
  | t, [] => t
  | t, c :: rest => if cc c = 0 then compS T cc t c [] rest else comp0 (t ++ [c]) rest
def nfcP (l : List Int) : List Int := comp0 T cc [] (nfdP T cc l)

/-- What is known of the table. -/
structure NF : Prop where
  zero : ∀ p ∈ T, cc p.1 = 0 ∧ cc p.2.1 = 0
  away : ∀ p ∈ T, (192 ≤ p.1 ∧ ¬(4352 ≤ p.1 ∧ p.1 ≤ 4607) ∧ isSyl p.1 = false ∧ p.1 ≠ 9001 ∧ p.1 ≠ 9002 ∧ p.1 ≠ 12296 ∧ p.1 ≠ 12297) ∧ isSyl p.2.1 = false ∧ ¬(4352 ≤ p.2.1 ∧ p.2.1 ≤ 4607) ∧ 128 ≤ p.2.2
  made : ∀ p ∈ T, splitP T p.1 = splitP T p.2.1 ++ [p.2.2]
  full : ∀ p ∈ T, ∀ x ∈ splitP T p.1, splitP T x = [x]
  jamo : ∀ r, 4352 ≤ r → r ≤ 4607 → cc r = 0
  syl : ∀ r, 44032 ≤ r → r ≤ 55203 → cc r = 0
  two : cc 9001 = 0 ∧ cc 9002 = 0
  plain : ∀ r, r < 128 → cc r = 0

variable {T : List (Int × Int × Int)} {cc : Int → Nat} (h : NF T cc)
include h

theorem oneP_none {r : Int} (hr : ∀ p ∈ T, p.1 ≠ r) : oneP T r = none := by
  unfold oneP
  rw [List.find?_eq_none.2 fun p hp => by simpa using hr p hp]; rfl
theorem splitP_self {r : Int} (h1 : isSyl r = false) (h2 : r ≠ 9001) (h3 : r ≠ 9002) (h4 : ∀ p ∈ T, p.1 ≠ r) : splitP T r = [r] := by
  unfold splitP
  rw [if_neg (by simp [h1]), if_neg h2, if_neg h3, oneP_none h h4]
theorem split_jamo {r : Int} (h1 : 4352 ≤ r) (h2 : r ≤ 4607) : splitP T r = [r] := by
  refine splitP_self h ?_ (by omega) (by omega) fun p hp he => ?_
  · unfold isSyl; simp; omega
  · have := (h.away p hp).1.2.1; omega
theorem split_low {r : Int} (h1 : r < 192) : splitP T r = [r] := by
  refine splitP_self h ?_ (by omega) (by omega) fun p hp he => ?_
  · unfold isSyl; simp; omega
  · have := (h.away p hp).1.1; omega
theorem oneP_mem {r a b : Int} (ho : oneP T r = some (a, b)) : (r, a, b) ∈ T := by
  unfold oneP at ho
  cases hf : T.find? (fun p => p.1 == r) with
  | none => rw [hf] at ho; cases ho
  | some p =>
    rw [hf] at ho
    have h1 := List.mem_of_find?_eq_some hf
    have h2 := List.find?_some hf
    simp only [beq_iff_eq] at h2
    simp only [Option.map_some, Option.some.injEq] at ho
    obtain ⟨x, y, z⟩ := p
    simp only at h2 ho
    cases ho; subst h2; exact h1
theorem sylP_mem {s x : Int} (h1 : 0 ≤ s) (h2 : s < 11172) (hx : x ∈ sylP s) : 4352 ≤ x ∧ x ≤ 4607 := by
  unfold sylP at hx
  split at hx <;> simp only [List.mem_cons, List.not_mem_nil, or_false] at hx <;> omega
theorem split_cases (r : Int) : splitP T r = [r] ∨ (cc r = 0 ∧ ∀ x ∈ splitP T r, splitP T x = [x]) := by
  by_cases hs : isSyl r = true
  · right
    have hs' := hs
    simp only [isSyl, Bool.and_eq_true, decide_eq_true_eq] at hs'
    refine ⟨h.syl r hs'.1 hs'.2, ?_⟩
    intro x hx
    unfold splitP at hx
    rw [if_pos hs] at hx
    have := sylP_mem h (by omega) (by omega) hx
    exact split_jamo h this.1 this.2
  · by_cases h1 : r = 9001
    · right
      subst h1
      refine ⟨h.two.1, ?_⟩
      intro x hx
      unfold splitP at hx
      rw [if_neg hs, if_pos rfl] at hx
      simp only [List.mem_cons, List.not_mem_nil, or_false] at hx
      subst hx
      exact splitP_self h rfl (by decide) (by decide) fun p hp => (h.away p hp).1.2.2.2.2.2.1
    · by_cases h2 : r = 9002
      · right
        subst h2
        refine ⟨h.two.2, ?_⟩
        intro x hx
        unfold splitP at hx
        rw [if_neg hs, if_neg h1, if_pos rfl] at hx
        simp only [List.mem_cons, List.not_mem_nil, or_false] at hx
        subst hx
        exact splitP_self h rfl (by decide) (by decide) fun p hp => (h.away p hp).1.2.2.2.2.2.2
      · cases ho : oneP T r with
        | none => left; unfold splitP; rw [if_neg hs, if_neg h1, if_neg h2, ho]
        | some p =>
          right
          have hm := oneP_mem h (show oneP T r = some (p.1, p.2) from ho)
          exact ⟨(h.zero _ hm).1, h.full _ hm⟩
theorem split_all (r : Int) : ∀ x ∈ splitP T r, splitP T x = [x] := by
  rcases split_cases h r with h1 | h1
  · rw [h1]; intro x hx
    simp only [List.mem_cons, List.not_mem_nil, or_false] at hx
    subst hx; exact h1
  · exact h1.2
theorem split_mark {r : Int} (hr : 0 < cc r) : splitP T r = [r] := by
  rcases split_cases h r with h1 | h1
  · exact h1
  · omega
omit h in
theorem flat_fix {l : List Int} (hl : ∀ x ∈ l, splitP T x = [x]) : flatP T l = l := by
  induction l with
  | nil => rfl
  | cons x l ih =>
    show splitP T x ++ flatP T l = _
    rw [hl x (by simp), ih fun y hy => hl y (by simp [hy])]; rfl
omit h in
theorem flat_append (a b : List Int) : flatP T (a ++ b) = flatP T a ++ flatP T b := List.flatMap_append
omit h in
theorem flat_cons (x : Int) (b : List Int) : flatP T (x :: b) = splitP T x ++ flatP T b := rfl
theorem flat_all (l : List Int) : ∀ x ∈ flatP T l, splitP T x = [x] := by
  intro x hx
  obtain ⟨y, _, hy⟩ := List.mem_flatMap.1 hx
  exact split_all h y x hy
theorem nfd_all (l : List Int) : ∀ x ∈ nfdP T cc l, splitP T x = [x] := fun x hx => flat_all h l x ((canon_mem cc).1 hx)
omit h in
theorem nfd_good (l : List Int) : Good cc (nfdP T cc l) := canon_good cc _
theorem nfd_idem (l : List Int) : nfdP T cc (nfdP T cc l) = nfdP T cc l := by
  show canon cc (flatP T (nfdP T cc l)) = _
  rw [flat_fix (nfd_all h l)]
  exact canon_idem cc _
omit h in
theorem nfd_app {a a' b b' : List Int} (h1 : nfdP T cc a = nfdP T cc a') (h2 : nfdP T cc b = nfdP T cc b') : nfdP T cc (a ++ b) = nfdP T cc (a' ++ b') := by
  unfold nfdP; rw [flat_append, flat_append]; exact canon_app cc h1 h2
theorem join_spec {a b m : Int} (hj : joinP T a b = some m) : cc m = 0 ∧ splitP T m = splitP T a ++ [b] := by
  unfold joinP at hj
  split at hj
  · rename_i hc
    simp only [Option.some.injEq] at hj
    subst hj
    have hs : isSyl (44032 + ((a - 4352) * 21 + b - 4449) * 28) = true := by
      simp only [isSyl, Bool.and_eq_true, decide_eq_true_eq]; omega
    refine ⟨h.syl _ (by omega) (by omega), ?_⟩
    rw [split_jamo h (r := a) (by omega) (by omega)]
    unfold splitP
    rw [if_pos hs]
    unfold sylP
    rw [if_pos (by omega)]
    simp only [List.cons_append, List.nil_append]
    congr 1
    · omega
    · congr 1; omega
  · split at hj
    · rename_i hc
      simp only [Option.some.injEq] at hj
      subst hj
      have hs : isSyl (a + b - 4519) = true := by
        simp only [isSyl, Bool.and_eq_true, decide_eq_true_eq]; omega
      have hs' : isSyl a = true := by
        simp only [isSyl, Bool.and_eq_true, decide_eq_true_eq]; omega
      refine ⟨h.syl _ (by omega) (by omega), ?_⟩
      unfold splitP
      rw [if_pos hs, if_pos hs']
      unfold sylP
      rw [if_neg (by omega), if_pos (by omega)]
      simp only [List.cons_append, List.nil_append]
      congr 1
      · omega
      · congr 1
        · omega
        · congr 1; omega
    · cases hf : T.find? (fun p => p.2.1 == a && p.2.2 == b) with
      | none => rw [hf] at hj; cases hj
      | some p =>
        rw [hf] at hj
        have h1 := List.mem_of_find?_eq_some hf
        have h2 := List.find?_some hf
        simp only [Bool.and_eq_true, beq_iff_eq] at h2
        simp only [Option.map_some, Option.some.injEq] at hj
        subst hj
        refine ⟨(h.zero p h1).1, ?_⟩
        rw [h.made p h1, h2.1, h2.2]
theorem nfd_compS : ∀ (rest a : List Int) (s : Int) (t : List Int), (∀ y ∈ t, 0 < cc y) → (∀ c ∈ rest, splitP T c = [c]) → nfdP T cc (compS T cc a s t rest) = nfdP T cc (a ++ s :: t ++ rest)
  | [], a, s, t, _, _ => by simp [compS]
  | c :: rest, a, s, t, ht, hr => by
    have hr' : ∀ c ∈ rest, splitP T c = [c] := fun x hx => hr x (by simp [hx])
    unfold compS
    split
    · rename_i m hm
      split at hm
      · rename_i hfree
        rw [nfd_compS rest a m t ht hr']
        have hft : flatP T t = t := flat_fix fun y hy => split_mark h (ht y hy)
        unfold nfdP
        simp only [flat_append, flat_cons, (join_spec h hm).2, hft, hr c (by simp)]
        have := canon_front cc (x := c) (flatP T a ++ splitP T s) t (flatP T rest) fun y hy => ⟨ht y hy, by simpa using List.all_eq_true.1 hfree y hy⟩
        simp only [List.append_assoc, List.cons_append, List.nil_append] at this ⊢
        exact this.symm
      · cases hm
    · split
      · rw [nfd_compS rest (a ++ s :: t) c [] (by simp) hr']; simp
      · rw [nfd_compS rest a s (t ++ [c]) (fun y hy => by
          rcases List.mem_append.1 hy with hy | hy
          · exact ht y hy
          · simp only [List.mem_cons, List.not_mem_nil, or_false] at hy; subst hy; omega) hr']
        simp
theorem nfd_comp0 : ∀ (rest t : List Int), (∀ c ∈ rest, splitP T c = [c]) → nfdP T cc (comp0 T cc t rest) = nfdP T cc (t ++ rest)
  | [], t, _ => by simp [comp0]
  | c :: rest, t, hr => by
    have hr' : ∀ c ∈ rest, splitP T c = [c] := fun x hx => hr x (by simp [hx])
    unfold comp0
    split
    · rw [nfd_compS h rest t c [] (by simp) hr']; simp
    · rw [nfd_comp0 rest (t ++ [c]) hr']; simp
theorem nfd_nfc (l : List Int) : nfdP T cc (nfcP T cc l) = nfdP T cc l := by
  unfold nfcP
  rw [nfd_comp0 h _ _ (nfd_all h l), List.nil_append, nfd_idem h]
theorem nfc_nfd (l : List Int) : nfcP T cc (nfdP T cc l) = nfcP T cc l := by
  unfold nfcP; rw [nfd_idem h]
theorem nfc_nfc (l : List Int) : nfcP T cc (nfcP T cc l) = nfcP T cc l := by
  show comp0 T cc [] (nfdP T cc (nfcP T cc l)) = _
  rw [nfd_nfc h]; rfl
theorem nfd_iff_nfc (l o : List Int) : nfdP T cc l = nfdP T cc o ↔ nfcP T cc l = nfcP T cc o := by
  constructor
  · intro he; unfold nfcP; rw [he]
  · intro he; rw [← nfd_nfc h l, he, nfd_nfc h]
omit h in
theorem compS_length : ∀ (rest a : List Int) (s : Int) (t : List Int), (compS T cc a s t rest).length ≤ a.length + 1 + t.length + rest.length
  | [], a, s, t => by simp [compS]; omega
  | c :: rest, a, s, t => by
    unfold compS
    split
    · have := compS_length rest a ‹_› t; simp only [List.length_cons]; omega
    · split
      · have := compS_length rest (a ++ s :: t) c []; simp only [List.length_append, List.length_cons, List.length_nil] at this ⊢; omega
      · have := compS_length rest a s (t ++ [c]); simp only [List.length_append, List.length_cons, List.length_nil] at this ⊢; omega
omit h in
theorem comp0_length : ∀ (rest t : List Int), (comp0 T cc t rest).length ≤ t.length + rest.length
  | [], t => by simp [comp0]
  | c :: rest, t => by
    unfold comp0
    split
    · have := compS_length (T := T) (cc := cc) rest t c []; simp only [List.length_cons, List.length_nil] at this ⊢; omega
    · have := comp0_length rest (t ++ [c]); simp only [List.length_append, List.length_cons, List.length_nil] at this ⊢; omega
omit h in
theorem nfc_length (l : List Int) : (nfcP T cc l).length ≤ (nfdP T cc l).length := by
  have := comp0_length (T := T) (cc := cc) (nfdP T cc l) []
  simpa [nfcP] using this
/-- Two marks of unlike classes may change places. -/
theorem nfd_swap {x y : Int} (hx : 0 < cc x) (hy : 0 < cc y) (hne : cc x ≠ cc y) (a b : List Int) : nfdP T cc (a ++ x :: y :: b) = nfdP T cc (a ++ y :: x :: b) := by
  unfold nfdP
  simp only [flat_append, flat_cons, split_mark h hx, split_mark h hy, List.cons_append, List.nil_append]
  exact canon_swap cc hx hy hne _ _
omit h in
theorem compS_pre : ∀ (rest b a : List Int) (s : Int) (t : List Int), compS T cc (b ++ a) s t rest = b ++ compS T cc a s t rest
  | [], b, a, s, t => by simp [compS]
  | c :: rest, b, a, s, t => by
    unfold compS
    split
    · exact compS_pre rest b a _ t
    · split
      · rw [← compS_pre rest b (a ++ s :: t) c [], List.append_assoc]
      · exact compS_pre rest b a s (t ++ [c])
omit h in
theorem compS_cut {x : Int} (hx : cc x = 0) (hj : ∀ s, joinP T s x = none) (rest : List Int) : ∀ (p a : List Int) (s : Int) (t : List Int), compS T cc a s t (p ++ x :: rest) = compS T cc a s t p ++ compS T cc [] x [] rest
  | [], a, s, t => by
    simp only [List.nil_append, compS, hj, ite_self, hx, if_true]
    have := compS_pre (T := T) (cc := cc) rest (a ++ s :: t) [] x []
    simpa using this
  | c :: p, a, s, t => by
    simp only [List.cons_append]
    rw [compS, compS]
    split
    · exact compS_cut hx hj rest p a _ t
    · split
      · exact compS_cut hx hj rest p (a ++ s :: t) c []
      · exact compS_cut hx hj rest p a s (t ++ [c])
omit h in
theorem comp0_cut {x : Int} (hx : cc x = 0) (hj : ∀ s, joinP T s x = none) (rest : List Int) : ∀ (p t : List Int), comp0 T cc t (p ++ x :: rest) = comp0 T cc t p ++ compS T cc [] x [] rest
  | [], t => by
    simp only [List.nil_append, comp0, hx, if_true]
    have := compS_pre (T := T) (cc := cc) rest t [] x []
    simpa using this
  | c :: p, t => by
    simp only [List.cons_append]
    rw [comp0, comp0]
    split
    · exact compS_cut hx hj rest p t c []
    · exact comp0_cut hx hj rest p (t ++ [c])
theorem join_plain {b : Int} (hb : b < 128) (a : Int) : joinP T a b = none := by
  unfold joinP
  rw [if_neg (by omega), if_neg (by omega), List.find?_eq_none.2]
  · rfl
  · intro p hp
    have := (h.away p hp).2.2.2
    simp only [Bool.and_eq_true, beq_iff_eq, not_and]
    intro _; omega
theorem nfd_plain {x : Int} (hx : x < 128) (l o : List Int) : nfdP T cc (l ++ x :: o) = nfdP T cc l ++ nfdP T cc (x :: o) := by
  unfold nfdP
  rw [flat_append, flat_cons, split_low h (by omega)]
  exact canon_starter cc (h.plain x hx) _ _
theorem nfc_plain {x : Int} (hx : x < 128) (l o : List Int) : nfcP T cc (l ++ x :: o) = nfcP T cc l ++ nfcP T cc (x :: o) := by
  have he : nfdP T cc (x :: o) = x :: canon cc (flatP T o) := by
    unfold nfdP
    rw [flat_cons, split_low h (by omega)]
    exact canon_cons cc (h.plain x hx) _
  unfold nfcP
  rw [nfd_plain h hx, he, comp0_cut (h.plain x hx) (join_plain h hx)]
  simp only [comp0, h.plain x hx, if_true]
theorem ascii_comp {l : List Int} (hl : ∀ x ∈ l, x < 128) : ∀ (a : List Int) (s : Int), compS T cc a s [] l = a ++ s :: l := by
  induction l with
  | nil => intro a s; simp [compS]
  | cons y l ih =>
    intro a s
    have hy := hl y (by simp)
    simp only [compS, join_plain h hy, ite_self, h.plain y hy, if_true]
    rw [ih fun z hz => hl z (by simp [hz])]
    simp
theorem ascii_nfd {l : List Int} (hl : ∀ x ∈ l, x < 128) : nfdP T cc l = l ∧ nfcP T cc l = l := by
  induction l with
  | nil => exact ⟨rfl, rfl⟩
  | cons x l ih =>
    have ih := ih fun y hy => hl y (by simp [hy])
    have hx := hl x (by simp)
    have hd : nfdP T cc (x :: l) = x :: l := by
      unfold nfdP
      rw [flat_cons, split_low h (by omega)]
      exact (canon_cons cc (h.plain x hx) _).trans (congrArg (x :: ·) ih.1)
    refine ⟨hd, ?_⟩
    unfold nfcP
    rw [hd]
    simp only [comp0, h.plain x hx, if_true]
    have := ascii_comp h (l := l) (fun y hy => hl y (by simp [hy])) [] x
    simpa using this
theorem syl_split {r : Int} (h1 : 44032 ≤ r) (h2 : r ≤ 55203) : splitP T r = sylP (r - 44032) := by
  unfold splitP
  rw [if_pos (by simp only [isSyl, Bool.and_eq_true, decide_eq_true_eq]; omega)]
theorem zero_canon {l : List Int} (hl : ∀ x ∈ l, cc x = 0) : canon cc l = l := by
  induction l with
  | nil => rfl
  | cons x l ih => rw [canon_cons cc (hl x (by simp)), ih fun y hy => hl y (by simp [hy])]
/-- A syllable's parts make it again. -/
theorem syl_comp {s : Int} (h1 : 0 ≤ s) (h2 : s < 11172) : comp0 T cc [] (sylP s) = [s + 44032] := by
  have hz : ∀ x ∈ sylP s, cc x = 0 := fun x hx => h.jamo x (sylP_mem h h1 h2 hx).1 (sylP_mem h h1 h2 hx).2
  unfold sylP at hz ⊢
  split
  · rename_i h0
    rw [if_pos h0] at hz
    have z1 := hz (4352 + s / 588) (by simp)
    have z2 := hz (4449 + s / 28 % 21) (by simp)
    have hj : joinP T (4352 + s / 588) (4449 + s / 28 % 21) = some (s + 44032) := by
      unfold joinP
      rw [if_pos (by omega)]
      congr 1; omega
    simp only [comp0, z1, if_true, compS, List.all_nil, hj, List.nil_append]
  · rename_i h0
    rw [if_neg h0] at hz
    have z1 := hz (4352 + s / 588) (by simp)
    have z2 := hz (4449 + s / 28 % 21) (by simp)
    have z3 := hz (4519 + s % 28) (by simp)
    have hj : joinP T (4352 + s / 588) (4449 + s / 28 % 21) = some (s - s % 28 + 44032) := by
      unfold joinP
      rw [if_pos (by omega)]
      congr 1; omega
    have hj2 : joinP T (s - s % 28 + 44032) (4519 + s % 28) = some (s + 44032) := by
      unfold joinP
      rw [if_neg (by omega), if_pos (by omega)]
      congr 1; omega
    simp only [comp0, z1, if_true, compS, List.all_nil, hj, hj2, List.nil_append]
theorem syl_nfd {s : Int} (h1 : 0 ≤ s) (h2 : s < 11172) : nfdP T cc (sylP s) = sylP s ∧ nfdP T cc [s + 44032] = sylP s := by
  have hf : flatP T (sylP s) = sylP s := flat_fix fun x hx => split_jamo h (sylP_mem h h1 h2 hx).1 (sylP_mem h h1 h2 hx).2
  have hz : canon cc (sylP s) = sylP s := zero_canon h fun x hx => h.jamo x (sylP_mem h h1 h2 hx).1 (sylP_mem h h1 h2 hx).2
  constructor
  · unfold nfdP; rw [hf, hz]
  · unfold nfdP
    show canon cc (splitP T (s + 44032) ++ []) = _
    rw [syl_split h (by omega) (by omega), List.append_nil, show s + 44032 - 44032 = s by omega, hz]
theorem syl_nfc {s : Int} (h1 : 0 ≤ s) (h2 : s < 11172) : nfcP T cc (sylP s) = [s + 44032] ∧ nfcP T cc [s + 44032] = [s + 44032] := by
  have := syl_nfd h h1 h2
  unfold nfcP
  rw [this.1, this.2]
  exact ⟨syl_comp h h1 h2, syl_comp h h1 h2⟩
theorem syl_join {a : Int} (h1 : 44032 ≤ a) (h2 : a ≤ 55203) (b : Int) : (joinP T a b).isSome = (decide ((a - 44032) % 28 = 0) && (decide (b > 4519) && decide (b ≤ 4546))) := by
  unfold joinP
  rw [if_neg (by omega)]
  split
  · rename_i hc
    simp only [Option.isSome_some]
    symm
    simp only [Bool.and_eq_true, decide_eq_true_eq]; omega
  · rename_i hc
    rw [List.find?_eq_none.2]
    · symm
      simp only [Option.map_none, Option.isSome_none, Bool.and_eq_false_iff, decide_eq_false_iff_not]
      omega
    · intro p hp
      have := (h.away p hp).2.1
      simp only [isSyl, Bool.and_eq_false_iff, decide_eq_false_iff_not] at this
      simp only [Bool.and_eq_true, beq_iff_eq, not_and]
      intro _; omega
/-- What two make is put together of the two. -/
theorem join_nfc {a b m : Int} (hT : ∀ p ∈ T, nfcP T cc [p.2.1, p.2.2] = [p.1]) (hj : joinP T a b = some m) : nfcP T cc [a, b] = [m] := by
  have hj' := hj
  unfold joinP at hj
  split at hj
  · rename_i hc
    simp only [Option.some.injEq] at hj
    have hs := syl_nfc h (s := m - 44032) (by omega) (by omega)
    have he : sylP (m - 44032) = [a, b] := by
      unfold sylP
      rw [if_pos (by omega)]
      congr 1
      · omega
      · congr 1; omega
    rw [he] at hs
    rw [hs.1]; congr 1; omega
  · split at hj
    · rename_i hc
      simp only [Option.some.injEq] at hj
      have hs := syl_nfc h (s := m - 44032) (by omega) (by omega)
      have hd : nfdP T cc [a, b] = nfdP T cc [m] := by
        unfold nfdP
        rw [flat_cons, flat_cons, flat_cons, (join_spec h hj').2, split_jamo h (r := b) (by omega) (by omega)]
        simp [flatP]
      unfold nfcP
      rw [hd]
      rw [show m - 44032 + 44032 = m by omega] at hs
      exact hs.2
    · cases hf : T.find? (fun p => p.2.1 == a && p.2.2 == b) with
      | none => rw [hf] at hj; cases hj
      | some p =>
        rw [hf] at hj
        have h1 := List.mem_of_find?_eq_some hf
        have h2 := List.find?_some hf
        simp only [Bool.and_eq_true, beq_iff_eq] at h2
        simp only [Option.map_some, Option.some.injEq] at hj
        rw [← h2.1, ← h2.2, hT p h1, hj]
end
end Go.Proofs.Ytmhpjoadfgplgaa
