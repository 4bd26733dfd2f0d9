/-
Regions that draw their order: where what is not ordered is apart, the order of the text is as good as any. Conditions: none.
-/
import Derived.Test.YteekelelcbfekaaDoorAbSee
import Derived.Orders
import Derived.OrdersIn
set_option linter.unusedSimpArgs false
set_option linter.unusedVariables false
set_option linter.unusedSectionVars false
namespace Go.Ab
open Go Go.RowKit

def Agree (l : List Nat) (s s' : State) : Prop := ∀ t ∈ l, look s.slots t = look s'.slots t

structure Eqv (s s' : State) : Prop where
  slots : ∀ t, look s.slots t = look s'.slots t
  boxes : s.boxes = s'.boxes
  tips : s.tips = s'.tips
  next : s.next = s'.next

theorem Eqv.refl (s : State) : Eqv s s := ⟨fun _ => rfl, rfl, rfl, rfl⟩
theorem Eqv.symm {s s' : State} (h : Eqv s s') : Eqv s' s := ⟨fun t => (h.slots t).symm, h.boxes.symm, h.tips.symm, h.next.symm⟩
theorem Eqv.trans {s s' s'' : State} (h : Eqv s s') (k : Eqv s' s'') : Eqv s s'' := ⟨fun t => (h.slots t).trans (k.slots t), h.boxes.trans k.boxes, h.tips.trans k.tips, h.next.trans k.next⟩
theorem Eqv.agree {s s' : State} (h : Eqv s s') (l : List Nat) : Agree l s s' := fun t _ => h.slots t

section
variable {P : Program} {s s' : State}

theorem Agree.left {l l' : List Nat} (h : Agree (l ++ l') s s') : Agree l s s' := fun t ht => h t (List.mem_append_left _ ht)
theorem Agree.right {l l' : List Nat} (h : Agree (l ++ l') s s') : Agree l' s s' := fun t ht => h t (List.mem_append_right _ ht)

theorem ev_agree : ∀ {x : AX}, Agree x.temps s s' → s.ev x = s'.ev x
  | .t n, h => h n (by simp [AX.temps])
  | .k _, _ => rfl
  | .f _, _ => rfl

theorem evs_agree : ∀ {l : List AX}, Agree (tempsL l) s s' → s.evs l = s'.evs l
  | [], _ => rfl
  | x :: l, h => by simp only [State.evs]; rw [ev_agree h.left, evs_agree (l := l) h.right]

theorem evo_agree : ∀ {x : Option AX}, Agree (tempsO x) s s' → s.evo x = s'.evo x
  | none, _ => rfl
  | some x, h => by simp only [State.evo]; rw [ev_agree (x := x) h]

theorem evParts_agree : ∀ {l : List (Nat × Nat × AX)}, Agree (tempsP l) s s' → evParts s l = evParts s' l
  | [], _ => rfl
  | (a, b, x) :: l, h => by simp only [evParts]; rw [ev_agree (x := x) h.left, evParts_agree (l := l) h.right]

/-- All variables of the one are the other's. -/
def BoxMore (s s' : State) : Prop := (∀ id cells, boxAt s.boxes id = some cells → boxAt s'.boxes id = some cells) ∧ ∀ id x, obAt s.boxes id = some x → obAt s'.boxes id = some x

theorem xval2_more {x : XV} {bx bx' : List (Nat × List AV)} {avs : List AV} (hb : ∀ id y, obAt bx id = some y → obAt bx' id = some y) {av : AV} (h : x.val2 bx avs = some av) : x.val2 bx' avs = some av := by
  unfold XV.val2 at h ⊢
  cases x with
  | lkpS ks ok z =>
    simp only [lkpSV] at h ⊢
    split at h
    · split at h
      · rename_i k e n cells xs ho hv
        simp only [hb _ _ ho, hv]
        exact h
      · cases h
    · exact h
    · cases h
  | _ => exact h

theorem xval_more {x : XV} {bx bx' : List (Nat × List AV)} {avs : List AV} (hb : ∀ id y, obAt bx id = some y → obAt bx' id = some y) {av : AV} (h : x.val bx avs = some av) : x.val bx' avs = some av := by
  unfold XV.val at h ⊢
  split at h
  · split at h
    · rename_i k e n cells ho
      simp only [hb _ _ ho]
      exact h
    · cases h
  · exact h
  · split at h
    · rename_i k e n cells ho
      simp only [hb _ _ ho]
      exact h
    · cases h
  · exact h
  · exact h
  · split at h
    · rename_i seen since last m ho
      simp only [hb _ _ ho]
      split at h
      · rename_i k e n cells ho'
        simp only [hb _ _ ho']
        exact h
      · cases h
    · cases h
  · exact xval2_more hb h

theorem vop_mono {op : AOp} (h : Agree op.temps s s') (hb : op.reads = true → BoxMore s s') {av : AV} (hv : vop s op = some av) : vop s' op = some av := by
  cases op <;> simp only [AOp.temps] at h <;> simp only [vop] at hv ⊢
  case mv x => rw [← ev_agree h]; exact hv
  case pick c x y => rw [← ev_agree h.left, ← ev_agree h.right.left, ← ev_agree h.right.right]; exact hv
  case bin op x y => rw [← ev_agree h.left, ← ev_agree h.right]; exact hv
  case eqB n x y => rw [← ev_agree h.left, ← ev_agree h.right]; exact hv
  case eqg n ks x y => rw [← ev_agree h.left, ← ev_agree h.right]; exact hv
  case not x => rw [← ev_agree h]; exact hv
  case cvI k x => rw [← ev_agree h]; exact hv
  case ext x i => rw [← ev_agree h]; exact hv
  case len x => rw [← ev_agree h]; exact hv
  case lenS x => rw [← ev_agree h]; exact hv
  case lenA n => exact hv
  case mn x y => rw [← ev_agree h.left, ← ev_agree h.right]; exact hv
  case mx x y => rw [← ev_agree h.left, ← ev_agree h.right]; exact hv
  case mkf f a b => rw [← evs_agree h.left, ← evs_agree h.right]; exact hv
  case bd z ps => rw [← evParts_agree h]; exact hv
  case fa o x => rw [← ev_agree h]; exact hv
  case ia e x i => rw [← ev_agree h.left, ← ev_agree h.right]; exact hv
  case ixA n z g x i => rw [← ev_agree h.left, ← ev_agree h.right]; exact hv
  case iaA n z x i => rw [← ev_agree h.left, ← ev_agree h.right]; exact hv
  case ixS x i => rw [← ev_agree h.left, ← ev_agree h.right]; exact hv
  case slc e x a b => rw [← ev_agree h.left, ← evo_agree h.right.left, ← evo_agree h.right.right]; exact hv
  case slS x a b => rw [← ev_agree h.left, ← evo_agree h.right.left, ← evo_agree h.right.right]; exact hv
  case ld z x =>
    rw [← ev_agree h]
    split at hv
    · rename_i id o hx
      try simp only [hx]
      split at hv
      · rename_i cells hc
        simp only [(hb rfl).1 _ _ hc]
        exact hv
      · cases hv
    · exact hv
    · cases hv
  case fld a b x => rw [← ev_agree h]; exact hv
  case lde z x => rw [← ev_agree h]; exact hv
  case cvBS x => rw [← ev_agree h]; exact hv
  case cvRS x => rw [← ev_agree h]; exact hv
  case cvIS x => rw [← ev_agree h]; exact hv
  case bs0 e n xs => rw [← evs_agree h]; exact hv
  case xv x xs =>
    rw [← evs_agree h]
    split at hv
    · rename_i avs ha
      exact xval_more (hb rfl).2 hv
    · cases hv
  all_goals cases hv

mutual
theorem see_more {bx bx' : List (Nat × List AV)} (hb : ∀ id cells, boxAt bx id = some cells → boxAt bx' id = some cells) : ∀ (av : AV) {a : AV}, av.see bx = some a → av.see bx' = some a
  | .lit _, a, h => h
  | .sl _ _ _, a, h => h
  | .ep _, a, h => h
  | .bp id off, a, h => by
    simp only [AV.see] at h ⊢
    split at h
    · rename_i cells hc
      simp only [hb _ _ hc]
      exact h
    · cases h
  | .fn f first cap, a, h => by
    simp only [AV.see] at h ⊢
    split at h
    · rename_i x y hx hy
      simp only [seeL_more hb first hx, seeL_more hb cap hy]
      exact h
    · cases h
  | .ag l, a, h => by
    simp only [AV.see] at h ⊢
    split at h
    · rename_i x hx
      simp only [seeL_more hb l hx]
      exact h
    · cases h
  | .tu l, a, h => by
    simp only [AV.see] at h ⊢
    split at h
    · rename_i x hx
      simp only [seeL_more hb l hx]
      exact h
    · cases h
  | .sn _ _, a, h => h
  | .ob _ _, a, h => h
  | .rf _ _, a, h => h
  | .vx _ _, a, h => h
theorem seeL_more {bx bx' : List (Nat × List AV)} (hb : ∀ id cells, boxAt bx id = some cells → boxAt bx' id = some cells) : ∀ (l : List AV) {a : List AV}, AV.seeL bx l = some a → AV.seeL bx' l = some a
  | [], a, h => h
  | x :: xs, a, h => by
    simp only [AV.seeL] at h ⊢
    split at h
    · rename_i u v hu hv
      simp only [see_more hb x hu, seeL_more hb xs hv]
      exact h
    · cases h
end

/-! ### Steps -/

/-- A value, the memory as it was. -/
def State.val (s : State) (av : AV) : Upd := ⟨some av, s.boxes, s.tips, s.next⟩

def Val (P : Program) (s : State) (op : AOp) (av : AV) : Prop :=
  match op with
  | .call f args => ∃ g first cap as, s.ev f = some (.fn (.func g) first cap) ∧ s.evs args = some as ∧ pCall P s.boxes g (first ++ as ++ cap) av
  | op => vop s op = some av

/-- The operations that make memory. -/
def eff (P : Program) (s : State) (op : AOp) (u : Upd) : Prop :=
  match op with
  | .callT f args => ∃ g first cap as args' ty els, s.ev f = some (.fn (.func g) first cap) ∧ s.evs args = some as ∧ AV.eraseL (first ++ as ++ cap) = some args' ∧ Pure P g args' [ty] (.sl ty els (some 0)) ∧ u = ⟨some (.sl ty els (some s.next)), s.boxes, (s.next, ty) :: s.tips, s.next + 1⟩
  | .alc _ zero => allOne (zero.map .lit) = true ∧ u = ⟨some (.bp s.next 0), (s.next, zero.map .lit) :: s.boxes, s.tips, s.next + 1⟩
  | .box _ x => ∃ av, s.ev x = some av ∧ allOne av.cells = true ∧ u = ⟨some (.bp s.next 0), (s.next, av.cells) :: s.boxes, s.tips, s.next + 1⟩
  | .st n x y => ∃ id off av cells, s.ev x = some (.bp id off) ∧ s.ev y = some av ∧ boxAt s.boxes id = some cells ∧ (av.cells.length = n ∧ off + n ≤ cells.length ∧ allOne av.cells = true) ∧
      u = ⟨none, setBox s.boxes id (cells.take off ++ av.cells ++ cells.drop (off + n)), s.tips, s.next⟩
  | .bs e n xs => ∃ avs els av, s.evs xs = some avs ∧ valsL avs = some els ∧ (lenAll n els && oneV els) = true ∧ bsO e els s.next av ∧ u = ⟨some av, s.boxes, (s.next, e) :: s.tips, s.next + 1⟩
  | .app e bytes x y => ∃ xv yv, s.ev x = some xv ∧ s.ev y = some yv ∧ (((isRow xv || isRow yv) = true ∧ ∃ r, rowApp s.boxes s.tips e xv yv = some r ∧ (r.n + r.m) * bytes ≤ 140737488355328 ∧ r.n + r.m ≤ 9223372036854775807 ∧ u = ⟨some (.rf (.row e r.sz 0 (r.n + r.m)) (s.next + r.skip)), (s.next + r.skip, r.cells) :: r.boxes, r.tips, s.next + r.skip + 1⟩) ∨
    ((isRow xv || isRow yv) = false ∧ ∃ els els2 tips, elsOf yv = some els2 ∧
      ((xv = .lit (.slice none 0 0) ∧ els = [] ∧ tips = s.tips) ∨ (∃ id, xv = .sl e els (some id) ∧ hasTip s.tips id e = true ∧ tips = dropTip s.tips id)) ∧
      (els.length + els2.length) * bytes ≤ 140737488355328 ∧ els.length + els2.length ≤ 9223372036854775807 ∧ srcE e yv ∧ u = ⟨some (.sl e (els ++ els2) (some s.next)), s.boxes, (s.next, e) :: tips, s.next + 1⟩))
  | .xe x xs => ∃ avs, s.evs xs = some avs ∧ x.eff s.boxes s.tips s.next avs = some u
  | _ => False

/-- One step of a region that draws its order: a call only reads. -/
def dstep (P : Program) (d : Option Nat) (op : AOp) (s : State) (K : State → Prop) : Prop :=
  match op with
  | .call f args => ∃ g first cap as r, s.ev f = some (.fn (.func g) first cap) ∧ s.evs args = some as ∧ pCall P s.boxes g (first ++ as ++ cap) r ∧ K (s.put d r)
  | .callT f args => ∃ g first cap as args' ty els, s.ev f = some (.fn (.func g) first cap) ∧ s.evs args = some as ∧ AV.eraseL (first ++ as ++ cap) = some args' ∧ Pure P g args' [ty] (.sl ty els (some 0)) ∧ K ({ s with tips := (s.next, ty) :: s.tips, next := s.next + 1 }.put d (.sl ty els (some s.next)))
  | .nxt _ _ => False
  | op => astep P d op s K

theorem dstep_astep {d : Option Nat} {op : AOp} {K : State → Prop} (h : dstep P d op s K) : astep P d op s K := by
  cases op <;> try exact h
  case call f args =>
    obtain ⟨g, first, cap, as, r, h1, h2, h3, h4⟩ := h
    simp only [astep, h1, h2]
    exact pCall_ok h3 h4
  case callT f args =>
    obtain ⟨g, first, cap, as, args', ty, els, h1, h2, h3, h4, h5⟩ := h
    simp only [astep, h1, h2]
    refine callOK_pure h4 h3 ?_
    simpa [idx, AV.shift] using h5
  case nxt b x => exact h.elim

theorem ap_val (d : Option Nat) (av : AV) : (s.val av).ap d s = s.put d av := by cases d <;> rfl

theorem dstep_value {d : Option Nat} {op : AOp} {K : State → Prop} (hk : op.kind = 0) : dstep P d op s K ↔ ∃ av, Val P s op av ∧ K (s.put d av) := by
  have vals : (match vop s op with | some av => K (s.put d av) | none => False) ↔ ∃ av, vop s op = some av ∧ K (s.put d av) := by
    cases vop s op with
    | none => simp
    | some av => simp
  cases op <;> try exact vals
  case call f args =>
    simp only [dstep, Val]
    constructor
    · rintro ⟨g, first, cap, as, r, h1, h2, h3, h4⟩; exact ⟨r, ⟨g, first, cap, as, h1, h2, h3⟩, h4⟩
    · rintro ⟨r, ⟨g, first, cap, as, h1, h2, h3⟩, h4⟩; exact ⟨g, first, cap, as, r, h1, h2, h3, h4⟩
  all_goals simp [AOp.kind] at hk

theorem dstep_eff {d : Option Nat} {op : AOp} {K : State → Prop} (hk : op.kind ≠ 0) : dstep P d op s K ↔ ∃ u, eff P s op u ∧ K (u.ap d s) := by
  cases op <;> simp only [AOp.kind, ne_eq, not_true_eq_false] at hk
  case alc e z =>
    simp only [dstep, astep, eff]
    constructor
    · intro h
      split at h
      · rename_i h1; exact ⟨_, ⟨h1, rfl⟩, h⟩
      · exact h.elim
    · rintro ⟨u, ⟨h1, rfl⟩, h⟩
      rw [if_pos h1]; exact h
  case box e x =>
    simp only [dstep, astep, eff]
    constructor
    · intro h
      split at h
      · rename_i av hx
        split at h
        · rename_i h1; exact ⟨_, ⟨av, hx, h1, rfl⟩, h⟩
        · exact h.elim
      · exact h.elim
    · rintro ⟨u, ⟨av, hx, h1, rfl⟩, h⟩
      rw [hx]; simp only []; rw [if_pos h1]; exact h
  case st n x y =>
    simp only [dstep, astep, eff]
    constructor
    · intro h
      split at h
      · rename_i id off av hx hy
        split at h
        · rename_i cells hb
          split at h
          · rename_i h1; exact ⟨_, ⟨id, off, av, cells, hx, hy, hb, h1, rfl⟩, h⟩
          · exact h.elim
        · exact h.elim
      · exact h.elim
    · rintro ⟨u, ⟨id, off, av, cells, hx, hy, hb, h1, rfl⟩, h⟩
      rw [hx, hy]; simp only []; rw [hb]; simp only []; rw [if_pos h1]; exact h
  case bs e n xs =>
    simp only [dstep, astep, eff]
    constructor
    · intro h
      split at h
      · rename_i avs hx
        split at h
        · rename_i els he
          split at h
          · rename_i h1; obtain ⟨av, hO, h⟩ := h; exact ⟨_, ⟨avs, els, av, hx, he, h1, hO, rfl⟩, h⟩
          · exact h.elim
        · exact h.elim
      · exact h.elim
    · rintro ⟨u, ⟨avs, els, av, hx, he, h1, hO, rfl⟩, h⟩
      rw [hx]; simp only []; rw [he]; simp only []; rw [if_pos h1]; exact ⟨av, hO, h⟩
  case app e bytes x y =>
    simp only [dstep, astep, eff]
    constructor
    · intro h
      split at h
      · rename_i xv yv hx hy
        split at h
        · rename_i hrow
          split at h
          · rename_i r hr
            obtain ⟨g1, g2, g3⟩ := h
            exact ⟨_, ⟨xv, yv, hx, hy, .inl ⟨hrow, r, hr, g1, g2, rfl⟩⟩, g3⟩
          · exact h.elim
        · rename_i hno
          rw [Bool.not_eq_true] at hno
          split at h
          · rename_i els2 h2
            split at h
            · obtain ⟨g1, g2, g3, g4⟩ := h
              exact ⟨_, ⟨_, yv, hx, hy, .inr ⟨hno, [], els2, s.tips, h2, .inl ⟨rfl, rfl, rfl⟩, by simpa using g1, by simpa using g2, g3, rfl⟩⟩, by simpa [Upd.ap] using g4⟩
            · rename_i e' els id
              split at h
              · rename_i hc
                obtain ⟨rfl, hc⟩ := hc
                obtain ⟨g1, g2, g3, g4⟩ := h
                exact ⟨_, ⟨_, yv, hx, hy, .inr ⟨hno, els, els2, _, h2, .inr ⟨id, rfl, hc, rfl⟩, g1, g2, g3, rfl⟩⟩, g4⟩
              · exact h.elim
            · exact h.elim
          · exact h.elim
      · exact h.elim
    · rintro ⟨u, ⟨xv, yv, hx, hy, hh⟩, h⟩
      rw [hx, hy]; simp only []
      rcases hh with ⟨hrow, r, hr, g1, g2, rfl⟩ | ⟨hno, els, els2, tips, h2, hc, g1, g2, g3, rfl⟩
      · rw [if_pos hrow, hr]
        exact ⟨g1, g2, h⟩
      · rw [if_neg (by rw [hno]; exact Bool.false_ne_true), h2]; simp only []
        rcases hc with ⟨rfl, rfl, rfl⟩ | ⟨id, rfl, hc, rfl⟩
        · simp only []
          exact ⟨by simpa using g1, by simpa using g2, g3, by simpa [Upd.ap] using h⟩
        · simp only [true_and, hc, if_true]
          exact ⟨g1, g2, g3, h⟩
  case xe x xs =>
    simp only [dstep, astep, eff]
    constructor
    · intro h
      split at h
      · rename_i avs hx
        split at h
        · rename_i u hu; exact ⟨u, ⟨avs, hx, hu⟩, h⟩
        · exact h.elim
      · exact h.elim
    · rintro ⟨u, ⟨avs, hx, hu⟩, h⟩
      rw [hx]; simp only []; rw [hu]; exact h
  case callT f args =>
    simp only [dstep, eff]
    constructor
    · rintro ⟨g, first, cap, as, args', ty, els, h1, h2, h3, h4, h5⟩; exact ⟨_, ⟨g, first, cap, as, args', ty, els, h1, h2, h3, h4, rfl⟩, h5⟩
    · rintro ⟨u, ⟨g, first, cap, as, args', ty, els, h1, h2, h3, h4, rfl⟩, h5⟩; exact ⟨g, first, cap, as, args', ty, els, h1, h2, h3, h4, h5⟩
  case nxt b x =>
    simp only [dstep, eff, false_and]
    exact ⟨False.elim, fun ⟨_, h⟩ => h⟩
  all_goals exact absurd trivial hk

/-- A step, its guard looked at. -/
def gstep (P : Program) (o : AOper) (s : State) (K : State → Prop) : Prop :=
  match o.guard with
  | none => dstep P o.dst o.op s K
  | some (t, want) => match look s.slots t with
    | some (.lit (.bool b)) => if b = want then dstep P o.dst o.op s K else K (s.put o.dst (.lit undef))
    | some (.lit (.tuple _)) => K (s.put o.dst (.lit undef))
    | _ => False

def op1 (P : Program) (s : State) (op : AOp) (u : Upd) : Prop := (op.kind = 0 ∧ ∃ av, Val P s op av ∧ u = s.val av) ∨ (op.kind ≠ 0 ∧ eff P s op u)

/-- Whether it is carried out. -/
def wants (s : State) (g : Option (Nat × Bool)) : Option Bool :=
  match g with
  | none => some true
  | some (t, want) => match look s.slots t with
    | some (.lit (.bool b)) => some (b == want)
    | some (.lit (.tuple _)) => some false
    | _ => none

def gs (P : Program) (s : State) (o : AOper) (u : Upd) : Prop := (wants s o.guard = some true ∧ op1 P s o.op u) ∨ (wants s o.guard = some false ∧ u = s.val (.lit undef))

theorem dstep_op1 {d : Option Nat} {op : AOp} {K : State → Prop} : dstep P d op s K ↔ ∃ u, op1 P s op u ∧ K (u.ap d s) := by
  by_cases hk : op.kind = 0
  · rw [dstep_value hk]
    constructor
    · rintro ⟨av, h1, h2⟩; exact ⟨_, .inl ⟨hk, av, h1, rfl⟩, by rw [ap_val]; exact h2⟩
    · rintro ⟨u, ⟨_, av, h1, rfl⟩ | ⟨h, _⟩, h2⟩
      · exact ⟨av, h1, by rw [ap_val] at h2; exact h2⟩
      · exact absurd hk h
  · rw [dstep_eff hk]
    constructor
    · rintro ⟨u, h1, h2⟩; exact ⟨u, .inr ⟨hk, h1⟩, h2⟩
    · rintro ⟨u, ⟨h, _⟩ | ⟨_, h1⟩, h2⟩
      · exact absurd h hk
      · exact ⟨u, h1, h2⟩

theorem gstep_gs {o : AOper} {K : State → Prop} : gstep P o s K ↔ ∃ u, gs P s o u ∧ K (u.ap o.dst s) := by
  have yes : wants s o.guard = some true → (dstep P o.dst o.op s K ↔ ∃ u, gs P s o u ∧ K (u.ap o.dst s)) := fun hw => by
    rw [dstep_op1]
    constructor
    · rintro ⟨u, h1, h2⟩; exact ⟨u, .inl ⟨hw, h1⟩, h2⟩
    · rintro ⟨u, ⟨_, h1⟩ | ⟨h, _⟩, h2⟩
      · exact ⟨u, h1, h2⟩
      · rw [hw] at h; simp at h
  have no : wants s o.guard = some false → (K (s.put o.dst (.lit undef)) ↔ ∃ u, gs P s o u ∧ K (u.ap o.dst s)) := fun hw => by
    constructor
    · intro h; exact ⟨_, .inr ⟨hw, rfl⟩, by rw [ap_val]; exact h⟩
    · rintro ⟨u, ⟨h, _⟩ | ⟨_, rfl⟩, h2⟩
      · rw [hw] at h; simp at h
      · rw [ap_val] at h2; exact h2
  unfold gstep
  split
  · rename_i hg; exact yes (by simp [wants, hg])
  · rename_i t want hg
    split
    · rename_i b hb
      split
      · rename_i he; exact yes (by simp [wants, hg, hb, he])
      · rename_i he; exact no (by simp [wants, hg, hb, he])
    · rename_i vs hb
      exact no (by simp [wants, hg, hb])
    · rename_i h1 h2
      have hn : wants s o.guard = none := by
        simp only [wants, hg]
      constructor
      · exact fun h => h.elim
      · rintro ⟨u, ⟨h, _⟩ | ⟨h, _⟩, _⟩ <;> rw [hn] at h <;> cases h

/-! ### Two steps that are apart -/

theorem wants_agree {g : Option (Nat × Bool)} (h : Agree (match g with | some (t, _) => [t] | none => []) s s') : wants s g = wants s' g := by
  cases g with
  | none => rfl
  | some x => obtain ⟨t, b⟩ := x; simp only [wants]; rw [h t (by simp)]

theorem Val_mono {op : AOp} (h : Agree op.temps s s') (hb : op.reads = true → BoxMore s s') (hn : ∀ f args, op = .call f args → BoxMore s s') {av : AV} (hv : Val P s op av) : Val P s' op av := by
  cases op <;> try exact vop_mono h hb hv
  case call f args =>
    obtain ⟨g, first, cap, as, h1, h2, h3⟩ := hv
    refine ⟨g, first, cap, as, by rw [← ev_agree h.left]; exact h1, by rw [← evs_agree h.right]; exact h2, ?_⟩
    rcases h3 with ⟨args', k1, k2⟩ | h3
    · exact .inl ⟨args', seeL_more (hb rfl).1 _ k1, k2⟩
    · exact .inr h3

theorem eff_congr {op : AOp} (h : Agree op.temps s s') (h1 : s.boxes = s'.boxes) (h2 : s.tips = s'.tips) (h3 : s.next = s'.next) {u : Upd} (hu : eff P s op u) : eff P s' op u := by
  cases op <;> simp only [AOp.temps] at h <;> simp only [eff] at hu ⊢
  case alc e z => rw [← h1, ← h2, ← h3]; exact hu
  case box e x => rw [← ev_agree h, ← h1, ← h2, ← h3]; exact hu
  case st n x y => rw [← ev_agree h.left, ← ev_agree h.right, ← h1, ← h2, ← h3]; exact hu
  case bs e n xs => rw [← evs_agree h, ← h1, ← h2, ← h3]; exact hu
  case app e b x y => rw [← ev_agree h.left, ← ev_agree h.right, ← h1, ← h2, ← h3]; exact hu
  case callT f xs => rw [← ev_agree h.left, ← evs_agree h.right, ← h1, ← h2, ← h3]; exact hu
  case xe x xs => rw [← evs_agree h, ← h1, ← h2, ← h3]; exact hu

/-- A value step goes on where more variables are. -/
theorem gs_value {o : AOper} (hk : o.op.kind = 0) (h : Agree o.looks s s') (hb : o.op.reads = true → BoxMore s s') {u : Upd} (hu : gs P s o u) : ∃ av, u = s.val av ∧ gs P s' o (s'.val av) := by
  have hw := wants_agree (g := o.guard) h.left
  rcases hu with ⟨h1, ⟨_, av, h2, rfl⟩ | ⟨h2, _⟩⟩ | ⟨h1, rfl⟩
  · exact ⟨av, rfl, .inl ⟨by rw [← hw]; exact h1, .inl ⟨hk, av, Val_mono h.right hb (fun f args he => hb (by rw [he]; rfl)) h2, rfl⟩⟩⟩
  · exact absurd hk h2
  · exact ⟨_, rfl, .inr ⟨by rw [← hw]; exact h1, rfl⟩⟩

theorem gs_congr {o : AOper} (h : Agree o.looks s s') (h1 : s.boxes = s'.boxes) (h2 : s.tips = s'.tips) (h3 : s.next = s'.next) {u : Upd} (hu : gs P s o u) : gs P s' o u := by
  have hw := wants_agree (g := o.guard) h.left
  have hval : ∀ av, s.val av = s'.val av := fun av => by simp [State.val, h1, h2, h3]
  have hbm : BoxMore s s' := ⟨fun id cells hc => by rw [← h1]; exact hc, fun id x hc => by rw [← h1]; exact hc⟩
  rcases hu with ⟨g1, ⟨g2, av, g3, rfl⟩ | ⟨g2, g3⟩⟩ | ⟨g1, rfl⟩
  · exact .inl ⟨by rw [← hw]; exact g1, .inl ⟨g2, av, Val_mono h.right (fun _ => hbm) (fun _ _ _ => hbm) g3, hval av⟩⟩
  · exact .inl ⟨by rw [← hw]; exact g1, .inr ⟨g2, eff_congr h.right h1 h2 h3 g3⟩⟩
  · exact .inr ⟨by rw [← hw]; exact g1, hval _⟩

def WfB (s : State) : Prop := ∀ x ∈ s.boxes, x.1 < s.next

/-- What a step leaves of the variables. -/
theorem gs_boxes {o : AOper} {u : Upd} (hu : gs P s o u) : (o.op.kind ≤ 1 ∧ u.boxes = s.boxes) ∨ (o.op.kind = 2 ∧ (u.boxes = s.boxes ∨ ∃ cells, u.boxes = (s.next, cells) :: s.boxes)) ∨ o.op.kind = 3 := by
  rcases hu with ⟨_, ⟨h1, av, h2, rfl⟩ | ⟨h1, h2⟩⟩ | ⟨_, rfl⟩
  · exact .inl ⟨by omega, rfl⟩
  · obtain ⟨dst, op, guard⟩ := o
    cases op <;> simp only [AOp.kind, ne_eq, not_true_eq_false] at h1 <;> simp only [eff] at h2
    case alc => obtain ⟨_, rfl⟩ := h2; exact .inr (.inl ⟨rfl, .inr ⟨_, rfl⟩⟩)
    case box => obtain ⟨_, _, _, rfl⟩ := h2; exact .inr (.inl ⟨rfl, .inr ⟨_, rfl⟩⟩)
    case st => exact .inr (.inr rfl)
    case bs => obtain ⟨_, _, _, _, _, _, _, rfl⟩ := h2; exact .inl ⟨by simp [AOp.kind], rfl⟩
    case callT => obtain ⟨_, _, _, _, _, _, _, _, _, _, _, rfl⟩ := h2; exact .inl ⟨by simp [AOp.kind], rfl⟩
    case app => exact .inr (.inr rfl)
    case xe => exact .inr (.inr rfl)
    all_goals exact absurd trivial h1
  · have hk : o.op.kind ≤ 3 := by cases o.op <;> simp [AOp.kind]
    rcases (show o.op.kind ≤ 1 ∨ o.op.kind = 2 ∨ o.op.kind = 3 by omega) with h | h | h
    · exact .inl ⟨h, rfl⟩
    · exact .inr (.inl ⟨h, .inl rfl⟩)
    · exact .inr (.inr h)

theorem xeff_wf {x : XE} {bx : List (Nat × List AV)} {tp : List (Nat × TypeId)} {nx : Nat} {avs : List AV} {u : Upd} (h : x.eff bx tp nx avs = some u) (hw : ∀ y ∈ bx, y.1 < nx) : ∀ y ∈ u.boxes, y.1 < u.next := by
  have new : ∀ c : List AV, ∀ y ∈ (nx, c) :: bx, y.1 < nx + 1 := fun c y hy => by
    rcases List.mem_cons.1 hy with rfl | hy
    · exact Nat.lt_succ_self _
    · exact Nat.lt_succ_of_lt (hw y hy)
  have set : ∀ id c, ∀ y ∈ setBox bx id c, y.1 < nx := fun id c y hy => by
    rcases setBox_mem hy with ⟨rfl, old, ho⟩ | hy
    · exact hw (id, old) ho
    · exact hw y hy
  unfold XE.eff at h
  split at h
  · simp only [Option.some.injEq] at h; subst h; exact new _
  · split at h
    · split at h
      · simp only [Option.some.injEq] at h; subst h; exact set _ _
      · simp only [Option.some.injEq] at h; subst h; exact set _ _
      · cases h
    · cases h
  · simp only [Option.some.injEq] at h; subst h; exact new _
  · split at h
    · simp only [Option.some.injEq] at h; subst h; exact hw
    · cases h
  · split at h
    · simp only [Option.some.injEq] at h; subst h; exact new _
    · cases h
  · split at h
    · simp only [Option.some.injEq] at h; subst h; exact new _
    · cases h
  · split at h
    · simp only [Option.some.injEq] at h; subst h; exact new _
    · cases h
  · unfold XE.eff2 at h
    split at h
    · unfold mupSE at h
      split at h
      · split at h
        · split at h
          · split at h
            · simp only [Option.some.injEq] at h; subst h; exact set _ _
            · simp only [Option.some.injEq] at h; subst h; exact set _ _
            · cases h
          · cases h
        · cases h
      · cases h
    · unfold mentSE at h
      split at h
      · split at h
        · split at h
          · split at h
            · simp only [Option.some.injEq] at h; subst h; exact set _ _
            · simp only [Option.some.injEq] at h; subst h; exact set _ _
            · cases h
          · cases h
        · cases h
      · cases h
    · unfold estsE at h
      split at h
      · split at h
        · split at h
          · simp only [Option.some.injEq] at h; subst h; exact set _ _
          · cases h
        · cases h
      · cases h
    · unfold alcTE at h
      split at h
      · simp only [Option.some.injEq] at h; subst h; exact new _
      · cases h
    · unfold cvSBE at h
      split at h
      · simp only [Option.some.injEq] at h; subst h; exact hw
      · cases h
    · cases h

theorem rowApp_sub {bx : List (Nat × List AV)} {tp : List (Nat × TypeId)} {e : TypeId} {xv yv : AV} {r : RowApp} (h : rowApp bx tp e xv yv = some r) {x : Nat × List AV} (hx : x ∈ r.boxes) : x ∈ bx := by
  unfold rowApp at h
  split at h
  · split at h
    · split at h
      · simp only [Option.some.injEq] at h; subst h; exact (delBox_sub _ _).subset hx
      · cases h
    · cases h
  · split at h
    · split at h
      · simp only [Option.some.injEq] at h; subst h; exact hx
      · cases h
    · cases h
  · split at h
    · split at h
      · simp only [Option.some.injEq] at h; subst h; exact hx
      · cases h
    · cases h
  · split at h
    · split at h
      · simp only [Option.some.injEq] at h; subst h; exact hx
      · cases h
    · cases h
  · cases h

theorem gs_next {o : AOper} {u : Upd} (hu : gs P s o u) (hw : WfB s) (d : Option Nat) : WfB (u.ap d s) := by
  have hb : (u.ap d s).boxes = u.boxes := by
    unfold Upd.ap
    split <;> cases d <;> rfl
  have hn : (u.ap d s).next = u.next := by
    unfold Upd.ap
    split <;> cases d <;> rfl
  unfold WfB
  rw [hb, hn]
  rcases hu with ⟨_, ⟨h1, av, h2, rfl⟩ | ⟨h1, h2⟩⟩ | ⟨_, rfl⟩
  · exact hw
  · obtain ⟨dst, op, guard⟩ := o
    cases op <;> simp only [AOp.kind, ne_eq, not_true_eq_false] at h1 <;> simp only [eff] at h2
    case alc =>
      obtain ⟨_, rfl⟩ := h2
      intro x hx
      rcases List.mem_cons.1 hx with rfl | hx
      · exact Nat.lt_succ_self _
      · exact Nat.lt_succ_of_lt (hw x hx)
    case box =>
      obtain ⟨_, _, _, rfl⟩ := h2
      intro x hx
      rcases List.mem_cons.1 hx with rfl | hx
      · exact Nat.lt_succ_self _
      · exact Nat.lt_succ_of_lt (hw x hx)
    case st =>
      obtain ⟨id, off, av, cells, _, _, _, _, rfl⟩ := h2
      intro x hx
      rcases setBox_mem hx with ⟨rfl, old, ho⟩ | hx
      · exact hw (id, old) ho
      · exact hw x hx
    case bs => obtain ⟨_, _, _, _, _, _, _, rfl⟩ := h2; exact fun x hx => Nat.lt_succ_of_lt (hw x hx)
    case callT => obtain ⟨_, _, _, _, _, _, _, _, _, _, _, rfl⟩ := h2; exact fun x hx => Nat.lt_succ_of_lt (hw x hx)
    case app =>
      obtain ⟨xv, yv, _, _, h2⟩ := h2
      rcases h2 with ⟨_, r, h3, _, _, rfl⟩ | ⟨_, _, _, _, _, _, _, _, _, rfl⟩
      · intro x hx
        rcases List.mem_cons.1 hx with rfl | hx
        · exact Nat.lt_succ_self _
        · have := hw x (rowApp_sub h3 hx)
          show x.1 < s.next + r.skip + 1
          omega
      · exact fun x hx => Nat.lt_succ_of_lt (hw x hx)
    case xe x xs => obtain ⟨avs, _, h3⟩ := h2; exact xeff_wf h3 hw
    all_goals exact absurd trivial h1
  · exact hw

theorem boxMore_cons (hw : WfB s) {cells : List AV} {id : Nat} {c : List AV} (h : boxAt s.boxes id = some c) : boxAt ((s.next, cells) :: s.boxes) id = some c := by
  simp only [boxAt]
  have := hw _ (boxAt_mem h)
  rw [if_neg (by simp at this; omega)]
  exact h
theorem obMore_cons (hw : WfB s) {cells : List AV} {id : Nat} {x : AV} (h : obAt s.boxes id = some x) : obAt ((s.next, cells) :: s.boxes) id = some x := by
  simp only [obAt]
  have := hw _ (obAt_mem h)
  rw [if_neg (by simp at this; omega)]
  exact h

theorem ap_agree {u : Upd} {d : Option Nat} {l : List Nat} (h : dstIn d l = false) : Agree l s (u.ap d s) := by
  intro t ht
  cases d with
  | none => unfold Upd.ap; split <;> rfl
  | some d =>
    have hne : d ≠ t := fun e => by subst e; simp [dstIn] at h; exact h ht
    unfold Upd.ap
    split
    · show _ = (if d = t then _ else _)
      rw [if_neg hne]
    · show _ = (if d = t then _ else _)
      rw [if_neg hne]

theorem ap_boxes (u : Upd) (d : Option Nat) : (u.ap d s).boxes = u.boxes := by unfold Upd.ap; split <;> cases d <;> rfl
theorem ap_tips (u : Upd) (d : Option Nat) : (u.ap d s).tips = u.tips := by unfold Upd.ap; split <;> cases d <;> rfl
theorem ap_next (u : Upd) (d : Option Nat) : (u.ap d s).next = u.next := by unfold Upd.ap; split <;> cases d <;> rfl
theorem ap_look (u : Upd) (d : Option Nat) (t : Nat) : look (u.ap d s).slots t = if d = some t then u.val else look s.slots t := by
  unfold Upd.ap
  cases d with
  | none => split <;> simp [State.put, State.del]
  | some d =>
    split
    · rename_i av hv
      show (if d = t then some av else look s.slots t) = _
      simp [hv]
    · rename_i hv
      show (if d = t then none else look s.slots t) = _
      simp [hv]

theorem comm {k j : AOper} (hc : commB k j = true) (hw : WfB s) {u u' : Upd} (h1 : gs P s k u) (h2 : gs P (u.ap k.dst s) j u') :
    ∃ v v', gs P s j v ∧ gs P (v.ap j.dst s) k v' ∧ Eqv (u'.ap j.dst (u.ap k.dst s)) (v'.ap k.dst (v.ap j.dst s)) := by
  simp only [commB, apartB, Bool.and_eq_true, Bool.not_eq_true', Bool.or_eq_true, beq_iff_eq, bne_iff_ne, ne_eq, decide_eq_true_eq] at hc
  obtain ⟨⟨⟨a1, a2⟩, a3⟩, hc⟩ := hc
  have agk : ∀ (u : Upd) (s : State), Agree j.looks s (u.ap k.dst s) := fun u s => ap_agree a1
  have agj : ∀ (u : Upd) (s : State), Agree k.looks s (u.ap j.dst s) := fun u s => ap_agree a2
  have looks : ∀ (u v : Upd) (s : State) t, look (u.ap j.dst (v.ap k.dst s)).slots t = look (v.ap k.dst (u.ap j.dst s)).slots t := by
    intro u v s t
    simp only [ap_look]
    by_cases e1 : j.dst = some t
    · by_cases e2 : k.dst = some t
      · rw [e1, e2] at a3; simp [sameDst] at a3
      · rw [if_pos e1, if_neg e2, if_pos e1]
    · simp only [if_neg e1]
  have lookV : ∀ (u v : Upd) (b1 b2 : List (Nat × List AV)) (t1 t2 : List (Nat × TypeId)) (n1 n2 : Nat) (d : Option Nat) (s : State) t, look (Upd.ap ⟨u.val, b1, t1, n1⟩ d s).slots t = look (Upd.ap ⟨u.val, b2, t2, n2⟩ d s).slots t := by
    intro u v b1 b2 t1 t2 n1 n2 d s t
    simp only [ap_look]
  rcases hc with ⟨hk, hs⟩ | ⟨hj, hs⟩
  · -- the first is a value
    obtain ⟨av, rfl, _⟩ := gs_value hk (s' := s) (fun _ _ => rfl) (fun _ => ⟨fun _ _ h => h, fun _ _ h => h⟩) h1
    have hj : gs P s j u' := gs_congr (fun t ht => (agk _ s t ht).symm) (ap_boxes _ _) (ap_tips _ _) (ap_next _ _) h2
    have hbm : k.op.reads = true → BoxMore s (u'.ap j.dst s) := by
      intro hr
      unfold BoxMore
      rw [ap_boxes]
      rcases gs_boxes hj with ⟨_, hb⟩ | ⟨_, hb | ⟨cs, hb⟩⟩ | h3
      · rw [hb]; exact ⟨fun _ _ h => h, fun _ _ h => h⟩
      · rw [hb]; exact ⟨fun _ _ h => h, fun _ _ h => h⟩
      · rw [hb]; exact ⟨fun _ _ h => boxMore_cons hw h, fun _ _ h => obMore_cons hw h⟩
      · rcases hs with hs | hs
        · exact absurd h3 hs
        · rw [hr] at hs; cases hs
    obtain ⟨av', he, hk'⟩ := gs_value hk (agj u' s) hbm h1
    have hav : av' = av := by have := congrArg Upd.val he; simp [State.val] at this; exact this.symm
    subst hav
    refine ⟨u', _, hj, hk', ?_, ?_, ?_, ?_⟩
    · intro t
      rw [looks]
      exact lookV (s.val av') u' _ _ _ _ _ _ _ _ t
    · rw [ap_boxes, ap_boxes]; simp only [State.val, ap_boxes]
    · rw [ap_tips, ap_tips]; simp only [State.val, ap_tips]
    · rw [ap_next, ap_next]; simp only [State.val, ap_next]
  · -- the second is a value
    have hbm : j.op.reads = true → BoxMore (u.ap k.dst s) s := by
      intro hr
      unfold BoxMore
      rw [ap_boxes]
      rcases hs with hs | hs
      · rcases gs_boxes h1 with ⟨_, hb⟩ | ⟨h3, _⟩ | h3
        · rw [hb]; exact ⟨fun _ _ h => h, fun _ _ h => h⟩
        · omega
        · omega
      · rw [hr] at hs; cases hs
    obtain ⟨av, rfl, hj'⟩ := gs_value hj (fun t ht => (agk u s t ht).symm) hbm h2
    refine ⟨_, u, hj', gs_congr (agj _ s) (by rw [ap_boxes]; rfl) (by rw [ap_tips]; rfl) (by rw [ap_next]; rfl) h1, ?_, ?_, ?_, ?_⟩
    · intro t
      rw [looks]
      simp only [ap_look, State.val]
    · rw [ap_boxes, ap_boxes]; simp only [State.val, ap_boxes]
    · rw [ap_tips, ap_tips]; simp only [State.val, ap_tips]
    · rw [ap_next, ap_next]; simp only [State.val, ap_next]
/-! ### All orders, and that of the text -/

def drun (P : Program) : List AOper → State → (State → Prop) → Prop
  | [], s, K => K s
  | o :: rest, s, K => gstep P o s (fun s' => drun P rest s' K)

def stepAt (P : Program) (aops : List AOper) (i : Nat) (s : State) (K : State → Prop) : Prop :=
  match aops[i]? with
  | none => False
  | some o => gstep P o s K

def aAny (P : Program) (ops : Array Oper) (aops : List AOper) (K : State → Prop) : Nat → Array Bool → State → Prop
  | 0, listed, s => Region.ready .any ops listed = [] ∧ K s
  | fuel + 1, listed, s => (Region.ready .any ops listed = [] → K s) ∧ ∀ i ∈ Region.ready .any ops listed, stepAt P aops i s (aAny P ops aops K fuel (listed.setIfInBounds i true))

theorem gstep_eqv {o : AOper} {K : State → Prop} (hK : ∀ s s', Eqv s s' → K s → K s') (he : Eqv s s') (h : gstep P o s K) : gstep P o s' K := by
  rw [gstep_gs] at h ⊢
  obtain ⟨u, h1, h2⟩ := h
  refine ⟨u, gs_congr (he.agree _) he.boxes he.tips he.next h1, hK _ _ ⟨fun t => ?_, by simp only [ap_boxes], by simp only [ap_tips], by simp only [ap_next]⟩ h2⟩
  simp only [ap_look, he.slots t]

theorem aAny_eqv {ops : Array Oper} {aops : List AOper} {K : State → Prop} (hK : ∀ s s', Eqv s s' → K s → K s') : ∀ (fuel : Nat) (listed : Array Bool) (s s' : State), Eqv s s' → aAny P ops aops K fuel listed s → aAny P ops aops K fuel listed s'
  | 0, _, _, _, he, h => ⟨h.1, hK _ _ he h.2⟩
  | fuel + 1, listed, s, s', he, h => ⟨fun h0 => hK _ _ he (h.1 h0), fun i hi => by
      have := h.2 i hi
      unfold stepAt at this ⊢
      split
      · rename_i hn; rw [hn] at this; exact this
      · rename_i o ho; rw [ho] at this; exact gstep_eqv (aAny_eqv hK fuel _) he this⟩

/-- Each of these waits for the one, or for another of these. -/
def Dok (ops : Array Oper) (i : Nat) (D : List Nat) : Prop := ∀ j ∈ D, ∃ oj, ops[j]? = some oj ∧ ∃ e ∈ oj.after, Region.binds .any e = true ∧ (e.on = i ∨ e.on ∈ D)

theorem depGo_ok {ops : Array Oper} {i : Nat} {f : List Nat → Bool} : ∀ (n k : Nat) (D : List Nat), Dok ops i D → depGo ops i f n k D = true → ∃ D', Dok ops i D' ∧ f D' = true
  | 0, k, D, hD, h => ⟨D, hD, h⟩
  | n + 1, k, D, hD, h => by
    rw [depGo] at h
    split at h
    · rename_i hc
      refine depGo_ok n (k + 1) (k :: D) ?_ h
      intro j hj
      rcases List.mem_cons.1 hj with rfl | hj
      · split at hc
        · rename_i o ho
          obtain ⟨e, he, hb⟩ := Array.any_eq_true'.1 hc
          simp only [Bool.and_eq_true, Bool.or_eq_true, beq_iff_eq] at hb
          exact ⟨o, ho, e, he, hb.1, hb.2.imp id fun h => List.mem_cons_of_mem _ (by simpa using h)⟩
        · cases hc
      · obtain ⟨oj, h1, e, h2, h3, h4⟩ := hD j hj
        exact ⟨oj, h1, e, h2, h3, h4.imp id fun h => List.mem_cons_of_mem _ h⟩
    · exact depGo_ok n (k + 1) D hD h

/-- What is ready does not wait for what is open. -/
theorem ready_free {ops : Array Oper} {i j : Nat} {listed : Array Bool} {D : List Nat} (hD : Dok ops i D) (hlist : ∀ j, listed.getD j true = true → D.contains j = false) (hj : j ∈ Region.ready .any ops listed) (hi : listed.getD i true = false) : D.contains j = false := by
  obtain ⟨hjun, oj, hoj, hall⟩ := mem_ready.1 hj
  rw [Bool.eq_false_iff]
  intro h
  obtain ⟨oj', hoj', e, he, hb, hw⟩ := hD j (by simpa using h)
  rw [hoj, Option.some.injEq] at hoj'
  subst hoj'
  have h1 := hall e he hb
  have h2 : listed.getD e.on true = true := by
    rcases Nat.lt_or_ge e.on listed.size with h' | h'
    · simp [h'] at h1 ⊢; exact h1
    · simp [Array.getElem?_eq_none h'] at h1
  rcases hw with hw | hw
  · rw [hw, hi] at h2; cases h2
  · have := hlist _ h2
    simp [hw] at this

theorem take_first {ops : Array Oper} {aops : List AOper} {K : State → Prop} (hK : ∀ s s', Eqv s s' → K s → K s') {i : Nat} {oi : AOper} (hi : aops[i]? = some oi) {D : List Nat} (hD : Dok ops i D) :
    ∀ (fuel : Nat) (listed : Array Bool) (s : State), WfB s →
      (∀ j oj, ops[j]? = some oj → j ≠ i → listed.getD j true = false → D.contains j = false → ∃ aj, aops[j]? = some aj ∧ commB oi aj = true) → (∀ j, listed.getD j true = true → D.contains j = false) →
      i ∈ Region.ready .any ops listed → gstep P oi s (aAny P ops aops K fuel (listed.setIfInBounds i true)) → aAny P ops aops K (fuel + 1) listed s
  | 0, listed, s, hw, hfree, hlist, hr, H => by
    refine ⟨fun h => (by rw [h] at hr; cases hr), fun j hj => ?_⟩
    by_cases hji : j = i
    · subst hji; unfold stepAt; rw [hi]; exact H
    · have := ready_mono hj hji
      rw [gstep_gs] at H
      obtain ⟨u, _, H, _⟩ := H
      rw [H] at this
      cases this
  | fuel + 1, listed, s, hw, hfree, hlist, hr, H => by
    refine ⟨fun h => (by rw [h] at hr; cases hr), fun j hj => ?_⟩
    by_cases hji : j = i
    · subst hji; unfold stepAt; rw [hi]; exact H
    · obtain ⟨hjun, oj, hoj, hall⟩ := mem_ready.1 hj
      have hnot := ready_free hD hlist hj (mem_ready.1 hr).1
      obtain ⟨aj, haj, hcm⟩ := hfree j oj hoj hji hjun hnot
      unfold stepAt
      rw [haj]
      simp only []
      rw [gstep_gs] at H ⊢
      obtain ⟨u, h1, _, h2⟩ := H
      have h2 := h2 j (ready_mono hj hji)
      unfold stepAt at h2
      rw [haj] at h2
      simp only [] at h2
      rw [gstep_gs] at h2
      obtain ⟨u', h3, h4⟩ := h2
      obtain ⟨v, v', h5, h6, h7⟩ := comm hcm hw h1 h3
      refine ⟨v, h5, take_first hK hi hD fuel (listed.setIfInBounds j true) _ (gs_next h5 hw _) ?_ ?_ (ready_mono hr (Ne.symm hji)) ?_⟩
      · intro k ok hk hki hun hno
        refine hfree k ok hk hki ?_ hno
        by_cases hjk : j = k
        · subst hjk; exact hjun
        · rw [getD_set_ne true hjk] at hun; exact hun
      · intro k hk
        by_cases hjk : j = k
        · subst hjk; exact hnot
        · rw [getD_set_ne true hjk] at hk; exact hlist k hk
      · rw [gstep_gs]
        refine ⟨v', h6, ?_⟩
        rw [Array.setIfInBounds_comm _ _ hji]
        exact aAny_eqv hK _ _ _ _ h7 h4

/-- All of these orders. -/
def trun (P : Program) : ATree → State → (State → Prop) → Prop
  | .leaf, s, K => K s
  | .dead, _, _ => False
  | .top, _, _ => True
  | .one o t, s, K => gstep P o s (fun s' => trun P t s' K)
  | .both a b, s, K => trun P a s K ∧ trun P b s K

/-- What may be taken first. -/
theorem take_lex {ops : Array Oper} {aops : List AOper} {K : State → Prop} (hK : ∀ s s', Eqv s s' → K s → K s') {k : Nat} {o : AOper} (h0 : aops[k]? = some o) {listed : Array Bool} (hA : lexAt ops aops listed k = true) (fuel : Nat) (s : State) (hw : WfB s)
    (h : gstep P o s (aAny P ops aops K fuel (listed.setIfInBounds k true))) : aAny P ops aops K (fuel + 1) listed s := by
  simp only [lexAt, Bool.and_eq_true, h0] at hA
  obtain ⟨hr, hf⟩ := hA
  obtain ⟨D, hD, hf⟩ := depGo_ok _ _ _ (fun j hj => by cases hj) hf
  refine take_first hK h0 hD fuel listed s hw ?_ ?_ (by simpa using hr) h
  · intro j oj hj hne hun hno
    have h1 := List.all_eq_true.1 hf j (List.mem_range.2 (Array.getElem?_eq_some_iff.1 hj).1)
    simp only [Bool.or_eq_true, beq_iff_eq, hne, false_or, hun, Bool.false_eq_true, if_false, hno] at h1
    split at h1
    · rename_i aj haj
      exact ⟨aj, haj, h1⟩
    · cases h1
  · intro j hlj
    rcases Nat.lt_or_ge j ops.size with hlt | hge
    · by_cases hjk : j = k
      · subst hjk
        have h0 := (mem_ready.1 (by simpa using hr)).1
        rw [hlj] at h0; cases h0
      · have h1 := List.all_eq_true.1 hf j (List.mem_range.2 hlt)
        simpa only [Bool.or_eq_true, beq_iff_eq, hjk, false_or, hlj, if_true, Bool.not_eq_true'] using h1
    · rw [Bool.eq_false_iff]
      intro hh
      obtain ⟨oj, h1, _⟩ := hD j (by simpa using hh)
      have := (Array.getElem?_eq_some_iff.1 h1).1
      omega

theorem trun_fold {f : Nat → ATree} {K : State → Prop} {s : State} : ∀ {l : List Nat}, trun P (l.foldr (fun i t => .both (f i) t) .top) s K → ∀ i ∈ l, trun P (f i) s K
  | [], _, i, hi => by cases hi
  | j :: l, h, i, hi => by
    simp only [List.foldr_cons, trun] at h
    rcases List.mem_cons.1 hi with rfl | hi
    · exact h.1
    · exact trun_fold h.2 i hi

theorem aAny_tree {ops : Array Oper} {aops : List AOper} {K : State → Prop} (hK : ∀ s s', Eqv s s' → K s → K s') : ∀ (n : Nat) (listed : Array Bool) (s : State), WfB s → trun P (mkT ops aops n listed) s K → aAny P ops aops K n listed s
  | 0, listed, s, hw, h => by
    simp only [mkT] at h
    split at h
    · rename_i he; exact ⟨by simpa using he, h⟩
    · exact h.elim
  | n + 1, listed, s, hw, h => by
    simp only [mkT] at h
    split at h
    · rename_i he
      exact ⟨fun _ => h, fun i hi => by rw [he] at hi; cases hi⟩
    · rename_i i0 r he
      have next : ∀ (i : Nat) (o : AOper), trun P (.one o (mkT ops aops n (listed.setIfInBounds i true))) s K → gstep P o s (aAny P ops aops K n (listed.setIfInBounds i true)) := fun i o ht => by
        simp only [trun] at ht
        rw [gstep_gs] at ht ⊢
        obtain ⟨u, h1, h2⟩ := ht
        exact ⟨u, h1, aAny_tree hK n _ _ (gs_next h1 hw _) h2⟩
      split at h
      · rename_i i hi
        have hlex := List.find?_some hi
        split at h
        · rename_i o ho
          exact take_lex hK ho hlex n s hw (next i o h)
        · exact h.elim
      · refine ⟨fun h0 => (by rw [he] at h0; cases h0), fun i hi => ?_⟩
        rw [he] at hi
        have h1 := trun_fold h i hi
        unfold stepAt
        split at h1
        · rename_i o ho
          rw [ho]
          exact next i o h1
        · exact h1.elim

theorem aAny_lex {ops : Array Oper} {aops : List AOper} {K : State → Prop} (hK : ∀ s s', Eqv s s' → K s → K s') : ∀ (l : List AOper) (k : Nat) (listed : Array Bool) (s : State), WfB s → (∀ j o, l[j]? = some o → aops[k + j]? = some o) →
    lexD ops aops l.length k listed = true → drun P l s K → aAny P ops aops K l.length listed s
  | [], _, _, _, _, _, hB, h => ⟨by simpa [lexD] using hB, h⟩
  | o :: l, k, listed, s, hw, hl, hB, h => by
    have h0 : aops[k]? = some o := hl 0 o rfl
    simp only [List.length_cons, lexD, Bool.and_eq_true] at hB
    obtain ⟨hA, hB⟩ := hB
    simp only [lexAt, Bool.and_eq_true, h0] at hA
    obtain ⟨hr, hf⟩ := hA
    obtain ⟨D, hD, hf⟩ := depGo_ok _ _ _ (fun j hj => by cases hj) hf
    refine take_first hK h0 hD l.length listed s hw ?_ ?_ (by simpa using hr) ?_
    · intro j oj hj hne hun hno
      have h1 := List.all_eq_true.1 hf j (List.mem_range.2 (Array.getElem?_eq_some_iff.1 hj).1)
      simp only [Bool.or_eq_true, beq_iff_eq, hne, false_or, hun, Bool.false_eq_true, if_false, hno] at h1
      split at h1
      · rename_i aj haj
        exact ⟨aj, haj, h1⟩
      · cases h1
    · intro j hlj
      rcases Nat.lt_or_ge j ops.size with hlt | hge
      · by_cases hjk : j = k
        · subst hjk
          have h0 := (mem_ready.1 (by simpa using hr)).1
          rw [hlj] at h0; cases h0
        · have h1 := List.all_eq_true.1 hf j (List.mem_range.2 hlt)
          simpa only [Bool.or_eq_true, beq_iff_eq, hjk, false_or, hlj, if_true, Bool.not_eq_true'] using h1
      · rw [Bool.eq_false_iff]
        intro hh
        obtain ⟨oj, h1, _⟩ := hD j (by simpa using hh)
        have := (Array.getElem?_eq_some_iff.1 h1).1
        omega
    · simp only [drun] at h
      rw [gstep_gs] at h ⊢
      obtain ⟨u, h1, h2⟩ := h
      exact ⟨u, h1, aAny_lex hK l (k + 1) _ _ (gs_next h1 hw _) (fun j o' hj => by have := hl (j + 1) o' (by simpa using hj); rwa [show k + 1 + j = k + (j + 1) by omega]) hB h2⟩
end
end Go.Ab
