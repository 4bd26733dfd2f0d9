/-
The states of the abstract machine, and what they say of a frame and a world. Conditions: none.
-/
import Derived.Test.YteekelelcbfekaaDoorAbBase
set_option linter.unusedSimpArgs false
set_option linter.unusedVariables false
set_option linter.unusedSectionVars false
namespace Go.Ab
open Go Go.RowKit

structure State where
  slots : List (Nat × Option AV)
  boxes : List (Nat × List AV)
  tips : List (Nat × TypeId)
  next : Nat
deriving Inhabited

def look : List (Nat × Option AV) → Nat → Option AV
  | [], _ => none
  | (i, v) :: l, t => if i = t then v else look l t

def State.put (s : State) (d : Option Nat) (av : AV) : State :=
  match d with
  | none => s
  | some d => { s with slots := (d, some av) :: s.slots }

def State.del (s : State) (d : Option Nat) : State :=
  match d with
  | none => s
  | some d => { s with slots := (d, none) :: s.slots }

/-- An object that is no cells. -/
def AV.isOb : AV → Bool
  | .ob _ _ => true
  | _ => false

def obBox : List AV → Bool
  | [x] => x.isOb
  | _ => false

/-- The cells of a box; none, if it is another object. -/
def unOb (l : List AV) : Option (List AV) := if obBox l = true then none else some l

def boxAt : List (Nat × List AV) → Nat → Option (List AV)
  | [], _ => none
  | (i, v) :: l, t => if i = t then unOb v else boxAt l t

/-- An object that is no cells. -/
def obAt : List (Nat × List AV) → Nat → Option AV
  | [], _ => none
  | (i, v) :: l, t => if i = t then (match v with
    | [.ob k cells] => some (.ob k cells)
    | _ => none) else obAt l t

def setBox : List (Nat × List AV) → Nat → List AV → List (Nat × List AV)
  | [], _, _ => []
  | (i, v) :: l, t, u => if i = t then (i, u) :: l else (i, v) :: setBox l t u

def hasTip : List (Nat × TypeId) → Nat → TypeId → Bool
  | [], _, _ => false
  | (i, e) :: l, t, e' => if i = t then e == e' else hasTip l t e'

def dropTip : List (Nat × TypeId) → Nat → List (Nat × TypeId)
  | [], _ => []
  | (i, e) :: l, t => if i = t then l else (i, e) :: dropTip l t

def delBox : List (Nat × List AV) → Nat → List (Nat × List AV)
  | [], _ => []
  | (i, v) :: l, t => if i = t then l else (i, v) :: delBox l t

/-- What such an object is in the heap. -/
def ORep (P : Program) (c : Ctx) (w : World) : AV → Obj → Prop
  | .ob (.loop i) cells, o => ∃ tmps fn defers ca cb, o = .loop { state := i.st, pending := i.pend, fn, tmps, params := i.ps.toArray, assign := ca, body := cb, defers } ∧ (cCode P i.ntmps ca = some i.assign ∧ cCode P i.ntmps cb = some i.body) ∧ tmps.size = i.ntmps ∧
      ∀ (j k : Nat) (av : AV), i.ks[j]? = some k → cells[j]? = some av → Rep P c w av (tmps.getD k undef)
  | .ob (.map _ _ n) cells, o => ∃ es : Array MapEntry, o = .map es n ∧ es.size = n ∧ RepL P c w cells (es.toList.flatMap fun e => [e.key, e.val]) ∧ ∀ (i : Nat) (e : MapEntry), es[i]? = some e → e.born = i
  | .ob (.iter s pos) _, o => o = .stringIter s pos
  | .ob (.miter seen since last) cells, o => ∃ r, RepL P c w cells [.map (some r)] ∧ o = .mapIter (some r) since seen.toArray last
  | _, _ => False

/-- What lies in a box. -/
def BoxRep (P : Program) (c : Ctx) (w : World) (cells : List AV) (o : Obj) : Prop :=
  (∃ (arr : Array Value) (t : TypeId), o = .cells arr t (0, 0) ∧ RepL P c w cells (arr.toList.take cells.length)) ∨ ∃ x, cells = [x] ∧ ORep P c w x o

structure BoxOK (P : Program) (c : Ctx) (w : World) (id : Nat) (cells : List AV) : Prop where
  lt : id < c.next
  base : c.base ≤ c.β id
  free : ∀ j, ¬ c.prot (c.β id) j
  row : ∃ o, w.heap[c.β id]? = some o ∧ BoxRep P c w cells o

structure TipOK (P : Program) (c : Ctx) (w : World) (e : TypeId) (id : Nat) : Prop where
  lt : id < c.next
  row : c.τ id = .slice none 0 0 ∨ ∃ g n cap cur, c.τ id = .slice (some ⟨g, 0, none⟩) n cap ∧ c.base ≤ g ∧ w.heap[g]? = some (.cells cur e (0, 0)) ∧ n ≤ cap ∧ cap ≤ maxLen ∧
    cur.size = cap * P.cellsOf e ∧ ∀ j, c.prot g j → j < n * P.cellsOf e

structure Mem (P : Program) (c : Ctx) (bx : List (Nat × List AV)) (tp : List (Nat × TypeId)) (w : World) : Prop where
  boxes : ∀ x ∈ bx, BoxOK P c w x.1 x.2
  apart : bx.Pairwise (fun x y => c.β x.1 ≠ c.β y.1)
  tips : ∀ x ∈ tp, TipOK P c w x.2 x.1
  tapart : tp.Pairwise (fun x y => ∀ k, (c.τ x.1).ownBlock = some k → (c.τ y.1).ownBlock ≠ some k)
  tids : tp.Pairwise (fun x y => x.1 ≠ y.1)
  cross : ∀ x ∈ tp, ∀ y ∈ bx, (c.τ x.1).ownBlock ≠ some (c.β y.1)
  below : Below c.base c.w0 w
  baseLe : c.base ≤ w.heap.size
  plt : ∀ b j, c.prot b j → b < w.heap.size
  pold : ∀ b j, c.prot b j → b < c.base → c.p0 b j

def markOf (r : Nat) : Deferred := { target := .collected r, args := #[] }

/-- What is to be shut where the frame is left. -/
def Marks (c : Ctx) (w : World) (ds : List Deferred) : Prop := ∃ rs : List Nat, ds = rs.map markOf ∧ rs.Nodup ∧ ∀ r ∈ rs, c.base ≤ r ∧ c.floor.low ≤ r ∧ w.heap[r]? = some (.deferred (some []))

def InRound (c : Ctx) (w : World) : Prop := ∀ l, c.floor.round = some l → ∃ r, w.heap[l]? = some (.loop r)

structure Rel (P : Program) (N : Nat) (c : Ctx) (s : State) (a : Act) (w : World) : Prop where
  slots : ∀ t av, look s.slots t = some av → Rep P c w av (a.tmps.getD t undef)
  size : a.tmps.size = N
  marks : Marks c w a.defers
  round : InRound c w
  low : c.floor.low ≤ w.heap.size
  mem : Mem P c s.boxes s.tips w
  next : s.next = c.next
  floor : c.floor.lim ≤ c.next

section
variable {P : Program} {N : Nat} {c c' : Ctx} {w w' : World} {s : State} {a : Act}

theorem Marks.nil : Marks c w [] := ⟨[], rfl, List.nodup_nil, fun _ h => by cases h⟩

theorem heap_lt {b : Nat} {o : Obj} (h : w.heap[b]? = some o) : b < w.heap.size := (Array.getElem?_eq_some_iff.1 h).1

theorem Marks.stays {ds : List Deferred} (h : Marks c w ds) (hx : Stays w w') (hb : c'.base = c.base) (hf : c'.floor = c.floor) : Marks c' w' ds := by
  obtain ⟨rs, h1, h2, h3⟩ := h
  exact ⟨rs, h1, h2, fun r hr => ⟨by rw [hb]; exact (h3 r hr).1, by rw [hf]; exact (h3 r hr).2.1, (hx r (heap_lt (h3 r hr).2.2)).2.1 (h3 r hr).2.2⟩⟩

theorem InRound.stays (h : InRound c w) (hx : Stays w w') (hf : c'.floor = c.floor) : InRound c' w' := fun l hl => by
  rw [hf] at hl
  obtain ⟨r, hr⟩ := h l hl
  exact (hx l (heap_lt hr)).1 r hr

theorem ORep.move {x : AV} {o : Obj} (h : ORep P c w x o) (m : Moves c w c' w') : ORep P c' w' x o := by
  cases x
  case ob k cells =>
    cases k with
    | loop i =>
      obtain ⟨tmps, fn, defers, ca, cb, h1, h0, h2, h3⟩ := h
      exact ⟨tmps, fn, defers, ca, cb, h1, h0, h2, fun j k av hj hk => Rep.move m _ _ (h3 j k av hj hk)⟩
    | map k e n =>
      obtain ⟨es, h1, h2, h3, h4⟩ := h
      exact ⟨es, h1, h2, RepL.move m _ _ h3, h4⟩
    | iter s pos => exact h
    | miter seen since last =>
      obtain ⟨r, h1, h2⟩ := h
      exact ⟨r, RepL.move m _ _ h1, h2⟩
  all_goals exact h.elim

theorem ORep.ext {x : AV} {o : Obj} (h : ORep P c w x o) (hx : Ext c.next c w c' w') (hn : c.next ≤ c'.next) : ORep P c' w' x o := h.move (hx.moves hn)
theorem BoxRep.move {cells : List AV} {o : Obj} (h : BoxRep P c w cells o) (m : Moves c w c' w') : BoxRep P c' w' cells o := by
  rcases h with ⟨arr, t, h1, h2⟩ | ⟨x, h1, h2⟩
  · exact .inl ⟨arr, t, h1, RepL.move m _ _ h2⟩
  · exact .inr ⟨x, h1, h2.move m⟩
theorem BoxRep.ext {cells : List AV} {o : Obj} (h : BoxRep P c w cells o) (hx : Ext c.next c w c' w') (hn : c.next ≤ c'.next) : BoxRep P c' w' cells o := h.move (hx.moves hn)

theorem ORep.ob {x : AV} {o : Obj} (h : ORep P c w x o) : x.isOb = true := by
  cases x <;> first | rfl | exact h.elim

theorem BoxRep.cells {cells : List AV} {o : Obj} (h : BoxRep P c w cells o) (hb : obBox cells = false) : ∃ (arr : Array Value) (t : TypeId), o = .cells arr t (0, 0) ∧ RepL P c w cells (arr.toList.take cells.length) := by
  rcases h with h | ⟨x, h1, h2⟩
  · exact h
  · subst h1; rw [obBox, h2.ob] at hb; cases hb

theorem BoxRep.ob {k : OK} {l : List AV} {o : Obj} (h : BoxRep P c w [.ob k l] o) : ORep P c w (.ob k l) o := by
  rcases h with ⟨arr, t, h1, h2⟩ | ⟨x, h1, h2⟩
  · simp only [RepL, Rep] at h2
    obtain ⟨v, vs, _, h, _⟩ := h2
    exact h.elim
  · simp only [List.cons.injEq, and_true] at h1; subst h1; exact h2

theorem BoxOK.ext {id : Nat} {cells : List AV} (h : BoxOK P c w id cells) (hx : Ext c.next c w c' w') (hn : c.next ≤ c'.next)
    (hh : w'.heap[c.β id]? = w.heap[c.β id]?) (hp : ∀ j, c'.prot (c.β id) j → c.prot (c.β id) j) : BoxOK P c' w' id cells := by
  have hb := (hx.ids id h.lt).1
  obtain ⟨o, h1, h2⟩ := h.row
  exact ⟨Nat.lt_of_lt_of_le h.lt hn, by rw [hb, hx.base]; exact h.base, fun j hj => h.free j (hp j (by rw [← hb]; exact hj)), o, by rw [hb, hh]; exact h1, h2.ext hx hn⟩

theorem TipOK.ext {e : TypeId} {id : Nat} (h : TipOK P c w e id) (hx : Ext c.next c w c' w') (hn : c.next ≤ c'.next)
    (hh : ∀ g, (c.τ id).ownBlock = some g → w'.heap[g]? = w.heap[g]?) (hp : ∀ g j, (c.τ id).ownBlock = some g → c'.prot g j → c.prot g j) : TipOK P c' w' e id := by
  have ht := (hx.ids id h.lt).2
  refine ⟨Nat.lt_of_lt_of_le h.lt hn, ?_⟩
  rw [ht]
  rcases h.row with h1 | ⟨g, n, cap, cur, h1, h2, h3, h4, h5, h6, h7⟩
  · exact .inl h1
  · have ho : (c.τ id).ownBlock = some g := by rw [h1]; rfl
    exact .inr ⟨g, n, cap, cur, h1, by rw [hx.base]; exact h2, by rw [hh g ho]; exact h3, h4, h5, h6, fun j hj => h7 j (hp g j ho hj)⟩

theorem TipOK.block_lt {e : TypeId} {id : Nat} (h : TipOK P c w e id) {g : Nat} (hg : (c.τ id).ownBlock = some g) : g < w.heap.size ∧ c.base ≤ g := by
  rcases h.row with h1 | ⟨g', n, cap, cur, h1, h2, h3, h4, h5, h6, h7⟩
  · rw [h1] at hg; simp [Value.ownBlock] at hg
  · rw [h1] at hg; simp [Value.ownBlock] at hg; subst hg
    exact ⟨(Array.getElem?_eq_some_iff.1 h3).1, h2⟩

theorem BoxOK.block_lt {id : Nat} {cells : List AV} (h : BoxOK P c w id cells) : c.β id < w.heap.size := by
  obtain ⟨o, h1, _⟩ := h.row
  exact (Array.getElem?_eq_some_iff.1 h1).1

theorem look_put (d : Nat) (av : AV) (t : Nat) : look (s.put (some d) av).slots t = if d = t then some av else look s.slots t := rfl

/-- A value comes into a temporary; the world goes on. -/
theorem Rel.put (h : Rel P N c s a w) {dst : Option Nat} (hd : ∀ d, dst = some d → d < N) {av : AV} {v : Value} {boxes : List (Nat × List AV)} {tips : List (Nat × TypeId)}
    (hx : Ext c.next c w c' w') (hn : c.next ≤ c'.next) (hf : c'.floor = c.floor) (hm : Mem P c' boxes tips w') (hv : dst ≠ none → Rep P c' w' av v) :
    Rel P N c' ({ slots := s.slots, boxes, tips, next := c'.next : State }.put dst av) (a.put dst v) w' := by
  cases dst with
  | none => exact ⟨fun t av ht => Rep.ext hx hn _ _ (h.slots t av ht), h.size, h.marks.stays hx.stays hx.base hf, h.round.stays hx.stays hf, by rw [hf]; exact Nat.le_trans h.low hx.size, hm, rfl, by rw [hf]; exact Nat.le_trans h.floor hn⟩
  | some d =>
    have hdN := hd d rfl
    refine ⟨fun t av' ht => ?_, by simp [Act.put, h.size], h.marks.stays hx.stays hx.base hf, h.round.stays hx.stays hf, by rw [hf]; exact Nat.le_trans h.low hx.size, hm, rfl, by rw [hf]; exact Nat.le_trans h.floor hn⟩
    rw [look_put] at ht
    split at ht
    · rename_i he; subst he
      simp only [Option.some.injEq] at ht; subst ht
      have : (a.put (some d) v).tmps.getD d undef = v := by simp [Act.put, h.size, hdN]
      rw [this]; exact hv (by simp)
    · rename_i hne
      have : (a.put (some d) v).tmps.getD t undef = a.tmps.getD t undef := by simp [Act.put, Array.getElem?_setIfInBounds_ne hne]
      rw [this]; exact Rep.ext hx hn _ _ (h.slots t av' ht)

/-- A value comes into a temporary, the world stays. -/
theorem Rel.put0 (h : Rel P N c s a w) {dst : Option Nat} (hd : ∀ d, dst = some d → d < N) {av : AV} {v : Value} (hv : dst ≠ none → Rep P c w av v) :
    Rel P N c (s.put dst av) (a.put dst v) w := by
  have := h.put (av := av) (v := v) hd (Ext.refl _ c w) (Nat.le_refl _) rfl h.mem hv
  have e : ({ slots := s.slots, boxes := s.boxes, tips := s.tips, next := c.next : State }) = s := by rw [← h.next]
  rwa [e] at this

theorem Rel.del (h : Rel P N c s a w) (dst : Option Nat) (v : Value) : Rel P N c (s.del dst) (a.put dst v) w := by
  cases dst with
  | none => exact h
  | some d =>
    refine ⟨fun t av' ht => ?_, by simp [Act.put, h.size], h.marks, h.round, h.low, h.mem, h.next, h.floor⟩
    have ht' : (if d = t then none else look s.slots t) = some av' := ht
    split at ht'
    · cases ht'
    · rename_i hne
      have : (a.put (some d) v).tmps.getD t undef = a.tmps.getD t undef := by simp [Act.put, Array.getElem?_setIfInBounds_ne hne]
      rw [this]; exact h.slots t av' ht'

theorem boxAt_mem : ∀ {l : List (Nat × List AV)} {id : Nat} {cells : List AV}, boxAt l id = some cells → (id, cells) ∈ l
  | (i, v) :: l, id, cells, h => by
    simp only [boxAt] at h
    split at h
    · rename_i he; subst he
      simp only [unOb] at h
      split at h
      · cases h
      · simp at h; subst h; exact List.mem_cons_self
    · exact List.mem_cons_of_mem _ (boxAt_mem h)

theorem boxAt_ob : ∀ {l : List (Nat × List AV)} {id : Nat} {cells : List AV}, boxAt l id = some cells → obBox cells = false
  | (i, v) :: l, id, cells, h => by
    simp only [boxAt] at h
    split at h
    · simp only [unOb] at h
      split at h
      · cases h
      · rename_i hv; simp at h; subst h; simpa using hv
    · exact boxAt_ob h

theorem obAt_mem : ∀ {l : List (Nat × List AV)} {id : Nat} {x : AV}, obAt l id = some x → (id, [x]) ∈ l
  | (i, v) :: l, id, x, h => by
    simp only [obAt] at h
    split at h
    · rename_i he; subst he
      split at h
      · simp at h; subst h; exact List.mem_cons_self
      · cases h
    · exact List.mem_cons_of_mem _ (obAt_mem h)

theorem obAt_ob : ∀ {l : List (Nat × List AV)} {id : Nat} {x : AV}, obAt l id = some x → ∃ k cells, x = .ob k cells
  | (i, v) :: l, id, x, h => by
    simp only [obAt] at h
    split at h
    · split at h
      · simp at h; subst h; exact ⟨_, _, rfl⟩
      · cases h
    · exact obAt_ob h

theorem hasTip_mem : ∀ {l : List (Nat × TypeId)} {id : Nat} {e : TypeId}, hasTip l id e = true → (id, e) ∈ l
  | (i, v) :: l, id, e, h => by
    simp only [hasTip] at h
    split at h
    · rename_i he; subst he; have := eq_of_beq h; subst this; exact List.mem_cons_self
    · exact List.mem_cons_of_mem _ (hasTip_mem h)

theorem dropTip_sub : ∀ (l : List (Nat × TypeId)) (id : Nat), (dropTip l id).Sublist l
  | [], _ => List.Sublist.refl _
  | (i, v) :: l, id => by
    simp only [dropTip]
    split
    · exact List.sublist_cons_self _ _
    · exact (dropTip_sub l id).cons_cons _

theorem Mem.forget {boxes boxes' : List (Nat × List AV)} {tips tips' : List (Nat × TypeId)} (h : Mem P c boxes tips w) (hb : boxes'.Sublist boxes) (ht : tips'.Sublist tips) : Mem P c boxes' tips' w :=
  ⟨fun x hx => h.boxes x (hb.subset hx), h.apart.sublist hb, fun x hx => h.tips x (ht.subset hx), h.tapart.sublist ht, h.tids.sublist ht, fun x hx y hy => h.cross x (ht.subset hx) y (hb.subset hy), h.below, h.baseLe, h.plt, h.pold⟩

/-- The context of a new box at the heap's end. -/
def Ctx.newBox (c : Ctx) (b : Nat) : Ctx := { c with next := c.next + 1, β := fun i => if i = c.next then b else c.β i }
/-- The context of a new row: its slice, its cells. -/
def Ctx.newTip (c : Ctx) (v : Value) (prot : Nat → Nat → Prop) : Ctx := { c with next := c.next + 1, τ := fun i => if i = c.next then v else c.τ i, prot := prot }

theorem heap_alloc_lt (w : World) (o : Obj) {k : Nat} (h : k < w.heap.size) : (w.alloc o).heap[k]? = w.heap[k]? := heap_alloc_old w o k h

theorem Ext.newBox (c : Ctx) (w : World) (o : Obj) : Ext c.next c w (c.newBox w.heap.size) (w.alloc o) :=
  ⟨rfl, rfl, rfl, by simp, fun id hid => ⟨by simp [Ctx.newBox]; omega, rfl⟩, fun b j hb hp => ⟨hp, World.cell?_alloc_lt w _ ⟨b, j, none⟩ hb⟩, Stays.of_eq fun b hb => heap_alloc_lt w o hb, fun b es n _ hb => (heap_alloc_lt w o (heap_lt hb)).trans hb⟩

theorem Mem.newOb {boxes : List (Nat × List AV)} {tips : List (Nat × TypeId)} (h : Mem P c boxes tips w) {cells : List AV} {o : Obj} (hr : BoxRep P c w cells o) :
    Mem P (c.newBox w.heap.size) ((c.next, cells) :: boxes) tips (w.alloc o) := by
  have hx := Ext.newBox c w o
  have hβ : ∀ id, id < c.next → (c.newBox w.heap.size).β id = c.β id := fun id hid => (hx.ids id hid).1
  have hβn : (c.newBox w.heap.size).β c.next = w.heap.size := by simp [Ctx.newBox]
  have old : ∀ x ∈ boxes, BoxOK P (c.newBox w.heap.size) (w.alloc o) x.1 x.2 := fun x hm =>
    (h.boxes x hm).ext hx (Nat.le_succ _) (heap_alloc_lt w _ (h.boxes x hm).block_lt) fun j hj => hj
  refine ⟨?_, ?_, ?_, ?_, ?_, ?_, ?_, ?_, ?_, h.pold⟩
  · intro x hm
    rcases List.mem_cons.1 hm with rfl | hm
    · exact ⟨Nat.lt_succ_self _, by show c.base ≤ _; rw [hβn]; exact h.baseLe, fun j hj => by
        rw [hβn] at hj; exact absurd (h.plt _ _ hj) (Nat.lt_irrefl _), _, by rw [hβn]; exact heap_alloc_new w _, hr.ext hx (Nat.le_succ _)⟩
    · exact old x hm
  · refine List.pairwise_cons.2 ⟨fun y hy => ?_, h.apart.imp_of_mem fun {x y} hx' hy' hne => ?_⟩
    · rw [hβn, hβ _ (h.boxes y hy).lt]
      have := (h.boxes y hy).block_lt
      omega
    · rw [hβ _ (h.boxes x hx').lt, hβ _ (h.boxes y hy').lt]; exact hne
  · exact fun x hm => (h.tips x hm).ext hx (Nat.le_succ _) (fun g hg => heap_alloc_lt w _ ((h.tips x hm).block_lt hg).1) fun g j _ hj => hj
  · exact h.tapart
  · exact h.tids
  · intro x hm y hy
    rcases List.mem_cons.1 hy with rfl | hy
    · show (c.τ x.1).ownBlock ≠ _
      rw [hβn]
      intro he
      have := ((h.tips x hm).block_lt he).1
      omega
    · show (c.τ x.1).ownBlock ≠ _
      rw [hβ _ (h.boxes y hy).lt]
      exact h.cross x hm y hy
  · exact h.below.alloc h.baseLe _
  · have := h.baseLe; simp [Ctx.newBox]; omega
  · intro b j hj
    have := h.plt b j hj
    simp; omega

theorem Mem.newBox {boxes : List (Nat × List AV)} {tips : List (Nat × TypeId)} (h : Mem P c boxes tips w) {cells : List AV} {arr : Array Value} (t : TypeId) (hr : RepL P c w cells arr.toList) :
    Mem P (c.newBox w.heap.size) ((c.next, cells) :: boxes) tips (w.alloc (.cells arr t (0, 0))) := h.newOb (.inl ⟨arr, t, rfl, by rw [List.take_of_length_le (by have := hr.length; omega)]; exact hr⟩)

theorem setBox_mem : ∀ {l : List (Nat × List AV)} {id : Nat} {cells : List AV} {x : Nat × List AV}, x ∈ setBox l id cells → (x = (id, cells) ∧ ∃ old, (id, old) ∈ l) ∨ x ∈ l
  | (i, v) :: l, id, cells, x, h => by
    simp only [setBox] at h
    split at h
    · rename_i he; subst he
      rcases List.mem_cons.1 h with rfl | h
      · exact .inl ⟨rfl, v, List.mem_cons_self⟩
      · exact .inr (List.mem_cons_of_mem _ h)
    · rcases List.mem_cons.1 h with rfl | h
      · exact .inr List.mem_cons_self
      · rcases setBox_mem h with ⟨h1, old, h2⟩ | h1
        · exact .inl ⟨h1, old, List.mem_cons_of_mem _ h2⟩
        · exact .inr (List.mem_cons_of_mem _ h1)

theorem setBox_fst : ∀ (l : List (Nat × List AV)) (id : Nat) (cells : List AV), (setBox l id cells).map (·.1) = l.map (·.1)
  | [], _, _ => rfl
  | (i, v) :: l, id, cells => by
    simp only [setBox]
    split
    · simp
    · simp [setBox_fst l id cells]
end
end Go.Ab
