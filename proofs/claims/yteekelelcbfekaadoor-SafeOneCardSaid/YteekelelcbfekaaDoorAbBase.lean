/-
The abstract values of the machine: what a value stands for in a world. Conditions: none.
-/
import Derived.Test.YteekelelcbfekaaDoorAbDefs
set_option linter.unusedSimpArgs false
set_option linter.unusedVariables false
set_option linter.unusedSectionVars false
namespace Go.Ab
open Go Go.RowKit

/-- What a loop over a function keeps of the frame that it stands in. -/
structure LInfo where
  ntmps : Nat
  ks : List Nat
  ps : List Nat
  assign : ACode
  body : ACode
  st : LoopState
  pend : Option Code
deriving Inhabited

/-- Objects of the heap that are no cells. -/
inductive OK where
  | loop (i : LInfo)
  | map (k e : TypeId) (n : Nat)
  | iter (s : ByteArray) (pos : Nat)
  | miter (seen : List Nat) (since last : Nat)
deriving Inhabited

/-- Values that name such an object. -/
inductive RK where
  | yield
  | map
  | iter
  | row (e : TypeId) (sz off n : Nat)
  | var (e : TypeId) (n : Nat)
deriving Inhabited, DecidableEq

/-- Values that are made of others, and stay what they are: a map that nobody writes, an interface's value. -/
inductive VK where
  | map (n : Nat)
  | iface (t : TypeId)
  | wrap
deriving Inhabited, DecidableEq

inductive AV where
  | lit (v : Value)
  | sl (e : TypeId) (els : List (List Value)) (tip : Option Nat)
  | ep (cells : List AV)
  | bp (id off : Nat)
  | fn (f : Fn) (first cap : List AV)
  | ag (cells : List AV)
  | tu (vs : List AV)
  | sn (e : TypeId) (els : List AV)
  | ob (k : OK) (cells : List AV)
  | rf (k : RK) (id : Nat)
  | vx (k : VK) (l : List AV)
deriving Inhabited

/-- A frame: what is named below lim is not its own; its world began with low blocks; the round that it is of. -/
structure Floor where
  lim : Nat
  low : Nat
  round : Option Nat

structure Ctx where
  base : Nat
  w0 : World
  floor : Floor
  next : Nat
  β : Nat → Nat
  τ : Nat → Value
  prot : Nat → Nat → Prop
  p0 : Nat → Nat → Prop

/-- Cells that can be read, and that nobody writes. -/
def Reads (c : Ctx) (w : World) (b off : Nat) (cells : List Value) : Prop :=
  ∀ j v, cells[j]? = some v → c.prot b (off + j) ∧ w.cell? ⟨b, off + j, none⟩ = some v

def Els (P : Program) (e : TypeId) (els : List (List Value)) : Prop := ∀ x ∈ els, x.length = P.cellsOf e ∧ ∀ u ∈ x, u.oneCell' = true

def RepSl (P : Program) (c : Ctx) (w : World) (e : TypeId) (els : List (List Value)) (v : Value) : Prop :=
  ∃ a cap, v = .slice a els.length cap ∧ els.length ≤ cap ∧ Els P e els ∧
    (els = [] ∨ ∃ b off, a = some ⟨b, off, none⟩ ∧ Reads c w b off els.flatten)

/-- The value that names a block. -/
def refV : RK → Nat → Value
  | .yield, l => .func (.yield l) #[] #[]
  | .map, l => .map (some l)
  | .iter, l => .pointer (some ⟨l, 0, none⟩)
  | .row _ _ _ _, _ => undef
  | .var _ _, _ => undef

/-- What names a block: a row that may be written is known by its block, its place and its length. -/
def RefOK (P : Program) (w : World) : RK → Nat → Value → Prop
  | .row e sz off n, l, v => ∃ o cap arr, v = .slice (some ⟨l, o, none⟩) n cap ∧ (o = off ∨ cap = 0) ∧ n ≤ cap ∧ cap ≤ maxLen ∧ sz = P.cellsOf e ∧ 0 < sz ∧ (∃ f, w.heap[l]? = some (.cells arr e f)) ∧ o + cap * sz ≤ arr.size ∧ (off = 0 → o = 0 ∧ arr.size = cap * sz)
  | .var e n, l, v => ∃ arr, v = .pointer (some ⟨l, 0, none⟩) ∧ (∃ f, w.heap[l]? = some (.cells arr e f)) ∧ arr.size = n
  | .yield, l, v => v = refV .yield l
  | .map, l, v => v = refV .map l
  | .iter, l, v => v = refV .iter l

/-- What such a value is made of. -/
def VRep (c : Ctx) (w : World) : VK → List Value → Value → Prop
  | .map n, vs, v => ∃ r es, v = .map (some r) ∧ c.prot r 0 ∧ w.heap[r]? = some (.map es n) ∧ es.size = n ∧ vs = es.toList.flatMap (fun e => [e.key, e.val]) ∧ ∀ (i : Nat) (e : MapEntry), es[i]? = some e → e.born = i
  | .iface t, vs, v => ∃ x, v = .iface t x ∧ vs = [x]
  | .wrap, vs, v => vs = [v] ∧ ∃ a n cap, v = .slice a n cap

mutual
def Rep (P : Program) (c : Ctx) (w : World) : AV → Value → Prop
  | .lit x, v => v = x
  | .sl e els tip, v => RepSl P c w e els v ∧ ∀ id, tip = some id → id < c.next ∧ c.τ id = v
  | .ep cells, v => ∃ b off vs, v = .pointer (some ⟨b, off, none⟩) ∧ Reads c w b off vs ∧ RepL P c w cells vs
  | .bp id off, v => id < c.next ∧ v = .pointer (some ⟨c.β id, off, none⟩)
  | .fn f first cap, v => ∃ a1 a2 : Array Value, v = .func f a1 a2 ∧ RepL P c w first a1.toList ∧ RepL P c w cap a2.toList
  | .ag l, v => ∃ a : Array Value, v = .agg a ∧ RepL P c w l a.toList
  | .tu l, v => ∃ a : Array Value, v = .tuple a ∧ RepL P c w l a.toList
  | .sn e l, v => ∃ a cap vs, v = .slice a l.length cap ∧ l.length ≤ cap ∧ P.cellsOf e = 1 ∧ RepL P c w l vs ∧ (l = [] ∨ ∃ b off, a = some ⟨b, off, none⟩ ∧ Reads c w b off vs)
  | .ob _ _, _ => False
  | .rf k id, v => id < c.next ∧ RefOK P w k (c.β id) v
  | .vx k l, v => ∃ vs, VRep c w k vs v ∧ RepL P c w l vs
def RepL (P : Program) (c : Ctx) (w : World) : List AV → List Value → Prop
  | [], vs => vs = []
  | x :: xs, vs => ∃ v vs', vs = v :: vs' ∧ Rep P c w x v ∧ RepL P c w xs vs'
end

/-- Objects that stay what they are. -/
def Stays (w w' : World) : Prop := ∀ b, b < w.heap.size → (∀ r, w.heap[b]? = some (.loop r) → ∃ r', w'.heap[b]? = some (.loop r')) ∧ (w.heap[b]? = some (.deferred (some [])) → w'.heap[b]? = some (.deferred (some []))) ∧
  ∀ arr t f, w.heap[b]? = some (.cells arr t f) → ∃ arr' f', w'.heap[b]? = some (.cells arr' t f') ∧ arr'.size = arr.size

theorem Stays.refl (w : World) : Stays w w := fun _ _ => ⟨fun r h => ⟨r, h⟩, id, fun arr _ f h => ⟨arr, f, h, rfl⟩⟩
theorem Stays.trans {w w' w'' : World} (h : Stays w w') (hs : w.heap.size ≤ w'.heap.size) (k : Stays w' w'') : Stays w w'' := fun b hb =>
  ⟨fun r hr => by obtain ⟨r', h'⟩ := (h b hb).1 r hr; exact (k b (Nat.lt_of_lt_of_le hb hs)).1 r' h', fun hr => (k b (Nat.lt_of_lt_of_le hb hs)).2.1 ((h b hb).2.1 hr),
    fun arr t f hr => by
      obtain ⟨a1, f1, h1, h2⟩ := (h b hb).2.2 arr t f hr
      obtain ⟨a2, f2, k1, k2⟩ := (k b (Nat.lt_of_lt_of_le hb hs)).2.2 a1 t f1 h1
      exact ⟨a2, f2, k1, k2.trans h2⟩⟩
theorem Stays.of_eq {w w' : World} (h : ∀ b, b < w.heap.size → w'.heap[b]? = w.heap[b]?) : Stays w w' := fun b hb => ⟨fun r hr => ⟨r, (h b hb).trans hr⟩, fun hr => (h b hb).trans hr, fun arr _ f hr => ⟨arr, f, (h b hb).trans hr, rfl⟩⟩
theorem Stays.of_one {w w' : World} {g : Nat} {arr arr' : Array Value} {t : TypeId} {fr fr' : Nat × Nat} (hg : w.heap[g]? = some (.cells arr t fr)) (hg' : w'.heap[g]? = some (.cells arr' t fr')) (hs : arr'.size = arr.size) (h : ∀ b, b < w.heap.size → b ≠ g → w'.heap[b]? = w.heap[b]?) : Stays w w' := fun b hb => by
  by_cases he : b = g
  · subst he
    refine ⟨fun r hr => by rw [hg] at hr; simp at hr, fun hr => by rw [hg] at hr; simp at hr, fun a1 t1 f1 hr => ?_⟩
    rw [hg] at hr
    simp only [Option.some.injEq, Obj.cells.injEq] at hr
    obtain ⟨rfl, rfl, rfl⟩ := hr
    exact ⟨arr', _, hg', hs⟩
  · exact ⟨fun r hr => ⟨r, (h b hb he).trans hr⟩, fun hr => (h b hb he).trans hr, fun a1 _ f hr => ⟨a1, f, (h b hb he).trans hr, rfl⟩⟩

/-- What holds of one world goes on to hold in the other. -/
structure Ext (n : Nat) (c : Ctx) (w : World) (c' : Ctx) (w' : World) : Prop where
  base : c'.base = c.base
  w0 : c'.w0 = c.w0
  p0 : c'.p0 = c.p0
  size : w.heap.size ≤ w'.heap.size
  ids : ∀ id, id < n → c'.β id = c.β id ∧ c'.τ id = c.τ id
  keep : ∀ b j, b < w.heap.size → c.prot b j → c'.prot b j ∧ w'.cell? ⟨b, j, none⟩ = w.cell? ⟨b, j, none⟩
  stays : Stays w w'
  maps : ∀ b es n, c.prot b 0 → w.heap[b]? = some (.map es n) → w'.heap[b]? = some (.map es n)

theorem Ext.refl (n : Nat) (c : Ctx) (w : World) : Ext n c w c w := ⟨rfl, rfl, rfl, Nat.le_refl _, fun _ _ => ⟨rfl, rfl⟩, fun _ _ _ h => ⟨h, rfl⟩, Stays.refl w, fun _ _ _ _ h => h⟩
theorem Ext.trans {n : Nat} {c c' c'' : Ctx} {w w' w'' : World} (h : Ext n c w c' w') (k : Ext n c' w' c'' w'') : Ext n c w c'' w'' :=
  ⟨k.base.trans h.base, k.w0.trans h.w0, k.p0.trans h.p0, Nat.le_trans h.size k.size, fun id hi => ⟨(k.ids id hi).1.trans (h.ids id hi).1, (k.ids id hi).2.trans (h.ids id hi).2⟩,
    fun b j hb hp => ⟨(k.keep b j (Nat.lt_of_lt_of_le hb h.size) (h.keep b j hb hp).1).1, ((k.keep b j (Nat.lt_of_lt_of_le hb h.size) (h.keep b j hb hp).1).2).trans (h.keep b j hb hp).2⟩, h.stays.trans h.size k.stays, fun b es n hp hb => k.maps b es n (h.keep b 0 (Array.getElem?_eq_some_iff.1 hb).1 hp).1 (h.maps b es n hp hb)⟩
theorem Ext.mono {n m : Nat} {c c' : Ctx} {w w' : World} (h : Ext n c w c' w') (hm : m ≤ n) : Ext m c w c' w' :=
  ⟨h.base, h.w0, h.p0, h.size, fun id hi => h.ids id (Nat.lt_of_lt_of_le hi hm), h.keep, h.stays, h.maps⟩

section
variable {P : Program} {c c' : Ctx} {w w' : World} {n : Nat}

theorem Reads.lt {b off : Nat} {cells : List Value} (h : Reads c w b off cells) {j : Nat} {v : Value} (hj : cells[j]? = some v) : b < w.heap.size :=
  World.block_lt_of_cell? w ⟨b, off + j, none⟩ (h j v hj).2

theorem Reads.ext {b off : Nat} {cells : List Value} (h : Reads c w b off cells) (hx : Ext n c w c' w') : Reads c' w' b off cells := fun j v hj => by
  obtain ⟨h1, h2⟩ := h j v hj
  have hb := h.lt hj
  exact ⟨(hx.keep b _ hb h1).1, (hx.keep b _ hb h1).2.trans h2⟩

theorem Reads.nil (b off : Nat) : Reads c w b off [] := fun j v hj => by simp at hj

theorem Reads.drop {b off : Nat} {cells : List Value} (h : Reads c w b off cells) (k : Nat) : Reads c w b (off + k) (cells.drop k) := fun j v hj => by
  rw [List.getElem?_drop] at hj
  have := h (k + j) v hj
  rw [Nat.add_assoc]
  exact this

theorem Reads.take {b off : Nat} {cells : List Value} (h : Reads c w b off cells) (k : Nat) : Reads c w b off (cells.take k) := fun j v hj => by
  rw [List.getElem?_take] at hj
  split at hj
  · exact h j v hj
  · simp at hj

/-- What is read in one world is read in the other; names stay. -/
structure Moves (c : Ctx) (w : World) (c' : Ctx) (w' : World) : Prop where
  reads : ∀ b off cells, Reads c w b off cells → Reads c' w' b off cells
  ids : ∀ id, id < c.next → c'.β id = c.β id ∧ c'.τ id = c.τ id
  le : c.next ≤ c'.next
  rows : ∀ (b : Nat) (arr : Array Value) (t : TypeId) (f : Nat × Nat), w.heap[b]? = some (.cells arr t f) → ∃ arr' f', w'.heap[b]? = some (.cells arr' t f') ∧ arr'.size = arr.size
  maps : ∀ b es n, c.prot b 0 → w.heap[b]? = some (.map es n) → c'.prot b 0 ∧ w'.heap[b]? = some (.map es n)

theorem Ext.moves (hx : Ext c.next c w c' w') (hn : c.next ≤ c'.next) : Moves c w c' w' := ⟨fun _ _ _ h => h.ext hx, hx.ids, hn, fun b arr t f h => (hx.stays b (Array.getElem?_eq_some_iff.1 h).1).2.2 arr t f h, fun b es n hp hb => ⟨(hx.keep b 0 (Array.getElem?_eq_some_iff.1 hb).1 hp).1, hx.maps b es n hp hb⟩⟩

theorem VRep.move (hM : ∀ b es n, c.prot b 0 → w.heap[b]? = some (.map es n) → c'.prot b 0 ∧ w'.heap[b]? = some (.map es n)) {k : VK} {vs : List Value} {v : Value} (h : VRep c w k vs v) : VRep c' w' k vs v := by
  cases k with
  | map n =>
    obtain ⟨r, es, h1, h2, h3, h4⟩ := h
    exact ⟨r, es, h1, (hM _ _ _ h2 h3).1, (hM _ _ _ h2 h3).2, h4⟩
  | iface t => exact h
  | wrap => exact h

theorem RefOK.move (m : ∀ (b : Nat) (arr : Array Value) (t : TypeId) (f : Nat × Nat), w.heap[b]? = some (.cells arr t f) → ∃ arr' f', w'.heap[b]? = some (.cells arr' t f') ∧ arr'.size = arr.size) {k : RK} {l : Nat} {v : Value} (h : RefOK P w k l v) : RefOK P w' k l v := by
  cases k <;> try exact h
  obtain ⟨o, cap, arr, h1, h2, h3, h4, h5, h6, ⟨f, h7⟩, h8, h9⟩ := h
  obtain ⟨arr', f', g1, g2⟩ := m _ _ _ _ h7
  exact ⟨o, cap, arr', h1, h2, h3, h4, h5, h6, ⟨f', g1⟩, by rw [g2]; exact h8, by rw [g2]; exact h9⟩
  obtain ⟨arr, h1, ⟨f, h2⟩, h3⟩ := h
  obtain ⟨arr', f', g1, g2⟩ := m _ _ _ _ h2
  exact ⟨arr', h1, ⟨f', g1⟩, g2.trans h3⟩

theorem RepSl.move {e : TypeId} {els : List (List Value)} {v : Value} (h : RepSl P c w e els v) (hR : ∀ b off cells, Reads c w b off cells → Reads c' w' b off cells) : RepSl P c' w' e els v := by
  obtain ⟨a, cap, h1, h2, h3, h4⟩ := h
  refine ⟨a, cap, h1, h2, h3, ?_⟩
  rcases h4 with h4 | ⟨b, off, h4, h5⟩
  · exact .inl h4
  · exact .inr ⟨b, off, h4, hR _ _ _ h5⟩
theorem RepSl.ext {e : TypeId} {els : List (List Value)} {v : Value} (h : RepSl P c w e els v) (hx : Ext n c w c' w') : RepSl P c' w' e els v := h.move fun _ _ _ h => h.ext hx

mutual
theorem Rep.move (m : Moves c w c' w') : ∀ (av : AV) (v : Value), Rep P c w av v → Rep P c' w' av v
  | .lit x, v, h => by simpa [Rep] using h
  | .sl e els tip, v, h => by
    simp only [Rep] at h ⊢
    exact ⟨h.1.move m.reads, fun id hid => ⟨Nat.lt_of_lt_of_le (h.2 id hid).1 m.le, ((m.ids id (h.2 id hid).1).2).trans (h.2 id hid).2⟩⟩
  | .ep cells, v, h => by
    simp only [Rep] at h ⊢
    obtain ⟨b, off, vs, h1, h2, h3⟩ := h
    exact ⟨b, off, vs, h1, m.reads _ _ _ h2, RepL.move m _ _ h3⟩
  | .bp id off, v, h => by
    simp only [Rep] at h ⊢
    exact ⟨Nat.lt_of_lt_of_le h.1 m.le, by rw [(m.ids id h.1).1]; exact h.2⟩
  | .fn f first cap, v, h => by
    simp only [Rep] at h ⊢
    obtain ⟨a1, a2, h1, h2, h3⟩ := h
    exact ⟨a1, a2, h1, RepL.move m _ _ h2, RepL.move m _ _ h3⟩
  | .ag l, v, h => by
    simp only [Rep] at h ⊢
    obtain ⟨a, h1, h2⟩ := h
    exact ⟨a, h1, RepL.move m _ _ h2⟩
  | .tu l, v, h => by
    simp only [Rep] at h ⊢
    obtain ⟨a, h1, h2⟩ := h
    exact ⟨a, h1, RepL.move m _ _ h2⟩
  | .sn e l, v, h => by
    simp only [Rep] at h ⊢
    obtain ⟨a, cap, vs, h1, h2, h3, h4, h5⟩ := h
    exact ⟨a, cap, vs, h1, h2, h3, RepL.move m _ _ h4, h5.imp id fun ⟨b, off, h6, h7⟩ => ⟨b, off, h6, m.reads _ _ _ h7⟩⟩
  | .ob k l, v, h => by simp only [Rep] at h
  | .rf k id, v, h => by
    simp only [Rep] at h ⊢
    exact ⟨Nat.lt_of_lt_of_le h.1 m.le, by rw [(m.ids id h.1).1]; exact h.2.move m.rows⟩
  | .vx k l, v, h => by
    simp only [Rep] at h ⊢
    obtain ⟨vs, h1, h2⟩ := h
    exact ⟨vs, h1.move m.maps, RepL.move m _ _ h2⟩
theorem RepL.move (m : Moves c w c' w') : ∀ (l : List AV) (vs : List Value), RepL P c w l vs → RepL P c' w' l vs
  | [], vs, h => by simpa [RepL] using h
  | x :: xs, vs, h => by
    simp only [RepL] at h ⊢
    obtain ⟨v, vs', h1, h2, h3⟩ := h
    exact ⟨v, vs', h1, Rep.move m _ _ h2, RepL.move m _ _ h3⟩
end

theorem Rep.ext (hx : Ext c.next c w c' w') (hn : c.next ≤ c'.next) (av : AV) (v : Value) (h : Rep P c w av v) : Rep P c' w' av v := Rep.move (hx.moves hn) av v h
theorem RepL.ext (hx : Ext c.next c w c' w') (hn : c.next ≤ c'.next) (l : List AV) (vs : List Value) (h : RepL P c w l vs) : RepL P c' w' l vs := RepL.move (hx.moves hn) l vs h

theorem RepL.length : ∀ {l : List AV} {vs : List Value}, RepL P c w l vs → vs.length = l.length
  | [], vs, h => by simp only [RepL] at h; simp [h]
  | x :: xs, vs, h => by
    simp only [RepL] at h
    obtain ⟨v, vs', rfl, _, h3⟩ := h
    simp [RepL.length h3]

theorem RepL.get : ∀ {l : List AV} {vs : List Value}, RepL P c w l vs → ∀ {i : Nat} {av : AV}, l[i]? = some av → ∃ v, vs[i]? = some v ∧ Rep P c w av v
  | [], vs, h, i, av, hi => by simp at hi
  | x :: xs, vs, h, i, av, hi => by
    simp only [RepL] at h
    obtain ⟨v, vs', rfl, h2, h3⟩ := h
    cases i with
    | zero => simp at hi; subst hi; exact ⟨v, rfl, h2⟩
    | succ i => simpa using RepL.get h3 (by simpa using hi)

theorem RepL.append : ∀ {l l' : List AV} {vs vs' : List Value}, RepL P c w l vs → RepL P c w l' vs' → RepL P c w (l ++ l') (vs ++ vs')
  | [], l', vs, vs', h, h' => by simp only [RepL] at h; subst h; simpa using h'
  | x :: xs, l', vs, vs', h, h' => by
    simp only [RepL] at h
    obtain ⟨v, us, rfl, h2, h3⟩ := h
    simp only [List.cons_append, RepL]
    exact ⟨v, us ++ vs', rfl, h2, RepL.append h3 h'⟩

theorem RepL.drop : ∀ (k : Nat) {l : List AV} {vs : List Value}, RepL P c w l vs → RepL P c w (l.drop k) (vs.drop k)
  | 0, l, vs, h => by simpa using h
  | k + 1, [], vs, h => by simp only [RepL] at h; subst h; simp [RepL]
  | k + 1, x :: xs, vs, h => by
    simp only [RepL] at h
    obtain ⟨v, us, rfl, h2, h3⟩ := h
    simpa using RepL.drop k h3

theorem RepL.take : ∀ (k : Nat) {l : List AV} {vs : List Value}, RepL P c w l vs → RepL P c w (l.take k) (vs.take k)
  | 0, l, vs, h => by simp [RepL]
  | k + 1, [], vs, h => by simp only [RepL] at h; subst h; simp [RepL]
  | k + 1, x :: xs, vs, h => by
    simp only [RepL] at h
    obtain ⟨v, us, rfl, h2, h3⟩ := h
    simp only [List.take_succ_cons, RepL]
    exact ⟨v, us.take k, rfl, h2, RepL.take k h3⟩

theorem RepL.set : ∀ {l : List AV} {vs : List Value} (i : Nat) {av : AV} {v : Value}, RepL P c w l vs → Rep P c w av v → RepL P c w (l.set i av) (vs.set i v)
  | [], vs, i, av, v, h, h' => by simp only [RepL] at h; subst h; simp [RepL]
  | x :: xs, vs, i, av, v, h, h' => by
    simp only [RepL] at h
    obtain ⟨u, us, rfl, h2, h3⟩ := h
    cases i with
    | zero => simp only [List.set_cons_zero, RepL]; exact ⟨v, us, rfl, h', h3⟩
    | succ i => simp only [List.set_cons_succ, RepL]; exact ⟨u, us.set i v, rfl, h2, RepL.set i h3 h'⟩

theorem RepL.lits : ∀ (vs : List Value), RepL P c w (vs.map AV.lit) vs
  | [] => by simp [RepL]
  | v :: vs => by simp only [List.map_cons, RepL]; exact ⟨v, vs, rfl, by simp [Rep], RepL.lits vs⟩

theorem RepL.of_lits : ∀ {l : List Value} {vs : List Value}, RepL P c w (l.map AV.lit) vs → vs = l
  | [], vs, h => by simpa [RepL] using h
  | v :: l, vs, h => by
    simp only [List.map_cons, RepL, Rep] at h
    obtain ⟨u, us, rfl, rfl, h3⟩ := h
    rw [RepL.of_lits h3]
end
end Go.Ab
