/-
Calls that are handed variables of the caller's, by their addresses: closures and what they have captured. Conditions: none.
-/
import Derived.Test.YteekelelcbfekaaDoorAbStep
set_option linter.unusedSimpArgs false
set_option linter.unusedVariables false
set_option linter.unusedSectionVars false
namespace Go.Ab
open Go Go.RowKit

mutual
/-- What a callee that only reads sees of a value: a variable's address is the address of cells that stay. -/
def AV.see (bx : List (Nat × List AV)) : AV → Option AV
  | .lit v => some (.lit v)
  | .sl e els _ => some (.sl e els none)
  | .ep cells => match AV.eraseL cells with
    | some a => some (.ep a)
    | none => none
  | .bp id off => match boxAt bx id with
    | some cells => match AV.eraseL (cells.drop off) with
      | some a => some (.ep a)
      | none => none
    | none => none
  | .fn f first cap => match AV.seeL bx first, AV.seeL bx cap with
    | some a, some b => some (.fn f a b)
    | _, _ => none
  | .ag l => match AV.seeL bx l with
    | some a => some (.ag a)
    | none => none
  | .tu l => match AV.seeL bx l with
    | some a => some (.tu a)
    | none => none
  | .sn e l => match AV.eraseL l with
    | some a => some (.sn e a)
    | none => none
  | .ob _ _ => none
  | .rf _ _ => none
  | .vx k l => match AV.eraseL l with
    | some a => some (.vx k a)
    | none => none
def AV.seeL (bx : List (Nat × List AV)) : List AV → Option (List AV)
  | [] => some []
  | x :: xs => match x.see bx, AV.seeL bx xs with
    | some a, some b => some (a :: b)
    | _, _ => none
end

mutual
/-- It names no memory. -/
def AV.plain : AV → Bool
  | .lit _ => true
  | .sl _ _ _ => false
  | .ep _ => false
  | .bp _ _ => false
  | .fn _ first cap => AV.plainL first && AV.plainL cap
  | .ag l => AV.plainL l
  | .tu l => AV.plainL l
  | .sn _ _ => false
  | .ob _ _ => false
  | .rf _ _ => false
  | .vx (.map _) _ => false
  | .vx (.iface _) l => AV.plainL l
  | .vx .wrap _ => false
def AV.plainL : List AV → Bool
  | [] => true
  | x :: xs => x.plain && AV.plainL xs
end

def seenProt (c : Ctx) (bx : List (Nat × List AV)) (b j : Nat) : Prop := c.prot b j ∨ ∃ x ∈ bx, c.β x.1 = b

section
variable {P : Program} {N F : Nat} {c c' : Ctx} {w w' : World} {s : State} {a : Act} {bx : List (Nat × List AV)} {tp : List (Nat × TypeId)}

theorem Reads.more {p : Nat → Nat → Prop} (hp : ∀ b j, c.prot b j → p b j) {b off : Nat} {cells : List Value} (h : Reads c w b off cells) : Reads (topC w p) w b off cells := fun j v hj => ⟨hp _ _ (h j v hj).1, (h j v hj).2⟩

mutual
theorem Rep.eraseTo {p : Nat → Nat → Prop} (hp : ∀ b j, c.prot b j → p b j) : ∀ (av : AV) (v : Value) {av' : AV}, Rep P c w av v → av.erase = some av' → Rep P (topC w p) w av' v
  | .lit x, v, av', h, he => by simp only [AV.erase, Option.some.injEq] at he; subst he; simpa [Rep] using h
  | .sl e els tip, v, av', h, he => by
    simp only [AV.erase, Option.some.injEq] at he; subst he
    simp only [Rep] at h ⊢
    obtain ⟨⟨a, cap, h1, h2, h3, h4⟩, _⟩ := h
    exact ⟨⟨a, cap, h1, h2, h3, h4.imp id fun ⟨b, off, h5, h6⟩ => ⟨b, off, h5, h6.more hp⟩⟩, fun id hid => by cases hid⟩
  | .ep cells, v, av', h, he => by
    simp only [AV.erase] at he
    split at he
    · rename_i x hx
      simp only [Option.some.injEq] at he; subst he
      simp only [Rep] at h ⊢
      obtain ⟨b, off, vs, h1, h2, h3⟩ := h
      exact ⟨b, off, vs, h1, h2.more hp, RepL.eraseTo hp _ _ h3 hx⟩
    · cases he
  | .bp id off, v, av', h, he => by simp [AV.erase] at he
  | .fn f first cap, v, av', h, he => by
    simp only [AV.erase] at he
    split at he
    · rename_i x y hx hy
      simp only [Option.some.injEq] at he; subst he
      simp only [Rep] at h ⊢
      obtain ⟨a1, a2, h1, h2, h3⟩ := h
      exact ⟨a1, a2, h1, RepL.eraseTo hp _ _ h2 hx, RepL.eraseTo hp _ _ h3 hy⟩
    · cases he
  | .ag l, v, av', h, he => by
    simp only [AV.erase] at he
    split at he
    · rename_i x hx
      simp only [Option.some.injEq] at he; subst he
      simp only [Rep] at h ⊢
      obtain ⟨a1, h1, h2⟩ := h
      exact ⟨a1, h1, RepL.eraseTo hp _ _ h2 hx⟩
    · cases he
  | .tu l, v, av', h, he => by
    simp only [AV.erase] at he
    split at he
    · rename_i x hx
      simp only [Option.some.injEq] at he; subst he
      simp only [Rep] at h ⊢
      obtain ⟨a1, h1, h2⟩ := h
      exact ⟨a1, h1, RepL.eraseTo hp _ _ h2 hx⟩
    · cases he
  | .sn e l, v, av', h, he => by
    simp only [AV.erase] at he
    split at he
    · rename_i x hx
      simp only [Option.some.injEq] at he; subst he
      simp only [Rep] at h ⊢
      obtain ⟨a, cap, vs, h1, h2, h3, h4, h5⟩ := h
      have hl := eraseL_length hx
      exact ⟨a, cap, vs, by rw [hl]; exact h1, by rw [hl]; exact h2, h3, RepL.eraseTo hp _ _ h4 hx, by
        rcases h5 with h5 | ⟨b, off, h6, h7⟩
        · subst h5; left; exact List.eq_nil_of_length_eq_zero hl
        · exact .inr ⟨b, off, h6, h7.more hp⟩⟩
    · cases he
  | .ob _ _, v, av', h, he => by simp [AV.erase] at he
  | .rf _ _, v, av', h, he => by simp [AV.erase] at he
  | .vx k l, v, av', h, he => by
    simp only [AV.erase] at he
    split at he
    · rename_i x hx
      simp only [Option.some.injEq] at he; subst he
      simp only [Rep] at h ⊢
      obtain ⟨vs, h1, h2⟩ := h
      exact ⟨vs, h1.move fun _ _ _ hq hb => ⟨hp _ _ hq, hb⟩, RepL.eraseTo hp _ _ h2 hx⟩
    · cases he
theorem RepL.eraseTo {p : Nat → Nat → Prop} (hp : ∀ b j, c.prot b j → p b j) : ∀ (l : List AV) (vs : List Value) {l' : List AV}, RepL P c w l vs → AV.eraseL l = some l' → RepL P (topC w p) w l' vs
  | [], vs, l', h, he => by simp only [AV.eraseL, Option.some.injEq] at he; subst he; simpa [RepL] using h
  | x :: xs, vs, l', h, he => by
    simp only [AV.eraseL] at he
    split at he
    · rename_i y ys hy hys
      simp only [Option.some.injEq] at he; subst he
      simp only [RepL] at h ⊢
      obtain ⟨v, vs', h1, h2, h3⟩ := h
      exact ⟨v, vs', h1, Rep.eraseTo hp _ _ h2 hy, RepL.eraseTo hp _ _ h3 hys⟩
    · cases he
end

mutual
theorem Rep.see (hm : Mem P c bx tp w) : ∀ (av : AV) (v : Value) {av' : AV}, Rep P c w av v → av.see bx = some av' → Rep P (topC w (seenProt c bx)) w av' v
  | .lit x, v, av', h, he => by simp only [AV.see, Option.some.injEq] at he; subst he; simpa [Rep] using h
  | .sl e els tip, v, av', h, he => by
    simp only [AV.see, Option.some.injEq] at he; subst he
    exact Rep.eraseTo (fun _ _ h => .inl h) (.sl e els tip) v h rfl
  | .ep cells, v, av', h, he => Rep.eraseTo (fun _ _ h => .inl h) (.ep cells) v h he
  | .bp id off, v, av', h, he => by
    simp only [AV.see] at he
    split at he
    · rename_i cells hb
      split at he
      · rename_i x hx
        simp only [Option.some.injEq] at he; subst he
        simp only [Rep] at h ⊢
        obtain ⟨arr, t, hrow, hrep⟩ := box_load hm hb
        refine ⟨c.β id, off, (arr.toList.take cells.length).drop off, h.2, fun j v hj => ⟨.inr ⟨_, boxAt_mem hb, rfl⟩, ?_⟩, RepL.eraseTo (fun _ _ h => .inl h) _ _ (hrep.drop off) hx⟩
        rw [cell_of_row w _ (off + j) arr t _ hrow]
        rw [List.getElem?_drop, List.getElem?_take] at hj
        split at hj
        · simpa using hj
        · cases hj
      · cases he
    · cases he
  | .fn f first cap, v, av', h, he => by
    simp only [AV.see] at he
    split at he
    · rename_i x y hx hy
      simp only [Option.some.injEq] at he; subst he
      simp only [Rep] at h ⊢
      obtain ⟨a1, a2, h1, h2, h3⟩ := h
      exact ⟨a1, a2, h1, RepL.see hm _ _ h2 hx, RepL.see hm _ _ h3 hy⟩
    · cases he
  | .ag l, v, av', h, he => by
    simp only [AV.see] at he
    split at he
    · rename_i x hx
      simp only [Option.some.injEq] at he; subst he
      simp only [Rep] at h ⊢
      obtain ⟨a1, h1, h2⟩ := h
      exact ⟨a1, h1, RepL.see hm _ _ h2 hx⟩
    · cases he
  | .tu l, v, av', h, he => by
    simp only [AV.see] at he
    split at he
    · rename_i x hx
      simp only [Option.some.injEq] at he; subst he
      simp only [Rep] at h ⊢
      obtain ⟨a1, h1, h2⟩ := h
      exact ⟨a1, h1, RepL.see hm _ _ h2 hx⟩
    · cases he
  | .sn e l, v, av', h, he => Rep.eraseTo (fun _ _ h => .inl h) (.sn e l) v h he
  | .ob _ _, v, av', h, he => by simp [AV.see] at he
  | .rf _ _, v, av', h, he => by simp [AV.see] at he
  | .vx k l, v, av', h, he => Rep.eraseTo (fun _ _ h => .inl h) (.vx k l) v h he
theorem RepL.see (hm : Mem P c bx tp w) : ∀ (l : List AV) (vs : List Value) {l' : List AV}, RepL P c w l vs → AV.seeL bx l = some l' → RepL P (topC w (seenProt c bx)) w l' vs
  | [], vs, l', h, he => by simp only [AV.seeL, Option.some.injEq] at he; subst he; simpa [RepL] using h
  | x :: xs, vs, l', h, he => by
    simp only [AV.seeL] at he
    split at he
    · rename_i y ys hy hys
      simp only [Option.some.injEq] at he; subst he
      simp only [RepL] at h ⊢
      obtain ⟨v, vs', h1, h2, h3⟩ := h
      exact ⟨v, vs', h1, Rep.see hm _ _ h2 hy, RepL.see hm _ _ h3 hys⟩
    · cases he
end

mutual
theorem Rep.plain : ∀ (av : AV) (v : Value), av.plain = true → Rep P c w av v → Rep P c' w' av v
  | .lit x, v, _, h => by simpa [Rep] using h
  | .sl _ _ _, v, hp, _ => by simp [AV.plain] at hp
  | .ep _, v, hp, _ => by simp [AV.plain] at hp
  | .bp _ _, v, hp, _ => by simp [AV.plain] at hp
  | .sn _ _, v, hp, _ => by simp [AV.plain] at hp
  | .ob _ _, v, hp, _ => by simp [AV.plain] at hp
  | .rf _ _, v, hp, _ => by simp [AV.plain] at hp
  | .vx (.map _) _, v, hp, _ => by simp [AV.plain] at hp
  | .vx .wrap _, v, hp, _ => by simp [AV.plain] at hp
  | .vx (.iface t) l, v, hp, h => by
    simp only [AV.plain] at hp
    simp only [Rep] at h ⊢
    obtain ⟨vs, h1, h2⟩ := h
    exact ⟨vs, h1, RepL.plain _ _ hp h2⟩
  | .fn f first cap, v, hp, h => by
    simp only [AV.plain, Bool.and_eq_true] at hp
    simp only [Rep] at h ⊢
    obtain ⟨a1, a2, h1, h2, h3⟩ := h
    exact ⟨a1, a2, h1, RepL.plain _ _ hp.1 h2, RepL.plain _ _ hp.2 h3⟩
  | .ag l, v, hp, h => by
    simp only [AV.plain] at hp
    simp only [Rep] at h ⊢
    obtain ⟨a1, h1, h2⟩ := h
    exact ⟨a1, h1, RepL.plain _ _ hp h2⟩
  | .tu l, v, hp, h => by
    simp only [AV.plain] at hp
    simp only [Rep] at h ⊢
    obtain ⟨a1, h1, h2⟩ := h
    exact ⟨a1, h1, RepL.plain _ _ hp h2⟩
theorem RepL.plain : ∀ (l : List AV) (vs : List Value), AV.plainL l = true → RepL P c w l vs → RepL P c' w' l vs
  | [], vs, _, h => by simpa [RepL] using h
  | x :: xs, vs, hp, h => by
    simp only [AV.plainL, Bool.and_eq_true] at hp
    simp only [RepL] at h ⊢
    obtain ⟨v, vs', h1, h2, h3⟩ := h
    exact ⟨v, vs', h1, Rep.plain _ _ hp.1 h2, RepL.plain _ _ hp.2 h3⟩
end

theorem Ext.below (n : Nat) (h : Below w.heap.size w w') : Ext n c w c w' :=
  ⟨rfl, rfl, rfl, h.size, fun _ _ => ⟨rfl, rfl⟩, fun b j hb hp => ⟨hp, h.cell (p := ⟨b, j, none⟩) hb⟩, Stays.of_eq fun b hb => h.block b hb, fun b es n _ hb => (h.block b (heap_lt hb)).trans hb⟩

theorem Mem.belowStep (hm : Mem P c bx tp w) (h : Below w.heap.size w w') : Mem P c bx tp w' :=
  ⟨fun x hx => (hm.boxes x hx).ext (Ext.below _ h) (Nat.le_refl _) (h.block _ (hm.boxes x hx).block_lt) fun _ hj => hj, hm.apart,
    fun x hx => (hm.tips x hx).ext (Ext.below _ h) (Nat.le_refl _) (fun _ hg => h.block _ ((hm.tips x hx).block_lt hg).1) fun _ _ _ hj => hj, hm.tapart, hm.tids, hm.cross,
    hm.below.trans (h.mono hm.baseLe), Nat.le_trans hm.baseLe h.size, fun b j hj => Nat.lt_of_lt_of_le (hm.plt b j hj) h.size, hm.pold⟩

/-- A call that is handed addresses of variables, and hands back a value that names no memory. -/
theorem callOK_see {g : FuncId} {args args' : List AV} {r : AV} {nx : Nat} {K : AV → List (Nat × List AV) → List (Nat × TypeId) → Nat → Prop} (h : Pure P g args' [] r) (he : AV.seeL bx args = some args') (hp : r.plain = true)
    (hK : K r bx tp nx) : CallOK P g args bx tp nx K := by
  refine ⟨h.1, fun c w vs hm hn hr => ?_⟩
  refine (h.2 w (seenProt c bx) vs (fun b j hb => ?_) (RepL.see hm _ _ hr he)).mono ?_
  · rcases hb with hb | ⟨x, hx, rfl⟩
    · exact hm.plt b j hb
    · exact (hm.boxes x hx).block_lt
  · rintro e w' ⟨v, c', rfl, hx, hn', hm', hv⟩
    have hb := hm'.below
    rw [hx.base, hx.w0] at hb
    exact ⟨v, c, r, bx, tp, rfl, Ext.below _ hb, Nat.le_refl _, rfl, hm.belowStep hb, Rep.plain _ _ hp hv, by rw [hn]; exact hK⟩

mutual
theorem Rep.eraseR (hR : ∀ b off cells, Reads c w b off cells → Reads c' w' b off cells) (hM : ∀ b es n, c.prot b 0 → w.heap[b]? = some (.map es n) → c'.prot b 0 ∧ w'.heap[b]? = some (.map es n)) : ∀ (av : AV) (v : Value) {av' : AV}, Rep P c w av v → av.erase = some av' → Rep P c' w' av' v
  | .lit x, v, av', h, he => by simp only [AV.erase, Option.some.injEq] at he; subst he; simpa [Rep] using h
  | .sl e els tip, v, av', h, he => by
    simp only [AV.erase, Option.some.injEq] at he; subst he
    simp only [Rep] at h ⊢
    obtain ⟨⟨a, cap, h1, h2, h3, h4⟩, _⟩ := h
    exact ⟨⟨a, cap, h1, h2, h3, h4.imp id fun ⟨b, off, h5, h6⟩ => ⟨b, off, h5, hR _ _ _ h6⟩⟩, fun id hid => by cases hid⟩
  | .ep cells, v, av', h, he => by
    simp only [AV.erase] at he
    split at he
    · rename_i x hx
      simp only [Option.some.injEq] at he; subst he
      simp only [Rep] at h ⊢
      obtain ⟨b, off, vs, h1, h2, h3⟩ := h
      exact ⟨b, off, vs, h1, hR _ _ _ h2, RepL.eraseR hR hM _ _ h3 hx⟩
    · cases he
  | .bp id off, v, av', h, he => by simp [AV.erase] at he
  | .fn f first cap, v, av', h, he => by
    simp only [AV.erase] at he
    split at he
    · rename_i x y hx hy
      simp only [Option.some.injEq] at he; subst he
      simp only [Rep] at h ⊢
      obtain ⟨a1, a2, h1, h2, h3⟩ := h
      exact ⟨a1, a2, h1, RepL.eraseR hR hM _ _ h2 hx, RepL.eraseR hR hM _ _ h3 hy⟩
    · cases he
  | .ag l, v, av', h, he => by
    simp only [AV.erase] at he
    split at he
    · rename_i x hx
      simp only [Option.some.injEq] at he; subst he
      simp only [Rep] at h ⊢
      obtain ⟨a1, h1, h2⟩ := h
      exact ⟨a1, h1, RepL.eraseR hR hM _ _ h2 hx⟩
    · cases he
  | .tu l, v, av', h, he => by
    simp only [AV.erase] at he
    split at he
    · rename_i x hx
      simp only [Option.some.injEq] at he; subst he
      simp only [Rep] at h ⊢
      obtain ⟨a1, h1, h2⟩ := h
      exact ⟨a1, h1, RepL.eraseR hR hM _ _ h2 hx⟩
    · cases he
  | .sn e l, v, av', h, he => by
    simp only [AV.erase] at he
    split at he
    · rename_i x hx
      simp only [Option.some.injEq] at he; subst he
      simp only [Rep] at h ⊢
      obtain ⟨a, cap, vs, h1, h2, h3, h4, h5⟩ := h
      have hl := eraseL_length hx
      exact ⟨a, cap, vs, by rw [hl]; exact h1, by rw [hl]; exact h2, h3, RepL.eraseR hR hM _ _ h4 hx, by
        rcases h5 with h5 | ⟨b, off, h6, h7⟩
        · subst h5; left; exact List.eq_nil_of_length_eq_zero hl
        · exact .inr ⟨b, off, h6, hR _ _ _ h7⟩⟩
    · cases he
  | .ob _ _, v, av', h, he => by simp [AV.erase] at he
  | .rf _ _, v, av', h, he => by simp [AV.erase] at he
  | .vx k l, v, av', h, he => by
    simp only [AV.erase] at he
    split at he
    · rename_i x hx
      simp only [Option.some.injEq] at he; subst he
      simp only [Rep] at h ⊢
      obtain ⟨vs, h1, h2⟩ := h
      exact ⟨vs, h1.move hM, RepL.eraseR hR hM _ _ h2 hx⟩
    · cases he
theorem RepL.eraseR (hR : ∀ b off cells, Reads c w b off cells → Reads c' w' b off cells) (hM : ∀ b es n, c.prot b 0 → w.heap[b]? = some (.map es n) → c'.prot b 0 ∧ w'.heap[b]? = some (.map es n)) : ∀ (l : List AV) (vs : List Value) {l' : List AV}, RepL P c w l vs → AV.eraseL l = some l' → RepL P c' w' l' vs
  | [], vs, l', h, he => by simp only [AV.eraseL, Option.some.injEq] at he; subst he; simpa [RepL] using h
  | x :: xs, vs, l', h, he => by
    simp only [AV.eraseL] at he
    split at he
    · rename_i y ys hy hys
      simp only [Option.some.injEq] at he; subst he
      simp only [RepL] at h ⊢
      obtain ⟨v, vs', h1, h2, h3⟩ := h
      exact ⟨v, vs', h1, Rep.eraseR hR hM _ _ h2 hy, RepL.eraseR hR hM _ _ h3 hys⟩
    · cases he
end

/-- What is called only reads: what it hands back stays readable. -/
def pCall (P : Program) (bx : List (Nat × List AV)) (g : FuncId) (args : List AV) (r : AV) : Prop :=
  (∃ args', AV.seeL bx args = some args' ∧ Pure P g args' [] r ∧ r.plain = true) ∨ (∃ args' tys r0, AV.eraseL args = some args' ∧ Pure P g args' tys r0 ∧ r0.erase = some r)

theorem callOK_erased {g : FuncId} {args args' : List AV} {tys : List TypeId} {r0 r : AV} {nx : Nat} {K : AV → List (Nat × List AV) → List (Nat × TypeId) → Nat → Prop} (h : Pure P g args' tys r0) (he : AV.eraseL args = some args') (hr0 : r0.erase = some r)
    (hK : K r bx tp nx) : CallOK P g args bx tp nx K := by
  refine ⟨h.1, fun c w vs hm hn hr => ?_⟩
  refine (h.2 w c.prot vs hm.plt (RepL.erase _ _ hr he)).mono ?_
  rintro e w' ⟨v, c', rfl, hx, hn', hm', hv⟩
  have hX := Ext.join hx hm'
  have hM := (hm.join hx hm' hn').forget (List.Sublist.refl bx) (List.sublist_append_right (idx c.next tys) tp)
  let c2 : Ctx := { c.join w.heap.size c' with next := c.next }
  have hM2 : Mem P c2 bx tp w' := by
    refine ⟨fun x hx1 => ?_, hM.apart, fun x hx1 => ?_, hM.tapart, hM.tids, hM.cross, hM.below, hM.baseLe, hM.plt, hM.pold⟩
    · have h1 := hM.boxes x hx1
      refine ⟨(hm.boxes x hx1).lt, h1.base, h1.free, ?_⟩
      exact (BoxOK.ext (c' := c2) (w := w) (w' := w') (hm.boxes x hx1) ⟨hX.base, hX.w0, hX.p0, hX.size, hX.ids, hX.keep, hX.stays, hX.maps⟩ (Nat.le_refl _) (by
        have hbl := hm'.below
        rw [hx.base, hx.w0] at hbl
        exact hbl.block _ (hm.boxes x hx1).block_lt) fun j hj => by
          have hlt := (hm.boxes x hx1).block_lt
          simp only [c2, Ctx.join] at hj
          rw [if_pos hlt] at hj
          exact hj).row
    · exact ⟨(hm.tips x hx1).lt, (hM.tips x hx1).row⟩
  refine ⟨v, c2, r, bx, tp, rfl, ⟨hX.base, hX.w0, hX.p0, hX.size, hX.ids, hX.keep, hX.stays, hX.maps⟩, Nat.le_refl _, rfl, hM2, ?_, ?_⟩
  · exact Rep.eraseR (c := c') (w := w') (c' := c2) (w' := w') (fun b off cells hR => Reads.join hx hm' hR) (fun _ _ _ hp hb => ⟨prot_join hx hm' hp, hb⟩) _ _ hv hr0
  · show K _ _ _ c.next
    rw [hn]; exact hK

theorem pCall_ok {g : FuncId} {args : List AV} {r : AV} {nx : Nat} {K : AV → List (Nat × List AV) → List (Nat × TypeId) → Nat → Prop} (h : pCall P bx g args r) (hK : K r bx tp nx) : CallOK P g args bx tp nx K := by
  rcases h with ⟨args', h1, h2, h3⟩ | ⟨args', tys, r0, h1, h2, h3⟩
  · exact callOK_see h2 h1 h3 hK
  · exact callOK_erased h2 h1 h3 hK
end
end Go.Ab
