/-
Calls in the abstract machine: contracts of functions that only compute; a callee walked in place. Conditions: none.
-/
import Derived.Test.YteekelelcbfekaaDoorAbAppend
set_option linter.unusedSimpArgs false
set_option linter.unusedVariables false
set_option linter.unusedSectionVars false
namespace Go.Ab
open Go Go.RowKit

mutual
def AV.shift (n : Nat) : AV → AV
  | .lit v => .lit v
  | .sl e els tip => .sl e els (match tip with | none => none | some i => some (i + n))
  | .ep cells => .ep (AV.shiftL n cells)
  | .bp id off => .bp (id + n) off
  | .fn f first cap => .fn f (AV.shiftL n first) (AV.shiftL n cap)
  | .ag l => .ag (AV.shiftL n l)
  | .tu l => .tu (AV.shiftL n l)
  | .sn e l => .sn e (AV.shiftL n l)
  | .ob k l => .ob k (AV.shiftL n l)
  | .rf k id => .rf k (id + n)
  | .vx k l => .vx k (AV.shiftL n l)
def AV.shiftL (n : Nat) : List AV → List AV
  | [] => []
  | x :: xs => x.shift n :: AV.shiftL n xs
end

mutual
/-- The value without its right to be appended to; none, where it names a box. -/
def AV.erase : AV → Option AV
  | .lit v => some (.lit v)
  | .sl e els _ => some (.sl e els none)
  | .ep cells => match AV.eraseL cells with
    | some a => some (.ep a)
    | none => none
  | .bp _ _ => none
  | .fn f first cap => match AV.eraseL first, AV.eraseL cap with
    | some a, some b => some (.fn f a b)
    | _, _ => none
  | .ag l => match AV.eraseL l with
    | some a => some (.ag a)
    | none => none
  | .tu l => match AV.eraseL l with
    | some a => some (.tu a)
    | none => none
  | .sn e l => match AV.eraseL l with
    | some a => some (.sn e a)
    | none => none
  | .ob _ _ => none
  | .rf _ _ => none
  | .vx k l => match AV.eraseL l with
    | some a => some (.vx k a)
    | none => none
def AV.eraseL : List AV → Option (List AV)
  | [] => some []
  | x :: xs => match x.erase, AV.eraseL xs with
    | some a, some b => some (a :: b)
    | _, _ => none
end

def topC (w : World) (p : Nat → Nat → Prop) : Ctx := { base := w.heap.size, w0 := w, floor := ⟨0, w.heap.size, none⟩, next := 0, β := fun _ => 0, τ := fun _ => .slice none 0 0, prot := p, p0 := p }

def idx (n : Nat) : List TypeId → List (Nat × TypeId)
  | [] => []
  | e :: l => (n, e) :: idx (n + 1) l

def Enters (P : Program) (g : FuncId) : Prop := ∀ (vs : Array Value) (w : World), (callFunc g vs).run P w = .ok (.enter g vs) w

theorem enters_of {P : Program} {g : FuncId} {fn : Func} (hf : P.funcs[g]? = some fn) (hn : (fn.name == "runtime.NumGoroutine") = false) (hb : fn.body.isNone = false) : Enters P g := fun vs w => by
  have hn' : fn.name ≠ "runtime.NumGoroutine" := by simpa using hn
  have hb' : ¬ fn.body = none := by intro e; rw [e] at hb; simp at hb
  simp [callFunc, hf, hn', hb']

/-- A function that only computes: whatever stands for the arguments, it hands back what stands for r. -/
def Pure (P : Program) (g : FuncId) (args : List AV) (tips : List TypeId) (r : AV) : Prop :=
  Enters P g ∧ ∀ (w : World) (p : Nat → Nat → Prop) (vs : Array Value), (∀ b j, p b j → b < w.heap.size) → RepL P (topC w p) w args vs.toList → Calls P g vs w fun e w' => ∃ v c', e = .returned v ∧ Ext 0 (topC w p) w c' w' ∧ c'.next = tips.length ∧ Mem P c' [] (idx 0 tips) w' ∧ Rep P c' w' r v

def CallOK (P : Program) (g : FuncId) (args : List AV) (bx : List (Nat × List AV)) (tp : List (Nat × TypeId)) (nx : Nat) (K : AV → List (Nat × List AV) → List (Nat × TypeId) → Nat → Prop) : Prop :=
  Enters P g ∧ ∀ (c : Ctx) (w : World) (vs : Array Value), Mem P c bx tp w → c.next = nx → RepL P c w args vs.toList →
    Calls P g vs w fun e w' => ∃ v c' r bx' tp', e = .returned v ∧ Ext c.next c w c' w' ∧ c.next ≤ c'.next ∧ c'.floor = c.floor ∧ Mem P c' bx' tp' w' ∧ Rep P c' w' r v ∧ K r bx' tp' c'.next

section
variable {P : Program} {N : Nat} {c c' : Ctx} {w w' : World} {s : State} {a : Act} {bx : List (Nat × List AV)} {tp : List (Nat × TypeId)}

theorem Reads.top {b off : Nat} {cells : List Value} (h : Reads c w b off cells) : Reads (topC w c.prot) w b off cells := h

theorem eraseL_length : ∀ {l l' : List AV}, AV.eraseL l = some l' → l'.length = l.length
  | [], l', h => by simp only [AV.eraseL, Option.some.injEq] at h; subst h; rfl
  | x :: xs, l', h => by
    simp only [AV.eraseL] at h
    split at h
    · rename_i a b ha hb
      simp only [Option.some.injEq] at h; subst h
      simp [eraseL_length hb]
    · cases h
theorem shiftL_length (n : Nat) : ∀ (l : List AV), (AV.shiftL n l).length = l.length
  | [] => rfl
  | x :: xs => by simp [AV.shiftL, shiftL_length n xs]

mutual
theorem Rep.erase : ∀ (av : AV) (v : Value) {av' : AV}, Rep P c w av v → av.erase = some av' → Rep P (topC w c.prot) w av' v
  | .lit x, v, av', h, he => by simp only [AV.erase, Option.some.injEq] at he; subst he; simpa [Rep] using h
  | .sl e els tip, v, av', h, he => by
    simp only [AV.erase, Option.some.injEq] at he; subst he
    simp only [Rep] at h ⊢
    obtain ⟨⟨a, cap, h1, h2, h3, h4⟩, _⟩ := h
    refine ⟨⟨a, cap, h1, h2, h3, h4.imp id fun ⟨b, off, h5, h6⟩ => ⟨b, off, h5, h6.top⟩⟩, fun id hid => by cases hid⟩
  | .ep cells, v, av', h, he => by
    simp only [AV.erase] at he
    split at he
    · rename_i x hx
      simp only [Option.some.injEq] at he; subst he
      simp only [Rep] at h ⊢
      obtain ⟨b, off, vs, h1, h2, h3⟩ := h
      exact ⟨b, off, vs, h1, h2.top, RepL.erase _ _ h3 hx⟩
    · cases he
  | .bp id off, v, av', h, he => by simp [AV.erase] at he
  | .fn f first cap, v, av', h, he => by
    simp only [AV.erase] at he
    split at he
    · rename_i x y hx hy
      simp only [Option.some.injEq] at he; subst he
      simp only [Rep] at h ⊢
      obtain ⟨a1, a2, h1, h2, h3⟩ := h
      exact ⟨a1, a2, h1, RepL.erase _ _ h2 hx, RepL.erase _ _ h3 hy⟩
    · cases he
  | .ag l, v, av', h, he => by
    simp only [AV.erase] at he
    split at he
    · rename_i x hx
      simp only [Option.some.injEq] at he; subst he
      simp only [Rep] at h ⊢
      obtain ⟨a1, h1, h2⟩ := h
      exact ⟨a1, h1, RepL.erase _ _ h2 hx⟩
    · cases he
  | .tu l, v, av', h, he => by
    simp only [AV.erase] at he
    split at he
    · rename_i x hx
      simp only [Option.some.injEq] at he; subst he
      simp only [Rep] at h ⊢
      obtain ⟨a1, h1, h2⟩ := h
      exact ⟨a1, h1, RepL.erase _ _ h2 hx⟩
    · cases he
  | .sn e l, v, av', h, he => by
    simp only [AV.erase] at he
    split at he
    · rename_i x hx
      simp only [Option.some.injEq] at he; subst he
      simp only [Rep] at h ⊢
      obtain ⟨a, cap, vs, h1, h2, h3, h4, h5⟩ := h
      have hl := eraseL_length hx
      exact ⟨a, cap, vs, by rw [hl]; exact h1, by rw [hl]; exact h2, h3, RepL.erase _ _ h4 hx, by
        rcases h5 with h5 | ⟨b, off, h6, h7⟩
        · subst h5; left; exact List.eq_nil_of_length_eq_zero hl
        · exact .inr ⟨b, off, h6, h7.top⟩⟩
    · cases he
  | .ob _ _, v, av', h, he => by simp [AV.erase] at he
  | .rf _ _, v, av', h, he => by simp [AV.erase] at he
  | .vx k l, v, av', h, he => by
    simp only [AV.erase] at he
    split at he
    · rename_i x hx
      simp only [Option.some.injEq] at he; subst he
      simp only [Rep] at h ⊢
      obtain ⟨vs, h1, h2⟩ := h
      exact ⟨vs, h1.move fun _ _ _ hp hb => ⟨hp, hb⟩, RepL.erase _ _ h2 hx⟩
    · cases he
theorem RepL.erase : ∀ (l : List AV) (vs : List Value) {l' : List AV}, RepL P c w l vs → AV.eraseL l = some l' → RepL P (topC w c.prot) w l' vs
  | [], vs, l', h, he => by simp only [AV.eraseL, Option.some.injEq] at he; subst he; simpa [RepL] using h
  | x :: xs, vs, l', h, he => by
    simp only [AV.eraseL] at he
    split at he
    · rename_i y ys hy hys
      simp only [Option.some.injEq] at he; subst he
      simp only [RepL] at h ⊢
      obtain ⟨v, vs', h1, h2, h3⟩ := h
      exact ⟨v, vs', h1, Rep.erase _ _ h2 hy, RepL.erase _ _ h3 hys⟩
    · cases he
end

/-- The caller's context, and the callee's behind it. -/
def Ctx.join (c : Ctx) (k : Nat) (c' : Ctx) : Ctx :=
  { c with next := c.next + c'.next, β := fun i => if i < c.next then c.β i else c'.β (i - c.next), τ := fun i => if i < c.next then c.τ i else c'.τ (i - c.next), prot := fun b j => if b < k then c.prot b j else c'.prot b j }

theorem Reads.join {bx' : List (Nat × List AV)} {tp' : List (Nat × TypeId)} (hx : Ext 0 (topC w c.prot) w c' w') (hm : Mem P c' bx' tp' w') {b off : Nat} {cells : List Value} (h : Reads c' w' b off cells) : Reads (c.join w.heap.size c') w' b off cells := fun j v hj => by
  obtain ⟨h1, h2⟩ := h j v hj
  refine ⟨?_, h2⟩
  simp only [Ctx.join]
  split
  · rename_i hb
    have := hm.pold b _ h1 (by rw [hx.base]; exact hb)
    rw [hx.p0] at this
    exact this
  · exact h1

theorem prot_join {bx' : List (Nat × List AV)} {tp' : List (Nat × TypeId)} (hx : Ext 0 (topC w c.prot) w c' w') (hm : Mem P c' bx' tp' w') {b j : Nat} (h : c'.prot b j) : (c.join w.heap.size c').prot b j := by
  simp only [Ctx.join]
  split
  · rename_i hb
    have := hm.pold b _ h (by rw [hx.base]; exact hb)
    rw [hx.p0] at this
    exact this
  · exact h

mutual
theorem Rep.join (hR : ∀ b off cells, Reads c' w' b off cells → Reads (c.join w.heap.size c') w' b off cells) (hP : ∀ b j, c'.prot b j → (c.join w.heap.size c').prot b j) : ∀ (av : AV) (v : Value), Rep P c' w' av v → Rep P (c.join w.heap.size c') w' (av.shift c.next) v
  | .lit x, v, h => by simpa [Rep, AV.shift] using h
  | .sl e els tip, v, h => by
    simp only [Rep, AV.shift] at h ⊢
    obtain ⟨⟨a, cap, h1, h2, h3, h4⟩, h5⟩ := h
    refine ⟨⟨a, cap, h1, h2, h3, h4.imp id fun ⟨b, off, h6, h7⟩ => ⟨b, off, h6, hR _ _ _ h7⟩⟩, fun id hid => ?_⟩
    cases tip with
    | none => cases hid
    | some i =>
      simp only [Option.some.injEq] at hid; subst hid
      obtain ⟨h8, h9⟩ := h5 i rfl
      exact ⟨by simp [Ctx.join]; omega, by simp only [Ctx.join]; rw [if_neg (by omega), Nat.add_sub_cancel]; exact h9⟩
  | .ep cells, v, h => by
    simp only [Rep, AV.shift] at h ⊢
    obtain ⟨b, off, vs, h1, h2, h3⟩ := h
    exact ⟨b, off, vs, h1, hR _ _ _ h2, RepL.join hR hP _ _ h3⟩
  | .bp id off, v, h => by
    simp only [Rep, AV.shift] at h ⊢
    exact ⟨by simp [Ctx.join]; omega, by simp only [Ctx.join]; rw [if_neg (by omega), Nat.add_sub_cancel]; exact h.2⟩
  | .fn f first cap, v, h => by
    simp only [Rep, AV.shift] at h ⊢
    obtain ⟨a1, a2, h1, h2, h3⟩ := h
    exact ⟨a1, a2, h1, RepL.join hR hP _ _ h2, RepL.join hR hP _ _ h3⟩
  | .ag l, v, h => by
    simp only [Rep, AV.shift] at h ⊢
    obtain ⟨a1, h1, h2⟩ := h
    exact ⟨a1, h1, RepL.join hR hP _ _ h2⟩
  | .tu l, v, h => by
    simp only [Rep, AV.shift] at h ⊢
    obtain ⟨a1, h1, h2⟩ := h
    exact ⟨a1, h1, RepL.join hR hP _ _ h2⟩
  | .sn e l, v, h => by
    simp only [Rep, AV.shift] at h ⊢
    obtain ⟨a, cap, vs, h1, h2, h3, h4, h5⟩ := h
    refine ⟨a, cap, vs, by rw [shiftL_length]; exact h1, by rw [shiftL_length]; exact h2, h3, RepL.join hR hP _ _ h4, ?_⟩
    rcases h5 with h5 | ⟨b, off, h6, h7⟩
    · subst h5; exact .inl rfl
    · exact .inr ⟨b, off, h6, hR _ _ _ h7⟩
  | .ob _ _, v, h => by simp only [Rep] at h
  | .rf k id, v, h => by
    simp only [Rep, AV.shift] at h ⊢
    exact ⟨by simp [Ctx.join]; omega, by simp only [Ctx.join]; rw [if_neg (by omega), Nat.add_sub_cancel]; exact h.2⟩
  | .vx k l, v, h => by
    simp only [Rep, AV.shift] at h ⊢
    obtain ⟨vs, h1, h2⟩ := h
    exact ⟨vs, h1.move fun _ _ _ hp hb => ⟨hP _ _ hp, hb⟩, RepL.join hR hP _ _ h2⟩
theorem RepL.join (hR : ∀ b off cells, Reads c' w' b off cells → Reads (c.join w.heap.size c') w' b off cells) (hP : ∀ b j, c'.prot b j → (c.join w.heap.size c').prot b j) : ∀ (l : List AV) (vs : List Value), RepL P c' w' l vs → RepL P (c.join w.heap.size c') w' (AV.shiftL c.next l) vs
  | [], vs, h => by simpa [RepL, AV.shiftL] using h
  | x :: xs, vs, h => by
    simp only [RepL, AV.shiftL] at h ⊢
    obtain ⟨v, vs', h1, h2, h3⟩ := h
    exact ⟨v, vs', h1, Rep.join hR hP _ _ h2, RepL.join hR hP _ _ h3⟩
end
end
end Go.Ab
