/-
Each operation of the abstract machine is what the model's operation does. Conditions: none.
-/
import Derived.Test.YteekelelcbfekaaDoorAbOps
set_option linter.unusedSimpArgs false
set_option linter.unusedVariables false
set_option linter.unusedSectionVars false
namespace Go.Ab
open Go Go.RowKit

section
variable {P : Program} {N : Nat} {c c' : Ctx} {w w' : World} {s : State} {a : Act} {bx : List (Nat × List AV)} {tp : List (Nat × TypeId)}

theorem ev_sound (h : Rel P N c s a w) {x : Operand} {x' : AX} (hc : cX x = some x') {av : AV} (hv : s.ev x' = some av) : Rep P c w av (a.eval x) := by
  cases x with
  | tmp t => simp only [cX, Option.some.injEq] at hc; subst hc; exact h.slots t av hv
  | const v => simp only [cX, Option.some.injEq] at hc; subst hc; simp only [State.ev, Option.some.injEq] at hv; subst hv; simp [Rep, Act.eval]
  | global g => cases hc
  | func g => simp only [cX, Option.some.injEq] at hc; subst hc; simp only [State.ev, Option.some.injEq] at hv; subst hv; simp [Rep, RepL, Act.eval]

theorem evs_sound (h : Rel P N c s a w) : ∀ {xs : List Operand} {xs' : List AX} {avs : List AV}, cXs xs = some xs' → s.evs xs' = some avs → RepL P c w avs (xs.map a.eval)
  | [], xs', avs, hc, hv => by simp only [cXs, Option.some.injEq] at hc; subst hc; simp only [State.evs, Option.some.injEq] at hv; subst hv; simp [RepL]
  | x :: xs, xs', avs, hc, hv => by
    simp only [cXs] at hc
    split at hc
    · rename_i y ys hy hys
      simp only [Option.some.injEq] at hc; subst hc
      simp only [State.evs] at hv
      split at hv
      · rename_i z zs hz hzs
        simp only [Option.some.injEq] at hv; subst hv
        simp only [List.map_cons, RepL]
        exact ⟨_, _, rfl, ev_sound h hy hz, evs_sound h hys hzs⟩
      · cases hv
    · cases hc

theorem Rep.cells {av : AV} {v : Value} (h : Rep P c w av v) : RepL P c w av.cells v.cells.toList := by
  cases av with
  | lit x =>
    simp only [Rep] at h; subst h
    cases v <;> simp only [AV.cells, Value.cells] <;> first | exact RepL.lits _ | simp [RepL, Rep]
  | ag l =>
    simp only [Rep] at h
    obtain ⟨a, rfl, h⟩ := h
    exact h
  | sl e els tip =>
    have h' := h
    simp only [Rep] at h
    obtain ⟨⟨a, cap, rfl, _⟩, _⟩ := h
    simp only [AV.cells, Value.cells, RepL]
    exact ⟨_, _, rfl, h', rfl⟩
  | ep cells =>
    have h' := h
    simp only [Rep] at h
    obtain ⟨b, off, vs, rfl, _⟩ := h
    simp only [AV.cells, Value.cells, RepL]
    exact ⟨_, _, rfl, h', rfl⟩
  | bp id off =>
    have h' := h
    simp only [Rep] at h
    obtain ⟨_, rfl⟩ := h
    simp only [AV.cells, Value.cells, RepL]
    exact ⟨_, _, rfl, h', rfl⟩
  | fn f first cap =>
    have h' := h
    simp only [Rep] at h
    obtain ⟨a1, a2, rfl, _⟩ := h
    simp only [AV.cells, Value.cells, RepL]
    exact ⟨_, _, rfl, h', rfl⟩
  | tu l =>
    have h' := h
    simp only [Rep] at h
    obtain ⟨a1, rfl, _⟩ := h
    simp only [AV.cells, Value.cells, RepL]
    exact ⟨_, _, rfl, h', rfl⟩
  | sn e l =>
    have h' := h
    simp only [Rep] at h
    obtain ⟨a, cap, vs, rfl, _⟩ := h
    simp only [AV.cells, Value.cells, RepL]
    exact ⟨_, _, rfl, h', rfl⟩
  | vx k l =>
    have h' := h
    simp only [Rep] at h
    obtain ⟨vs, h1, _⟩ := h
    cases k with
    | map n => obtain ⟨r, es, rfl, _⟩ := h1; simp only [AV.cells, Value.cells, RepL]; exact ⟨_, _, rfl, h', rfl⟩
    | iface t => obtain ⟨x, rfl, _⟩ := h1; simp only [AV.cells, Value.cells, RepL]; exact ⟨_, _, rfl, h', rfl⟩
    | wrap => obtain ⟨rfl, a, n, cap, rfl⟩ := h1; simp only [AV.cells, Value.cells, RepL]; exact ⟨_, _, rfl, h', rfl⟩
  | ob k l => simp only [Rep] at h
  | rf k id =>
    have h' := h
    simp only [Rep] at h
    obtain ⟨_, hv⟩ := h
    cases k with
    | row e sz off n =>
      obtain ⟨o, cap, arr, rfl, _⟩ := hv
      simp only [AV.cells, Value.cells, RepL]; exact ⟨_, _, rfl, h', rfl⟩
    | var e n =>
      obtain ⟨arr, rfl, _⟩ := hv
      simp only [AV.cells, Value.cells, RepL]; exact ⟨_, _, rfl, h', rfl⟩
    | _ => simp only [RefOK, refV] at hv; subst hv; simp only [AV.cells, Value.cells, RepL]; exact ⟨_, _, rfl, h', rfl⟩

theorem Rep.one {av : AV} {v : Value} (h : Rep P c w av v) (ho : av.one = true) : v.oneCell' = true := by
  cases av <;> simp only [Rep] at h <;> simp only [AV.one] at ho
  · subst h; exact ho
  · obtain ⟨⟨a, cap, rfl, _⟩, _⟩ := h; rfl
  · obtain ⟨b, off, vs, rfl, _⟩ := h; rfl
  · obtain ⟨_, rfl⟩ := h; rfl
  · obtain ⟨a1, a2, rfl, _⟩ := h; rfl
  · cases ho
  · cases ho
  · obtain ⟨a, cap, vs, rfl, _⟩ := h; rfl
  · rename_i k id
    obtain ⟨_, hv⟩ := h
    cases k with
    | row e sz off n => obtain ⟨o, cap, arr, rfl, _⟩ := hv; rfl
    | var e n => obtain ⟨arr, rfl, _⟩ := hv; rfl
    | _ => simp only [RefOK, refV] at hv; subst hv; rfl
  · rename_i k l
    obtain ⟨vs, h1, _⟩ := h
    cases k with
    | map n => obtain ⟨r, es, rfl, _⟩ := h1; rfl
    | iface t => obtain ⟨x, rfl, _⟩ := h1; rfl
    | wrap => obtain ⟨rfl, a, n, cap, rfl⟩ := h1; rfl

theorem length_setAll : ∀ (l : List AV) (cells : List AV) (off : Nat), (setAll cells off l).length = cells.length
  | [], _, _ => rfl
  | x :: xs, cells, off => by simp [setAll, length_setAll xs]

theorem RepL.setAll : ∀ {l : List AV} {vs : List Value} {cells : List AV} {cs : List Value} (off : Nat), RepL P c w l vs → RepL P c w cells cs →
    RepL P c w (setAll cells off l) ((vs.zipIdx 0).foldl (fun x (p : Value × Nat) => x.set (off + p.2) p.1) cs)
  | [], vs, cells, cs, off, h, h' => by simp only [RepL] at h; subst h; simpa [Ab.setAll] using h'
  | x :: xs, vs, cells, cs, off, h, h' => by
    simp only [RepL] at h
    obtain ⟨v, us, rfl, h2, h3⟩ := h
    have ih := RepL.setAll (l := xs) (vs := us) (off + 1) h3 (RepL.set off h' h2)
    simp only [Ab.setAll, List.zipIdx_cons, List.foldl_cons, Nat.add_zero]
    have e : ∀ (l : List Value) (n m : Nat) (cs : List Value), (l.zipIdx (n + 1)).foldl (fun x (p : Value × Nat) => x.set (m + p.2) p.1) cs = (l.zipIdx n).foldl (fun x (p : Value × Nat) => x.set (m + 1 + p.2) p.1) cs := by
      intro l
      induction l with
      | nil => intro n m cs; rfl
      | cons y ys ih => intro n m cs; simp only [List.zipIdx_cons, List.foldl_cons]; rw [ih (n + 1)]; congr 2; omega
    rw [Nat.zero_add, e us 0 off]
    exact ih

theorem fold_set (cells : Array Value) (off : Nat) (l : Array Value) : (l.zipIdx.foldl (fun cs (p : Value × Nat) => cs.setIfInBounds (off + p.2) p.1) cells).toList = (l.toList.zipIdx 0).foldl (fun x (p : Value × Nat) => x.set (off + p.2) p.1) cells.toList := by
  rw [← Array.foldl_toList, Array.toList_zipIdx]
  generalize l.toList.zipIdx 0 = m
  induction m generalizing cells with
  | nil => rfl
  | cons p m ih => simp only [List.foldl_cons]; rw [ih]; simp

theorem fill_sound (place : Nat → Option (Nat × Nat)) : ∀ {ps : List (Nat × Nat × AV)} {vs : List (Nat × Value)} {cells r : List AV} {cs : Array Value}, fillA cells ps = some r → RepL P c w cells cs.toList → ps.length = vs.length →
    (∀ (i : Nat) (p : Nat × Nat × AV) (q : Nat × Value), ps[i]? = some p → vs[i]? = some q → place q.1 = some (p.1, p.2.1) ∧ Rep P c w p.2.2 q.2) → ∃ out, Instr.fill place cs vs = some out ∧ RepL P c w r out.toList
  | [], vs, cells, r, cs, hf, hr, hl, _ => by
    simp only [fillA, Option.some.injEq] at hf; subst hf
    have : vs = [] := List.eq_nil_of_length_eq_zero (by simpa using hl.symm)
    subst this
    exact ⟨cs, rfl, hr⟩
  | (off, sz, av) :: ps, vs, cells, r, cs, hf, hr, hl, hp => by
    cases vs with
    | nil => simp at hl
    | cons q vs =>
      obtain ⟨i, v⟩ := q
      obtain ⟨h1, h2⟩ := hp 0 _ _ rfl rfl
      simp only [fillA] at hf
      split at hf
      · rename_i hcond
        have hcl := h2.cells
        have hlen := hcl.length
        have hlen2 := hr.length
        simp only [Array.length_toList] at hlen hlen2
        have hnew := RepL.setAll off hcl hr
        rw [← fold_set] at hnew
        obtain ⟨out, g1, g2⟩ := fill_sound place hf hnew (by simpa using hl) (fun j p q hj hq => hp (j + 1) p q (by simpa using hj) (by simpa using hq))
        refine ⟨out, ?_, g2⟩
        simp only [Instr.fill, h1]
        rw [if_neg (by simp; omega)]
        exact g1
      · cases hf

theorem parts_sound (h : Rel P N c s a w) {places : List (Nat × Nat)} : ∀ {parts : List (Nat × Operand)} {parts' : List (Nat × Nat × AX)} {ps : List (Nat × Nat × AV)}, cParts places parts = some parts' → evParts s parts' = some ps →
    ps.length = parts.length ∧ ∀ (i : Nat) (p : Nat × Nat × AV) (q : Nat × Value), ps[i]? = some p → (parts.map fun x => (x.1, a.eval x.2))[i]? = some q → places[q.1]? = some (p.1, p.2.1) ∧ Rep P c w p.2.2 q.2
  | [], parts', ps, hc, hv => by
    simp only [cParts, Option.some.injEq] at hc; subst hc
    simp only [evParts, Option.some.injEq] at hv; subst hv
    exact ⟨rfl, fun i p q hi => by simp at hi⟩
  | (k, x) :: parts, parts', ps, hc, hv => by
    simp only [cParts] at hc
    split at hc
    · rename_i off sz y ys hpl hy hys
      simp only [Option.some.injEq] at hc; subst hc
      simp only [evParts] at hv
      split at hv
      · rename_i z zs hz hzs
        simp only [Option.some.injEq] at hv; subst hv
        obtain ⟨h1, h2⟩ := parts_sound h hys hzs
        refine ⟨by simp [h1], fun i p q hi hq => ?_⟩
        cases i with
        | zero =>
          simp only [List.getElem?_cons_zero, Option.some.injEq, List.map_cons] at hi hq
          subst hi; subst hq
          exact ⟨hpl, ev_sound h hy hz⟩
        | succ i => exact h2 i p q (by simpa using hi) (by simpa using hq)
      · cases hv
    · cases hc

theorem build_sound (h : Rel P N c s a w) {t : TypeId} {zero : List Value} {places : List (Nat × Nat)} (hpl : placesOf P t = some (zero, places)) {parts : Array (Nat × Operand)} {parts' : List (Nat × Nat × AX)} (hc : cParts places parts.toList = some parts')
    {ps : List (Nat × Nat × AV)} (hv : evParts s parts' = some ps) {r : List AV} (hf : fillA (zero.map .lit) ps = some r) :
    ∃ out : Array Value, (Instr.build t (parts.map fun (i, x) => (i, a.eval x))).run P w = .ok (.agg out) w ∧ RepL P c w r out.toList := by
  unfold placesOf at hpl
  split at hpl
  · rename_i it fields hit hu
    split at hpl
    · rename_i z places' hz hm
      simp only [Option.some.injEq, Prod.mk.injEq] at hpl
      obtain ⟨rfl, rfl⟩ := hpl
      obtain ⟨h1, h2⟩ := parts_sound h hc hv
      obtain ⟨out, h3, h4⟩ := fill_sound (P := P) (c := c) (w := w) (fun x => places'[x]?) (vs := (parts.toList.map fun x => (x.1, a.eval x.2))) (cs := z.cells) hf (RepL.lits _) (by simpa using h1) h2
      refine ⟨out, run_build w t _ out ?_, h4⟩
      simp only [Program.built, hit, hu, hz, hm]
      simpa using h3
    · cases hpl
  · rename_i it n e hit hu
    split at hpl
    · rename_i z ie hz hie
      simp only [Option.some.injEq, Prod.mk.injEq] at hpl
      obtain ⟨rfl, rfl⟩ := hpl
      obtain ⟨h1, h2⟩ := parts_sound h hc hv
      obtain ⟨out, h3, h4⟩ := fill_sound (P := P) (c := c) (w := w) (fun i => some (i * ie.size, ie.size)) (vs := (parts.toList.map fun x => (x.1, a.eval x.2))) (cs := z.cells) hf (RepL.lits _) (by simpa using h1) (fun i p q hp hq => by
        obtain ⟨g1, g2⟩ := h2 i p q hp hq
        refine ⟨?_, g2⟩
        rw [List.getElem?_map] at g1
        by_cases hlt : q.1 < n
        · rw [List.getElem?_range hlt] at g1; simpa using g1
        · rw [List.getElem?_eq_none (by simpa using hlt)] at g1; simp at g1)
      refine ⟨out, run_build w t _ out ?_, h4⟩
      simp only [Program.built, hit, hu, hz, hie]
      simpa using h3
    · cases hpl
  · cases hpl
end
end Go.Ab
