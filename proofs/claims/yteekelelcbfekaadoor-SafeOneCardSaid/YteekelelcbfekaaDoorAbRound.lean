/-
Loops over a function in the abstract machine: the statement, and a round of it. Conditions: none.
-/
import Derived.Test.YteekelelcbfekaaDoorAbDraw
set_option linter.unusedSimpArgs false
set_option linter.unusedVariables false
set_option linter.unusedSectionVars false
namespace Go.Ab
open Go Go.RowKit

/-- The values of some variables. -/
def evTs (s : State) : List Nat → Option (List AV)
  | [] => some []
  | k :: ks => match look s.slots k, evTs s ks with
    | some a, some b => some (a :: b)
    | _, _ => none

def zipSlots : List Nat → List AV → List (Nat × Option AV)
  | k :: ks, x :: xs => (k, some x) :: zipSlots ks xs
  | _, _ => []

/-- The variables of a round: those that were kept, and what it is handed. -/
def roundSlots : List (Nat × Option AV) → List Nat → List AV → List (Nat × Option AV)
  | sl, p :: ps, x :: xs => roundSlots ((p, some x) :: sl) ps xs
  | sl, _, _ => sl

/-- What follows a loop over a function. -/
def rfnPost (Q : Exit → State → Prop) (sl : List (Nat × Option AV)) (id : Nat) (bx : List (Nat × List AV)) (tp : List (Nat × TypeId)) (nx : Nat) : Prop :=
  match obAt bx id with
  | some (.ob (.loop i) _) => match i.st, i.pend with
    | .ready, none => Q .normal ⟨sl, delBox bx id, tp, nx⟩
    | .done, some .ret => Q .ret ⟨sl, delBox bx id, tp, nx⟩
    | .done, some (.exit k) => Q (.exit k) ⟨sl, delBox bx id, tp, nx⟩
    | _, _ => False
  | _ => False

/-- Behind the assignment. -/
def xThen' (next : State → Prop) : Exit → State → Prop
  | .normal, s => next s
  | _, _ => False

/-- What follows a round. -/
def roundQ (id : Nat) (K : AV → List (Nat × List AV) → List (Nat × TypeId) → Nat → Prop) (e : Exit) (s : State) : Prop :=
  match obAt s.boxes id with
  | some (.ob (.loop i) cells) => match e with
    | .normal => K (.lit (.bool true)) (setBox s.boxes id [.ob (.loop { i with st := .ready, pend := none }) cells]) s.tips s.next
    | .ret => K (.lit (.bool false)) (setBox s.boxes id [.ob (.loop { i with st := .done, pend := some .ret }) cells]) s.tips s.next
    | .exit k => K (.lit (.bool false)) (setBox s.boxes id [.ob (.loop { i with st := .done, pend := some (.exit k) }) cells]) s.tips s.next
    | _ => False
  | _ => False

/-- A round begins: the record is busy. -/
def busyQ (id : Nat) (B : State → Prop) (s : State) : Prop :=
  match obAt s.boxes id with
  | some (.ob (.loop i) cells) => i.st = .ready ∧ B { s with boxes := setBox s.boxes id [.ob (.loop { i with st := .busy }) cells] }
  | _ => False

section
variable {P : Program} {N F : Nat} {c c' : Ctx} {w w' : World} {s : State} {a : Act} {bx : List (Nat × List AV)} {tp : List (Nat × TypeId)}

theorem evTs_get : ∀ {ks : List Nat} {cells : List AV}, evTs s ks = some cells → ∀ (j k : Nat) (av : AV), ks[j]? = some k → cells[j]? = some av → look s.slots k = some av
  | [], cells, h, j, k, av, hk, _ => by simp at hk
  | k0 :: ks, cells, h, j, k, av, hk, hc => by
    simp only [evTs] at h
    split at h
    · rename_i x xs hx hxs
      simp only [Option.some.injEq] at h; subst h
      cases j with
      | zero => simp at hk hc; subst hk; subst hc; exact hx
      | succ j => exact evTs_get hxs j k av (by simpa using hk) (by simpa using hc)
    · cases h

theorem putObj_size (w : World) (l : Nat) (o : Obj) : (w.putObj l o).heap.size = w.heap.size := by simp [World.putObj]

theorem Ext.putObj (n : Nat) (c : Ctx) (w : World) {l : Nat} {r r' : Loop} (hl : w.heap[l]? = some (.loop r)) : Ext n c w c (w.putObj l (.loop r')) := by
  refine ⟨rfl, rfl, rfl, by rw [putObj_size]; exact Nat.le_refl _, fun _ _ => ⟨rfl, rfl⟩, fun b j _ hp => ⟨hp, ?_⟩, fun b hb => ?_, fun b es n _ hb => (World.putObj_heap_other (show b ≠ l from fun e => by rw [e, hl] at hb; cases hb)).trans hb⟩
  · by_cases he : b = l
    · subst he
      have h2 := World.putObj_heap_same (o := .loop r') (heap_lt hl)
      simp [World.cell?, hl, h2]
    · exact World.cell?_of_block (a := ⟨b, j, none⟩) (World.putObj_heap_other he)
  · by_cases he : b = l
    · subst he
      exact ⟨fun _ _ => ⟨r', World.putObj_heap_same hb⟩, fun h => (by rw [hl] at h; cases h), fun _ _ _ h => (by rw [hl] at h; cases h)⟩
    · rw [World.putObj_heap_other he]
      exact ⟨fun r h => ⟨r, h⟩, id, fun a1 _ f h => ⟨a1, f, h, rfl⟩⟩

theorem Mem.putObj (hm : Mem P c bx tp w) {l : Nat} {r r' : Loop} (hl : w.heap[l]? = some (.loop r)) (hb : c.base ≤ l) (hx : ∀ x ∈ bx, c.β x.1 ≠ l) : Mem P c bx tp (w.putObj l (.loop r')) := by
  have he := Ext.putObj c.next c w (r' := r') hl
  refine ⟨fun x hx1 => (hm.boxes x hx1).ext he (Nat.le_refl _) (World.putObj_heap_other (hx x hx1)) fun _ hj => hj, hm.apart, fun x hx1 => (hm.tips x hx1).ext he (Nat.le_refl _) (fun g hg => World.putObj_heap_other fun e => ?_) fun _ _ _ hj => hj,
    hm.tapart, hm.tids, hm.cross, ?_, by rw [putObj_size]; exact hm.baseLe, by rw [putObj_size]; exact hm.plt, hm.pold⟩
  · subst e
    rcases (hm.tips x hx1).row with h1 | ⟨g', n, cap, cur, h1, h2, h3, _⟩
    · rw [h1] at hg; simp [Value.ownBlock] at hg
    · rw [h1] at hg; simp [Value.ownBlock] at hg; subst hg; rw [hl] at h3; cases h3
  · have hbl := hm.below
    exact ⟨hbl.os, hbl.tape, hbl.output, by rw [putObj_size]; exact hbl.size, fun k hk => (World.putObj_heap_other (by omega)).trans (hbl.block k hk)⟩

/-- The record of a loop is written anew. -/
theorem Mem.setLoop (hm : Mem P c bx tp w) {id : Nat} {i i' : LInfo} {cells : List AV} (hob : obAt bx id = some (.ob (.loop i) cells)) (h1 : i'.ntmps = i.ntmps) (h2 : i'.ks = i.ks) (h3 : i'.ps = i.ps) (h4 : i'.assign = i.assign) (h5 : i'.body = i.body) :
    ∃ r, w.heap[c.β id]? = some (.loop r) ∧ r.state = i.st ∧ r.pending = i.pend ∧ Mem P c (setBox bx id [.ob (.loop i') cells]) tp (w.putObj (c.β id) (.loop { r with state := i'.st, pending := i'.pend })) := by
  have hmem := obAt_mem hob
  obtain ⟨o, ho, hr⟩ := (hm.boxes _ hmem).row
  obtain ⟨tmps, fn, defers, ca, cb, rfl, g1, g2, g3⟩ := hr.ob
  refine ⟨_, ho, rfl, rfl, ?_⟩
  have he := Ext.putObj c.next c w (r' := { state := i'.st, pending := i'.pend, fn, tmps, params := i.ps.toArray, assign := ca, body := cb, defers }) ho
  have hnew : ORep P c w (.ob (.loop i') cells) (.loop { state := i'.st, pending := i'.pend, fn, tmps, params := i.ps.toArray, assign := ca, body := cb, defers }) :=
    ⟨tmps, fn, defers, ca, cb, by rw [h3], by rw [h1, h4, h5]; exact g1, by rw [h1]; exact g2, by rw [h2]; exact g3⟩
  refine ⟨?_, pairwise_setBox (R := fun i j => c.β i ≠ c.β j) hm.apart, ?_, hm.tapart, hm.tids, ?_, ?_, by rw [putObj_size]; exact hm.baseLe, by rw [putObj_size]; exact hm.plt, hm.pold⟩
  · intro x hx
    rcases setBox_other hx with rfl | ⟨k1, k2 | ⟨y, hy, k2⟩⟩
    · exact ⟨(hm.boxes _ hmem).lt, (hm.boxes _ hmem).base, (hm.boxes _ hmem).free, _, World.putObj_heap_same (heap_lt ho), .inr ⟨_, rfl, hnew.ext he (Nat.le_refl _)⟩⟩
    · exact (hm.boxes x k1).ext he (Nat.le_refl _) (World.putObj_heap_other (hm.β_ne k1 hmem k2)) fun _ hj => hj
    · exact (k2 hm.ids_apart).elim
  · intro x hx
    refine (hm.tips x hx).ext he (Nat.le_refl _) (fun g hg => World.putObj_heap_other fun e => ?_) fun _ _ _ hj => hj
    exact hm.cross x hx _ hmem (by rw [hg, e])
  · intro x hx y hy
    rcases setBox_other hy with rfl | ⟨k1, _⟩
    · exact hm.cross x hx (id, [.ob (.loop i) cells]) hmem
    · exact hm.cross x hx y k1
  · have hbl := hm.below
    have := (hm.boxes _ hmem).base
    exact ⟨hbl.os, hbl.tape, hbl.output, by rw [putObj_size]; exact hbl.size, fun k hk => (World.putObj_heap_other (by simp only at this; omega)).trans (hbl.block k hk)⟩

theorem roundSlots_rep : ∀ {ps : List Nat} {args : List AV} {vs : List Value} {sl : List (Nat × Option AV)} {tmps : Array Value}, RepL P c w args vs → args.length = ps.length → (∀ p ∈ ps, p < tmps.size) →
    (∀ t av, look sl t = some av → Rep P c w av (tmps.getD t undef)) →
    (∀ t av, look (roundSlots sl ps args) t = some av → Rep P c w av (((ps.zip vs).foldl (fun (m : Array Value) (x : Nat × Value) => m.setIfInBounds x.1 x.2) tmps).getD t undef)) ∧
      ((ps.zip vs).foldl (fun (m : Array Value) (x : Nat × Value) => m.setIfInBounds x.1 x.2) tmps).size = tmps.size
  | [], args, vs, sl, tmps, _, _, _, hs => by
    refine ⟨?_, rfl⟩
    cases args <;> exact hs
  | p :: ps, [], vs, sl, tmps, hr, hl, _, hs => by simp at hl
  | p :: ps, x :: xs, vs, sl, tmps, hr, hl, hp, hs => by
    simp only [RepL] at hr
    obtain ⟨v, vs', rfl, h1, h2⟩ := hr
    have hpl := hp p (by simp)
    obtain ⟨g1, g2⟩ := roundSlots_rep (ps := ps) (args := xs) (vs := vs') (sl := (p, some x) :: sl) (tmps := tmps.setIfInBounds p v) h2 (by simpa using hl) (fun q hq => by simpa using hp q (List.mem_cons_of_mem _ hq)) (fun t av ht => by
      simp only [look] at ht
      split at ht
      · rename_i he; subst he
        simp only [Option.some.injEq] at ht; subst ht
        have : (tmps.setIfInBounds p v).getD p undef = v := by simp [hpl]
        rw [this]; exact h1
      · rename_i hne
        have : (tmps.setIfInBounds p v).getD t undef = tmps.getD t undef := by simp [Array.getElem?_setIfInBounds_ne hne]
        rw [this]; exact hs t av ht)
    exact ⟨g1, g2.trans (by simp)⟩

theorem zipSlots_rep : ∀ {ks : List Nat} {cells : List AV} {tmps : Array Value}, (∀ (j k : Nat) (av : AV), ks[j]? = some k → cells[j]? = some av → Rep P c w av (tmps.getD k undef)) → ∀ t av, look (zipSlots ks cells) t = some av → Rep P c w av (tmps.getD t undef)
  | [], _, _, _, t, av, ht => by simp [zipSlots, look] at ht
  | _ :: _, [], _, _, t, av, ht => by simp [zipSlots, look] at ht
  | k :: ks, x :: xs, tmps, h, t, av, ht => by
    simp only [zipSlots, look] at ht
    split at ht
    · rename_i he; subst he
      simp only [Option.some.injEq] at ht; subst ht
      exact h 0 k x rfl rfl
    · exact zipSlots_rep (ks := ks) (cells := xs) (fun j k av hj hc => h (j + 1) k av (by simpa using hj) (by simpa using hc)) t av ht

theorem setBox_obAt : ∀ {l : List (Nat × List AV)} {id : Nat} {x : AV} {k : OK} {cells : List AV}, obAt l id = some x → obAt (setBox l id [.ob k cells]) id = some (.ob k cells)
  | (i, v) :: l, id, x, k, cells, h => by
    simp only [obAt] at h
    simp only [setBox]
    split at h
    · rename_i he; subst he
      simp [obAt]
    · rename_i he
      rw [if_neg he]
      simp only [obAt, if_neg he]
      exact setBox_obAt h

/-- A ROUND: the assignment to the loop's own variables, and the body, walked in the frame that the record keeps. -/
theorem yieldOK_of_AWP {id : Nat} {i : LInfo} {cells args : List AV} {nx : Nat} {K : AV → List (Nat × List AV) → List (Nat × TypeId) → Nat → Prop} {B : State → Prop} (hob : obAt bx id = some (.ob (.loop i) cells)) (hargs : args.length = i.ps.length)
    (hps : ∀ p ∈ i.ps, p < i.ntmps)
    (hA : ∀ C, cCode P i.ntmps C = some i.assign → AWP P i.ntmps nx C (xThen' (busyQ id B)) ⟨roundSlots (zipSlots i.ks cells) i.ps args, bx, tp, nx⟩)
    (hB : ∀ C, cCode P i.ntmps C = some i.body → ∀ s, B s → AWP P i.ntmps nx C (roundQ id K) s) : YieldOK P id args bx tp nx K := by
  intro c w vs hm hn hr
  have hmem := obAt_mem hob
  obtain ⟨o, ho, hrep⟩ := (hm.boxes _ hmem).row
  obtain ⟨tmps, fn, defers, ca, cb, rfl, g1, g2, g3⟩ := hrep.ob
  have hlt := (hm.boxes _ hmem).lt
  have hlen : vs.size = args.length := by have := hr.length; simpa using this
  have hy := run_yield (P := P) (args := vs) ho (by simp [hlen, hargs])
  refine ⟨_, _, _, _, hy, ?_⟩
  have hfold : (i.ps.toArray.zip vs).foldl (fun (tmps : Array Value) (x : Nat × Value) => tmps.setIfInBounds x.1 x.2) tmps = (i.ps.zip vs.toList).foldl (fun (m : Array Value) (x : Nat × Value) => m.setIfInBounds x.1 x.2) tmps := by
    rw [← Array.foldl_toList, Array.toList_zip]
  obtain ⟨k1, k2⟩ := roundSlots_rep (sl := zipSlots i.ks cells) hr hargs (fun p hp => by rw [g2]; exact hps p hp) (zipSlots_rep g3)
  let c1 : Ctx := { c with floor := ⟨c.next, w.heap.size, some (c.β id)⟩ }
  have hrel : Rel P i.ntmps c1 ⟨roundSlots (zipSlots i.ks cells) i.ps args, bx, tp, nx⟩ { tmps := (i.ps.zip vs.toList).foldl (fun (m : Array Value) (x : Nat × Value) => m.setIfInBounds x.1 x.2) tmps, defers := [] } w := by
    refine ⟨fun t av ht => Rep.ext (Ext.refloor _ c w ⟨c.next, w.heap.size, some (c.β id)⟩) (Nat.le_refl _) _ _ (k1 t av ht), k2.trans g2, .nil, fun l hl => ?_, Nat.le_refl _, hm.refloor _, hn.symm, Nat.le_refl _⟩
    simp only [c1, Option.some.injEq] at hl; subst hl
    exact ⟨_, ho⟩
  refine roundIn_of_wpIn trivial ?_
  show ca.wpIn (fen (some (c.β id))) 0 P _ { tmps := (i.ps.toArray.zip vs).foldl (fun (tmps : Array Value) (x : Nat × Value) => tmps.setIfInBounds x.1 x.2) tmps, defers := [] } w
  rw [hfold]
  refine wpIn_mono (hA ca g1.1 c1 _ w (Nat.le_of_eq hn) hrel) ?_
  rintro e a1 w1 ⟨c2, s2, hx2, hf2, hr2, hq2⟩
  cases e with
  | normal =>
    simp only [xThen', busyQ] at hq2
    split at hq2
    · rename_i i1 cells1 hob1
      obtain ⟨hst, hq2⟩ := hq2
      have hβ : c2.β id = c.β id := (hx2.ids id hlt).1
      obtain ⟨r, hr1, hr2', hr3, hm2⟩ := hr2.mem.setLoop (i' := { i1 with st := .busy }) hob1 rfl rfl rfl rfl rfl
      have hb := run_beginRound (P := P) hr1 (hr2'.trans hst)
      have hpend : ({ r with state := LoopState.busy, pending := i1.pend } : Loop) = { r with state := LoopState.busy } := by rw [← hr3]
      simp only at hm2
      rw [hpend] at hm2
      rw [hβ] at hb hm2 hr1
      refine ⟨_, hb, ?_⟩
      have hX := Ext.putObj c2.next c2 w1 (r' := { r with state := LoopState.busy }) hr1
      have hrel3 : Rel P i.ntmps c2 { s2 with boxes := setBox s2.boxes id [.ob (.loop { i1 with st := .busy }) cells1] } a1 (w1.putObj (c.β id) (.loop { r with state := LoopState.busy })) :=
        ⟨fun t av ht => Rep.ext hX (Nat.le_refl _) _ _ (hr2.slots t av ht), hr2.size, hr2.marks.stays hX.stays rfl rfl, hr2.round.stays hX.stays rfl, by rw [putObj_size]; exact hr2.low, hm2, hr2.next, hr2.floor⟩
      have hB2 := hB cb g1.2 _ hq2 c2 a1 _ (by rw [hf2]; exact Nat.le_of_eq hn) hrel3
      have hro : c2.floor.round = some (c.β id) := by rw [hf2]
      rw [hro] at hB2
      refine wpIn_mono hB2 ?_
      rintro e a3 w3 ⟨c3, s3, hx3, hf3, hr3', hq3⟩
      have hxs : Ext c.next c w c3 w3 := by
        have h1 : Ext c.next c1 w c2 w1 := hx2
        have h2 : Ext c.next c2 w1 c2 (w1.putObj (c.β id) (.loop { r with state := LoopState.busy })) := hX.mono (by have := hr2.floor; rw [hf2] at this; exact this)
        have h3 : Ext c.next c2 (w1.putObj (c.β id) (.loop { r with state := LoopState.busy })) c3 w3 := by
          have hf : c2.floor.lim = c.next := by rw [hf2]
          rw [hf] at hx3; exact hx3
        have h4 := (h1.trans h2).trans h3
        exact ⟨h4.base, h4.w0, h4.p0, h4.size, h4.ids, h4.keep, h4.stays, h4.maps⟩
      have hf3' : c3.floor = c1.floor := hf3.trans hf2
      have hle : c.next ≤ c3.next := by have := hr3'.floor; rw [hf3'] at this; exact this
      simp only [roundQ] at hq3
      split at hq3
      · rename_i i3 cells3 hob3
        have hβ3 : c3.β id = c.β id := (hxs.ids id hlt).1
        have fin : ∀ (jump : Option Code) (st : LoopState), st = (if jump.isNone then .ready else .done) → K (.lit (.bool jump.isNone)) (setBox s3.boxes id [.ob (.loop { i3 with st := st, pend := jump }) cells3]) s3.tips s3.next →
            ∃ v w', (Instr.endRound (c.β id) jump).run P w3 = .ok v w' ∧ (∃ v' c' r bx' tp', Ending.returned v = .returned v' ∧ Ext c.next c w c' w' ∧ c.next ≤ c'.next ∧ c'.floor = c.floor ∧ Mem P c' bx' tp' w' ∧ Rep P c' w' r v' ∧ K r bx' tp' c'.next) := by
          intro jump st hst hK
          obtain ⟨r3, k1, k2, k3, hm3⟩ := hr3'.mem.setLoop (i' := { i3 with st := st, pend := jump }) hob3 rfl rfl rfl rfl rfl
          have he := run_endRound (P := P) jump k1
          rw [hβ3] at he hm3 k1
          rw [← hst] at he
          have hX3 := Ext.putObj c3.next c3 w3 (r' := { r3 with state := st, pending := jump }) k1
          have hX4 : Ext c.next c w c3 (w3.putObj (c.β id) (.loop { r3 with state := st, pending := jump })) := hxs.trans (hX3.mono hle)
          refine ⟨_, _, he, .bool jump.isNone, { c3 with floor := c.floor }, .lit (.bool jump.isNone), _, _, rfl, ⟨hX4.base, hX4.w0, hX4.p0, hX4.size, hX4.ids, hX4.keep, hX4.stays, hX4.maps⟩, hle, rfl, hm3.refloor _, by simp [Rep], ?_⟩
          show K _ _ _ c3.next
          rw [← hr3'.next]; exact hK
        cases e with
        | normal => exact fin none .ready rfl hq3
        | ret => exact fin (some .ret) .done rfl hq3
        | exit k => exact fin (some (.exit k)) .done rfl hq3
        | _ => exact hq3.elim
      · exact hq3.elim
    · exact hq2.elim
  | _ => exact hq2.elim

/-- THE STATEMENT: the function is called with a record of its own. -/
theorem AWP_rangeFunc {g : Operand} {ps : Array Tmp} {A B : Code} {A' B' : ACode} {Q : Exit → State → Prop} {it : FuncId} {first cap cells : List AV} {ks : List Nat} {x : AX} (hx : cX g = some x) (hg : s.ev x = some (.fn (.func it) first cap)) (hA : cCode P N A = some A') (hB : cCode P N B = some B') (hks : evTs s ks = some cells)
    (hK : CallOK P it (first ++ [.rf .yield s.next] ++ cap) ((s.next, [.ob (.loop ⟨N, ks, ps.toList, A', B', .ready, none⟩) cells]) :: s.boxes) s.tips (s.next + 1) fun _ bx tp nx => rfnPost Q s.slots s.next bx tp nx) :
    AWP P N F (.rangeFunc g ps A B) Q s := by
  intro c a w hfl h
  have hgv := ev_sound h hx hg
  simp only [Rep] at hgv
  obtain ⟨a1, a2, hgv, hfirst, hcap⟩ := hgv
  refine wpIn_rangeFunc fun fn _ => ?_
  have hnx := h.next
  -- the world behind the record
  have enter : ∃ (mark : List Deferred) (wm w1 : World) (rec : Loop), (Instr.enterLoop fn a.tmps ps A B (fen c.floor.round).round).run P w = .ok (wm.heap.size, mark) w1 ∧ w1 = wm.alloc (.loop rec) ∧ Below w.heap.size w wm ∧
      rec = { state := .ready, pending := none, fn, tmps := a.tmps, params := ps, assign := A, body := B, defers := rec.defers } ∧
      ∃ ms : List Nat, mark = ms.map markOf ∧ ms.Nodup ∧ ∀ r ∈ ms, w.heap.size ≤ r ∧ wm.heap[r]? = some (.deferred (some [])) := by
    cases hro : c.floor.round with
    | none =>
      refine ⟨_, w.alloc (.deferred (some [])), _, _, (by rw [World.size_alloc]; exact run_enterLoop_outer _ _ _ _ _), rfl, (Below.refl _ w).alloc (Nat.le_refl _) _, rfl, [w.heap.size], rfl, by simp, fun r hr => ?_⟩
      simp only [List.mem_singleton] at hr; subst hr
      exact ⟨Nat.le_refl _, heap_alloc_new w _⟩
    | some l =>
      obtain ⟨r, hr⟩ := h.round l hro
      exact ⟨_, w, _, _, run_enterLoop_inner hr _ _ _ _ _, rfl, Below.refl _ w, rfl, [], rfl, List.nodup_nil, fun r hr => by cases hr⟩
  obtain ⟨mark, wm, w1, rec, hent, hw1, hbel, hrec, ms, hms, hmn, hmr⟩ := enter
  have hxm : Ext c.next c w c wm := Ext.below _ hbel
  have hmm : Mem P c s.boxes s.tips wm := h.mem.belowStep hbel
  have hor : ORep P c wm (.ob (.loop ⟨N, ks, ps.toList, A', B', .ready, none⟩) cells) (.loop rec) := by
    refine ⟨a.tmps, fn, rec.defers, A, B, by simpa using hrec, ⟨hA, hB⟩, h.size, fun j k av hj hk => ?_⟩
    exact Rep.ext hxm (Nat.le_refl _) _ _ (h.slots k av (evTs_get hks j k av hj hk))
  have hm1 := hmm.newOb (cells := [.ob (.loop ⟨N, ks, ps.toList, A', B', .ready, none⟩) cells]) (.inr ⟨_, rfl, hor⟩)
  have hx1 := Ext.newBox c wm (.loop rec)
  rw [← hw1] at hm1 hx1
  have hX1 := hxm.trans hx1
  have hβ : (c.newBox wm.heap.size).β c.next = wm.heap.size := by simp [Ctx.newBox]
  have hargs : RepL P (c.newBox wm.heap.size) w1 (first ++ [.rf .yield s.next] ++ cap) (a1 ++ #[Value.func (.yield wm.heap.size) #[] #[]] ++ a2).toList := by
    simp only [Array.toList_append]
    refine ((RepL.ext hX1 (Nat.le_succ _) _ _ hfirst).append ?_).append (RepL.ext hX1 (Nat.le_succ _) _ _ hcap)
    simp only [RepL, Rep]
    exact ⟨_, [], rfl, ⟨by rw [hnx]; exact Nat.lt_succ_self _, by rw [hnx, hβ]; rfl⟩, rfl⟩
  refine ⟨wm.heap.size, mark, w1, { target := .fn (.func it) a2, args := a1 ++ #[.func (.yield wm.heap.size) #[] #[]] }, w1, it, a1 ++ #[.func (.yield wm.heap.size) #[] #[]] ++ a2, w1, hent, ?_, fun _ _ => trivial, ?_, depth_any _ _, callsIn_wide.2 ?_⟩
  · simp [resolve, hgv, Deferred.ofValue]
    rfl
  · simp [invoke]
    exact hK.1 _ _
  · have := hK.2 (c.newBox wm.heap.size) w1 _ (by rw [hnx]; exact hm1) (by rw [hnx]; rfl) hargs
    refine this.mono ?_
    rintro e w3 ⟨v, c', r, bx', tp', rfl, k1, k2, k3, k4, k5, k6⟩
    simp only [rfnPost] at k6
    have hX3 : Ext c.next c w c' w3 := hX1.trans (k1.mono (Nat.le_succ _))
    have hn3 : c.next ≤ c'.next := Nat.le_trans (Nat.le_succ _) k2
    have hf3 : c'.floor = c.floor := k3
    split at k6
    · rename_i i cells' hob
      have hmem := obAt_mem hob
      have hβ3 : c'.β s.next = wm.heap.size := by rw [hnx, (k1.ids c.next (Nat.lt_succ_self _)).1, hβ]
      obtain ⟨o, ho, hrep⟩ := (k4.boxes _ hmem).row
      obtain ⟨tmps, fn', defers, ca, cb, rfl, _, _⟩ := hrep.ob
      simp only at ho
      rw [hβ3] at ho
      have hbase := (k4.boxes _ hmem).base
      simp only at hbase
      rw [hβ3] at hbase
      have hsub := delBox_sub bx' s.next
      have hmf := k4.forget hsub (List.Sublist.refl _)
      have fin : ∀ (jump : Option Code), i.pend = jump → i.st ≠ .busy → (∀ a' w4, Rel P N c' ⟨s.slots, delBox bx' s.next, tp', c'.next⟩ a' w4 → Ext c.floor.lim c w c' w4 → a'.tmps = a.tmps → a'.defers = mark ++ a.defers →
          (match jump with
           | none => (fun e a' w' => ∃ c' s', Ext c.floor.lim c w c' w' ∧ c'.floor = c.floor ∧ Rel P N c' s' a' w' ∧ Q e s') .normal a' w4
           | some cd => cd.wpIn (fen c.floor.round) 0 P (fun e a' w' => ∃ c' s', Ext c.floor.lim c w c' w' ∧ c'.floor = c.floor ∧ Rel P N c' s' a' w' ∧ Q e s') a' w4)) →
          rangePost (fen c.floor.round) 0 P wm.heap.size (fun e a' w' => ∃ c' s', Ext c.floor.lim c w c' w' ∧ c'.floor = c.floor ∧ Rel P N c' s' a' w' ∧ Q e s') { a with defers := mark ++ a.defers } (.returned v) w3 := by
        intro jump hj hst hK
        have he := run_endLoop (P := P) ho hst
        refine ⟨_, _, he, ?_⟩
        have hX4 := Ext.putObj c'.next c' w3 (r' := { state := .exhausted, pending := i.pend, fn := fn', tmps := tmps, params := i.ps.toArray, assign := ca, body := cb, defers := defers }) ho
        have hX5 := hX3.trans (hX4.mono hn3)
        have hne : ∀ y ∈ delBox bx' s.next, c'.β y.1 ≠ wm.heap.size := fun y hy e => by
          rw [← hβ3] at e
          exact k4.β_ne (hsub.subset hy) hmem (delBox_ne k4.ids_apart hy ⟨_, hmem⟩) e
        have hm5 := hmf.putObj (r' := { state := .exhausted, pending := i.pend, fn := fn', tmps := tmps, params := i.ps.toArray, assign := ca, body := cb, defers := defers }) ho hbase hne
        have hrel : Rel P N c' ⟨s.slots, delBox bx' s.next, tp', c'.next⟩ { a with defers := mark ++ a.defers } (w3.putObj wm.heap.size (.loop { state := .exhausted, pending := i.pend, fn := fn', tmps := tmps, params := i.ps.toArray, assign := ca, body := cb, defers := defers })) := by
          refine ⟨fun t av ht => Rep.ext hX5 hn3 _ _ (h.slots t av ht), h.size, ?_, h.round.stays hX5.stays hf3, by rw [hf3]; exact Nat.le_trans h.low hX5.size, hm5, rfl, by rw [hf3]; exact Nat.le_trans h.floor hn3⟩
          obtain ⟨rs, r1, r2, r3⟩ := h.marks
          refine ⟨ms ++ rs, by rw [hms, r1, List.map_append], List.nodup_append.2 ⟨hmn, r2, fun x hx y hy e => ?_⟩, fun r hr => ?_⟩
          · have h1 := (hmr x hx).1
            have h2 := heap_lt (r3 y hy).2.2
            omega
          · rcases List.mem_append.1 hr with hr | hr
            · have h1 := hmr r hr
              refine ⟨by rw [hX5.base]; exact Nat.le_trans h.mem.baseLe h1.1, by rw [hf3]; exact Nat.le_trans h.low h1.1, ?_⟩
              have h2 := heap_lt h1.2
              have h3 := (hx1.stays r h2).2.1 h1.2
              have h4 := (k1.stays r (heap_lt h3)).2.1 h3
              exact (hX4.stays r (heap_lt h4)).2.1 h4
            · have h1 := r3 r hr
              exact ⟨by rw [hX5.base]; exact h1.1, by rw [hf3]; exact h1.2.1, (hX5.stays r (heap_lt h1.2.2)).2.1 h1.2.2⟩
        have := hK _ _ hrel (hX5.mono h.floor) rfl rfl
        subst hj
        exact this
      have goal : rangePost (fen c.floor.round) 0 P wm.heap.size (fun e a' w' => ∃ c' s', Ext c.floor.lim c w c' w' ∧ c'.floor = c.floor ∧ Rel P N c' s' a' w' ∧ Q e s') { a with defers := mark ++ a.defers } (.returned v) w3 := by
        split at k6
        · rename_i hst hp
          exact fin none hp (by rw [hst]; simp) fun a' w4 hr hx _ _ => ⟨c', _, hx, hf3, hr, k6⟩
        · rename_i hst hp
          exact fin (some .ret) hp (by rw [hst]; simp) fun a' w4 hr hx _ _ => wpIn_ret ⟨c', _, hx, hf3, hr, k6⟩
        · rename_i k hst hp
          exact fin (some (.exit k)) hp (by rw [hst]; simp) fun a' w4 hr hx _ _ => wpIn_exit ⟨c', _, hx, hf3, hr, k6⟩
        · exact k6.elim
      exact goal
    · exact k6.elim
end
end Go.Ab
