/-
Maps and iterators in memory: they are made, and written anew. Conditions: none.
-/
import Derived.Test.YtbnaepdeakcljaaAbSound5
import Derived.RangeFuncRecord
import Derived.Maps.RangeRun
set_option linter.unusedSimpArgs false
set_option linter.unusedVariables false
set_option linter.unusedSectionVars false
namespace Go.Ab
open Go Go.RowKit

section
variable {P : Program} {N : Nat} {c c' : Ctx} {w w' : World} {s : State} {a : Act} {bx : List (Nat × List AV)} {tp : List (Nat × TypeId)}

/-- Neither cells nor a record of control. -/
def ObjPlain (o : Obj) : Prop := (∀ arr t f, o ≠ .cells arr t f) ∧ (∀ r, o ≠ .loop r) ∧ ∀ d, o ≠ .deferred d

theorem plain_map (es : Array MapEntry) (n : Nat) : ObjPlain (.map es n) := ⟨fun _ _ _ h => (by cases h), fun _ h => (by cases h), fun _ h => (by cases h)⟩
theorem plain_iter (b : ByteArray) (n : Nat) : ObjPlain (.stringIter b n) := ⟨fun _ _ _ h => (by cases h), fun _ h => (by cases h), fun _ h => (by cases h)⟩
theorem plain_miter (m : Option Nat) (n : Nat) (q : Array Nat) (k : Nat) : ObjPlain (.mapIter m n q k) := ⟨fun _ _ _ h => (by cases h), fun _ h => (by cases h), fun _ h => (by cases h)⟩

theorem putOb_size (w : World) (l : Nat) (o : Obj) : (w.putObj l o).heap.size = w.heap.size := by simp [World.putObj]

theorem ObjPlain.cell {o : Obj} (hp : ObjPlain o) {b : Nat} (hb : w.heap[b]? = some o) (j : Nat) : w.cell? ⟨b, j, none⟩ = none := by
  unfold World.cell?
  rw [hb]
  cases o <;> first | rfl | exact absurd rfl (hp.1 _ _ _)

theorem Ext.putOb (n : Nat) (c : Ctx) (w : World) {l : Nat} {o o' : Obj} (hl : w.heap[l]? = some o) (hp : ObjPlain o) (hp' : ObjPlain o') : Ext n c w c (w.putObj l o') := by
  refine ⟨rfl, rfl, rfl, by rw [putOb_size]; exact Nat.le_refl _, fun _ _ => ⟨rfl, rfl⟩, fun b j _ hpr => ⟨hpr, ?_⟩, fun b hb => ?_⟩
  · by_cases he : b = l
    · subst he
      rw [hp.cell hl, hp'.cell (World.putObj_heap_same (heap_lt hl))]
    · exact World.cell?_of_block (a := ⟨b, j, none⟩) (World.putObj_heap_other he)
  · by_cases he : b = l
    · subst he
      exact ⟨fun r h => by rw [hl] at h; simp only [Option.some.injEq] at h; exact absurd h (hp.2.1 r), fun h => by rw [hl] at h; simp only [Option.some.injEq] at h; exact absurd h (hp.2.2 _)⟩
    · rw [World.putObj_heap_other he]
      exact ⟨fun r h => ⟨r, h⟩, id⟩

/-- Such an object is written anew. -/
theorem Mem.setOb (hm : Mem P c bx tp w) {id : Nat} {x y : AV} {o o' : Obj} (hob : obAt bx id = some x) (ho : w.heap[c.β id]? = some o) (hp : ObjPlain o) (hp' : ObjPlain o') (hy : ORep P c w y o') :
    Mem P c (setBox bx id [y]) tp (w.putObj (c.β id) o') := by
  have hmem := obAt_mem hob
  have he := Ext.putOb c.next c w ho hp hp'
  refine ⟨?_, pairwise_setBox (R := fun i j => c.β i ≠ c.β j) hm.apart, ?_, hm.tapart, hm.tids, ?_, ?_, by rw [putOb_size]; exact hm.baseLe, by rw [putOb_size]; exact hm.plt, hm.pold⟩
  · intro z hz
    rcases setBox_other hz with rfl | ⟨k1, k2 | ⟨y, hy, k2⟩⟩
    · exact ⟨(hm.boxes _ hmem).lt, (hm.boxes _ hmem).base, (hm.boxes _ hmem).free, _, World.putObj_heap_same (heap_lt ho), .inr ⟨_, rfl, hy.ext he (Nat.le_refl _)⟩⟩
    · exact (hm.boxes z k1).ext he (Nat.le_refl _) (World.putObj_heap_other (hm.β_ne k1 hmem k2)) fun _ hj => hj
    · exact (k2 hm.ids_apart).elim
  · intro z hz
    refine (hm.tips z hz).ext he (Nat.le_refl _) (fun g hg => World.putObj_heap_other fun e => ?_) fun _ _ _ hj => hj
    exact hm.cross z hz _ hmem (by rw [hg, e])
  · intro z hz y hy
    rcases setBox_other hy with rfl | ⟨k1, _⟩
    · exact hm.cross z hz (id, [x]) hmem
    · exact hm.cross z hz y k1
  · have hbl := hm.below
    have := (hm.boxes _ hmem).base
    exact ⟨hbl.os, hbl.tape, hbl.output, by rw [putOb_size]; exact hbl.size, fun k hk => (World.putObj_heap_other (by simp only at this; omega)).trans (hbl.block k hk)⟩

theorem flat_modify : ∀ (es : List MapEntry) (i : Nat) {e : MapEntry} {key v : Value}, es[i]? = some e → e.key = key → ((es.modify i fun e => { e with key, val := v }).flatMap fun e => [e.key, e.val]) = (es.flatMap fun e => [e.key, e.val]).set (2 * i + 1) v
  | [], i, e, key, v, h, _ => by simp at h
  | x :: es, 0, e, key, v, h, hk => by
    simp only [List.getElem?_cons_zero, Option.some.injEq] at h
    subst h
    simp [List.modify_zero_cons, hk]
  | x :: es, i + 1, e, key, v, h, hk => by
    have ih := flat_modify es i (v := v) (by simpa using h) hk
    simp only [List.modify_succ_cons, List.flatMap_cons, ih, List.cons_append, List.nil_append]
    rw [show 2 * (i + 1) + 1 = (2 * i + 1) + 1 + 1 by omega, List.set_cons_succ, List.set_cons_succ]

theorem eqKey_eq {x y : Value} (h : eqKey x y = some true) : x = y := by
  unfold eqKey at h
  split at h
  · split at h
    · rename_i hk; simp only [Option.some.injEq, beq_iff_eq] at h; rw [hk, h]
    · cases h
  · cases h

/-- A key with its value is laid into a map. -/
theorem mup_sound (h : Rel P N c s a w) {t kt et : TypeId} (hu : P.underlying t = some (.map kt et)) (hk : isIntT P kt = true) {mv kv xv : AV} {m k x : Value} (hm : Rep P c w mv m) (hkv : Rep P c w kv k) (hx : Rep P c w xv x)
    {u : Upd} (he : XE.mup.eff s.boxes s.tips s.next [mv, kv, xv] = some u) : ∃ w', (Instr.mapUpdate t m k x).run P w = .ok () w' ∧ u.val = none ∧ u.next = s.next ∧ u.tips = s.tips ∧ Ext c.next c w c w' ∧ Mem P c u.boxes s.tips w' := by
  obtain ⟨kk, hkk⟩ := isIntT_desc hk
  unfold XE.eff at he
  split at he
  · rename_i he' _; cases he'
  · rename_i id key v _ hxs
    simp only [List.cons.injEq, and_true] at hxs
    obtain ⟨rfl, rfl, rfl⟩ := hxs
    simp only [Rep, refV] at hm hkv
    obtain ⟨hid, rfl⟩ := hm
    subst hkv
    split at he
    · rename_i k0 e0 n cells ho
      obtain ⟨es, g1, g2, g3, g4⟩ := map_at h ho
      split at he
      · rename_i i av' hkey hf
        simp only [Option.some.injEq] at he; subst he
        obtain ⟨ki, kn, rfl⟩ := isKey_int hkey
        rcases findA_sound (kk := kk) es.toList cells 0 g3 hf with ⟨hn, _⟩ | ⟨j, av, v', e, hj, q1, q2, q3, q4, q5⟩
        · cases hn
        · simp only [Option.some.injEq, Prod.mk.injEq, Nat.zero_add] at hj
          obtain ⟨rfl, rfl⟩ := hj
          have hek := (eqKey_eq q3).symm
          have q1' : es[i]? = some e := by simpa using q1
          have hnew : ORep P c w (.ob (.map k0 e0 n) (cells.set (2 * i + 1) xv)) (.map (es.modify i fun e => { e with key := .int ki kn, val := x }) n) := by
            refine ⟨_, rfl, by simp [g2], ?_, fun j' e' hj' => ?_⟩
            · rw [Array.toList_modify, flat_modify es.toList i q1 hek]
              exact g3.set _ hx
            · rw [Array.getElem?_modify] at hj'
              split at hj'
              · cases hg : es[j']? with
                | none => rw [hg] at hj'; cases hj'
                | some e1 =>
                  rw [hg] at hj'
                  simp only [Option.map_some, Option.some.injEq] at hj'
                  subst hj'
                  exact (g4 _ e1 hg : e1.born = j')
              · exact g4 _ _ hj'
          refine ⟨_, ?_, rfl, rfl, rfl, Ext.putOb _ _ _ g1 (plain_map _ _) (plain_map _ _), h.mem.setOb ho g1 (plain_map _ _) (plain_map _ _) hnew⟩
          have hst : (Instr.keyThatStays e.key (.int ki kn)).run P w = .ok (.int ki kn) w := by
            rw [hek]; simp [Instr.keyThatStays, Instr.sameBits]
          simp only [Nat.zero_add] at q5
          simp [Instr.mapUpdate, run_underlying hu, MapKept.run_getObj_map g1, run_keyInt hkk, run_findKey hkk q5, q1', hst, MapKept.run_setObj_map _ g1, Result.andThen, World.putObj]
      · rename_i hkey hf
        simp only [Option.some.injEq] at he; subst he
        obtain ⟨ki, kn, rfl⟩ := isKey_int hkey
        rcases findA_sound (kk := kk) es.toList cells 0 g3 hf with ⟨_, q⟩ | ⟨j, av, v', e, hj, _⟩
        · have hnew : ORep P c w (.ob (.map k0 e0 (n + 1)) (cells ++ [.lit (.int ki kn), xv])) (.map (es.push { key := .int ki kn, val := x, born := n }) (n + 1)) := by
            refine ⟨_, rfl, by simp [g2], ?_, fun j' e' hj' => ?_⟩
            · simp only [Array.toList_push, List.flatMap_append, List.flatMap_cons, List.flatMap_nil, List.append_nil]
              refine g3.append ?_
              simp only [RepL]
              exact ⟨_, _, rfl, by simp only [Rep], _, _, rfl, hx, rfl⟩
            · rw [Array.getElem?_push] at hj'
              split at hj'
              · rename_i hjn
                simp only [Option.some.injEq] at hj'; subst hj'
                simp [hjn, g2]
              · exact g4 _ _ hj'
          refine ⟨_, ?_, rfl, rfl, rfl, Ext.putOb _ _ _ g1 (plain_map _ _) (plain_map _ _), h.mem.setOb ho g1 (plain_map _ _) (plain_map _ _) hnew⟩
          simp [Instr.mapUpdate, run_underlying hu, MapKept.run_getObj_map g1, run_keyInt hkk, run_findKey hkk q, MapKept.run_setObj_map _ g1, Result.andThen, World.putObj]
        · cases hj
      · cases he
    · cases he
  all_goals first | (rename_i he' _; cases he'; done) | (cases he; done)

/-- A loop over a string, or over a map, begins. -/
theorem rngS_sound {t : TypeId} (hu : P.underlying t = some .string) {xv : AV} {x : Value} (hx : Rep P c w xv x)
    {u : Upd} (he : XE.rngS.eff s.boxes s.tips s.next [xv] = some u) : ∃ o cells, (Instr.range t x).run P w = .ok (.pointer (some ⟨w.heap.size, 0, none⟩)) (w.alloc o) ∧ u = ⟨some (.rf .iter s.next), (s.next, cells) :: s.boxes, s.tips, s.next + 1⟩ ∧ BoxRep P c w cells o := by
  unfold XE.eff at he
  split at he
  · rename_i he' _; cases he'
  · rename_i he' _; cases he'
  · rename_i b _ hxs
    simp only [List.cons.injEq, and_true] at hxs; subst hxs
    simp only [Rep] at hx; subst hx
    simp only [Option.some.injEq] at he
    exact ⟨.stringIter b 0, _, by simp [Instr.range, run_underlying hu], he.symm, .inr ⟨_, rfl, rfl⟩⟩
  · rename_i he' _; cases he'
  · cases he

theorem rngM_sound (h : Rel P N c s a w) {t kt et : TypeId} (hu : P.underlying t = some (.map kt et)) {xv : AV} {x : Value} (hx : Rep P c w xv x)
    {u : Upd} (he : XE.rngM.eff s.boxes s.tips s.next [xv] = some u) : ∃ o cells, (Instr.range t x).run P w = .ok (.pointer (some ⟨w.heap.size, 0, none⟩)) (w.alloc o) ∧ u = ⟨some (.rf .iter s.next), (s.next, cells) :: s.boxes, s.tips, s.next + 1⟩ ∧ BoxRep P c w cells o := by
  unfold XE.eff at he
  split at he
  · rename_i he' _; cases he'
  · rename_i he' _; cases he'
  · rename_i he' _; cases he'
  · rename_i id _ hxs
    simp only [List.cons.injEq, and_true] at hxs; subst hxs
    simp only [Rep, refV] at hx
    obtain ⟨hid, rfl⟩ := hx
    split at he
    · rename_i k e n cells ho
      obtain ⟨es, g1, g2, g3, g4⟩ := map_at h ho
      simp only [Option.some.injEq] at he
      exact ⟨.mapIter (some (c.β id)) n #[] n, _, by simp [Instr.range, run_underlying hu, MapKept.run_getObj_map g1, Result.andThen], he.symm, .inr ⟨_, rfl, c.β id, by simp only [RepL, Rep, refV]; exact ⟨_, _, rfl, ⟨hid, rfl⟩, rfl⟩, rfl⟩⟩
    · cases he
  · cases he

theorem mkm_sound {t : TypeId} {bx : List (Nat × List AV)} {tp : List (Nat × TypeId)} {nx : Nat} {u : Upd} (he : XE.mkm.eff bx tp nx [] = some u) :
    ∃ o cells, (Instr.makeMap t none).run P w = .ok (.map (some w.heap.size)) (w.alloc o) ∧ u = ⟨some (.rf .map nx), (nx, cells) :: bx, tp, nx + 1⟩ ∧ BoxRep P c w cells o := by
  simp only [XE.eff, Option.some.injEq] at he
  exact ⟨.map #[] 0, _, by simp [Instr.makeMap], he.symm, .inr ⟨_, rfl, #[], rfl, rfl, by simp [RepL], fun i e h => by simp at h⟩⟩

theorem Rel.putOb (h : Rel P N c s a w) {id : Nat} {x y : AV} {o o' : Obj} (hob : obAt s.boxes id = some x) (ho : w.heap[c.β id]? = some o) (hp : ObjPlain o) (hp' : ObjPlain o') (hy : ORep P c w y o') {dst : Option Nat} (hd : ∀ d, dst = some d → d < N) {av : AV} {v : Value}
    (hv : Rep P c w av v) : Ext c.next c w c (w.putObj (c.β id) o') ∧ Rel P N c ({ s with boxes := setBox s.boxes id [y] }.put dst av) (a.put dst v) (w.putObj (c.β id) o') := by
  have hx := Ext.putOb c.next c w ho hp hp'
  have := h.put (dst := dst) (av := av) (v := v) hd hx (Nat.le_refl _) rfl (h.mem.setOb hob ho hp hp' hy) (fun _ => hv.ext hx (Nat.le_refl _))
  rw [← h.next] at this
  exact ⟨hx, this⟩

/-- One step of a loop over a string or a map. -/
theorem next_sound (h : Rel P N c s a w) {it : AV} {x : Value} (hx : Rep P c w it x) {str : Bool} {ty : TypeId} {dst : Option Nat} (hd : ∀ d, dst = some d → d < N) {K : State → Prop} (hK : nextOf str it dst s K) :
    ∃ v w', (Instr.next x str ty).run P w = .ok v w' ∧ ∃ s', Ext c.next c w c w' ∧ Rel P N c s' (a.put dst v) w' ∧ K s' := by
  unfold nextOf at hK
  split at hK
  · rename_i id
    simp only [Rep, refV] at hx
    obtain ⟨hid, rfl⟩ := hx
    split at hK
    · rename_i b pos cs ho
      obtain ⟨o, k1, k2⟩ := ob_at h ho
      have k2 : o = .stringIter b pos := k2
      subst k2
      obtain ⟨rfl, hA, hB⟩ := hK
      by_cases hp : pos < b.size
      · have hr := h.putOb (y := .ob (.iter b (pos + (Utf8.decode b pos).2)) []) ho k1 (plain_iter _ _) (plain_iter _ _) rfl hd (av := .tu [.lit (.bool true), .lit (.int .i64 pos), .lit (.int .i32 (Utf8.decode b pos).1)]) (v := .tuple #[.bool true, goInt pos, .int .i32 (Utf8.decode b pos).1]) (by
          simp only [Rep]; exact ⟨_, rfl, by simp only [RepL]; exact ⟨_, _, rfl, by simp only [Rep], _, _, rfl, by simp only [Rep]; rfl, _, _, rfl, by simp only [Rep], rfl⟩⟩)
        refine ⟨_, _, ?_, _, hr.1, hr.2, hA hp⟩
        simp [Instr.next, getObj, setObj, Sem.run, k1, hp, Result.andThen, World.putObj]
      · refine ⟨.tuple #[.bool false], w, ?_, _, Ext.refl _ _ _, h.put0 hd (fun _ => by simp only [Rep]; exact ⟨_, rfl, by simp only [RepL]; exact ⟨_, _, rfl, by simp only [Rep], rfl⟩⟩), hB (by omega)⟩
        simp [Instr.next, getObj, Sem.run, k1, hp, Result.andThen]
    · rename_i seen since last m ho
      obtain ⟨o, k1, k2⟩ := ob_at h ho
      obtain ⟨hm, rfl⟩ := miter_map k2
      split at hK
      · rename_i k e n cells ho'
        obtain ⟨es, g1, g2, g3, g4⟩ := map_at h ho'
        obtain ⟨rfl, hn1, hn2, hA, hB⟩ := hK
        have hold : ∀ x ∈ es.toList, x.born < since := fun x hx => by
          obtain ⟨i, hi⟩ := List.mem_iff_getElem?.1 hx
          have := g4 i x (by simpa using hi)
          have hlt := (List.getElem?_eq_some_iff.1 hi).1
          simp at hlt
          omega
        rcases run_next_at w ty (c.β id) (c.β m) since last seen.toArray es n k1 g1 hold hn2 with ⟨q1, q2⟩ | ⟨e, he, w1, hw1, q2⟩
        · refine ⟨_, w, q2, _, Ext.refl _ _ _, h.put0 hd (fun _ => by simp only [Rep]; exact ⟨_, rfl, by simp only [RepL]; exact ⟨_, _, rfl, by simp only [Rep], rfl⟩⟩), hB fun i hi => ?_⟩
          have hq : (leftOf es seen.toArray) = #[] := Array.eq_empty_of_size_eq_zero q1
          unfold leftOf at hq
          rw [Array.filter_eq_empty_iff] at hq
          have := hq es[i] (by simp)
          have hb := g4 i es[i] (by simp [g2, hi])
          simpa [hb] using this
        · have he' := he
          unfold leftOf at he'
          simp only [Array.toList_filter, List.mem_filter, Bool.not_eq_true'] at he'
          obtain ⟨i, hi⟩ := List.mem_iff_getElem?.1 he'.1
          have hb := g4 i e (by simpa using hi)
          have hlt := (List.getElem?_eq_some_iff.1 hi).1
          simp only [Array.length_toList] at hlt
          obtain ⟨f1, f2⟩ := flat_get es.toList i hi
          obtain ⟨key, p1, p2⟩ := RepL.at g3 f1
          obtain ⟨v, p3, p4⟩ := RepL.at g3 f2
          have hns : i ∉ seen := by have := he'.2; rw [hb] at this; simpa using this
          have fin : ∀ (w1 : World), Rel P N c s a w1 → Ext c.next c w c w1 → w1.heap[c.β id]? = some (.mapIter (some (c.β m)) since seen.toArray last) → Rep P c w1 key e.key → Rep P c w1 v e.val →
              ∃ s', Ext c.next c w c (ChangeMaps.setBlock w1 (c.β id) (.mapIter (some (c.β m)) since (seen.toArray.push e.born) n)) ∧ Rel P N c s' (a.put dst (.tuple #[.bool true, e.key, e.val])) (ChangeMaps.setBlock w1 (c.β id) (.mapIter (some (c.β m)) since (seen.toArray.push e.born) n)) ∧ K s' := by
            intro w1 h1 hx1 k1' r1 r2
            have hr := h1.putOb (y := .ob (.miter (seen ++ [i]) since n) [.rf .map m]) ho k1' (plain_miter _ _ _ _) (plain_miter (some (c.β m)) since (seen.toArray.push e.born) n) ⟨c.β m, by simp only [RepL, Rep, refV]; exact ⟨_, _, rfl, ⟨hm, rfl⟩, rfl⟩, by rw [hb]; simp⟩ hd (av := .tu [.lit (.bool true), key, v]) (v := .tuple #[.bool true, e.key, e.val]) (by
              simp only [Rep]; exact ⟨_, rfl, by simp only [RepL]; exact ⟨_, _, rfl, by simp only [Rep], _, _, rfl, r1, _, _, rfl, r2, rfl⟩⟩)
            exact ⟨_, hx1.trans hr.1, hr.2, hA i key v (by omega) hns p1 p3⟩
          rcases hw1 with rfl | rfl
          · exact ⟨_, _, q2, fin _ h (Ext.refl _ _ _) k1 p2 p4⟩
          · have hdx := Ext.drew c.next c w
            have hrel : Rel P N c s a w.drew := by
              have := h.put (dst := none) (av := .lit undef) (v := undef) (fun _ hh => by cases hh) hdx (Nat.le_refl _) rfl h.mem.drew (fun hh => (hh rfl).elim)
              have hnx := h.next
              simp only [State.put] at this
              rw [← hnx] at this
              exact this
            exact ⟨_, _, q2, fin _ hrel hdx k1 (p2.ext hdx (Nat.le_refl _)) (p4.ext hdx (Nat.le_refl _))⟩
      · exact hK.elim
    · exact hK.elim
  · exact hK.elim
end
end Go.Ab
