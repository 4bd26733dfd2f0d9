/-
Maps and iterators in memory: they are made, and written anew. Conditions: none.
-/
import Derived.Test.YteekelelcbfekaaDoorAbSound5
import Derived.RangeFuncRecord
import Derived.Maps.RangeRun
import Derived.Laws.MakeOwn
set_option linter.unusedSimpArgs false
set_option linter.unusedVariables false
set_option linter.unusedSectionVars false
namespace Go.Ab
open Go Go.RowKit

section
variable {P : Program} {N : Nat} {c c' : Ctx} {w w' : World} {s : State} {a : Act} {bx : List (Nat × List AV)} {tp : List (Nat × TypeId)}

/-- Neither cells nor a record of control. -/
def ObjPlain (o : Obj) : Prop := (∀ arr t f, o ≠ .cells arr t f) ∧ (∀ r, o ≠ .loop r) ∧ ∀ d, o ≠ .deferred d

theorem plain_map (es : Array MapEntry) (n : Nat) : ObjPlain (.map es n) := ⟨fun _ _ _ h => (by cases h), fun _ h => (by cases h), fun _ h => (by cases h)⟩
theorem plain_iter (b : ByteArray) (n : Nat) : ObjPlain (.stringIter b n) := ⟨fun _ _ _ h => (by cases h), fun _ h => (by cases h), fun _ h => (by cases h)⟩
theorem plain_miter (m : Option Nat) (n : Nat) (q : Array Nat) (k : Nat) : ObjPlain (.mapIter m n q k) := ⟨fun _ _ _ h => (by cases h), fun _ h => (by cases h), fun _ h => (by cases h)⟩

theorem putOb_size (w : World) (l : Nat) (o : Obj) : (w.putObj l o).heap.size = w.heap.size := by simp [World.putObj]

theorem ObjPlain.cell {o : Obj} (hp : ObjPlain o) {b : Nat} (hb : w.heap[b]? = some o) (j : Nat) : w.cell? ⟨b, j, none⟩ = none := by
  unfold World.cell?
  rw [hb]
  cases o <;> first | rfl | exact absurd rfl (hp.1 _ _ _)

theorem Ext.putOb (n : Nat) (c : Ctx) (w : World) {l : Nat} {o o' : Obj} (hl : w.heap[l]? = some o) (hp : ObjPlain o) (hp' : ObjPlain o') (hf : ¬ c.prot l 0) : Ext n c w c (w.putObj l o') := by
  refine ⟨rfl, rfl, rfl, by rw [putOb_size]; exact Nat.le_refl _, fun _ _ => ⟨rfl, rfl⟩, fun b j _ hpr => ⟨hpr, ?_⟩, fun b hb => ?_, fun b es n hpr hb => (World.putObj_heap_other (show b ≠ l from fun e => hf (by rw [e] at hpr; exact hpr))).trans hb⟩
  · by_cases he : b = l
    · subst he
      rw [hp.cell hl, hp'.cell (World.putObj_heap_same (heap_lt hl))]
    · exact World.cell?_of_block (a := ⟨b, j, none⟩) (World.putObj_heap_other he)
  · by_cases he : b = l
    · subst he
      exact ⟨fun r h => by rw [hl] at h; simp only [Option.some.injEq] at h; exact absurd h (hp.2.1 r), fun h => by rw [hl] at h; simp only [Option.some.injEq] at h; exact absurd h (hp.2.2 _), fun a1 t1 f1 h => by rw [hl] at h; simp only [Option.some.injEq] at h; exact absurd h (hp.1 _ _ _)⟩
    · rw [World.putObj_heap_other he]
      exact ⟨fun r h => ⟨r, h⟩, id, fun a1 _ f h => ⟨a1, f, h, rfl⟩⟩

/-- Such an object is written anew. -/
theorem Mem.setOb (hm : Mem P c bx tp w) {id : Nat} {x y : AV} {o o' : Obj} (hob : obAt bx id = some x) (ho : w.heap[c.β id]? = some o) (hp : ObjPlain o) (hp' : ObjPlain o') (hy : ORep P c w y o') :
    Mem P c (setBox bx id [y]) tp (w.putObj (c.β id) o') := by
  have hmem := obAt_mem hob
  have he := Ext.putOb c.next c w ho hp hp' ((hm.boxes _ hmem).free 0)
  refine ⟨?_, pairwise_setBox (R := fun i j => c.β i ≠ c.β j) hm.apart, ?_, hm.tapart, hm.tids, ?_, ?_, by rw [putOb_size]; exact hm.baseLe, by rw [putOb_size]; exact hm.plt, hm.pold⟩
  · intro z hz
    rcases setBox_other hz with rfl | ⟨k1, k2 | ⟨y, hy, k2⟩⟩
    · exact ⟨(hm.boxes _ hmem).lt, (hm.boxes _ hmem).base, (hm.boxes _ hmem).free, _, World.putObj_heap_same (heap_lt ho), .inr ⟨_, rfl, hy.ext he (Nat.le_refl _)⟩⟩
    · exact (hm.boxes z k1).ext he (Nat.le_refl _) (World.putObj_heap_other (hm.β_ne k1 hmem k2)) fun _ hj => hj
    · exact (k2 hm.ids_apart).elim
  · intro z hz
    refine (hm.tips z hz).ext he (Nat.le_refl _) (fun g hg => World.putObj_heap_other fun e => ?_) fun _ _ _ hj => hj
    exact hm.cross z hz _ hmem (by rw [hg, e])
  · intro z hz y hy
    rcases setBox_other hy with rfl | ⟨k1, _⟩
    · exact hm.cross z hz (id, [x]) hmem
    · exact hm.cross z hz y k1
  · have hbl := hm.below
    have := (hm.boxes _ hmem).base
    exact ⟨hbl.os, hbl.tape, hbl.output, by rw [putOb_size]; exact hbl.size, fun k hk => (World.putObj_heap_other (by simp only at this; omega)).trans (hbl.block k hk)⟩

theorem flat_modify : ∀ (es : List MapEntry) (i : Nat) {e : MapEntry} {key v : Value}, es[i]? = some e → e.key = key → ((es.modify i fun e => { e with key, val := v }).flatMap fun e => [e.key, e.val]) = (es.flatMap fun e => [e.key, e.val]).set (2 * i + 1) v
  | [], i, e, key, v, h, _ => by simp at h
  | x :: es, 0, e, key, v, h, hk => by
    simp only [List.getElem?_cons_zero, Option.some.injEq] at h
    subst h
    simp [List.modify_zero_cons, hk]
  | x :: es, i + 1, e, key, v, h, hk => by
    have ih := flat_modify es i (v := v) (by simpa using h) hk
    simp only [List.modify_succ_cons, List.flatMap_cons, ih, List.cons_append, List.nil_append]
    rw [show 2 * (i + 1) + 1 = (2 * i + 1) + 1 + 1 by omega, List.set_cons_succ, List.set_cons_succ]

theorem eqKey_eq {x y : Value} (h : eqKey x y = some true) : x = y := by
  unfold eqKey at h
  split at h
  · split at h
    · rename_i hk; simp only [Option.some.injEq, beq_iff_eq] at h; rw [hk, h]
    · cases h
  · cases h

/-- A key with its value is laid into a map. -/
theorem mup_sound (h : Rel P N c s a w) {t kt et : TypeId} (hu : P.underlying t = some (.map kt et)) (hk : isIntT P kt = true) {mv kv xv : AV} {m k x : Value} (hm : Rep P c w mv m) (hkv : Rep P c w kv k) (hx : Rep P c w xv x)
    {u : Upd} (he : XE.mup.eff s.boxes s.tips s.next [mv, kv, xv] = some u) : ∃ w', (Instr.mapUpdate t m k x).run P w = .ok () w' ∧ u.val = none ∧ u.next = s.next ∧ u.tips = s.tips ∧ Ext c.next c w c w' ∧ Mem P c u.boxes s.tips w' := by
  obtain ⟨kk, hkk⟩ := isIntT_desc hk
  unfold XE.eff at he
  split at he
  · rename_i he' _; cases he'
  · rename_i id key v _ hxs
    simp only [List.cons.injEq, and_true] at hxs
    obtain ⟨rfl, rfl, rfl⟩ := hxs
    simp only [Rep, RefOK, refV] at hm hkv
    obtain ⟨hid, rfl⟩ := hm
    subst hkv
    split at he
    · rename_i k0 e0 n cells ho
      obtain ⟨es, g1, g2, g3, g4⟩ := map_at h ho
      split at he
      · rename_i i av' hkey hf
        simp only [Option.some.injEq] at he; subst he
        obtain ⟨ki, kn, rfl⟩ := isKey_int hkey
        rcases findA_sound (kk := kk) es.toList cells 0 g3 hf with ⟨hn, _⟩ | ⟨j, av, v', e, hj, q1, q2, q3, q4, q5⟩
        · cases hn
        · simp only [Option.some.injEq, Prod.mk.injEq, Nat.zero_add] at hj
          obtain ⟨rfl, rfl⟩ := hj
          have hek := (eqKey_eq q3).symm
          have q1' : es[i]? = some e := by simpa using q1
          have hnew : ORep P c w (.ob (.map k0 e0 n) (cells.set (2 * i + 1) xv)) (.map (es.modify i fun e => { e with key := .int ki kn, val := x }) n) := by
            refine ⟨_, rfl, by simp [g2], ?_, fun j' e' hj' => ?_⟩
            · rw [Array.toList_modify, flat_modify es.toList i q1 hek]
              exact g3.set _ hx
            · rw [Array.getElem?_modify] at hj'
              split at hj'
              · cases hg : es[j']? with
                | none => rw [hg] at hj'; cases hj'
                | some e1 =>
                  rw [hg] at hj'
                  simp only [Option.map_some, Option.some.injEq] at hj'
                  subst hj'
                  exact (g4 _ e1 hg : e1.born = j')
              · exact g4 _ _ hj'
          refine ⟨_, ?_, rfl, rfl, rfl, Ext.putOb _ _ _ g1 (plain_map _ _) (plain_map _ _) ((h.mem.boxes _ (obAt_mem ho)).free 0), h.mem.setOb ho g1 (plain_map _ _) (plain_map _ _) hnew⟩
          have hst : (Instr.keyThatStays e.key (.int ki kn)).run P w = .ok (.int ki kn) w := by
            rw [hek]; simp [Instr.keyThatStays, Instr.sameBits]
          simp only [Nat.zero_add] at q5
          simp [Instr.mapUpdate, run_underlying hu, MapKept.run_getObj_map g1, run_keyInt hkk, run_findKey hkk q5, q1', hst, MapKept.run_setObj_map _ g1, Result.andThen, World.putObj]
      · rename_i hkey hf
        simp only [Option.some.injEq] at he; subst he
        obtain ⟨ki, kn, rfl⟩ := isKey_int hkey
        rcases findA_sound (kk := kk) es.toList cells 0 g3 hf with ⟨_, q⟩ | ⟨j, av, v', e, hj, _⟩
        · have hnew : ORep P c w (.ob (.map k0 e0 (n + 1)) (cells ++ [.lit (.int ki kn), xv])) (.map (es.push { key := .int ki kn, val := x, born := n }) (n + 1)) := by
            refine ⟨_, rfl, by simp [g2], ?_, fun j' e' hj' => ?_⟩
            · simp only [Array.toList_push, List.flatMap_append, List.flatMap_cons, List.flatMap_nil, List.append_nil]
              refine g3.append ?_
              simp only [RepL]
              exact ⟨_, _, rfl, by simp only [Rep], _, _, rfl, hx, rfl⟩
            · rw [Array.getElem?_push] at hj'
              split at hj'
              · rename_i hjn
                simp only [Option.some.injEq] at hj'; subst hj'
                simp [hjn, g2]
              · exact g4 _ _ hj'
          refine ⟨_, ?_, rfl, rfl, rfl, Ext.putOb _ _ _ g1 (plain_map _ _) (plain_map _ _) ((h.mem.boxes _ (obAt_mem ho)).free 0), h.mem.setOb ho g1 (plain_map _ _) (plain_map _ _) hnew⟩
          simp [Instr.mapUpdate, run_underlying hu, MapKept.run_getObj_map g1, run_keyInt hkk, run_findKey hkk q, MapKept.run_setObj_map _ g1, Result.andThen, World.putObj]
        · cases hj
      · cases he
    · cases he
  all_goals first | (rename_i he' _; cases he'; done) | (rename_i he'; cases he'; done) | (cases he; done)

theorem bytesToList_inj {m n : ByteArray} (h : m.toList = n.toList) : m = n := by
  rw [ByteArray.toList_eq, ByteArray.toList_eq] at h
  cases m; cases n
  simp only [ByteArray.mk.injEq]
  exact Array.toList_inj.1 h

theorem eqK_same : ∀ {ks : List BK} {xs ys : List Value}, eqK ks xs ys = some true → xs = ys ∧ ∀ x ∈ xs, ∀ n, Instr.sameBits n x x = true
  | [], [], [], _ => ⟨rfl, fun _ hx => by cases hx⟩
  | [], [], _ :: _, h => by simp [eqK] at h
  | [], _ :: _, _, h => by simp [eqK] at h
  | _ :: _, [], _, h => by simp [eqK] at h
  | _ :: _, _ :: _, [], h => by simp [eqK] at h
  | k :: ks, x :: xs, y :: ys, h => by
    simp only [eqK] at h
    split at h
    · rename_i a b ha hb
      simp only [Option.some.injEq, Bool.and_eq_true] at h
      obtain ⟨rfl, rfl⟩ := h
      obtain ⟨h1, h2⟩ := eqK_same hb
      subst h1
      have hxy : x = y ∧ ∀ n, Instr.sameBits n x x = true := by
        cases k with
        | int => obtain ⟨j, m, n, rfl, rfl, e⟩ := eqV_int ha; have := eq_of_beq e.symm; subst this; exact ⟨rfl, fun n => by cases n <;> simp [Instr.sameBits]⟩
        | bool => obtain ⟨m, n, rfl, rfl, e⟩ := eqV_bool ha; have := eq_of_beq e.symm; subst this; exact ⟨rfl, fun n => by cases n <;> simp [Instr.sameBits]⟩
        | str =>
          obtain ⟨m, n, rfl, rfl, e⟩ := eqV_str ha
          have e2 := eq_of_beq e.symm
          have : m = n := bytesToList_inj e2
          subst this
          exact ⟨rfl, fun n => by cases n <;> simp only [Instr.sameBits] <;> exact (MapKept.bytes_beq m m).2 rfl⟩
      obtain ⟨rfl, hs⟩ := hxy
      exact ⟨rfl, fun z hz => (List.mem_cons.1 hz).elim (fun e => by rw [e]; exact hs) fun hz => h2 z hz⟩
    · simp at h

theorem stays_agg {ks : List BK} {xs : List Value} {ys : Array Value} (h : eqK ks xs ys.toList = some true) : (Instr.keyThatStays (.agg ys) (.agg xs.toArray)).run P w = .ok (.agg xs.toArray) w := by
  obtain ⟨rfl, hs⟩ := eqK_same h
  have : Instr.sameBits 10000 (.agg ys) (.agg ys.toList.toArray) = true := by
    rw [Array.toArray_toList]
    unfold Instr.sameBits
    simp only [beq_self_eq_true, Bool.true_and, List.all_eq_true]
    intro p hp
    obtain ⟨x, y⟩ := p
    have hxy := List.of_mem_zip hp
    have : x = y := by
      obtain ⟨i, hi, hg⟩ := List.mem_iff_getElem.1 hp
      rw [List.getElem_zip] at hg
      simp only [Prod.mk.injEq] at hg
      rw [← hg.1, ← hg.2]
    subst this
    exact hs x hxy.1 _
  unfold Instr.keyThatStays
  simp only [this, if_true, Sem.run_pure]

/-- A key of several numbers with its value is laid into a map. -/
theorem mupS_sound (h : Rel P N c s a w) {t kt et : TypeId} (hu : P.underlying t = some (.map kt et)) {ks : List BK} (hk : keyKs P kt = some ks) {mv kv xv : AV} {m k x : Value} (hm : Rep P c w mv m) (hkv : Rep P c w kv k) (hx : Rep P c w xv x)
    {u : Upd} (he : (XE.mupS ks).eff s.boxes s.tips s.next [mv, kv, xv] = some u) : ∃ w', (Instr.mapUpdate t m k x).run P w = .ok () w' ∧ u.val = none ∧ u.next = s.next ∧ u.tips = s.tips ∧ Ext c.next c w c w' ∧ Mem P c u.boxes s.tips w' := by
  obtain ⟨hks, fs, i0, hkt, _, _, _⟩ := keyKs_desc hk
  have he2 : mupSE ks s.boxes s.tips s.next [mv, kv, xv] = some u := by
    unfold XE.eff at he
    split at he
    all_goals first | (rename_i he' _; cases he'; done) | (rename_i he'; cases he'; done) | exact he
  unfold mupSE at he2
  split at he2
  · rename_i id l v hxs
    simp only [List.cons.injEq, and_true] at hxs
    obtain ⟨rfl, rfl, rfl⟩ := hxs
    simp only [Rep, RefOK, refV] at hm
    obtain ⟨hid, rfl⟩ := hm
    split at he2
    · rename_i k0 e0 n cells xs ho hvals
      obtain ⟨es, g1, g2, g3, g4⟩ := map_at h ho
      have hkey := ag_lits hvals hkv
      subst hkey
      split at he2
      · rename_i hlen
        have hck := run_checkS (w := w) hk hlen false
        have hfk : ∀ r, (Instr.findAsking kt (.agg xs.toArray) es.toList 0).run P w = .ok r w → (Instr.findKey kt (.agg xs.toArray) es.toList).run P w = .ok r w := fun r hr => by
          unfold Instr.findKey
          simp only [Sem.run_bind, run_underlying hkt, Result.andThen_ok]
          cases hes : es.toList with
          | nil => rw [hes] at hr; simpa [Instr.findNow, Instr.findAsking] using hr
          | cons e l => rw [hes] at hr; simpa [Instr.findNow, Instr.sameNow] using hr
        split at he2
        · rename_i i av' hf
          simp only [Option.some.injEq] at he2; subst he2
          rcases findS_sound hks es.toList cells 0 g3 hf with ⟨hn, _⟩ | ⟨j, av, v', e, ys, hj, q1, q2, q3, q4, q5, q6⟩
          · cases hn
          · simp only [Option.some.injEq, Prod.mk.injEq, Nat.zero_add] at hj
            obtain ⟨rfl, rfl⟩ := hj
            obtain ⟨hxy, _⟩ := eqK_same q4
            have hek : e.key = .agg xs.toArray := by rw [q3, hxy, Array.toArray_toList]
            have q1' : es[i]? = some e := by simpa using q1
            have hnew : ORep P c w (.ob (.map k0 e0 n) (cells.set (2 * i + 1) xv)) (.map (es.modify i fun e => { e with key := .agg xs.toArray, val := x }) n) := by
              refine ⟨_, rfl, by simp [g2], ?_, fun j' e' hj' => ?_⟩
              · rw [Array.toList_modify, flat_modify es.toList i q1 hek]
                exact g3.set _ hx
              · rw [Array.getElem?_modify] at hj'
                split at hj'
                · cases hg : es[j']? with
                  | none => rw [hg] at hj'; cases hj'
                  | some e1 =>
                    rw [hg] at hj'
                    simp only [Option.map_some, Option.some.injEq] at hj'
                    subst hj'
                    exact (g4 _ e1 hg : e1.born = j')
                · exact g4 _ _ hj'
            refine ⟨_, ?_, rfl, rfl, rfl, Ext.putOb _ _ _ g1 (plain_map _ _) (plain_map _ _) ((h.mem.boxes _ (obAt_mem ho)).free 0), h.mem.setOb ho g1 (plain_map _ _) (plain_map _ _) hnew⟩
            have hst := stays_agg (P := P) (w := w) q4
            rw [← q3] at hst
            simp only [Nat.zero_add] at q6
            simp [Instr.mapUpdate, run_underlying hu, MapKept.run_getObj_map g1, hck, hfk _ q6, q1', hst, MapKept.run_setObj_map _ g1, Result.andThen, World.putObj]
        · rename_i hf
          simp only [Option.some.injEq] at he2; subst he2
          rcases findS_sound hks es.toList cells 0 g3 hf with ⟨_, q⟩ | ⟨j, av, v', e, ys, hj, _⟩
          · have hnew : ORep P c w (.ob (.map k0 e0 (n + 1)) (cells ++ [.ag l, xv])) (.map (es.push { key := .agg xs.toArray, val := x, born := n }) (n + 1)) := by
              refine ⟨_, rfl, by simp [g2], ?_, fun j' e' hj' => ?_⟩
              · simp only [Array.toList_push, List.flatMap_append, List.flatMap_cons, List.flatMap_nil, List.append_nil]
                refine g3.append ?_
                simp only [RepL]
                exact ⟨_, _, rfl, hkv, _, _, rfl, hx, rfl⟩
              · rw [Array.getElem?_push] at hj'
                split at hj'
                · rename_i hjn
                  simp only [Option.some.injEq] at hj'; subst hj'
                  simp [hjn, g2]
                · exact g4 _ _ hj'
            refine ⟨_, ?_, rfl, rfl, rfl, Ext.putOb _ _ _ g1 (plain_map _ _) (plain_map _ _) ((h.mem.boxes _ (obAt_mem ho)).free 0), h.mem.setOb ho g1 (plain_map _ _) (plain_map _ _) hnew⟩
            simp [Instr.mapUpdate, run_underlying hu, MapKept.run_getObj_map g1, hck, hfk _ q, MapKept.run_setObj_map _ g1, Result.andThen, World.putObj]
          · cases hj
        · cases he2
      · cases he2
    · cases he2
  · cases he2

theorem flat_modify_val (es : List MapEntry) (i : Nat) {e : MapEntry} (hi : es[i]? = some e) (x : Value) : (es.modify i fun e => { e with val := x }).flatMap (fun e => [e.key, e.val]) = (es.flatMap fun e => [e.key, e.val]).set (2 * i + 1) x := by
  induction es generalizing i with
  | nil => simp at hi
  | cons e0 es ih =>
    cases i with
    | zero => simp [List.modify]
    | succ i =>
      have := ih i (by simpa using hi)
      simp only [List.modify_succ_cons, List.flatMap_cons, this]
      rw [show 2 * (i + 1) + 1 = (2 * i + 1) + 2 by omega]
      simp

/-- An entry with a key of several numbers, to be written. -/
theorem mentS_sound (h : Rel P N c s a w) {t kt et : TypeId} (hu : P.underlying t = some (.map kt et)) {ks : List BK} (hk : keyKs P kt = some ks) {ie : TypeInfo} (hi : P.info? et = some ie) {z : Value} (hz : ie.zero = some z) {mv kv : AV} {m k : Value} (hm : Rep P c w mv m) (hkv : Rep P c w kv k)
    {u : Upd} (he : (XE.mentS ks z).eff s.boxes s.tips s.next [mv, kv] = some u) : ∃ w' v x y, (Instr.mapEntry t m k).run P w = .ok v w' ∧ u.val = some (.tu [.lit x, .lit y]) ∧ v = .tuple #[x, y] ∧ u.next = s.next ∧ u.tips = s.tips ∧ Ext c.next c w c w' ∧ Mem P c u.boxes s.tips w' := by
  have zero : ∀ w : World, (zeroValue et).run P w = .ok z w := fun w => by simp [zeroValue, typeInfo, hi, hz]
  obtain ⟨hks, fs, i0, hkt, _, _, _⟩ := keyKs_desc hk
  have he2 : mentSE ks z s.boxes s.tips s.next [mv, kv] = some u := by
    unfold XE.eff at he
    split at he
    all_goals first | (rename_i he' _; cases he'; done) | (rename_i he'; cases he'; done) | exact he
  unfold mentSE at he2
  split at he2
  · rename_i id l hxs
    simp only [List.cons.injEq, and_true] at hxs
    obtain ⟨rfl, rfl⟩ := hxs
    simp only [Rep, RefOK, refV] at hm
    obtain ⟨hid, rfl⟩ := hm
    split at he2
    · rename_i k0 e0 n cells xs ho hvals
      obtain ⟨es, g1, g2, g3, g4⟩ := map_at h ho
      have hkey := ag_lits hvals hkv
      subst hkey
      split at he2
      · rename_i hlen
        have hck := run_checkS (w := w) hk hlen false
        have hfk : ∀ r, (Instr.findAsking kt (.agg xs.toArray) es.toList 0).run P w = .ok r w → (Instr.findKey kt (.agg xs.toArray) es.toList).run P w = .ok r w := fun r hr => by
          unfold Instr.findKey
          simp only [Sem.run_bind, run_underlying hkt, Result.andThen_ok]
          cases hes : es.toList with
          | nil => rw [hes] at hr; simpa [Instr.findNow, Instr.findAsking] using hr
          | cons e l => rw [hes] at hr; simpa [Instr.findNow, Instr.sameNow] using hr
        split at he2
        · rename_i i v0 hf
          simp only [Option.some.injEq] at he2; subst he2
          rcases findS_sound hks es.toList cells 0 g3 hf with ⟨hn, _⟩ | ⟨j, av, v', e, ys, hj, q1, q2, q3, q4, q5, q6⟩
          · cases hn
          · simp only [Option.some.injEq, Prod.mk.injEq, Nat.zero_add] at hj
            obtain ⟨rfl, rfl⟩ := hj
            obtain ⟨hxy, _⟩ := eqK_same q4
            have hek : e.key = .agg xs.toArray := by rw [q3, hxy, Array.toArray_toList]
            have q1' : es[i]? = some e := by simpa using q1
            have hb : e.born = i := g4 _ _ q1'
            have hsame : (es.modify i fun e => { e with key := .agg xs.toArray }) = es := by
              apply Array.ext_getElem?
              intro j
              rw [Array.getElem?_modify]
              split
              · rename_i hij
                subst hij
                rw [q1', Option.map_some, ← hek]
              · rfl
            simp only [Rep] at q5
            refine ⟨_, _, v0, .int .i64 i, ?_, rfl, rfl, rfl, rfl, Ext.putOb _ _ _ g1 (plain_map _ _) (plain_map _ _) ((h.mem.boxes _ (obAt_mem ho)).free 0), h.mem.setOb ho g1 (plain_map _ _) (plain_map _ _) (o' := .map es n) ⟨es, rfl, g2, g3, g4⟩⟩
            have hst := stays_agg (P := P) (w := w) q4
            rw [← q3] at hst
            simp only [Nat.zero_add] at q6
            simp [Instr.mapEntry, run_underlying hu, MapKept.run_getObj_map g1, hck, hfk _ q6, q1', hst, hsame, MapKept.run_setObj_map _ g1, Result.andThen, World.putObj, hb, q5, goInt]
        · rename_i hf
          simp only [Option.some.injEq] at he2; subst he2
          rcases findS_sound hks es.toList cells 0 g3 hf with ⟨_, q⟩ | ⟨j, av, v', e, ys, hj, _⟩
          · have hnew : ORep P c w (.ob (.map k0 e0 (n + 1)) (cells ++ [.ag l, .lit z])) (.map (es.push { key := .agg xs.toArray, val := z, born := n }) (n + 1)) := by
              refine ⟨_, rfl, by simp [g2], ?_, fun j' e' hj' => ?_⟩
              · simp only [Array.toList_push, List.flatMap_append, List.flatMap_cons, List.flatMap_nil, List.append_nil]
                refine g3.append ?_
                simp only [RepL]
                exact ⟨_, _, rfl, hkv, _, _, rfl, (by simp only [Rep]), rfl⟩
              · rw [Array.getElem?_push] at hj'
                split at hj'
                · rename_i hjn
                  simp only [Option.some.injEq] at hj'; subst hj'
                  simp [hjn, g2]
                · exact g4 _ _ hj'
            refine ⟨_, _, z, .int .i64 n, ?_, rfl, rfl, rfl, rfl, Ext.putOb _ _ _ g1 (plain_map _ _) (plain_map _ _) ((h.mem.boxes _ (obAt_mem ho)).free 0), h.mem.setOb ho g1 (plain_map _ _) (plain_map _ _) hnew⟩
            simp [Instr.mapEntry, run_underlying hu, MapKept.run_getObj_map g1, hck, hfk _ q, zero, MapKept.run_setObj_map _ g1, Result.andThen, World.putObj, goInt]
          · cases hj
        · cases he2
      · cases he2
    · cases he2
  · cases he2

/-- An entry is written. -/
theorem ests_sound (h : Rel P N c s a w) {t : TypeId} {mv sv xv : AV} {m st x : Value} (hm : Rep P c w mv m) (hs : Rep P c w sv st) (hx : Rep P c w xv x)
    {u : Upd} (he : XE.ests.eff s.boxes s.tips s.next [mv, sv, xv] = some u) : ∃ w', (Instr.entryStore t m st x).run P w = .ok () w' ∧ u.val = none ∧ u.next = s.next ∧ u.tips = s.tips ∧ Ext c.next c w c w' ∧ Mem P c u.boxes s.tips w' := by
  have he2 : estsE s.boxes s.tips s.next [mv, sv, xv] = some u := by
    unfold XE.eff at he
    split at he
    all_goals first | (rename_i he' _; cases he'; done) | (rename_i he'; cases he'; done) | exact he
  unfold estsE at he2
  split at he2
  · rename_i id j v hxs
    simp only [List.cons.injEq, and_true] at hxs
    obtain ⟨rfl, rfl, rfl⟩ := hxs
    simp only [Rep, RefOK, refV] at hm
    obtain ⟨hid, rfl⟩ := hm
    simp only [Rep] at hs
    subst hs
    split at he2
    · rename_i k0 e0 n cells ho
      obtain ⟨es, g1, g2, g3, g4⟩ := map_at h ho
      split at he2
      · rename_i hj
        simp only [Option.some.injEq] at he2; subst he2
        obtain ⟨i, rfl⟩ : ∃ i : Nat, j = i := ⟨j.toNat, by omega⟩
        have hlt : i < es.size := by rw [g2]; omega
        have hget : es[i]? = some es[i] := Array.getElem?_eq_getElem hlt
        have hfind : es.findIdx? (fun e => (e.born : Int) == (i : Int)) = some i := by
          rw [Array.findIdx?_eq_some_iff_getElem]
          refine ⟨hlt, ?_, fun k hk => ?_⟩
          · have := g4 _ _ hget
            simp [this]
          · have := g4 k es[k] (Array.getElem?_eq_getElem (by omega))
            simp only [this, beq_iff_eq]
            omega
        have hnew : ORep P c w (.ob (.map k0 e0 n) (cells.set (2 * i + 1) xv)) (.map (es.modify i fun e => { e with val := x }) n) := by
          refine ⟨_, rfl, by simp [g2], ?_, fun j' e' hj' => ?_⟩
          · rw [Array.toList_modify, flat_modify_val es.toList i (e := es[i]) (by rw [Array.getElem?_toList]; exact hget)]
            exact g3.set _ hx
          · rw [Array.getElem?_modify] at hj'
            split at hj'
            · cases hg : es[j']? with
              | none => rw [hg] at hj'; cases hj'
              | some e1 =>
                rw [hg] at hj'
                simp only [Option.map_some, Option.some.injEq] at hj'
                subst hj'
                exact (g4 _ e1 hg : e1.born = j')
            · exact g4 _ _ hj'
        rw [Int.toNat_natCast]
        refine ⟨_, ?_, rfl, rfl, rfl, Ext.putOb _ _ _ g1 (plain_map _ _) (plain_map _ _) ((h.mem.boxes _ (obAt_mem ho)).free 0), h.mem.setOb ho g1 (plain_map _ _) (plain_map _ _) hnew⟩
        simp [Instr.entryStore, MapKept.run_getObj_map g1, hfind, MapKept.run_setObj_map _ g1, Result.andThen, World.putObj, asInt, asIntOf]
      · cases he2
    · cases he2
  · cases he2

/-- A loop over a string, or over a map, begins. -/
theorem rngS_sound {t : TypeId} (hu : P.underlying t = some .string) {xv : AV} {x : Value} (hx : Rep P c w xv x)
    {u : Upd} (he : XE.rngS.eff s.boxes s.tips s.next [xv] = some u) : ∃ o cells, (Instr.range t x).run P w = .ok (.pointer (some ⟨w.heap.size, 0, none⟩)) (w.alloc o) ∧ u = ⟨some (.rf .iter s.next), (s.next, cells) :: s.boxes, s.tips, s.next + 1⟩ ∧ BoxRep P c w cells o := by
  unfold XE.eff at he
  split at he
  · rename_i he' _; cases he'
  · rename_i he' _; cases he'
  · rename_i b _ hxs
    simp only [List.cons.injEq, and_true] at hxs; subst hxs
    simp only [Rep] at hx; subst hx
    simp only [Option.some.injEq] at he
    exact ⟨.stringIter b 0, _, by simp [Instr.range, run_underlying hu], he.symm, .inr ⟨_, rfl, rfl⟩⟩
  · rename_i he'; cases he'
  · rename_i he' _; cases he'
  · rename_i he' _; cases he'
  · rename_i he' _; cases he'
  · cases he

theorem rngM_sound (h : Rel P N c s a w) {t kt et : TypeId} (hu : P.underlying t = some (.map kt et)) {xv : AV} {x : Value} (hx : Rep P c w xv x)
    {u : Upd} (he : XE.rngM.eff s.boxes s.tips s.next [xv] = some u) : ∃ o cells, (Instr.range t x).run P w = .ok (.pointer (some ⟨w.heap.size, 0, none⟩)) (w.alloc o) ∧ u = ⟨some (.rf .iter s.next), (s.next, cells) :: s.boxes, s.tips, s.next + 1⟩ ∧ BoxRep P c w cells o := by
  unfold XE.eff at he
  split at he
  · rename_i he' _; cases he'
  · rename_i he' _; cases he'
  · rename_i he' _; cases he'
  · rename_i he'; cases he'
  · rename_i he' _; cases he'
  · rename_i he' _; cases he'
  · rename_i id _ hxs
    simp only [List.cons.injEq, and_true] at hxs; subst hxs
    simp only [Rep, RefOK, refV] at hx
    obtain ⟨hid, rfl⟩ := hx
    split at he
    · rename_i k e n cells ho
      obtain ⟨es, g1, g2, g3, g4⟩ := map_at h ho
      simp only [Option.some.injEq] at he
      exact ⟨.mapIter (some (c.β id)) n #[] n, _, by simp [Instr.range, run_underlying hu, MapKept.run_getObj_map g1, Result.andThen], he.symm, .inr ⟨_, rfl, c.β id, by simp only [RepL, Rep, RefOK, refV]; exact ⟨_, _, rfl, ⟨hid, rfl⟩, rfl⟩, rfl⟩⟩
    · cases he
  · cases he

theorem flat_rep {α : Type} {l : List α} (hl : 0 < l.length) : ∀ (n j : Nat), j < n * l.length → (List.replicate n l).flatten[j]? = l[j % l.length]?
  | 0, j, h => by simp at h
  | n + 1, j, h => by
    rw [List.replicate_succ, List.flatten_cons]
    by_cases hj : j < l.length
    · rw [List.getElem?_append_left hj, Nat.mod_eq_of_lt hj]
    · rw [List.getElem?_append_right (by omega), flat_rep hl n (j - l.length) (by rw [Nat.succ_mul] at h; omega)]
      congr 1
      have := Nat.mod_eq_sub_mod (a := j) (b := l.length) (by omega)
      exact this.symm

theorem flat_rep_length {α : Type} (l : List α) (n : Nat) : (List.replicate n l).flatten.length = n * l.length := by
  induction n with
  | zero => simp
  | succ n ih => rw [List.replicate_succ, List.flatten_cons, List.length_append, ih, Nat.succ_mul]; omega

theorem madeCells_take (z : Array Value) (hz : 0 < z.size) {n m : Nat} (h : n * z.size ≤ m) : (madeCells z m).toList.take (n * z.size) = (List.replicate n z.toList).flatten := by
  refine List.ext_getElem? fun j => ?_
  rw [List.getElem?_take]
  split
  · rename_i hj
    rw [flat_rep (by simpa using hz) n j (by simpa using hj)]
    have hjm : j < m := by omega
    have hmod : j % z.size < z.size := Nat.mod_lt _ hz
    simp [madeCells, hjm, hmod]
  · rename_i hj
    rw [List.getElem?_eq_none]
    rw [flat_rep_length]; simp; omega

/-- A new row. -/
theorem mks_sound {t e : TypeId} {i : TypeInfo} {z : Value} (hu : P.underlying t = some (.slice e)) (hi : P.info? e = some i) (hz : i.zero = some z) (hzs : z.cells.size = i.size) (hpos : 0 < i.size) {bx : List (Nat × List AV)} {tp : List (Nat × TypeId)} {nx : Nat} {lv kv : AV} {l k : Value}
    (hl : Rep P c w lv l) (hk : Rep P c w kv k) {u : Upd} (he : (XE.mks e i.size i.bytes z.cells.toList).eff bx tp nx [lv, kv] = some u) :
    ∃ r v o cells, (Instr.makeSlice t l k).run P w = .ok v (w.alloc o) ∧ u = ⟨some (.rf r nx), (nx, cells) :: bx, tp, nx + 1⟩ ∧ RefOK P (w.alloc o) r w.heap.size v ∧ BoxRep P c w cells o := by
  unfold XE.eff at he
  split at he
  · rename_i he' _; cases he'
  · rename_i he' _; cases he'
  · rename_i he' _; cases he'
  · rename_i he'; cases he'
  · rename_i he' _; cases he'
  · rename_i e' sz bytes zero k1 n k2 m he' hxs
    simp only [XE.mks.injEq] at he'
    obtain ⟨rfl, rfl, rfl, rfl⟩ := he'
    simp only [List.cons.injEq, and_true] at hxs
    obtain ⟨rfl, rfl⟩ := hxs
    simp only [Rep] at hl hk
    subst hl hk
    split at he
    · rename_i hc
      obtain ⟨h0, hlc, hb, h63⟩ := hc
      simp only [Option.some.injEq] at he
      have hr := run_make (P := P) w t e i z hu hi hz k1 k2 n m h0 hlc hb h63
      obtain ⟨n', rfl⟩ : ∃ n' : Nat, n = n' := ⟨n.toNat, by omega⟩
      obtain ⟨m', rfl⟩ : ∃ m' : Nat, m = m' := ⟨m.toNat, by omega⟩
      simp only [Int.toNat_natCast] at hr he
      refine ⟨_, _, _, _, hr, he.symm, ⟨0, m', _, rfl, .inl rfl, by omega, by simp only [maxLen]; omega, (cellsOf_eq hi).symm, hpos, ⟨_, heap_alloc_new w _⟩, ?_, fun _ => ⟨rfl, ?_⟩⟩, .inl ⟨_, e, rfl, ?_⟩⟩
      · rw [size_madeCells]; omega
      · rw [size_madeCells]
      · have hlen : (((List.replicate n' z.cells.toList).flatten).map AV.lit).length = n' * z.cells.size := by rw [List.length_map, flat_rep_length, Array.length_toList]
        rw [hlen, madeCells_take z.cells (by omega) (by rw [hzs]; exact Nat.mul_le_mul_right _ (by omega))]
        exact RepL.lits _
    · cases he
  · rename_i he' _; cases he'
  · cases he

theorem mkm_sound {t : TypeId} {bx : List (Nat × List AV)} {tp : List (Nat × TypeId)} {nx : Nat} {u : Upd} (he : XE.mkm.eff bx tp nx [] = some u) :
    ∃ o cells, (Instr.makeMap t none).run P w = .ok (.map (some w.heap.size)) (w.alloc o) ∧ u = ⟨some (.rf .map nx), (nx, cells) :: bx, tp, nx + 1⟩ ∧ BoxRep P c w cells o := by
  simp only [XE.eff, Option.some.injEq] at he
  exact ⟨.map #[] 0, _, by simp [Instr.makeMap], he.symm, .inr ⟨_, rfl, #[], rfl, rfl, by simp [RepL], fun i e h => by simp at h⟩⟩

theorem Rel.putOb (h : Rel P N c s a w) {id : Nat} {x y : AV} {o o' : Obj} (hob : obAt s.boxes id = some x) (ho : w.heap[c.β id]? = some o) (hp : ObjPlain o) (hp' : ObjPlain o') (hy : ORep P c w y o') {dst : Option Nat} (hd : ∀ d, dst = some d → d < N) {av : AV} {v : Value}
    (hv : Rep P c w av v) : Ext c.next c w c (w.putObj (c.β id) o') ∧ Rel P N c ({ s with boxes := setBox s.boxes id [y] }.put dst av) (a.put dst v) (w.putObj (c.β id) o') := by
  have hx := Ext.putOb c.next c w ho hp hp' ((h.mem.boxes _ (obAt_mem hob)).free 0)
  have := h.put (dst := dst) (av := av) (v := v) hd hx (Nat.le_refl _) rfl (h.mem.setOb hob ho hp hp' hy) (fun _ => hv.ext hx (Nat.le_refl _))
  rw [← h.next] at this
  exact ⟨hx, this⟩

/-- One step of a loop over a string or a map. -/
theorem next_sound (h : Rel P N c s a w) {it : AV} {x : Value} (hx : Rep P c w it x) {str : Bool} {ty : TypeId} {dst : Option Nat} (hd : ∀ d, dst = some d → d < N) {K : State → Prop} (hK : nextOf str it dst s K) :
    ∃ v w', (Instr.next x str ty).run P w = .ok v w' ∧ ∃ s', Ext c.next c w c w' ∧ Rel P N c s' (a.put dst v) w' ∧ K s' := by
  unfold nextOf at hK
  split at hK
  · rename_i id
    simp only [Rep, RefOK, refV] at hx
    obtain ⟨hid, rfl⟩ := hx
    split at hK
    · rename_i b pos cs ho
      obtain ⟨o, k1, k2⟩ := ob_at h ho
      have k2 : o = .stringIter b pos := k2
      subst k2
      obtain ⟨rfl, hA, hB⟩ := hK
      by_cases hp : pos < b.size
      · have hr := h.putOb (y := .ob (.iter b (pos + (Utf8.decode b pos).2)) []) ho k1 (plain_iter _ _) (plain_iter _ _) rfl hd (av := .tu [.lit (.bool true), .lit (.int .i64 pos), .lit (.int .i32 (Utf8.decode b pos).1)]) (v := .tuple #[.bool true, goInt pos, .int .i32 (Utf8.decode b pos).1]) (by
          simp only [Rep]; exact ⟨_, rfl, by simp only [RepL]; exact ⟨_, _, rfl, by simp only [Rep], _, _, rfl, by simp only [Rep]; rfl, _, _, rfl, by simp only [Rep], rfl⟩⟩)
        refine ⟨_, _, ?_, _, hr.1, hr.2, hA hp⟩
        simp [Instr.next, getObj, setObj, Sem.run, k1, hp, Result.andThen, World.putObj]
      · refine ⟨.tuple #[.bool false], w, ?_, _, Ext.refl _ _ _, h.put0 hd (fun _ => by simp only [Rep]; exact ⟨_, rfl, by simp only [RepL]; exact ⟨_, _, rfl, by simp only [Rep], rfl⟩⟩), hB (by omega)⟩
        simp [Instr.next, getObj, Sem.run, k1, hp, Result.andThen]
    · rename_i seen since last m ho
      obtain ⟨o, k1, k2⟩ := ob_at h ho
      obtain ⟨hm, rfl⟩ := miter_map k2
      split at hK
      · rename_i k e n cells ho'
        obtain ⟨es, g1, g2, g3, g4⟩ := map_at h ho'
        obtain ⟨rfl, hn1, hn2, hA, hB⟩ := hK
        have hold : ∀ x ∈ es.toList, x.born < since := fun x hx => by
          obtain ⟨i, hi⟩ := List.mem_iff_getElem?.1 hx
          have := g4 i x (by simpa using hi)
          have hlt := (List.getElem?_eq_some_iff.1 hi).1
          simp at hlt
          omega
        rcases run_next_at w ty (c.β id) (c.β m) since last seen.toArray es n k1 g1 hold hn2 with ⟨q1, q2⟩ | ⟨e, he, w1, hw1, q2⟩
        · refine ⟨_, w, q2, _, Ext.refl _ _ _, h.put0 hd (fun _ => by simp only [Rep]; exact ⟨_, rfl, by simp only [RepL]; exact ⟨_, _, rfl, by simp only [Rep], rfl⟩⟩), hB fun i hi => ?_⟩
          have hq : (leftOf es seen.toArray) = #[] := Array.eq_empty_of_size_eq_zero q1
          unfold leftOf at hq
          rw [Array.filter_eq_empty_iff] at hq
          have := hq es[i] (by simp)
          have hb := g4 i es[i] (by simp [g2, hi])
          simpa [hb] using this
        · have he' := he
          unfold leftOf at he'
          simp only [Array.toList_filter, List.mem_filter, Bool.not_eq_true'] at he'
          obtain ⟨i, hi⟩ := List.mem_iff_getElem?.1 he'.1
          have hb := g4 i e (by simpa using hi)
          have hlt := (List.getElem?_eq_some_iff.1 hi).1
          simp only [Array.length_toList] at hlt
          obtain ⟨f1, f2⟩ := flat_get es.toList i hi
          obtain ⟨key, p1, p2⟩ := RepL.at g3 f1
          obtain ⟨v, p3, p4⟩ := RepL.at g3 f2
          have hns : i ∉ seen := by have := he'.2; rw [hb] at this; simpa using this
          have fin : ∀ (w1 : World), Rel P N c s a w1 → Ext c.next c w c w1 → w1.heap[c.β id]? = some (.mapIter (some (c.β m)) since seen.toArray last) → Rep P c w1 key e.key → Rep P c w1 v e.val →
              ∃ s', Ext c.next c w c (ChangeMaps.setBlock w1 (c.β id) (.mapIter (some (c.β m)) since (seen.toArray.push e.born) n)) ∧ Rel P N c s' (a.put dst (.tuple #[.bool true, e.key, e.val])) (ChangeMaps.setBlock w1 (c.β id) (.mapIter (some (c.β m)) since (seen.toArray.push e.born) n)) ∧ K s' := by
            intro w1 h1 hx1 k1' r1 r2
            have hr := h1.putOb (y := .ob (.miter (seen ++ [i]) since n) [.rf .map m]) ho k1' (plain_miter _ _ _ _) (plain_miter (some (c.β m)) since (seen.toArray.push e.born) n) ⟨c.β m, by simp only [RepL, Rep, RefOK, refV]; exact ⟨_, _, rfl, ⟨hm, rfl⟩, rfl⟩, by rw [hb]; simp⟩ hd (av := .tu [.lit (.bool true), key, v]) (v := .tuple #[.bool true, e.key, e.val]) (by
              simp only [Rep]; exact ⟨_, rfl, by simp only [RepL]; exact ⟨_, _, rfl, by simp only [Rep], _, _, rfl, r1, _, _, rfl, r2, rfl⟩⟩)
            exact ⟨_, hx1.trans hr.1, hr.2, hA i key v (by omega) hns p1 p3⟩
          rcases hw1 with rfl | rfl
          · exact ⟨_, _, q2, fin _ h (Ext.refl _ _ _) k1 p2 p4⟩
          · have hdx := Ext.drew c.next c w
            have hrel : Rel P N c s a w.drew := by
              have := h.put (dst := none) (av := .lit undef) (v := undef) (fun _ hh => by cases hh) hdx (Nat.le_refl _) rfl h.mem.drew (fun hh => (hh rfl).elim)
              have hnx := h.next
              simp only [State.put] at this
              rw [← hnx] at this
              exact this
            exact ⟨_, _, q2, fin _ hrel hdx k1 (p2.ext hdx (Nat.le_refl _)) (p4.ext hdx (Nat.le_refl _))⟩
      · exact hK.elim
    · exact hK.elim
  · exact hK.elim

/-- A box is known by another name. -/
theorem Mem.moveBox (hm : Mem P c bx tp w) {id : Nat} {cells : List AV} (hmem : (id, cells) ∈ bx) :
    Ext c.next c w (c.newBox (c.β id)) w ∧ Mem P (c.newBox (c.β id)) ((c.next, cells) :: delBox bx id) tp w := by
  have hx : Ext c.next c w (c.newBox (c.β id)) w := ⟨rfl, rfl, rfl, Nat.le_refl _, fun i hi => ⟨by simp [Ctx.newBox]; omega, rfl⟩, fun _ _ _ hp => ⟨hp, rfl⟩, Stays.refl w, fun _ _ _ _ h => h⟩
  have hβ : ∀ i, i < c.next → (c.newBox (c.β id)).β i = c.β i := fun i hi => (hx.ids i hi).1
  have hβn : (c.newBox (c.β id)).β c.next = c.β id := by simp [Ctx.newBox]
  have hsub := delBox_sub bx id
  have hne : ∀ y ∈ delBox bx id, y.1 ≠ id := fun y hy => delBox_ne hm.ids_apart hy ⟨_, hmem⟩
  refine ⟨hx, ?_, ?_, ?_, hm.tapart, hm.tids, ?_, hm.below, hm.baseLe, hm.plt, hm.pold⟩
  · intro y hy
    rcases List.mem_cons.1 hy with rfl | hy
    · have h0 := hm.boxes _ hmem
      obtain ⟨o, g1, g2⟩ := h0.row
      exact ⟨Nat.lt_succ_self _, by rw [hβn]; exact h0.base, fun j hj => h0.free j (by rw [hβn] at hj; exact hj), o, by rw [hβn]; exact g1, g2.ext hx (Nat.le_succ _)⟩
    · exact (hm.boxes y (hsub.subset hy)).ext hx (Nat.le_succ _) rfl fun _ hj => hj
  · refine List.pairwise_cons.2 ⟨fun y hy => ?_, (hm.apart.sublist hsub).imp_of_mem fun {p q} hp hq hpq => ?_⟩
    · rw [hβn, hβ _ (hm.boxes y (hsub.subset hy)).lt]
      exact hm.β_ne hmem (hsub.subset hy) fun e => hne y hy e.symm
    · rw [hβ _ (hm.boxes p (hsub.subset hp)).lt, hβ _ (hm.boxes q (hsub.subset hq)).lt]; exact hpq
  · exact fun y hy => (hm.tips y hy).ext hx (Nat.le_succ _) (fun _ _ => rfl) fun _ _ _ hj => hj
  · intro y hy z hz
    show (c.τ y.1).ownBlock ≠ _
    rcases List.mem_cons.1 hz with rfl | hz
    · rw [hβn]; exact hm.cross y hy _ hmem
    · rw [hβ _ (hm.boxes z (hsub.subset hz)).lt]; exact hm.cross y hy z (hsub.subset hz)

/-- The cells of a row, where they lie. -/
theorem row_zero (hm : Mem P c bx tp w) {id : Nat} {cells : List AV} (hb : boxAt bx id = some cells) {arr : Array Value} {e : TypeId} (hh : ∃ f, w.heap[c.β id]? = some (.cells arr e f)) : w.heap[c.β id]? = some (.cells arr e (0, 0)) := by
  obtain ⟨f, hh⟩ := hh
  obtain ⟨o, h1, h2⟩ := (hm.boxes _ (boxAt_mem hb)).row
  obtain ⟨arr', t', rfl, _⟩ := h2.cells (boxAt_ob hb)
  simp only at h1
  rw [hh] at h1
  simp only [Option.some.injEq, Obj.cells.injEq] at h1
  rw [hh, h1.2.2]

theorem row_cells (hm : Mem P c bx tp w) {id : Nat} {cells : List AV} (hb : boxAt bx id = some cells) {arr : Array Value} {e : TypeId} (hh : w.heap[c.β id]? = some (.cells arr e (0, 0))) :
    RepL P c w cells (arr.toList.take cells.length) := by
  obtain ⟨arr', t', g1, g2⟩ := box_load hm hb
  rw [hh, Option.some.injEq] at g1
  simp only [Obj.cells.injEq] at g1
  obtain ⟨rfl, _, _⟩ := g1
  exact g2

theorem lits_vals : ∀ {l : List AV} {xs : List Value}, vals l = some xs → l = xs.map .lit
  | [], xs, h => by simp only [vals, Option.some.injEq] at h; subst h; rfl
  | x :: l, xs, h => by
    cases x <;> simp only [vals] at h <;> try cases h
    split at h
    · rename_i ys hy
      simp only [Option.some.injEq] at h; subst h
      rw [lits_vals hy]; rfl
    · cases h

theorem srcN_sound (hm : Mem P c bx tp w) {e m : Nat} {yv : AV} {y : Value} {vs : List Value} (hy : Rep P c w yv y) (h : srcN bx e yv = some (m, vs)) :
    (m = 0 ∧ vs = [] ∧ ∃ a2 cap2, y = .slice a2 0 cap2) ∨ (0 < m ∧ ∃ a2 cap2, y = .slice (some a2) m cap2 ∧ vs.length = m * P.cellsOf e ∧ (∀ j u, vs[j]? = some u → w.cell? (a2.add j) = some u) ∧ ∀ u ∈ vs, u.oneCell' = true) := by
  unfold srcN at h
  split at h
  · rename_i e' els tip
    split at h
    · rename_i hee; subst hee
      simp only [Option.some.injEq, Prod.mk.injEq] at h
      obtain ⟨rfl, rfl⟩ := h
      simp only [Rep] at hy
      obtain ⟨⟨a, cap, rfl, h2, h3, h4⟩, _⟩ := hy
      by_cases he : els = []
      · subst he
        exact .inl ⟨rfl, rfl, a, cap, rfl⟩
      · obtain ⟨b, off, rfl, hr⟩ := h4.resolve_left he
        exact .inr ⟨List.length_pos_iff.2 he, ⟨b, off, none⟩, cap, rfl, h3.flatten_length, fun j u hj => by rw [add_lit]; exact (hr j u hj).2, h3.one⟩
    · cases h
  · simp only [Option.some.injEq, Prod.mk.injEq] at h
    obtain ⟨rfl, rfl⟩ := h
    simp only [Rep] at hy
    exact .inl ⟨rfl, rfl, none, 0, hy⟩
  · rename_i e' sz off m' id
    split at h
    · rename_i cells hb
      split at h
      · rename_i vs' hv
        split at h
        · rename_i hc
          obtain ⟨rfl, hl, ho⟩ := hc
          simp only [Option.some.injEq, Prod.mk.injEq] at h
          obtain ⟨rfl, rfl⟩ := h
          simp only [Rep] at hy
          obtain ⟨hid, o, cap, arr, rfl, g2, g3, g4, g5, g6, g7, g8, g9⟩ := hy
          replace g7 := row_zero hm hb g7
          rcases Nat.eq_zero_or_pos m' with h0 | hpos
          · subst h0
            exact .inl ⟨rfl, List.eq_nil_of_length_eq_zero (by omega), _, _, rfl⟩
          · have hoo : o = off := g2.resolve_right (by omega)
            subst hoo
            have hrep := ((row_cells hm hb g7).drop o).take (m' * sz)
            rw [lits_vals hv] at hrep
            have hlist := RepL.of_lits hrep
            refine .inr ⟨hpos, _, _, rfl, by rw [← g5]; exact hl, fun j u hj => ?_, fun u hu => List.all_eq_true.1 ho u hu⟩
            rw [add_lit, cell_of_row w _ _ _ _ _ g7]
            rw [← hlist, List.getElem?_take] at hj
            split at hj
            · rw [List.getElem?_drop, List.getElem?_take] at hj
              split at hj
              · simpa using hj
              · cases hj
            · cases hj
        · cases h
      · cases h
    · cases h
  · cases h

theorem row_fresh (h : Mem P c bx tp w) {e : TypeId} {i : TypeInfo} {z : Value} (hi : P.info? e = some i) (hzs : z.cells.size = i.size) : ∀ (cells : List AV) (olds vs : List Value) (n m old : Nat), 0 < P.cellsOf e → RepL P c w cells (olds ++ vs) → olds.length = n * i.size → vs.length = m * i.size → old < n + m → n + m ≤ maxLen →
      ∃ c', Ext c.next c w c' (w.drew.alloc (.cells (olds.toArray ++ vs.toArray ++ Builtin.zeroCells z.cells (grownCap w (n + m) old e - (n + m))) e)) ∧ c'.next = c.next + 1 ∧ c'.floor = c.floor ∧
        Mem P c' ((c.next, cells) :: bx) tp (w.drew.alloc (.cells (olds.toArray ++ vs.toArray ++ Builtin.zeroCells z.cells (grownCap w (n + m) old e - (n + m))) e)) ∧
        Rep P c' (w.drew.alloc (.cells (olds.toArray ++ vs.toArray ++ Builtin.zeroCells z.cells (grownCap w (n + m) old e - (n + m))) e)) (.rf (.row e (P.cellsOf e) 0 (n + m)) c.next) (.slice (some ⟨w.heap.size, 0, none⟩) (n + m) (grownCap w (n + m) old e)) := by
  have hco := cellsOf_eq hi
  intro cells olds vs n m old hpos hrep hlo hlv ho h63
  have hge := grownCap_ge w (n + m) old e
  have hcm : grownCap w (n + m) old e ≤ maxLen := grownCap_le_maxLen w _ old e h63
  have hsize : (olds.toArray ++ vs.toArray ++ Builtin.zeroCells z.cells (grownCap w (n + m) old e - (n + m))).size = grownCap w (n + m) old e * P.cellsOf e := by
    simp only [Array.size_append, List.size_toArray, size_zeroCells, hzs, hlo, hlv, hco, ← Nat.add_mul]
    congr 1
    omega
  have hlen : cells.length = (olds ++ vs).length := hrep.length.symm
  have hbr : BoxRep P c w.drew cells (.cells (olds.toArray ++ vs.toArray ++ Builtin.zeroCells z.cells (grownCap w (n + m) old e - (n + m))) e (0, 0)) := by
    refine .inl ⟨_, e, rfl, ?_⟩
    rw [hlen]
    simp only [Array.toList_append]
    rw [List.take_left' rfl]
    exact RepL.ext (Ext.drew _ c w) (Nat.le_refl _) _ _ hrep
  refine ⟨c.newBox w.heap.size, (Ext.drew c.next c w).trans (Ext.newBox c w.drew _), rfl, rfl, h.drew.newOb hbr, ?_⟩
  simp only [Rep]
  refine ⟨Nat.lt_succ_self _, 0, _, _, by simp [Ctx.newBox], .inl rfl, hge, hcm, rfl, hpos, ?_, ?_, fun _ => ⟨rfl, hsize⟩⟩
  · have : (c.newBox w.heap.size).β c.next = w.drew.heap.size := by simp [Ctx.newBox]
    rw [this]; exact ⟨_, heap_alloc_new w.drew _⟩
  · rw [hsize]; omega
/-- An append to a row that may be written. -/
theorem rowApp_row (h : Mem P c bx tp w) {t ty e : TypeId} {i : TypeInfo} {z : Value} (ht : P.underlying t = some (.slice e)) (hi : P.info? e = some i) (hz : i.zero = some z) (hzs : z.cells.size = i.size)
    {e' sz off n id : Nat} {yv : AV} {x y : Value} (hx : Rep P c w (.rf (.row e' sz off n) id) x) (hy : Rep P c w yv y) {r : RowApp} (hr : rowApp bx tp e (.rf (.row e' sz off n) id) yv = some r) (hb : (r.n + r.m) * i.bytes ≤ 140737488355328) (h63 : r.n + r.m ≤ maxLen) :
    ∃ v' c' w', (Builtin.append_ #[t, t] ty #[x, y]).run P w = .ok v' w' ∧ Ext c.next c w c' w' ∧ c'.next = c.next + r.skip + 1 ∧ c'.floor = c.floor ∧ Mem P c' ((c.next + r.skip, r.cells) :: r.boxes) r.tips w' ∧ Rep P c' w' (.rf (.row e r.sz 0 (r.n + r.m)) (c.next + r.skip)) v' := by
  have hco := cellsOf_eq hi
  have hsm : r.n + r.m ≤ 9223372036854775807 := by simp only [maxLen] at h63; omega
  have fresh := row_fresh h hi hzs
  simp only [rowApp] at hr
  split at hr
  · rename_i cells m vs hbx hsrc
    split at hr
    · rename_i hc
      obtain ⟨rfl, rfl, hnc⟩ := hc
      simp only [Option.some.injEq] at hr
      subst hr
      simp only [Nat.add_zero] at hb h63 hsm ⊢
      simp only [Rep] at hx
      obtain ⟨hid, o, cap, arr, rfl, g2, g3, g4, g5, g6, g7, g8, g9⟩ := hx
      obtain ⟨rfl, hsz⟩ := g9 rfl
      replace g7 := row_zero h hbx g7
      have hsi : sz = i.size := g5.trans hco
      have hmem := boxAt_mem hbx
      have hrow := row_cells h hbx g7
      have hle : cells.length ≤ arr.size := by have := hrow.length; simp only [List.length_take, Array.length_toList] at this; omega
      have hold := hrow.take (n * sz)
      rw [List.take_take, Nat.min_eq_left hnc] at hold
      have hol : (arr.toList.take (n * sz)).length = n * i.size := by rw [List.length_take, Array.length_toList, hsi]; rw [hsi] at hnc; omega
      rcases srcN_sound h hy hsrc with ⟨rfl, rfl, a2, cap2, rfl⟩ | ⟨hm, a2, cap2, rfl, hl, hnews, h1⟩
      · obtain ⟨q1, q2⟩ := h.moveBox hmem
        have q3 := q2.reBox (id := c.next) (cells := cells) (cells' := cells.take (n * sz) ++ [].map .lit) List.mem_cons_self (fun o' ho hbr => by
          have : (c.newBox (c.β id)).β c.next = c.β id := by simp [Ctx.newBox]
          rw [this, g7, Option.some.injEq] at ho
          subst ho
          refine .inl ⟨arr, e', rfl, ?_⟩
          have hl2 : (cells.take (n * sz) ++ ([] : List Value).map AV.lit).length = n * sz := by simp; omega
          rw [hl2]
          simp only [List.map_nil, List.append_nil]
          exact RepL.ext q1 (Nat.le_succ _) _ _ hold)
        refine ⟨.slice (some ⟨c.β id, 0, none⟩) n cap, _, w, ?_, q1, rfl, rfl, ?_, ?_⟩
        · cases a2 <;> simp [Builtin.append_, run_underlying ht, sizeOf, typeInfo, hi, Builtin.lenOf, Builtin.firstCells, loadCells, loadCellsFrom, storeCells, g3]
        · simpa [setBox] using q3
        · simp only [Rep]
          exact ⟨Nat.lt_succ_self _, 0, cap, arr, by simp [Ctx.newBox], .inl rfl, by omega, g4, g5, g6, ⟨(0, 0), by simp [Ctx.newBox]; exact g7⟩, g8, fun _ => ⟨rfl, hsz⟩⟩
      · rw [hco] at hl
        by_cases hroom : n + m ≤ cap
        · have hfit : n * i.size + vs.length ≤ arr.size := by rw [hl, hsz, hsi, ← Nat.add_mul]; exact Nat.mul_le_mul_right _ hroom
          have hrun := run_append_room (P := P) w t ty e' i ht hi (c.β id) n cap arr g7 a2 m cap2 vs hl hnews h1 hroom hfit
          rw [← hsi] at hrun hfit
          have hs2 : (arr.toList.take (n * sz) ++ vs ++ arr.toList.drop (n * sz + vs.length)).toArray.size = arr.size := by
            simp only [List.size_toArray, List.length_append, List.length_take, List.length_drop, Array.length_toList]; omega
          have hlc : (cells.take (n * sz) ++ vs.map AV.lit).length = n * sz + vs.length := by simp; omega
          have q0 := h.setRow (cells' := cells.take (n * sz) ++ vs.map AV.lit) hmem g7 hs2 (by
            rw [hlc]
            simp only
            rw [List.take_left' (by simp only [List.length_append, List.length_take, Array.length_toList]; omega)]
            exact hold.append (RepL.lits vs))
          have hmem2 : (id, cells.take (n * sz) ++ vs.map AV.lit) ∈ setBox bx id (cells.take (n * sz) ++ vs.map AV.lit) := setBox_at hmem
          have x0 := Ext.setRow c.next c w (c.β id) _ g7 hs2 (h.boxes _ hmem).free
          obtain ⟨q1, q2⟩ := q0.moveBox hmem2
          refine ⟨_, _, _, hrun, x0.trans q1, rfl, rfl, by rw [delBox_setBox] at q2; exact q2, ?_⟩
          simp only [Rep]
          refine ⟨Nat.lt_succ_self _, 0, cap, (arr.toList.take (n * sz) ++ vs ++ arr.toList.drop (n * sz + vs.length)).toArray, by simp [Ctx.newBox], .inl rfl, hroom, g4, g5, g6, ?_, ?_, fun _ => ⟨rfl, ?_⟩⟩
          · have : (c.newBox (c.β id)).β c.next = c.β id := by simp [Ctx.newBox]
            rw [this]; exact ⟨_, setRow_heap w _ _ _ _ _ g7⟩
          · rw [hs2]; exact g8
          · rw [hs2]; exact hsz
        · obtain ⟨c', p1, p2, p3, p4, p5⟩ := fresh (cells.take (n * sz) ++ vs.map AV.lit) (arr.toList.take (n * sz)) vs n m cap (by rw [← g5]; exact g6) (hold.append (RepL.lits vs)) hol hl (by omega) h63
          have hrun := run_append_grow (P := P) w t ty e' i z ht hi hz ⟨c.β id, 0, none⟩ n cap (arr.toList.take (n * sz)) hol (fun j u hj => by
            rw [add_lit, Nat.zero_add, cell_of_row w _ _ _ _ _ g7]
            rw [List.getElem?_take] at hj
            split at hj
            · simpa using hj
            · cases hj) a2 m cap2 vs hl hnews (by omega) (by omega) (growslice_fits (by omega) hb)
          refine ⟨_, c', _, hrun, p1, p2, p3, ?_, by rw [← g5] at p5; exact p5⟩
          exact p4.forget ((delBox_sub bx id).cons_cons _) (List.Sublist.refl _)
    · cases hr
  · cases hr

/-- An append of some to nil: a row that may be written. -/
theorem rowApp_nil (h : Mem P c bx tp w) {t ty e : TypeId} {i : TypeInfo} {z : Value} (ht : P.underlying t = some (.slice e)) (hi : P.info? e = some i) (hz : i.zero = some z) (hzs : z.cells.size = i.size)
    {yv : AV} {y : Value} (hy : Rep P c w yv y) {m : Nat} {vs : List Value} (hsrc : srcN bx e yv = some (m, vs)) (hm0 : 0 < m ∧ m ≤ vs.length) (hb : m * i.bytes ≤ 140737488355328) (h63 : m ≤ maxLen) :
    ∃ v' c' w', (Builtin.append_ #[t, t] ty #[.slice none 0 0, y]).run P w = .ok v' w' ∧ Ext c.next c w c' w' ∧ c'.next = c.next + 1 ∧ c'.floor = c.floor ∧ Mem P c' ((c.next, vs.map .lit) :: bx) tp w' ∧ Rep P c' w' (.rf (.row e (vs.length / m) 0 m) c.next) v' := by
  have hco := cellsOf_eq hi
  have hsm : m ≤ 9223372036854775807 := by simp only [maxLen] at h63; omega
  rcases srcN_sound h hy hsrc with ⟨rfl, _, _⟩ | ⟨hm, a2, cap2, rfl, hl, hnews, h1⟩
  · omega
  · have hq : vs.length / m = P.cellsOf e := by rw [hl]; exact Nat.mul_div_cancel_left _ hm
    have hcp : 0 < P.cellsOf e := by
      rcases Nat.eq_zero_or_pos (P.cellsOf e) with h0 | h0
      · rw [h0] at hl; omega
      · exact h0
    rw [hco] at hl
    obtain ⟨c', p1, p2, p3, p4, p5⟩ := row_fresh h hi hzs (vs.map AV.lit) [] vs 0 m 0 hcp (RepL.lits vs) (by simp) hl (by omega) (by omega)
    have hrun := run_append_nil (P := P) w t ty e i z ht hi hz a2 m cap2 vs hl hnews hm (by omega) (by omega)
    simp only [Nat.zero_add] at p1 p2 p3 p4 p5
    refine ⟨_, c', _, hrun, ?_, p2, p3, ?_, ?_⟩
    · simpa using p1
    · simpa using p4
    · rw [hq]; simpa using p5

/-- A number is passed over. -/
theorem Mem.bump (hm : Mem P c bx tp w) : Ext c.next c w { c with next := c.next + 1 } w ∧ Mem P { c with next := c.next + 1 } bx tp w := by
  have hx : Ext c.next c w { c with next := c.next + 1 } w := ⟨rfl, rfl, rfl, Nat.le_refl _, fun _ _ => ⟨rfl, rfl⟩, fun _ _ _ hp => ⟨hp, rfl⟩, Stays.refl w, fun _ _ _ _ h => h⟩
  exact ⟨hx, fun x h => (hm.boxes x h).ext hx (Nat.le_succ _) rfl fun _ hj => hj, hm.apart, fun x h => (hm.tips x h).ext hx (Nat.le_succ _) (fun _ _ => rfl) fun _ _ _ hj => hj, hm.tapart, hm.tids, hm.cross, hm.below, hm.baseLe, hm.plt, hm.pold⟩

/-- An own block that nobody reads is a box. -/
theorem Mem.adopt (hm : Mem P c bx tp w) {g : Nat} {o : Obj} {cells : List AV} (hg : c.base ≤ g) (ho : w.heap[g]? = some o) (hr : BoxRep P c w cells o) (hf : ∀ j, ¬ c.prot g j) (hbx : ∀ y ∈ bx, c.β y.1 ≠ g) (htp : ∀ x ∈ tp, (c.τ x.1).ownBlock ≠ some g) :
    Ext c.next c w (c.newBox g) w ∧ Mem P (c.newBox g) ((c.next, cells) :: bx) tp w := by
  have hx : Ext c.next c w (c.newBox g) w := ⟨rfl, rfl, rfl, Nat.le_refl _, fun i hi => ⟨by simp [Ctx.newBox]; omega, rfl⟩, fun _ _ _ hp => ⟨hp, rfl⟩, Stays.refl w, fun _ _ _ _ h => h⟩
  have hβ : ∀ i, i < c.next → (c.newBox g).β i = c.β i := fun i hi => (hx.ids i hi).1
  have hβn : (c.newBox g).β c.next = g := by simp [Ctx.newBox]
  refine ⟨hx, ?_, ?_, ?_, hm.tapart, hm.tids, ?_, hm.below, hm.baseLe, hm.plt, hm.pold⟩
  · intro y hy
    rcases List.mem_cons.1 hy with rfl | hy
    · exact ⟨Nat.lt_succ_self _, by rw [hβn]; exact hg, fun j hj => hf j (by rw [hβn] at hj; exact hj), o, by rw [hβn]; exact ho, hr.ext hx (Nat.le_succ _)⟩
    · exact (hm.boxes y hy).ext hx (Nat.le_succ _) rfl fun _ hj => hj
  · refine List.pairwise_cons.2 ⟨fun y hy => ?_, hm.apart.imp_of_mem fun {p q} hp hq hpq => ?_⟩
    · rw [hβn, hβ _ (hm.boxes y hy).lt]
      exact fun e => hbx y hy e.symm
    · rw [hβ _ (hm.boxes p hp).lt, hβ _ (hm.boxes q hq).lt]; exact hpq
  · exact fun y hy => (hm.tips y hy).ext hx (Nat.le_succ _) (fun _ _ => rfl) fun _ _ _ hj => hj
  · intro y hy z hz
    show (c.τ y.1).ownBlock ≠ _
    rcases List.mem_cons.1 hz with rfl | hz
    · rw [hβn]; exact htp y hy
    · rw [hβ _ (hm.boxes z hz).lt]; exact hm.cross y hy z hz

/-- APPEND to a row that may be written, or one that makes such a row. -/
theorem rowApp_sound (h : Mem P c bx tp w) {t ty e : TypeId} {i : TypeInfo} {z : Value} (ht : P.underlying t = some (.slice e)) (hi : P.info? e = some i) (hz : i.zero = some z) (hzs : z.cells.size = i.size)
    {xv yv : AV} {x y : Value} (hx : Rep P c w xv x) (hy : Rep P c w yv y) {r : RowApp} (hr : rowApp bx tp e xv yv = some r) (hb : (r.n + r.m) * i.bytes ≤ 140737488355328) (h63 : r.n + r.m ≤ maxLen) :
    ∃ v' c' w', (Builtin.append_ #[t, t] ty #[x, y]).run P w = .ok v' w' ∧ Ext c.next c w c' w' ∧ c'.next = c.next + r.skip + 1 ∧ c'.floor = c.floor ∧ Mem P c' ((c.next + r.skip, r.cells) :: r.boxes) r.tips w' ∧ Rep P c' w' (.rf (.row e r.sz 0 (r.n + r.m)) (c.next + r.skip)) v' := by
  have hco := cellsOf_eq hi
  have hsm : r.n + r.m ≤ 9223372036854775807 := by simp only [maxLen] at h63; omega
  have fresh := row_fresh h hi hzs
  have hr0 := hr
  unfold rowApp at hr
  split at hr
  · exact rowApp_row h ht hi hz hzs hx hy hr0 hb h63
  · rename_i e' sz off m' id
    split at hr
    · rename_i m vs hsrc
      split at hr
      · rename_i hm0
        simp only [Option.some.injEq] at hr
        subst hr
        simp only [Nat.zero_add, Nat.add_zero] at hb h63 hsm ⊢
        simp only [Rep] at hx
        subst hx
        rcases srcN_sound h hy hsrc with ⟨rfl, _, _⟩ | ⟨hm, a2, cap2, rfl, hl, hnews, h1⟩
        · omega
        · rw [hco] at hl
          simp only [Rep] at hy
          obtain ⟨hid, o, cap, arr, _, _, _, _, g5, g6, _⟩ := hy
          have hee : e' = e := by
            simp only [srcN] at hsrc
            split at hsrc
            · split at hsrc
              · split at hsrc
                · rename_i hc; exact hc.1
                · cases hsrc
              · cases hsrc
            · cases hsrc
          subst hee
          obtain ⟨c', p1, p2, p3, p4, p5⟩ := fresh (vs.map AV.lit) [] vs 0 m 0 (by rw [← g5]; exact g6) (RepL.lits vs) (by simp) hl (by omega) (by omega)
          have hrun := run_append_nil (P := P) w t ty e' i z ht hi hz a2 m cap2 vs hl hnews hm (by omega) (by omega)
          simp only [Nat.zero_add] at p1 p2 p3 p4 p5
          refine ⟨_, c', _, hrun, ?_, p2, p3, ?_, ?_⟩
          · simpa using p1
          · simpa using p4
          · rw [g5]; simpa using p5
      · cases hr
    · cases hr
  · split at hr
    · rename_i m vs hsrc
      split at hr
      · rename_i hm0
        simp only [Option.some.injEq] at hr
        subst hr
        simp only [Nat.zero_add, Nat.add_zero] at hb h63 hsm ⊢
        simp only [Rep, RepL] at hx
        obtain ⟨xs, ⟨rfl, _⟩, v0, vs0, hxv, hx, rfl⟩ := hx
        simp only [List.cons.injEq, and_true] at hxv
        subst hxv; subst hx
        exact rowApp_nil h ht hi hz hzs hy hsrc hm0 hb h63
      · cases hr
    · cases hr
  · rename_i e' id
    split at hr
    · rename_i m vs hsrc
      split at hr
      · rename_i hc
        obtain ⟨hm0, hmv, rfl, htip⟩ := hc
        simp only [Option.some.injEq] at hr
        subst hr
        simp only [Nat.zero_add] at hb h63 hsm ⊢
        simp only [Rep, RepL] at hx
        obtain ⟨xs, ⟨rfl, _⟩, v0, vs0, hxv, ⟨⟨a0, cap0, hx0, _, _, _⟩, hxt⟩, rfl⟩ := hx
        simp only [List.cons.injEq, and_true] at hxv
        subst hxv
        obtain ⟨hidn, hτ⟩ := hxt id rfl
        have hown := h.own (hasTip_mem htip)
        rw [hτ] at hown
        have hm1 := h.forget (List.Sublist.refl bx) (dropTip_sub tp id)
        rcases hown with hnil | ⟨g, n, cap, cur, hv, g2, g3, g4, g5, g6, g7, g8, g9⟩
        · rw [hnil]
          obtain ⟨b1, b2⟩ := hm1.bump
          obtain ⟨v', c', w', q1, q2, q3, q4, q5, q6⟩ := rowApp_nil (ty := ty) b2 ht hi hz hzs (Rep.ext b1 (Nat.le_succ _) _ _ hy) hsrc ⟨hm0, hmv⟩ hb h63
          exact ⟨v', c', w', q1, b1.trans (q2.mono (Nat.le_succ _)), q3, q4, q5, q6⟩
        · have hn0 : n = 0 := by rw [hv] at hx0; simp only [Value.slice.injEq, List.length_nil] at hx0; exact hx0.2.1
          subst hn0
          have hfree : ∀ j, ¬ c.prot g j := fun j hj => by have := g7 j hj; omega
          obtain ⟨b1, b2⟩ := hm1.adopt (cells := []) g2 g3 (.inl ⟨cur, e', rfl, by simp [RepL]⟩) hfree g9 g8
          have hcp : 0 < P.cellsOf e' := by
            rcases srcN_sound h hy hsrc with ⟨rfl, _, _⟩ | ⟨_, _, _, _, hl, _, _⟩
            · omega
            · rcases Nat.eq_zero_or_pos (P.cellsOf e') with h0 | h0
              · rw [h0] at hl; omega
              · exact h0
          have hq : vs.length / m = P.cellsOf e' := by
            rcases srcN_sound h hy hsrc with ⟨rfl, _, _⟩ | ⟨hm, _, _, _, hl, _, _⟩
            · omega
            · rw [hl]; exact Nat.mul_div_cancel_left _ hm
          have hrow : Rep P (c.newBox g) w (.rf (.row e' (P.cellsOf e') 0 0) c.next) (.slice (some ⟨g, 0, none⟩) 0 cap) := by
            simp only [Rep]
            refine ⟨Nat.lt_succ_self _, 0, cap, cur, by simp [Ctx.newBox], .inl rfl, Nat.zero_le _, g5, rfl, hcp, ⟨(0, 0), by simp [Ctx.newBox]; exact g3⟩, by rw [g6]; omega, fun _ => ⟨rfl, g6⟩⟩
          have hsrc2 : srcN ((c.next, []) :: bx) e' yv = some (m, vs) := by
            unfold srcN at hsrc ⊢
            split at hsrc
            · exact hsrc
            · exact hsrc
            · rename_i e2 sz2 off2 m2 id2
              simp only [Rep] at hy
              have hne : ¬ c.next = id2 := by have := hy.1; omega
              simp only [boxAt, if_neg hne]
              exact hsrc
            · cases hsrc
          have hra : rowApp ((c.next, []) :: bx) (dropTip tp id) e' (.rf (.row e' (P.cellsOf e') 0 0) c.next) yv = some ⟨P.cellsOf e', 0, m, vs.map .lit, bx, dropTip tp id, 0⟩ := by
            simp only [rowApp, hsrc2, boxAt, if_true, unOb, obBox, Bool.false_eq_true, if_false, Nat.zero_mul, List.length_nil, Nat.le_refl, and_self, List.take_zero, List.nil_append, delBox]
          obtain ⟨v', c', w', q1, q2, q3, q4, q5, q6⟩ := rowApp_row (ty := ty) b2 ht hi hz hzs hrow (Rep.ext b1 (Nat.le_succ _) _ _ hy) hra (by simpa using hb) (by simpa using h63)
          rw [← hv] at q1
          refine ⟨v', c', w', q1, b1.trans (q2.mono (Nat.le_succ _)), q3, q4, q5, ?_⟩
          rw [hq]
          simp only [Nat.zero_add, Nat.add_zero] at q6
          exact q6
      · cases hr
    · cases hr
  · cases hr

theorem zeroCells_made (z : Array Value) (n : Nat) : Builtin.zeroCells z n = madeCells z (n * z.size) := rfl

/-- A new row by an append of elements that are nought. -/
theorem apz_sound {t t' ty e : TypeId} {i : TypeInfo} {z : Value} (hu : P.underlying t = some (.slice e)) (ht' : isIntT P t' = true) (hi : P.info? e = some i) (hz : i.zero = some z) (hzs : z.cells.size = i.size) (hpos : 0 < i.size) {bx : List (Nat × List AV)} {tp : List (Nat × TypeId)} {nx : Nat} (hm : Mem P c bx tp w) (hnx : c.next = nx) {lv kv : AV} {l k : Value}
    (hl : Rep P c w lv l) (hk : Rep P c w kv k) {u : Upd} (he : (XE.apz e i.size i.bytes z.cells.toList).eff bx tp nx [lv, kv] = some u) :
    ∃ v r cells w' c', (Builtin.append_ #[t, t'] ty #[l, k]).run P w = .ok v w' ∧ u = ⟨some (.rf r nx), (nx, cells) :: bx, tp, nx + 1⟩ ∧ Ext c.next c w c' w' ∧ c'.next = c.next + 1 ∧ c'.floor = c.floor ∧ Mem P c' ((nx, cells) :: bx) tp w' ∧ Rep P c' w' (.rf r nx) v := by
  subst hnx
  unfold XE.eff at he
  split at he
  · rename_i he' _; cases he'
  · rename_i he' _; cases he'
  · rename_i he' _; cases he'
  · rename_i he'; cases he'
  · rename_i e' sz bytes zero k1 n he' hxs
    simp only [XE.apz.injEq] at he'
    obtain ⟨rfl, rfl, rfl, rfl⟩ := he'
    simp only [List.cons.injEq, and_true] at hxs
    obtain ⟨rfl, rfl⟩ := hxs
    simp only [Rep] at hl hk
    subst hl hk
    split at he
    · rename_i hc
      obtain ⟨h0, hb, h63⟩ := hc
      obtain ⟨m, rfl⟩ : ∃ m : Nat, n = m := ⟨n.toNat, by omega⟩
      simp only [Int.toNat_natCast, Option.some.injEq] at he hb
      have hm0 : 0 < m := by omega
      have hm1 : m ≠ 0 := by omega
      have hi' : ∃ kk, P.underlying t' = some (.int kk) := by
        unfold isIntT at ht'
        split at ht'
        · rename_i kk hkk; exact ⟨kk, hkk⟩
        · cases ht'
      obtain ⟨kk, hkk⟩ := hi'
      have hw : IntKind.i64.wrap (m : Int) = m := by rw [IntKind.wrap_i64]; omega
      have n1 : ¬ ((m : Int) < 0) := by omega
      have n2 : ¬ (281474976710656 < (m : Int) * (i.bytes : Int)) := by
        have : ((m * i.bytes : Nat) : Int) ≤ 140737488355328 := by omega
        rw [Int.natCast_mul] at this
        omega
      have n3 : ¬ (m * i.size = 0) := by
        intro h
        rcases Nat.mul_eq_zero.1 h with h | h <;> omega
      have n4 : ¬ (9223372036854775807 < (m : Int)) := by omega
      have n5 : ¬ (281474976710656 < Builtin.nextslicecap m 0 * i.bytes) := by rw [nextslicecap_zero hm0]; omega
      have hrun : (Builtin.append_ #[t, t'] ty #[.slice none 0 0, .int k1 (m : Int)]).run P w =
          .ok (.slice (some ⟨w.heap.size, 0, none⟩) m (grownCap w m 0 e)) (w.drew.alloc (.cells (Builtin.zeroCells z.cells m ++ Builtin.zeroCells z.cells (grownCap w m 0 e - m)) e)) := by
        simp [Builtin.append_, run_underlying hu, run_underlying hkk, sizeOf, typeInfo, zeroValue, hi, hz, asInt, asIntOf, hw, n1, n2, n3, n4, n5, hm1, Question.forced, newRow, grownCap, run_firstCells_none]
      have hge := grownCap_ge w m 0 e
      have hcm : grownCap w m 0 e ≤ maxLen := grownCap_le_maxLen w _ 0 e (by simp only [maxLen]; omega)
      have hco := cellsOf_eq hi
      have hsize : (Builtin.zeroCells z.cells m ++ Builtin.zeroCells z.cells (grownCap w m 0 e - m)).size = grownCap w m 0 e * i.size := by
        simp only [Array.size_append, size_zeroCells, hzs, ← Nat.add_mul]
        congr 1
        omega
      have hlen : (((List.replicate m z.cells.toList).flatten).map AV.lit).length = m * z.cells.size := by rw [List.length_map, flat_rep_length, Array.length_toList]
      have hbr : BoxRep P c w.drew (((List.replicate m z.cells.toList).flatten).map AV.lit) (.cells (Builtin.zeroCells z.cells m ++ Builtin.zeroCells z.cells (grownCap w m 0 e - m)) e (0, 0)) := by
        refine .inl ⟨_, e, rfl, ?_⟩
        rw [hlen]
        simp only [Array.toList_append]
        rw [List.take_left' (by rw [Array.length_toList, size_zeroCells])]
        have := madeCells_take z.cells (by omega) (n := m) (m := m * z.cells.size) (Nat.le_refl _)
        rw [← zeroCells_made, List.take_of_length_le (by rw [Array.length_toList, size_zeroCells]; omega)] at this
        rw [this]
        exact RepL.lits _
      refine ⟨_, _, _, _, c.newBox w.heap.size, hrun, he.symm, (Ext.drew c.next c w).trans (Ext.newBox c w.drew _), rfl, rfl, hm.drew.newOb hbr, ?_⟩
      simp only [Rep]
      refine ⟨Nat.lt_succ_self _, 0, _, _, by simp [Ctx.newBox], .inl rfl, hge, hcm, hco.symm, hpos, ?_, ?_, fun _ => ⟨rfl, hsize⟩⟩
      · have : (c.newBox w.heap.size).β c.next = w.drew.heap.size := by simp [Ctx.newBox]
        rw [this]; exact ⟨_, heap_alloc_new w.drew _⟩
      · rw [hsize]; omega
    · cases he
  · rename_i he' _; cases he'
  · rename_i he' _; cases he'
  · cases he

end
end Go.Ab
