/-
Maps: what a lookup and a length are, and what a key finds. Conditions: none.
-/
import Derived.Test.YteekelelcbfekaaDoorAbSound4
import Derived.MapKept
import Derived.Maps.RangeRun
set_option linter.unusedSimpArgs false
set_option linter.unusedVariables false
set_option linter.unusedSectionVars false
namespace Go.Ab
open Go Go.RowKit

section
variable {P : Program} {N : Nat} {c c' : Ctx} {w w' : World} {s : State} {a : Act} {bx : List (Nat × List AV)} {tp : List (Nat × TypeId)}

theorem evs_one {x : AX} {l : List AV} (h : s.evs [x] = some l) : ∃ y, s.ev x = some y ∧ l = [y] := by
  simp only [State.evs] at h
  split at h
  · rename_i a b ha hb
    simp only [Option.some.injEq] at hb h
    subst hb h
    exact ⟨a, ha, rfl⟩
  · cases h
theorem evs_cons {x : AX} {xs : List AX} {l : List AV} (h : s.evs (x :: xs) = some l) : ∃ y ys, s.ev x = some y ∧ s.evs xs = some ys ∧ l = y :: ys := by
  simp only [State.evs] at h
  split at h
  · rename_i a b ha hb
    simp only [Option.some.injEq] at h
    subst h
    exact ⟨a, b, ha, hb, rfl⟩
  · cases h
theorem evs_two {x y : AX} {l : List AV} (h : s.evs [x, y] = some l) : ∃ u v, s.ev x = some u ∧ s.ev y = some v ∧ l = [u, v] := by
  obtain ⟨u, us, h1, h2, rfl⟩ := evs_cons h
  obtain ⟨v, h3, rfl⟩ := evs_one h2
  exact ⟨u, v, h1, h3, rfl⟩
theorem evs_three {x y z : AX} {l : List AV} (h : s.evs [x, y, z] = some l) : ∃ u v t, s.ev x = some u ∧ s.ev y = some v ∧ s.ev z = some t ∧ l = [u, v, t] := by
  obtain ⟨u, us, h1, h2, rfl⟩ := evs_cons h
  obtain ⟨v, t, h3, h4, rfl⟩ := evs_two h2
  exact ⟨u, v, t, h1, h3, h4, rfl⟩

theorem isIntT_desc {t : TypeId} (h : isIntT P t = true) : ∃ k, P.underlying t = some (.int k) := by
  unfold isIntT at h
  split at h
  · exact ⟨_, by assumption⟩
  · cases h

theorem isKey_int {v : Value} (h : isKey v = true) : ∃ k n, v = .int k n := by
  unfold isKey at h
  split at h
  · exact ⟨_, _, rfl⟩
  · cases h

theorem findA_sound {key : Value} {kk : IntKind} : ∀ (es : List MapEntry) (cells : List AV) (i : Nat) {r : Option (Nat × AV)}, RepL P c w cells (es.flatMap fun e => [e.key, e.val]) → findA key cells i = some r →
    (r = none ∧ Instr.findNow (.int kk) key es i = some none) ∨
    (∃ j av v e, r = some (i + j, av) ∧ es[j]? = some e ∧ e.val = v ∧ eqKey key e.key = some true ∧ Rep P c w av v ∧ Instr.findNow (.int kk) key es i = some (some (i + j, v)))
  | [], cells, i, r, hr, hf => by
    cases cells with
    | nil => simp only [findA, Option.some.injEq] at hf; exact .inl ⟨hf.symm, rfl⟩
    | cons x xs => simp only [List.flatMap_nil, RepL] at hr; obtain ⟨_, _, h, _⟩ := hr; cases h
  | e :: es, cells, i, r, hr, hf => by
    cases cells with
    | nil => simp [RepL] at hr
    | cons x xs =>
      cases xs with
      | nil => simp [RepL] at hr
      | cons y ys =>
        simp only [List.flatMap_cons, List.cons_append, List.nil_append, RepL, List.cons.injEq] at hr
        obtain ⟨kv, vs, ⟨rfl, rfl⟩, h1, v, us, ⟨rfl, rfl⟩, h2, h3⟩ := hr
        cases x with
        | lit x =>
          simp only [Rep] at h1
          simp only [findA] at hf
          rw [← h1] at hf
          have hs : ∀ b, eqKey key e.key = some b → Instr.sameNow (.int kk) key e.key = some b := fun b hb => by
            unfold eqKey at hb
            split at hb
            · rename_i hk; rw [hk]; simpa [Instr.sameNow] using hb
            · cases hb
          split at hf
          · rename_i hb
            simp only [Option.some.injEq] at hf
            exact .inr ⟨0, y, e.val, e, by rw [← hf]; rfl, rfl, rfl, hb, h2, by simp only [Instr.findNow, hs _ hb]; rfl⟩
          · rename_i hb
            rcases findA_sound (kk := kk) es ys (i + 1) h3 hf with ⟨g1, g2⟩ | ⟨j, av, v, e', g1, g2, g3, g4, g5, g6⟩
            · exact .inl ⟨g1, by simp only [Instr.findNow, hs _ hb]; exact g2⟩
            · exact .inr ⟨j + 1, av, v, e', by rw [g1]; congr 2; omega, by simpa using g2, g3, g4, g5, by simp only [Instr.findNow, hs _ hb, g6]; congr 3; omega⟩
          · cases hf
        | _ => simp [findA] at hf

theorem litA_rep (z : Value) : Rep P c w (litA z) z := by
  unfold litA
  split
  · simp only [Rep]; exact ⟨_, rfl, RepL.lits _⟩
  · simp only [Rep]

theorem run_findKey {kt : TypeId} {kk : IntKind} (hu : P.underlying kt = some (.int kk)) {k : Value} {es : List MapEntry} {r : Option (Nat × Value)} (h : Instr.findNow (.int kk) k es 0 = some r) : (Instr.findKey kt k es).run P w = .ok r w := by
  simp [Instr.findKey, run_underlying hu, h]

theorem run_keyInt {kt : TypeId} {kk : IntKind} (hu : P.underlying kt = some (.int kk)) {k : IntKind} {n : Int} (e : Bool) : (Instr.checkKey e 10000 kt (.int k n)).run P w = .ok () w := by
  unfold Instr.checkKey
  simp [run_underlying hu]

/-- The map that a name names. -/
theorem map_at (h : Rel P N c s a w) {id : Nat} {k e : TypeId} {n : Nat} {cells : List AV} (ho : obAt s.boxes id = some (.ob (.map k e n) cells)) :
    ∃ es : Array MapEntry, w.heap[c.β id]? = some (.map es n) ∧ es.size = n ∧ RepL P c w cells (es.toList.flatMap fun e => [e.key, e.val]) ∧ ∀ (i : Nat) (e : MapEntry), es[i]? = some e → e.born = i := by
  have hm := obAt_mem ho
  obtain ⟨o, h1, h2⟩ := (h.mem.boxes _ hm).row
  obtain ⟨es, rfl, g⟩ := h2.ob
  exact ⟨es, h1, g⟩

/-- What a look that has found its entry, or none, hands back. -/
theorem lkpV_rep {ok : Bool} {z : Value} : (∃ v : Value, (if ok then Value.tuple #[z, .bool false] else z) = v ∧ Rep P c w (lkpV ok z none) v) ∧ ∀ {i : Nat} {av : AV} {u : Value}, Rep P c w av u → ∃ v : Value, (if ok then Value.tuple #[u, .bool true] else u) = v ∧ Rep P c w (lkpV ok z (some (i, av))) v := by
  refine ⟨⟨_, rfl, ?_⟩, fun {i av u} hu => ⟨_, rfl, ?_⟩⟩
  · unfold lkpV
    cases ok
    · exact litA_rep z
    · simp only [if_true, Rep]; exact ⟨_, rfl, by simp only [RepL]; exact ⟨_, _, rfl, litA_rep z, _, _, rfl, by simp only [Rep], rfl⟩⟩
  · unfold lkpV
    cases ok
    · exact hu
    · simp only [if_true, Rep]; exact ⟨_, rfl, by simp only [RepL]; exact ⟨_, _, rfl, hu, _, _, rfl, by simp only [Rep], rfl⟩⟩

/-- A look into a map that nobody writes. -/
theorem lookupF_sound {t kt et : TypeId} (hu : P.underlying t = some (.map kt et)) (hk : isIntT P kt = true) {ie : TypeInfo} (hi : P.info? et = some ie) {z : Value} (hz : ie.zero = some z)
    {mv kv : AV} {m k : Value} (hm : Rep P c w mv m) (hkv : Rep P c w kv k) {ok : Bool} {av : AV} (hv : lkpF ok z [mv, kv] = some av) : ∃ v, (Instr.lookup t m k ok).run P w = .ok v w ∧ Rep P c w av v := by
  obtain ⟨kk, hkk⟩ := isIntT_desc hk
  have zero : (zeroValue et).run P w = .ok z w := by simp [zeroValue, typeInfo, hi, hz]
  unfold lkpF at hv
  split at hv
  · rename_i n cells key hx
    simp only [List.cons.injEq, and_true] at hx
    obtain ⟨rfl, rfl⟩ := hx
    simp only [Rep] at hm hkv
    subst hkv
    obtain ⟨vs, ⟨r0, es, rfl, _, g1, g2, rfl, g4⟩, g3⟩ := hm
    split at hv
    · rename_i r hkey hf
      simp only [Option.some.injEq] at hv; subst hv
      obtain ⟨ki, kn, rfl⟩ := isKey_int hkey
      rcases findA_sound (kk := kk) es.toList cells 0 g3 hf with ⟨rfl, q⟩ | ⟨j, av, v, e, rfl, q1, q2, q3, q4, q5⟩
      · obtain ⟨v, hv, hr⟩ := (lkpV_rep (P := P) (c := c) (w := w) (ok := ok) (z := z)).1
        refine ⟨v, ?_, hr⟩
        rw [← hv]
        simp [Instr.lookup, run_underlying hu, MapKept.run_getObj_map g1, run_keyInt hkk, run_findKey hkk q, zero, Result.andThen]
      · obtain ⟨v', hv, hr⟩ := (lkpV_rep (P := P) (c := c) (w := w) (ok := ok) (z := z)).2 (i := 0 + j) q4
        refine ⟨v', ?_, hr⟩
        rw [← hv]
        simp [Instr.lookup, run_underlying hu, MapKept.run_getObj_map g1, run_keyInt hkk, run_findKey hkk q5, Result.andThen]
    · cases hv
  · cases hv

/-! ### Keys of several numbers -/

theorem equal_flat {t : TypeId} {ks : List BK} (h : flatEq P t = some ks) {xs ys : List Value} {b : Bool} (he : eqK ks xs ys = some b) : (Op.equal t (.agg xs.toArray) (.agg ys.toArray)).run P w = .ok b w := by
  unfold flatEq at h
  split at h
  · rename_i hcond
    simp only [Bool.and_eq_true, Bool.not_eq_true'] at hcond
    exact (flat_sound (P := P) (w := w) 8 h 9992 he).1 hcond.1
  · cases h

theorem ag_lits {l : List AV} {xs : List Value} (hl : vals l = some xs) {v : Value} (h : Rep P c w (.ag l) v) : v = .agg xs.toArray := by
  simp only [Rep] at h
  obtain ⟨a, rfl, h⟩ := h
  have := h.of_vals hl
  rw [← this]

theorem findS_sound {kt : TypeId} {ks : List BK} (hks : flatEq P kt = some ks) {xs : List Value} : ∀ (es : List MapEntry) (cells : List AV) (i : Nat) {r : Option (Nat × AV)}, RepL P c w cells (es.flatMap fun e => [e.key, e.val]) → findS ks xs cells i = some r →
    (r = none ∧ (Instr.findAsking kt (.agg xs.toArray) es i).run P w = .ok none w) ∨
    (∃ j av v e ys, r = some (i + j, av) ∧ es[j]? = some e ∧ e.val = v ∧ e.key = .agg ys ∧ eqK ks xs ys.toList = some true ∧ Rep P c w av v ∧ (Instr.findAsking kt (.agg xs.toArray) es i).run P w = .ok (some (i + j, v)) w)
  | [], cells, i, r, hr, hf => by
    cases cells with
    | nil => simp only [findS, Option.some.injEq] at hf; exact .inl ⟨hf.symm, by simp [Instr.findAsking]⟩
    | cons x xs => simp only [List.flatMap_nil, RepL] at hr; obtain ⟨_, _, h, _⟩ := hr; cases h
  | e :: es, cells, i, r, hr, hf => by
    cases cells with
    | nil => simp [RepL] at hr
    | cons x xs' =>
      cases xs' with
      | nil => simp [RepL] at hr
      | cons y ys' =>
        simp only [List.flatMap_cons, List.cons_append, List.nil_append, RepL, List.cons.injEq] at hr
        obtain ⟨kv, vs, ⟨rfl, rfl⟩, h1, v, us, ⟨rfl, rfl⟩, h2, h3⟩ := hr
        cases x with
        | ag l =>
          simp only [findS] at hf
          split at hf
          · rename_i ys hys
            have hkey := ag_lits hys h1
            split at hf
            · rename_i hb
              simp only [Option.some.injEq] at hf
              have hq := equal_flat (w := w) hks hb
              refine .inr ⟨0, y, e.val, e, ys.toArray, by rw [← hf]; rfl, rfl, rfl, hkey, by simpa using hb, h2, ?_⟩
              simp [Instr.findAsking, hkey, hq]
            · rename_i hb
              have hq := equal_flat (w := w) hks hb
              rcases findS_sound hks es ys' (i + 1) h3 hf with ⟨g1, g2⟩ | ⟨j, av, v, e', zs, g1, g2, g3, g4, g5, g6, g7⟩
              · exact .inl ⟨g1, by simp [Instr.findAsking, hkey, hq, g2]⟩
              · exact .inr ⟨j + 1, av, v, e', zs, by rw [g1]; congr 2; omega, by simpa using g2, g3, g4, g5, g6, by simp only [Instr.findAsking, hkey, Sem.run_bind, hq, Result.andThen_ok]; simp [g7]; omega⟩
            · cases hf
          · cases hf
        | _ => simp [findS] at hf

theorem keyKs_desc {kt : TypeId} {ks : List BK} (h : keyKs P kt = some ks) : flatEq P kt = some ks ∧ ∃ fs i, P.underlying kt = some (.struct fs) ∧ P.info? kt = some i ∧ ks.length = i.size ∧ (∀ f ∈ fs.toList, (∃ k, P.underlying f.type = some (.int k)) ∧ f.offset < i.size) := by
  unfold keyKs at h
  split at h
  · rename_i fs i hu hi
    split at h
    · rename_i hc
      split at h
      · rename_i ks' hks
        split at h
        · rename_i hl
          simp only [Option.some.injEq] at h; subst h
          simp only [Bool.and_eq_true, List.all_eq_true, decide_eq_true_eq] at hc
          exact ⟨hks, fs, i, hu, hi, hl, fun f hf => ⟨isIntT_desc (hc.1 f hf), hc.2 f hf⟩⟩
        · cases h
      · cases h
    · cases h
  · cases h

theorem run_checkS {kt : TypeId} {ks : List BK} (h : keyKs P kt = some ks) {xs : List Value} (hl : xs.length = ks.length) (em : Bool) : (Instr.checkKey em 10000 kt (.agg xs.toArray)).run P w = .ok () w := by
  obtain ⟨_, fs, i, hu, hi, h1, h2⟩ := keyKs_desc h
  have key : ∀ (l : List Field), (∀ f ∈ l, (∃ k, P.underlying f.type = some (.int k)) ∧ f.offset < i.size) → (forIn l PUnit.unit (fun f _ => (do
      if f.name ≠ "_" then (do
        let v ← part f.type xs.toArray f.offset
        Instr.checkKey em 9999 f.type v
        pure (ForInStep.yield PUnit.unit))
      else pure (ForInStep.yield PUnit.unit) : Sem (ForInStep PUnit)))).run P w = .ok PUnit.unit w := by
    intro l
    induction l with
    | nil => intro _; simp
    | cons f l ih =>
      intro hf
      obtain ⟨⟨k, hk⟩, ho⟩ := hf f (by simp)
      have hlt : f.offset < xs.length := by omega
      have hp : (part f.type xs.toArray f.offset).run P w = .ok xs[f.offset] w := by
        simp [part, isAgg_of hk, hlt]
      have hc : (Instr.checkKey em 9999 f.type xs[f.offset]).run P w = .ok () w := by
        unfold Instr.checkKey
        simp [run_underlying hk]
      have := ih fun g hg => hf g (List.mem_cons_of_mem _ hg)
      rw [List.forIn_cons]
      by_cases hn : f.name = "_"
      · simp only [hn, ne_eq, not_true_eq_false, if_false, Sem.run_bind, Sem.run_pure, Result.andThen_ok]; exact this
      · simp only [Sem.run_bind, ne_eq, hn, not_false_eq_true, if_true, hp, Result.andThen_ok, hc, Sem.run_pure]; exact this
  unfold Instr.checkKey
  simp only [Sem.run_bind, run_underlying hu, Result.andThen_ok]
  rw [← Array.forIn_toList, key fs.toList h2]
  simp

/-- A look by a key of several numbers. -/
theorem lookupS_sound (h : Rel P N c s a w) {t kt et : TypeId} (hu : P.underlying t = some (.map kt et)) {ks : List BK} (hk : keyKs P kt = some ks) {ie : TypeInfo} (hi : P.info? et = some ie) {z : Value} (hz : ie.zero = some z)
    {mv kv : AV} {m k : Value} (hm : Rep P c w mv m) (hkv : Rep P c w kv k) {ok : Bool} {av : AV} (hv : lkpSV ks ok z s.boxes [mv, kv] = some av) : ∃ v, (Instr.lookup t m k ok).run P w = .ok v w ∧ Rep P c w av v := by
  have zero : (zeroValue et).run P w = .ok z w := by simp [zeroValue, typeInfo, hi, hz]
  obtain ⟨hks, fs, i, hkt, _, _, _⟩ := keyKs_desc hk
  have fin : ∀ (r0 n : Nat) (es : Array MapEntry) (cells l : List AV) (xs : List Value), w.heap[r0]? = some (.map es n) → RepL P c w cells (es.toList.flatMap fun e => [e.key, e.val]) → vals l = some xs → Rep P c w (.ag l) k → xs.length = ks.length →
      (findS ks xs cells 0).map (lkpV ok z) = some av → ∃ v, (Instr.lookup t (.map (some r0)) k ok).run P w = .ok v w ∧ Rep P c w av v := by
    intro r0 n es cells l xs g1 g3 hxs hkv hlen hv
    have hkey := ag_lits hxs hkv
    subst hkey
    have hck := run_checkS (w := w) hk hlen es.isEmpty
    have hfk : ∀ r, (Instr.findAsking kt (.agg xs.toArray) es.toList 0).run P w = .ok r w → (Instr.findKey kt (.agg xs.toArray) es.toList).run P w = .ok r w := fun r hr => by
      unfold Instr.findKey
      simp only [Sem.run_bind, run_underlying hkt, Result.andThen_ok]
      cases hes : es.toList with
      | nil => rw [hes] at hr; simpa [Instr.findNow, Instr.findAsking] using hr
      | cons e l => rw [hes] at hr; simpa [Instr.findNow, Instr.sameNow] using hr
    cases hf : findS ks xs cells 0 with
    | none => rw [hf] at hv; cases hv
    | some r =>
      rw [hf] at hv
      simp only [Option.map_some, Option.some.injEq] at hv; subst hv
      rcases findS_sound hks es.toList cells 0 g3 hf with ⟨rfl, q⟩ | ⟨j, av, v, e, ys, rfl, q1, q2, q3, q4, q5, q6⟩
      · obtain ⟨v, hv, hr⟩ := (lkpV_rep (P := P) (c := c) (w := w) (ok := ok) (z := z)).1
        refine ⟨v, ?_, hr⟩
        rw [← hv]
        simp [Instr.lookup, run_underlying hu, MapKept.run_getObj_map g1, hck, hfk _ q, zero, Result.andThen]
      · obtain ⟨v', hv, hr⟩ := (lkpV_rep (P := P) (c := c) (w := w) (ok := ok) (z := z)).2 (i := 0 + j) q5
        refine ⟨v', ?_, hr⟩
        rw [← hv]
        simp [Instr.lookup, run_underlying hu, MapKept.run_getObj_map g1, hck, hfk _ q6, Result.andThen]
  unfold lkpSV at hv
  split at hv
  · rename_i id l hx
    simp only [List.cons.injEq, and_true] at hx
    obtain ⟨rfl, rfl⟩ := hx
    simp only [Rep, RefOK, refV] at hm
    obtain ⟨hid, rfl⟩ := hm
    split at hv
    · rename_i k0 e0 n cells xs ho hxs
      obtain ⟨es, g1, g2, g3, g4⟩ := map_at h ho
      split at hv
      · rename_i hlen
        exact fin _ n es cells l xs g1 g3 hxs hkv hlen hv
      · cases hv
    · cases hv
  · rename_i n cells l hx
    simp only [List.cons.injEq, and_true] at hx
    obtain ⟨rfl, rfl⟩ := hx
    have hm' := hm
    simp only [Rep] at hm'
    obtain ⟨vs, ⟨r0, es, rfl, _, g1, g2, rfl, g4⟩, g3⟩ := hm'
    split at hv
    · rename_i xs hxs
      split at hv
      · rename_i hlen
        exact fin _ n es cells l xs g1 g3 hxs hkv hlen hv
      · cases hv
    · cases hv
  · cases hv

theorem lookup_sound (h : Rel P N c s a w) {t kt et : TypeId} (hu : P.underlying t = some (.map kt et)) (hk : isIntT P kt = true) {ie : TypeInfo} (hi : P.info? et = some ie) {z : Value} (hz : ie.zero = some z)
    {mv kv : AV} {m k : Value} (hm : Rep P c w mv m) (hkv : Rep P c w kv k) {ok : Bool} {av : AV} (hv : (XV.lkp ok z).val s.boxes [mv, kv] = some av) : ∃ v, (Instr.lookup t m k ok).run P w = .ok v w ∧ Rep P c w av v := by
  obtain ⟨kk, hkk⟩ := isIntT_desc hk
  have zero : (zeroValue et).run P w = .ok z w := by simp [zeroValue, typeInfo, hi, hz]
  unfold XV.val at hv
  split at hv
  · rename_i ok' z' id key he hx
    simp only [XV.lkp.injEq] at he
    obtain ⟨rfl, rfl⟩ := he
    simp only [List.cons.injEq, and_true] at hx
    obtain ⟨rfl, rfl⟩ := hx
    simp only [Rep, RefOK, refV] at hm hkv
    obtain ⟨hid, rfl⟩ := hm
    subst hkv
    split at hv
    · rename_i k0 e0 n cells ho
      obtain ⟨es, g1, g2, g3, g4⟩ := map_at h ho
      split at hv
      · rename_i r hkey hf
        simp only [Option.some.injEq] at hv; subst hv
        obtain ⟨ki, kn, rfl⟩ := isKey_int hkey
        rcases findA_sound (kk := kk) es.toList cells 0 g3 hf with ⟨rfl, q⟩ | ⟨j, av, v, e, rfl, q1, q2, q3, q4, q5⟩
        · refine ⟨if ok then .tuple #[z, .bool false] else z, ?_, ?_⟩
          · simp [Instr.lookup, run_underlying hu, MapKept.run_getObj_map g1, run_keyInt hkk, run_findKey hkk q, zero, Result.andThen]
          · unfold lkpV
            cases ok
            · exact litA_rep z
            · simp only [if_true, Rep]; exact ⟨_, rfl, by simp only [RepL]; exact ⟨_, _, rfl, litA_rep z, _, _, rfl, by simp only [Rep], rfl⟩⟩
        · refine ⟨if ok then .tuple #[v, .bool true] else v, ?_, ?_⟩
          · simp [Instr.lookup, run_underlying hu, MapKept.run_getObj_map g1, run_keyInt hkk, run_findKey hkk q5, Result.andThen]
          · unfold lkpV
            cases ok
            · exact q4
            · simp only [if_true, Rep]; exact ⟨_, rfl, by simp only [RepL]; exact ⟨_, _, rfl, q4, _, _, rfl, by simp only [Rep], rfl⟩⟩
      · cases hv
    · cases hv
  · rename_i ok' z' key he hx
    simp only [XV.lkp.injEq] at he
    obtain ⟨rfl, rfl⟩ := he
    simp only [List.cons.injEq, and_true] at hx
    obtain ⟨rfl, rfl⟩ := hx
    simp only [Rep] at hm hkv
    subst hm hkv
    split at hv
    · rename_i hkey
      simp only [Option.some.injEq] at hv; subst hv
      obtain ⟨ki, kn, rfl⟩ := isKey_int hkey
      refine ⟨if ok then .tuple #[z, .bool false] else z, ?_, ?_⟩
      · simp [Instr.lookup, run_underlying hu, run_keyInt hkk, run_findKey hkk (es := []) (r := none) rfl, zero, Result.andThen]
      · unfold lkpV
        cases ok
        · exact litA_rep z
        · simp only [if_true, Rep]; exact ⟨_, rfl, by simp only [RepL]; exact ⟨_, _, rfl, litA_rep z, _, _, rfl, by simp only [Rep], rfl⟩⟩
    · cases hv
  all_goals first | (rename_i he _; cases he; done) | (simp only [XV.val2] at hv; exact lookupF_sound hu hk hi hz hm hkv hv)

theorem lenM_sound (h : Rel P N c s a w) {t kt et ty : TypeId} (hu : P.underlying t = some (.map kt et)) {mv : AV} {m : Value} (hm : Rep P c w mv m) {av : AV} (hv : XV.lenM.val s.boxes [mv] = some av) :
    ∃ v, (Builtin.len_ #[t] ty #[m]).run P w = .ok v w ∧ Rep P c w av v := by
  unfold XV.val at hv
  split at hv
  · rename_i he _; cases he
  · rename_i he _; cases he
  · rename_i id _ hx
    simp only [List.cons.injEq, and_true] at hx; subst hx
    simp only [Rep, RefOK, refV] at hm
    obtain ⟨_, rfl⟩ := hm
    split at hv
    · rename_i k e n cells ho
      obtain ⟨es, g1, g2, _⟩ := map_at h ho
      simp only [Option.some.injEq] at hv; subst hv
      refine ⟨.int .i64 n, ?_, by simp only [Rep]⟩
      simp [Builtin.len_, run_underlying hu, MapKept.run_getObj_map g1, goInt, g2, Result.andThen]
    · cases hv
  · rename_i _ hx
    simp only [List.cons.injEq, and_true] at hx; subst hx
    simp only [Rep] at hm; subst hm
    simp only [Option.some.injEq] at hv; subst hv
    exact ⟨.int .i64 0, by simp [Builtin.len_, run_underlying hu, goInt], by simp only [Rep]⟩
  · rename_i he _; cases he
  · rename_i he _; cases he
  · simp only [XV.val2] at hv
    unfold lenF at hv
    split at hv
    · rename_i n l hx
      simp only [List.cons.injEq, and_true] at hx; subst hx
      simp only [Rep] at hm
      obtain ⟨vs, ⟨r0, es, rfl, _, g1, g2, _⟩, _⟩ := hm
      simp only [Option.some.injEq] at hv; subst hv
      refine ⟨.int .i64 n, ?_, by simp only [Rep]⟩
      simp [Builtin.len_, run_underlying hu, MapKept.run_getObj_map g1, goInt, g2, Result.andThen]
    · cases hv

theorem capM_sound {t e ty : TypeId} (hu : P.underlying t = some (.slice e)) {mv : AV} {m : Value} (hm : Rep P c w mv m) {av : AV} (hv : XV.capM.val s.boxes [mv] = some av) :
    ∃ v, (Builtin.cap_ #[t] ty #[m]).run P w = .ok v w ∧ Rep P c w av v := by
  unfold XV.val at hv
  split at hv
  · rename_i he _; cases he
  · rename_i he _; cases he
  · rename_i he _; cases he
  · rename_i he _; cases he
  · rename_i _ hx
    simp only [List.cons.injEq, and_true] at hx; subst hx
    simp only [Rep] at hm; subst hm
    simp only [Option.some.injEq] at hv; subst hv
    exact ⟨.int .i64 0, by simp [Builtin.cap_, run_underlying hu, goInt], by simp only [Rep]⟩
  · rename_i he _; cases he
  · simp [XV.val2] at hv

/-- The iterator that a name names. -/
theorem ob_at (h : Rel P N c s a w) {id : Nat} {k : OK} {cells : List AV} (ho : obAt s.boxes id = some (.ob k cells)) : ∃ o, w.heap[c.β id]? = some o ∧ ORep P c w (.ob k cells) o := by
  obtain ⟨o, h1, h2⟩ := (h.mem.boxes _ (obAt_mem ho)).row
  exact ⟨o, h1, h2.ob⟩

/-- An iterator over a map names it. -/
theorem miter_map {m : Nat} {seen : List Nat} {since last : Nat} {o : Obj} (h : ORep P c w (.ob (.miter seen since last) [.rf .map m]) o) : m < c.next ∧ o = .mapIter (some (c.β m)) since seen.toArray last := by
  obtain ⟨r, h1, h2⟩ := h
  simp only [RepL, Rep, RefOK, refV] at h1
  obtain ⟨v, vs, hv, ⟨h3, rfl⟩, rfl⟩ := h1
  simp only [List.cons.injEq, Value.map.injEq, Option.some.injEq, and_true] at hv
  exact ⟨h3, by rw [h2, hv]⟩

theorem flat_length : ∀ (es : List MapEntry), (es.flatMap fun e => [e.key, e.val]).length = 2 * es.length
  | [] => rfl
  | x :: es => by simp only [List.flatMap_cons, List.length_append, flat_length es, List.length_cons, List.length_nil]; omega
theorem flat_get : ∀ (es : List MapEntry) (i : Nat) {e : MapEntry}, es[i]? = some e → (es.flatMap fun e => [e.key, e.val])[2 * i]? = some e.key ∧ (es.flatMap fun e => [e.key, e.val])[2 * i + 1]? = some e.val
  | [], i, e, h => by simp at h
  | x :: es, 0, e, h => by
    simp only [List.getElem?_cons_zero, Option.some.injEq] at h
    subst h
    simp
  | x :: es, i + 1, e, h => by
    have ih := flat_get es i (by simpa using h)
    simp only [List.flatMap_cons, List.cons_append, List.nil_append]
    rw [show 2 * (i + 1) = (2 * i) + 1 + 1 by omega, show (2 * i) + 1 + 1 + 1 = (2 * i + 1) + 1 + 1 by omega, List.getElem?_cons_succ, List.getElem?_cons_succ, List.getElem?_cons_succ, List.getElem?_cons_succ]
    exact ih

theorem RepL.at : ∀ {l : List AV} {vs : List Value} (_ : RepL P c w l vs) {i : Nat} {v : Value}, vs[i]? = some v → ∃ av, l[i]? = some av ∧ Rep P c w av v
  | [], vs, h, i, v, hv => by simp only [RepL] at h; subst h; simp at hv
  | x :: xs, vs, h, i, v, hv => by
    simp only [RepL] at h
    obtain ⟨u, us, rfl, h1, h2⟩ := h
    cases i with
    | zero => simp only [List.getElem?_cons_zero, Option.some.injEq] at hv; subst hv; exact ⟨x, rfl, h1⟩
    | succ i => exact RepL.at h2 (by simpa using hv)

theorem born_nodup {es : Array MapEntry} (h : ∀ (i : Nat) (e : MapEntry), es[i]? = some e → e.born = i) : (es.toList.map (·.born)).Nodup := by
  have : es.toList.map (·.born) = List.range es.size := by
    apply List.ext_getElem?
    intro i
    by_cases hi : i < es.size
    · have h1 := h i es[i] (by simp [hi])
      simp [hi, h1]
    · simp [hi]
  rw [this]
  exact List.nodup_range

theorem ent_sound (h : Rel P N c s a w) {xv : AV} {x : Value} (hx : Rep P c w xv x) {av : AV} (hv : XV.ent.val s.boxes [xv] = some av) : ∃ v, (Instr.entry x).run P w = .ok v w ∧ Rep P c w av v := by
  unfold XV.val at hv
  split at hv
  · rename_i he _; cases he
  · rename_i he _; cases he
  · rename_i he _; cases he
  · rename_i he _; cases he
  · rename_i he _; cases he
  · rename_i id _ hxs
    simp only [List.cons.injEq, and_true] at hxs; subst hxs
    simp only [Rep, RefOK, refV] at hx
    obtain ⟨_, rfl⟩ := hx
    split at hv
    · rename_i seen since last m ho
      obtain ⟨o, k1, k2⟩ := ob_at h ho
      obtain ⟨hm, rfl⟩ := miter_map k2
      split at hv
      · rename_i k e n cells ho'
        obtain ⟨es, g1, g2, g3, g4⟩ := map_at h ho'
        split at hv
        · rename_i i hi
          split at hv
          · rename_i hnl
            subst hnl
            split at hv
            · rename_i key v hk hvv
              simp only [Option.some.injEq] at hv; subst hv
              obtain ⟨kv, q1, q2⟩ := g3.get hk
              obtain ⟨vv, q3, q4⟩ := g3.get hvv
              have hlt : i < es.size := by
                rcases Nat.lt_or_ge i es.size with hlt | hge
                · exact hlt
                · have hl2 := flat_length es.toList
                  have hl3 : es.toList.length = es.size := Array.length_toList
                  have hl4 : (es.toList.flatMap fun e => [e.key, e.val]).length ≤ 2 * i := by rw [hl2, hl3]; omega
                  rw [List.getElem?_eq_none hl4] at q1
                  cases q1
              have hes : es.toList[i]? = some es[i] := by simp [hlt]
              obtain ⟨f1, f2⟩ := flat_get es.toList i hes
              rw [f1] at q1; rw [f2] at q3
              simp only [Option.some.injEq] at q1 q3
              subst q1 q3
              obtain ⟨pre, rfl⟩ : ∃ pre, seen = pre ++ [i] := List.getLast?_eq_some_iff.1 hi
              have hb := g4 i es[i] (by simp [hlt])
              have k1' : w.heap[c.β id]? = some (.mapIter (some (c.β m)) since (pre.toArray.push es[i].born) n) := by rw [k1, hb]; simp
              refine ⟨.tuple #[es[i].key, es[i].val], run_entry_at w _ _ _ _ _ _ _ k1' g1 (by simp) (born_nodup g4), ?_⟩
              simp only [Rep]
              exact ⟨_, rfl, by simp only [RepL]; exact ⟨_, _, rfl, q2, _, _, rfl, q4, rfl⟩⟩
            · cases hv
          · cases hv
        · cases hv
      · cases hv
    · cases hv
  · cases hv
end
end Go.Ab
