/-
Each operation of the abstract machine is what the model's operation does: the theorem. Conditions: none.
-/
import Derived.Test.YteekelelcbfekaaDoorAbSound3
set_option linter.unusedSimpArgs false
set_option linter.unusedVariables false
set_option linter.unusedSectionVars false
namespace Go.Ab
open Go Go.RowKit

section
variable {P : Program} {N : Nat} {c c' : Ctx} {w w' : World} {s : State} {a : Act} {bx : List (Nat × List AV)} {tp : List (Nat × TypeId)}

/-- What an operation that makes a value does. -/
def Makes (P : Program) (c : Ctx) (a : Act) (w : World) (o : Oper) (av : AV) : Prop := ∃ v, (execOp a.eval o).run P w = .ok (.value v) w ∧ Rep P c w av v

theorem Makes.of {o : Oper} {av : AV} {v : Value} {q : Sem Value} (he : execOp a.eval o = (do pure (.value (← q)) : Sem Next)) (h : q.run P w = .ok v w) (hr : Rep P c w av v) : Makes P c a w o av :=
  ⟨v, by rw [he]; simp [h], hr⟩

theorem vop_convert (h : Rel P N c s a w) {src dst : TypeId} {x : Operand} {ao : AOp} (hc : cOp P (.convert src dst x) = some ao) {av : AV} (hv : vop s ao = some av) : ∃ v, (convert src dst (a.eval x)).run P w = .ok v w ∧ Rep P c w av v := by
  simp only [cOp] at hc
  split at hc
  · rename_i k1 k2 x' hs hd hx
    simp only [Option.some.injEq] at hc; subst hc
    simp only [vop] at hv
    split at hv
    · rename_i k n hp
      simp only [Option.some.injEq] at hv; subst hv
      have h1 := ev_sound h hx hp
      simp only [Rep] at h1
      refine ⟨.int k2 (k2.wrap n), ?_, by simp only [Rep]⟩
      rw [h1]
      simp [convert, run_underlying hs, run_underlying hd, Conv.intToInt]
    · cases hv
  · rename_i k1 x' hs hd hx
    simp only [Option.some.injEq] at hc; subst hc
    simp only [vop] at hv
    split at hv
    · rename_i k n hp
      simp only [Option.some.injEq] at hv; subst hv
      have h1 := ev_sound h hx hp
      simp only [Rep] at h1
      refine ⟨.string (Utf8.encode n), ?_, by simp only [Rep]⟩
      rw [h1]
      simp [convert, run_underlying hs, run_underlying hd, Conv.intToString]
    · cases hv
  · rename_i e x' hs hd hx
    split at hc
    · rename_i i he hi
      split at hc
      · rename_i hsz
        simp only [Option.some.injEq] at hc; subst hc
        simp only [vop] at hv
        split at hv
        · rename_i xv hp
          have h1 := ev_sound h hx hp
          split at hv
          · rename_i els hels
            cases hb : bytesOf els with
            | none => rw [hb] at hv; cases hv
            | some l =>
              rw [hb] at hv
              simp only [Option.map_some, Option.some.injEq] at hv; subst hv
              refine ⟨.string ⟨l.toArray⟩, ?_, by simp only [Rep]⟩
              have hconv : ∀ al len cap, a.eval x = .slice al len cap → (convert src dst (a.eval x)).run P w = (Conv.bytesToString (.slice al len cap)).run P w := fun al len cap hal => by
                rw [hal]
                simp [convert, run_underlying hs, run_underlying hd, run_underlying he]
              obtain ⟨ns, rfl, rfl⟩ := bytes_sound hb
              rcases elsOf_sound h1 hels with ⟨e', hsl⟩ | ⟨h2, h3⟩
              · obtain ⟨ad, cap, g1, g2, g3, g4⟩ := hsl
                rw [hconv _ _ _ g1]
                have hfl : (ns.map (fun n => [Value.int .u8 n])).flatten = ns.map (fun n => Value.int .u8 n) := by
                  clear hels hb g1 g2 g3 g4 h1 hp
                  induction ns with
                  | nil => rfl
                  | cons n ns ih => simp [ih]
                rcases g4 with g4 | ⟨b, off, rfl, g5⟩
                · have : ns = [] := by simpa using g4
                  subst this
                  cases ad <;> simp [Conv.bytesToString, loadCells, loadCellsFrom] <;> rfl
                · rw [hfl] at g5
                  simp only [List.length_map]
                  rw [run_bytesToString (P := P) w ⟨b, off, none⟩ ns.length cap ns (by
                    have := loadCells_reads (P := P) g5
                    simpa using this), foldl_bytes, show ByteArray.empty.data = #[] from rfl, Array.empty_append]
              · have : ns = [] := by simpa using h2
                subst this
                rw [hconv _ _ _ h3]
                rfl
          · cases hv
        · cases hv
      · cases hc
    · rename_i i he hi
      split at hc
      · rename_i hsz
        simp only [Option.some.injEq] at hc; subst hc
        simp only [vop] at hv
        split at hv
        · rename_i xv hp
          have h1 := ev_sound h hx hp
          split at hv
          · rename_i els hels
            cases hb : runesOf els with
            | none => rw [hb] at hv; cases hv
            | some l =>
              rw [hb] at hv
              simp only [Option.map_some, Option.some.injEq] at hv; subst hv
              refine ⟨.string (strOf l), ?_, by simp only [Rep]⟩
              have hconv : ∀ al len cap, a.eval x = .slice al len cap → (convert src dst (a.eval x)).run P w = (Conv.runesToString (.slice al len cap)).run P w := fun al len cap hal => by
                rw [hal]
                simp [convert, run_underlying hs, run_underlying hd, run_underlying he]
              have hels' := runesOf_sound hb
              subst hels'
              rcases elsOf_sound h1 hels with ⟨e', hsl⟩ | ⟨h2, h3⟩
              · obtain ⟨ad, cap, g1, g2, g3, g4⟩ := hsl
                rw [hconv _ _ _ g1]
                have hfl : (l.map (fun n => [Value.int .i32 n])).flatten = l.map (fun n => Value.int .i32 n) := by
                  clear hels hb g1 g2 g3 g4 h1 hp
                  induction l with
                  | nil => rfl
                  | cons n l ih => simp [ih]
                rcases g4 with g4 | ⟨b, off, rfl, g5⟩
                · have : l = [] := by simpa using g4
                  subst this
                  cases ad <;> simp [Conv.runesToString, loadCells, loadCellsFrom] <;> rfl
                · rw [hfl] at g5
                  simp only [List.length_map]
                  rw [run_runesToString (P := P) w ⟨b, off, none⟩ l.length cap l (by
                    have := loadCells_reads (P := P) g5
                    simpa using this)]
              · have : l = [] := by simpa using h2
                subst this
                rw [hconv _ _ _ h3]
                rfl
          · cases hv
        · cases hv
      · cases hc
    · cases hc
  · split at hc
    · split at hc
      · simp only [Option.some.injEq] at hc; subst hc; simp [vop] at hv
      · cases hc
    · cases hc
  · cases hc

theorem evo_sound (h : Rel P N c s a w) {x : Option Operand} {x' : Option AX} (hc : cXo x = some x') {r : Option AV} (hv : s.evo x' = some r) :
    (x = none ∧ r = none) ∨ ∃ y av, x = some y ∧ r = some av ∧ Rep P c w av (a.eval y) := by
  cases x with
  | none =>
    simp only [cXo, Option.some.injEq] at hc; subst hc
    simp only [State.evo, Option.some.injEq] at hv
    exact .inl ⟨rfl, hv.symm⟩
  | some y =>
    simp only [cXo] at hc
    cases hy : cX y with
    | none => rw [hy] at hc; cases hc
    | some y' =>
      rw [hy] at hc
      simp only [Option.map_some, Option.some.injEq] at hc; subst hc
      simp only [State.evo] at hv
      split at hv
      · rename_i av hav
        simp only [Option.some.injEq] at hv
        exact .inr ⟨y, av, rfl, hv.symm, ev_sound h hy hav⟩
      · cases hv

theorem flatten_drop (n : Nat) : ∀ (k : Nat) (els : List (List Value)), (∀ y ∈ els, y.length = n) → (els.drop k).flatten = els.flatten.drop (k * n)
  | 0, els, _ => by simp
  | k + 1, [], _ => by simp
  | k + 1, y :: ys, hn => by
    have hy := hn y (by simp)
    have e1 : y.drop ((k + 1) * n) = [] := List.drop_eq_nil_of_le (by rw [Nat.succ_mul]; omega)
    rw [List.drop_succ_cons, flatten_drop n k ys fun z hz => hn z (List.mem_cons_of_mem _ hz), List.flatten_cons, List.drop_append, e1, List.nil_append, hy, Nat.succ_mul, Nat.add_sub_cancel]

theorem flatten_take (n : Nat) : ∀ (k : Nat) (els : List (List Value)), (∀ y ∈ els, y.length = n) → (els.take k).flatten = els.flatten.take (k * n)
  | 0, els, _ => by simp
  | k + 1, [], _ => by simp
  | k + 1, y :: ys, hn => by
    have hy := hn y (by simp)
    have e1 : y.take ((k + 1) * n) = y := List.take_of_length_le (by rw [Nat.succ_mul]; omega)
    rw [List.take_succ_cons, List.flatten_cons, List.flatten_cons, flatten_take n k ys fun z hz => hn z (List.mem_cons_of_mem _ hz), List.take_append, e1, hy, Nat.succ_mul, Nat.add_sub_cancel]

/-- The bounds of a slice expression. -/
theorem bounds_sound (h : Rel P N c s a w) {lo hi : Option Operand} {lo' hi' : Option AX} (hl : cXo lo = some lo') (hh : cXo hi = some hi') {lv hv : Option AV} (h1 : s.evo lo' = some lv) (h2 : s.evo hi' = some hv) {len cap l u : Nat}
    (hb : bnd lv hv len = some (l, u)) (hcap : len ≤ cap) (isSl : Bool) :
    (Instr.sliceBounds isSl len cap (lo.map a.eval) (hi.map a.eval) none).run P w = .ok (l, u, cap) w ∧ l ≤ u ∧ u ≤ len := by
  unfold bnd at hb
  split at hb
  · rename_i l1 u1 hl1 hu1
    split at hb
    · rename_i hlu
      simp only [Option.some.injEq, Prod.mk.injEq] at hb
      obtain ⟨rfl, rfl⟩ := hb
      refine ⟨?_, hlu⟩
      have a2 : u1 ≤ cap := by omega
      rcases evo_sound h hl h1 with ⟨rfl, rfl⟩ | ⟨y, av, rfl, rfl, hr⟩ <;> rcases evo_sound h hh h2 with ⟨rfl, rfl⟩ | ⟨y', av', rfl, rfl, hr'⟩
      · simp only [loOf, hiOf, Option.some.injEq] at hl1 hu1; subst hl1; subst hu1
        simp [Instr.sliceBounds]
      · simp only [loOf, Option.some.injEq] at hl1; subst hl1
        obtain ⟨k, hk⟩ := idxOf_sound hr' hu1
        cases isSl <;> simp [Instr.sliceBounds, Instr.sliceBound, asIntOf, hk, a2]
      · simp only [hiOf, Option.some.injEq] at hu1; subst hu1
        obtain ⟨k, hk⟩ := idxOf_sound hr hl1
        simp [Instr.sliceBounds, Instr.sliceBound, asIntOf, hk, hlu.1]
      · obtain ⟨k, hk⟩ := idxOf_sound hr hl1
        obtain ⟨k', hk'⟩ := idxOf_sound hr' hu1
        cases isSl <;> simp [Instr.sliceBounds, Instr.sliceBound, asIntOf, hk, hk', a2, hlu.1]
    · cases hb
  · cases hb

theorem vop_slice (h : Rel P N c s a w) {t : TypeId} {x : Operand} {lo hi : Option Operand} {ao : AOp} (hc : cOp P (.slice t x lo hi none) = some ao) {av : AV} (hv : vop s ao = some av) :
    ∃ v, (Instr.sliceAt t (a.eval x) (lo.map a.eval) (hi.map a.eval) none).run P w = .ok v w ∧ Rep P c w av v := by
  simp only [cOp] at hc
  split at hc
  · rename_i e x' lo' hi' hu hx hlo hhi
    split at hc
    · rename_i hinf
      simp only [Option.some.injEq] at hc; subst hc
      obtain ⟨i, hinf⟩ := Option.isSome_iff_exists.1 hinf
      have run : ∀ ad len cap l u, a.eval x = .slice ad len cap → (Instr.sliceBounds true len cap (lo.map a.eval) (hi.map a.eval) none).run P w = .ok (l, u, cap) w →
          (Instr.sliceAt t (a.eval x) (lo.map a.eval) (hi.map a.eval) none).run P w = .ok (.slice (if cap = l then ad else ad.map (·.add (l * i.size))) (u - l) (cap - l)) w := fun ad len cap l u he hb => by
        rw [he]
        simp [Instr.sliceAt, run_underlying hu, Instr.slice, hb, sizeOf, typeInfo, hinf]
      simp only [vop] at hv
      split at hv
      · rename_i e' els tip lv hv' hp hl hh
        have h1 := ev_sound h hx hp
        split at hv
        · rename_i l u hb
          split at hv
          · rename_i hee; subst hee
            simp only [Option.some.injEq] at hv; subst hv
            simp only [Rep] at h1
            obtain ⟨⟨ad, cap, g1, g2, g3, g4⟩, _⟩ := h1
            obtain ⟨hbs, hlu, hul⟩ := bounds_sound h hlo hhi hl hh hb g2 true
            refine ⟨_, run _ _ _ _ _ g1 hbs, ?_⟩
            have hlen : ((els.take u).drop l).length = u - l := by simp; omega
            simp only [Rep]
            refine ⟨⟨_, cap - l, by rw [hlen], by rw [hlen]; omega, fun y hy => g3 y (List.mem_of_mem_take (List.mem_of_mem_drop hy)), ?_⟩, fun id hid => by cases hid⟩
            by_cases hemp : (els.take u).drop l = []
            · exact .inl hemp
            · have hlt : l < u := by
                rcases Nat.lt_or_ge l u with hlt | hge
                · exact hlt
                · exact absurd (List.eq_nil_of_length_eq_zero (by rw [hlen]; omega)) hemp
              rcases g4 with g4 | ⟨b, off, rfl, g5⟩
              · rw [g4] at hul; simp at hul; omega
              · right
                rw [if_neg (by omega)]
                refine ⟨b, off + l * i.size, by simp [add_lit], ?_⟩
                have hsz := cellsOf_eq hinf
                have hd := (g5.drop (l * i.size)).take ((u - l) * i.size)
                have hn : ∀ y ∈ els, y.length = i.size := fun y hy => by rw [(g3 y hy).1, hsz]
                have hn' : ∀ y ∈ els.drop l, y.length = i.size := fun y hy => hn y (List.mem_of_mem_drop hy)
                rw [List.drop_take, flatten_take i.size _ _ hn', flatten_drop i.size _ _ hn]
                exact hd
          · cases hv
        · cases hv
      · rename_i lv hv' hp hl hh
        have h1 := ev_sound h hx hp
        simp only [Rep] at h1
        split at hv
        · rename_i lu hb
          obtain ⟨l, u⟩ := lu
          simp only [Option.some.injEq] at hv; subst hv
          obtain ⟨hbs, hlu, hul⟩ := bounds_sound h hlo hhi hl hh hb (Nat.le_refl 0) true
          refine ⟨_, run _ _ _ _ _ h1 hbs, ?_⟩
          obtain rfl : u = 0 := by omega
          obtain rfl : l = 0 := by omega
          simp [Rep]
        · cases hv
      · rename_i e' sz off n id lv hv' hp hl hh
        have h1 := ev_sound h hx hp
        split at hv
        · rename_i l u hb
          split at hv
          · rename_i hee; subst hee
            simp only [Option.some.injEq] at hv; subst hv
            simp only [Rep] at h1
            obtain ⟨hid, o, cap, arr, g1, g2, g3, g4, g5, g6, g7, g8, g9⟩ := h1
            obtain ⟨hbs, hlu, hul⟩ := bounds_sound h hlo hhi hl hh hb g3 true
            refine ⟨_, run _ _ _ _ _ g1 hbs, ?_⟩
            have hsz := cellsOf_eq hinf
            rw [← g5] at hsz
            simp only [Rep]
            refine ⟨hid, ?_⟩
            by_cases hcl : cap = l
            · subst hcl
              obtain rfl : u = cap := by omega
              rw [if_pos rfl]
              refine ⟨o, 0, arr, by simp, .inr rfl, by omega, by simp [maxLen], g5, g6, g7, by omega, fun h0 => ?_⟩
              have : off = 0 := by omega
              have h3 := g9 this
              have : u * sz = 0 := by omega
              rcases Nat.mul_eq_zero.1 this with h4 | h4
              · subst h4; exact ⟨h3.1, by rw [h3.2]⟩
              · omega
            · rw [if_neg hcl]
              have ho : o = off := g2.resolve_right (by omega)
              subst ho
              refine ⟨o + l * i.size, cap - l, arr, by simp [add_lit], .inl (by rw [hsz]), by omega, by omega, g5, g6, g7, ?_, fun h0 => ?_⟩
              · rw [← hsz, Nat.add_assoc, ← Nat.add_mul]
                rw [show l + (cap - l) = cap by omega]
                exact g8
              · have h3 : o = 0 ∧ l * sz = 0 := by omega
                have h4 := g9 h3.1
                have hl0 : l = 0 := by
                  rcases Nat.mul_eq_zero.1 h3.2 with h5 | h5
                  · exact h5
                  · omega
                subst hl0
                simp only [Nat.zero_mul, Nat.add_zero, Nat.sub_zero]
                exact h4
          · cases hv
        · cases hv
      · cases hv
    · cases hc
  · rename_i x' lo' hi' hu hx hlo hhi
    simp only [Option.some.injEq] at hc; subst hc
    simp only [vop] at hv
    split at hv
    · rename_i b lv hv' hp hl hh
      have h1 := ev_sound h hx hp
      simp only [Rep] at h1
      split at hv
      · rename_i l u hb
        simp only [Option.some.injEq] at hv; subst hv
        obtain ⟨hbs, hlu, hul⟩ := bounds_sound h hlo hhi hl hh hb (Nat.le_refl _) false
        refine ⟨.string (b.extract l u), ?_, by simp only [Rep]⟩
        rw [h1]
        simp [Instr.sliceAt, run_underlying hu, Instr.slice, hbs]
      · cases hv
    · cases hv
  · cases hc

theorem vop_index (h : Rel P N c s a w) {t : TypeId} {x i : Operand} {ao : AOp} (hc : cOp P (.indexAddr t x i) = some ao) {av : AV} (hv : vop s ao = some av) :
    ∃ v, (Instr.indexAt t (a.eval x) (a.eval i)).run P w = .ok v w ∧ Rep P c w av v := by
  simp only [cOp] at hc
  split at hc
  · rename_i e x' i' hu hx hi
    split at hc
    · rename_i hinf
      simp only [Option.some.injEq] at hc; subst hc
      obtain ⟨info, hinf⟩ := Option.isSome_iff_exists.1 hinf
      simp only [vop] at hv
      split at hv
      · rename_i e' els tip iv hp hq
        have h1 := ev_sound h hx hp
        have h2 := ev_sound h hi hq
        split at hv
        · rename_i j hj
          split at hv
          · rename_i hee; subst hee
            cases hel : els[j]? with
            | none => rw [hel] at hv; cases hv
            | some y =>
              rw [hel] at hv
              simp only [Option.map_some, Option.some.injEq] at hv; subst hv
              simp only [Rep] at h1
              obtain ⟨k, hk⟩ := idxOf_sound h2 hj
              obtain ⟨b, off, cap, g1, g2⟩ := h1.1.elem hel
              have hjl : j < els.length := (List.getElem?_eq_some_iff.1 hel).1
              refine ⟨.pointer (some ⟨b, off + j * info.size, none⟩), ?_, ?_⟩
              · rw [g1, hk]
                simp [Instr.indexAt, asIntOf, run_underlying hu, sizeOf, typeInfo, hinf, hjl, add_lit]
              · simp only [Rep]
                exact ⟨b, _, y, rfl, by rw [← cellsOf_eq hinf]; exact g2, RepL.lits y⟩
          · cases hv
        · cases hv
      · rename_i e' sz off n id iv hp hq
        have h1 := ev_sound h hx hp
        have h2 := ev_sound h hi hq
        split at hv
        · rename_i j hj
          split at hv
          · rename_i hee
            obtain ⟨rfl, hjn⟩ := hee
            simp only [Option.some.injEq] at hv; subst hv
            simp only [Rep] at h1
            obtain ⟨hid, o, cap, arr, g1, g2, g3, g4, g5, g6, g7, g8, g9⟩ := h1
            have ho : o = off := g2.resolve_right (by omega)
            subst ho
            obtain ⟨k, hk⟩ := idxOf_sound h2 hj
            have hsz := cellsOf_eq hinf
            rw [← g5] at hsz
            refine ⟨.pointer (some ⟨c.β id, o + j * info.size, none⟩), ?_, ?_⟩
            · rw [g1, hk]
              simp [Instr.indexAt, asIntOf, run_underlying hu, sizeOf, typeInfo, hinf, hjn, add_lit]
            · simp only [Rep]
              exact ⟨hid, by rw [hsz]⟩
          · cases hv
        · cases hv
      · rename_i e' l iv hp hq
        have h1 := ev_sound h hx hp
        have h2 := ev_sound h hi hq
        split at hv
        · rename_i j hj
          split at hv
          · rename_i hee; subst hee
            cases hel : l[j]? with
            | none => rw [hel] at hv; cases hv
            | some y =>
              rw [hel] at hv
              simp only [Option.map_some, Option.some.injEq] at hv; subst hv
              simp only [Rep] at h1
              obtain ⟨a1, cap, vs, g1, g2, g3, g4, g5⟩ := h1
              obtain ⟨k, hk⟩ := idxOf_sound h2 hj
              have hjl : j < l.length := (List.getElem?_eq_some_iff.1 hel).1
              have hsz := cellsOf_eq hinf
              rw [g3] at hsz
              obtain ⟨b, off, rfl, g6⟩ := g5.resolve_left (fun h0 => by subst h0; simp at hjl)
              obtain ⟨v, hv1, hv2⟩ := g4.get hel
              refine ⟨.pointer (some ⟨b, off + j * info.size, none⟩), ?_, ?_⟩
              · rw [g1, hk]
                simp [Instr.indexAt, asIntOf, run_underlying hu, sizeOf, typeInfo, hinf, hjl, add_lit]
              · simp only [Rep]
                refine ⟨b, _, [v], rfl, fun i u hi => ?_, by simp only [RepL]; exact ⟨v, [], rfl, hv2, rfl⟩⟩
                cases i with
                | zero =>
                  simp only [List.getElem?_cons_zero, Option.some.injEq] at hi
                  subst hi
                  rw [← hsz, Nat.mul_one, Nat.add_zero]
                  exact g6 j v hv1
                | succ i => simp at hi
          · cases hv
        · cases hv
      · cases hv
    · cases hc
  · rename_i n e x' i' hu hx hi
    split at hc
    · rename_i info hinf
      simp only [Option.some.injEq] at hc; subst hc
      simp only [vop] at hv
      split at hv
      · rename_i id o iv hp hq
        have h1 := ev_sound h hx hp
        have h2 := ev_sound h hi hq
        split at hv
        · rename_i j hj
          split at hv
          · rename_i hjn
            simp only [Option.some.injEq] at hv; subst hv
            obtain ⟨k, hk⟩ := idxOf_sound h2 hj
            simp only [Rep] at h1
            refine ⟨.pointer (some ⟨c.β id, o + j * info.size, none⟩), ?_, by simp only [Rep]; exact ⟨h1.1, trivial⟩⟩
            rw [h1.2, hk]
            simp [Instr.indexAt, asIntOf, run_underlying hu, sizeOf, typeInfo, hinf, hjn, add_lit, Instr.sureAddr]
          · cases hv
        · cases hv
      · rename_i cells iv hp hq
        have h1 := ev_sound h hx hp
        have h2 := ev_sound h hi hq
        split at hv
        · rename_i j hj
          split at hv
          · rename_i hjn
            simp only [Option.some.injEq] at hv; subst hv
            obtain ⟨k, hk⟩ := idxOf_sound h2 hj
            simp only [Rep] at h1
            obtain ⟨b, off, vs, g1, g2, g3⟩ := h1
            refine ⟨.pointer (some ⟨b, off + j * info.size, none⟩), ?_, by simp only [Rep]; exact ⟨b, _, _, rfl, g2.drop _, g3.drop _⟩⟩
            rw [g1, hk]
            simp [Instr.indexAt, asIntOf, run_underlying hu, sizeOf, typeInfo, hinf, hjn, add_lit, Instr.sureAddr]
          · cases hv
        · cases hv
      · cases hv
    · cases hc
  · cases hc
end
end Go.Ab
