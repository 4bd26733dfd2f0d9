/-
Each operation of the abstract machine is what the model's operation does: all that make values. Conditions: none.
-/
import Derived.Test.YteekelelcbfekaaDoorAbSound2
import Derived.Laws.BytesString
set_option linter.unusedSimpArgs false
set_option linter.unusedVariables false
set_option linter.unusedSectionVars false
namespace Go.Ab
open Go Go.RowKit

section
variable {P : Program} {N : Nat} {c c' : Ctx} {w w' : World} {s : State} {a : Act} {bx : List (Nat × List AV)} {tp : List (Nat × TypeId)}

theorem RepL.of_vals : ∀ {l : List AV} {vs xs : List Value}, RepL P c w l vs → vals l = some xs → vs = xs
  | [], vs, xs, h, hx => by simp only [vals, Option.some.injEq] at hx; subst hx; simpa [RepL] using h
  | .lit v :: l, vs, xs, h, hx => by
    simp only [vals] at hx
    split at hx
    · rename_i ys hy
      simp only [Option.some.injEq] at hx; subst hx
      simp only [RepL, Rep] at h
      obtain ⟨u, us, rfl, rfl, h3⟩ := h
      rw [RepL.of_vals h3 hy]
    · cases hx
  | .sl _ _ _ :: l, vs, xs, h, hx => by simp [vals] at hx
  | .ep _ :: l, vs, xs, h, hx => by simp [vals] at hx
  | .bp _ _ :: l, vs, xs, h, hx => by simp [vals] at hx
  | .fn _ _ _ :: l, vs, xs, h, hx => by simp [vals] at hx
  | .ag _ :: l, vs, xs, h, hx => by simp [vals] at hx
  | .tu _ :: l, vs, xs, h, hx => by simp [vals] at hx

theorem idxOf_sound {iv : AV} {v : Value} {j : Nat} (h : Rep P c w iv v) (hj : idxOf iv = some j) : ∃ k, v = .int k (j : Int) := by
  unfold idxOf at hj
  split at hj
  · rename_i k i
    split at hj
    · rename_i hi
      simp only [Option.some.injEq] at hj; subst hj
      simp only [Rep] at h; subst h
      exact ⟨k, by rw [Int.toNat_of_nonneg hi]⟩
    · cases hj
  · cases hj

theorem elsOf_sound {xv : AV} {v : Value} {els : List (List Value)} (h : Rep P c w xv v) (hx : elsOf xv = some els) : (∃ e, RepSl P c w e els v) ∨ (els = [] ∧ v = .slice none 0 0) := by
  unfold elsOf at hx
  split at hx
  · rename_i e els' tip
    simp only [Option.some.injEq] at hx; subst hx
    simp only [Rep] at h
    exact .inl ⟨e, h.1⟩
  · simp only [Option.some.injEq] at hx; subst hx
    simp only [Rep] at h
    exact .inr ⟨rfl, h⟩
  · cases hx

theorem sound_bin (h : Rel P N c s a w) {op : BinOp} {t : TypeId} {x y : Operand} {x' y' : AX} (hx : cX x = some x') (hy : cX y = some y') {av : AV} (hv : vop s (.bin op x' y') = some av) :
    ∃ v, (do eqGuard op t x y (a.eval x) (a.eval y); binOp op t (a.eval x) (a.eval y) : Sem Value).run P w = .ok v w ∧ Rep P c w av v := by
  simp only [vop] at hv
  split at hv
  · rename_i p q hp hq
    have h1 := ev_sound h hx hp
    have h2 := ev_sound h hy hq
    simp only [Rep] at h1 h2
    rw [h1, h2]
    cases hb : binV op p q with
    | none => rw [hb] at hv; cases hv
    | some r =>
      rw [hb] at hv
      simp only [Option.map_some, Option.some.injEq] at hv; subst hv
      refine ⟨r, ?_, by simp [Rep]⟩
      have hg : (eqGuard op t x y p q).run P w = .ok () w := by
        unfold eqGuard
        cases p <;> cases q <;> simp [binV] at hb <;> cases op <;> simp
      simp only [Sem.run_bind, hg, Result.andThen_ok]
      exact bin_sound hb
  · cases hv

theorem slice_addr (b off : Nat) (i sz : Nat) : (⟨b, off, none⟩ : Addr).add (i * sz) = ⟨b, off + i * sz, none⟩ := add_lit b off _

/-- Element i of rows of one width. -/
theorem flatten_get {n : Nat} : ∀ {els : List (List Value)} (i : Nat) {x : List Value}, (∀ x ∈ els, x.length = n) → els[i]? = some x → (els.flatten.drop (i * n)).take n = x
  | [], i, x, _, hi => by simp at hi
  | y :: els, i, x, hl, hi => by
    have hy := hl y (by simp)
    cases i with
    | zero =>
      simp only [List.getElem?_cons_zero, Option.some.injEq] at hi; subst hi
      simp [← hy]
    | succ i =>
      have ih := flatten_get i (fun z hz => hl z (List.mem_cons_of_mem _ hz)) (by simpa using hi)
      rw [List.flatten_cons, Nat.succ_mul, Nat.add_comm, List.drop_append, ← hy, Nat.add_sub_cancel_left, hy]
      rw [List.drop_eq_nil_of_le (by omega), List.nil_append]
      exact ih

theorem RepSl.elem {e : TypeId} {els : List (List Value)} {v : Value} (h : RepSl P c w e els v) {j : Nat} {x : List Value} (hj : els[j]? = some x) :
    ∃ b off cap, v = .slice (some ⟨b, off, none⟩) els.length cap ∧ Reads c w b (off + j * P.cellsOf e) x := by
  obtain ⟨ad, cap, h1, h2, h3, h4⟩ := h
  have hne : els ≠ [] := fun e => by rw [e] at hj; simp at hj
  obtain ⟨b, off, rfl, hr⟩ := h4.resolve_left hne
  refine ⟨b, off, cap, h1, ?_⟩
  have := (hr.drop (j * P.cellsOf e)).take (P.cellsOf e)
  rwa [flatten_get j (fun x hx => (h3 x hx).1) hj] at this

theorem loadCells_reads {b off : Nat} {cells : List Value} (h : Reads c w b off cells) : (loadCells ⟨b, off, none⟩ cells.length).run P w = .ok cells.toArray w :=
  run_loadCells_list (P := P) w ⟨b, off, none⟩ cells fun j v hj => by rw [add_lit]; exact (h j v hj).2

theorem szOf_none {t : TypeId} (h : szOf P t = some none) : (isAgg t).run P w = .ok false w := by
  unfold szOf at h
  split at h <;> try cases h
  rename_i d i hd1 hd2 hu hi
  rw [isAgg_of hu]
  cases d <;> first | rfl | exact (hd1 _ rfl).elim | exact (hd2 _ _ rfl).elim

theorem szOf_some {t : TypeId} {n : Nat} (h : szOf P t = some (some n)) : (isAgg t).run P w = .ok true w ∧ ∃ i, P.info? t = some i ∧ i.size = n := by
  unfold szOf at h
  split at h
  · rename_i fs i hu hi
    simp only [Option.some.injEq] at h
    exact ⟨isAgg_of hu, i, hi, h⟩
  · rename_i k e i hu hi
    simp only [Option.some.injEq] at h
    exact ⟨isAgg_of hu, i, hi, h⟩
  · cases h
  · cases h

/-- A load of cells that stand for a list. -/
theorem load_take {t : TypeId} {sz : Option Nat} (ht : szOf P t = some sz) {b off : Nat} {cells : List AV} {vs : List Value} (hr : RepL P c w cells vs) (hc : ∀ j v, vs[j]? = some v → w.cell? ⟨b, off + j, none⟩ = some v) {av : AV}
    (hv : takeCells cells sz = some av) : ∃ v, (loadVar t ⟨b, off, none⟩).run P w = .ok v w ∧ Rep P c w av v := by
  cases sz with
  | none =>
    simp only [takeCells] at hv
    obtain ⟨v, h1, h2⟩ := hr.get hv
    have := hc 0 v h1
    rw [Nat.add_zero] at this
    exact ⟨v, by simp [loadVar, szOf_none ht, this], h2⟩
  | some n =>
    simp only [takeCells] at hv
    split at hv
    · rename_i hn
      simp only [Option.some.injEq] at hv; subst hv
      obtain ⟨h1, i, h2, h3⟩ := szOf_some (w := w) ht
      have hlen : (vs.take n).length = n := by rw [List.length_take, hr.length]; omega
      have hl := run_loadCells_list (P := P) w ⟨b, off, none⟩ (vs.take n) (fun j v hj => by
        rw [add_lit]
        rw [List.getElem?_take] at hj
        split at hj
        · exact hc j v hj
        · cases hj)
      rw [hlen] at hl
      refine ⟨.agg (vs.take n).toArray, by simp [loadVar, h1, sizeOf, typeInfo, h2, h3, hl], ?_⟩
      simp only [Rep]
      exact ⟨_, rfl, by simpa using hr.take n⟩
    · cases hv

/-- The part of a value of several cells. -/
theorem part_take {t : TypeId} {sz : Option Nat} (ht : szOf P t = some sz) {cells : List AV} {cs : Array Value} (hr : RepL P c w cells cs.toList) (off : Nat) {av : AV} (hv : takeCells (cells.drop off) sz = some av) :
    ∃ v, (part t cs off).run P w = .ok v w ∧ Rep P c w av v := by
  cases sz with
  | none =>
    simp only [takeCells] at hv
    obtain ⟨v, h1, h2⟩ := (hr.drop off).get hv
    have h1' : cs[off]? = some v := by simpa using h1
    exact ⟨v, by simp [part, szOf_none ht, h1'], h2⟩
  | some n =>
    simp only [takeCells] at hv
    split at hv
    · rename_i hn
      simp only [Option.some.injEq] at hv; subst hv
      obtain ⟨h1, i, h2, h3⟩ := szOf_some (w := w) ht
      refine ⟨.agg (cs.extract off (off + n)), by simp [part, h1, sizeOf, typeInfo, h2, h3], ?_⟩
      simp only [Rep]
      refine ⟨_, rfl, ?_⟩
      have := (hr.drop off).take n
      rw [Array.toList_extract, List.extract_eq_take_drop, Nat.add_sub_cancel_left]
      exact this
    · cases hv

theorem bytes_sound : ∀ {els : List (List Value)} {l : List UInt8}, bytesOf els = some l → ∃ ns : List Int, els = ns.map (fun n => [.int .u8 n]) ∧ l = ns.map (fun n => UInt8.ofNat n.toNat)
  | [], l, h => by simp only [bytesOf, Option.some.injEq] at h; subst h; exact ⟨[], rfl, rfl⟩
  | x :: els, l, h => by
    unfold bytesOf at h
    split at h
    · rename_i h'; cases h'
    · rename_i n rest h'
      obtain ⟨rfl, rfl⟩ := List.cons.inj h'
      split at h
      · rename_i l' hl'
        simp only [Option.some.injEq] at h; subst h
        obtain ⟨ns, rfl, rfl⟩ := bytes_sound hl'
        exact ⟨n :: ns, rfl, rfl⟩
      · cases h
    · cases h

theorem runesOf_sound : ∀ {els : List (List Value)} {l : List Int}, runesOf els = some l → els = l.map (fun n => [.int .i32 n])
  | [], l, h => by simp only [runesOf, Option.some.injEq] at h; subst h; rfl
  | x :: els, l, h => by
    unfold runesOf at h
    split at h
    · rename_i h'; cases h'
    · rename_i n rest h'
      obtain ⟨rfl, rfl⟩ := List.cons.inj h'
      split at h
      · rename_i l' hl'
        simp only [Option.some.injEq] at h; subst h
        rw [runesOf_sound hl']; rfl
      · cases h
    · cases h

theorem run_forIn_runes {P : Program} {w : World} (f : Value → ByteArray → Sem (ForInStep ByteArray)) (hf : ∀ (n : Int) (r : ByteArray), (f (.int .i32 n) r).run P w = .ok (.yield (r ++ Utf8.encode n)) w) :
    ∀ (ns : List Int) (r : ByteArray), (forIn (ns.map (Value.int .i32)) r f).run P w = .ok (ns.foldl (fun r n => r ++ Utf8.encode n) r) w
  | [], r => by simp
  | n :: ns, r => by
    simp only [List.map_cons, List.forIn_cons, Sem.run_bind, hf, Result.andThen_ok, List.foldl_cons]
    exact run_forIn_runes f hf ns _

theorem run_runesToString {P : Program} (w : World) (a : Addr) (len cap : Nat) (ns : List Int) (h : (loadCells a len).run P w = .ok (ns.map (Value.int .i32)).toArray w) :
    (Conv.runesToString (.slice (some a) len cap)).run P w = .ok (.string (strOf ns)) w := by
  unfold Conv.runesToString strOf
  simp only [Sem.run_bind, h, Result.andThen, List.forIn_toArray]
  rw [run_forIn_runes _ (by intro n r; simp [Sem.run_pure])]
  simp [Sem.run_pure]

theorem foldl_bytes (ns : List Int) : ∀ (s : ByteArray), ns.foldl (fun r n => r.push (UInt8.ofNat n.toNat)) s = ⟨s.data ++ (ns.map fun n => UInt8.ofNat n.toNat).toArray⟩ := by
  induction ns with
  | nil => intro s; simp
  | cons n ns ih =>
    intro s
    simp only [List.map_cons, List.foldl_cons, ih]
    congr 1
    simp [ByteArray.push]

end
end Go.Ab
