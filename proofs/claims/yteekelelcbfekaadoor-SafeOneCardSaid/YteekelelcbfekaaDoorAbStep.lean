/-
The operations of the abstract machine that make memory or call; regions in the order of the text. Conditions: none.
-/
import Derived.Test.YteekelelcbfekaaDoorAbObj
import Derived.Lib.ConvBytes
set_option linter.unusedSimpArgs false
set_option linter.unusedVariables false
set_option linter.unusedSectionVars false
namespace Go.Ab
open Go Go.RowKit

/-- A slice of that element type, or nil. -/
def srcE (e : TypeId) : AV → Prop
  | .sl e' _ _ => e' = e
  | _ => True

def allOne : List AV → Bool
  | [] => true
  | x :: xs => x.one && allOne xs

/-- A round of a loop over a function: what is asked where the function calls the loop's body. -/
def YieldOK (P : Program) (id : Nat) (args : List AV) (bx : List (Nat × List AV)) (tp : List (Nat × TypeId)) (nx : Nat) (K : AV → List (Nat × List AV) → List (Nat × TypeId) → Nat → Prop) : Prop :=
  ∀ (c : Ctx) (w : World) (vs : Array Value), Mem P c bx tp w → c.next = nx → RepL P c w args vs.toList →
    ∃ f tmps assign body, (Instr.yield (c.β id) vs).run P w = .ok (.round (c.β id) f tmps assign body) w ∧
      RoundIn (fen none) 0 P (c.β id) f tmps assign body w fun e w' => ∃ v c' r bx' tp', e = .returned v ∧ Ext c.next c w c' w' ∧ c.next ≤ c'.next ∧ c'.floor = c.floor ∧ Mem P c' bx' tp' w' ∧ Rep P c' w' r v ∧ K r bx' tp' c'.next

/-- A method that takes the value as it stands. -/
def MethodIs (P : Program) (t : TypeId) (m : String) (g : FuncId) : Prop := ∀ (v : Value) (w : World), (method (P.types.size + Made.depth) t v m).run P w = .ok (g, v) w

/-- What a slice literal is taken for: an empty one may be a slice, or what becomes a row where it is appended to. -/
def bsO (e : TypeId) (els : List (List Value)) (id : Nat) (av : AV) : Prop := av = bsV e els id ∨ av = .sl e els (some id)

/-- One operation: what it makes of the state is handed on. -/
def astep (P : Program) (dst : Option Nat) (op : AOp) (s : State) (K : State → Prop) : Prop :=
  match op with
  | .alc _ zero => if allOne (zero.map .lit) then K ({ s with boxes := (s.next, zero.map .lit) :: s.boxes, next := s.next + 1 }.put dst (.bp s.next 0)) else False
  | .box _ x => match s.ev x with
    | some av => if allOne av.cells then K ({ s with boxes := (s.next, av.cells) :: s.boxes, next := s.next + 1 }.put dst (.bp s.next 0)) else False
    | none => False
  | .st n x y => match s.ev x, s.ev y with
    | some (.bp id off), some av => match boxAt s.boxes id with
      | some cells => if av.cells.length = n ∧ off + n ≤ cells.length ∧ allOne av.cells = true then K ({ s with boxes := setBox s.boxes id (cells.take off ++ av.cells ++ cells.drop (off + n)) }.del dst) else False
      | none => False
    | _, _ => False
  | .bs e n xs => match s.evs xs with
    | some avs => match valsL avs with
      | some els => if lenAll n els && oneV els then ∃ av, bsO e els s.next av ∧ K ({ s with tips := (s.next, e) :: s.tips, next := s.next + 1 }.put dst av) else False
      | none => False
    | none => False
  | .app e bytes x y => match s.ev x, s.ev y with
    | some xv, some yv => if (isRow xv || isRow yv) = true then (match rowApp s.boxes s.tips e xv yv with
      | some r => (r.n + r.m) * bytes ≤ 140737488355328 ∧ r.n + r.m ≤ 9223372036854775807 ∧ K ({ s with boxes := (s.next + r.skip, r.cells) :: r.boxes, tips := r.tips, next := s.next + r.skip + 1 }.put dst (.rf (.row e r.sz 0 (r.n + r.m)) (s.next + r.skip)))
      | none => False) else match elsOf yv with
      | some els2 => match xv with
        | .lit (.slice none 0 0) => els2.length * bytes ≤ 140737488355328 ∧ els2.length ≤ 9223372036854775807 ∧ srcE e yv ∧
            K ({ s with tips := (s.next, e) :: s.tips, next := s.next + 1 }.put dst (.sl e els2 (some s.next)))
        | .sl e' els (some id) => if e' = e ∧ hasTip s.tips id e = true then (els.length + els2.length) * bytes ≤ 140737488355328 ∧ els.length + els2.length ≤ 9223372036854775807 ∧ srcE e yv ∧
            K ({ s with tips := (s.next, e) :: dropTip s.tips id, next := s.next + 1 }.put dst (.sl e (els ++ els2) (some s.next))) else False
        | _ => False
      | none => False
    | _, _ => False
  | .call f args => match s.ev f, s.evs args with
    | some (.fn (.func g) first cap), some as => CallOK P g (first ++ as ++ cap) s.boxes s.tips s.next fun r bx tp nx => K ({ s with boxes := bx, tips := tp, next := nx }.put dst r)
    | some (.rf .yield id), some as => YieldOK P id as s.boxes s.tips s.next fun r bx tp nx => K ({ s with boxes := bx, tips := tp, next := nx }.put dst r)
    | some (.lit (.func (.method m) fs _)), some (.vx (.iface t) [rv] :: as) => fs = #[] ∧ ∃ g, MethodIs P t m g ∧ CallOK P g (rv :: as) s.boxes s.tips s.next fun r bx tp nx => K ({ s with boxes := bx, tips := tp, next := nx }.put dst r)
    | _, _ => False
  | .callT f args => match s.ev f, s.evs args with
    | some (.fn (.func g) first cap), some as => CallOK P g (first ++ as ++ cap) s.boxes s.tips s.next fun r bx tp nx => K ({ s with boxes := bx, tips := tp, next := nx }.put dst r)
    | _, _ => False
  | .xe x xs => match s.evs xs with
    | some avs => match x.eff s.boxes s.tips s.next avs with
      | some u => K (u.ap dst s)
      | none => False
    | none => False
  | .nxt str x => match s.ev x with
    | some it => nextOf str it dst s K
    | none => False
  | op => match vop s op with
    | some av => K (s.put dst av)
    | none => False

section
variable {P : Program} {N : Nat} {c c' : Ctx} {w w' : World} {s : State} {a : Act} {bx : List (Nat × List AV)} {tp : List (Nat × TypeId)}

/-- What an operation leaves. -/
def Post (P : Program) (N : Nat) (c : Ctx) (w : World) (K : State → Prop) (a' : Act) (w' : World) : Prop :=
  ∃ c' s', Ext c.floor.lim c w c' w' ∧ c'.floor = c.floor ∧ Rel P N c' s' a' w' ∧ K s'

theorem RepL.allOne : ∀ {l : List AV} {vs : List Value}, RepL P c w l vs → Ab.allOne l = true → ∀ v ∈ vs, v.oneCell' = true
  | [], vs, h, _ => by simp only [RepL] at h; subst h; simp
  | x :: xs, vs, h, ho => by
    simp only [RepL] at h
    simp only [Ab.allOne, Bool.and_eq_true] at ho
    obtain ⟨v, us, rfl, h2, h3⟩ := h
    intro u hu
    rcases List.mem_cons.1 hu with rfl | hu
    · exact h2.one ho.1
    · exact RepL.allOne h3 ho.2 u hu

theorem post_put (h : Rel P N c s a w) {dst : Option Nat} (hd : ∀ d, dst = some d → d < N) {av : AV} {v : Value} {K : State → Prop} (hv : dst ≠ none → Rep P c w av v) (hK : K (s.put dst av)) : Post P N c w K (a.put dst v) w :=
  ⟨c, _, Ext.refl _ _ _, rfl, h.put0 hd hv, hK⟩

theorem post_box (h : Rel P N c s a w) {dst : Option Nat} (hd : ∀ d, dst = some d → d < N) {cells : List AV} {arr : Array Value} (t : TypeId) (hr : RepL P c w cells arr.toList) {K : State → Prop}
    (hK : K ({ s with boxes := (s.next, cells) :: s.boxes, next := s.next + 1 }.put dst (.bp s.next 0))) : Post P N c w K (a.put dst (.pointer (some ⟨w.heap.size, 0, none⟩))) (w.alloc (.cells arr t (0, 0))) := by
  have hx := Ext.newBox c w (.cells arr t (0, 0))
  have hm := h.mem.newBox t hr
  have := h.put (dst := dst) (av := .bp c.next 0) (v := .pointer (some ⟨w.heap.size, 0, none⟩)) hd hx (Nat.le_succ _) rfl hm (fun _ => by simp [Rep, Ctx.newBox])
  refine ⟨_, _, hx.mono h.floor, rfl, this, ?_⟩
  have hn := h.next
  simp only [Ctx.newBox]
  rw [← hn]
  exact hK

theorem post_ob (h : Rel P N c s a w) {dst : Option Nat} (hd : ∀ d, dst = some d → d < N) {cells : List AV} {o : Obj} {k : RK} {v : Value} (hv : RefOK P (w.alloc o) k w.heap.size v) (hr : BoxRep P c w cells o) {K : State → Prop}
    (hK : K (Upd.ap ⟨some (.rf k s.next), (s.next, cells) :: s.boxes, s.tips, s.next + 1⟩ dst s)) : Post P N c w K (a.put dst v) (w.alloc o) := by
  have hx := Ext.newBox c w o
  have hm := h.mem.newOb hr
  have := h.put (dst := dst) (av := .rf k c.next) (v := v) hd hx (Nat.le_succ _) rfl hm (fun _ => by simp only [Rep, Ctx.newBox, if_true]; exact ⟨Nat.lt_succ_self _, hv⟩)
  refine ⟨_, _, hx.mono h.floor, rfl, this, ?_⟩
  have hn := h.next
  simp only [Upd.ap] at hK
  rw [hn] at hK
  exact hK

theorem post_upd (h : Rel P N c s a w) {dst : Option Nat} {u : Upd} (g2 : u.val = none) (g3 : u.next = s.next) (g4 : u.tips = s.tips) (g5 : Ext c.next c w c w') (g6 : Mem P c u.boxes s.tips w') {K : State → Prop} (hK : K (u.ap dst s)) : Post P N c w K (a.put dst undef) w' := by
  have hr := h.put (dst := none) (av := .lit undef) (v := undef) (fun _ hh => by cases hh) g5 (Nat.le_refl _) rfl g6 (fun hh => (hh rfl).elim)
  have hr2 := hr.del dst undef
  refine ⟨c, _, g5.mono h.floor, rfl, hr2, ?_⟩
  have hnx := h.next
  simp only [Upd.ap, g2, g3, g4] at hK
  simp only [State.put]
  rw [← hnx]
  exact hK

theorem post_updV (h : Rel P N c s a w) {dst : Option Nat} (hd : ∀ d, dst = some d → d < N) {u : Upd} {x y : Value} (g2 : u.val = some (.tu [.lit x, .lit y])) (g3 : u.next = s.next) (g4 : u.tips = s.tips) (g5 : Ext c.next c w c w') (g6 : Mem P c u.boxes s.tips w') {K : State → Prop} (hK : K (u.ap dst s)) : Post P N c w K (a.put dst (.tuple #[x, y])) w' := by
  have hr := h.put (dst := dst) (av := .tu [.lit x, .lit y]) (v := .tuple #[x, y]) hd g5 (Nat.le_refl _) rfl g6 (fun _ => by simp only [Rep]; exact ⟨_, rfl, by simp only [RepL]; exact ⟨_, _, rfl, (by simp only [Rep]), _, _, rfl, (by simp only [Rep]), rfl⟩⟩)
  refine ⟨_, _, g5.mono h.floor, rfl, hr, ?_⟩
  have hnx := h.next
  simp only [Upd.ap, g2, g3, g4] at hK
  rw [← hnx]
  exact hK

theorem take_patch {α : Type} (A y : List α) (off n len : Nat) (hy : y.length = n) (h : off + n ≤ len) (hl : len ≤ A.length) :
    (A.take off ++ y ++ A.drop (off + n)).take len = (A.take len).take off ++ y ++ (A.take len).drop (off + n) := by
  have h1 : (A.take off ++ y).length = off + n := by simp only [List.length_append, List.length_take]; omega
  rw [List.take_append, List.take_of_length_le (by omega), h1, List.take_take, Nat.min_eq_left (by omega), List.drop_take]

theorem store_sound (h : Rel P N c s a w) {t : TypeId} {x y : Value} {id off n : Nat} {av : AV} {cells : List AV} {i : TypeInfo} (hi : P.info? t = some i) (hn : i.size = n) (hx : Rep P c w (.bp id off) x) (hy : Rep P c w av y) (hb : boxAt s.boxes id = some cells)
    (hl : av.cells.length = n) (hoff : off + n ≤ cells.length) (h1 : Ab.allOne av.cells = true) :
    ∃ w', (Instr.storeAt t x y).run P w = .ok () w' ∧ Ext c.next c w c w' ∧ Mem P c (setBox s.boxes id (cells.take off ++ av.cells ++ cells.drop (off + n))) s.tips w' := by
  simp only [Rep] at hx
  obtain ⟨arr, t', hrow, hrep⟩ := box_load h.mem hb
  have hyc := hy.cells
  have hylen := hyc.length
  have hle : cells.length ≤ arr.size := by have := hrep.length; simp only [List.length_take, Array.length_toList] at this; omega
  rw [Array.length_toList] at hylen
  have hst := run_storeCells_at P (c.β id) off t' y.cells.toList 0 arr w hrow (by rw [Array.length_toList]; omega) (hyc.allOne h1)
  rw [Nat.add_zero, Array.length_toList, hylen, hl] at hst
  refine ⟨w.setRow (c.β id) (List.take off arr.toList ++ y.cells.toList ++ List.drop (off + n) arr.toList).toArray, ?_, Ext.setRow _ c w _ _ hrow ?_ (h.mem.boxes _ (boxAt_mem hb)).free, h.mem.setRow (boxAt_mem hb) hrow ?_ ?_⟩
  · rw [hx.2]
    simp only [Instr.storeAt, Instr.sureAddr, Sem.run_bind, Sem.run_pure, Result.andThen_ok, storeVar, sizeOf, typeInfo, run_program, hi]
    rw [if_neg (by simp; omega)]
    exact hst
  · simp only [List.size_toArray, List.length_append, List.length_take, List.length_drop, Array.length_toList]; omega
  · simp only [List.size_toArray, List.length_append, List.length_take, List.length_drop, Array.length_toList]; omega
  · have hlen : (cells.take off ++ av.cells ++ cells.drop (off + n)).length = cells.length := by simp only [List.length_append, List.length_take, List.length_drop]; omega
    rw [hlen, take_patch _ _ _ _ _ (by rw [Array.length_toList]; omega) hoff (by rw [Array.length_toList]; exact hle)]
    exact ((hrep.take off).append hyc).append (hrep.drop (off + n))

theorem lits_of_vals : ∀ {l : List AV} {xs : List Value}, vals l = some xs → l = xs.map .lit
  | [], xs, h => by simp only [vals, Option.some.injEq] at h; subst h; rfl
  | .lit v :: l, xs, h => by
    simp only [vals] at h
    split at h
    · rename_i ys hy
      simp only [Option.some.injEq] at h; subst h
      rw [lits_of_vals hy]; rfl
    · cases h
  | .sl _ _ _ :: l, xs, h => by simp [vals] at h
  | .ep _ :: l, xs, h => by simp [vals] at h
  | .bp _ _ :: l, xs, h => by simp [vals] at h
  | .fn _ _ _ :: l, xs, h => by simp [vals] at h
  | .ag _ :: l, xs, h => by simp [vals] at h
  | .tu _ :: l, xs, h => by simp [vals] at h
  | .sn _ _ :: l, xs, h => by simp [vals] at h
  | .ob _ _ :: l, xs, h => by simp [vals] at h
  | .rf _ _ :: l, xs, h => by simp [vals] at h

theorem valsL_sound : ∀ {l : List AV} {vs : List Value} {els : List (List Value)}, RepL P c w l vs → valsL l = some els → els.length = vs.length ∧ ∀ (i : Nat) (y : List Value) (v : Value), els[i]? = some y → vs[i]? = some v → v.cells.toList = y
  | [], vs, els, h, he => by simp only [valsL, Option.some.injEq] at he; subst he; simp only [RepL] at h; subst h; simp
  | x :: xs, vs, els, h, he => by
    simp only [valsL] at he
    split at he
    · rename_i y ys hy hys
      simp only [Option.some.injEq] at he; subst he
      simp only [RepL] at h
      obtain ⟨v, us, rfl, h2, h3⟩ := h
      obtain ⟨g1, g2⟩ := valsL_sound h3 hys
      refine ⟨by simp [g1], fun i y' v' hi hv => ?_⟩
      cases i with
      | zero => simp at hi hv; subst hi; subst hv; exact h2.cells.of_vals hy
      | succ i => exact g2 i y' v' (by simpa using hi) (by simpa using hv)
    · cases he

/-- Filling one part behind the other. -/
theorem fill_rows (sz : Nat) (hsz : 0 < sz) : ∀ (vs : List Value) (els : List (List Value)) (k : Nat) (done : List Value) (cs : Array Value), els.length = vs.length → (∀ (i : Nat) (y : List Value) (v : Value), els[i]? = some y → vs[i]? = some v → v.cells.toList = y) → (∀ y ∈ els, y.length = sz) →
    cs.size = (k + vs.length) * sz → done.length = k * sz → cs.toList.take (k * sz) = done →
    ∃ out, Instr.fill (fun i => some (i * sz, sz)) cs ((List.range' k vs.length).zip vs) = some out ∧ out.toList = done ++ els.flatten
  | [], els, k, done, cs, hl, _, _, hc, hd, ht => by
    have : els = [] := List.eq_nil_of_length_eq_zero (by simpa using hl)
    subst this
    refine ⟨cs, by simp [Instr.fill], ?_⟩
    rw [← ht, List.take_of_length_le (by simp at hc ⊢; omega)]
    simp
  | v :: vs, [], k, done, cs, hl, _, _, _, _, _ => by simp at hl
  | v :: vs, y :: els, k, done, cs, hl, hv, hy, hc, hd, ht => by
    have hvy := hv 0 y v rfl rfl
    have hyl := hy y (by simp)
    have hvs : v.cells.size = sz := by rw [← Array.length_toList, hvy, hyl]
    have hcs : cs.toList.length = (k + (vs.length + 1)) * sz := by rw [Array.length_toList]; simpa using hc
    have hfits : k * sz + sz ≤ cs.size := by rw [hc, List.length_cons, show k + (vs.length + 1) = (k + 1) + vs.length by omega, Nat.add_mul, Nat.succ_mul]; omega
    have hset : ∀ (l : List Value) (n : Nat) (cs : List Value), n + l.length ≤ cs.length → (l.zipIdx 0).foldl (fun x (p : Value × Nat) => x.set (n + p.2) p.1) cs = cs.take n ++ l ++ cs.drop (n + l.length) := by
      intro l
      induction l with
      | nil => intro n cs _; simp
      | cons u l ih =>
        intro n cs hn
        have e : ∀ (l : List Value) (j m : Nat) (cs : List Value), (l.zipIdx (j + 1)).foldl (fun x (p : Value × Nat) => x.set (m + p.2) p.1) cs = (l.zipIdx j).foldl (fun x (p : Value × Nat) => x.set (m + 1 + p.2) p.1) cs := by
          intro l
          induction l with
          | nil => intro j m cs; rfl
          | cons y ys ih => intro j m cs; simp only [List.zipIdx_cons, List.foldl_cons]; rw [ih (j + 1)]; congr 2; omega
        simp only [List.zipIdx_cons, List.foldl_cons, Nat.add_zero]
        rw [Nat.zero_add, e l 0 n, ih (n + 1) (cs.set n u) (by simp at hn ⊢; omega)]
        have := list_seg_step cs n u l (by simpa using hn)
        simpa [Nat.add_assoc, Nat.add_comm 1] using this
    have hnew := fold_set cs (k * sz) v.cells
    rw [hset _ _ _ (by rw [Array.length_toList, Array.length_toList, hvs]; exact hfits)] at hnew
    have hvl : v.cells.toList.length = sz := by rw [hvy, hyl]
    obtain ⟨out, g1, g2⟩ := fill_rows sz hsz vs els (k + 1) (done ++ y) (v.cells.zipIdx.foldl (fun cs (p : Value × Nat) => cs.setIfInBounds (k * sz + p.2) p.1) cs) (by simpa using hl) (fun i y v h1 h2 => hv (i + 1) y v (by simpa using h1) (by simpa using h2))
      (fun z hz => hy z (List.mem_cons_of_mem _ hz)) (by
        rw [← Array.length_toList, hnew]
        simp only [List.length_append, List.length_take, List.length_drop, hvl, hcs]
        rw [Array.length_toList] at hcs
        rw [hcs] at hfits
        rw [show k + 1 + vs.length = k + (vs.length + 1) by omega]
        omega) (by simp [hd, hyl, Nat.succ_mul]) (by
        rw [hnew, Nat.succ_mul, ht, ← hvy, List.take_left']
        simp [hd, hvy, hyl])
    refine ⟨out, ?_, by rw [g2]; simp⟩
    rw [List.length_cons, List.range'_succ, List.zip_cons_cons]
    simp only [Instr.fill]
    rw [if_neg (by simp [hvs]; omega)]
    exact g1

theorem allOne_lits : ∀ {l : List Value}, Ab.allOne (l.map .lit) = true → ∀ v ∈ l, v.oneCell' = true
  | [], _ => by simp
  | x :: xs, h => by
    simp only [List.map_cons, Ab.allOne, AV.one, Bool.and_eq_true] at h
    intro v hv
    rcases List.mem_cons.1 hv with rfl | hv
    · exact h.1
    · exact allOne_lits h.2 v hv

theorem els_of {e : TypeId} : ∀ {els : List (List Value)}, lenAll (P.cellsOf e) els = true → oneV els = true → Els P e els
  | [], _, _ => fun x hx => by cases hx
  | y :: ys, h1, h2 => by
    simp only [lenAll, oneV, Bool.and_eq_true, decide_eq_true_eq] at h1 h2
    intro x hx
    rcases List.mem_cons.1 hx with rfl | hx
    · exact ⟨h1.1, fun u hu => by have := List.all_eq_true.1 h2.1 u hu; simpa using this⟩
    · exact els_of h1.2 h2.2 x hx

theorem wpIn_of {ro : Option Nat} {o : Oper} {K : Act → World → Prop} {Q : Exit → Act → World → Prop} {r : Result Next} (hd : ∀ c, o.op ≠ .defer c) (hr : (execOp a.eval o).run P w = r) (h : o.uponIn (fen ro) 0 P a K Q r) : o.wpIn (fen ro) 0 P a w K Q :=
  ⟨fun _ _ => trivial, by show o.uponIn (fen ro) 0 P a K Q ((o.semAt ro a.eval).run P w); rw [Oper.semAt_eq ro a.eval o hd, hr]; exact h⟩

theorem depth_any (ro : Option Nat) (n : Nat) : (fen ro).depth.isSome = true → 1 ≤ n := fun h => by cases h

theorem run_yieldOp {cl : Call} {f : Operand} (hf : cl.callee = .value f) {l : Nat} (hv : a.eval f = .func (.yield l) #[] #[]) (ty : TypeId) :
    (do let d ← resolve a.eval cl ty; invoke d.target d.args : Sem Next).run P w = (Instr.yield l (cl.args.map a.eval)).run P w := by
  simp [resolve, hf, hv, Deferred.ofValue, invoke]

/-- A call of an interface's method. -/
theorem run_methodOp {t : TypeId} {m : String} {g : FuncId} (hm : MethodIs P t m g) (he : Enters P g) (v : Value) (args : Array Value) :
    (callMethod (.iface t v) m args).run P w = .ok (.enter g (#[v] ++ args)) w := by
  simp only [callMethod, Sem.run_bind, run_program, Result.andThen_ok]
  rw [hm v w]
  simp only [Result.andThen_ok]
  exact he _ _

theorem invoke_method {t : TypeId} {m : String} {g : FuncId} (hm : MethodIs P t m g) (he : Enters P g) (x : Value) (A : Array Value) (cs : Array Value) :
    (invoke (.fn (.method m) cs) (#[Value.iface t x] ++ A)).run P w = .ok (.enter g (#[x] ++ A)) w := by
  have h1 : (#[Value.iface t x] ++ A).extract 1 (#[Value.iface t x] ++ A).size = A := by
    apply Array.toList_inj.1
    simp
    try exact List.take_of_length_le (by simp)
  have h0 : (#[Value.iface t x] ++ A)[0]? = some (Value.iface t x) := by
    exact Array.getElem?_append_left (ys := A) (xs := #[Value.iface t x]) (i := 0) (Nat.zero_lt_one)
  simp only [invoke, h0, h1]
  exact run_methodOp hm he x A

theorem vx_iface {c : Ctx} {t : TypeId} {rv : AV} {v : Value} (h : Rep P c w (.vx (.iface t) [rv]) v) : ∃ x, v = .iface t x ∧ Rep P c w rv x := by
  simp only [Rep, VRep, RepL] at h
  obtain ⟨vs, ⟨x, rfl, rfl⟩, y, l, h1, h2, rfl⟩ := h
  simp only [List.cons.injEq, and_true] at h1
  subst h1
  exact ⟨x, rfl, h2⟩

theorem method_rep {c : Ctx} {t : TypeId} {rv : AV} {as : List AV} {vs : List Value} (h : RepL P c w (.vx (.iface t) [rv] :: as) vs) : ∃ x vs', vs = .iface t x :: vs' ∧ RepL P c w (rv :: as) (x :: vs') := by
  simp only [RepL] at h
  obtain ⟨v, vs', rfl, h1, h2⟩ := h
  obtain ⟨x, rfl, h3⟩ := vx_iface h1
  exact ⟨x, vs', rfl, by simp only [RepL]; exact ⟨x, vs', rfl, h3, h2⟩⟩

theorem not_defer {op : Op} {ao : AOp} (h : cOp P op = some ao) (c : Call) : op ≠ .defer c := fun e => by subst e; simp [cOp] at h

theorem step_value (h : Rel P N c s a w) {o : Oper} {ao : AOp} (hc : cOp P o.op = some ao) (hd : ∀ d, o.dst = some d → d < N) {av : AV} (hv : vop s ao = some av) {K : State → Prop} (hK : K (s.put o.dst av)) (Q : Exit → Act → World → Prop) : o.wpIn (fen c.floor.round) 0 P a w (Post P N c w K) Q := by
  obtain ⟨v, h1, h2⟩ := vop_sound h hc hv
  exact wpIn_of (not_defer hc) h1 (post_put h hd (fun _ => h2) hK)

theorem step_buildSlice (h : Rel P N c s a w) {t e : TypeId} {n : Nat} {parts : Array (Nat × Operand)} (hu : P.underlying t = some (.slice e)) {i : TypeInfo} (hi : P.info? e = some i) {z : Value} (hz : i.zero = some z) {xs : List AX} (hxs : cXs (parts.toList.map (·.2)) = some xs)
    (hp : parts.toList.map (·.1) = List.range n) (hsz : 0 < i.size) (hsmall : n * i.size ≤ 16777216) {avs : List AV} (havs : s.evs xs = some avs) {els : List (List Value)} (hels : valsL avs = some els) (hl : lenAll i.size els = true) (ho : oneV els = true) :
    ∃ cur : Array Value, (Instr.buildSlice t n (parts.map fun (i, x) => (i, a.eval x))).run P w = .ok (.slice (some ⟨w.heap.size, 0, none⟩) n n) (w.alloc (.cells cur e (0, 0))) ∧ cur.toList = els.flatten ∧ els.length = n ∧ Els P e els := by
  have hco := cellsOf_eq hi
  have hE : Els P e els := els_of (by rw [hco]; exact hl) ho
  have hr := evs_sound h hxs havs
  obtain ⟨g1, g2⟩ := valsL_sound hr hels
  have hpn : parts.toList.length = n := by have := congrArg List.length hp; simpa using this
  have hlen : els.length = n := by rw [g1]; simp only [List.length_map]; exact hpn
  obtain ⟨out, f1, f2⟩ := fill_rows i.size hsz ((parts.toList.map (·.2)).map a.eval) els 0 [] ((Array.range (n * i.size)).map (z.cells[· % z.cells.size]!)) g1 g2 (fun y hy => by rw [← hco]; exact (hE y hy).1)
    (by simp only [Array.size_map, Array.size_range, List.length_map, Nat.zero_add]; rw [hpn]) (by simp) (by simp)
  have hzip : (List.range' 0 ((parts.toList.map (·.2)).map a.eval).length).zip ((parts.toList.map (·.2)).map a.eval) = (parts.map fun (i, x) => (i, a.eval x)).toList := by
    simp only [List.length_map]
    rw [hpn, ← List.range_eq_range', ← hp, Array.toList_map, List.map_map]
    exact List.zip_map'
  rw [hzip] at f1
  refine ⟨out, ?_, by rw [f2, List.nil_append], hlen, hE⟩
  unfold Instr.buildSlice
  simp only [Sem.run_bind, run_underlying hu, Result.andThen_ok, sizeOf, typeInfo, run_program, hi, Sem.run_pure]
  rw [if_neg (by simpa using hsmall)]
  by_cases h0 : n * i.size = 0
  · rw [if_pos h0]
    have hcs : (Array.range (n * i.size)).map ((#[] : Array Value)[· % (#[] : Array Value).size]!) = (Array.range (n * i.size)).map (z.cells[· % z.cells.size]!) := by rw [h0]; simp
    simp only [Sem.run_bind, Sem.run_pure, Result.andThen_ok]
    rw [hcs, f1]
    simp [newRow]
  · rw [if_neg h0]
    simp only [Sem.run_bind, zeroValue, typeInfo, run_program, Result.andThen_ok, hi, Sem.run_pure, hz]
    rw [f1]
    simp [newRow]

theorem allOneB_eq : ∀ (l : List AV), allOneB l = Ab.allOne l
  | [] => rfl
  | x :: xs => by simp only [allOneB, Ab.allOne, allOneB_eq xs]

theorem cells_of_one {v : Value} (h : v.oneCell' = true) : v.cells.toList = [v] := by
  cases v <;> first | rfl | (simp [Value.oneCell'] at h; done)

theorem step_buildNest (h : Rel P N c s a w) {t e : TypeId} {n : Nat} {parts : Array (Nat × Operand)} (hu : P.underlying t = some (.slice e)) {i : TypeInfo} (hi : P.info? e = some i) {z : Value} (hz : i.zero = some z) {xs : List AX} (hxs : cXs (parts.toList.map (·.2)) = some xs)
    (hp : parts.toList.map (·.1) = List.range n) (hs1 : i.size = 1) (hsmall : n * i.size ≤ 16777216) {avs : List AV} (havs : s.evs xs = some avs) (ho : allOneB avs = true) :
    ∃ cur : Array Value, (Instr.buildSlice t n (parts.map fun (i, x) => (i, a.eval x))).run P w = .ok (.slice (some ⟨w.heap.size, 0, none⟩) n n) (w.alloc (.cells cur e (0, 0))) ∧ RepL P c w avs cur.toList ∧ avs.length = n := by
  have hr := evs_sound h hxs havs
  have hone := hr.allOne (by rw [← allOneB_eq]; exact ho)
  have hpn : parts.toList.length = n := by have := congrArg List.length hp; simpa using this
  have hvl : ((parts.toList.map (·.2)).map a.eval).length = n := by simp only [List.length_map]; exact hpn
  have hlen : avs.length = n := by rw [← hr.length]; exact hvl
  obtain ⟨out, f1, f2⟩ := fill_rows i.size (by omega) ((parts.toList.map (·.2)).map a.eval) (((parts.toList.map (·.2)).map a.eval).map fun v => [v]) 0 [] ((Array.range (n * i.size)).map (z.cells[· % z.cells.size]!)) (by simp)
    (fun j y v hy hv => by
      rw [List.getElem?_map, hv] at hy
      simp only [Option.map_some, Option.some.injEq] at hy
      subst hy
      exact cells_of_one (hone v (List.mem_of_getElem? hv))) (fun y hy => by
      obtain ⟨v, _, rfl⟩ := List.mem_map.1 hy
      rw [hs1]; rfl)
    (by simp only [Array.size_map, Array.size_range, List.length_map, Nat.zero_add]; rw [hpn]) (by simp) (by simp)
  have hzip : (List.range' 0 ((parts.toList.map (·.2)).map a.eval).length).zip ((parts.toList.map (·.2)).map a.eval) = (parts.map fun (i, x) => (i, a.eval x)).toList := by
    simp only [List.length_map]
    rw [hpn, ← List.range_eq_range', ← hp, Array.toList_map, List.map_map]
    exact List.zip_map'
  rw [hzip] at f1
  have hflat : ∀ (l : List Value), (l.map fun v => [v]).flatten = l := fun l => by induction l with | nil => rfl | cons x l ih => simp [ih]
  refine ⟨out, ?_, by rw [f2, List.nil_append, hflat]; exact hr, hlen⟩
  unfold Instr.buildSlice
  simp only [Sem.run_bind, run_underlying hu, Result.andThen_ok, sizeOf, typeInfo, run_program, hi, Sem.run_pure]
  rw [if_neg (by simpa using hsmall)]
  by_cases h0 : n * i.size = 0
  · rw [if_pos h0]
    have hcs : (Array.range (n * i.size)).map ((#[] : Array Value)[· % (#[] : Array Value).size]!) = (Array.range (n * i.size)).map (z.cells[· % z.cells.size]!) := by rw [h0]; simp
    simp only [Sem.run_bind, Sem.run_pure, Result.andThen_ok]
    rw [hcs, f1]
    simp [newRow]
  · rw [if_neg h0]
    simp only [Sem.run_bind, zeroValue, typeInfo, run_program, Result.andThen_ok, hi, Sem.run_pure, hz]
    rw [f1]
    simp [newRow]

theorem post_nest (h : Rel P N c s a w) {dst : Option Nat} (hd : ∀ d, dst = some d → d < N) {e : TypeId} {avs : List AV} {n : Nat} (he : P.cellsOf e = 1) (hn : avs.length = n) {cur : Array Value} (hr : RepL P c w avs cur.toList) {K : State → Prop}
    (hK : K (Upd.ap ⟨some (.sn e avs), s.boxes, s.tips, s.next⟩ dst s)) : Post P N c w K (a.put dst (.slice (some ⟨w.heap.size, 0, none⟩) n n)) (w.alloc (.cells cur e (0, 0))) := by
  subst hn
  have hlen := hr.length
  have hx := Ext.addProt c w (.cells cur e (0, 0)) w.heap.size avs.length
  have hrep : Rep P (c.addProt w.heap.size avs.length) (w.alloc (.cells cur e (0, 0))) (.sn e avs) (.slice (some ⟨w.heap.size, 0, none⟩) avs.length avs.length) := by
    simp only [Rep]
    refine ⟨_, _, cur.toList, rfl, Nat.le_refl _, he, RepL.ext hx (Nat.le_refl _) _ _ hr, .inr ⟨w.heap.size, 0, rfl, ?_⟩⟩
    refine reads_row (heap_alloc_new w _) (fun j hj => .inr ⟨rfl, by rw [hlen] at hj; exact hj⟩) ?_
    rw [List.take_length]
  have := h.put (dst := dst) hd hx (Nat.le_refl _) rfl (h.mem.addProt _ _) (fun _ => hrep)
  refine ⟨_, _, hx.mono h.floor, rfl, this, ?_⟩
  have hnx := h.next
  simp only [Ctx.addProt]
  simp only [Upd.ap] at hK
  rw [← hnx]
  exact hK

theorem rep_bsV {e : TypeId} {els : List (List Value)} {id : Nat} {v : Value} (h : Rep P c w (.sl e els (some id)) v) : Rep P c w (bsV e els id) v := by
  cases els with
  | nil =>
    simp only [bsV, Rep, RepL]
    refine ⟨[v], ⟨rfl, ?_⟩, _, _, rfl, by simpa only [Rep] using h, rfl⟩
    simp only [Rep] at h; obtain ⟨⟨ad, cap, h1, _⟩, _⟩ := h; exact ⟨_, _, _, h1⟩
  | cons x l => exact h

theorem post_row (h : Rel P N c s a w) {dst : Option Nat} (hd : ∀ d, dst = some d → d < N) {e : TypeId} {els : List (List Value)} {n : Nat} (hn : els.length = n) (hE : Els P e els) {cur : Array Value} (hcur : cur.toList = els.flatten) (hm : n ≤ maxLen) {K : State → Prop}
    (hK : ∃ av, bsO e els s.next av ∧ K ({ s with tips := (s.next, e) :: s.tips, next := s.next + 1 }.put dst av)) : Post P N c w K (a.put dst (.slice (some ⟨w.heap.size, 0, none⟩) n n)) (w.alloc (.cells cur e (0, 0))) := by
  subst hn
  have hfl := hE.flatten_length
  have hsz : cur.size = els.length * P.cellsOf e := by rw [← Array.length_toList, hcur, hfl]
  have hx := Ext.newRow c w (.cells cur e (0, 0)) (.slice (some ⟨w.heap.size, 0, none⟩) els.length els.length) w.heap.size (els.length * P.cellsOf e)
  have hmem := h.mem.newRow (e := e) (n := els.length) (cap := els.length) (cur := cur) (Nat.le_refl _) hm hsz
  have hrep : Rep P (c.newRow w.heap.size (.slice (some ⟨w.heap.size, 0, none⟩) els.length els.length) (els.length * P.cellsOf e)) (w.alloc (.cells cur e (0, 0))) (.sl e els (some c.next)) (.slice (some ⟨w.heap.size, 0, none⟩) els.length els.length) := by
    simp only [Rep]
    refine ⟨⟨some ⟨w.heap.size, 0, none⟩, els.length, rfl, Nat.le_refl _, hE, .inr ⟨w.heap.size, 0, rfl, ?_⟩⟩, fun id hid => ?_⟩
    · refine reads_row (heap_alloc_new w _) (fun j hj => .inr ⟨rfl, by rw [← hfl]; exact hj⟩) ?_
      rw [← hcur, List.take_length]
    · simp only [Option.some.injEq] at hid; subst hid
      exact ⟨Nat.lt_succ_self _, by simp [Ctx.newRow, Ctx.newTip]⟩
  obtain ⟨av, hO, hK⟩ := hK
  have := h.put (dst := dst) hd hx (Nat.le_succ _) rfl hmem (fun _ => (show Rep P _ _ av _ from by
    rw [h.next] at hO
    rcases hO with rfl | rfl
    · exact rep_bsV hrep
    · exact hrep))
  refine ⟨_, _, hx.mono h.floor, rfl, this, ?_⟩
  have hnx := h.next
  simp only [Ctx.newRow, Ctx.newTip]
  rw [← hnx]
  exact hK

theorem post_append (h : Rel P N c s a w) {dst : Option Nat} (hd : ∀ d, dst = some d → d < N) {t ty e : TypeId} {i : TypeInfo} {z : Value} (ht : P.underlying t = some (.slice e)) (hi : P.info? e = some i) (hz : i.zero = some z) (hzs : z.cells.size = i.size)
    {v v2 : Value} {els els2 : List (List Value)} {tp' : List (Nat × TypeId)} (htp : tp'.Sublist s.tips) (hv : RepSl P c w e els v) (hown : OwnOK P c s.boxes tp' w e v) (hv2 : RepSl P c w e els2 v2)
    (hb : (els.length + els2.length) * i.bytes ≤ 140737488355328) (h63 : els.length + els2.length ≤ maxLen) {K : State → Prop} (hK : K ({ s with tips := (s.next, e) :: tp', next := s.next + 1 }.put dst (.sl e (els ++ els2) (some s.next)))) :
    ∃ v' w', (Builtin.append_ #[t, t] ty #[v, v2]).run P w = .ok v' w' ∧ Post P N c w K (a.put dst v') w' := by
  have hm := h.mem.forget (List.Sublist.refl _) htp
  obtain ⟨v', c', w', g1, g2, g3, g4, g5, g6, g7⟩ := hm.append (ty := ty) ht hi hz hzs hv hown hv2 hb h63
  refine ⟨v', w', g1, c', _, g2.mono h.floor, g4, h.put (dst := dst) hd g2 (by omega) g4 g7 (fun _ => (by simp only [Rep]; exact ⟨g5, fun id hid => by simp only [Option.some.injEq] at hid; subst hid; exact ⟨by omega, g6⟩⟩ : Rep P c' w' (.sl e (els ++ els2) (some c.next)) v')), ?_⟩
  rw [g3, ← h.next]
  exact hK

theorem els_nil (e : TypeId) : RepSl P c w e [] (.slice none 0 0) := ⟨none, 0, rfl, Nat.le_refl _, (fun _ hx => by cases hx), .inl rfl⟩

theorem run_callOp (g : FuncId) (he : Enters P g) {cl : Call} {f : Operand} (hf : cl.callee = .value f) {first cap : Array Value} (hv : a.eval f = .func (.func g) first cap) (ty : TypeId) :
    (do let d ← resolve a.eval cl ty; invoke d.target d.args : Sem Next).run P w = .ok (.enter g (first ++ cl.args.map a.eval ++ cap)) w := by
  simp [resolve, hf, hv, Deferred.ofValue, invoke]
  exact he _ _

theorem bytesWorld_eq (w : World) (e : TypeId) (b : ByteArray) : ∃ o, Lib.bytesWorld w e b = w.drew.alloc o ∧ o = .cells (Lib.bytesCells w e b) e ((Lib.bytesCells w e b).size, (Lib.bytesCells w e b).size + 1) := by
  refine ⟨_, ?_, rfl⟩
  unfold Lib.bytesWorld World.freeze
  rw [if_neg (by decide)]
  simp only [World.alloc, World.drew]
  congr 1
  apply Array.ext_getElem?
  intro i
  rw [Array.getElem?_modify]
  simp only [Array.getElem?_push]
  by_cases hi : w.heap.size = i
  · subst hi; simp
  · simp [hi, Ne.symm hi]

theorem strB_flat (b : ByteArray) : (strB b).flatten = b.data.toList.map fun x => Value.int .u8 x.toNat := by
  unfold strB
  induction b.data.toList with
  | nil => rfl
  | cons a l ih => rw [List.map_cons, List.flatten_cons, ih]; rfl

theorem post_bytes (h : Rel P N c s a w) {dst : Option Nat} (hd : ∀ d, dst = some d → d < N) {e : TypeId} {b : ByteArray} (he : P.cellsOf e = 1) {K : State → Prop}
    (hK : K (Upd.ap ⟨some (.sl e (strB b) none), s.boxes, s.tips, s.next⟩ dst s)) : Post P N c w K (a.put dst (.slice (some ⟨w.heap.size, 0, none⟩) b.size (grownCap w b.size 0 e))) (Lib.bytesWorld w e b) := by
  obtain ⟨o, ho, ho2⟩ := bytesWorld_eq w e b
  rw [ho]
  have hfl := strB_flat b
  have hlen : (strB b).length = b.size := by unfold strB; rw [List.length_map, Array.length_toList]; rfl
  have hx0 := Ext.addProt c w.drew o w.drew.heap.size b.size
  have hx := (Ext.drew c.next c w).trans hx0
  have hrep : Rep P (c.addProt w.drew.heap.size b.size) (w.drew.alloc o) (.sl e (strB b) none) (.slice (some ⟨w.heap.size, 0, none⟩) b.size (grownCap w b.size 0 e)) := by
    simp only [Rep]
    refine ⟨⟨_, _, by rw [hlen], by rw [hlen]; exact grownCap_ge w _ _ _, ?_, .inr ⟨w.heap.size, 0, rfl, ?_⟩⟩, fun id hid => by cases hid⟩
    · intro x hx
      obtain ⟨u, _, rfl⟩ := List.mem_map.1 hx
      exact ⟨by rw [he]; rfl, fun v hv => by simp at hv; subst hv; rfl⟩
    · have hl : (strB b).flatten.length = b.size := by rw [hfl, List.length_map, Array.length_toList]; rfl
      refine reads_row (cur := Lib.bytesCells w e b) (by rw [← ho2]; exact heap_alloc_new w.drew o) (fun j hj => .inr ⟨rfl, by rw [hl] at hj; exact hj⟩) ?_
      rw [hfl]
      unfold Lib.bytesCells
      rw [Array.toList_append, List.take_left' (by simp)]
      simp
  have := h.put (dst := dst) hd hx (Nat.le_refl _) rfl (h.mem.drew.addProt _ _) (fun _ => hrep)
  refine ⟨_, _, hx.mono h.floor, rfl, this, ?_⟩
  have hnx := h.next
  simp only [Ctx.addProt]
  simp only [Upd.ap] at hK
  rw [← hnx]
  exact hK

theorem astep_sound (h : Rel P N c s a w) {o : Oper} {ao : AOp} (hc : cOp P o.op = some ao) (hd : ∀ d, o.dst = some d → d < N) {K : State → Prop} (hK : astep P o.dst ao s K) (Q : Exit → Act → World → Prop) : o.wpIn (fen c.floor.round) 0 P a w (Post P N c w K) Q := by
  obtain ⟨dst, op, type, pos, after, guard⟩ := o
  simp only at hc hd hK
  have value : (match vop s ao with | some av => K (s.put dst av) | none => False) → Oper.wpIn (fen c.floor.round) 0 P ⟨dst, op, type, pos, after, guard⟩ a w (Post P N c w K) Q := fun hK => by
    split at hK
    · rename_i av hv
      exact step_value (o := ⟨dst, op, type, pos, after, guard⟩) h hc hd hv hK Q
    · exact hK.elim
  cases op with
  | alloc e =>
    simp only [cOp] at hc
    split at hc
    · rename_i i hi
      split at hc
      · rename_i z hz
        split at hc
        · simp only [Option.some.injEq] at hc; subst hc
          simp only [astep, State.evs, XE.eff, XE.eff2, alcTE] at hK
          have hrun : (execOp a.eval ⟨dst, .alloc e, type, pos, after, guard⟩).run P w = .ok (.value (.pointer (some ⟨w.heap.size, 0, none⟩))) (w.alloc (.cells z.cells e (0, 0))) := by
            simp [execOp, Instr.alloc, zeroValue, typeInfo, hi, hz, newVar, newRow]
          refine wpIn_of (by intro _ hh; cases hh) (hrun) ?_
          exact post_ob h hd (k := .var e z.cells.toList.length) (cells := z.cells.toList.map .lit) ⟨z.cells, rfl, ⟨_, heap_alloc_new w _⟩, by simp⟩ (.inl ⟨z.cells, e, rfl, by rw [List.take_of_length_le (by simp)]; exact RepL.lits _⟩) hK
        · simp only [Option.some.injEq] at hc; subst hc
          simp only [astep] at hK
          split at hK
          rotate_left
          · exact hK.elim
          · have hrun : (execOp a.eval ⟨dst, .alloc e, type, pos, after, guard⟩).run P w = .ok (.value (.pointer (some ⟨w.heap.size, 0, none⟩))) (w.alloc (.cells z.cells e (0, 0))) := by
              simp [execOp, Instr.alloc, zeroValue, typeInfo, hi, hz, newVar, newRow]
            refine wpIn_of (by intro _ hh; cases hh) (hrun) ?_
            exact post_box h hd e (RepL.lits _) hK
      · cases hc
    · cases hc
  | box e x =>
    simp only [cOp] at hc
    cases hx : cX x with
    | none => rw [hx] at hc; cases hc
    | some x' =>
      rw [hx] at hc
      simp only [Option.map_some, Option.some.injEq] at hc; subst hc
      simp only [astep] at hK
      split at hK
      · rename_i av hav
        split at hK
        · have h1 := ev_sound h hx hav
          have hrun : (execOp a.eval ⟨dst, .box e x, type, pos, after, guard⟩).run P w = .ok (.value (.pointer (some ⟨w.heap.size, 0, none⟩))) (w.alloc (.cells (a.eval x).cells e (0, 0))) := by
            simp [execOp, Instr.box, newVar, newRow]
          refine wpIn_of (by intro _ hh; cases hh) (hrun) ?_
          exact post_box h hd e h1.cells hK
        · exact hK.elim
      · exact hK.elim
  | store t x y =>
    simp only [cOp] at hc
    split at hc
    · rename_i i x' y' hi hx hy
      simp only [Option.some.injEq] at hc; subst hc
      simp only [astep] at hK
      split at hK
      · rename_i id off av hp hq
        split at hK
        · rename_i cells hb
          split at hK
          · rename_i hcond
            obtain ⟨h1, h2, h3⟩ := hcond
            obtain ⟨w1, g1, g2, g3⟩ := store_sound h hi rfl (ev_sound h hx hp) (ev_sound h hy hq) hb h1 h2 h3
            have hrun : (execOp a.eval ⟨dst, .store t x y, type, pos, after, guard⟩).run P w = .ok .skip w1 := by
              simp [execOp, g1]
            refine wpIn_of (by intro _ hh; cases hh) hrun ?_
            have hr := h.put (dst := none) (av := .lit undef) (v := undef) (fun _ hh => by cases hh) g2 (Nat.le_refl _) rfl g3 (fun hh => (hh rfl).elim)
            have hr2 := hr.del dst undef
            refine ⟨c, _, g2.mono h.floor, rfl, hr2, ?_⟩
            have hnx := h.next
            simp only [State.put]
            rw [← hnx]
            exact hK
          · exact hK.elim
        · exact hK.elim
      · exact hK.elim
    · cases hc
  | buildSlice t n parts =>
    simp only [cOp] at hc
    split at hc
    · rename_i e hu
      split at hc
      · rename_i i hi
        split at hc
        · rename_i z xs hz hxs
          split at hc
          · rename_i hcond
            obtain ⟨h1, _, h3, h4⟩ := hcond
            split at hc
            · rename_i hsl
              simp only [Option.some.injEq] at hc; subst hc
              simp only [astep] at hK
              split at hK
              · rename_i avs havs
                split at hK
                · rename_i u hue
                  simp only [XE.eff] at hue
                  split at hue
                  · rename_i hone
                    simp only [Option.some.injEq] at hue; subst hue
                    obtain ⟨cur, g1, g2, g3⟩ := step_buildNest h hu hi hz hxs h1 hsl.2 h4 havs hone
                    have hrun : (execOp a.eval ⟨dst, .buildSlice t n parts, type, pos, after, guard⟩).run P w = .ok (.value (.slice (some ⟨w.heap.size, 0, none⟩) n n)) (w.alloc (.cells cur e (0, 0))) := by
                      simp [execOp, g1]
                    exact wpIn_of (by intro _ hh; cases hh) hrun (post_nest h hd (by rw [cellsOf_eq hi]; exact hsl.2) g3 g2 hK)
                  · cases hue
                · exact hK.elim
              · exact hK.elim
            simp only [Option.some.injEq] at hc; subst hc
            simp only [astep] at hK
            split at hK
            · rename_i avs havs
              split at hK
              · rename_i els hels
                split at hK
                · rename_i hcnd
                  simp only [Bool.and_eq_true] at hcnd
                  obtain ⟨cur, g1, g2, g3, g4⟩ := step_buildSlice h hu hi hz hxs h1 h3 h4 havs hels hcnd.1 hcnd.2
                  have hrun : (execOp a.eval ⟨dst, .buildSlice t n parts, type, pos, after, guard⟩).run P w = .ok (.value (.slice (some ⟨w.heap.size, 0, none⟩) n n)) (w.alloc (.cells cur e (0, 0))) := by
                    simp [execOp, g1]
                  refine wpIn_of (by intro _ hh; cases hh) (hrun) ?_
                  exact post_row h hd g3 g4 g2 (by have : n ≤ n * i.size := Nat.le_mul_of_pos_right _ h3; simp only [maxLen]; omega) hK
                · exact hK.elim
              · exact hK.elim
            · exact hK.elim
          · cases hc
        · cases hc
      · cases hc
    · cases hc
  | call cl =>
    obtain ⟨callee, args, argTypes⟩ := cl
    have hc' := hc
    simp only [cOp] at hc
    split at hc
    · rename_i x t hargs htys
      split at hc
      · simp only [Option.some.injEq] at hc; subst hc; exact value hK
      · simp only [Option.some.injEq] at hc; subst hc; exact value hK
      · simp only [Option.some.injEq] at hc; subst hc; exact value hK
      · simp only [Option.some.injEq] at hc; subst hc; exact value hK
      · cases hc
    · split at hc
      · simp only [Option.some.injEq] at hc; subst hc; exact value hK
      · cases hc
    · split at hc
      · simp only [Option.some.injEq] at hc; subst hc; exact value hK
      · cases hc
    · split at hc
      · simp only [Option.some.injEq] at hc; subst hc; exact value hK
      · cases hc
    · rename_i x y t t' hargs htys
      have hA : args = #[x, y] := by apply Array.toList_inj.1; simpa using hargs
      have hT : argTypes = #[t, t'] := by apply Array.toList_inj.1; simpa using htys
      subst hA; subst hT
      split at hc
      · rename_i e x' y' hu hx hy
        split at hc
        · rename_i i hi
          split at hc
          · rename_i z hz
            split at hc
            · rename_i hcond
              simp only [Bool.and_eq_true, beq_iff_eq] at hcond
              obtain ⟨rfl, hzs⟩ := hcond
              simp only [Option.some.injEq] at hc; subst hc
              simp only [astep] at hK
              have hrun : ∀ v' w', (Builtin.append_ #[t, t] type #[a.eval x, a.eval y]).run P w = .ok v' w' → (execOp a.eval ⟨dst, .call ⟨.builtin .append, #[x, y], #[t, t]⟩, type, pos, after, guard⟩).run P w = .ok (.value v') w' := fun v' w' hr => by
                simp [execOp, resolve, invoke, builtin, hr]
              split at hK
              · rename_i xv yv hp hq
                have h1 := ev_sound h hx hp
                have h2 := ev_sound h hy hq
                split at hK
                · split at hK
                  · rename_i r hra
                    obtain ⟨hb, hl, hK⟩ := hK
                    obtain ⟨v', c', w1, g1, g2, g3, g4, g5, g6⟩ := rowApp_sound (ty := type) h.mem hu hi hz hzs h1 h2 hra hb (by simp only [maxLen]; omega)
                    refine wpIn_of (by intro _ hh; cases hh) (hrun _ _ g1) ?_
                    refine ⟨c', _, g2.mono h.floor, g4, h.put (dst := dst) hd g2 (by omega) g4 g5 (fun _ => g6), ?_⟩
                    rw [g3, ← h.next]
                    exact hK
                  · exact hK.elim
                rename_i hnr
                clear hnr
                have src : ∀ els2, elsOf yv = some els2 → srcE e yv → RepSl P c w e els2 (a.eval y) := fun els2 he hm => by
                  unfold elsOf at he
                  split at he
                  · rename_i e' els' tip
                    simp only [Option.some.injEq] at he; subst he
                    simp only [srcE] at hm; subst hm
                    simp only [Rep] at h2
                    exact h2.1
                  · simp only [Option.some.injEq] at he; subst he
                    simp only [Rep] at h2
                    rw [h2]; exact els_nil e
                  · cases he
                split at hK
                · rename_i els2 hels2
                  split at hK
                  · obtain ⟨hb, hl, hm, hK⟩ := hK
                    simp only [Rep] at h1
                    obtain ⟨v', w1, g1, g2⟩ := post_append (ty := type) h hd hu hi hz hzs (List.Sublist.refl _) (els_nil e) own_nil (src els2 hels2 hm) (by simpa using hb) (by simp only [List.length_nil, maxLen]; omega) (by simpa using hK)
                    rw [← h1] at g1
                    refine wpIn_of (by intro _ hh; cases hh) (hrun _ _ g1) ?_
                    exact g2
                  · rename_i e' els id
                    split at hK
                    · rename_i hcnd
                      obtain ⟨rfl, ht⟩ := hcnd
                      obtain ⟨hb, hl, hm, hK⟩ := hK
                      simp only [Rep] at h1
                      obtain ⟨hsl, htip⟩ := h1
                      have hown := h.mem.own (hasTip_mem ht)
                      rw [(htip id rfl).2] at hown
                      obtain ⟨v', w1, g1, g2⟩ := post_append (ty := type) h hd hu hi hz hzs (dropTip_sub _ _) hsl hown (src els2 hels2 hm) hb (by simp only [maxLen]; omega) hK
                      refine wpIn_of (by intro _ hh; cases hh) (hrun _ _ g1) ?_
                      exact g2
                    · exact hK.elim
                  · exact hK.elim
                · exact hK.elim
              · exact hK.elim
            · split at hc
              · rename_i hcond
                obtain ⟨ht', hzs, hpos⟩ := hcond
                simp only [Option.some.injEq] at hc; subst hc
                simp only [astep] at hK
                split at hK
                · rename_i avs havs
                  split at hK
                  · rename_i u hue
                    obtain ⟨lv, kv, e1, e2, rfl⟩ := evs_two havs
                    obtain ⟨v, r, cells, w', c', g1, rfl, g2, g3, g4, g5, g6⟩ := apz_sound (ty := type) hu ht' hi hz hzs hpos h.mem h.next.symm (ev_sound h hx e1) (ev_sound h hy e2) hue
                    have hrun : (execOp a.eval ⟨dst, .call ⟨.builtin .append, #[x, y], #[t, t']⟩, type, pos, after, guard⟩).run P w = .ok (.value v) w' := by
                      simp [execOp, resolve, invoke, builtin, g1]
                    refine wpIn_of (by intro _ hh; cases hh) hrun ?_
                    have hh := h.put (dst := dst) hd g2 (by omega) g4 g5 (fun _ => g6)
                    refine ⟨c', _, g2.mono h.floor, g4, hh, ?_⟩
                    simp only [Upd.ap] at hK
                    rw [g3, ← h.next]
                    exact hK
                  · exact hK.elim
                · exact hK.elim
              · cases hc
          · cases hc
        · cases hc
      · cases hc
    · rename_i f
      split at hc
      · rename_i f' as' hf has
        simp only [Option.some.injEq] at hc; subst hc
        simp only [astep] at hK
        split at hK
        · rename_i g first cap avs hp hq
          have h1 := ev_sound h hf hp
          have h2 := evs_sound h has hq
          simp only [Rep] at h1
          obtain ⟨a1, a2, g1, g2, g3⟩ := h1
          have hrun : (execOp a.eval ⟨dst, .call ⟨.value f, args, argTypes⟩, type, pos, after, guard⟩).run P w = .ok (.enter g (a1 ++ args.map a.eval ++ a2)) w := by
            have := run_callOp (a := a) (w := w) g hK.1 (cl := ⟨.value f, args, argTypes⟩) rfl g1 type
            simpa [execOp] using this
          refine wpIn_of (by intro _ hh; cases hh) hrun ⟨depth_any _ _, callsIn_wide.2 ?_⟩
          have hargs : RepL P c w (first ++ avs ++ cap) (a1 ++ args.map a.eval ++ a2).toList := by
            simp only [Array.toList_append, Array.toList_map]
            exact (g2.append h2).append g3
          refine (hK.2 c w _ h.mem h.next.symm hargs).mono ?_
          rintro e w1 ⟨v, c', r, bx', tp', rfl, k1, k2, k3, k4, k5, k6⟩
          exact ⟨c', _, k1.mono h.floor, k3, h.put (dst := dst) hd k1 k2 k3 k4 (fun _ => k5), k6⟩
        · rename_i id avs hp hq
          have h1 := ev_sound h hf hp
          have h2 := evs_sound h has hq
          simp only [Rep, RefOK, refV] at h1
          obtain ⟨f0, tmps, assign, body, g1, g2⟩ := hK c w (args.map a.eval) h.mem h.next.symm (by simpa using h2)
          have hrun : (execOp a.eval ⟨dst, .call ⟨.value f, args, argTypes⟩, type, pos, after, guard⟩).run P w = .ok (.round (c.β id) f0 tmps assign body) w := by
            have := run_yieldOp (P := P) (a := a) (w := w) (cl := ⟨.value f, args, argTypes⟩) rfl h1.2 type
            rw [g1] at this
            simpa [execOp] using this
          refine wpIn_of (by intro _ hh; cases hh) hrun ⟨depth_any _ _, RoundIn.mono g2 ?_⟩
          rintro e w1 ⟨v, c', r, bx', tp', rfl, k1, k2, k3, k4, k5, k6⟩
          exact ⟨c', _, k1.mono h.floor, k3, h.put (dst := dst) hd k1 k2 k3 k4 (fun _ => k5), k6⟩
        · rename_i m fs fc t rv avs hp hq
          have h1 := ev_sound h hf hp
          have h2 := evs_sound h has hq
          simp only [Rep] at h1
          obtain ⟨rfl, g, hm, hK⟩ := hK
          obtain ⟨x, vs', e1, h3⟩ := method_rep h2
          have hargs : args.map a.eval = #[.iface t x] ++ vs'.toArray := by
            apply Array.toList_inj.1
            rw [Array.toList_map, e1]; simp
          have hrun : (execOp a.eval ⟨dst, .call ⟨.value f, args, argTypes⟩, type, pos, after, guard⟩).run P w = .ok (.enter g (#[x] ++ vs'.toArray)) w := by
            have hx := invoke_method (w := w) hm hK.1 x vs'.toArray fc
            simp only [execOp, resolve, h1, Deferred.ofValue, hargs, Sem.run_bind, Sem.run_pure, Result.andThen_ok]
            simpa using hx
          refine wpIn_of (by intro _ hh; cases hh) hrun ⟨depth_any _ _, callsIn_wide.2 ?_⟩
          refine (hK.2 c w _ h.mem h.next.symm (by simpa using h3)).mono ?_
          rintro e w1 ⟨v, c', r, bx', tp', rfl, k1, k2, k3, k4, k5, k6⟩
          exact ⟨c', _, k1.mono h.floor, k3, h.put (dst := dst) hd k1 k2 k3 k4 (fun _ => k5), k6⟩
        · exact hK.elim
      · cases hc
    · rename_i rcv mth
      split at hc
      · rename_i r' as' hr has
        simp only [Option.some.injEq] at hc; subst hc
        simp only [astep, State.ev] at hK
        split at hK
        · rename_i hp _; simp at hp
        · rename_i hp _; simp at hp
        · rename_i m fs fc t rv avs hp hq
          simp only [Option.some.injEq, AV.lit.injEq, Value.func.injEq, Fn.method.injEq] at hp
          obtain ⟨rfl, rfl, rfl⟩ := hp
          obtain ⟨_, g, hm, hK⟩ := hK
          simp only [State.evs] at hq
          split at hq
          · rename_i y ys hy hys
            simp only [Option.some.injEq] at hq
            have h2 : RepL P c w (y :: ys) (a.eval rcv :: (args.map a.eval).toList) := by
              simp only [RepL]
              exact ⟨_, _, rfl, ev_sound h hr hy, by rw [Array.toList_map]; exact evs_sound h has hys⟩
            rw [hq] at h2
            obtain ⟨x, vs', e1, h3⟩ := method_rep h2
            simp only [List.cons.injEq] at e1
            obtain ⟨e1, e2⟩ := e1
            have hx := invoke_method (w := w) hm hK.1 x (args.map a.eval) #[]
            have hrun : (execOp a.eval ⟨dst, .call ⟨.invoke rcv mth, args, argTypes⟩, type, pos, after, guard⟩).run P w = .ok (.enter g (#[x] ++ args.map a.eval)) w := by
              simp only [execOp, resolve, e1, Sem.run_bind, Sem.run_pure, Result.andThen_ok]
              exact hx
            refine wpIn_of (by intro _ hh; cases hh) hrun ⟨depth_any _ _, callsIn_wide.2 ?_⟩
            refine (hK.2 c w _ h.mem h.next.symm (by rw [← e2] at h3; simpa using h3)).mono ?_
            rintro e w1 ⟨v, c', r, bx', tp', rfl, k1, k2, k3, k4, k5, k6⟩
            exact ⟨c', _, k1.mono h.floor, k3, h.put (dst := dst) hd k1 k2 k3 k4 (fun _ => k5), k6⟩
          · cases hq
        · exact hK.elim
      · cases hc
    · cases hc
  | lookup t x i ok =>
    simp only [cOp] at hc
    split at hc
    · split at hc
      · split at hc
        · rename_i ie _
          cases hz : ie.zero with
          | none => rw [hz] at hc; cases hc
          | some z => rw [hz] at hc; simp only [Option.map_some, Option.some.injEq] at hc; subst hc; exact value hK
        · cases hc
      · split at hc
        · rename_i ks ie hks hie
          cases hz : ie.zero with
          | none => rw [hz] at hc; cases hc
          | some z => rw [hz] at hc; simp only [Option.map_some, Option.some.injEq] at hc; subst hc; exact value hK
        · cases hc
    · cases hc
  | entry x => simp only [cOp] at hc; cases hx : cX x with
    | none => rw [hx] at hc; cases hc
    | some x' => rw [hx] at hc; simp only [Option.map_some, Option.some.injEq] at hc; subst hc; exact value hK
  | makeMap t r =>
    cases r with
    | some r => simp [cOp] at hc
    | none =>
      simp only [cOp, Option.some.injEq] at hc; subst hc
      simp only [astep, State.evs] at hK
      split at hK
      · rename_i u hu
        obtain ⟨o, cells, g1, rfl, g2⟩ := mkm_sound (P := P) (c := c) (w := w) (t := t) hu
        have hrun : (execOp a.eval ⟨dst, .makeMap t none, type, pos, after, guard⟩).run P w = .ok (.value (.map (some w.heap.size))) (w.alloc o) := by simp [execOp, g1]
        exact wpIn_of (by intro _ hh; cases hh) hrun (post_ob h hd (k := .map) rfl g2 hK)
      · exact hK.elim
  | makeSlice t l k =>
    simp only [cOp] at hc
    split at hc
    · rename_i e l' k' hu hl hk
      split at hc
      · rename_i i hi
        split at hc
        · rename_i z hz
          split at hc
          · rename_i hcond
            simp only [Option.some.injEq] at hc; subst hc
            simp only [astep] at hK
            split at hK
            · rename_i avs havs
              split at hK
              · rename_i u hue
                obtain ⟨lv, kv, e1, e2, rfl⟩ := evs_two havs
                obtain ⟨r, v, o, cells, g1, rfl, g2, g3⟩ := mks_sound (c := c) (w := w) hu hi hz hcond.1 hcond.2 (ev_sound h hl e1) (ev_sound h hk e2) hue
                have hrun : (execOp a.eval ⟨dst, .makeSlice t l k, type, pos, after, guard⟩).run P w = .ok (.value v) (w.alloc o) := by simp [execOp, g1]
                exact wpIn_of (by intro _ hh; cases hh) hrun (post_ob h hd (k := r) g2 g3 hK)
              · exact hK.elim
            · exact hK.elim
          · cases hc
        · cases hc
      · cases hc
    · cases hc
  | mapUpdate t m k x =>
    simp only [cOp] at hc
    split at hc
    · rename_i kt et m' k' x' hu hm hk hx
      split at hc
      · rename_i hi
        simp only [Option.some.injEq] at hc; subst hc
        simp only [astep] at hK
        split at hK
        · rename_i avs havs
          split at hK
          · rename_i u hue
            obtain ⟨mv, kv, xv, e1, e2, e3, rfl⟩ := evs_three havs
            obtain ⟨w', g1, g2, g3, g4, g5, g6⟩ := mup_sound h hu hi (ev_sound h hm e1) (ev_sound h hk e2) (ev_sound h hx e3) hue
            have hrun : (execOp a.eval ⟨dst, .mapUpdate t m k x, type, pos, after, guard⟩).run P w = .ok .skip w' := by simp [execOp, g1]
            exact wpIn_of (by intro _ hh; cases hh) hrun (post_upd h g2 g3 g4 g5 g6 hK)
          · exact hK.elim
        · exact hK.elim
      · cases hks : keyKs P kt with
        | none => rw [hks] at hc; cases hc
        | some ks =>
          rw [hks] at hc
          simp only [Option.map_some, Option.some.injEq] at hc; subst hc
          simp only [astep] at hK
          split at hK
          · rename_i avs havs
            split at hK
            · rename_i u hue
              obtain ⟨mv, kv, xv, e1, e2, e3, rfl⟩ := evs_three havs
              obtain ⟨w', g1, g2, g3, g4, g5, g6⟩ := mupS_sound h hu hks (ev_sound h hm e1) (ev_sound h hk e2) (ev_sound h hx e3) hue
              have hrun : (execOp a.eval ⟨dst, .mapUpdate t m k x, type, pos, after, guard⟩).run P w = .ok .skip w' := by simp [execOp, g1]
              exact wpIn_of (by intro _ hh; cases hh) hrun (post_upd h g2 g3 g4 g5 g6 hK)
            · exact hK.elim
          · exact hK.elim
    · cases hc
  | insert t m k x =>
    simp only [cOp] at hc
    split at hc
    · rename_i kt et m' k' x' hu hm hk hx
      split at hc
      · rename_i hi
        simp only [Option.some.injEq] at hc; subst hc
        simp only [astep] at hK
        split at hK
        · rename_i avs havs
          split at hK
          · rename_i u hue
            obtain ⟨mv, kv, xv, e1, e2, e3, rfl⟩ := evs_three havs
            obtain ⟨w', g1, g2, g3, g4, g5, g6⟩ := mup_sound h hu hi (ev_sound h hm e1) (ev_sound h hk e2) (ev_sound h hx e3) hue
            have hrun : (execOp a.eval ⟨dst, .insert t m k x, type, pos, after, guard⟩).run P w = .ok .skip w' := by simp [execOp, g1]
            exact wpIn_of (by intro _ hh; cases hh) hrun (post_upd h g2 g3 g4 g5 g6 hK)
          · exact hK.elim
        · exact hK.elim
      · cases hks : keyKs P kt with
        | none => rw [hks] at hc; cases hc
        | some ks =>
          rw [hks] at hc
          simp only [Option.map_some, Option.some.injEq] at hc; subst hc
          simp only [astep] at hK
          split at hK
          · rename_i avs havs
            split at hK
            · rename_i u hue
              obtain ⟨mv, kv, xv, e1, e2, e3, rfl⟩ := evs_three havs
              obtain ⟨w', g1, g2, g3, g4, g5, g6⟩ := mupS_sound h hu hks (ev_sound h hm e1) (ev_sound h hk e2) (ev_sound h hx e3) hue
              have hrun : (execOp a.eval ⟨dst, .insert t m k x, type, pos, after, guard⟩).run P w = .ok .skip w' := by simp [execOp, g1]
              exact wpIn_of (by intro _ hh; cases hh) hrun (post_upd h g2 g3 g4 g5 g6 hK)
            · exact hK.elim
          · exact hK.elim
    · cases hc
  | mapEntry t m k =>
    simp only [cOp] at hc
    split at hc
    · rename_i kt et m' k' hu hm hk
      split at hc
      · rename_i ks ie hks hie
        cases hz : ie.zero with
        | none => rw [hz] at hc; cases hc
        | some z =>
          rw [hz] at hc
          simp only [Option.map_some, Option.some.injEq] at hc; subst hc
          simp only [astep] at hK
          split at hK
          · rename_i avs havs
            split at hK
            · rename_i u hue
              obtain ⟨mv, kv, e1, e2, rfl⟩ := evs_two havs
              obtain ⟨w', v, x, y, g1, g2, rfl, g3, g4, g5, g6⟩ := mentS_sound h hu hks hie hz (ev_sound h hm e1) (ev_sound h hk e2) hue
              have hrun : (execOp a.eval ⟨dst, .mapEntry t m k, type, pos, after, guard⟩).run P w = .ok (.value (.tuple #[x, y])) w' := by simp [execOp, g1]
              exact wpIn_of (by intro _ hh; cases hh) hrun (post_updV h hd g2 g3 g4 g5 g6 hK)
            · exact hK.elim
          · exact hK.elim
      · cases hc
    · cases hc
  | entryStore t m k x =>
    simp only [cOp] at hc
    split at hc
    · rename_i m' k' x' hm hk hx
      simp only [Option.some.injEq] at hc; subst hc
      simp only [astep] at hK
      split at hK
      · rename_i avs havs
        split at hK
        · rename_i u hue
          obtain ⟨mv, kv, xv, e1, e2, e3, rfl⟩ := evs_three havs
          obtain ⟨w', g1, g2, g3, g4, g5, g6⟩ := ests_sound (t := t) h (ev_sound h hm e1) (ev_sound h hk e2) (ev_sound h hx e3) hue
          have hrun : (execOp a.eval ⟨dst, .entryStore t m k x, type, pos, after, guard⟩).run P w = .ok .skip w' := by simp [execOp, g1]
          exact wpIn_of (by intro _ hh; cases hh) hrun (post_upd h g2 g3 g4 g5 g6 hK)
        · exact hK.elim
      · exact hK.elim
    · cases hc
  | range t x =>
    simp only [cOp] at hc
    split at hc
    · rename_i kt et x' hu hx
      simp only [Option.some.injEq] at hc; subst hc
      simp only [astep] at hK
      split at hK
      · rename_i avs havs
        split at hK
        · rename_i u hue
          obtain ⟨xv, e1, rfl⟩ := evs_one havs
          obtain ⟨o, cells, g1, rfl, g2⟩ := rngM_sound h hu (ev_sound h hx e1) hue
          have hrun : (execOp a.eval ⟨dst, .range t x, type, pos, after, guard⟩).run P w = .ok (.value (.pointer (some ⟨w.heap.size, 0, none⟩))) (w.alloc o) := by simp [execOp, g1]
          exact wpIn_of (by intro _ hh; cases hh) hrun (post_ob h hd (k := .iter) rfl g2 hK)
        · exact hK.elim
      · exact hK.elim
    · rename_i x' hu hx
      simp only [Option.some.injEq] at hc; subst hc
      simp only [astep] at hK
      split at hK
      · rename_i avs havs
        split at hK
        · rename_i u hue
          obtain ⟨xv, e1, rfl⟩ := evs_one havs
          obtain ⟨o, cells, g1, rfl, g2⟩ := rngS_sound hu (ev_sound h hx e1) hue
          have hrun : (execOp a.eval ⟨dst, .range t x, type, pos, after, guard⟩).run P w = .ok (.value (.pointer (some ⟨w.heap.size, 0, none⟩))) (w.alloc o) := by simp [execOp, g1]
          exact wpIn_of (by intro _ hh; cases hh) hrun (post_ob h hd (k := .iter) rfl g2 hK)
        · exact hK.elim
      · exact hK.elim
    · cases hc
  | next x b =>
    simp only [cOp] at hc; cases hx : cX x with
    | none => rw [hx] at hc; cases hc
    | some x' =>
      rw [hx] at hc; simp only [Option.map_some, Option.some.injEq] at hc; subst hc
      simp only [astep] at hK
      split at hK
      · rename_i it hit
        obtain ⟨v, w', g1, s', g2, g3, g4⟩ := next_sound (ty := type) h (ev_sound h hx hit) hd hK
        have hrun : (execOp a.eval ⟨dst, .next x b, type, pos, after, guard⟩).run P w = .ok (.value v) w' := by simp [execOp, g1]
        exact wpIn_of (by intro _ hh; cases hh) hrun ⟨c, s', g2.mono h.floor, rfl, g3, g4⟩
      · exact hK.elim
  | move x => simp only [cOp] at hc; cases hx : cX x with
    | none => rw [hx] at hc; cases hc
    | some x' => rw [hx] at hc; simp only [Option.map_some, Option.some.injEq] at hc; subst hc; exact value hK
  | assign x => simp only [cOp] at hc; cases hx : cX x with
    | none => rw [hx] at hc; cases hc
    | some x' => rw [hx] at hc; simp only [Option.map_some, Option.some.injEq] at hc; subst hc; exact value hK
  | extract x i =>
    simp only [cOp] at hc; cases hx : cX x with
    | none => rw [hx] at hc; cases hc
    | some x' => rw [hx] at hc; simp only [Option.map_some, Option.some.injEq] at hc; subst hc; exact value hK
  | unOp uop t x =>
    cases uop <;> simp only [cOp] at hc <;> try cases hc
    cases hx : cX x with
    | none => rw [hx] at hc; cases hc
    | some x' => rw [hx] at hc; simp only [Option.map_some, Option.some.injEq] at hc; subst hc; exact value hK
  | build t parts =>
    simp only [cOp] at hc
    split at hc
    · rename_i zero places hpl
      cases hx : cParts places parts.toList with
      | none => rw [hx] at hc; cases hc
      | some x' => rw [hx] at hc; simp only [Option.map_some, Option.some.injEq] at hc; subst hc; exact value hK
    · cases hc
  | slice t x lo hi mx =>
    cases mx with
    | some m => simp [cOp] at hc
    | none =>
      simp only [cOp] at hc
      repeat' split at hc
      all_goals first
        | (cases hc; done)
        | (simp only [Option.some.injEq] at hc; subst hc; exact value hK)
  | nilCheck x =>
    simp only [cOp] at hc
    cases hx : cX x with
    | none => rw [hx] at hc; cases hc
    | some x' =>
      rw [hx] at hc
      simp only [Option.map_some, Option.some.injEq] at hc; subst hc; exact value hK
  | convert src dst2 x =>
    simp only [cOp] at hc
    split at hc
    · simp only [Option.some.injEq] at hc; subst hc; exact value hK
    · simp only [Option.some.injEq] at hc; subst hc; exact value hK
    · repeat' split at hc
      all_goals first
        | (cases hc; done)
        | (simp only [Option.some.injEq] at hc; subst hc; exact value hK)
    · rename_i e x' hs hd2 hx
      split at hc
      · rename_i i he hi
        split at hc
        · rename_i hsz
          simp only [Option.some.injEq] at hc; subst hc
          simp only [astep] at hK
          split at hK
          · rename_i avs havs
            split at hK
            · rename_i u hue
              simp only [State.evs] at havs
              split at havs
              · rename_i y ys hy hys
                simp only [Option.some.injEq] at havs hys; subst hys; subst havs
                simp only [XE.eff, XE.eff2] at hue
                unfold cvSBE at hue
                split at hue
                · rename_i b hl
                  simp only [List.cons.injEq, and_true] at hl; subst hl
                  simp only [Option.some.injEq] at hue; subst hue
                  have h1 := ev_sound h hx hy
                  simp only [Rep] at h1
                  have hrun : (execOp a.eval ⟨dst, .convert src dst2 x, type, pos, after, guard⟩).run P w = .ok (.value (.slice (some ⟨w.heap.size, 0, none⟩) b.size (grownCap w b.size 0 e))) (Lib.bytesWorld w e b) := by
                    simp [execOp, h1, Lib.run_convert_string_bytes w src dst2 e b hs hd2 he]
                  exact wpIn_of (by intro _ hh; cases hh) hrun (post_bytes h hd (by rw [cellsOf_eq hi]; exact hsz) hK)
                · cases hue
              · cases havs
            · exact hK.elim
          · exact hK.elim
        · cases hc
      · cases hc
    · cases hc
  | _ =>
    simp only [cOp] at hc
    repeat' split at hc
    all_goals first
      | (cases hc; done)
      | (simp only [Option.some.injEq] at hc; subst hc; exact value hK)
theorem cOp_bs {op : Op} {e n : Nat} {xs : List AX} (h : cOp P op = some (.bs e n xs)) : ∃ t k parts, op = .buildSlice t k parts := by
  cases op with
  | buildSlice t k parts => exact ⟨t, k, parts, rfl⟩
  | _ =>
    exfalso
    simp only [cOp] at h
    repeat' (first | contradiction | (cases h; done) | (simp only [Option.map_eq_some_iff] at h; obtain ⟨_, _, h⟩ := h; cases h; done) | split at h)

theorem post_row0 (h : Rel P N c s a w) {dst : Option Nat} (hd : ∀ d, dst = some d → d < N) {e : TypeId} {els : List (List Value)} {n : Nat} (hn : els.length = n) (hE : Els P e els) {cur : Array Value} (hcur : cur.toList = els.flatten) {K : State → Prop}
    (hK : K (s.put dst (.sl e els none))) : Post P N c w K (a.put dst (.slice (some ⟨w.heap.size, 0, none⟩) n n)) (w.alloc (.cells cur e (0, 0))) := by
  subst hn
  have hfl := hE.flatten_length
  have hx := Ext.addProt c w (.cells cur e (0, 0)) w.heap.size (els.length * P.cellsOf e)
  have hrep : Rep P (c.addProt w.heap.size (els.length * P.cellsOf e)) (w.alloc (.cells cur e (0, 0))) (.sl e els none) (.slice (some ⟨w.heap.size, 0, none⟩) els.length els.length) := by
    simp only [Rep]
    refine ⟨⟨some ⟨w.heap.size, 0, none⟩, els.length, rfl, Nat.le_refl _, hE, .inr ⟨w.heap.size, 0, rfl, ?_⟩⟩, fun id hid => by cases hid⟩
    refine reads_row (heap_alloc_new w _) (fun j hj => .inr ⟨rfl, by rw [← hfl]; exact hj⟩) ?_
    rw [← hcur, List.take_length]
  have := h.put (dst := dst) hd hx (Nat.le_refl _) rfl (h.mem.addProt _ _) (fun _ => hrep)
  refine ⟨_, _, hx.mono h.floor, rfl, this, ?_⟩
  have hnx := h.next
  simp only [Ctx.addProt]
  rw [← hnx]
  exact hK

/-- A slice literal that nobody appends to. -/
theorem bs0_sound (h : Rel P N c s a w) {o : Oper} {e n : Nat} {xs : List AX} (hc : cOp P o.op = some (.bs e n xs)) (hd : ∀ d, o.dst = some d → d < N) {K : State → Prop} (hK : astep P o.dst (.bs0 e n xs) s K) (Q : Exit → Act → World → Prop) : o.wpIn (fen c.floor.round) 0 P a w (Post P N c w K) Q := by
  obtain ⟨dst, op, type, pos, after, guard⟩ := o
  simp only at hc hd hK
  obtain ⟨t, k, parts, rfl⟩ := cOp_bs hc
  simp only [cOp] at hc
  split at hc
  · rename_i e' hu
    split at hc
    · rename_i i hi
      split at hc
      · rename_i z xs' hz hxs
        split at hc
        · rename_i hcond
          obtain ⟨h1, _, h3, h4⟩ := hcond
          have hc : AOp.bs e' i.size xs' = .bs e n xs := by
            split at hc
            · simp only [Option.some.injEq] at hc; cases hc
            · simpa only [Option.some.injEq] using hc
          simp only [AOp.bs.injEq] at hc
          obtain ⟨rfl, rfl, rfl⟩ := hc
          simp only [astep, vop] at hK
          split at hK
          · rename_i av hav
            split at hav
            · rename_i avs havs
              split at hav
              · rename_i els hels
                split at hav
                · rename_i hcnd
                  simp only [Option.some.injEq] at hav; subst hav
                  simp only [Bool.and_eq_true] at hcnd
                  obtain ⟨cur, g1, g2, g3, g4⟩ := step_buildSlice h hu hi hz hxs h1 h3 h4 havs hels hcnd.1 hcnd.2
                  have hrun : (execOp a.eval ⟨dst, .buildSlice t k parts, type, pos, after, guard⟩).run P w = .ok (.value (.slice (some ⟨w.heap.size, 0, none⟩) k k)) (w.alloc (.cells cur e' (0, 0))) := by
                    simp [execOp, g1]
                  exact wpIn_of (by intro _ hh; cases hh) hrun (post_row0 h hd g3 g4 g2 hK)
                · cases hav
              · cases hav
            · cases hav
          · exact hK.elim
        · cases hc
      · cases hc
    · cases hc
  · cases hc

end
end Go.Ab
