/-
Each operation of the abstract machine that makes a value is what the model's operation does: the theorem. Conditions: none.
-/
import Derived.Test.YteekelelcbfekaaDoorAbSoundM
set_option linter.unusedSimpArgs false
set_option linter.unusedVariables false
set_option linter.unusedSectionVars false
namespace Go.Ab
open Go Go.RowKit

section
variable {P : Program} {N : Nat} {c c' : Ctx} {w w' : World} {s : State} {a : Act} {bx : List (Nat × List AV)} {tp : List (Nat × TypeId)}

theorem addr_add (b off k : Nat) : (⟨b, off, none⟩ : Addr).add k = ⟨b, off + k, none⟩ := add_lit b off k

theorem vop_load (h : Rel P N c s a w) {t : TypeId} {x : Operand} {ao : AOp} (hc : cOp P (.load t x) = some ao) {av : AV} (hv : vop s ao = some av) :
    ∃ v, (Instr.loadAt t (a.eval x)).run P w = .ok v w ∧ Rep P c w av v := by
  simp only [cOp] at hc
  split at hc
  · rename_i sz x' hsz hx
    simp only [Option.some.injEq] at hc; subst hc
    simp only [vop] at hv
    split at hv
    · rename_i id o hp
      have h1 := ev_sound h hx hp
      simp only [Rep] at h1
      split at hv
      · rename_i cells hb
        obtain ⟨arr, t', hrow, hrep⟩ := box_load h.mem hb
        obtain ⟨v, g1, g2⟩ := load_take (P := P) (c := c) (w := w) hsz (b := c.β id) (off := o) (hrep.drop o) (fun j v hj => by
          rw [cell_of_row w _ (o + j) arr t' _ hrow]
          rw [List.getElem?_drop, List.getElem?_take] at hj
          split at hj
          · simpa using hj
          · cases hj) hv
        refine ⟨v, ?_, g2⟩
        rw [h1.2]
        simp [Instr.loadAt, Instr.sureAddr, g1]
      · cases hv
    · rename_i cells hp
      have h1 := ev_sound h hx hp
      simp only [Rep] at h1
      obtain ⟨b, off, vs, g1, g2, g5⟩ := h1
      obtain ⟨v, g3, g4⟩ := load_take (P := P) (c := c) (w := w) hsz (b := b) (off := off) g5 (fun j v hj => (g2 j v hj).2) hv
      refine ⟨v, ?_, g4⟩
      rw [g1]
      simp [Instr.loadAt, Instr.sureAddr, g3]
    · cases hv
  · cases hc

theorem vop_field (h : Rel P N c s a w) {t : TypeId} {x : Operand} {f : Nat} {ao : AOp} (hc : cOp P (.field t x f) = some ao) {av : AV} (hv : vop s ao = some av) :
    ∃ v, (Instr.field t (a.eval x) f).run P w = .ok v w ∧ Rep P c w av v := by
  simp only [cOp] at hc
  split at hc
  · rename_i fields x' hu hx
    split at hc
    · rename_i fd hf
      split at hc
      · rename_i sz hsz
        simp only [Option.some.injEq] at hc; subst hc
        simp only [vop] at hv
        split at hv
        · rename_i cells hp
          have h1 := ev_sound h hx hp
          simp only [Rep] at h1
          obtain ⟨cs, g1, g2⟩ := h1
          obtain ⟨v, g3, g4⟩ := part_take (P := P) (c := c) (w := w) hsz g2 fd.offset hv
          refine ⟨v, ?_, g4⟩
          rw [g1]
          simp [Instr.field, run_underlying hu, hf, asAgg, g3]
        · cases hv
      · cases hc
    · cases hc
  · cases hc

theorem vop_fieldAddr (h : Rel P N c s a w) {t : TypeId} {x : Operand} {f : Nat} {ao : AOp} (hc : cOp P (.fieldAddr t x f) = some ao) {av : AV} (hv : vop s ao = some av) :
    ∃ v, (Instr.fieldAt t (a.eval x) f).run P w = .ok v w ∧ Rep P c w av v := by
  simp only [cOp] at hc
  split at hc
  · rename_i fields x' hu hx
    split at hc
    · rename_i fd hf
      split at hc
      · rename_i i hi
        split at hc
        · cases hc
        · rename_i hne
          simp only [Option.some.injEq] at hc; subst hc
          have place : ∀ b off, (fieldPlace ⟨b, off, none⟩ fd).run P w = .ok ⟨b, off + fd.offset, none⟩ w := fun b off => by
            simp [fieldPlace, sizeOf, typeInfo, hi, hne, addr_add]
          simp only [vop] at hv
          split at hv
          · rename_i id o hp
            have h1 := ev_sound h hx hp
            simp only [Option.some.injEq] at hv; subst hv
            simp only [Rep] at h1
            refine ⟨.pointer (some ⟨c.β id, o + fd.offset, none⟩), ?_, by simp only [Rep]; exact ⟨h1.1, trivial⟩⟩
            rw [h1.2]
            simp [Instr.fieldAt, run_underlying hu, hf, Instr.sureAddr, place]
          · rename_i cells hp
            have h1 := ev_sound h hx hp
            simp only [Option.some.injEq] at hv; subst hv
            simp only [Rep] at h1
            obtain ⟨b, off, vs, g1, g2, g3⟩ := h1
            refine ⟨.pointer (some ⟨b, off + fd.offset, none⟩), ?_, by simp only [Rep]; exact ⟨b, _, _, rfl, g2.drop _, g3.drop _⟩⟩
            rw [g1]
            simp [Instr.fieldAt, run_underlying hu, hf, Instr.sureAddr, place]
          · cases hv
      · cases hc
    · cases hc
  · cases hc

theorem vop_bin (h : Rel P N c s a w) {op : BinOp} {t yt : TypeId} {x y : Operand} {ao : AOp} (hc : cOp P (.binOp op t x y yt) = some ao) {av : AV} (hv : vop s ao = some av) :
    ∃ v, (do eqGuard op t x y (a.eval x) (a.eval y); binOp op t (a.eval x) (a.eval y) : Sem Value).run P w = .ok v w ∧ Rep P c w av v := by
  simp only [cOp] at hc
  split at hc
  · rename_i x' y' hx hy
    split at hc
    · rename_i hbool
      have key : ∀ (neg : Bool), (op = if neg then .neq else .eql) → vop s (.eqB neg x' y') = some av → ∃ v, (do eqGuard op t x y (a.eval x) (a.eval y); binOp op t (a.eval x) (a.eval y) : Sem Value).run P w = .ok v w ∧ Rep P c w av v := fun neg hop hv => by
        simp only [vop] at hv
        split at hv
        · rename_i p q hp hq
          have h1 := ev_sound h hx hp
          have h2 := ev_sound h hy hq
          simp only [Rep] at h1 h2
          simp only [Option.some.injEq] at hv; subst hv
          rw [h1, h2]
          have he := eqB_sound (P := P) (w := w) hbool p q
          cases neg <;> simp only [Bool.false_eq_true, if_false, if_true] at hop <;> subst hop
          · exact ⟨.bool (p == q), by simp [eqGuard, binOp, he], by simp [Rep]⟩
          · exact ⟨.bool !(p == q), by simp [eqGuard, binOp, he], by simp [Rep]⟩
        · cases hv
      split at hc
      · simp only [Option.some.injEq] at hc; subst hc; exact key false rfl hv
      · simp only [Option.some.injEq] at hc; subst hc; exact key true rfl hv
      · cases hc
    · split at hc
      · simp only [Option.some.injEq] at hc; subst hc
        exact sound_bin h hx hy hv
      · have key : ∀ (neg : Bool) (ks : List BK), flatEq P t = some ks → (op = if neg then .neq else .eql) → vop s (.eqg neg ks x' y') = some av → ∃ v, (do eqGuard op t x y (a.eval x) (a.eval y); binOp op t (a.eval x) (a.eval y) : Sem Value).run P w = .ok v w ∧ Rep P c w av v := fun neg ks hks hop hv => by
          simp only [vop] at hv
          split at hv
          · rename_i p q hp hq
            have h1 := ev_sound h hx hp
            have h2 := ev_sound h hy hq
            split at hv
            · rename_i xs ys hxs hys
              cases he : eqK ks xs ys with
              | none => rw [he] at hv; cases hv
              | some r =>
                rw [he] at hv
                simp only [Option.map_some, Option.some.injEq] at hv; subst hv
                unfold flatEq at hks
                split at hks
                · rename_i hcond
                  simp only [Bool.and_eq_true, Bool.not_eq_true'] at hcond
                  have hfl := (flat_sound (P := P) (w := w) 8 hks 9992 he).1 hcond.1
                  simp only [Rep] at h1 h2
                  obtain ⟨xa, h3, h4⟩ := h1
                  obtain ⟨ya, h5, h6⟩ := h2
                  have hcx := h4.of_vals hxs
                  have hcy := h6.of_vals hys
                  subst hcx; subst hcy
                  rw [h3, h5]
                  simp only [Array.toArray_toList] at hfl
                  have hg := run_eqGuard_agg (P := P) w op t x y xa ya hcond.2
                  cases neg <;> simp only [Bool.false_eq_true, if_false, if_true] at hop <;> subst hop
                  · exact ⟨.bool r, by simp only [Sem.run_bind, hg, Result.andThen_ok, run_eql_struct, hfl], by simp [Rep]⟩
                  · exact ⟨.bool !r, by simp only [Sem.run_bind, hg, Result.andThen_ok, run_neq_struct, hfl], by simp [Rep]⟩
                · cases hks
            · cases hv
          · cases hv
        split at hc
        · rename_i ks hks
          simp only [Option.some.injEq] at hc; subst hc; exact key false ks hks rfl hv
        · rename_i ks hks
          simp only [Option.some.injEq] at hc; subst hc; exact key true ks hks rfl hv
        · cases hc
  · cases hc

/-- What a builtin or a call that makes a value at once does. -/
def CallMakes (P : Program) (c : Ctx) (a : Act) (w : World) (cl : Call) (ty : TypeId) (av : AV) : Prop := ∃ v, (do let d ← resolve a.eval cl ty; invoke d.target d.args : Sem Next).run P w = .ok (.value v) w ∧ Rep P c w av v

theorem vop_call (h : Rel P N c s a w) {cl : Call} {ao : AOp} (hc : cOp P (.call cl) = some ao) {av : AV} (hv : vop s ao = some av) (ty : TypeId) : CallMakes P c a w cl ty av := by
  obtain ⟨callee, args, argTypes⟩ := cl
  simp only [cOp] at hc
  split at hc
  · rename_i x t hargs htys
    have hA : args = #[x] := by apply Array.toList_inj.1; simpa using hargs
    have hT : argTypes = #[t] := by apply Array.toList_inj.1; simpa using htys
    subst hA; subst hT
    split at hc
    · rename_i e x' hu hx
      simp only [Option.some.injEq] at hc; subst hc
      simp only [vop] at hv
      split at hv
      · rename_i e els tip hp
        have h1 := ev_sound h hx hp
        simp only [Option.some.injEq] at hv; subst hv
        simp only [Rep] at h1
        obtain ⟨⟨ad, cap, g1, _⟩, _⟩ := h1
        refine ⟨.int .i64 els.length, ?_, by simp [Rep]⟩
        simp [resolve, invoke, builtin, Builtin.len_, g1, run_underlying hu, goInt]
      · rename_i hp
        have h1 := ev_sound h hx hp
        simp only [Option.some.injEq] at hv; subst hv
        simp only [Rep] at h1
        refine ⟨.int .i64 0, ?_, by simp [Rep]⟩
        simp [resolve, invoke, builtin, Builtin.len_, h1, run_underlying hu, goInt]
      · rename_i e' sz off n id hp
        have h1 := ev_sound h hx hp
        simp only [Option.some.injEq] at hv; subst hv
        simp only [Rep] at h1
        obtain ⟨_, o, cap, arr, g1, _⟩ := h1
        refine ⟨.int .i64 n, ?_, by simp [Rep]⟩
        simp [resolve, invoke, builtin, Builtin.len_, g1, run_underlying hu, goInt]
      · rename_i e' l hp
        have h1 := ev_sound h hx hp
        simp only [Option.some.injEq] at hv; subst hv
        simp only [Rep] at h1
        obtain ⟨a1, cap, vs, g1, _⟩ := h1
        refine ⟨.int .i64 l.length, ?_, by simp [Rep]⟩
        simp [resolve, invoke, builtin, Builtin.len_, g1, run_underlying hu, goInt]
      · rename_i e els tip hp
        have h1 := ev_sound h hx hp
        simp only [Option.some.injEq] at hv; subst hv
        simp only [Rep, RepL] at h1
        obtain ⟨vs, ⟨rfl, _⟩, v, vs', hv, ⟨⟨ad, cap, g1, _⟩, _⟩, rfl⟩ := h1
        simp only [List.cons.injEq, and_true] at hv
        rw [← hv] at g1
        refine ⟨.int .i64 els.length, ?_, by simp [Rep]⟩
        simp [resolve, invoke, builtin, Builtin.len_, g1, run_underlying hu, goInt]
      · rename_i hp
        have h1 := ev_sound h hx hp
        simp only [Option.some.injEq] at hv; subst hv
        simp only [Rep, RepL] at h1
        obtain ⟨vs, ⟨rfl, _⟩, v, vs', hv, g1, rfl⟩ := h1
        simp only [List.cons.injEq, and_true] at hv
        rw [← hv] at g1
        refine ⟨.int .i64 0, ?_, by simp [Rep]⟩
        simp [resolve, invoke, builtin, Builtin.len_, g1, run_underlying hu, goInt]
      · cases hv
    · rename_i kt et x' hu hx
      simp only [Option.some.injEq] at hc; subst hc
      simp only [vop] at hv
      split at hv
      · rename_i avs hp
        obtain ⟨y, hy, rfl⟩ := evs_one hp
        obtain ⟨v, g1, g2⟩ := lenM_sound h hu (ty := ty) (ev_sound h hx hy) hv
        exact ⟨v, by simp [resolve, invoke, builtin, g1], g2⟩
      · cases hv
    · rename_i x' hu hx
      simp only [Option.some.injEq] at hc; subst hc
      simp only [vop] at hv
      split at hv
      · rename_i b hp
        have h1 := ev_sound h hx hp
        simp only [Option.some.injEq] at hv; subst hv
        simp only [Rep] at h1
        refine ⟨.int .i64 b.size, ?_, by simp [Rep]⟩
        simp [resolve, invoke, builtin, Builtin.len_, h1, run_underlying hu, goInt]
      · cases hv
    · rename_i n e x' hu hx
      simp only [Option.some.injEq] at hc; subst hc
      simp only [vop, Option.some.injEq] at hv; subst hv
      refine ⟨.int .i64 n, ?_, by simp [Rep]⟩
      simp [resolve, invoke, builtin, Builtin.len_, run_underlying hu, goInt]
    · cases hc
  · rename_i x t hargs htys
    have hA : args = #[x] := by apply Array.toList_inj.1; simpa using hargs
    have hT : argTypes = #[t] := by apply Array.toList_inj.1; simpa using htys
    subst hA; subst hT
    split at hc
    · rename_i e x' hu hx
      simp only [Option.some.injEq] at hc; subst hc
      simp only [vop] at hv
      split at hv
      · rename_i avs hp
        obtain ⟨y, hy, rfl⟩ := evs_one hp
        obtain ⟨v, g1, g2⟩ := capM_sound (s := s) hu (ty := ty) (ev_sound h hx hy) hv
        exact ⟨v, by simp [resolve, invoke, builtin, g1], g2⟩
      · cases hv
    · cases hc
  · rename_i x y hargs
    have hA : args = #[x, y] := by apply Array.toList_inj.1; simpa using hargs
    subst hA
    split at hc
    · rename_i x' y' hx hy
      simp only [Option.some.injEq] at hc; subst hc
      simp only [vop] at hv
      split at hv
      · rename_i k p k' q hp hq
        have h1 := ev_sound h hx hp
        have h2 := ev_sound h hy hq
        simp only [Option.some.injEq] at hv; subst hv
        simp only [Rep] at h1 h2
        refine ⟨.int k (if q < p then q else p), ?_, by simp [Rep]⟩
        simp [resolve, invoke, builtin, Builtin.min_, Builtin.min2, h1, h2]
      · cases hv
    · cases hc
  · rename_i x y hargs
    have hA : args = #[x, y] := by apply Array.toList_inj.1; simpa using hargs
    subst hA
    split at hc
    · rename_i x' y' hx hy
      simp only [Option.some.injEq] at hc; subst hc
      simp only [vop] at hv
      split at hv
      · rename_i k p k' q hp hq
        have h1 := ev_sound h hx hp
        have h2 := ev_sound h hy hq
        simp only [Option.some.injEq] at hv; subst hv
        simp only [Rep] at h1 h2
        refine ⟨.int k (if p < q then q else p), ?_, by simp [Rep]⟩
        simp [resolve, invoke, builtin, Builtin.max_, Builtin.max2, h1, h2]
      · cases hv
    · cases hc
  · split at hc
    · split at hc
      · split at hc
        · split at hc
          · simp only [Option.some.injEq] at hc; subst hc; simp [vop] at hv
          · split at hc
            · simp only [Option.some.injEq] at hc; subst hc; simp [vop] at hv
            · cases hc
        · cases hc
      · cases hc
    · cases hc
  · split at hc
    · simp only [Option.some.injEq] at hc; subst hc; simp [vop] at hv
    · cases hc
  · split at hc
    · simp only [Option.some.injEq] at hc; subst hc; simp [vop] at hv
    · cases hc
  · cases hc

/-- An interface's value comes of what it holds. -/
theorem mki_run {t : TypeId} (ht : isPlainT P t = true) (x : Value) : (Instr.makeInterface t x).run P w = .ok (.iface t x) w := by
  unfold isPlainT at ht
  cases hd : P.underlying t with
  | none => simp [hd] at ht
  | some d => cases d <;> first | (simp [hd] at ht; done) | simp [Instr.makeInterface, run_underlying hd]

theorem vop_lookup (h : Rel P N c s a w) {t : TypeId} {x i : Operand} {ok : Bool} {ao : AOp} (hc : cOp P (.lookup t x i ok) = some ao) {av : AV} (hv : vop s ao = some av) : ∃ v, (Instr.lookup t (a.eval x) (a.eval i) ok).run P w = .ok v w ∧ Rep P c w av v := by
  simp only [cOp] at hc
  split at hc
  · rename_i kt et x' i' hu hx hi
    split at hc
    · rename_i hk
      split at hc
      · rename_i ie hie
        cases hz : ie.zero with
        | none => rw [hz] at hc; cases hc
        | some z =>
          rw [hz] at hc
          simp only [Option.map_some, Option.some.injEq] at hc; subst hc
          simp only [vop] at hv
          split at hv
          · rename_i avs hp
            obtain ⟨y, u, hy, hu', rfl⟩ := evs_two hp
            exact lookup_sound h hu hk hie hz (ev_sound h hx hy) (ev_sound h hi hu') hv
          · cases hv
      · cases hc
    · split at hc
      · rename_i ks ie hks hie
        cases hz : ie.zero with
        | none => rw [hz] at hc; cases hc
        | some z =>
          rw [hz] at hc
          simp only [Option.map_some, Option.some.injEq] at hc; subst hc
          simp only [vop] at hv
          split at hv
          · rename_i avs hp
            obtain ⟨y, u, hy, hu', rfl⟩ := evs_two hp
            have hv' : lkpSV ks ok z s.boxes [y, u] = some av := by
              unfold XV.val at hv
              split at hv
              all_goals first | (rename_i he _; cases he; done) | exact hv
            exact lookupS_sound h hu hks hie hz (ev_sound h hx hy) (ev_sound h hi hu') hv'
          · cases hv
      · cases hc
  · cases hc

theorem vop_sound (h : Rel P N c s a w) {o : Oper} {ao : AOp} (hc : cOp P o.op = some ao) {av : AV} (hv : vop s ao = some av) : Makes P c a w o av := by
  obtain ⟨dst, op, type, pos, after, guard⟩ := o
  simp only at hc
  cases op with
  | move x =>
    simp only [cOp] at hc
    cases hx : cX x with
    | none => rw [hx] at hc; cases hc
    | some x' =>
      rw [hx] at hc
      simp only [Option.map_some, Option.some.injEq] at hc; subst hc
      exact ⟨a.eval x, rfl, ev_sound h hx hv⟩
  | assign x =>
    simp only [cOp] at hc
    cases hx : cX x with
    | none => rw [hx] at hc; cases hc
    | some x' =>
      rw [hx] at hc
      simp only [Option.map_some, Option.some.injEq] at hc; subst hc
      exact ⟨a.eval x, rfl, ev_sound h hx hv⟩
  | pick p x y =>
    simp only [cOp] at hc
    split at hc
    · rename_i p' x' y' hp hx hy
      simp only [Option.some.injEq] at hc; subst hc
      simp only [vop] at hv
      split at hv
      · rename_i b hb
        have h1 := ev_sound h hp hb
        simp only [Rep] at h1
        cases b
        · simp only [Bool.false_eq_true, if_false] at hv
          exact ⟨a.eval y, by simp [execOp, h1, asBool], ev_sound h hy hv⟩
        · simp only [if_true] at hv
          exact ⟨a.eval x, by simp [execOp, h1, asBool], ev_sound h hx hv⟩
      · cases hv
    · cases hc
  | binOp op t x y yt =>
    obtain ⟨v, h1, h2⟩ := vop_bin h hc hv
    exact Makes.of rfl h1 h2
  | unOp op t x =>
    cases op <;> simp only [cOp] at hc <;> try cases hc
    cases hx : cX x with
    | none => rw [hx] at hc; cases hc
    | some x' =>
      rw [hx] at hc
      simp only [Option.map_some, Option.some.injEq] at hc; subst hc
      simp only [vop] at hv
      split at hv
      · rename_i b hb
        have h1 := ev_sound h hx hb
        simp only [Option.some.injEq] at hv; subst hv
        simp only [Rep] at h1
        exact ⟨.bool !b, by simp [execOp, h1, Op.unary], by simp [Rep]⟩
      · cases hv
  | convert src dst x =>
    obtain ⟨v, h1, h2⟩ := vop_convert h hc hv
    exact Makes.of rfl h1 h2
  | extract x i =>
    simp only [cOp] at hc
    cases hx : cX x with
    | none => rw [hx] at hc; cases hc
    | some x' =>
      rw [hx] at hc
      simp only [Option.map_some, Option.some.injEq] at hc; subst hc
      simp only [vop] at hv
      split at hv
      · rename_i l hl
        have h1 := ev_sound h hx hl
        simp only [Rep] at h1
        obtain ⟨vs, g1, g2⟩ := h1
        obtain ⟨v, g3, g4⟩ := g2.get hv
        have g3' : vs[i]? = some v := by simpa using g3
        exact ⟨v, by simp [execOp, g1, Instr.extract, g3'], g4⟩
      · cases hv
  | makeFunc f first cap =>
    simp only [cOp] at hc
    split at hc
    · rename_i p q hp hq
      simp only [Option.some.injEq] at hc; subst hc
      simp only [vop] at hv
      split at hv
      · rename_i p' q' hp' hq'
        simp only [Option.some.injEq] at hv; subst hv
        refine ⟨.func f (first.map a.eval) (cap.map a.eval), by simp [execOp, Instr.makeFunc], ?_⟩
        simp only [Rep]
        exact ⟨_, _, rfl, by simpa using evs_sound h hp hp', by simpa using evs_sound h hq hq'⟩
      · cases hv
    · cases hc
  | build t parts =>
    simp only [cOp] at hc
    split at hc
    · rename_i zero places hpl
      cases hcp : cParts places parts.toList with
      | none => rw [hcp] at hc; cases hc
      | some parts' =>
        rw [hcp] at hc
        simp only [Option.map_some, Option.some.injEq] at hc; subst hc
        simp only [vop] at hv
        split at hv
        · rename_i ps hps
          cases hf : fillA (zero.map .lit) ps with
          | none => rw [hf] at hv; cases hv
          | some r =>
            rw [hf] at hv
            simp only [Option.map_some, Option.some.injEq] at hv; subst hv
            obtain ⟨out, g1, g2⟩ := build_sound h hpl hcp hps hf
            exact Makes.of rfl g1 (by simp only [Rep]; exact ⟨out, rfl, g2⟩)
        · cases hv
    · cases hc
  | fieldAddr t x f =>
    obtain ⟨v, h1, h2⟩ := vop_fieldAddr h hc hv
    exact Makes.of rfl h1 h2
  | field t x f =>
    obtain ⟨v, h1, h2⟩ := vop_field h hc hv
    exact Makes.of rfl h1 h2
  | indexAddr t x i =>
    obtain ⟨v, h1, h2⟩ := vop_index h hc hv
    exact Makes.of rfl h1 h2
  | index t x i =>
    simp only [cOp] at hc
    split at hc
    · rename_i x' i' hu hx hi
      simp only [Option.some.injEq] at hc; subst hc
      simp only [vop] at hv
      split at hv
      · rename_i b iv hp hq
        have h1 := ev_sound h hx hp
        have h2 := ev_sound h hi hq
        simp only [Rep] at h1
        split at hv
        · rename_i j hj
          obtain ⟨k, hk⟩ := idxOf_sound h2 hj
          cases hb : b[j]? with
          | none => rw [hb] at hv; cases hv
          | some u =>
            rw [hb] at hv
            simp only [Option.map_some, Option.some.injEq] at hv; subst hv
            refine Makes.of (v := .int .u8 u.toNat) rfl ?_ (by simp [Rep])
            rw [h1, hk]
            simp [Instr.index, asIntOf, run_underlying hu, hb]
        · cases hv
      · cases hv
    · rename_i n e x' i' hu hx hi
      split at hc
      · rename_i ag ie hsz hie
        simp only [Option.some.injEq] at hc; subst hc
        simp only [vop] at hv
        split at hv
        · rename_i cells iv hp hq
          have h1 := ev_sound h hx hp
          have h2 := ev_sound h hi hq
          simp only [Rep] at h1
          obtain ⟨cs, h3, h4⟩ := h1
          split at hv
          · rename_i j hj
            obtain ⟨k, hk⟩ := idxOf_sound h2 hj
            split at hv
            · rename_i hjn
              obtain ⟨v, g1, g2⟩ := part_take hsz h4 (j * ie.size) hv
              refine Makes.of (v := v) rfl ?_ g2
              rw [h3, hk]
              simp [Instr.index, asIntOf, run_underlying hu, hjn, sizeOf, typeInfo, hie, g1]
            · cases hv
          · cases hv
        · cases hv
      · cases hc
    · cases hc
  | slice t x lo hi mx =>
    cases mx with
    | some m => simp [cOp] at hc
    | none =>
      obtain ⟨v, h1, h2⟩ := vop_slice h hc hv
      exact Makes.of rfl h1 h2
  | load t x =>
    obtain ⟨v, h1, h2⟩ := vop_load h hc hv
    exact Makes.of rfl h1 h2
  | call cl => exact vop_call h hc hv type
  | lookup t x i ok =>
    obtain ⟨v, h1, h2⟩ := vop_lookup h hc hv
    exact Makes.of rfl h1 h2
  | makeMap t r =>
    cases r with
    | none => simp only [cOp, Option.some.injEq] at hc; subst hc; simp [vop] at hv
    | some r => simp [cOp] at hc
  | mapUpdate t m k x =>
    simp only [cOp] at hc
    split at hc
    · split at hc
      · simp only [Option.some.injEq] at hc; subst hc; simp [vop] at hv
      · rename_i kt _ _ _ _ _ _ _ _ _
        cases hk : keyKs P kt with
        | none => rw [hk] at hc; cases hc
        | some ks => rw [hk] at hc; simp only [Option.map_some, Option.some.injEq] at hc; subst hc; simp [vop] at hv
    · cases hc
  | insert t m k x =>
    simp only [cOp] at hc
    split at hc
    · split at hc
      · simp only [Option.some.injEq] at hc; subst hc; simp [vop] at hv
      · rename_i kt _ _ _ _ _ _ _ _ _
        cases hk : keyKs P kt with
        | none => rw [hk] at hc; cases hc
        | some ks => rw [hk] at hc; simp only [Option.map_some, Option.some.injEq] at hc; subst hc; simp [vop] at hv
    · cases hc
  | range t x =>
    simp only [cOp] at hc
    split at hc
    · simp only [Option.some.injEq] at hc; subst hc; simp [vop] at hv
    · simp only [Option.some.injEq] at hc; subst hc; simp [vop] at hv
    · cases hc
  | entry x =>
    simp only [cOp] at hc
    cases hx : cX x with
    | none => rw [hx] at hc; cases hc
    | some x' =>
      rw [hx] at hc
      simp only [Option.map_some, Option.some.injEq] at hc; subst hc
      simp only [vop] at hv
      split at hv
      · rename_i avs hp
        obtain ⟨y, hy, rfl⟩ := evs_one hp
        obtain ⟨v, h1, h2⟩ := ent_sound h (ev_sound h hx hy) hv
        exact Makes.of rfl h1 h2
      · cases hv
  | next x b =>
    simp only [cOp] at hc
    cases hx : cX x with
    | none => rw [hx] at hc; cases hc
    | some x' =>
      rw [hx] at hc
      simp only [Option.map_some, Option.some.injEq] at hc; subst hc; simp [vop] at hv
  | alloc e =>
    simp only [cOp] at hc
    split at hc
    · split at hc
      · split at hc <;> (simp only [Option.some.injEq] at hc; subst hc; simp [vop] at hv)
      · cases hc
    · cases hc
  | box e x =>
    simp only [cOp] at hc
    cases hx : cX x with
    | none => rw [hx] at hc; cases hc
    | some x' =>
      rw [hx] at hc
      simp only [Option.map_some, Option.some.injEq] at hc; subst hc; simp [vop] at hv
  | store t x y =>
    simp only [cOp] at hc
    split at hc
    · simp only [Option.some.injEq] at hc; subst hc; simp [vop] at hv
    · cases hc
  | buildSlice t n parts =>
    simp only [cOp] at hc
    split at hc
    · split at hc
      · split at hc
        · split at hc
          · split at hc <;> (simp only [Option.some.injEq] at hc; subst hc; simp [vop] at hv)
          · cases hc
        · cases hc
      · cases hc
    · cases hc
  | mapEntry t m k =>
    simp only [cOp] at hc
    split at hc
    · split at hc
      · rename_i ks ie hks hie
        cases hz : ie.zero with
        | none => rw [hz] at hc; cases hc
        | some z => rw [hz] at hc; simp only [Option.map_some, Option.some.injEq] at hc; subst hc; simp [vop] at hv
      · cases hc
    · cases hc
  | entryStore t m k x =>
    simp only [cOp] at hc
    split at hc
    · simp only [Option.some.injEq] at hc; subst hc; simp [vop] at hv
    · cases hc
  | makeSlice t l k =>
    simp only [cOp] at hc
    split at hc
    · split at hc
      · split at hc
        · split at hc
          · simp only [Option.some.injEq] at hc; subst hc; simp [vop] at hv
          · cases hc
        · cases hc
      · cases hc
    · cases hc
  | nilCheck x =>
    simp only [cOp] at hc
    cases hx : cX x with
    | none => rw [hx] at hc; cases hc
    | some x' =>
      rw [hx] at hc
      simp only [Option.map_some, Option.some.injEq] at hc; subst hc
      simp only [vop] at hv
      split at hv
      · rename_i avs hp
        simp only [State.evs] at hp
        split at hp
        · rename_i y ys hy hys
          simp only [Option.some.injEq] at hp hys; subst hys; subst hp
          simp only [XV.val, XV.val2] at hv
          have he := ev_sound h hx hy
          unfold nclV at hv
          split at hv
          · rename_i hl
            simp only [List.cons.injEq, and_true] at hl; subst hl
            simp only [Option.some.injEq] at hv; subst hv
            simp only [Rep, RefOK] at he
            obtain ⟨h1, arr, h2, _⟩ := he
            exact ⟨a.eval x, by simp [execOp, h2], by simp only [Rep]; exact ⟨h1, h2⟩⟩
          · rename_i hl
            simp only [List.cons.injEq, and_true] at hl; subst hl
            simp only [Option.some.injEq] at hv; subst hv
            have he' := he
            simp only [Rep] at he
            exact ⟨a.eval x, by simp [execOp, he.2], he'⟩
          · cases hv
        · cases hp
      · cases hv
  | makeInterface t x =>
    simp only [cOp] at hc
    split at hc
    · rename_i x' hx
      split at hc
      · rename_i ht
        simp only [Option.some.injEq] at hc; subst hc
        simp only [vop] at hv
        split at hv
        · rename_i avs hp
          simp only [State.evs] at hp
          split at hp
          · rename_i y ys hy hys
            simp only [Option.some.injEq] at hp hys; subst hys; subst hp
            simp only [XV.val, XV.val2, mkiV, Option.some.injEq] at hv
            subst hv
            refine Makes.of rfl (v := .iface t (a.eval x)) (mki_run ht _) ?_
            simp only [Rep, RepL]
            exact ⟨[a.eval x], ⟨a.eval x, rfl, rfl⟩, _, _, rfl, ev_sound h hx hy, rfl⟩
          · cases hp
        · cases hv
      · cases hc
    · cases hc
  | _ => simp [cOp] at hc
end
end Go.Ab
