/-
Code in the abstract machine. Conditions: none.
-/
import Derived.Test.YteekelelcbfekaaDoorAbRound
set_option linter.unusedSimpArgs false
set_option linter.unusedVariables false
set_option linter.unusedSectionVars false
namespace Go.Ab
open Go Go.RowKit

def arun (P : Program) : List AOper → State → (State → Prop) → Prop
  | [], s, K => K s
  | o :: rest, s, K => match o.guard with
    | none => astep P o.dst o.op s (fun s' => arun P rest s' K)
    | some (t, want) => match look s.slots t with
      | some (.lit (.bool b)) => if b = want then astep P o.dst o.op s (fun s' => arun P rest s' K) else arun P rest (s.put o.dst (.lit undef)) K
      | some (.lit (.tuple _)) => arun P rest (s.put o.dst (.lit undef)) K
      | _ => False

def xThen (next : State → Prop) (Q : Exit → State → Prop) : Exit → State → Prop
  | .normal, s => next s
  | e, s => Q e s

def xBlock (id : Nat) (Q : Exit → State → Prop) : Exit → State → Prop
  | .exit i, s => if i = id then Q .normal s else Q (.exit i) s
  | e, s => Q e s

/-- What holds of one state holds of the other. -/
def Weak (P : Program) (F : Nat) (s s1 : State) : Prop := ∀ (N : Nat) (c : Ctx) (a : Act) (w : World), c.floor.lim ≤ F → Rel P N c s a w → ∃ c1, Ext c.floor.lim c w c1 w ∧ c1.floor = c.floor ∧ Rel P N c1 s1 a w

def aloop (P : Program) (F : Nat) (body : (Exit → State → Prop) → State → Prop) (Q : Exit → State → Prop) (s : State) : Prop :=
  ∃ (I : State → Prop) (μ : State → Nat), (∃ s1, Weak P F s s1 ∧ I s1) ∧ ∀ s, I s → body (xThen (fun s' => ∃ s1, Weak P F s' s1 ∧ I s1 ∧ μ s1 < μ s) Q) s

def awp (P : Program) (F : Nat) : ACode → (Exit → State → Prop) → State → Prop
  | .skip, Q, s => Q .normal s
  | .reg ops, Q, s => arun P ops s (Q .normal)
  | .dreg ops, Q, s => drun P ops s (Q .normal)
  | .dtr t, Q, s => trun P t s (fun s' => ∃ s1, Weak P F s' s1 ∧ Q .normal s1)
  | .seq a b, Q, s => awp P F a (xThen (awp P F b Q) Q) s
  | .cond c a b, Q, s => match s.ev c with
    | some (.lit (.bool t)) => if t = true then awp P F a Q s else awp P F b Q s
    | _ => False
  | .block id a, Q, s => awp P F a (xBlock id Q) s
  | .loop a, Q, s => aloop P F (awp P F a) Q s
  | .rfn g n ps a b, Q, s => match s.ev g with
    | some (.fn (.func it) first cap) => ∃ ks cells, evTs s ks = some cells ∧
        CallOK P it (first ++ [.rf .yield s.next] ++ cap) ((s.next, [.ob (.loop ⟨n, ks, ps, a, b, .ready, none⟩) cells]) :: s.boxes) s.tips (s.next + 1) fun _ bx tp nx => rfnPost Q s.slots s.next bx tp nx
    | _ => False
  | .exit id, Q, s => Q (.exit id) s
  | .ret, Q, s => Q .ret s
  | .dead, _, _ => False

section
variable {P : Program} {N F : Nat} {c c' : Ctx} {w w' : World} {s : State} {a : Act}

theorem wanted_eq (h : Rel P N c s a w) {ops : Array Oper} {o : Oper} {ao : AOper} (hc : cOper P N ops o = some ao) :
    Region.wanted o (yielded ops a.tmps) = (match ao.guard with | none => true | some (t, want) => (match a.tmps.getD t undef with | .bool b => some b | _ => none) == some want) ∧ cOpD P o.op = ao.op ∧ o.dst = ao.dst ∧ ∀ d, o.dst = some d → d < N := by
  unfold cOper at hc
  split at hc
  · rename_i hd
    have hdN : ∀ d, o.dst = some d → d < N := fun d hdd => by rw [hdd] at hd; simpa [dstOK] using hd
    split at hc
    · rename_i hg
      simp only [Option.some.injEq] at hc; subst hc
      exact ⟨by simp [Region.wanted, hg], rfl, rfl, hdN⟩
    · rename_i j want hg
      split at hc
      · rename_i t ht
        split at hc
        · rename_i htN
          simp only [Option.some.injEq] at hc; subst hc
          refine ⟨?_, rfl, rfl, hdN⟩
          have hsz := h.size
          have hlt : t < a.tmps.size := Nat.lt_of_lt_of_eq htN hsz.symm
          have hg2 : a.tmps[t]? = some (a.tmps.getD t undef) := by simp [hlt]
          simp only [Region.wanted, hg, yielded, ht, Option.bind_some]
          erw [hg2]
          generalize a.tmps.getD t undef = v
          cases v <;> rfl
        · cases hc
      · cases hc
  · cases hc

theorem astepD_sound (h : Rel P N c s a w) {o : Oper} {ao : AOp} (hc : cOpD P o.op = ao) (hd : ∀ d, o.dst = some d → d < N) {K : State → Prop} (hK : astep P o.dst ao s K) (Q : Exit → Act → World → Prop) : o.wpIn (fen c.floor.round) 0 P a w (Post P N c w K) Q := by
  unfold cOpD at hc
  split at hc
  · rename_i ao' ho
    subst hc
    exact astep_sound h ho hd hK Q
  · subst hc
    simp only [astep, vop] at hK

theorem arun_sound {ops : Array Oper} : ∀ {l : List Oper} {l' : List AOper} {k : Nat} {c : Ctx} {s : State} {a : Act} {w : World} {K : State → Prop} {Q : Exit → Act → World → Prop} {ro : Option Nat}, c.floor.round = ro → cOpers P N ops l = some l' → (∀ j o, l[j]? = some o → ops[k + j]? = some o) → Rel P N c s a w →
    arun P l' s K → (∀ c' s' a' w', Ext c.floor.lim c w c' w' → c'.floor = c.floor → Rel P N c' s' a' w' → K s' → Q .normal a' w') → wpOpsIn (fen ro) 0 P ops Q (List.range' k l.length) a w
  | [], l', k, c, s, a, w, K, Q, ro, hro, hc, _, h, hK, hQ => by
    simp only [cOpers, Option.some.injEq] at hc; subst hc
    exact hQ c s a w (Ext.refl _ _ _) rfl h hK
  | o :: l, l', k, c, s, a, w, K, Q, ro, hro, hc, hl, h, hK, hQ => by
    simp only [cOpers] at hc
    split at hc
    · rename_i ao rest ho hrest
      simp only [Option.some.injEq] at hc; subst hc
      have hk : ops[k]? = some o := by simpa using hl 0 o rfl
      obtain ⟨hw, hop, hdst, hdN⟩ := wanted_eq h ho
      have hl' : ∀ j o', l[j]? = some o' → ops[k + 1 + j]? = some o' := fun j o' hj => by
        have := hl (j + 1) o' (by simpa using hj)
        rwa [show k + 1 + j = k + (j + 1) by omega]
      have next : ∀ c1 s1 a1 w1, Ext c.floor.lim c w c1 w1 → c1.floor = c.floor → Rel P N c1 s1 a1 w1 → arun P rest s1 K → wpOpsIn (fen ro) 0 P ops Q (List.range' (k + 1) l.length) a1 w1 := fun c1 s1 a1 w1 hx hf hr hK1 =>
        arun_sound (by rw [hf]; exact hro) hrest hl' hr hK1 fun c2 s2 a2 w2 hx2 hf2 hr2 hK2 => hQ c2 s2 a2 w2 (hx.trans (by rw [← hf]; exact hx2)) (hf2.trans hf) hr2 hK2
      have step : Region.wanted o (yielded ops a.tmps) = true → astep P ao.dst ao.op s (fun s' => arun P rest s' K) → wpOpsIn (fen ro) 0 P ops Q (List.range' k (l.length + 1)) a w := fun hw1 hs => by
        rw [List.range'_succ]
        simp only [wpOpsIn, hk, hw1, if_true]
        have hsd := astepD_sound h hop hdN (by rw [hdst]; exact hs) Q
        rw [hro] at hsd
        refine Oper.wpIn_mono ?_ hsd
        rintro a1 w1 ⟨c1, s1, hx, hf, hr, hK1⟩
        exact next c1 s1 a1 w1 hx hf hr hK1
      have skip : Region.wanted o (yielded ops a.tmps) = false → arun P rest (s.put ao.dst (.lit undef)) K → wpOpsIn (fen ro) 0 P ops Q (List.range' k (l.length + 1)) a w := fun hw1 hs => by
        rw [List.range'_succ]
        simp only [wpOpsIn, hk, hw1, Bool.false_eq_true, if_false]
        rw [hdst]
        refine ⟨fun _ _ => trivial, ?_⟩
        exact next c _ _ w (Ext.refl _ _ _) rfl (h.put0 (by rw [← hdst]; exact hdN) (fun _ => by simp [Rep])) hs
      simp only [arun] at hK
      rw [List.length_cons]
      split at hK
      · rename_i hg
        exact step (by rw [hw, hg]) hK
      · rename_i t want hg
        split at hK
        · rename_i b hb
          have hv := h.slots t _ hb
          simp only [Rep] at hv
          split at hK
          · rename_i hbw; subst hbw
            exact step (by rw [hw, hg]; simp [hv]) hK
          · rename_i hbw
            exact skip (by rw [hw, hg]; simp [hv, hbw]) hK
        · rename_i vs hb
          have hv := h.slots t _ hb
          simp only [Rep] at hv
          exact skip (by rw [hw, hg]; simp [hv]) hK
        · exact hK.elim
    · cases hc

theorem cOpers_get {ops : Array Oper} : ∀ {l : List Oper} {l' : List AOper}, cOpers P N ops l = some l' → l'.length = l.length ∧ ∀ (i : Nat) (o : Oper), l[i]? = some o → ∃ ao, l'[i]? = some ao ∧ cOper P N ops o = some ao
  | [], l', h => by simp only [cOpers, Option.some.injEq] at h; subst h; exact ⟨rfl, fun i o hi => by simp at hi⟩
  | o :: l, l', h => by
    simp only [cOpers] at h
    split at h
    · rename_i ao rest ho hrest
      simp only [Option.some.injEq] at h; subst h
      obtain ⟨h1, h2⟩ := cOpers_get hrest
      refine ⟨by simp [h1], fun i o' hi => ?_⟩
      cases i with
      | zero => simp at hi; subst hi; exact ⟨ao, rfl, ho⟩
      | succ i => simpa using h2 i o' (by simpa using hi)
    · cases h

/-- Carried out as it stands, or without a name for what it makes. -/
def OrUnnamed (ao ao' : AOper) : Prop := ao' = ao ∨ (∃ e n xs, ao.op = .bs e n xs ∧ ao' = { ao with op := .bs0 e n xs }) ∨ (∃ n x, ao.op = .ld n x ∧ ao' = { ao with op := .lde n x }) ∨ ∃ f xs, ao.op = .call f xs ∧ ao' = { ao with op := .callT f xs }

theorem lde_up {d : Option Nat} {n : Option Nat} {x : AX} {K : State → Prop} (h : astep P d (.lde n x) s K) : astep P d (.ld n x) s K := by
  simp only [astep, vop] at h ⊢
  split at h
  · rename_i av hv
    split at hv
    · rename_i cells hx
      simp only [hx, hv]
      exact h
    · cases hv
  · exact h.elim

theorem callT_up {d : Option Nat} {f : AX} {xs : List AX} {K : State → Prop} (h : astep P d (.callT f xs) s K) : astep P d (.call f xs) s K := by
  simp only [astep] at h ⊢
  split at h
  · rename_i h1 h2; simp only [h1, h2]; exact h
  · exact h.elim

theorem unname_or (l : List AOper) (o : AOper) : OrUnnamed o (unname l o) := by
  unfold unname
  split
  · rename_i e n xs h
    split
    · exact .inr (.inl ⟨e, n, xs, h, rfl⟩)
    · exact .inl rfl
  · rename_i f xs h
    split
    · exact .inr (.inr (.inr ⟨f, xs, h, rfl⟩))
    · exact .inl rfl
  · exact .inl rfl

theorem stays_or (l : List AOper) (o : AOper) : OrUnnamed o (stays l o) := by
  unfold stays
  split
  · rename_i n k h
    split
    · exact .inr (.inr (.inl ⟨n, .t k, h, rfl⟩))
    · exact .inl rfl
  · exact unname_or l o

theorem cOpD_bs {op : Op} {e n : Nat} {xs : List AX} (h : cOpD P op = .bs e n xs) : cOp P op = some (.bs e n xs) := by
  unfold cOpD at h
  split at h
  · rename_i ao ho; rw [ho, h]
  · cases h

theorem astepU_sound (h : Rel P N c s a w) {o : Oper} {ao ao' : AOper} (hu : OrUnnamed ao ao') (hop : cOpD P o.op = ao.op) (hdst : o.dst = ao.dst) (hd : ∀ d, o.dst = some d → d < N) {K : State → Prop} (hK : astep P ao'.dst ao'.op s K) (Q : Exit → Act → World → Prop) : o.wpIn (fen c.floor.round) 0 P a w (Post P N c w K) Q := by
  rcases hu with rfl | ⟨e, n, xs, h1, rfl⟩ | ⟨n, x, h1, rfl⟩ | ⟨f, xs, h1, rfl⟩
  · exact astepD_sound h hop hd (by rw [hdst]; exact hK) Q
  · exact bs0_sound h (cOpD_bs (hop.trans h1)) hd (by rw [hdst]; exact hK) Q
  · exact astepD_sound h (hop.trans h1) hd (by rw [hdst]; exact lde_up hK) Q
  · exact astepD_sound h (hop.trans h1) hd (by rw [hdst]; exact callT_up hK) Q

/-- One step, in the order drawn. -/
theorem gstep_sound {ro : Option Nat} (hro : c.floor.round = ro) {ops : Array Oper} {i : Nat} {o : Oper} {ao : AOper} (hi : ops[i]? = some o) (hc : cOper P N ops o = some ao) {ao' : AOper} (hu : OrUnnamed ao ao') (h : Rel P N c s a w) {K : State → Prop} (hK : gstep P ao' s K) {Q : Exit → Act → World → Prop} {Kc : Act → World → Prop}
    (hQ : ∀ c' s' a' w', Ext c.floor.lim c w c' w' → c'.floor = c.floor → Rel P N c' s' a' w' → K s' → Kc a' w') : wpOpIn (fen ro) 0 P ops Q i Kc a w := by
  obtain ⟨hw, hop, hdst, hdN⟩ := wanted_eq h hc
  have hud : ao'.dst = ao.dst := by rcases hu with rfl | ⟨_, _, _, _, rfl⟩ | ⟨_, _, _, rfl⟩ | ⟨_, _, _, rfl⟩ <;> rfl
  have hug : ao'.guard = ao.guard := by rcases hu with rfl | ⟨_, _, _, _, rfl⟩ | ⟨_, _, _, rfl⟩ | ⟨_, _, _, rfl⟩ <;> rfl
  rw [← hug] at hw
  have step : Region.wanted o (yielded ops a.tmps) = true → dstep P ao'.dst ao'.op s K → wpOpIn (fen ro) 0 P ops Q i Kc a w := fun hw1 hs => by
    simp only [wpOpIn, hi, hw1, if_true]
    have hsd := astepU_sound h hu hop hdst hdN (dstep_astep hs) Q
    rw [hro] at hsd
    refine Go.Oper.wpIn_mono ?_ hsd
    rintro a1 w1 ⟨c1, s1, hx, hf, hr, hK1⟩
    exact hQ c1 s1 a1 w1 hx hf hr hK1
  have skip : Region.wanted o (yielded ops a.tmps) = false → K (s.put ao'.dst (.lit undef)) → wpOpIn (fen ro) 0 P ops Q i Kc a w := fun hw1 hs => by
    simp only [wpOpIn, hi, hw1, Bool.false_eq_true, if_false]
    rw [hdst, ← hud]
    refine ⟨fun _ _ => trivial, ?_⟩
    exact hQ c _ _ w (Ext.refl _ _ _) rfl (h.put0 (by rw [hud, ← hdst]; exact hdN) (fun _ => by simp [Rep])) hs
  unfold gstep at hK
  split at hK
  · rename_i hg
    exact step (by rw [hw, hg]) hK
  · rename_i t want hg
    split at hK
    · rename_i b hb
      have hv := h.slots t _ hb
      simp only [Rep] at hv
      split at hK
      · rename_i hbw; subst hbw
        exact step (by rw [hw, hg]; simp [hv]) hK
      · rename_i hbw
        exact skip (by rw [hw, hg]; simp [hv, hbw]) hK
    · rename_i vs hb
      have hv := h.slots t _ hb
      simp only [Rep] at hv
      exact skip (by rw [hw, hg]; simp [hv]) hK
    · exact hK.elim

theorem aAny_sound {ops : Array Oper} {aops0 aops : List AOper} (hc : cOpers P N ops ops.toList = some aops0) (hun : ∀ (i : Nat) ao, aops0[i]? = some ao → ∃ ao', aops[i]? = some ao' ∧ OrUnnamed ao ao') {K : State → Prop} {Q : Exit → Act → World → Prop} : ∀ (fuel : Nat) (listed : Array Bool) {ro : Option Nat} {c : Ctx} {s : State} {a : Act} {w : World}, c.floor.round = ro → Rel P N c s a w → aAny P ops aops K fuel listed s →
    (∀ c' s' a' w', Ext c.floor.lim c w c' w' → c'.floor = c.floor → Rel P N c' s' a' w' → K s' → Q .normal a' w') → wpAnyIn (fen ro) 0 P .any ops Q fuel listed a w
  | 0, listed, ro, c, s, a, w, hro, h, hK, hQ => ⟨hK.1, hQ c s a w (Ext.refl _ _ _) rfl h hK.2⟩
  | fuel + 1, listed, ro, c, s, a, w, hro, h, hK, hQ => by
    refine ⟨fun h0 => hQ c s a w (Ext.refl _ _ _) rfl h (hK.1 h0), fun i hi => ?_⟩
    have h1 := hK.2 i hi
    obtain ⟨_, o, ho, _⟩ := mem_ready.1 hi
    obtain ⟨ao, hao, hco⟩ := (cOpers_get hc).2 i o (by simpa using ho)
    obtain ⟨ao', hao', hu'⟩ := hun i ao hao
    unfold stepAt at h1
    rw [hao'] at h1
    refine gstep_sound hro ho hco hu' h h1 fun c' s' a' w' hx hf hr hK' => ?_
    exact aAny_sound hc hun fuel _ (by rw [hf]; exact hro) hr hK' fun c2 s2 a2 w2 hx2 hf2 hr2 hK2 => hQ c2 s2 a2 w2 (hx.trans (by rw [← hf]; exact hx2)) (hf2.trans hf) hr2 hK2

theorem Rel.drew (h : Rel P N c s a w) : Rel P N c s a { w with drawn := w.drawn + 1 } ∧ Ext c.next c w c { w with drawn := w.drawn + 1 } := by
  have hx : Ext c.next c w c { w with drawn := w.drawn + 1 } := ⟨rfl, rfl, rfl, Nat.le_refl _, fun _ _ => ⟨rfl, rfl⟩, fun _ _ _ hp => ⟨hp, rfl⟩, Stays.of_eq fun _ _ => rfl, fun _ _ _ _ h => h⟩
  refine ⟨⟨fun t av ht => Rep.ext hx (Nat.le_refl _) _ _ (h.slots t av ht), h.size, h.marks, h.round, h.low, ⟨fun x hm => ?_, h.mem.apart, fun x hm => ?_, h.mem.tapart, h.mem.tids, h.mem.cross, h.mem.below.drew, h.mem.baseLe, h.mem.plt, h.mem.pold⟩, h.next, h.floor⟩, hx⟩
  · exact (h.mem.boxes x hm).ext hx (Nat.le_refl _) rfl fun _ hj => hj
  · exact (h.mem.tips x hm).ext hx (Nat.le_refl _) (fun _ _ => rfl) fun _ _ _ hj => hj

theorem Rel.resp (h : Rel P N c s a w) {s' : State} (he : Eqv s s') : Rel P N c s' a w :=
  ⟨fun t av ht => h.slots t av (by rw [he.slots t]; exact ht), h.size, h.marks, h.round, h.low, by rw [← he.boxes, ← he.tips]; exact h.mem, by rw [← he.next]; exact h.next, h.floor⟩

theorem gstep_mono {o : AOper} {K K' : State → Prop} (hK : ∀ s, K s → K' s) (h : gstep P o s K) : gstep P o s K' := by
  rw [gstep_gs] at h ⊢
  obtain ⟨u, h1, h2⟩ := h
  exact ⟨u, h1, hK _ h2⟩

theorem drun_mono {K K' : State → Prop} (hK : ∀ s, K s → K' s) : ∀ {l : List AOper} {s : State}, drun P l s K → drun P l s K'
  | [], s, h => hK s h
  | _ :: l, s, h => gstep_mono (fun _ h => drun_mono hK h) h

theorem dreg_sound {ops : Array Oper} {l : List AOper} {id : Nat} (hc : cOpers P N ops ops.toList = some l) (hm : P.follows .mixedOrders = true) (hl : lexD ops (unnamed l) ops.size 0 (Array.replicate ops.size false) = true) (h : Rel P N c s a w) {Q : Exit → State → Prop} (hK : drun P (unnamed l) s (Q .normal)) :
    (Code.region id ops true).wpIn (fen c.floor.round) 0 P (fun e a' w' => ∃ c' s', Ext c.floor.lim c w c' w' ∧ c'.floor = c.floor ∧ Rel P N c' s' a' w' ∧ Q e s') a w := by
  refine wpIn_region_any hm ?_
  obtain ⟨hr, hx⟩ := h.drew
  have hlen : (unnamed l).length = ops.size := by simpa [unnamed] using (cOpers_get hc).1
  have hun : ∀ (i : Nat) ao, l[i]? = some ao → ∃ ao', (unnamed l)[i]? = some ao' ∧ OrUnnamed ao ao' := fun i ao hi => ⟨unname l ao, by simp [unnamed, hi], unname_or l ao⟩
  have hw : WfB s := fun x hx => by rw [h.next]; exact (h.mem.boxes x hx).lt
  have := aAny_lex (P := P) (K := fun s' => ∃ s0, Eqv s' s0 ∧ Q .normal s0) (fun s s' he ⟨s0, h1, h2⟩ => ⟨s0, he.symm.trans h1, h2⟩) (unnamed l) 0 (Array.replicate ops.size false) s hw (fun j o hj => by simpa using hj) (by rw [hlen]; exact hl)
    (drun_mono (fun s h => ⟨s, Eqv.refl s, h⟩) hK)
  rw [hlen] at this
  refine aAny_sound hc hun _ _ rfl hr this fun c' s' a' w' hx' hf' hr' hK' => ?_
  obtain ⟨s0, h1, h2⟩ := hK'
  exact ⟨c', s0, (hx.mono h.floor).trans hx', hf', hr'.resp h1, h2⟩

theorem trun_mono {K K' : State → Prop} (hK : ∀ s, K s → K' s) : ∀ {t : ATree} {s : State}, trun P t s K → trun P t s K'
  | .leaf, s, h => hK s h
  | .dead, s, h => h
  | .top, s, h => h
  | .one o t, s, h => gstep_mono (fun _ h => trun_mono hK h) h
  | .both a b, s, h => ⟨trun_mono hK h.1, trun_mono hK h.2⟩

theorem dtr_gen {ops : Array Oper} {l L : List AOper} {id : Nat} (hc : cOpers P N ops ops.toList = some l) (hun : ∀ (i : Nat) ao, l[i]? = some ao → ∃ ao', L[i]? = some ao' ∧ OrUnnamed ao ao') (hm : P.follows .mixedOrders = true) (h : Rel P N c s a w) (hF : c.floor.lim ≤ F) {Q : Exit → State → Prop}
    (hK : trun P (mkT ops L ops.size (Array.replicate ops.size false)) s (fun s' => ∃ s1, Weak P F s' s1 ∧ Q .normal s1)) :
    (Code.region id ops true).wpIn (fen c.floor.round) 0 P (fun e a' w' => ∃ c' s', Ext c.floor.lim c w c' w' ∧ c'.floor = c.floor ∧ Rel P N c' s' a' w' ∧ Q e s') a w := by
  refine wpIn_region_any hm ?_
  obtain ⟨hr, hx⟩ := h.drew
  have hw : WfB s := fun x hx => by rw [h.next]; exact (h.mem.boxes x hx).lt
  have := aAny_tree (P := P) (K := fun s' => ∃ s0, Eqv s' s0 ∧ ∃ s1, Weak P F s0 s1 ∧ Q .normal s1) (fun s s' he ⟨s0, h1, h2⟩ => ⟨s0, he.symm.trans h1, h2⟩) ops.size (Array.replicate ops.size false) s hw
    (trun_mono (fun s h => ⟨s, Eqv.refl s, h⟩) hK)
  refine aAny_sound hc hun _ _ rfl hr this fun c' s' a' w' hx' hf' hr' hK' => ?_
  obtain ⟨s0, h1, s1, h2, h3⟩ := hK'
  obtain ⟨c1, m1, m2, m3⟩ := h2 N c' a' w' (by rw [hf']; exact hF) (hr'.resp h1)
  exact ⟨c1, s1, ((hx.mono h.floor).trans hx').trans (by rw [← hf']; exact m1), m2.trans hf', m3, h3⟩

theorem dtr_sound {ops : Array Oper} {l : List AOper} {id : Nat} (hc : cOpers P N ops ops.toList = some l) (hm : P.follows .mixedOrders = true) (h : Rel P N c s a w) (hF : c.floor.lim ≤ F) {Q : Exit → State → Prop}
    (hK : trun P (pickT ops l) s (fun s' => ∃ s1, Weak P F s' s1 ∧ Q .normal s1)) :
    (Code.region id ops true).wpIn (fen c.floor.round) 0 P (fun e a' w' => ∃ c' s', Ext c.floor.lim c w c' w' ∧ c'.floor = c.floor ∧ Rel P N c' s' a' w' ∧ Q e s') a w := by
  unfold pickT at hK
  split at hK
  · exact dtr_gen hc (fun i ao hi => ⟨unname l ao, by simp [unnamed, hi], unname_or l ao⟩) hm h hF hK
  · exact dtr_gen hc (fun i ao hi => ⟨stays l ao, by simp [settled, hi], stays_or l ao⟩) hm h hF hK

/-! ### A call that comes last -/

/-- What is listed waits for nothing that is not. -/
def Closed (ops : Array Oper) (listed : Array Bool) : Prop := listed.size = ops.size ∧ ∀ i D, Dok ops i D → listed.getD i true = false → ∀ j, listed.getD j true = true → D.contains j = false

theorem Closed.init (ops : Array Oper) : Closed ops (Array.replicate ops.size false) := by
  refine ⟨by simp, fun i D hD _ j hj => ?_⟩
  rw [Bool.eq_false_iff]
  intro hh
  obtain ⟨oj, h1, _⟩ := hD j (by simpa using hh)
  have h2 := (Array.getElem?_eq_some_iff.1 h1).1
  simp [h2] at hj

theorem Closed.step {ops : Array Oper} {listed : Array Bool} (h : Closed ops listed) {k : Nat} (hk : k ∈ Region.ready .any ops listed) : Closed ops (listed.setIfInBounds k true) := by
  refine ⟨by simpa using h.1, fun i D hD hi j hj => ?_⟩
  have hki : k ≠ i := by
    rintro rfl
    have h0 := (mem_ready.1 hk).1
    rcases Nat.lt_or_ge k listed.size with h' | h'
    · simp [h'] at hi
    · simp [h'] at h0
  rw [getD_set_ne true hki] at hi
  by_cases hkj : k = j
  · subst hkj
    exact ready_free hD (h.2 i D hD hi) hk hi
  · rw [getD_set_ne true hkj] at hj
    exact h.2 i D hD hi j hj

theorem ready_some {ops : Array Oper} {listed : Array Bool} (hsz : listed.size = ops.size) (hedge : ∀ (j : Nat) (o : Oper), ops[j]? = some o → ∀ e ∈ o.after, e.on < j) : ∀ (n m : Nat), m ≤ n → listed.getD m true = false → ∃ i, i ∈ Region.ready .any ops listed
  | n, m, hmn, hm => by
    have hlt : m < ops.size := by
      rw [← hsz]
      rcases Nat.lt_or_ge m listed.size with h' | h'
      · exact h'
      · simp [h'] at hm
    by_cases hall : ∀ e ∈ (ops[m]).after, Region.binds .any e = true → listed.getD e.on false = true
    · exact ⟨m, mem_ready.2 ⟨hm, ops[m], Array.getElem?_eq_getElem hlt, hall⟩⟩
    · simp only [Classical.not_forall] at hall
      obtain ⟨e, he, hb, hl⟩ := hall
      have hon := hedge m _ (Array.getElem?_eq_getElem hlt) e he
      have h2 : listed.getD e.on true = false := by
        have h' : e.on < listed.size := by omega
        simp [h'] at hl ⊢
        exact hl
      match n with
      | 0 => omega
      | n + 1 => exact ready_some hsz hedge n e.on (by omega) h2

theorem holdL_get {ops : Array Oper} {n i : Nat} (hi : i ≠ n) : (holdL ops n)[i]? = ops[i]? := by
  unfold holdL
  rw [Array.getElem?_modify]
  simp [Ne.symm hi]

theorem holdL_at {ops : Array Oper} {n : Nat} {o : Oper} (h : ops[n]? = some o) : (holdL ops n)[n]? = some { o with after := o.after ++ o.after.map fun e => { e with on := n } } := by
  unfold holdL
  rw [Array.getElem?_modify]
  simp [h]

theorem aLast_sound {ops : Array Oper} {aops0 aops : List AOper} (hc : cOpers P N ops ops.toList = some aops0) (hun : ∀ (i : Nat) ao, aops0[i]? = some ao → ∃ ao', aops[i]? = some ao' ∧ OrUnnamed ao ao') {n : Nat} (hn : ops.size = n + 1)
    (hedge : ∀ (j : Nat) (o : Oper), ops[j]? = some o → ∀ e ∈ o.after, e.on < j) (hall : ∀ j, j < n → ∃ D, Dok ops j D ∧ D.contains n = true) (hpos : 0 < n) {K : State → Prop} {Q : Exit → Act → World → Prop} : ∀ (fuel : Nat) (listed : Array Bool) {ro : Option Nat} {c : Ctx} {s : State} {a : Act} {w : World}, c.floor.round = ro → Rel P N c s a w →
    Closed ops listed → listed.getD n true = false → aAny P (holdL ops n) aops K fuel listed s →
    (∀ c' s' a' w', Ext c.floor.lim c w c' w' → c'.floor = c.floor → Rel P N c' s' a' w' → K s' → wpOpIn (fen ro) 0 P ops Q n (Q .normal) a' w') → wpAnyIn (fen ro) 0 P .any ops Q (fuel + 1) listed a w := by
  obtain ⟨o, ho⟩ : ∃ o, ops[n]? = some o := ⟨_, Array.getElem?_eq_getElem (by omega)⟩
  have hbind : ∃ e ∈ o.after, Region.binds .any e = true := by
    obtain ⟨D, hD, hDn⟩ := hall 0 hpos
    obtain ⟨oj, h1, e, h2, h3, _⟩ := hD n (by simpa using hDn)
    rw [ho, Option.some.injEq] at h1
    subst h1
    exact ⟨e, h2, h3⟩
  -- the last one is not ready where it is held back
  have held : ∀ listed : Array Bool, listed.getD n true = false → n ∉ Region.ready .any (holdL ops n) listed := by
    intro listed hnl hr
    obtain ⟨_, o', h1, h2⟩ := mem_ready.1 hr
    rw [holdL_at ho, Option.some.injEq] at h1
    subst h1
    obtain ⟨e, he, hb⟩ := hbind
    have := h2 { e with on := n } (by simp only [Array.mem_append, Array.mem_map]; exact .inr ⟨e, he, rfl⟩) hb
    simp only at this
    rcases Nat.lt_or_ge n listed.size with h' | h'
    · simp [h'] at hnl this
      rw [hnl] at this; cases this
    · simp [h'] at hnl
  have other : ∀ (listed : Array Bool) (i : Nat), i ≠ n → (i ∈ Region.ready .any (holdL ops n) listed ↔ i ∈ Region.ready .any ops listed) := by
    intro listed i hi
    rw [mem_ready, mem_ready, holdL_get hi]
  -- where the last one is ready, all others are listed
  have others : ∀ listed : Array Bool, Closed ops listed → n ∈ Region.ready .any ops listed → ∀ j, j < n → listed.getD j true = true := by
    intro listed hcl hr j hj
    cases hg : listed.getD j true with
    | true => rfl
    | false =>
      obtain ⟨D, hD, hDn⟩ := hall j hj
      have := ready_free hD (hcl.2 j D hD hg) hr hg
      rw [hDn] at this; cases this
  have empty : ∀ listed : Array Bool, (∀ j, j < n → listed.getD j true = true) → listed.getD n true = false → Region.ready .any (holdL ops n) listed = [] := by
    intro listed h1 h2
    refine List.eq_nil_iff_forall_not_mem.2 fun i hi => ?_
    by_cases hin : i = n
    · subst hin; exact held listed h2 hi
    · have hi' := (other listed i hin).1 hi
      obtain ⟨h3, o', h4, _⟩ := mem_ready.1 hi'
      have := (Array.getElem?_eq_some_iff.1 h4).1
      rw [h1 i (by omega)] at h3; cases h3
  have done : ∀ (listed : Array Bool) (fuel : Nat) (ro : Option Nat) (a : Act) (w : World), (∀ j, j < n → listed.getD j true = true) → Q .normal a w → wpAnyIn (fen ro) 0 P .any ops Q fuel (listed.setIfInBounds n true) a w := by
    intro listed fuel ro a w h1 hq
    have hr : Region.ready .any ops (listed.setIfInBounds n true) = [] := by
      refine List.eq_nil_iff_forall_not_mem.2 fun i hi => ?_
      obtain ⟨h3, o', h4, _⟩ := mem_ready.1 hi
      have hlt := (Array.getElem?_eq_some_iff.1 h4).1
      by_cases hin : n = i
      · subst hin
        rcases Nat.lt_or_ge n listed.size with h' | h'
        · simp [h'] at h3
        · simp [h'] at h3
      · rw [getD_set_ne true hin, h1 i (by omega)] at h3; cases h3
    cases fuel with
    | zero => exact ⟨hr, hq⟩
    | succ fuel => exact ⟨fun _ => hq, fun i hi => by rw [hr] at hi; cases hi⟩
  intro fuel
  induction fuel with
  | zero =>
    intro listed ro c s a w hro h hcl hnl hK hQ
    refine ⟨fun h0 => ?_, fun i hi => ?_⟩
    · obtain ⟨i, hi⟩ := ready_some hcl.1 hedge n n (Nat.le_refl _) hnl
      rw [h0] at hi; cases hi
    · by_cases hin : i = n
      · subst hin
        have h1 := others listed hcl hi
        exact wpOpIn_mono (fun a w hq => done listed 0 ro a w h1 hq) (hQ c s a w (Ext.refl _ _ _) rfl h hK.2)
      · have := (other listed i hin).2 hi
        rw [hK.1] at this; cases this
  | succ fuel ih =>
    intro listed ro c s a w hro h hcl hnl hK hQ
    refine ⟨fun h0 => ?_, fun i hi => ?_⟩
    · obtain ⟨i, hi⟩ := ready_some hcl.1 hedge n n (Nat.le_refl _) hnl
      rw [h0] at hi; cases hi
    · by_cases hin : i = n
      · subst hin
        have h1 := others listed hcl hi
        exact wpOpIn_mono (fun a w hq => done listed (fuel + 1) ro a w h1 hq) (hQ c s a w (Ext.refl _ _ _) rfl h (hK.1 (empty listed h1 hnl)))
      · have h1 := hK.2 i ((other listed i hin).2 hi)
        obtain ⟨_, oi, hoi, _⟩ := mem_ready.1 hi
        obtain ⟨ao, hao, hco⟩ := (cOpers_get hc).2 i oi (by simpa using hoi)
        obtain ⟨ao', hao', hu'⟩ := hun i ao hao
        unfold stepAt at h1
        rw [hao'] at h1
        refine gstep_sound hro hoi hco hu' h h1 fun c' s' a' w' hx hf hr hK' => ?_
        exact ih _ (by rw [hf]; exact hro) hr (hcl.step hi) (by rw [getD_set_ne true hin]; exact hnl) hK' fun c2 s2 a2 w2 hx2 hf2 hr2 hK2 => hQ c2 s2 a2 w2 (hx.trans (by rw [← hf]; exact hx2)) (hf2.trans hf) hr2 hK2

theorem last_sound {ops : Array Oper} {l : List AOper} {id : Nat} (hc : cOpers P N ops ops.toList = some l) (hm : P.follows .mixedOrders = true) (hl : lastB ops l = true) (h : Rel P N c s a w) {Q : Exit → State → Prop}
    (hK : drun P ((unnamed l).take (ops.size - 1)) s (fun s' => arun P (l.drop (ops.size - 1)) s' (Q .normal))) :
    (Code.region id ops true).wpIn (fen c.floor.round) 0 P (fun e a' w' => ∃ c' s', Ext c.floor.lim c w c' w' ∧ c'.floor = c.floor ∧ Rel P N c' s' a' w' ∧ Q e s') a w := by
  unfold lastB at hl
  split at hl
  · rename_i n d f args hn hlast
    simp only [Bool.and_eq_true, decide_eq_true_eq] at hl
    obtain ⟨⟨⟨hpos, hdep⟩, hedge⟩, hlex⟩ := hl
    have hn : ops.size = n + 1 := hn
    have hlen : l.length = n + 1 := by
      have : l.length = ops.size := by simpa using (cOpers_get hc).1
      omega
    rw [hn, show n + 1 - 1 = n from rfl] at hK
    have hln : l[n]? = some ⟨d, .call f args, none⟩ := by
      rw [List.getLast?_eq_getElem?, hlen] at hlast
      exact hlast
    have hdrop : l.drop n = [⟨d, .call f args, none⟩] := by
      have h1 : n < l.length := by omega
      rw [List.drop_eq_getElem_cons h1, List.drop_of_length_le (by omega)]
      rw [List.getElem?_eq_getElem h1, Option.some.injEq] at hln
      rw [hln]
    rw [hdrop] at hK
    refine wpIn_region_any hm ?_
    obtain ⟨hr, hx⟩ := h.drew
    have hun : ∀ (i : Nat) ao, l[i]? = some ao → ∃ ao', (unnamed l)[i]? = some ao' ∧ OrUnnamed ao ao' := fun i ao hi => ⟨unname l ao, by simp [unnamed, hi], unname_or l ao⟩
    have hw : WfB s := fun x hx => by rw [h.next]; exact (h.mem.boxes x hx).lt
    have hul : ((unnamed l).take n).length = n := by rw [List.length_take]; simp [unnamed]; omega
    have hA := aAny_lex (P := P) (ops := holdL ops n) (aops := unnamed l) (K := fun s' => ∃ s0, Eqv s' s0 ∧ arun P [⟨d, .call f args, none⟩] s0 (Q .normal)) (fun s s' he ⟨s0, h1, h2⟩ => ⟨s0, he.symm.trans h1, h2⟩) ((unnamed l).take n) 0 (Array.replicate ops.size false) s hw
      (fun j o hj => by rw [Nat.zero_add]; rw [List.getElem?_take] at hj; split at hj; exact hj; cases hj) (by rw [hul]; exact hlex)
      (drun_mono (fun s h => ⟨s, Eqv.refl s, h⟩) hK)
    rw [hul] at hA
    rw [hn]
    rw [hn] at hA
    refine aLast_sound hc hun hn (fun j o hj e he => ?_) (fun j hj => ?_) hpos n (Array.replicate (n + 1) false) rfl hr (by have := Closed.init ops; rw [hn] at this; exact this) (by simp) hA fun c' s' a' w' hx' hf' hr' hK' => ?_
    · have h1 := List.all_eq_true.1 hedge j (List.mem_range.2 (by have := (Array.getElem?_eq_some_iff.1 hj).1; omega))
      rw [hj] at h1
      have h2 := Array.all_eq_true'.1 h1 e he
      simpa using h2
    · have h1 := List.all_eq_true.1 hdep j (List.mem_range.2 hj)
      obtain ⟨D, hD, hf⟩ := depGo_ok _ _ _ (fun j hj => by cases hj) h1
      exact ⟨D, hD, hf⟩
    · obtain ⟨s0, h1, h2⟩ := hK'
      obtain ⟨o, ho⟩ : ∃ o, ops[n]? = some o := ⟨_, Array.getElem?_eq_getElem (by omega)⟩
      obtain ⟨ao, hao, hco⟩ := (cOpers_get hc).2 n o (by simpa using ho)
      rw [hln, Option.some.injEq] at hao
      subst hao
      have hrel := hr'.resp h1
      obtain ⟨hw1, hop, hdst, hdN⟩ := wanted_eq hrel hco
      have hwt : Region.wanted o (yielded ops a'.tmps) = true := by rw [hw1]
      simp only [arun] at h2
      unfold wpOpIn
      rw [ho]
      simp only [hwt, if_true]
      have hsd := astepD_sound hrel hop hdN (by rw [hdst]; exact h2) (fun e a' w' => ∃ c' s', Ext c.floor.lim c w c' w' ∧ c'.floor = c.floor ∧ Rel P N c' s' a' w' ∧ Q e s')
      rw [hf'] at hsd
      refine Go.Oper.wpIn_mono ?_ hsd
      rintro a1 w1 ⟨c1, s1, k1, k2, k3, k4⟩
      exact ⟨c1, s1, ((hx.mono h.floor).trans hx').trans (by rw [← hf']; exact k1), k2.trans hf', k3, k4⟩
  · cases hl

theorem exists_least {p : Nat → Prop} (h : ∃ n, p n) : ∃ n, p n ∧ ∀ m, p m → n ≤ m := by
  obtain ⟨n, hn⟩ := h
  induction n using Nat.strongRecOn with
  | _ n ih =>
    by_cases hl : ∃ m, m < n ∧ p m
    · obtain ⟨m, h1, h2⟩ := hl
      exact ih m h1 h2
    · exact ⟨n, hn, fun m hm => Nat.le_of_not_lt fun h => hl ⟨m, h, hm⟩⟩

/-- The least number of a kind. -/
noncomputable def least (p : Nat → Prop) : Nat := Classical.epsilon fun n => p n ∧ ∀ m, p m → n ≤ m

theorem least_spec {p : Nat → Prop} (h : ∃ n, p n) : p (least p) ∧ ∀ m, p m → least p ≤ m := Classical.epsilon_spec (p := fun n => p n ∧ ∀ m, p m → n ≤ m) (exists_least h)

/-- A frame and a world at a loop's head, and how far it has to go. -/
def AtHead (P : Program) (N : Nat) (c : Ctx) (w : World) (I : State → Prop) (μ : State → Nat) (a' : Act) (w' : World) (n : Nat) : Prop :=
  ∃ c' s', Ext c.floor.lim c w c' w' ∧ c'.floor = c.floor ∧ Rel P N c' s' a' w' ∧ I s' ∧ μ s' = n

theorem AWP.at {C : Code} {Q : Exit → State → Prop} {c1 : Ctx} {fl : Floor} (h : AWP P N F C Q s) (hf : c1.floor = fl) (hfl : fl.lim ≤ F) (hr : Rel P N c1 s a w) :
    C.wpIn (fen fl.round) 0 P (fun e a' w' => ∃ c' s', Ext fl.lim c1 w c' w' ∧ c'.floor = fl ∧ Rel P N c' s' a' w' ∧ Q e s') a w := by
  subst hf
  exact h c1 a w hfl hr

theorem loop_sound {C : Code} {Q : Exit → State → Prop} (I : State → Prop) (μ : State → Nat) (hstep : ∀ s, I s → AWP P N F C (xThen (fun s' => ∃ s1, Weak P F s' s1 ∧ I s1 ∧ μ s1 < μ s) Q) s) {s0 : State} (h0 : I s0) : AWP P N F (.loop C) Q s0 := by
  intro c a w hfl hr
  refine wpIn_loop (fun a' w' => ∃ n, AtHead P N c w I μ a' w' n) (fun a' w' => least (AtHead P N c w I μ a' w')) ⟨_, c, s0, Ext.refl _ _ _, rfl, hr, h0, rfl⟩ ?_
  intro a1 w1 hh
  obtain ⟨⟨c1, s1, h1, h2, h3, h4, h5⟩, hmin⟩ := least_spec hh
  refine wpIn_mono ((hstep s1 h4).at h2 hfl h3) ?_
  rintro e a2 w2 ⟨c2, s2, g1, g2, g3, g4⟩
  have hf : c2.floor = c.floor := g2
  have hx2 : Ext c.floor.lim c w c2 w2 := h1.trans g1
  cases e with
  | normal =>
    obtain ⟨s3, k1, k2, k3⟩ := g4
    obtain ⟨c3, m1, m2, m3⟩ := k1 N c2 a2 w2 (by rw [hf]; exact hfl) g3
    have hT : AtHead P N c w I μ a2 w2 (μ s3) := ⟨c3, s3, hx2.trans (by rw [← hf]; exact m1), m2.trans hf, m3, k2, rfl⟩
    refine ⟨⟨_, hT⟩, ?_⟩
    have hle := (least_spec ⟨_, hT⟩).2 _ hT
    rw [h5] at k3
    exact Nat.lt_of_le_of_lt hle k3
  | _ => exact ⟨c2, s2, hx2, hf, g3, g4⟩

theorem awp_weak {C : Code} {Q : Exit → State → Prop} {s1 : State} (hw : Weak P F s s1) (h : AWP P N F C Q s1) : AWP P N F C Q s := by
  intro c a w hfl hr
  obtain ⟨c1, g1, g2, g3⟩ := hw N c a w hfl hr
  refine wpIn_mono (h.at g2 hfl g3) ?_
  rintro e a2 w2 ⟨c2, s2, k1, k2, k3, k4⟩
  exact ⟨c2, s2, g1.trans k1, k2, k3, k4⟩

/-- THE WALK: what the abstract machine shows of code holds of the model's. -/
theorem awp_sound : ∀ (C : Code) {A : ACode}, cCode P N C = some A → ∀ {Q : Exit → State → Prop} {s : State}, awp P F A Q s → AWP P N F C Q s
  | .skip, A, hc, Q, s, h => by
    simp only [cCode, Option.some.injEq] at hc; subst hc
    exact fun c a w hfl hr => wpIn_skip ⟨c, s, Ext.refl _ _ _, rfl, hr, h⟩
  | .region id ops draw, A, hc, Q, s, h => by
    cases draw with
    | true =>
      simp only [cCode] at hc
      split at hc
      · rename_i l hl
        split at hc
        · rename_i hd
          simp only [Bool.and_eq_true] at hd
          split at hc
          · rename_i hlb
            simp only [Option.some.injEq] at hc; subst hc
            simp only [Bool.and_eq_true] at hlb
            exact fun c a w hfl hr => last_sound hl hlb.1 hlb.2 hr h
          · simp only [Option.some.injEq] at hc; subst hc
            exact fun c a w hfl hr => dreg_sound hl hd.1 hd.2 hr h
        · split at hc
          · rename_i hd
            simp only [Option.some.injEq] at hc; subst hc
            simp only [Bool.and_eq_true] at hd
            exact fun c a w hfl hr => dtr_sound hl hd.1 hr hfl h
          · cases hc
      · cases hc
    | false =>
      simp only [cCode] at hc
      cases ho : cOpers P N ops ops.toList with
      | none => rw [ho] at hc; cases hc
      | some l' =>
        rw [ho] at hc
        simp only [Option.map_some, Option.some.injEq] at hc; subst hc
        intro c a w hfl hr
        refine wpIn_region ?_
        have := arun_sound (Q := fun e a' w' => ∃ c' s', Ext c.floor.lim c w c' w' ∧ c'.floor = c.floor ∧ Rel P N c' s' a' w' ∧ Q e s') (k := 0) rfl ho (fun j o hj => by simpa using hj) hr h (fun c' s' a' w' hx hf hr' hK => ⟨c', s', hx, hf, hr', hK⟩)
        rwa [← List.range_eq_range', Array.length_toList] at this
  | .seq x y, A, hc, Q, s, h => by
    simp only [cCode] at hc
    split at hc
    · rename_i x' y' hx hy
      simp only [Option.some.injEq] at hc; subst hc
      intro c a w hfl hr
      refine wpIn_seq (wpIn_mono (awp_sound x hx h c a w hfl hr) ?_)
      rintro e a1 w1 ⟨c1, s1, h1, h2, h3, h4⟩
      cases e with
      | normal =>
        refine wpIn_mono ((awp_sound y hy h4).at h2 hfl h3) ?_
        rintro e a2 w2 ⟨c2, s2, g1, g2, g3, g4⟩
        exact ⟨c2, s2, h1.trans g1, g2, g3, g4⟩
      | _ => exact ⟨c1, s1, h1, h2, h3, h4⟩
    · cases hc
  | .cond cn x y, A, hc, Q, s, h => by
    simp only [cCode] at hc
    split at hc
    · rename_i z x' y' hz hx hy
      simp only [Option.some.injEq] at hc; subst hc
      intro c a w hfl hr
      simp only [awp] at h
      split at h
      · rename_i t ht
        have hv := ev_sound hr hz ht
        simp only [Rep] at hv
        refine wpIn_cond hv ?_
        cases t
        · simp only [Bool.false_eq_true, if_false] at h ⊢
          exact awp_sound y hy h c a w hfl hr
        · simp only [if_true] at h ⊢
          exact awp_sound x hx h c a w hfl hr
      · exact h.elim
    · cases hc
  | .block id x, A, hc, Q, s, h => by
    simp only [cCode] at hc
    cases hx : cCode P N x with
    | none => rw [hx] at hc; cases hc
    | some x' =>
      rw [hx] at hc
      simp only [Option.map_some, Option.some.injEq] at hc; subst hc
      intro c a w hfl hr
      refine wpIn_block (wpIn_mono (awp_sound x hx h c a w hfl hr) ?_)
      rintro e a1 w1 ⟨c1, s1, h1, h2, h3, h4⟩
      cases e with
      | exit i =>
        simp only [xBlock] at h4
        simp only [Exit.inBlock]
        split
        · rename_i hi; rw [if_pos hi] at h4; exact ⟨c1, s1, h1, h2, h3, h4⟩
        · rename_i hi; rw [if_neg hi] at h4; exact ⟨c1, s1, h1, h2, h3, h4⟩
      | _ => exact ⟨c1, s1, h1, h2, h3, h4⟩
  | .loop x, A, hc, Q, s, h => by
    simp only [cCode] at hc
    cases hx : cCode P N x with
    | none => rw [hx] at hc; cases hc
    | some x' =>
      rw [hx] at hc
      simp only [Option.map_some, Option.some.injEq] at hc; subst hc
      obtain ⟨I, μ, ⟨s0, hs0, hI0⟩, hstep⟩ := h
      exact awp_weak hs0 (loop_sound I μ (fun s1 hI => awp_sound x hx (hstep s1 hI)) hI0)
  | .exit id, A, hc, Q, s, h => by
    simp only [cCode, Option.some.injEq] at hc; subst hc
    exact fun c a w hfl hr => wpIn_exit ⟨c, s, Ext.refl _ _ _, rfl, hr, h⟩
  | .ret, A, hc, Q, s, h => by
    simp only [cCode, Option.some.injEq] at hc; subst hc
    exact fun c a w hfl hr => wpIn_ret ⟨c, s, Ext.refl _ _ _, rfl, hr, h⟩
  | .rangeFunc g ps a b, A, hc, Q, s, h => by
    simp only [cCode] at hc
    split at hc
    · rename_i x y z hx hy hz
      split at hc
      · simp only [Option.some.injEq] at hc; subst hc
        simp only [awp] at h
        split at h
        · rename_i it first cap hg
          obtain ⟨ks, cells, h1, h2⟩ := h
          exact AWP_rangeFunc hx hg hy hz h1 h2
        · exact h.elim
      · cases hc
    · cases hc
  | .scope _, A, hc, Q, s, h => by
    simp only [cCode, Option.some.injEq] at hc; subst hc
    exact h.elim
  | .label _, A, hc, Q, s, h => by
    simp only [cCode, Option.some.injEq] at hc; subst hc
    exact h.elim
  | .goto _, A, hc, Q, s, h => by
    simp only [cCode, Option.some.injEq] at hc; subst hc
    exact h.elim
  | .refuse _, A, hc, Q, s, h => by
    simp only [cCode, Option.some.injEq] at hc; subst hc
    exact h.elim
end
end Go.Ab
