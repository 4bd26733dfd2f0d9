/-
Straight code at known values, carried out by computing. Conditions: none.
-/
import Derived.Test.YteekelelcbfekaaDoorAbWeak
set_option linter.unusedSimpArgs false
set_option linter.unusedVariables false
set_option linter.unusedSectionVars false
namespace Go.Ab
open Go Go.RowKit

def srcEB (e : TypeId) : AV → Bool
  | .sl e' _ _ => e' == e
  | _ => true

/-- One operation, carried out. -/
def stepC (s : State) (d : Option Nat) (op : AOp) : Option State :=
  match op with
  | .alc _ zero => if allOne (zero.map .lit) = true then some ({ s with boxes := (s.next, zero.map .lit) :: s.boxes, next := s.next + 1 }.put d (.bp s.next 0)) else none
  | .box _ x => match s.ev x with
    | some av => if allOne av.cells = true then some ({ s with boxes := (s.next, av.cells) :: s.boxes, next := s.next + 1 }.put d (.bp s.next 0)) else none
    | none => none
  | .st n x y => match s.ev x, s.ev y with
    | some (.bp id off), some av => match boxAt s.boxes id with
      | some cells => if av.cells.length = n ∧ off + n ≤ cells.length ∧ allOne av.cells = true then some ({ s with boxes := setBox s.boxes id (cells.take off ++ av.cells ++ cells.drop (off + n)) }.del d) else none
      | none => none
    | _, _ => none
  | .bs e n xs => match s.evs xs with
    | some avs => match valsL avs with
      | some els => if (lenAll n els && oneV els) = true then some ({ s with tips := (s.next, e) :: s.tips, next := s.next + 1 }.put d (bsV e els s.next)) else none
      | none => none
    | none => none
  | .xe x xs => match s.evs xs with
    | some avs => (x.eff s.boxes s.tips s.next avs).map fun u => u.ap d s
    | none => none
  | .app _ _ _ _ | .call _ _ | .callT _ _ | .nxt _ _ => none
  | op => match vop s op with
    | some av => some (s.put d av)
    | none => none

def runOpsC : List AOper → State → Option State
  | [], s => some s
  | o :: rest, s => match o.guard with
    | none => match stepC s o.dst o.op with
      | some s' => runOpsC rest s'
      | none => none
    | some (t, want) => match look s.slots t with
      | some (.lit (.bool b)) => if b = want then (match stepC s o.dst o.op with
        | some s' => runOpsC rest s'
        | none => none) else runOpsC rest (s.put o.dst (.lit undef))
      | some (.lit (.tuple _)) => runOpsC rest (s.put o.dst (.lit undef))
      | _ => none

def runC : ACode → State → Option (Exit × State)
  | .skip, s => some (.normal, s)
  | .reg ops, s => match runOpsC ops s with
    | some s' => some (.normal, s')
    | none => none
  | .seq a b, s => match runC a s with
    | some (.normal, s') => runC b s'
    | x => x
  | .cond c a b, s => match s.ev c with
    | some (.lit (.bool t)) => if t = true then runC a s else runC b s
    | _ => none
  | .block id a, s => match runC a s with
    | some (.exit i, s') => if i = id then some (.normal, s') else some (.exit i, s')
    | x => x
  | .exit id, s => some (.exit id, s)
  | .ret, s => some (.ret, s)
  | _, _ => none

section
variable {P : Program} {F : Nat} {s : State}

theorem stepC_sound {d : Option Nat} {op : AOp} {s' : State} (h : stepC s d op = some s') {K : State → Prop} (hK : K s') : astep P d op s K := by
  have value : (match vop s op with | some av => some (s.put d av) | none => none) = some s' → (match vop s op with | some av => K (s.put d av) | none => False) := fun h => by
    split at h
    · simp only [Option.some.injEq] at h; subst h; exact hK
    · cases h
  cases op <;> try exact value h
  case alc e z =>
    simp only [stepC, astep] at h ⊢
    split at h
    · rename_i h1; rw [if_pos h1]; simp only [Option.some.injEq] at h; subst h; exact hK
    · cases h
  case box e x =>
    simp only [stepC, astep] at h ⊢
    split at h
    · rename_i av hx
      split at h
      · rename_i h1; simp only [hx]; rw [if_pos h1]; simp only [Option.some.injEq] at h; subst h; exact hK
      · cases h
    · cases h
  case st n x y =>
    simp only [stepC, astep] at h ⊢
    split at h
    · rename_i id off av hx hy
      split at h
      · rename_i cells hb
        split at h
        · rename_i h1; simp only [hx, hy, hb]; rw [if_pos h1]; simp only [Option.some.injEq] at h; subst h; exact hK
        · cases h
      · cases h
    · cases h
  case bs e n xs =>
    simp only [stepC, astep] at h ⊢
    split at h
    · rename_i avs hx
      split at h
      · rename_i els he
        split at h
        · rename_i h1; simp only [hx, he]; rw [if_pos h1]; simp only [Option.some.injEq] at h; subst h; exact ⟨_, .inl rfl, hK⟩
        · cases h
      · cases h
    · cases h
  case xe x xs =>
    simp only [stepC, astep] at h ⊢
    split at h
    · rename_i avs ha
      simp only [ha]
      cases hu : x.eff s.boxes s.tips s.next avs with
      | none => rw [hu] at h; cases h
      | some u => rw [hu] at h; simp only [Option.map_some, Option.some.injEq] at h; subst h; exact hK
    · cases h
  case app => simp [stepC] at h
  case call => simp [stepC] at h
  case callT => simp [stepC] at h
  case nxt => simp [stepC] at h

theorem runOpsC_sound : ∀ {l : List AOper} {s s' : State}, runOpsC l s = some s' → ∀ {K : State → Prop}, K s' → arun P l s K
  | [], s, s', h, K, hK => by simp only [runOpsC, Option.some.injEq] at h; subst h; exact hK
  | o :: rest, s, s', h, K, hK => by
    simp only [runOpsC] at h
    simp only [arun]
    split at h
    · rename_i hg
      simp only [hg]
      split at h
      · rename_i s1 h1
        exact stepC_sound (K := fun s' => arun P rest s' K) h1 (runOpsC_sound h hK)
      · cases h
    · rename_i t want hg
      simp only [hg]
      split at h
      · rename_i b hb
        simp only [hb]
        split at h
        · rename_i hbw
          rw [if_pos hbw]
          split at h
          · rename_i s1 h1
            exact stepC_sound (K := fun s' => arun P rest s' K) h1 (runOpsC_sound h hK)
          · cases h
        · rename_i hbw
          rw [if_neg hbw]
          exact runOpsC_sound h hK
      · rename_i vs hb
        simp only [hb]
        exact runOpsC_sound h hK
      · cases h

theorem runC_sound : ∀ {A : ACode} {s : State} {e : Exit} {s' : State}, runC A s = some (e, s') → ∀ {Q : Exit → State → Prop}, Q e s' → awp P F A Q s
  | .skip, s, e, s', h, Q, hQ => by simp only [runC, Option.some.injEq, Prod.mk.injEq] at h; obtain ⟨rfl, rfl⟩ := h; exact hQ
  | .reg ops, s, e, s', h, Q, hQ => by
    simp only [runC] at h
    split at h
    · rename_i s1 h1
      simp only [Option.some.injEq, Prod.mk.injEq] at h; obtain ⟨rfl, rfl⟩ := h
      exact runOpsC_sound h1 hQ
    · cases h
  | .seq a b, s, e, s', h, Q, hQ => by
    simp only [runC] at h
    split at h
    · rename_i s1 h1
      exact runC_sound (A := a) h1 (runC_sound (A := b) h hQ)
    · rename_i x hx
      refine runC_sound (A := a) h ?_
      cases e with
      | normal => exact absurd h (hx _)
      | _ => exact hQ
  | .cond c a b, s, e, s', h, Q, hQ => by
    simp only [runC] at h
    simp only [awp]
    split at h
    · rename_i t ht
      simp only [ht]
      split at h
      · rename_i h1; rw [if_pos h1]; exact runC_sound h hQ
      · rename_i h1; rw [if_neg h1]; exact runC_sound h hQ
    · cases h
  | .block id a, s, e, s', h, Q, hQ => by
    simp only [runC] at h
    simp only [awp]
    split at h
    · rename_i i s1 h1
      split at h
      · rename_i hi
        simp only [Option.some.injEq, Prod.mk.injEq] at h; obtain ⟨rfl, rfl⟩ := h
        exact runC_sound (A := a) h1 (by simp only [xBlock]; rw [if_pos hi]; exact hQ)
      · rename_i hi
        simp only [Option.some.injEq, Prod.mk.injEq] at h; obtain ⟨rfl, rfl⟩ := h
        exact runC_sound (A := a) h1 (by simp only [xBlock]; rw [if_neg hi]; exact hQ)
    · rename_i x hx
      refine runC_sound (A := a) h ?_
      cases e with
      | exit i => exact absurd h (hx _ _)
      | _ => exact hQ
  | .exit id, s, e, s', h, Q, hQ => by simp only [runC, Option.some.injEq, Prod.mk.injEq] at h; obtain ⟨rfl, rfl⟩ := h; exact hQ
  | .ret, s, e, s', h, Q, hQ => by simp only [runC, Option.some.injEq, Prod.mk.injEq] at h; obtain ⟨rfl, rfl⟩ := h; exact hQ
  | .dreg _, s, e, s', h, Q, hQ => by simp [runC] at h
  | .dtr _, s, e, s', h, Q, hQ => by simp [runC] at h
  | .loop _, s, e, s', h, Q, hQ => by simp [runC] at h
  | .rfn _ _ _ _ _, s, e, s', h, Q, hQ => by simp [runC] at h
  | .dead, s, e, s', h, Q, hQ => by simp [runC] at h

def tmpRes (s : State) : List ResultVar → Option AV
  | [.tmp t] => look s.slots t
  | _ => none

/-- What straight code hands back, if it is a row of its own. -/
def rowC (A : ACode) (rs : List ResultVar) : Option (TypeId × List (List Value)) :=
  match runC A (astart [] [] [] 0) with
  | some (.normal, s) | some (.ret, s) => (match tmpRes s rs with
    | some (.sl ty els (some k)) => if hasTip s.tips k ty = true then some (ty, els) else none
    | _ => none)
  | _ => none

theorem pure1_run {g : FuncId} {fn : Func} {N : Nat} {A : ACode} {ty : TypeId} {els : List (List Value)} {rs : List ResultVar} (hf : P.funcs[g]? = some fn) (hc : fn.body.bind (cCode P N) = some A) (hn : fn.ntmps = N) (he : Enters P g) (hrs : fn.results.toList = rs)
    (h : rowC A rs = some (ty, els)) : Pure P g [] [ty] (.sl ty els (some 0)) := by
  refine pure1 hf hc hn he hrs (Nat.zero_le _) ?_
  have fin : ∀ (e : Exit) (s : State), (e = .normal ∨ e = .ret) → (match tmpRes s rs with
    | some (.sl ty els (some k)) => if hasTip s.tips k ty = true then some (ty, els) else none
    | _ => none) = some (ty, els) → Done1 P rs ty (fun k => .sl ty els (some k)) e s := fun e s hx h => by
    split at h
    · rename_i ty' els' k ht
      split at h
      · rename_i hk
        simp only [Option.some.injEq, Prod.mk.injEq] at h; obtain ⟨rfl, rfl⟩ := h
        refine ⟨hx, k, ?_, hk⟩
        unfold tmpRes at ht
        split at ht
        · simp only [resAV, resL, resOne, ht]
        · cases ht
      · cases h
    · cases h
  unfold rowC at h
  split at h
  · rename_i s hr
    exact runC_sound hr (fin _ s (.inl rfl) h)
  · rename_i s hr
    exact runC_sound hr (fin _ s (.inr rfl) h)
  · cases h

def aggB (P : Program) (t : TypeId) : Bool :=
  match P.underlying t with
  | some (.struct _) | some (.array _ _) => true
  | _ => false

/-- A result variable of several cells. -/
theorem resOne_ag {t : Nat} {ty : TypeId} {n id : Nat} {cells : List AV} (hsz : (P.info? ty).map (·.size) = some n) (ha : aggB P ty = true) (hl : look s.slots t = some (.bp id 0)) (hb : boxAt s.boxes id = some cells) (hc : cells.length = n) :
    resOne P s (.cell t ty) = some (.ag cells) := by
  simp only [resOne, hl, hsz, hb]
  rw [if_pos hc]
  unfold aggB at ha
  split at ha
  · rename_i h; rw [h]
  · rename_i h; rw [h]
  · cases ha

/-- A result variable of one cell. -/
theorem resOne_one {t : Nat} {ty : TypeId} {id : Nat} {av : AV} (hsz : (P.info? ty).map (·.size) = some 1) (ha : aggB P ty = false) (hu : (P.underlying ty).isSome = true) (hl : look s.slots t = some (.bp id 0)) (hb : boxAt s.boxes id = some [av]) :
    resOne P s (.cell t ty) = some av := by
  simp only [resOne, hl, hsz, hb, List.length_cons, List.length_nil, Nat.zero_add, if_true]
  unfold aggB at ha
  cases hx : P.underlying ty with
  | none => rw [hx] at hu; cases hu
  | some d =>
    rw [hx] at ha
    cases d <;> first | (simp at ha; done) | simp

theorem resAV_one {x : ResultVar} {av : AV} (h : resOne P s x = some av) : resAV P s [x] = some av := by simp only [resAV, resL, h]

theorem exists_greatest {p : Nat → Prop} {n : Nat} (h : ∃ i, i ≤ n ∧ p i) : ∃ i, i ≤ n ∧ p i ∧ ∀ j, j ≤ n → p j → j ≤ i := by
  induction n with
  | zero =>
    obtain ⟨i, hi, hp⟩ := h
    have : i = 0 := by omega
    subst this
    exact ⟨0, Nat.le_refl _, hp, fun j hj _ => hj⟩
  | succ n ih =>
    by_cases hn : p (n + 1)
    · exact ⟨n + 1, Nat.le_refl _, hn, fun j hj _ => hj⟩
    · obtain ⟨i, hi, hp⟩ := h
      have hne : i ≠ n + 1 := fun e => hn (e ▸ hp)
      obtain ⟨k, h1, h2, h3⟩ := ih ⟨i, by omega, hp⟩
      exact ⟨k, by omega, h2, fun j hj hpj => h3 j (by have : j ≠ n + 1 := fun e => hn (e ▸ hpj); omega) hpj⟩

/-- A loop that counts to n. -/
theorem aloop_to {body : (Exit → State → Prop) → State → Prop} {Q : Exit → State → Prop} (n : Nat) (S : Nat → State) (p : Nat → Prop) (h0 : Weak P F s (S 0)) (hp : p 0)
    (hstep : ∀ i, i < n → p i → body (xThen (fun s' => Weak P F s' (S (i + 1)) ∧ p (i + 1)) Q) (S i)) (hend : p n → body (xThen (fun _ => False) Q) (S n))
    (hmono : ∀ (K K' : Exit → State → Prop) (s : State), (∀ e s, K e s → K' e s) → body K s → body K' s) : aloop P F body Q s := by
  classical
  let at' : State → Nat := fun s => if h : ∃ i, i ≤ n ∧ s = S i ∧ p i then (exists_greatest (p := fun i => s = S i ∧ p i) h).choose else 0
  have key : ∀ s, (∃ i, i ≤ n ∧ s = S i ∧ p i) → at' s ≤ n ∧ s = S (at' s) ∧ p (at' s) ∧ ∀ j, j ≤ n → s = S j ∧ p j → j ≤ at' s := fun s h => by
    have hc := (exists_greatest (p := fun i => s = S i ∧ p i) h).choose_spec
    have he : at' s = (exists_greatest (p := fun i => s = S i ∧ p i) h).choose := by simp only [at', dif_pos h]
    rw [← he] at hc
    exact ⟨hc.1, hc.2.1.1, hc.2.1.2, hc.2.2⟩
  refine ⟨fun s => ∃ i, i ≤ n ∧ s = S i ∧ p i, fun s => n - at' s, ⟨S 0, h0, 0, Nat.zero_le _, rfl, hp⟩, fun s hs => ?_⟩
  obtain ⟨k1, k2, k3, k4⟩ := key s hs
  rcases Nat.lt_or_eq_of_le k1 with hlt | heq
  · have := hstep (at' s) hlt k3
    rw [← k2] at this
    refine hmono _ _ _ ?_ this
    intro e s' hK
    cases e with
    | normal =>
      have hs' : ∃ i, i ≤ n ∧ S (at' s + 1) = S i ∧ p i := ⟨at' s + 1, hlt, rfl, hK.2⟩
      have h5 := (key _ hs').2.2.2 (at' s + 1) hlt ⟨rfl, hK.2⟩
      have h6 := (key _ hs').1
      exact ⟨_, hK.1, hs', by show n - at' (S (at' s + 1)) < n - at' s; omega⟩
    | _ => exact hK
  · rw [heq] at k2 k3
    have := hend k3
    rw [← k2] at this
    refine hmono _ _ _ ?_ this
    intro e s' hK
    cases e with
    | normal => exact hK.elim
    | _ => exact hK

theorem CallOK.mono {g : FuncId} {args : List AV} {bx : List (Nat × List AV)} {tp : List (Nat × TypeId)} {nx : Nat} {K K' : AV → List (Nat × List AV) → List (Nat × TypeId) → Nat → Prop} (hK : ∀ r b t n, K r b t n → K' r b t n) (h : CallOK P g args bx tp nx K) : CallOK P g args bx tp nx K' := by
  refine ⟨h.1, fun c w vs hm hn hr => (h.2 c w vs hm hn hr).mono ?_⟩
  rintro e w' ⟨v, c', r, bx', tp', h1, h2, h3, h4, h5, h6, h7⟩
  exact ⟨v, c', r, bx', tp', h1, h2, h3, h4, h5, h6, hK _ _ _ _ h7⟩

theorem YieldOK.mono {id : Nat} {args : List AV} {bx : List (Nat × List AV)} {tp : List (Nat × TypeId)} {nx : Nat} {K K' : AV → List (Nat × List AV) → List (Nat × TypeId) → Nat → Prop} (hK : ∀ r b t n, K r b t n → K' r b t n) (h : YieldOK P id args bx tp nx K) : YieldOK P id args bx tp nx K' := by
  intro c w vs hm hn hr
  obtain ⟨f, tmps, assign, body, h1, h2⟩ := h c w vs hm hn hr
  refine ⟨f, tmps, assign, body, h1, h2.mono ?_⟩
  rintro e w' ⟨v, c', r, bx', tp', h1, h2, h3, h4, h5, h6, h7⟩
  exact ⟨v, c', r, bx', tp', h1, h2, h3, h4, h5, h6, hK _ _ _ _ h7⟩

theorem rfnPost_mono {Q Q' : Exit → State → Prop} {sl : List (Nat × Option AV)} {id : Nat} {bx : List (Nat × List AV)} {tp : List (Nat × TypeId)} {nx : Nat} (hQ : ∀ e s, Q e s → Q' e s) (h : rfnPost Q sl id bx tp nx) : rfnPost Q' sl id bx tp nx := by
  simp only [rfnPost] at h ⊢
  split at h
  · rename_i i cells hob
    try simp only [hob]
    split at h
    · rename_i h1 h2; (try simp only [h1, h2]); exact hQ _ _ h
    · rename_i h1 h2; (try simp only [h1, h2]); exact hQ _ _ h
    · rename_i k h1 h2; (try simp only [h1, h2]); exact hQ _ _ h
    · exact h.elim
  · exact h.elim

theorem nextOf_mono {b : Bool} {it : AV} {d : Option Nat} {K K' : State → Prop} (hK : ∀ s, K s → K' s) (h : nextOf b it d s K) : nextOf b it d s K' := by
  unfold nextOf at h ⊢
  split at h
  · split at h
    · rename_i ho
      try simp only [ho]
      exact ⟨h.1, fun hp => hK _ (h.2.1 hp), fun hp => hK _ (h.2.2 hp)⟩
    · rename_i ho
      try simp only [ho]
      split at h
      · rename_i ho'
        try simp only [ho']
        exact ⟨h.1, h.2.1, h.2.2.1, fun i key v h1 h2 h3 h4 => hK _ (h.2.2.2.1 i key v h1 h2 h3 h4), fun h1 => hK _ (h.2.2.2.2 h1)⟩
      · exact h.elim
    · exact h.elim
  · exact h.elim

theorem astep_mono {d : Option Nat} {op : AOp} {K K' : State → Prop} (hK : ∀ s, K s → K' s) (h : astep P d op s K) : astep P d op s K' := by
  by_cases hc : ∃ f args, op = .call f args
  · obtain ⟨f, args, rfl⟩ := hc
    simp only [astep] at h ⊢
    split at h
    · rename_i g first cap as hf ha
      exact h.mono fun r b t n hk => hK _ hk
    · rename_i id as hf ha
      exact YieldOK.mono (fun r b t n hk => hK _ hk) h
    · obtain ⟨h0, g, h1, h2⟩ := h
      exact ⟨h0, g, h1, h2.mono fun r b t n hk => hK _ hk⟩
    · exact h.elim
  · by_cases hn' : ∃ f args, op = .callT f args
    · obtain ⟨f, args, rfl⟩ := hn'
      simp only [astep] at h ⊢
      split at h
      · rename_i g first cap as hf ha
        exact h.mono fun r b t n hk => hK _ hk
      · exact h.elim
    by_cases hn : ∃ b x, op = .nxt b x
    · obtain ⟨b, x, rfl⟩ := hn
      simp only [astep] at h ⊢
      split at h
      · exact nextOf_mono hK h
      · exact h.elim
    have hd : ∀ K, dstep P d op s K = astep P d op s K := fun K => by
      cases op <;> try rfl
      case call f args => exact absurd ⟨f, args, rfl⟩ hc
      case callT f args => exact absurd ⟨f, args, rfl⟩ hn'
      case nxt b x => exact absurd ⟨b, x, rfl⟩ hn
    rw [← hd] at h ⊢
    rw [dstep_op1] at h ⊢
    obtain ⟨u, h1, h2⟩ := h
    exact ⟨u, h1, hK _ h2⟩

theorem arun_mono {K K' : State → Prop} (hK : ∀ s, K s → K' s) : ∀ {l : List AOper} {s : State}, arun P l s K → arun P l s K'
  | [], s, h => hK s h
  | o :: rest, s, h => by
    simp only [arun] at h ⊢
    split at h
    · rename_i hg
      try simp only [hg]
      exact astep_mono (fun s' h' => arun_mono hK h') h
    · rename_i t want hg
      try simp only [hg]
      split at h
      · rename_i b hb
        try simp only [hb]
        split at h
        · rename_i hbw; rw [if_pos hbw]; exact astep_mono (fun s' h' => arun_mono hK h') h
        · rename_i hbw; rw [if_neg hbw]; exact arun_mono hK h
      · rename_i vs hb
        try simp only [hb]
        exact arun_mono hK h
      · exact h.elim

theorem xThen_mono {n n' : State → Prop} {Q Q' : Exit → State → Prop} (hn : ∀ s, n s → n' s) (hQ : ∀ e s, Q e s → Q' e s) : ∀ e s, xThen n Q e s → xThen n' Q' e s := by
  intro e s h
  cases e with
  | normal => exact hn _ h
  | _ => exact hQ _ _ h

theorem awp_mono : ∀ {A : ACode} {K K' : Exit → State → Prop} {s : State}, (∀ e s, K e s → K' e s) → awp P F A K s → awp P F A K' s
  | .skip, K, K', s, hK, h => hK _ _ h
  | .reg ops, K, K', s, hK, h => arun_mono (fun s => hK .normal s) h
  | .dreg ops, K, K', s, hK, h => drun_mono (fun s => hK .normal s) h
  | .dtr t, K, K', s, hK, h => trun_mono (fun s ⟨s1, h1, h2⟩ => ⟨s1, h1, hK .normal s1 h2⟩) h
  | .seq a b, K, K', s, hK, h => awp_mono (A := a) (xThen_mono (fun _ h => awp_mono (A := b) hK h) hK) h
  | .cond c a b, K, K', s, hK, h => by
    simp only [awp] at h ⊢
    split at h
    · rename_i t ht
      try simp only [ht]
      split at h
      · rename_i h1; rw [if_pos h1]; exact awp_mono hK h
      · rename_i h1; rw [if_neg h1]; exact awp_mono hK h
    · exact h.elim
  | .block id a, K, K', s, hK, h => by
    refine awp_mono (A := a) ?_ h
    intro e s h
    cases e with
    | exit i =>
      simp only [xBlock] at h ⊢
      split
      · rename_i hi; rw [if_pos hi] at h; exact hK _ _ h
      · rename_i hi; rw [if_neg hi] at h; exact hK _ _ h
    | _ => exact hK _ _ h
  | .loop a, K, K', s, hK, h => by
    obtain ⟨I, μ, h0, hs⟩ := h
    exact ⟨I, μ, h0, fun s hI => awp_mono (A := a) (xThen_mono (fun _ h => h) hK) (hs s hI)⟩
  | .rfn g n ps a b, K, K', s, hK, h => by
    simp only [awp] at h ⊢
    split at h
    · rename_i it first cap hg
      try simp only [hg]
      obtain ⟨ks, cells, h1, h2⟩ := h
      exact ⟨ks, cells, h1, h2.mono fun _ _ _ _ h => rfnPost_mono hK h⟩
    · exact h.elim
  | .exit id, K, K', s, hK, h => hK _ _ h
  | .ret, K, K', s, hK, h => hK _ _ h
  | .dead, K, K', s, hK, h => h.elim

/-- A loop that counts to n, over code. -/
theorem loop_to {A : ACode} {Q : Exit → State → Prop} (n : Nat) (S : Nat → State) (p : Nat → Prop) (h0 : Weak P F s (S 0)) (hp : p 0)
    (hstep : ∀ i, i < n → p i → awp P F A (xThen (fun s' => Weak P F s' (S (i + 1)) ∧ p (i + 1)) Q) (S i)) (hend : p n → awp P F A (xThen (fun _ => False) Q) (S n)) : aloop P F (awp P F A) Q s :=
  aloop_to n S p h0 hp hstep hend fun _ _ _ hK h => awp_mono hK h
end
end Go.Ab
