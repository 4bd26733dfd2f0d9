/-
How the abstract machine is carried out by rewriting: what comes later stands behind a bound state, and is left alone. Conditions: none.
-/
import Derived.Test.YteekelelcbfekaaDoorAbCode
set_option linter.unusedSimpArgs false
set_option linter.unusedVariables false
set_option linter.unusedSectionVars false
namespace Go.Ab
open Go Go.RowKit

/-- A value comes into a temporary, if it is there. -/
def pGo (o : Option AV) (d : Option Nat) (s : State) (K : State → Prop) : Prop :=
  match o with
  | some av => K (s.put d av)
  | none => False

/-- A test. -/
def bGo (b : Bool) (s : State) (f g : State → Prop) : Prop := if b = true then f s else g s

/-- A guard: whether the operation is carried out. -/
def gGo (o : Option AV) (want : Bool) (d : Option Nat) (s : State) (f g : State → Prop) : Prop :=
  match o with
  | some (.lit (.bool b)) => if b = want then f s else g (s.put d (.lit undef))
  | some (.lit (.tuple _)) => g (s.put d (.lit undef))
  | _ => False

/-- The test of a conditional. -/
def cGo (o : Option AV) (s : State) (f g : State → Prop) : Prop :=
  match o with
  | some (.lit (.bool b)) => if b = true then f s else g s
  | _ => False

/-- A condition that must hold. -/
def must (c p : Prop) : Prop := c ∧ p

def bpOf : AV → Option (Nat × Nat)
  | .bp id off => some (id, off)
  | _ => none

/-- What an append goes on from: the elements, and the rows that stay. -/
def tgt (e : TypeId) (tips : List (Nat × TypeId)) : AV → Option (List (List Value) × List (Nat × TypeId))
  | .lit (.slice none 0 0) => some ([], tips)
  | .sl e' els (some id) => if e' = e ∧ hasTip tips id e = true then some (els, dropTip tips id) else none
  | _ => none

def allocGo (o : Option (List AV)) (d : Option Nat) (s : State) (K : State → Prop) : Prop :=
  match o with
  | some cells => must (allOne cells = true) (K ({ s with boxes := (s.next, cells) :: s.boxes, next := s.next + 1 }.put d (.bp s.next 0)))
  | none => False

def storeGo (n : Nat) (ox oy : Option AV) (d : Option Nat) (s : State) (K : State → Prop) : Prop :=
  match ox, oy with
  | some (.bp id off), some av => match boxAt s.boxes id with
    | some cells => must (av.cells.length = n ∧ off + n ≤ cells.length ∧ allOne av.cells = true) (K ({ s with boxes := setBox s.boxes id (cells.take off ++ av.cells ++ cells.drop (off + n)) }.del d))
    | none => False
  | _, _ => False

def rowGo (e n : Nat) (o : Option (List (List Value))) (d : Option Nat) (s : State) (K : State → Prop) : Prop :=
  match o with
  | some els => must ((lenAll n els && oneV els) = true) (∃ av, bsO e els s.next av ∧ K ({ s with tips := (s.next, e) :: s.tips, next := s.next + 1 }.put d av))
  | none => False

def appGo (e bytes : Nat) (o : Option (List (List Value) × List (Nat × TypeId))) (o2 : Option (List (List Value))) (c : Prop) (d : Option Nat) (s : State) (K : State → Prop) : Prop :=
  match o, o2 with
  | some (els, tips), some els2 => must ((els.length + els2.length) * bytes ≤ 140737488355328 ∧ els.length + els2.length ≤ 9223372036854775807 ∧ c)
      (K ({ s with tips := (s.next, e) :: tips, next := s.next + 1 }.put d (.sl e (els ++ els2) (some s.next))))
  | _, _ => False

def callGo (P : Program) (o : Option AV) (as : Option (List AV)) (d : Option Nat) (s : State) (K : State → Prop) : Prop :=
  match o, as with
  | some (.fn (.func g) first cap), some as => CallOK P g (first ++ as ++ cap) s.boxes s.tips s.next fun r bx tp nx => K ({ s with boxes := bx, tips := tp, next := nx }.put d r)
  | some (.rf .yield id), some as => YieldOK P id as s.boxes s.tips s.next fun r bx tp nx => K ({ s with boxes := bx, tips := tp, next := nx }.put d r)
  | some (.lit (.func (.method m) fs _)), some (.vx (.iface t) [rv] :: as) => fs = #[] ∧ ∃ g, MethodIs P t m g ∧ CallOK P g (rv :: as) s.boxes s.tips s.next fun r bx tp nx => K ({ s with boxes := bx, tips := tp, next := nx }.put d r)
  | _, _ => False

/-- A loop over a function: its record, and the call. -/
def rfnGo (P : Program) (o : Option AV) (n : Nat) (ps : List Nat) (a b : ACode) (s : State) (Q : Exit → State → Prop) : Prop :=
  match o with
  | some (.fn (.func it) first cap) => ∃ ks cells, evTs s ks = some cells ∧
      CallOK P it (first ++ [.rf .yield s.next] ++ cap) ((s.next, [.ob (.loop ⟨n, ks, ps, a, b, .ready, none⟩) cells]) :: s.boxes) s.tips (s.next + 1) fun _ bx tp nx => rfnPost Q s.slots s.next bx tp nx
  | _ => False

section
variable {P : Program} {F : Nat} {Q : Exit → State → Prop} {K f g : State → Prop} {s : State} {sl : List (Nat × Option AV)} {bx : List (Nat × List AV)} {tp : List (Nat × TypeId)} {nx : Nat} {d : Option Nat}

theorem pGo_some (av : AV) : pGo (some av) d s K = K (s.put d av) := id rfl
theorem bGo_true : bGo true s f g = f s := by simp [bGo]
theorem bGo_false : bGo false s f g = g s := by simp [bGo]
theorem gGo_tt : gGo (some (.lit (.bool true))) true d s f g = f s := by simp [gGo]
theorem gGo_tf : gGo (some (.lit (.bool true))) false d s f g = g (s.put d (.lit undef)) := by simp [gGo]
theorem gGo_ft : gGo (some (.lit (.bool false))) true d s f g = g (s.put d (.lit undef)) := by simp [gGo]
theorem gGo_ff : gGo (some (.lit (.bool false))) false d s f g = f s := by simp [gGo]
theorem gGo_u (vs : Array Value) (w : Bool) : gGo (some (.lit (.tuple vs))) w d s f g = g (s.put d (.lit undef)) := by simp [gGo]
theorem gGo_undef (w : Bool) : gGo (some (.lit undef)) w d s f g = g (s.put d (.lit undef)) := by simp [gGo, undef]
theorem cGo_t : cGo (some (.lit (.bool true))) s f g = f s := by simp [cGo]
theorem cGo_f : cGo (some (.lit (.bool false))) s f g = g s := by simp [cGo]
theorem must_true (p : Prop) : must True p = p := by simp [must]

theorem cGo_split {b : Bool} (h1 : b = true → f s) (h2 : b = false → g s) : cGo (some (.lit (.bool b))) s f g := by
  cases b
  · simp only [cGo]; exact h2 rfl
  · simp only [cGo]; exact h1 rfl
theorem gGo_split {b w : Bool} (h1 : b = w → f s) (h2 : b ≠ w → g (s.put d (.lit undef))) : gGo (some (.lit (.bool b))) w d s f g := by
  simp only [gGo]
  split
  · exact h1 ‹_›
  · exact h2 ‹_›

theorem gGo_splitT {b : Bool} (h1 : b = true → f s) (h2 : b = false → g (s.put d (.lit undef))) : gGo (some (.lit (.bool b))) true d s f g := by
  cases b
  · simp only [gGo]; exact h2 rfl
  · simp only [gGo]; exact h1 rfl
theorem gGo_splitF {b : Bool} (h1 : b = false → f s) (h2 : b = true → g (s.put d (.lit undef))) : gGo (some (.lit (.bool b))) false d s f g := by
  cases b
  · simp only [gGo]; exact h1 rfl
  · simp only [gGo]; exact h2 rfl

theorem awp_skip : awp P F .skip Q ⟨sl, bx, tp, nx⟩ = Q .normal ⟨sl, bx, tp, nx⟩ := id rfl
theorem awp_reg (l : List AOper) : awp P F (.reg l) Q ⟨sl, bx, tp, nx⟩ = arun P l ⟨sl, bx, tp, nx⟩ (Q .normal) := id rfl
theorem awp_seq (a b : ACode) : awp P F (.seq a b) Q ⟨sl, bx, tp, nx⟩ = awp P F a (xThen (awp P F b Q) Q) ⟨sl, bx, tp, nx⟩ := id rfl
theorem awp_cond (c : AX) (a b : ACode) : awp P F (.cond c a b) Q ⟨sl, bx, tp, nx⟩ = cGo (State.ev ⟨sl, bx, tp, nx⟩ c) ⟨sl, bx, tp, nx⟩ (awp P F a Q) (awp P F b Q) := by
  simp only [awp, cGo]
  rcases State.ev ⟨sl, bx, tp, nx⟩ c with _ | av
  · rfl
  · cases av <;> rfl
theorem awp_block (i : Nat) (a : ACode) : awp P F (.block i a) Q ⟨sl, bx, tp, nx⟩ = awp P F a (xBlock i Q) ⟨sl, bx, tp, nx⟩ := id rfl
theorem awp_loop (a : ACode) : awp P F (.loop a) Q ⟨sl, bx, tp, nx⟩ = aloop P F (awp P F a) Q ⟨sl, bx, tp, nx⟩ := id rfl
theorem unOb_nil : unOb [] = some [] := id rfl
theorem unOb_lit (v : Value) (l : List AV) : unOb (.lit v :: l) = some (.lit v :: l) := by cases l <;> rfl
theorem unOb_sl (e : TypeId) (els : List (List Value)) (t : Option Nat) (l : List AV) : unOb (.sl e els t :: l) = some (.sl e els t :: l) := by cases l <;> rfl
theorem unOb_ep (x l : List AV) : unOb (.ep x :: l) = some (.ep x :: l) := by cases l <;> rfl
theorem unOb_bp (i o : Nat) (l : List AV) : unOb (.bp i o :: l) = some (.bp i o :: l) := by cases l <;> rfl
theorem unOb_fn (f : Fn) (x y l : List AV) : unOb (.fn f x y :: l) = some (.fn f x y :: l) := by cases l <;> rfl
theorem unOb_ag (x l : List AV) : unOb (.ag x :: l) = some (.ag x :: l) := by cases l <;> rfl
theorem unOb_sn (e : TypeId) (x l : List AV) : unOb (.sn e x :: l) = some (.sn e x :: l) := by cases l <;> rfl
theorem unOb_rf (k : RK) (i : Nat) (l : List AV) : unOb (.rf k i :: l) = some (.rf k i :: l) := by cases l <;> rfl
theorem unOb_ob (k : OK) (x : List AV) : unOb [.ob k x] = none := id rfl
theorem awp_rfn (g : AX) (n : Nat) (ps : List Nat) (a b : ACode) : awp P F (.rfn g n ps a b) Q ⟨sl, bx, tp, nx⟩ = rfnGo P (State.ev ⟨sl, bx, tp, nx⟩ g) n ps a b ⟨sl, bx, tp, nx⟩ Q := by
  simp only [awp, rfnGo]
  rcases State.ev ⟨sl, bx, tp, nx⟩ g with _ | av
  · rfl
  · cases av <;> rfl
theorem awp_exit (i : Nat) : awp P F (.exit i) Q ⟨sl, bx, tp, nx⟩ = Q (.exit i) ⟨sl, bx, tp, nx⟩ := id rfl
theorem awp_ret : awp P F .ret Q ⟨sl, bx, tp, nx⟩ = Q .ret ⟨sl, bx, tp, nx⟩ := id rfl

theorem xThen_normal (next : State → Prop) : xThen next Q .normal ⟨sl, bx, tp, nx⟩ = next ⟨sl, bx, tp, nx⟩ := id rfl
theorem xThen_exit (next : State → Prop) (i : Nat) : xThen next Q (.exit i) ⟨sl, bx, tp, nx⟩ = Q (.exit i) ⟨sl, bx, tp, nx⟩ := id rfl
theorem xThen_ret (next : State → Prop) : xThen next Q .ret ⟨sl, bx, tp, nx⟩ = Q .ret ⟨sl, bx, tp, nx⟩ := id rfl
theorem xBlock_normal (i : Nat) : xBlock i Q .normal ⟨sl, bx, tp, nx⟩ = Q .normal ⟨sl, bx, tp, nx⟩ := id rfl
theorem xBlock_ret (i : Nat) : xBlock i Q .ret ⟨sl, bx, tp, nx⟩ = Q .ret ⟨sl, bx, tp, nx⟩ := id rfl
theorem xBlock_exit (i j : Nat) : xBlock i Q (.exit j) ⟨sl, bx, tp, nx⟩ = bGo (j == i) ⟨sl, bx, tp, nx⟩ (Q .normal) (Q (.exit j)) := by
  by_cases h : j = i <;> simp [xBlock, bGo, h]

theorem arun_nil : arun P [] ⟨sl, bx, tp, nx⟩ K = K ⟨sl, bx, tp, nx⟩ := id rfl
theorem arun_none (d : Option Nat) (o : AOp) (l : List AOper) : arun P (⟨d, o, none⟩ :: l) ⟨sl, bx, tp, nx⟩ K = astep P d o ⟨sl, bx, tp, nx⟩ (fun s' => arun P l s' K) := id rfl
theorem arun_some (d : Option Nat) (o : AOp) (t : Nat) (w : Bool) (l : List AOper) : arun P (⟨d, o, some (t, w)⟩ :: l) ⟨sl, bx, tp, nx⟩ K =
    gGo (look sl t) w d ⟨sl, bx, tp, nx⟩ (fun s' => astep P d o s' (fun s' => arun P l s' K)) (fun s' => arun P l s' K) := by
  simp only [arun, gGo]
  rcases look sl t with _ | av
  · rfl
  · cases av <;> rfl

theorem put_some (d : Nat) (av : AV) : State.put ⟨sl, bx, tp, nx⟩ (some d) av = ⟨(d, some av) :: sl, bx, tp, nx⟩ := id rfl
theorem put_none (av : AV) : State.put ⟨sl, bx, tp, nx⟩ none av = ⟨sl, bx, tp, nx⟩ := id rfl
theorem del_some (d : Nat) : State.del ⟨sl, bx, tp, nx⟩ (some d) = ⟨(d, none) :: sl, bx, tp, nx⟩ := id rfl
theorem del_none : State.del ⟨sl, bx, tp, nx⟩ none = ⟨sl, bx, tp, nx⟩ := id rfl

theorem vstep {o : AOp} (h : ∀ K, astep P d o ⟨sl, bx, tp, nx⟩ K = match vop ⟨sl, bx, tp, nx⟩ o with | some av => K (State.put ⟨sl, bx, tp, nx⟩ d av) | none => False) : astep P d o ⟨sl, bx, tp, nx⟩ K = pGo (vop ⟨sl, bx, tp, nx⟩ o) d ⟨sl, bx, tp, nx⟩ K := by
  rw [h]; cases vop ⟨sl, bx, tp, nx⟩ o <;> rfl
theorem s_mv (x : AX) : astep P d (.mv x) ⟨sl, bx, tp, nx⟩ K = pGo (State.ev ⟨sl, bx, tp, nx⟩ x) d ⟨sl, bx, tp, nx⟩ K := vstep fun _ => rfl
theorem s_pick (c x y : AX) : astep P d (.pick c x y) ⟨sl, bx, tp, nx⟩ K = pGo (vop ⟨sl, bx, tp, nx⟩ (.pick c x y)) d ⟨sl, bx, tp, nx⟩ K := vstep fun _ => rfl
theorem s_bin (op : BinOp) (x y : AX) : astep P d (.bin op x y) ⟨sl, bx, tp, nx⟩ K = pGo (vop ⟨sl, bx, tp, nx⟩ (.bin op x y)) d ⟨sl, bx, tp, nx⟩ K := vstep fun _ => rfl
theorem s_eqB (n : Bool) (x y : AX) : astep P d (.eqB n x y) ⟨sl, bx, tp, nx⟩ K = pGo (vop ⟨sl, bx, tp, nx⟩ (.eqB n x y)) d ⟨sl, bx, tp, nx⟩ K := vstep fun _ => rfl
theorem s_eqg (n : Bool) (ks : List BK) (x y : AX) : astep P d (.eqg n ks x y) ⟨sl, bx, tp, nx⟩ K = pGo (vop ⟨sl, bx, tp, nx⟩ (.eqg n ks x y)) d ⟨sl, bx, tp, nx⟩ K := vstep fun _ => rfl
theorem s_not (x : AX) : astep P d (.not x) ⟨sl, bx, tp, nx⟩ K = pGo (vop ⟨sl, bx, tp, nx⟩ (.not x)) d ⟨sl, bx, tp, nx⟩ K := vstep fun _ => rfl
theorem s_cvI (k : IntKind) (x : AX) : astep P d (.cvI k x) ⟨sl, bx, tp, nx⟩ K = pGo (vop ⟨sl, bx, tp, nx⟩ (.cvI k x)) d ⟨sl, bx, tp, nx⟩ K := vstep fun _ => rfl
theorem s_ext (x : AX) (i : Nat) : astep P d (.ext x i) ⟨sl, bx, tp, nx⟩ K = pGo (vop ⟨sl, bx, tp, nx⟩ (.ext x i)) d ⟨sl, bx, tp, nx⟩ K := vstep fun _ => rfl
theorem s_len (x : AX) : astep P d (.len x) ⟨sl, bx, tp, nx⟩ K = pGo (vop ⟨sl, bx, tp, nx⟩ (.len x)) d ⟨sl, bx, tp, nx⟩ K := vstep fun _ => rfl
theorem s_lenS (x : AX) : astep P d (.lenS x) ⟨sl, bx, tp, nx⟩ K = pGo (vop ⟨sl, bx, tp, nx⟩ (.lenS x)) d ⟨sl, bx, tp, nx⟩ K := vstep fun _ => rfl
theorem s_lenA (n : Nat) : astep P d (.lenA n) ⟨sl, bx, tp, nx⟩ K = pGo (vop ⟨sl, bx, tp, nx⟩ (.lenA n)) d ⟨sl, bx, tp, nx⟩ K := vstep fun _ => rfl
theorem s_mn (x y : AX) : astep P d (.mn x y) ⟨sl, bx, tp, nx⟩ K = pGo (vop ⟨sl, bx, tp, nx⟩ (.mn x y)) d ⟨sl, bx, tp, nx⟩ K := vstep fun _ => rfl
theorem s_mx (x y : AX) : astep P d (.mx x y) ⟨sl, bx, tp, nx⟩ K = pGo (vop ⟨sl, bx, tp, nx⟩ (.mx x y)) d ⟨sl, bx, tp, nx⟩ K := vstep fun _ => rfl
theorem s_mkf (f : Fn) (x y : List AX) : astep P d (.mkf f x y) ⟨sl, bx, tp, nx⟩ K = pGo (vop ⟨sl, bx, tp, nx⟩ (.mkf f x y)) d ⟨sl, bx, tp, nx⟩ K := vstep fun _ => rfl
theorem s_bd (z : List Value) (ps : List (Nat × Nat × AX)) : astep P d (.bd z ps) ⟨sl, bx, tp, nx⟩ K = pGo (vop ⟨sl, bx, tp, nx⟩ (.bd z ps)) d ⟨sl, bx, tp, nx⟩ K := vstep fun _ => rfl
theorem s_fa (n : Nat) (x : AX) : astep P d (.fa n x) ⟨sl, bx, tp, nx⟩ K = pGo (vop ⟨sl, bx, tp, nx⟩ (.fa n x)) d ⟨sl, bx, tp, nx⟩ K := vstep fun _ => rfl
theorem s_ia (e : TypeId) (x i : AX) : astep P d (.ia e x i) ⟨sl, bx, tp, nx⟩ K = pGo (vop ⟨sl, bx, tp, nx⟩ (.ia e x i)) d ⟨sl, bx, tp, nx⟩ K := vstep fun _ => rfl
theorem s_iaA (n z : Nat) (x i : AX) : astep P d (.iaA n z x i) ⟨sl, bx, tp, nx⟩ K = pGo (vop ⟨sl, bx, tp, nx⟩ (.iaA n z x i)) d ⟨sl, bx, tp, nx⟩ K := vstep fun _ => rfl
theorem s_ixS (x i : AX) : astep P d (.ixS x i) ⟨sl, bx, tp, nx⟩ K = pGo (vop ⟨sl, bx, tp, nx⟩ (.ixS x i)) d ⟨sl, bx, tp, nx⟩ K := vstep fun _ => rfl
theorem s_slc (e : TypeId) (x : AX) (l h : Option AX) : astep P d (.slc e x l h) ⟨sl, bx, tp, nx⟩ K = pGo (vop ⟨sl, bx, tp, nx⟩ (.slc e x l h)) d ⟨sl, bx, tp, nx⟩ K := vstep fun _ => rfl
theorem s_slS (x : AX) (l h : Option AX) : astep P d (.slS x l h) ⟨sl, bx, tp, nx⟩ K = pGo (vop ⟨sl, bx, tp, nx⟩ (.slS x l h)) d ⟨sl, bx, tp, nx⟩ K := vstep fun _ => rfl
theorem s_ld (z : Option Nat) (x : AX) : astep P d (.ld z x) ⟨sl, bx, tp, nx⟩ K = pGo (vop ⟨sl, bx, tp, nx⟩ (.ld z x)) d ⟨sl, bx, tp, nx⟩ K := vstep fun _ => rfl
theorem s_fld (n : Nat) (z : Option Nat) (x : AX) : astep P d (.fld n z x) ⟨sl, bx, tp, nx⟩ K = pGo (vop ⟨sl, bx, tp, nx⟩ (.fld n z x)) d ⟨sl, bx, tp, nx⟩ K := vstep fun _ => rfl
theorem s_lde (z : Option Nat) (x : AX) : astep P d (.lde z x) ⟨sl, bx, tp, nx⟩ K = pGo (vop ⟨sl, bx, tp, nx⟩ (.lde z x)) d ⟨sl, bx, tp, nx⟩ K := vstep fun _ => rfl
theorem s_bs0 (e n : Nat) (xs : List AX) : astep P d (.bs0 e n xs) ⟨sl, bx, tp, nx⟩ K = pGo (vop ⟨sl, bx, tp, nx⟩ (.bs0 e n xs)) d ⟨sl, bx, tp, nx⟩ K := vstep fun _ => rfl
theorem s_cvRS (x : AX) : astep P d (.cvRS x) ⟨sl, bx, tp, nx⟩ K = pGo (vop ⟨sl, bx, tp, nx⟩ (.cvRS x)) d ⟨sl, bx, tp, nx⟩ K := vstep fun _ => rfl
theorem s_cvIS (x : AX) : astep P d (.cvIS x) ⟨sl, bx, tp, nx⟩ K = pGo (vop ⟨sl, bx, tp, nx⟩ (.cvIS x)) d ⟨sl, bx, tp, nx⟩ K := vstep fun _ => rfl
theorem s_cvBS (x : AX) : astep P d (.cvBS x) ⟨sl, bx, tp, nx⟩ K = pGo (vop ⟨sl, bx, tp, nx⟩ (.cvBS x)) d ⟨sl, bx, tp, nx⟩ K := vstep fun _ => rfl

theorem s_ixA (n z : Nat) (g : Option Nat) (x i : AX) : astep P d (.ixA n z g x i) ⟨sl, bx, tp, nx⟩ K = pGo (vop ⟨sl, bx, tp, nx⟩ (.ixA n z g x i)) d ⟨sl, bx, tp, nx⟩ K := vstep fun _ => rfl

theorem s_alc (e : TypeId) (z : List Value) : astep P d (.alc e z) ⟨sl, bx, tp, nx⟩ K = allocGo (some (z.map .lit)) d ⟨sl, bx, tp, nx⟩ K := by
  by_cases h : allOne (z.map .lit) = true <;> simp [astep, allocGo, must, h]
theorem s_box (e : TypeId) (x : AX) : astep P d (.box e x) ⟨sl, bx, tp, nx⟩ K = allocGo ((State.ev ⟨sl, bx, tp, nx⟩ x).map AV.cells) d ⟨sl, bx, tp, nx⟩ K := by
  cases h : State.ev ⟨sl, bx, tp, nx⟩ x with
  | none => simp [astep, allocGo, h]
  | some av => by_cases h2 : allOne av.cells = true <;> simp [astep, allocGo, must, h, h2]
theorem s_st (n : Nat) (x y : AX) : astep P d (.st n x y) ⟨sl, bx, tp, nx⟩ K = storeGo n (State.ev ⟨sl, bx, tp, nx⟩ x) (State.ev ⟨sl, bx, tp, nx⟩ y) d ⟨sl, bx, tp, nx⟩ K := by
  simp only [astep, storeGo]
  rcases State.ev ⟨sl, bx, tp, nx⟩ x with _ | xv
  · rfl
  · rcases State.ev ⟨sl, bx, tp, nx⟩ y with _ | av
    · cases xv <;> rfl
    · cases xv <;> try rfl
      rename_i id off
      simp only []
      cases boxAt bx id with
      | none => rfl
      | some cells =>
        by_cases hc : av.cells.length = n ∧ off + n ≤ cells.length ∧ allOne av.cells = true
        · simp [must, hc]
        · simp only [must, hc, false_and, if_false]
theorem s_bs (e : TypeId) (n : Nat) (xs : List AX) : astep P d (.bs e n xs) ⟨sl, bx, tp, nx⟩ K = rowGo e n ((State.evs ⟨sl, bx, tp, nx⟩ xs).bind valsL) d ⟨sl, bx, tp, nx⟩ K := by
  cases h : State.evs ⟨sl, bx, tp, nx⟩ xs with
  | none => simp [astep, rowGo, h]
  | some avs =>
    cases h2 : valsL avs with
    | none => simp [astep, rowGo, h, h2]
    | some els => by_cases h3 : (lenAll n els && oneV els) = true <;> simp only [astep, rowGo, must, h, h2, h3, Option.bind_some] <;> simp
/-- An append, by what it goes on from and what it brings. -/
def appBoth (e : TypeId) (bytes : Nat) (ox oy : Option AV) (d : Option Nat) (s : State) (K : State → Prop) : Prop :=
  match ox, oy with
  | some xv, some yv => if (isRow xv || isRow yv) = true then (match rowApp s.boxes s.tips e xv yv with
    | some r => must ((r.n + r.m) * bytes ≤ 140737488355328 ∧ r.n + r.m ≤ 9223372036854775807) (K ({ s with boxes := (s.next + r.skip, r.cells) :: r.boxes, tips := r.tips, next := s.next + r.skip + 1 }.put d (.rf (.row e r.sz 0 (r.n + r.m)) (s.next + r.skip))))
    | none => False) else appGo e bytes (tgt e s.tips xv) (elsOf yv) (srcE e yv) d s K
  | _, _ => False

theorem s_app (e : TypeId) (bytes : Nat) (x y : AX) : astep P d (.app e bytes x y) ⟨sl, bx, tp, nx⟩ K = appBoth e bytes (State.ev ⟨sl, bx, tp, nx⟩ x) (State.ev ⟨sl, bx, tp, nx⟩ y) d ⟨sl, bx, tp, nx⟩ K := by
  cases h : State.ev ⟨sl, bx, tp, nx⟩ x with
  | none => simp [astep, appBoth, h]
  | some xv =>
    cases h2 : State.ev ⟨sl, bx, tp, nx⟩ y with
    | none => simp [astep, appBoth, h, h2]
    | some yv =>
      simp only [astep, appBoth, h, h2]
      by_cases hr : (isRow xv || isRow yv) = true
      · rw [if_pos hr, if_pos hr]
        cases rowApp bx tp e xv yv <;> simp [must, and_assoc]
      · rw [if_neg hr, if_neg hr]
        cases h3 : elsOf yv with
        | none => cases tgt e tp xv <;> simp [appGo]
        | some els2 =>
          simp only [appGo, must]
          unfold tgt
          split
          · simp [and_assoc]
          · rename_i e' els id
            by_cases hc : e' = e ∧ hasTip tp id e = true
            · obtain ⟨rfl, hc⟩ := hc
              simp [hc, and_assoc]
            · simp [hc]
          · rename_i hn1 hn2
            split <;> simp_all

theorem d_app (e bytes : Nat) (x y : AX) : dstep P d (.app e bytes x y) s K = astep P d (.app e bytes x y) s K := id rfl

theorem appBoth_sl_sl (e bytes e1 e2 : Nat) (l1 l2 : List (List Value)) (t1 t2 : Option Nat) : appBoth e bytes (some (.sl e1 l1 t1)) (some (.sl e2 l2 t2)) d ⟨sl, bx, tp, nx⟩ K = appGo e bytes (tgt e tp (.sl e1 l1 t1)) (some l2) (e2 = e) d ⟨sl, bx, tp, nx⟩ K := id rfl
theorem appBoth_sl_nil (e bytes e1 : Nat) (l1 : List (List Value)) (t1 : Option Nat) : appBoth e bytes (some (.sl e1 l1 t1)) (some (.lit (.slice none 0 0))) d ⟨sl, bx, tp, nx⟩ K = appGo e bytes (tgt e tp (.sl e1 l1 t1)) (some []) True d ⟨sl, bx, tp, nx⟩ K := id rfl
theorem appBoth_nil_sl (e bytes e2 : Nat) (l2 : List (List Value)) (t2 : Option Nat) : appBoth e bytes (some (.lit (.slice none 0 0))) (some (.sl e2 l2 t2)) d ⟨sl, bx, tp, nx⟩ K = appGo e bytes (some ([], tp)) (some l2) (e2 = e) d ⟨sl, bx, tp, nx⟩ K := id rfl
theorem appBoth_nil_nil (e bytes : Nat) : appBoth e bytes (some (.lit (.slice none 0 0))) (some (.lit (.slice none 0 0))) d ⟨sl, bx, tp, nx⟩ K = appGo e bytes (some ([], tp)) (some []) True d ⟨sl, bx, tp, nx⟩ K := id rfl

def appRowGo (e : TypeId) (bytes : Nat) (o : Option RowApp) (d : Option Nat) (s : State) (K : State → Prop) : Prop :=
  match o with
  | some r => must ((r.n + r.m) * bytes ≤ 140737488355328 ∧ r.n + r.m ≤ 9223372036854775807) (K ({ s with boxes := (s.next + r.skip, r.cells) :: r.boxes, tips := r.tips, next := s.next + r.skip + 1 }.put d (.rf (.row e r.sz 0 (r.n + r.m)) (s.next + r.skip))))
  | none => False
theorem appBoth_row (e bytes e1 sz off n i0 : Nat) (yv : AV) : appBoth e bytes (some (.rf (.row e1 sz off n) i0)) (some yv) d ⟨sl, bx, tp, nx⟩ K = appRowGo e bytes (rowApp bx tp e (.rf (.row e1 sz off n) i0) yv) d ⟨sl, bx, tp, nx⟩ K := id rfl
theorem appBoth_nil_row (e bytes e1 sz off n i0 : Nat) : appBoth e bytes (some (.lit (.slice none 0 0))) (some (.rf (.row e1 sz off n) i0)) d ⟨sl, bx, tp, nx⟩ K = appRowGo e bytes (rowApp bx tp e (.lit (.slice none 0 0)) (.rf (.row e1 sz off n) i0)) d ⟨sl, bx, tp, nx⟩ K := id rfl
theorem appBoth_wrap (e bytes : Nat) (l : List AV) (yv : AV) : appBoth e bytes (some (.vx .wrap l)) (some yv) d ⟨sl, bx, tp, nx⟩ K = appRowGo e bytes (rowApp bx tp e (.vx .wrap l) yv) d ⟨sl, bx, tp, nx⟩ K := id rfl
theorem appRowGo_some (e bytes sz n m : Nat) (cells : List AV) (b : List (Nat × List AV)) (t : List (Nat × TypeId)) (k : Nat) : appRowGo e bytes (some ⟨sz, n, m, cells, b, t, k⟩) d ⟨sl, bx, tp, nx⟩ K =
    must ((n + m) * bytes ≤ 140737488355328 ∧ n + m ≤ 9223372036854775807) (K (State.put ⟨sl, (nx + k, cells) :: b, t, nx + k + 1⟩ d (.rf (.row e sz 0 (n + m)) (nx + k)))) := id rfl
theorem s_call (x : AX) (xs : List AX) : astep P d (.call x xs) ⟨sl, bx, tp, nx⟩ K = callGo P (State.ev ⟨sl, bx, tp, nx⟩ x) (State.evs ⟨sl, bx, tp, nx⟩ xs) d ⟨sl, bx, tp, nx⟩ K := by
  simp only [astep, callGo]
  rcases State.ev ⟨sl, bx, tp, nx⟩ x with _ | fv
  · rfl
  · cases fv <;> try rfl
theorem allocGo_some (cells : List AV) : allocGo (some cells) d ⟨sl, bx, tp, nx⟩ K = must (allOne cells = true) (K (State.put ⟨sl, (nx, cells) :: bx, tp, nx + 1⟩ d (.bp nx 0))) := id rfl
theorem storeGo_some (n id off : Nat) (av : AV) : storeGo n (some (.bp id off)) (some av) d ⟨sl, bx, tp, nx⟩ K = (match boxAt bx id with
    | some cells => must (av.cells.length = n ∧ off + n ≤ cells.length ∧ allOne av.cells = true) (K (State.del ⟨sl, setBox bx id (cells.take off ++ av.cells ++ cells.drop (off + n)), tp, nx⟩ d))
    | none => False) := Eq.trans rfl rfl
theorem bsV_nil (e : TypeId) (k : Nat) : bsV e [] k = .vx .wrap [.sl e [] (some k)] := id rfl
theorem bsV_cons (e : TypeId) (x : List Value) (l : List (List Value)) (k : Nat) : bsV e (x :: l) k = .sl e (x :: l) (some k) := id rfl
theorem rowGo_cons (e n : Nat) (x : List Value) (l : List (List Value)) : rowGo e n (some (x :: l)) d ⟨sl, bx, tp, nx⟩ K = must ((lenAll n (x :: l) && oneV (x :: l)) = true) (K (State.put ⟨sl, bx, (nx, e) :: tp, nx + 1⟩ d (.sl e (x :: l) (some nx)))) := by
  apply propext
  simp only [rowGo, must]
  constructor
  · rintro ⟨h1, av, h2, h3⟩
    refine ⟨h1, ?_⟩
    rcases h2 with rfl | rfl <;> exact h3
  · rintro ⟨h1, h2⟩
    exact ⟨h1, _, .inr rfl, h2⟩
/-- An empty literal: it is told here what it is taken for. -/
def emptyGo (e : TypeId) (d : Option Nat) (s : State) (K : State → Prop) : Prop :=
  K ({ s with tips := (s.next, e) :: s.tips, next := s.next + 1 }.put d (.vx .wrap [.sl e [] (some s.next)])) ∨ K ({ s with tips := (s.next, e) :: s.tips, next := s.next + 1 }.put d (.sl e [] (some s.next)))
theorem rowGo_nil (e n : Nat) : rowGo e n (some []) d ⟨sl, bx, tp, nx⟩ K = emptyGo e d ⟨sl, bx, tp, nx⟩ K := by
  apply propext
  simp only [rowGo, must, emptyGo]
  constructor
  · rintro ⟨h1, av, h2, h3⟩
    rcases h2 with rfl | rfl
    · exact .inl h3
    · exact .inr h3
  · rintro (h | h)
    · exact ⟨rfl, _, .inl rfl, h⟩
    · exact ⟨rfl, _, .inr rfl, h⟩
theorem empty_row {e : TypeId} (h : K (State.put ⟨sl, bx, (nx, e) :: tp, nx + 1⟩ d (.vx .wrap [.sl e [] (some nx)]))) : emptyGo e d ⟨sl, bx, tp, nx⟩ K := .inl h
theorem empty_sl {e : TypeId} (h : K (State.put ⟨sl, bx, (nx, e) :: tp, nx + 1⟩ d (.sl e [] (some nx)))) : emptyGo e d ⟨sl, bx, tp, nx⟩ K := .inr h
theorem appGo_some (e bytes : Nat) (els els2 : List (List Value)) (tips : List (Nat × TypeId)) (c : Prop) : appGo e bytes (some (els, tips)) (some els2) c d ⟨sl, bx, tp, nx⟩ K =
    must ((els.length + els2.length) * bytes ≤ 140737488355328 ∧ els.length + els2.length ≤ 9223372036854775807 ∧ c) (K (State.put ⟨sl, bx, (nx, e) :: tips, nx + 1⟩ d (.sl e (els ++ els2) (some nx)))) := Eq.trans rfl rfl

/-- A call of a function that only computes. -/
theorem callGo_pure {g : FuncId} {first cap as args' : List AV} {tys : List TypeId} {r : AV} (h : Pure P g args' tys r) (he : AV.eraseL (first ++ as ++ cap) = some args')
    (hK : K (State.put ⟨sl, bx, idx nx tys ++ tp, nx + tys.length⟩ d (r.shift nx))) : callGo P (some (.fn (.func g) first cap)) (some as) d ⟨sl, bx, tp, nx⟩ K :=
  callOK_pure (K := fun r bx tp nx => K (State.put ⟨sl, bx, tp, nx⟩ d r)) h he hK

theorem look_nil (t : Nat) : look [] t = none := id rfl
theorem look_cons (i : Nat) (v : Option AV) (l : List (Nat × Option AV)) (t : Nat) : look ((i, v) :: l) t = if i = t then v else look l t := id rfl
theorem ev_t (n : Nat) : State.ev ⟨sl, bx, tp, nx⟩ (.t n) = look sl n := id rfl
theorem ev_k (v : Value) : State.ev ⟨sl, bx, tp, nx⟩ (.k v) = some (.lit v) := id rfl
theorem ev_f (g : FuncId) : State.ev ⟨sl, bx, tp, nx⟩ (.f g) = some (.fn (.func g) [] []) := id rfl

theorem d_mv (x : AX) : dstep P d (.mv x) s K = astep P d (.mv x) s K := id rfl
theorem d_pick (c : AX) (x : AX) (y : AX) : dstep P d (.pick c x y) s K = astep P d (.pick c x y) s K := id rfl
theorem d_bin (op : BinOp) (x : AX) (y : AX) : dstep P d (.bin op x y) s K = astep P d (.bin op x y) s K := id rfl
theorem d_eqB (n : Bool) (x : AX) (y : AX) : dstep P d (.eqB n x y) s K = astep P d (.eqB n x y) s K := id rfl
theorem d_eqg (n : Bool) (k : List BK) (x : AX) (y : AX) : dstep P d (.eqg n k x y) s K = astep P d (.eqg n k x y) s K := id rfl
theorem d_not (x : AX) : dstep P d (.not x) s K = astep P d (.not x) s K := id rfl
theorem d_cvI (k : IntKind) (x : AX) : dstep P d (.cvI k x) s K = astep P d (.cvI k x) s K := id rfl
theorem d_ext (x : AX) (i : Nat) : dstep P d (.ext x i) s K = astep P d (.ext x i) s K := id rfl
theorem d_len (x : AX) : dstep P d (.len x) s K = astep P d (.len x) s K := id rfl
theorem d_lenS (x : AX) : dstep P d (.lenS x) s K = astep P d (.lenS x) s K := id rfl
theorem d_lenA (n : Nat) : dstep P d (.lenA n) s K = astep P d (.lenA n) s K := id rfl
theorem d_mn (x : AX) (y : AX) : dstep P d (.mn x y) s K = astep P d (.mn x y) s K := id rfl
theorem d_mx (x : AX) (y : AX) : dstep P d (.mx x y) s K = astep P d (.mx x y) s K := id rfl
theorem d_mkf (f : Fn) (x : List AX) (y : List AX) : dstep P d (.mkf f x y) s K = astep P d (.mkf f x y) s K := id rfl
theorem d_bd (z : List Value) (p : List (Nat × Nat × AX)) : dstep P d (.bd z p) s K = astep P d (.bd z p) s K := id rfl
theorem d_fa (n : Nat) (x : AX) : dstep P d (.fa n x) s K = astep P d (.fa n x) s K := id rfl
theorem d_ia (e : TypeId) (x : AX) (i : AX) : dstep P d (.ia e x i) s K = astep P d (.ia e x i) s K := id rfl
theorem d_iaA (n : Nat) (z : Nat) (x : AX) (i : AX) : dstep P d (.iaA n z x i) s K = astep P d (.iaA n z x i) s K := id rfl
theorem d_ixS (x : AX) (i : AX) : dstep P d (.ixS x i) s K = astep P d (.ixS x i) s K := id rfl
theorem d_ixA (n : Nat) (z : Nat) (g : Option Nat) (x : AX) (i : AX) : dstep P d (.ixA n z g x i) s K = astep P d (.ixA n z g x i) s K := id rfl
theorem d_slc (e : TypeId) (x : AX) (l : Option AX) (h : Option AX) : dstep P d (.slc e x l h) s K = astep P d (.slc e x l h) s K := id rfl
theorem d_slS (x : AX) (l : Option AX) (h : Option AX) : dstep P d (.slS x l h) s K = astep P d (.slS x l h) s K := id rfl
theorem d_ld (z : Option Nat) (x : AX) : dstep P d (.ld z x) s K = astep P d (.ld z x) s K := id rfl
theorem d_fld (n : Nat) (z : Option Nat) (x : AX) : dstep P d (.fld n z x) s K = astep P d (.fld n z x) s K := id rfl
theorem d_cvRS (x : AX) : dstep P d (.cvRS x) s K = astep P d (.cvRS x) s K := id rfl
theorem d_cvIS (x : AX) : dstep P d (.cvIS x) s K = astep P d (.cvIS x) s K := id rfl
theorem d_cvBS (x : AX) : dstep P d (.cvBS x) s K = astep P d (.cvBS x) s K := id rfl
theorem d_lde (z : Option Nat) (x : AX) : dstep P d (.lde z x) s K = astep P d (.lde z x) s K := id rfl
theorem d_bs0 (e n : Nat) (xs : List AX) : dstep P d (.bs0 e n xs) s K = astep P d (.bs0 e n xs) s K := id rfl
theorem d_alc (e : TypeId) (z : List Value) : dstep P d (.alc e z) s K = astep P d (.alc e z) s K := id rfl
theorem d_box (e : TypeId) (x : AX) : dstep P d (.box e x) s K = astep P d (.box e x) s K := id rfl
theorem d_st (n : Nat) (x : AX) (y : AX) : dstep P d (.st n x y) s K = astep P d (.st n x y) s K := id rfl
theorem d_bs (e : TypeId) (n : Nat) (x : List AX) : dstep P d (.bs e n x) s K = astep P d (.bs e n x) s K := id rfl

/-- A call in a region that draws its order. -/
def dcallGo (P : Program) (o : Option AV) (as : Option (List AV)) (d : Option Nat) (s : State) (K : State → Prop) : Prop :=
  match o, as with
  | some (.fn (.func g) first cap), some as => ∃ r, pCall P s.boxes g (first ++ as ++ cap) r ∧ K (s.put d r)
  | _, _ => False
theorem d_call (x : AX) (xs : List AX) : dstep P d (.call x xs) ⟨sl, bx, tp, nx⟩ K = dcallGo P (State.ev ⟨sl, bx, tp, nx⟩ x) (State.evs ⟨sl, bx, tp, nx⟩ xs) d ⟨sl, bx, tp, nx⟩ K := by
  apply propext
  simp only [dstep]
  constructor
  · rintro ⟨g, first, cap, as, r, h1, h2, h3, h4⟩
    rw [h1, h2]
    exact ⟨r, h3, h4⟩
  · intro h
    unfold dcallGo at h
    split at h
    · rename_i g first cap as h1 h2
      obtain ⟨r, h3, h4⟩ := h
      exact ⟨g, first, cap, as, r, h1, h2, h3, h4⟩
    · exact h.elim
theorem dcallGo_pure {g : FuncId} {first cap as args' : List AV} {tys : List TypeId} {r r' : AV} (h : Pure P g args' tys r) (he : AV.eraseL (first ++ as ++ cap) = some args') (hr : r.erase = some r')
    (hK : K (State.put ⟨sl, bx, tp, nx⟩ d r')) : dcallGo P (some (.fn (.func g) first cap)) (some as) d ⟨sl, bx, tp, nx⟩ K := ⟨r', .inr ⟨args', tys, r, he, h, hr⟩, hK⟩
theorem dcallGo_see {g : FuncId} {first cap as args' : List AV} {r : AV} (h : Pure P g args' [] r) (he : AV.seeL bx (first ++ as ++ cap) = some args') (hp : r.plain = true)
    (hK : K (State.put ⟨sl, bx, tp, nx⟩ d r)) : dcallGo P (some (.fn (.func g) first cap)) (some as) d ⟨sl, bx, tp, nx⟩ K := ⟨r, .inl ⟨args', he, h, hp⟩, hK⟩

/-- A call in such a region, of which a new row comes. -/
def dcallTGo (P : Program) (o : Option AV) (as : Option (List AV)) (d : Option Nat) (s : State) (K : State → Prop) : Prop :=
  match o, as with
  | some (.fn (.func g) first cap), some as => ∃ args' ty els, AV.eraseL (first ++ as ++ cap) = some args' ∧ Pure P g args' [ty] (.sl ty els (some 0)) ∧ K ({ s with tips := (s.next, ty) :: s.tips, next := s.next + 1 }.put d (.sl ty els (some s.next)))
  | _, _ => False
theorem d_callT (x : AX) (xs : List AX) : dstep P d (.callT x xs) ⟨sl, bx, tp, nx⟩ K = dcallTGo P (State.ev ⟨sl, bx, tp, nx⟩ x) (State.evs ⟨sl, bx, tp, nx⟩ xs) d ⟨sl, bx, tp, nx⟩ K := by
  apply propext
  simp only [dstep]
  constructor
  · rintro ⟨g, first, cap, as, args', ty, els, h1, h2, h3, h4, h5⟩
    rw [h1, h2]
    exact ⟨args', ty, els, h3, h4, h5⟩
  · intro h
    unfold dcallTGo at h
    split at h
    · rename_i g first cap as h1 h2
      obtain ⟨args', ty, els, h3, h4, h5⟩ := h
      exact ⟨g, first, cap, as, args', ty, els, h1, h2, h3, h4, h5⟩
    · exact h.elim
theorem dcallTGo_pure {g : FuncId} {first cap as args' : List AV} {ty : TypeId} {els : List (List Value)} (h : Pure P g args' [ty] (.sl ty els (some 0))) (he : AV.eraseL (first ++ as ++ cap) = some args')
    (hK : K (State.put ⟨sl, bx, (nx, ty) :: tp, nx + 1⟩ d (.sl ty els (some nx)))) : dcallTGo P (some (.fn (.func g) first cap)) (some as) d ⟨sl, bx, tp, nx⟩ K := ⟨args', ty, els, he, h, hK⟩

theorem awp_dreg (l : List AOper) : awp P F (.dreg l) Q ⟨sl, bx, tp, nx⟩ = drun P l ⟨sl, bx, tp, nx⟩ (Q .normal) := id rfl
theorem awp_dtr (t : ATree) : awp P F (.dtr t) Q ⟨sl, bx, tp, nx⟩ = trun P t ⟨sl, bx, tp, nx⟩ (fun s' => ∃ s1, Weak P F s' s1 ∧ Q .normal s1) := id rfl
/-- All orders come to one state. -/
theorem dtr_to (S : State) {t : ATree} (h1 : trun P t s (fun s' => Weak P F s' S)) (h2 : Q .normal S) : awp P F (.dtr t) Q s := trun_mono (fun _ h => ⟨S, h, h2⟩) h1
theorem trun_leaf : trun P .leaf ⟨sl, bx, tp, nx⟩ K = K ⟨sl, bx, tp, nx⟩ := id rfl
theorem trun_both (a b : ATree) : trun P (.both a b) ⟨sl, bx, tp, nx⟩ K = (trun P a ⟨sl, bx, tp, nx⟩ K ∧ trun P b ⟨sl, bx, tp, nx⟩ K) := id rfl
theorem trun_top : trun P .top ⟨sl, bx, tp, nx⟩ K = True := id rfl
theorem trun_none (d : Option Nat) (o : AOp) (t : ATree) : trun P (.one ⟨d, o, none⟩ t) ⟨sl, bx, tp, nx⟩ K = dstep P d o ⟨sl, bx, tp, nx⟩ (fun s' => trun P t s' K) := id rfl
theorem trun_some (d : Option Nat) (o : AOp) (t : Nat) (w : Bool) (l : ATree) : trun P (.one ⟨d, o, some (t, w)⟩ l) ⟨sl, bx, tp, nx⟩ K =
    gGo (look sl t) w d ⟨sl, bx, tp, nx⟩ (fun s' => dstep P d o s' (fun s' => trun P l s' K)) (fun s' => trun P l s' K) := by
  simp only [trun, gstep, gGo]
  rcases look sl t with _ | av
  · rfl
  · cases av <;> rfl
/-- Where there is but one order. -/
theorem dtr_line {t : ATree} (h : trun P t s (Q .normal)) : awp P F (.dtr t) Q s := trun_mono (fun s1 h => ⟨s1, fun _ c _ w _ hr => ⟨c, Ext.refl _ _ _, rfl, hr⟩, h⟩) h
theorem drun_nil : drun P [] ⟨sl, bx, tp, nx⟩ K = K ⟨sl, bx, tp, nx⟩ := id rfl
theorem drun_none (d : Option Nat) (o : AOp) (l : List AOper) : drun P (⟨d, o, none⟩ :: l) ⟨sl, bx, tp, nx⟩ K = dstep P d o ⟨sl, bx, tp, nx⟩ (fun s' => drun P l s' K) := id rfl
theorem drun_some (d : Option Nat) (o : AOp) (t : Nat) (w : Bool) (l : List AOper) : drun P (⟨d, o, some (t, w)⟩ :: l) ⟨sl, bx, tp, nx⟩ K =
    gGo (look sl t) w d ⟨sl, bx, tp, nx⟩ (fun s' => dstep P d o s' (fun s' => drun P l s' K)) (fun s' => drun P l s' K) := by
  simp only [drun, gstep, gGo]
  rcases look sl t with _ | av
  · rfl
  · cases av <;> rfl

/-- A loop over a function: the variables that the rounds use are named; the function is walked. -/
theorem rfnGo_call {it : FuncId} {first cap : List AV} {n : Nat} {ps : List Nat} {a b : ACode} (ks : List Nat) (cells : List AV) (h : evTs ⟨sl, bx, tp, nx⟩ ks = some cells)
    (hK : CallOK P it (first ++ [.rf .yield nx] ++ cap) ((nx, [.ob (.loop ⟨n, ks, ps, a, b, .ready, none⟩) cells]) :: bx) tp (nx + 1) fun _ bx tp nx' => rfnPost Q sl nx bx tp nx') :
    rfnGo P (some (.fn (.func it) first cap)) n ps a b ⟨sl, bx, tp, nx⟩ Q := ⟨ks, cells, h, hK⟩

/-- A round. -/
theorem yield_awp {id : Nat} {i : LInfo} {cells args : List AV} {K : AV → List (Nat × List AV) → List (Nat × TypeId) → Nat → Prop} (hob : obAt bx id = some (.ob (.loop i) cells)) (hargs : args.length = i.ps.length) (hps : i.ps.all (fun p => decide (p < i.ntmps)) = true)
    (h : awp P nx i.assign (xThen' (busyQ id (awp P nx i.body (roundQ id K)))) ⟨roundSlots (zipSlots i.ks cells) i.ps args, bx, tp, nx⟩) : YieldOK P id args bx tp nx K :=
  yieldOK_of_AWP (B := awp P nx i.body (roundQ id K)) hob hargs (fun p hp => by simpa using List.all_eq_true.1 hps p hp) (fun C hC => awp_sound C hC h) fun C hC s hs => awp_sound C hC hs

theorem callGo_yield {id : Nat} {i : LInfo} {cells args : List AV} (hob : obAt bx id = some (.ob (.loop i) cells)) (hargs : args.length = i.ps.length) (hps : i.ps.all (fun p => decide (p < i.ntmps)) = true)
    (h : awp P nx i.assign (xThen' (busyQ id (awp P nx i.body (roundQ id fun r bx tp nx => K (State.put ⟨sl, bx, tp, nx⟩ d r))))) ⟨roundSlots (zipSlots i.ks cells) i.ps args, bx, tp, nx⟩) :
    callGo P (some (.rf .yield id)) (some args) d ⟨sl, bx, tp, nx⟩ K := yield_awp hob hargs hps h

/-- A callee is walked in place. -/
theorem callOK_walk {g : FuncId} {fn : Func} {N : Nat} {A : ACode} {args : List AV} {rs : List ResultVar} {K : AV → List (Nat × List AV) → List (Nat × TypeId) → Nat → Prop} (hf : P.funcs[g]? = some fn) (hc : fn.body.bind (cCode P N) = some A) (hn : fn.ntmps = N) (he : Enters P g) (hrs : fn.results.toList = rs)
    (hN : args.length ≤ N) (h : awp P nx A (fun e s' => (e = .normal ∨ e = .ret) ∧ ∃ r, resAV P s' rs = some r ∧ K r s'.boxes s'.tips s'.next) (astart args bx tp nx)) : CallOK P g args bx tp nx K := by
  subst hn
  cases hb : fn.body with
  | none => rw [hb] at hc; cases hc
  | some C =>
    rw [hb] at hc
    exact callOK_inline hf hb he hN hrs (awp_sound C hc h)

theorem callGo_walk {g : FuncId} {fn : Func} {N : Nat} {A : ACode} {first cap as : List AV} {rs : List ResultVar} (hf : P.funcs[g]? = some fn) (hc : fn.body.bind (cCode P N) = some A) (hn : fn.ntmps = N) (he : Enters P g) (hrs : fn.results.toList = rs)
    (hN : (first ++ as ++ cap).length ≤ N) (h : awp P nx A (fun e s' => (e = .normal ∨ e = .ret) ∧ ∃ r, resAV P s' rs = some r ∧ K (State.put ⟨sl, s'.boxes, s'.tips, s'.next⟩ d r)) (astart (first ++ as ++ cap) bx tp nx)) :
    callGo P (some (.fn (.func g) first cap)) (some as) d ⟨sl, bx, tp, nx⟩ K := callOK_walk (K := fun r bx tp nx => K (State.put ⟨sl, bx, tp, nx⟩ d r)) hf hc hn he hrs hN h

/-- A call of an interface's method. -/
theorem callGo_method {t : TypeId} {m : String} {g : FuncId} {rv : AV} {as : List AV} {cs : Array Value} (hm : MethodIs P t m g)
    (h : CallOK P g (rv :: as) bx tp nx fun r bx tp nx => K (State.put ⟨sl, bx, tp, nx⟩ d r)) : callGo P (some (.lit (.func (.method m) #[] cs))) (some (.vx (.iface t) [rv] :: as)) d ⟨sl, bx, tp, nx⟩ K := ⟨rfl, g, hm, h⟩

/-- What a callee that is walked in place leaves. -/
theorem walked {rs : List ResultVar} {e : Exit} {G : AV → State → Prop} {s' : State} {r : AV} (he : e = .normal ∨ e = .ret) (hr : resAV P s' rs = some r) (h : G r s') : (e = .normal ∨ e = .ret) ∧ ∃ r, resAV P s' rs = some r ∧ G r s' := ⟨he, r, hr, h⟩

theorem xThen'_normal (n : State → Prop) : xThen' n .normal ⟨sl, bx, tp, nx⟩ = n ⟨sl, bx, tp, nx⟩ := id rfl
theorem busyQ_mk (id : Nat) (B : State → Prop) : busyQ id B ⟨sl, bx, tp, nx⟩ = (match obAt bx id with
    | some (.ob (.loop i) cells) => i.st = .ready ∧ B ⟨sl, setBox bx id [.ob (.loop { i with st := .busy }) cells], tp, nx⟩
    | _ => False) := Eq.trans rfl rfl
theorem roundQ_normal (id : Nat) (R : AV → List (Nat × List AV) → List (Nat × TypeId) → Nat → Prop) : roundQ id R .normal ⟨sl, bx, tp, nx⟩ = (match obAt bx id with
    | some (.ob (.loop i) cells) => R (.lit (.bool true)) (setBox bx id [.ob (.loop { i with st := .ready, pend := none }) cells]) tp nx
    | _ => False) := by
  simp only [roundQ]
  rcases obAt bx id with _ | x
  · rfl
  · cases x <;> rfl
theorem roundQ_ret (id : Nat) (R : AV → List (Nat × List AV) → List (Nat × TypeId) → Nat → Prop) : roundQ id R .ret ⟨sl, bx, tp, nx⟩ = (match obAt bx id with
    | some (.ob (.loop i) cells) => R (.lit (.bool false)) (setBox bx id [.ob (.loop { i with st := .done, pend := some .ret }) cells]) tp nx
    | _ => False) := by
  simp only [roundQ]
  rcases obAt bx id with _ | x
  · rfl
  · cases x <;> rfl
theorem roundQ_exit (id k : Nat) (R : AV → List (Nat × List AV) → List (Nat × TypeId) → Nat → Prop) : roundQ id R (.exit k) ⟨sl, bx, tp, nx⟩ = (match obAt bx id with
    | some (.ob (.loop i) cells) => R (.lit (.bool false)) (setBox bx id [.ob (.loop { i with st := .done, pend := some (.exit k) }) cells]) tp nx
    | _ => False) := by
  simp only [roundQ]
  rcases obAt bx id with _ | x
  · rfl
  · cases x <;> rfl

theorem callGo_see {g : FuncId} {first cap as args' : List AV} {r : AV} (h : Pure P g args' [] r) (he : AV.seeL bx (first ++ as ++ cap) = some args') (hp : r.plain = true)
    (hK : K (State.put ⟨sl, bx, tp, nx⟩ d r)) : callGo P (some (.fn (.func g) first cap)) (some as) d ⟨sl, bx, tp, nx⟩ K :=
  callOK_see (K := fun r bx tp nx => K (State.put ⟨sl, bx, tp, nx⟩ d r)) h he hp hK

/-- A function that only computes, by its compiled code. -/
theorem pure_of {g : FuncId} {fn : Func} {N : Nat} {A : ACode} {args : List AV} {tys : List TypeId} {r : AV} {rs : List ResultVar} (hf : P.funcs[g]? = some fn) (hc : fn.body.bind (cCode P N) = some A) (hn : fn.ntmps = N) (he : Enters P g) (hrs : fn.results.toList = rs)
    (hN : args.length ≤ N) (hr0 : r.under tys.length = true)
    (h : awp P 0 A (fun e s' => (e = .normal ∨ e = .ret) ∧ ∃ ids : List Nat, ids.length = tys.length ∧ ids.Nodup ∧ resAV P s' rs = some (r.ren (fun i => ids.getD i 0)) ∧
      ∀ (i k : Nat) (e : TypeId), ids[i]? = some k → tys[i]? = some e → (k, e) ∈ s'.tips) (astart args [] [] 0)) : Pure P g args tys r := by
  subst hn
  cases hb : fn.body with
  | none => rw [hb] at hc; cases hc
  | some C =>
    rw [hb] at hc
    exact pure_of_awp hf hb he hN hrs hr0 (awp_sound C hc h)

/-- What a function that only computes hands back: no new rows. -/
def Done (P : Program) (rs : List ResultVar) (r : AV) (e : Exit) (s : State) : Prop := (e = .normal ∨ e = .ret) ∧ resAV P s rs = some r

/-- What it hands back: one new row. -/
def Done1 (P : Program) (rs : List ResultVar) (ty : TypeId) (r : Nat → AV) (e : Exit) (s : State) : Prop := (e = .normal ∨ e = .ret) ∧ ∃ k, resAV P s rs = some (r k) ∧ hasTip s.tips k ty = true

mutual
theorem AV.ren_under0 (f : Nat → Nat) : ∀ (av : AV), av.under 0 = true → av.ren f = av
  | .lit v, _ => rfl
  | .sl e els tip, h => by cases tip <;> simp [AV.under] at h; rfl
  | .ep cells, h => by
    simp only [AV.under] at h
    simp only [AV.ren, AV.renL_under0 f cells h]
  | .bp id off, h => by simp [AV.under] at h
  | .fn g first cap, h => by
    simp only [AV.under, Bool.and_eq_true] at h
    simp only [AV.ren, AV.renL_under0 f first h.1, AV.renL_under0 f cap h.2]
  | .ag l, h => by
    simp only [AV.under] at h
    simp only [AV.ren, AV.renL_under0 f l h]
  | .tu l, h => by
    simp only [AV.under] at h
    simp only [AV.ren, AV.renL_under0 f l h]
  | .sn e l, h => by
    simp only [AV.under] at h
    simp only [AV.ren, AV.renL_under0 f l h]
  | .ob k l, h => by
    simp only [AV.under] at h
    simp only [AV.ren, AV.renL_under0 f l h]
  | .rf k id, h => by simp [AV.under] at h
  | .vx k l, h => by
    simp only [AV.under] at h
    simp only [AV.ren, AV.renL_under0 f l h]
theorem AV.renL_under0 (f : Nat → Nat) : ∀ (l : List AV), AV.underL 0 l = true → AV.renL f l = l
  | [], _ => rfl
  | x :: xs, h => by
    simp only [AV.underL, Bool.and_eq_true] at h
    simp only [AV.renL, AV.ren_under0 f x h.1, AV.renL_under0 f xs h.2]
end

theorem pure0 {g : FuncId} {fn : Func} {N : Nat} {A : ACode} {args : List AV} {r : AV} {rs : List ResultVar} (hf : P.funcs[g]? = some fn) (hc : fn.body.bind (cCode P N) = some A) (hn : fn.ntmps = N) (he : Enters P g) (hrs : fn.results.toList = rs)
    (hN : args.length ≤ N) (hr0 : r.under 0 = true) (h : awp P 0 A (Done P rs r) (astart args [] [] 0)) : Pure P g args [] r := by
  subst hn
  cases hb : fn.body with
  | none => rw [hb] at hc; cases hc
  | some C =>
    rw [hb] at hc
    refine pure_of_awp hf hb he hN hrs hr0 ?_
    intro c a w hfl hr
    refine wpIn_mono (awp_sound C hc h c a w hfl hr) ?_
    rintro e a' w' ⟨c', s', h1, h2, h3, h4, h5⟩
    exact ⟨c', s', h1, h2, h3, h4, [], rfl, List.nodup_nil, by rw [AV.ren_under0 _ _ hr0]; exact h5, fun i k e hi => by simp at hi⟩

theorem pure1 {g : FuncId} {fn : Func} {N : Nat} {A : ACode} {args : List AV} {ty : TypeId} {els : List (List Value)} {rs : List ResultVar} (hf : P.funcs[g]? = some fn) (hc : fn.body.bind (cCode P N) = some A) (hn : fn.ntmps = N) (he : Enters P g) (hrs : fn.results.toList = rs)
    (hN : args.length ≤ N) (h : awp P 0 A (Done1 P rs ty fun k => .sl ty els (some k)) (astart args [] [] 0)) : Pure P g args [ty] (.sl ty els (some 0)) := by
  subst hn
  cases hb : fn.body with
  | none => rw [hb] at hc; cases hc
  | some C =>
    rw [hb] at hc
    refine pure_of_awp hf hb he hN hrs (by simp [AV.under]) ?_
    intro c a w hfl hr
    refine wpIn_mono (awp_sound C hc h c a w hfl hr) ?_
    rintro e a' w' ⟨c', s', h1, h2, h3, h4, k, h5, h6⟩
    refine ⟨c', s', h1, h2, h3, h4, [k], rfl, by simp, by simpa [AV.ren] using h5, fun i k' e hi he => ?_⟩
    cases i with
    | zero => simp at hi he; subst hi; subst he; exact hasTip_mem h6
    | succ i => simp at hi
end
end Go.Ab
