/-
Rules for maps and the like. Conditions: none.
-/
import Derived.Test.YteekelelcbfekaaDoorAbRunC
set_option linter.unusedSimpArgs false
set_option linter.unusedVariables false
set_option linter.unusedSectionVars false
namespace Go.Ab
open Go Go.RowKit

def xvO (x : XV) (bx : List (Nat × List AV)) : Option (List AV) → Option AV
  | some avs => x.val bx avs
  | none => none
def lkpO (ok : Bool) (z key : Value) : Option AV → Option AV
  | some (.ob (.map _ _ _) cells) => (findA key cells 0).map (lkpV ok z)
  | _ => none
def lenO : Option AV → Option AV
  | some (.ob (.map _ _ n) _) => some (.lit (.int .i64 n))
  | _ => none
def findO (b : Option Bool) (i : Nat) (v : AV) (rest : Option (Option (Nat × AV))) : Option (Option (Nat × AV)) :=
  match b with
  | some true => some (some (i, v))
  | some false => rest
  | none => none
def xeO (x : XE) (bx : List (Nat × List AV)) (tp : List (Nat × TypeId)) (nx : Nat) : Option (List AV) → Option Upd
  | some avs => x.eff bx tp nx avs
  | none => none
def xeGo (o : Option Upd) (d : Option Nat) (s : State) (K : State → Prop) : Prop :=
  match o with
  | some u => K (u.ap d s)
  | none => False
def mupF (k e : TypeId) (n : Nat) (cells : List AV) (key : Value) (v : AV) : Option (Option (Nat × AV)) → Option AV
  | some (some (i, _)) => some (.ob (.map k e n) (cells.set (2 * i + 1) v))
  | some none => some (.ob (.map k e (n + 1)) (cells ++ [.lit key, v]))
  | none => none
def mupO (bx : List (Nat × List AV)) (tp : List (Nat × TypeId)) (nx id : Nat) (key : Value) (v : AV) : Option AV → Option Upd
  | some (.ob (.map k e n) cells) => (mupF k e n cells key v (findA key cells 0)).map fun y => ⟨none, setBox bx id [y], tp, nx⟩
  | _ => none
def rngO (bx : List (Nat × List AV)) (tp : List (Nat × TypeId)) (nx id : Nat) : Option AV → Option Upd
  | some (.ob (.map _ _ n) _) => some ⟨some (.rf .iter nx), (nx, [.ob (.miter [] n n) [.rf .map id]]) :: bx, tp, nx + 1⟩
  | _ => none
def nxtGo (str : Bool) (o : Option AV) (d : Option Nat) (s : State) (K : State → Prop) : Prop :=
  match o with
  | some it => nextOf str it d s K
  | none => False
/-- The entry that a round is of. -/
def entO (bx : List (Nat × List AV)) : Option AV → Option AV
  | some (.ob (.miter seen _ last) [.rf .map m]) => match obAt bx m with
    | some (.ob (.map _ _ n) cells) => match seen.getLast? with
      | some i => if n = last then (match cells[2 * i]?, cells[2 * i + 1]? with
        | some key, some v => some (.tu [key, v])
        | _, _ => none) else none
      | none => none
    | _ => none
  | _ => none

def lkpSO (ks : List BK) (ok : Bool) (z : Value) : Option (List Value) → Option AV → Option AV
  | some xs, some (.ob (.map _ _ _) cells) => if xs.length = ks.length then (findS ks xs cells 0).map (lkpV ok z) else none
  | _, _ => none
def mupSF (k e : TypeId) (n : Nat) (cells : List AV) (key v : AV) : Option (Option (Nat × AV)) → Option AV
  | some (some (i, _)) => some (.ob (.map k e n) (cells.set (2 * i + 1) v))
  | some none => some (.ob (.map k e (n + 1)) (cells ++ [key, v]))
  | none => none
def mupSO (ks : List BK) (bx : List (Nat × List AV)) (tp : List (Nat × TypeId)) (nx id : Nat) (key v : AV) : Option (List Value) → Option AV → Option Upd
  | some xs, some (.ob (.map k e n) cells) => if xs.length = ks.length then (mupSF k e n cells key v (findS ks xs cells 0)).map fun y => ⟨none, setBox bx id [y], tp, nx⟩ else none
  | _, _ => none

section
variable {P : Program} {F : Nat} {Q : Exit → State → Prop} {K f g : State → Prop} {s : State} {sl : List (Nat × Option AV)} {bx : List (Nat × List AV)} {tp : List (Nat × TypeId)} {nx : Nat} {d : Option Nat}

theorem s_xv (x : XV) (xs : List AX) : astep P d (.xv x xs) ⟨sl, bx, tp, nx⟩ K = pGo (vop ⟨sl, bx, tp, nx⟩ (.xv x xs)) d ⟨sl, bx, tp, nx⟩ K := vstep fun _ => rfl
theorem d_xv (x : XV) (xs : List AX) : dstep P d (.xv x xs) s K = astep P d (.xv x xs) s K := id rfl
theorem v_xv (x : XV) (xs : List AX) : vop ⟨sl, bx, tp, nx⟩ (.xv x xs) = xvO x bx (State.evs ⟨sl, bx, tp, nx⟩ xs) := by
  simp only [vop, xvO]
  cases State.evs ⟨sl, bx, tp, nx⟩ xs <;> rfl
theorem xvO_some (x : XV) (avs : List AV) : xvO x bx (some avs) = x.val bx avs := id rfl
theorem val_lkp (ok : Bool) (z : Value) (id : Nat) (k : IntKind) (n : Int) : XV.val (.lkp ok z) bx [.rf .map id, .lit (.int k n)] = lkpO ok z (.int k n) (obAt bx id) := by
  simp only [XV.val, lkpO, isKey]
  rcases obAt bx id with _ | av
  · rfl
  · cases av <;> try rfl
    rename_i o cells
    cases o <;> first | rfl | (simp only []; cases findA (.int k n) cells 0 <;> rfl)
theorem val_lkp0 (ok : Bool) (z : Value) (k : IntKind) (n : Int) : XV.val (.lkp ok z) bx [.lit (.map none), .lit (.int k n)] = some (lkpV ok z none) := id rfl
theorem lkpO_some (ok : Bool) (z key : Value) (k e : TypeId) (n : Nat) (cells : List AV) : lkpO ok z key (some (.ob (.map k e n) cells)) = (findA key cells 0).map (lkpV ok z) := id rfl
theorem findA_nil (key : Value) (i : Nat) : findA key [] i = some none := id rfl
theorem findA_cons (key kv : Value) (v : AV) (rest : List AV) (i : Nat) : findA key (.lit kv :: v :: rest) i = findO (eqKey key kv) i v (findA key rest (i + 1)) := by
  simp only [findA, findO]
  rcases eqKey key kv with _ | b
  · rfl
  · cases b <;> rfl
theorem findO_t (i : Nat) (v : AV) (r : Option (Option (Nat × AV))) : findO (some true) i v r = some (some (i, v)) := id rfl
theorem findO_f (i : Nat) (v : AV) (r : Option (Option (Nat × AV))) : findO (some false) i v r = r := id rfl
theorem eqKey_int (k : IntKind) (a b : Int) : eqKey (.int k a) (.int k b) = some (a == b) := by simp [eqKey]
theorem lkpV_t (z : Value) (i : Nat) (v : AV) : lkpV true z (some (i, v)) = .tu [v, .lit (.bool true)] := id rfl
theorem lkpV_f (z : Value) (i : Nat) (v : AV) : lkpV false z (some (i, v)) = v := id rfl
theorem lkpV_tn (z : Value) : lkpV true z none = .tu [litA z, .lit (.bool false)] := id rfl
theorem lkpV_fn (z : Value) : lkpV false z none = litA z := id rfl
theorem litA_int (k : IntKind) (n : Int) : litA (.int k n) = .lit (.int k n) := id rfl
theorem litA_bool (b : Bool) : litA (.bool b) = .lit (.bool b) := id rfl
theorem litA_agg (cs : List Value) : litA (.agg ⟨cs⟩) = .ag (cs.map .lit) := id rfl
theorem val_lkpF (ok : Bool) (z : Value) (n : Nat) (cells : List AV) (k : IntKind) (m : Int) : XV.val (.lkp ok z) bx [.vx (.map n) cells, .lit (.int k m)] = (findA (.int k m) cells 0).map (lkpV ok z) := by
  simp only [XV.val, XV.val2, lkpF, isKey]
  cases findA (.int k m) cells 0 <;> rfl
theorem val_lkpS (ks : List BK) (ok : Bool) (z : Value) (id : Nat) (l : List AV) : XV.val (.lkpS ks ok z) bx [.rf .map id, .ag l] = lkpSO ks ok z (vals l) (obAt bx id) := by
  simp only [XV.val, XV.val2, lkpSV, lkpSO]
  cases obAt bx id with
  | none => cases vals l <;> rfl
  | some av => cases vals l <;> cases av <;> first | rfl | (rename_i o cells; cases o <;> rfl)
theorem val_lkpSF (ks : List BK) (ok : Bool) (z : Value) (n : Nat) (cells l : List AV) : XV.val (.lkpS ks ok z) bx [.vx (.map n) cells, .ag l] = lkpSO ks ok z (vals l) (some (.ob (.map 0 0 n) cells)) := by
  simp only [XV.val, XV.val2, lkpSV, lkpSO]
  cases vals l <;> rfl
theorem lkpSO_some (ks : List BK) (ok : Bool) (z : Value) (xs : List Value) (k e : TypeId) (n : Nat) (cells : List AV) : lkpSO ks ok z (some xs) (some (.ob (.map k e n) cells)) = if xs.length = ks.length then (findS ks xs cells 0).map (lkpV ok z) else none := id rfl
theorem findS_nil (ks : List BK) (xs : List Value) (i : Nat) : findS ks xs [] i = some none := id rfl
theorem vals_lits (ys : List Value) : vals (ys.map .lit) = some ys := by
  induction ys with
  | nil => rfl
  | cons y ys ih => simp only [List.map_cons, vals, ih]
theorem findS_cons (ks : List BK) (xs ys : List Value) (v : AV) (rest : List AV) (i : Nat) : findS ks xs (.ag (ys.map .lit) :: v :: rest) i = findO (eqK ks xs ys) i v (findS ks xs rest (i + 1)) := by
  simp only [findS, vals_lits, findO]
  cases eqK ks xs ys with
  | none => rfl
  | some b => cases b <;> rfl
theorem val_lenF (n : Nat) (cells : List AV) : XV.val .lenM bx [.vx (.map n) cells] = some (.lit (.int .i64 n)) := id rfl
theorem val_lenM (id : Nat) : XV.val .lenM bx [.rf .map id] = lenO (obAt bx id) := by
  simp only [XV.val, lenO]
  rcases obAt bx id with _ | av
  · rfl
  · cases av <;> first | rfl | (rename_i o cells; cases o <;> rfl)
theorem val_lenM0 : XV.val .lenM bx [.lit (.map none)] = some (.lit (.int .i64 0)) := id rfl
theorem lenO_some (k e : TypeId) (n : Nat) (cells : List AV) : lenO (some (.ob (.map k e n) cells)) = some (.lit (.int .i64 n)) := id rfl
theorem val_mki (t : TypeId) (av : AV) : XV.val (.mki t) bx [av] = some (.vx (.iface t) [av]) := id rfl
theorem val_capM0 : XV.val .capM bx [.lit (.slice none 0 0)] = some (.lit (.int .i64 0)) := id rfl
theorem eff_mks (e : TypeId) (sz bytes : Nat) (zero : List Value) (k1 k2 : IntKind) (l c : Int) : XE.eff (.mks e sz bytes zero) bx tp nx [.lit (.int k1 l), .lit (.int k2 c)] =
    (if 0 ≤ l ∧ l ≤ c ∧ (bytes : Int) * c ≤ 281474976710656 ∧ c ≤ 9223372036854775807 then some ⟨some (.rf (.row e sz 0 l.toNat) nx), (nx, ((List.replicate l.toNat zero).flatten).map .lit) :: bx, tp, nx + 1⟩ else none) := id rfl
theorem eff_apz (e : TypeId) (sz bytes : Nat) (zero : List Value) (k : IntKind) (n : Int) : XE.eff (.apz e sz bytes zero) bx tp nx [.lit (.slice none 0 0), .lit (.int k n)] =
    (if 0 < n ∧ n.toNat * bytes ≤ 140737488355328 ∧ n ≤ 9223372036854775807 then some ⟨some (.rf (.row e sz 0 n.toNat) nx), (nx, ((List.replicate n.toNat zero).flatten).map .lit) :: bx, tp, nx + 1⟩ else none) := id rfl
theorem eff_bsn (e : TypeId) (avs : List AV) : XE.eff (.bsn e) bx tp nx avs = (if allOneB avs = true then some ⟨some (.sn e avs), bx, tp, nx⟩ else none) := by
  cases avs with
  | nil => rfl
  | cons x l => rfl
theorem val_ent (i : Nat) : XV.val .ent bx [.rf .iter i] = entO bx (obAt bx i) := id rfl

theorem s_xe (x : XE) (xs : List AX) : astep P d (.xe x xs) ⟨sl, bx, tp, nx⟩ K = xeGo (xeO x bx tp nx (State.evs ⟨sl, bx, tp, nx⟩ xs)) d ⟨sl, bx, tp, nx⟩ K := by
  simp only [astep, xeO, xeGo]
  rcases State.evs ⟨sl, bx, tp, nx⟩ xs with _ | avs
  · rfl
  · simp only []
    cases x.eff bx tp nx avs <;> rfl
theorem d_xe (x : XE) (xs : List AX) : dstep P d (.xe x xs) s K = astep P d (.xe x xs) s K := id rfl
theorem xeO_some (x : XE) (avs : List AV) : xeO x bx tp nx (some avs) = x.eff bx tp nx avs := id rfl
theorem xeGo_some (av : AV) (b : List (Nat × List AV)) (t : List (Nat × TypeId)) (n : Nat) : xeGo (some ⟨some av, b, t, n⟩) d ⟨sl, bx, tp, nx⟩ K = K (State.put ⟨sl, b, t, n⟩ d av) := id rfl
theorem xeGo_none (b : List (Nat × List AV)) (t : List (Nat × TypeId)) (n : Nat) : xeGo (some ⟨none, b, t, n⟩) d ⟨sl, bx, tp, nx⟩ K = K (State.del ⟨sl, b, t, n⟩ d) := id rfl
theorem eff_mkm : XE.eff .mkm bx tp nx [] = some ⟨some (.rf .map nx), (nx, [.ob (.map 0 0 0) []]) :: bx, tp, nx + 1⟩ := id rfl
theorem eff_rngS (b : ByteArray) : XE.eff .rngS bx tp nx [.lit (.string b)] = some ⟨some (.rf .iter nx), (nx, [.ob (.iter b 0) []]) :: bx, tp, nx + 1⟩ := id rfl
theorem eff_rngM (id : Nat) : XE.eff .rngM bx tp nx [.rf .map id] = rngO bx tp nx id (obAt bx id) := by
  simp only [XE.eff, rngO]
  rcases obAt bx id with _ | av
  · rfl
  · cases av <;> first | rfl | (rename_i o cells; cases o <;> rfl)
theorem rngO_some (i : Nat) (k e : TypeId) (n : Nat) (cells : List AV) : rngO bx tp nx i (some (.ob (.map k e n) cells)) = some ⟨some (.rf .iter nx), (nx, [.ob (.miter [] n n) [.rf .map i]]) :: bx, tp, nx + 1⟩ := id rfl
theorem eff_mup (id : Nat) (k : IntKind) (n : Int) (v : AV) : XE.eff .mup bx tp nx [.rf .map id, .lit (.int k n), v] = mupO bx tp nx id (.int k n) v (obAt bx id) := by
  simp only [XE.eff, mupO, isKey]
  rcases obAt bx id with _ | av
  · rfl
  · cases av <;> try rfl
    rename_i o cells
    cases o <;> first | rfl | (simp only []; rcases findA (.int k n) cells 0 with _ | (_ | ⟨i, u⟩) <;> rfl)
def mentSF (k e : TypeId) (n : Nat) (cells : List AV) (key : AV) (z : Value) (bx : List (Nat × List AV)) (tp : List (Nat × TypeId)) (nx i0 : Nat) : Option (Option (Nat × AV)) → Option Upd
  | some (some (i, .lit v)) => some ⟨some (.tu [.lit v, .lit (.int .i64 i)]), setBox bx i0 [.ob (.map k e n) cells], tp, nx⟩
  | some none => some ⟨some (.tu [.lit z, .lit (.int .i64 n)]), setBox bx i0 [.ob (.map k e (n + 1)) (cells ++ [key, .lit z])], tp, nx⟩
  | _ => none
def mentSO (ks : List BK) (z : Value) (bx : List (Nat × List AV)) (tp : List (Nat × TypeId)) (nx i0 : Nat) (key : AV) : Option (List Value) → Option AV → Option Upd
  | some xs, some (.ob (.map k e n) cells) => if xs.length = ks.length then mentSF k e n cells key z bx tp nx i0 (findS ks xs cells 0) else none
  | _, _ => none
theorem eff_mentS (ks : List BK) (z : Value) (i0 : Nat) (l : List AV) : XE.eff (.mentS ks z) bx tp nx [.rf .map i0, .ag l] = mentSO ks z bx tp nx i0 (.ag l) (vals l) (obAt bx i0) := by
  simp only [XE.eff, XE.eff2, mentSE, mentSO]
  rcases obAt bx i0 with _ | av
  · rcases vals l with _ | xs <;> rfl
  · rcases vals l with _ | xs
    · cases av <;> first | rfl | (rename_i o cells; cases o <;> rfl)
    · cases av <;> try rfl
      rename_i o cells
      cases o <;> rfl
theorem mentSO_some (ks : List BK) (z : Value) (i0 : Nat) (key : AV) (xs : List Value) (k e : TypeId) (n : Nat) (cells : List AV) : mentSO ks z bx tp nx i0 key (some xs) (some (.ob (.map k e n) cells)) = if xs.length = ks.length then mentSF k e n cells key z bx tp nx i0 (findS ks xs cells 0) else none := id rfl
theorem mentSF_at (k e : TypeId) (n : Nat) (cells : List AV) (key : AV) (z : Value) (i0 i : Nat) (v : Value) : mentSF k e n cells key z bx tp nx i0 (some (some (i, .lit v))) = some ⟨some (.tu [.lit v, .lit (.int .i64 i)]), setBox bx i0 [.ob (.map k e n) cells], tp, nx⟩ := id rfl
theorem mentSF_new (k e : TypeId) (n : Nat) (cells : List AV) (key : AV) (z : Value) (i0 : Nat) : mentSF k e n cells key z bx tp nx i0 (some none) = some ⟨some (.tu [.lit z, .lit (.int .i64 n)]), setBox bx i0 [.ob (.map k e (n + 1)) (cells ++ [key, .lit z])], tp, nx⟩ := id rfl
def estsO (bx : List (Nat × List AV)) (tp : List (Nat × TypeId)) (nx i0 : Nat) (j : Int) (v : AV) : Option AV → Option Upd
  | some (.ob (.map k e n) cells) => if 0 ≤ j ∧ j < n then some ⟨none, setBox bx i0 [.ob (.map k e n) (cells.set (2 * j.toNat + 1) v)], tp, nx⟩ else none
  | _ => none
theorem eff_cvSB (e : TypeId) (b : ByteArray) : XE.eff (.cvSB e) bx tp nx [.lit (.string b)] = some ⟨some (.sl e (strB b) none), bx, tp, nx⟩ := id rfl
theorem eff_alcT (e : TypeId) (z : List Value) : XE.eff (.alcT e z) bx tp nx [] = some ⟨some (.rf (.var e z.length) nx), (nx, z.map .lit) :: bx, tp, nx + 1⟩ := id rfl
theorem val_ncl (e : TypeId) (n id : Nat) : XV.val .ncl bx [.rf (.var e n) id] = some (.bp id 0) := rfl
theorem val_nclB (id off : Nat) : XV.val .ncl bx [.bp id off] = some (.bp id off) := rfl
theorem eff_ests (i0 : Nat) (j : Int) (v : AV) : XE.eff .ests bx tp nx [.rf .map i0, .lit (.int .i64 j), v] = estsO bx tp nx i0 j v (obAt bx i0) := id rfl
theorem estsO_some (i0 : Nat) (j : Int) (v : AV) (k e : TypeId) (n : Nat) (cells : List AV) : estsO bx tp nx i0 j v (some (.ob (.map k e n) cells)) = if 0 ≤ j ∧ j < n then some ⟨none, setBox bx i0 [.ob (.map k e n) (cells.set (2 * j.toNat + 1) v)], tp, nx⟩ else none := id rfl
theorem eff_mupS (ks : List BK) (i0 : Nat) (l : List AV) (v : AV) : XE.eff (.mupS ks) bx tp nx [.rf .map i0, .ag l, v] = mupSO ks bx tp nx i0 (.ag l) v (vals l) (obAt bx i0) := by
  simp only [XE.eff, XE.eff2, mupSE, mupSO]
  rcases obAt bx i0 with _ | av
  · rcases vals l with _ | xs <;> rfl
  · rcases vals l with _ | xs
    · cases av <;> first | rfl | (rename_i o cells; cases o <;> rfl)
    · cases av <;> try rfl
      rename_i o cells
      cases o <;> try rfl
      simp only []
      split
      · rcases findS ks xs cells 0 with _ | (_ | ⟨i, u⟩) <;> rfl
      · rfl
theorem mupSO_some (ks : List BK) (i0 : Nat) (key v : AV) (xs : List Value) (k e : TypeId) (n : Nat) (cells : List AV) : mupSO ks bx tp nx i0 key v (some xs) (some (.ob (.map k e n) cells)) = if xs.length = ks.length then (mupSF k e n cells key v (findS ks xs cells 0)).map fun y => ⟨none, setBox bx i0 [y], tp, nx⟩ else none := Eq.trans rfl rfl
theorem mupSF_at (k e : TypeId) (n : Nat) (cells : List AV) (key v u : AV) (i : Nat) : mupSF k e n cells key v (some (some (i, u))) = some (.ob (.map k e n) (cells.set (2 * i + 1) v)) := id rfl
theorem mupSF_new (k e : TypeId) (n : Nat) (cells : List AV) (key v : AV) : mupSF k e n cells key v (some none) = some (.ob (.map k e (n + 1)) (cells ++ [key, v])) := id rfl
theorem mupO_some (i : Nat) (key : Value) (v : AV) (k e : TypeId) (n : Nat) (cells : List AV) : mupO bx tp nx i key v (some (.ob (.map k e n) cells)) = (mupF k e n cells key v (findA key cells 0)).map fun y => ⟨none, setBox bx i [y], tp, nx⟩ := id rfl
theorem mupF_at (k e : TypeId) (n : Nat) (cells : List AV) (key : Value) (v u : AV) (i : Nat) : mupF k e n cells key v (some (some (i, u))) = some (.ob (.map k e n) (cells.set (2 * i + 1) v)) := id rfl
theorem mupF_new (k e : TypeId) (n : Nat) (cells : List AV) (key : Value) (v : AV) : mupF k e n cells key v (some none) = some (.ob (.map k e (n + 1)) (cells ++ [.lit key, v])) := id rfl
theorem s_nxt (str : Bool) (x : AX) : astep P d (.nxt str x) ⟨sl, bx, tp, nx⟩ K = nxtGo str (State.ev ⟨sl, bx, tp, nx⟩ x) d ⟨sl, bx, tp, nx⟩ K := by
  simp only [astep, nxtGo]
  cases State.ev ⟨sl, bx, tp, nx⟩ x <;> rfl
theorem nxtGo_some (str : Bool) (it : AV) : nxtGo str (some it) d s K = nextOf str it d s K := id rfl

/-- The next round of a loop over a map, whichever entry is drawn. -/
theorem next_map {id m n since last : Nat} {seen : List Nat} {k e : TypeId} {cells : List AV} (h1 : obAt bx id = some (.ob (.miter seen since last) [.rf .map m])) (h2 : obAt bx m = some (.ob (.map k e n) cells)) (h3 : n ≤ since) (h4 : since ≤ last)
    (hA : ∀ (i : Nat) (key v : AV), i < n → i ∉ seen → cells[2 * i]? = some key → cells[2 * i + 1]? = some v → K (State.put ⟨sl, setBox bx id [.ob (.miter (seen ++ [i]) since n) [.rf .map m]], tp, nx⟩ d (.tu [.lit (.bool true), key, v])))
    (hB : (∀ i, i < n → i ∈ seen) → K (State.put ⟨sl, bx, tp, nx⟩ d (.tu [.lit (.bool false)]))) : nextOf false (.rf .iter id) d ⟨sl, bx, tp, nx⟩ K := by
  simp only [nextOf, h1, h2]
  exact ⟨trivial, h3, h4, hA, hB⟩

theorem next_str {id pos : Nat} {b : ByteArray} {cs : List AV} (h1 : obAt bx id = some (.ob (.iter b pos) cs))
    (hA : pos < b.size → K (State.put ⟨sl, setBox bx id [.ob (.iter b (pos + (Utf8.decode b pos).2)) []], tp, nx⟩ d (.tu [.lit (.bool true), .lit (.int .i64 pos), .lit (.int .i32 (Utf8.decode b pos).1)])))
    (hB : b.size ≤ pos → K (State.put ⟨sl, bx, tp, nx⟩ d (.tu [.lit (.bool false)]))) : nextOf true (.rf .iter id) d ⟨sl, bx, tp, nx⟩ K := by
  simp only [nextOf, h1]
  exact ⟨trivial, hA, hB⟩
end

/-- A loop whose states are told by some values, of which each round makes something less. -/
theorem loop_by {P : Program} {F : Nat} {s : State} {A : ACode} {Q : Exit → State → Prop} {α : Type} (S : α → State) (p : α → Prop) (m : α → Nat) (hS : ∀ a b, S a = S b → m a = m b) (a0 : α) (h0 : Weak P F s (S a0)) (hp : p a0)
    (hstep : ∀ a, p a → awp P F A (xThen (fun s' => ∃ b, Weak P F s' (S b) ∧ p b ∧ m b < m a) Q) (S a)) : aloop P F (awp P F A) Q s := by
  classical
  let mu : State → Nat := fun s => if h : ∃ a, s = S a then m h.choose else 0
  have hmu : ∀ a, mu (S a) = m a := by
    intro a
    have h : ∃ b, S a = S b := ⟨a, rfl⟩
    simp only [mu, dif_pos h]
    exact (hS _ _ h.choose_spec).symm
  refine ⟨fun s => ∃ a, s = S a ∧ p a, mu, ⟨S a0, h0, a0, rfl, hp⟩, ?_⟩
  rintro _ ⟨a, rfl, hpa⟩
  refine awp_mono ?_ (hstep a hpa)
  intro e s' hK
  cases e with
  | normal =>
    obtain ⟨b, h1, h2, h3⟩ := hK
    exact ⟨S b, h1, ⟨b, rfl, h2⟩, by rw [hmu, hmu]; exact h3⟩
  | _ => exact hK
/-- How many of a map's entries a loop has not come to. -/
def leftN (n : Nat) (seen : List Nat) : Nat := (List.range n).countP fun j => !seen.contains j
theorem leftN_lt {n i : Nat} {seen : List Nat} (hi : i < n) (hs : i ∉ seen) : leftN n (seen ++ [i]) < leftN n seen := by
  have key : ∀ l : List Nat, (l.countP fun j => !(seen ++ [i]).contains j) ≤ (l.countP fun j => !seen.contains j) ∧ (i ∈ l → (l.countP fun j => !(seen ++ [i]).contains j) < (l.countP fun j => !seen.contains j)) := by
    intro l
    induction l with
    | nil => simp
    | cons x l ih =>
      simp only [List.countP_cons]
      by_cases hx : x = i
      · subst hx
        have h1 : (!(seen ++ [x]).contains x) = false := by simp
        have h2 : (!seen.contains x) = true := by simpa using hs
        simp only [h1, h2, if_true, Bool.false_eq_true, if_false]
        have := ih.1
        exact ⟨by omega, fun _ => by omega⟩
      · have h1 : (!(seen ++ [i]).contains x) = (!seen.contains x) := by simp [hx]
        rw [h1]
        have h2 := ih.1
        refine ⟨by omega, fun hm => ?_⟩
        have hm' : i ∈ l := by
          rcases List.mem_cons.1 hm with e | e
          · exact absurd e.symm hx
          · exact e
        have := ih.2 hm'
        omega
  exact (key _).2 (List.mem_range.2 hi)
/-- Slots may be forgotten, and told in another order. -/
def slotsSub (sl : List (Nat × Option AV)) : List (Nat × Option AV) → Prop
  | [] => True
  | (t, o) :: l => look sl t = o ∧ slotsSub sl l
theorem slotsSub_look {sl : List (Nat × Option AV)} : ∀ {l : List (Nat × Option AV)} {t : Nat} {av : AV}, slotsSub sl l → look l t = some av → look sl t = some av
  | [], t, av, _, h => by simp [look] at h
  | (t', o) :: l, t, av, hs, h => by
    simp only [look] at h
    split at h
    · rename_i he; subst he; rw [hs.1, h]
    · exact slotsSub_look hs.2 h
theorem weak_slots {P : Program} {F : Nat} {sl sl1 : List (Nat × Option AV)} {bx : List (Nat × List AV)} {tp : List (Nat × TypeId)} {nx : Nat} (h : slotsSub sl sl1) : Weak P F ⟨sl, bx, tp, nx⟩ ⟨sl1, bx, tp, nx⟩ := by
  intro N c a w hfl hr
  exact ⟨c, Ext.refl _ _ _, rfl, fun t av ht => hr.slots t av (slotsSub_look h ht), hr.size, hr.marks, hr.round, hr.low, hr.mem, hr.next, hr.floor⟩

attribute [go_sem] eff_cvSB eff_alcT val_ncl val_nclB eff_mentS mentSO_some mentSF_at mentSF_new eff_ests estsO_some val_lkpF val_lkpS val_lkpSF lkpSO_some findS_nil val_lenF eff_mupS mupSO_some mupSF_at mupSF_new eff_bsn allOneB val_mki val_capM0 eff_mks eff_apz s_xv d_xv v_xv xvO_some val_lkp val_lkp0 lkpO_some findA_nil findA_cons findO_t findO_f eqKey_int lkpV_t lkpV_f lkpV_tn lkpV_fn litA_int litA_bool litA_agg val_lenM val_lenM0 lenO_some val_ent
  s_xe d_xe xeO_some xeGo_some xeGo_none eff_mkm eff_rngS eff_rngM rngO_some eff_mup mupO_some mupF_at mupF_new s_nxt nxtGo_some
end Go.Ab
