/-
From a function that only computes to a row of the template of laws. Conditions: none.
-/
import Derived.Test.YteekelelcbfekaaDoorAbEvalM
import Derived.ProofKit
import Derived.OpenShut
import Derived.SizedLaws
import Derived.JoinedOf
import Derived.Carry
set_option linter.unusedSimpArgs false
set_option linter.unusedVariables false
set_option linter.unusedSectionVars false
namespace Go.Ab
open Go Go.RowKit Go.ChangeShapes Go.WideShapes Go.ChangeAt

/-- Arguments of plain data: numbers, bools, texts, rows of numbers. -/
inductive Arg (P : Program) : TypeId → AV → Prop
  | int {t : TypeId} {k : IntKind} {n : Int} (ht : P.underlying t = some (.int k)) (h : (Lit.int k n).wf = true) : Arg P t (.lit (.int k n))
  | bool {t : TypeId} {b : Bool} (ht : P.underlying t = some .bool) : Arg P t (.lit (.bool b))
  | str {t : TypeId} {s : ByteArray} (ht : P.underlying t = some .string) (h : s.size ≤ 140737488351232) : Arg P t (.lit (.string s))
  | ints {t e : TypeId} {k : IntKind} {zs : List Int} (ht : P.underlying t = some (.slice e)) (he : P.underlying e = some (.int k)) (h : ∀ n ∈ zs, (Lit.int k n).wf = true) (hl : zs.length * P.bytesOf e ≤ 140737488351232) :
      Arg P t (.sl e (zs.map fun n => [.int k n]) none)

def Args (P : Program) : List TypeId → List AV → Prop
  | [], avs => avs = []
  | t :: ts, avs => ∃ av rest, avs = av :: rest ∧ Arg P t av ∧ Args P ts rest

/-- Types of such arguments. -/
def plainB (P : Program) (t : TypeId) : Bool :=
  match P.underlying t with
  | some (.int _) | some .bool | some .string => true
  | some (.slice e) => (match P.underlying e with
    | some (.int _) => P.cellsOf e == 1
    | _ => false)
  | _ => false

def argOK (P : Program) (t : TypeId) : Bool := P.readableRec t && decide (t < P.types.size) && plainB P t

section
variable {P : Program} {H : Type} {enc : TypeId × Value → H} {W W' : World}

theorem arg_open {t : TypeId} {v : Value} {d : DataW H} {p : List MemPlace} {base : Nat} (hp : plainB P t = true) (hval : Value.okWide P W .any base t v) (h : DataW.Trod enc P W 0 (fun _ => true) true t v d p) (hsz : ∀ n ∈ d.weights P t, n ≤ reachBytes) :
    ∃ av, Arg P t av ∧ Rep P (topC W fun b _ => b < W.heap.size) W av v := by
  unfold plainB at hp
  split at hp
  · rename_i k hu
    obtain ⟨n, rfl, _, _, hw⟩ := open_int hu hval h
    exact ⟨_, .int hu hw, by simp [Rep]⟩
  · rename_i hu
    obtain ⟨b, rfl, _, _⟩ := open_bool hu hval h
    exact ⟨.lit (.bool b), .bool hu, by simp [Rep]⟩
  · rename_i hu
    obtain ⟨s, rfl, rfl, _, _⟩ := ChangeMaps.open_string hu hval h
    have := hsz s.data.toList.length (by simp [DataW.weights])
    refine ⟨_, .str (s := s) hu ?_, by simp [Rep]⟩
    simpa [reachBytes] using this
  · rename_i e hu
    split at hp
    · rename_i k he
      have hc : P.cellsOf e = 1 := by simpa using hp
      obtain ⟨a0, len, cap, rfl⟩ := okWide_slice hu hval
      obtain ⟨fuel, hf⟩ := h
      rcases open_ints hu he hc hf with ⟨hcs, hx⟩ | ⟨a, len', cap', zs, hcs, _, hl, hm, hz, hx, hcell, hwz⟩
      · simp [Value.cells] at hcs
        obtain ⟨rfl, rfl, rfl⟩ := hcs
        exact ⟨.sl e ([].map fun n => [.int k n]) none, .ints (zs := []) hu he (by simp) (by simp), by simp only [Rep]; exact ⟨els_nil e, fun id hid => by cases hid⟩⟩
      · simp [Value.cells] at hcs
        obtain ⟨rfl, rfl, rfl⟩ := hcs
        simp only [Prod.mk.injEq] at hx
        obtain ⟨rfl, rfl⟩ := hx
        simp only [if_true] at hz
        have hw := hsz _ (by simp only [DataW.weights, hu]; exact List.mem_cons_self)
        refine ⟨.sl e ((zs.take len).map fun n => [.int k n]) none, .ints hu he (fun n hn => hwz n (List.mem_of_mem_take hn)) ?_, ?_⟩
        · simp only [lits, List.length_map, reachBytes] at hw
          have : (zs.take len).length * P.bytesOf e ≤ ((zs.take len).length + (zs.drop len).length) * P.bytesOf e := Nat.mul_le_mul_right _ (Nat.le_add_right _ _)
          omega
        · simp only [Rep]
          refine ⟨⟨some a, cap, ?_, ?_, ?_, ?_⟩, fun id hid => by cases hid⟩
          · simp only [List.length_map, List.length_take]; rw [Nat.min_eq_left (by omega)]
          · simp only [List.length_map, List.length_take]; omega
          · intro x hx
            obtain ⟨n, _, rfl⟩ := List.mem_map.1 hx
            exact ⟨by rw [hc]; rfl, by simp [Value.oneCell']⟩
          · by_cases hl0 : len = 0
            · left; simp [hl0]
            · right
              obtain ⟨b, off, spot⟩ := a
              have hspot : spot = none := by simpa [Addr.add] using World.cell?_spot (hcell 0 (by omega))
              subst hspot
              refine ⟨b, off, rfl, fun j v hj => ?_⟩
              have hfl : ((zs.take len).map fun n => [Value.int k n]).flatten = (zs.take len).map (Value.int k) := by
                induction zs.take len with
                | nil => rfl
                | cons x l ih => simp [ih]
              rw [hfl, List.getElem?_map] at hj
              cases hg : (zs.take len)[j]? with
              | none => rw [hg] at hj; simp at hj
              | some n =>
                rw [hg] at hj
                simp only [Option.map_some, Option.some.injEq] at hj; subst hj
                have hjl : j < len := by
                  have := (List.getElem?_eq_some_iff.1 hg).1
                  simp at this; omega
                have hz2 : zs[j]? = some n := by rw [List.getElem?_take] at hg; simpa [hjl] using hg
                have hcj := hcell j (by omega)
                rw [add_lit] at hcj
                have hgd : zs.getD j 0 = n := by simp [List.getD, hz2]
                rw [hgd] at hcj
                exact ⟨World.block_lt_of_cell? W ⟨b, off + j, none⟩ hcj, hcj⟩
    · cases hp
  · cases hp

theorem args_open {base : Nat} : ∀ {ts : List TypeId} {vs : List Value} {ds : List (DataW H)} {p : List MemPlace}, (∀ t ∈ ts, plainB P t = true) → (∀ (j : Nat) t v, ts[j]? = some t → vs[j]? = some v → Value.okWide P W .any base t v) →
    DataW.TrodAll enc P W 0 (fun _ => true) true ts vs ds p → (∀ (j : Nat) t d, ts[j]? = some t → ds[j]? = some d → ∀ n ∈ d.weights P t, n ≤ reachBytes) →
    ∃ avs, Args P ts avs ∧ RepL P (topC W fun b _ => b < W.heap.size) W avs vs ∧ ds.length = ts.length
  | [], vs, ds, p, _, _, h, _ => by
    obtain ⟨rfl, rfl, _⟩ := trodAll_nil h
    exact ⟨[], rfl, by simp [RepL], rfl⟩
  | t :: ts, vs, ds, p, hp, hval, h, hsz => by
    obtain ⟨v0, vs0, d0, ds0, p0, q0, rfl, rfl, rfl, h0, r0⟩ := trodAll_cons h
    obtain ⟨av, h1, h2⟩ := arg_open (hp t (by simp)) (hval 0 t v0 rfl rfl) h0 (hsz 0 t d0 rfl rfl)
    obtain ⟨avs, h3, h4, h5⟩ := args_open (fun t ht => hp t (List.mem_cons_of_mem _ ht)) (fun j t v hj hv => hval (j + 1) t v (by simpa using hj) (by simpa using hv)) r0 (fun j t d hj hd => hsz (j + 1) t d (by simpa using hj) (by simpa using hd))
    exact ⟨av :: avs, ⟨av, avs, rfl, h1, h3⟩, by simp only [RepL]; exact ⟨v0, vs0, rfl, h2, h4⟩, by simp [h5]⟩

theorem args_stay (hl : laidOutB P = true) (hb : Below W.heap.size W W') : ∀ {ts : List TypeId} {vs : List Value} {ds : List (DataW H)} {p : List MemPlace}, (∀ t ∈ ts, P.readableRec t = true ∧ t < P.types.size) →
    DataW.TrodAll enc P W 0 (fun _ => true) true ts vs ds p → (∀ x ∈ p, x.block < W.heap.size) → DataW.TrodAll enc P W' 0 (fun b => decide (b < W.heap.size)) true ts vs ds p
  | [], vs, ds, p, _, h, _ => by
    obtain ⟨rfl, rfl, rfl⟩ := trodAll_nil h
    exact rfl
  | t :: ts, vs, ds, p, hr, h, hlt => by
    obtain ⟨v0, vs0, d0, ds0, p0, q0, rfl, rfl, rfl, h0, r0⟩ := trodAll_cons h
    obtain ⟨h1, h2⟩ := hr t (by simp)
    exact ⟨p0, q0, Below.trod hl h1 h2 h0 hb fun x hx => hlt x (List.mem_append_left _ hx), args_stay hl hb (fun t ht => hr t (List.mem_cons_of_mem _ ht)) r0 fun x hx => hlt x (List.mem_append_right _ hx), rfl⟩

theorem arg_int {t : TypeId} {k : IntKind} {av : AV} (hu : P.underlying t = some (.int k)) (h : Arg P t av) : ∃ n, av = .lit (.int k n) ∧ (Lit.int k n).wf = true := by
  cases h with
  | int ht hw => rw [hu] at ht; simp at ht; subst ht; exact ⟨_, rfl, hw⟩
  | bool ht => rw [hu] at ht; simp at ht
  | str ht _ => rw [hu] at ht; simp at ht
  | ints ht _ _ _ => rw [hu] at ht; simp at ht
theorem arg_bool {t : TypeId} {av : AV} (hu : P.underlying t = some .bool) (h : Arg P t av) : ∃ b : Bool, av = .lit (.bool b) := by
  cases h with
  | int ht hw => rw [hu] at ht; simp at ht
  | bool ht => exact ⟨_, rfl⟩
  | str ht _ => rw [hu] at ht; simp at ht
  | ints ht _ _ _ => rw [hu] at ht; simp at ht
theorem arg_str {t : TypeId} {av : AV} (hu : P.underlying t = some .string) (h : Arg P t av) : ∃ s : ByteArray, av = .lit (.string s) ∧ s.size ≤ 140737488351232 := by
  cases h with
  | int ht hw => rw [hu] at ht; simp at ht
  | bool ht => rw [hu] at ht; simp at ht
  | str ht hs => exact ⟨_, rfl, hs⟩
  | ints ht _ _ _ => rw [hu] at ht; simp at ht
theorem arg_ints {t e : TypeId} {k : IntKind} {av : AV} (hu : P.underlying t = some (.slice e)) (he : P.underlying e = some (.int k)) (h : Arg P t av) :
    ∃ zs : List Int, av = .sl e (zs.map fun n => [.int k n]) none ∧ (∀ n ∈ zs, (Lit.int k n).wf = true) ∧ zs.length * P.bytesOf e ≤ 140737488351232 := by
  cases h with
  | int ht hw => rw [hu] at ht; simp at ht
  | bool ht => rw [hu] at ht; simp at ht
  | str ht _ => rw [hu] at ht; simp at ht
  | ints ht he' hw hl =>
    rw [hu] at ht; simp at ht; subst ht
    rw [he] at he'; simp at he'; subst he'
    exact ⟨_, rfl, hw, hl⟩

/-- A LAW: it answers true at all arguments. -/
theorem law_returns {C : Checked} {os : Os} {f : FuncId} {fn : Func} {s : ChangeSpec} {conds : List PathCond} {tb : TypeId} (own : ownKnob C.prog.godebug = none) (started : os.Started) (noInit : C.prog.inits.idxOf? f = none) (hfn : C.prog.funcs[f]? = some fn)
    (witness : ∃ (w : World) (tape : Tape) (i : Input), w.os = os ∧ (w.forCall tape i).Shaped C.prog ∧ i.vars = [] ∧ Input.okWide C.prog (w.forCall tape i) .any w.heap.size f i ∧
      s.pre6 enc C.prog fn conds false (w.forCall tape i).memory i.args ∧ ({} : Assume).holds C.prog (lone (Frame.enter C.prog f i.args .normal) [] (w.forCall tape i)))
    (hl : laidOutB C.prog = true) (hts : fn.params.toList.all (argOK C.prog) = true) (hvars : s.vars = []) (hplain : s.plain.varTypes C.prog = []) (hres : fn.resultTypes = #[tb]) (hb : C.prog.underlying tb = some .bool)
    (hs : ∀ ds : List (DataW H), ds.length = fn.params.toList.length → (s.fn H ds).results = [.lit (.bool true)] ∧ (s.fn H ds).args = ds ∧ (s.fn H ds).vars = [])
    (h : ∀ avs, Args C.prog fn.params.toList avs → Pure C.prog f avs [] (.lit (.bool true))) :
    ReturnsInHanded {} C os f .any (s.pre6 enc C.prog fn conds false) (s.post enc C.prog fn false true false false) := by
  refine returnsInHanded_of_change_sized own started noInit hfn witness ?_
  intro W base args ds gs before hval hW _ hsz _
  have hW' := hW
  obtain ⟨p, q, hA, hV, rfl, _, _⟩ := hW
  rw [hvars] at hV
  obtain ⟨rfl, rfl⟩ := trodVars_none hV
  simp only [List.append_nil] at hW' hsz
  rw [hplain, List.append_nil] at hsz
  have hok : ∀ t ∈ fn.params.toList, (C.prog.readableRec t = true ∧ t < C.prog.types.size) ∧ plainB C.prog t = true := fun t ht => by
    have := List.all_eq_true.1 hts t ht
    simpa [argOK, and_assoc] using this
  obtain ⟨avs, k1, k2, k3⟩ := args_open (base := base) (fun t ht => (hok t ht).2) (fun j t v hj hv => hval j t v (by simpa using hj) (by simpa using hv)) hA fun j t d hj hd n hn => by
    have := List.all_eq_true.1 hsz n (DataW.weights_mem_each hj hd n hn)
    simpa using this
  obtain ⟨s1, s2, s3⟩ := hs ds k3
  refine ((h avs k1).2 W (fun b _ => b < W.heap.size) args (fun _ _ hb => hb) k2).mono ?_
  rintro e W' ⟨v, c', rfl, hx, _, hm, hv⟩
  simp only [Rep] at hv; subst hv
  have hbel : Below W.heap.size W W' := by
    have := hm.below
    rw [hx.base, hx.w0] at this
    exact this
  have hlt : ∀ x ∈ p, x.block < W.heap.size := fun x hx => by simpa using hW'.lt x hx
  refine ⟨_, rfl, ds, [], p, [], p, [], hW', ?_, ?_, by rw [List.append_nil, s3, hvars]; rfl, hbel.frame _, fun h => by cases h⟩
  · rw [List.append_nil, s1, hres]
    exact trodAll_cons_mk (shut_bool hb true) rfl
  · rw [List.append_nil, s2]
    exact args_stay hl hbel (fun t ht => (hok t ht).1) hA hlt
end
end Go.Ab
