/-
From a function that only computes to a row that lists variables. Conditions: none.
-/
import Derived.Test.YteekelelcbfekaaDoorAbGlue
import Derived.Handed
set_option linter.unusedSimpArgs false
set_option linter.unusedVariables false
set_option linter.unusedSectionVars false
namespace Go.Ab
open Go Go.RowKit Go.ChangeShapes Go.WideShapes Go.ChangeAt
section
variable {P : Program} {H : Type} {enc : TypeId × Value → H} {W W' : World}

/-- A LAW whose row lists variables: it answers true at all arguments, whatever they hold. -/
theorem law_returns_laid {X : World → Array Value → Prop} (hX : ∀ (w w' : World) (args : Array Value), w.heap = w'.heap → X w args → X w' args) {C : Checked} {os : Os} {f : FuncId} {fn : Func} {s : ChangeSpec} {conds : List PathCond} {tb : TypeId} (own : ownKnob C.prog.godebug = none) (started : os.Started) (noInit : C.prog.inits.idxOf? f = none) (hfn : C.prog.funcs[f]? = some fn)
    (witness : ∃ (w : World) (tape : Tape) (i : Input), w.os = os ∧ (w.forCall tape i).Shaped C.prog ∧ i.vars = [] ∧ Input.okWide C.prog (w.forCall tape i) .any w.heap.size f i ∧
      ((s.pre enc C.prog fn conds false (w.forCall tape i).memory i.args ∧ X (w.forCall tape i).memory i.args) ∧ sizedMet enc C.prog fn (OpenSpec.ofChange s) false (w.forCall tape i).memory i.args) ∧ ({} : Assume).holds C.prog (lone (Frame.enter C.prog f i.args .normal) [] (w.forCall tape i)))
    (hl : laidOutB C.prog = true) (hts : fn.params.toList.all (argOK C.prog) = true) (hvars : s.vars = []) (hplain : s.plain.varTypes C.prog = []) (hres : fn.resultTypes = #[tb]) (hb : C.prog.underlying tb = some .bool)
    (hs : ∀ ds : List (DataW H), ds.length = fn.params.toList.length → (s.fn H ds).results = [.lit (.bool true)] ∧ (s.fn H ds).args = ds ∧ (s.fn H ds).vars = [])
    (h : ∀ avs, Args C.prog fn.params.toList avs → Pure C.prog f avs [] (.lit (.bool true))) :
    ReturnsInHanded {} C os f .any (fun w args => (s.pre enc C.prog fn conds false w args ∧ X w args) ∧ sizedMet enc C.prog fn (OpenSpec.ofChange s) false w args) (s.post enc C.prog fn false true false false) := by
  refine returnsInHanded_of_change_and hX own started noInit hfn witness ?_
  intro W base args ds gs before hval hW _ hsz _ _
  have hW' := hW
  obtain ⟨p, q, hA, hV, rfl, _, _⟩ := hW
  rw [hvars] at hV
  obtain ⟨rfl, rfl⟩ := trodVars_none hV
  simp only [List.append_nil] at hW' hsz
  rw [hplain, List.append_nil] at hsz
  have hok : ∀ t ∈ fn.params.toList, (C.prog.readableRec t = true ∧ t < C.prog.types.size) ∧ plainB C.prog t = true := fun t ht => by
    have := List.all_eq_true.1 hts t ht
    simpa [argOK, and_assoc] using this
  obtain ⟨avs, k1, k2, k3⟩ := args_open (base := base) (fun t ht => (hok t ht).2) (fun j t v hj hv => hval j t v (by simpa using hj) (by simpa using hv)) hA fun j t d hj hd n hn => by
    have := List.all_eq_true.1 hsz n (DataW.weights_mem_each hj hd n hn)
    simpa using this
  obtain ⟨s1, s2, s3⟩ := hs ds k3
  refine ((h avs k1).2 W (fun b _ => b < W.heap.size) args (fun _ _ hb => hb) k2).mono ?_
  rintro e W' ⟨v, c', rfl, hx, _, hm, hv⟩
  simp only [Rep] at hv; subst hv
  have hbel : Below W.heap.size W W' := by
    have := hm.below
    rw [hx.base, hx.w0] at this
    exact this
  have hlt : ∀ x ∈ p, x.block < W.heap.size := fun x hx => by simpa using hW'.lt x hx
  refine ⟨_, rfl, ds, [], p, [], p, [], hW', ?_, ?_, by rw [List.append_nil, s3, hvars]; rfl, hbel.frame _, fun h => by cases h⟩
  · rw [List.append_nil, s1, hres]
    exact trodAll_cons_mk (shut_bool hb true) rfl
  · rw [List.append_nil, s2]
    exact args_stay hl hbel (fun t ht => (hok t ht).1) hA hlt
end
end Go.Ab
