/-
Each operation of the abstract machine is what the model's operation does: values. Conditions: none.
-/
import Derived.Test.YteekelelcbfekaaDoorAbSound
import Derived.Laws.StructEq
import Derived.ChangeKeysEq
set_option linter.unusedSimpArgs false
set_option linter.unusedVariables false
set_option linter.unusedSectionVars false
namespace Go.Ab
open Go Go.RowKit

section
variable {P : Program} {N : Nat} {c c' : Ctx} {w w' : World} {s : State} {a : Act} {bx : List (Nat × List AV)} {tp : List (Nat × TypeId)}

theorem binInt_sound {op : BinOp} {t : TypeId} {k k' : IntKind} {x y : Int} {v : Value} (h : binInt op k x k' y = some v) : (binOp op t (.int k x) (.int k' y)).run P w = .ok v w := by
  unfold binInt at h
  cases op <;> simp only at h
  case shl => split at h; · cases h
              · rename_i hy; simp only [Option.some.injEq] at h; subst h; simp [binOp, Op.shift, hy]
  case shr => split at h; · cases h
              · rename_i hy; simp only [Option.some.injEq] at h; subst h; simp [binOp, Op.shift, hy]
  all_goals
    split at h
    · rename_i hk; subst hk
      first
        | cases h; done
        | (simp only [Option.some.injEq] at h; subst h; simp [binOp, Op.intArith, Op.intBits, Op.intCmp, andI, orI, xorI, clrI])
        | (split at h
           · cases h
           · rename_i hy; simp only [Option.some.injEq] at h; subst h; simp [binOp, Op.intDiv, hy])
    · cases h

theorem bin_sound {op : BinOp} {t : TypeId} {x y v : Value} (h : binV op x y = some v) : (binOp op t x y).run P w = .ok v w := by
  unfold binV at h
  split at h
  · exact binInt_sound h
  · rename_i b1 b2
    cases op <;> simp only [binStr, Option.some.injEq] at h <;> (try cases h) <;> (try (simp [binOp, Op.stringOp]; done))
    split at h
    · cases h
    · rename_i hs
      simp only [Option.some.injEq] at h; subst h
      have hm : IntKind.i64.max = 9223372036854775807 := rfl
      simp only [binOp, Op.stringOp, hm]
      rw [if_neg hs]
      rfl
  · cases h

theorem eqB_sound {t : TypeId} (ht : isBool P t = true) (x y : Bool) : (Op.equal t (.bool x) (.bool y)).run P w = .ok (x == y) w := by
  unfold isBool at ht
  split at ht
  · rename_i hu
    have h : ∀ d, (Op.equalIn (d + 1) t (.bool x) (.bool y)).run P w = .ok (x == y) w := fun d => by simp [Op.equalIn, run_underlying hu]
    unfold Op.equal Op.maxDepth
    exact h 9999
  · cases ht

theorem eqK_append : ∀ {ks ks' : List BK} {xs ys : List Value} {b : Bool}, eqK (ks ++ ks') xs ys = some b →
    ∃ b1 b2, eqK ks (xs.take ks.length) (ys.take ks.length) = some b1 ∧ eqK ks' (xs.drop ks.length) (ys.drop ks.length) = some b2 ∧ b = (b1 && b2)
  | [], ks', xs, ys, b, h => ⟨true, b, by simp [eqK], by simpa using h, by simp⟩
  | k :: ks, ks', xs, ys, b, h => by
    cases xs with
    | nil => simp [eqK] at h
    | cons x xs =>
      cases ys with
      | nil => simp [eqK] at h
      | cons y ys =>
        simp only [List.cons_append, eqK] at h
        split at h
        · rename_i b0 b' h0 h'
          simp only [Option.some.injEq] at h; subst h
          obtain ⟨b1, b2, g1, g2, g3⟩ := eqK_append h'
          subst g3
          exact ⟨b0 && b1, b2, by simp [eqK, h0, g1], by simpa using g2, by simp [Bool.and_assoc]⟩
        · cases h

theorem eqV_int {x y : Value} {b : Bool} (h : eqV .int x y = some b) : ∃ k m n, x = .int k m ∧ y = .int k n ∧ b = (m == n) := by
  cases x <;> cases y <;> simp [eqV] at h
  exact ⟨_, _, _, rfl, by rw [h.1], h.2.symm⟩
theorem eqV_bool {x y : Value} {b : Bool} (h : eqV .bool x y = some b) : ∃ m n, x = .bool m ∧ y = .bool n ∧ b = (m == n) := by
  cases x <;> cases y <;> simp [eqV] at h
  exact ⟨_, _, rfl, rfl, h.symm⟩
theorem eqV_str {x y : Value} {b : Bool} (h : eqV .str x y = some b) : ∃ m n, x = .string m ∧ y = .string n ∧ b = (m.toList == n.toList) := by
  cases x <;> cases y <;> simp [eqV] at h
  exact ⟨_, _, rfl, rfl, h.symm⟩

theorem eqK_length : ∀ {ks : List BK} {xs ys : List Value} {b : Bool}, eqK ks xs ys = some b → xs.length = ks.length ∧ ys.length = ks.length
  | [], [], [], _, _ => ⟨rfl, rfl⟩
  | [], [], _ :: _, _, h => by simp [eqK] at h
  | [], _ :: _, _, _, h => by simp [eqK] at h
  | _ :: _, [], _, _, h => by simp [eqK] at h
  | _ :: _, _ :: _, [], _, h => by simp [eqK] at h
  | k :: ks, x :: xs, y :: ys, b, h => by
    simp only [eqK] at h
    split at h
    · rename_i h0 h'
      have := eqK_length h'
      simp [this]
    · cases h

theorem isAgg_of {t : TypeId} {d : TypeDesc} (h : P.underlying t = some d) : (isAgg t).run P w = .ok (match d with | .struct _ | .array _ _ => true | _ => false) w := by
  simp only [isAgg, Sem.run_bind, run_underlying h, Result.andThen_ok]
  cases d <;> rfl

/-- Equality of flat values is equality of their cells. -/
theorem flat_sound : ∀ (d : Nat) {t : TypeId} {ks : List BK}, flatT P d t = some ks → ∀ (D : Nat) {xs ys : List Value} {b : Bool}, eqK ks xs ys = some b →
    (isStruct P t = true → (Op.equalIn (D + d) t (.agg xs.toArray) (.agg ys.toArray)).run P w = .ok b w) ∧
    (isStruct P t = false → ∃ x y, xs = [x] ∧ ys = [y] ∧ (Op.equalIn (D + d) t x y).run P w = .ok b w ∧ ∀ w, (isAgg t).run P w = .ok false w)
  | 0, t, ks, h, D, xs, ys, b, _ => by simp [flatT] at h
  | d + 1, t, ks, h, D, xs, ys, b, he => by
    have basic : ∀ (k : BK), ks = [k] → ∃ x y, xs = [x] ∧ ys = [y] ∧ eqV k x y = some b := fun k hk => by
      subst hk
      obtain ⟨h1, h2⟩ := eqK_length he
      match xs, ys, h1, h2 with
      | [x], [y], _, _ =>
        simp only [eqK] at he
        split at he
        · rename_i a b' ha hb'
          simp only [Option.some.injEq] at he hb'; subst hb'; subst he
          exact ⟨x, y, rfl, rfl, by simp [ha]⟩
        · cases he
    simp only [flatT] at h
    split at h
    · rename_i k hu
      simp only [Option.some.injEq] at h
      obtain ⟨x, y, rfl, rfl, hv⟩ := basic .int h.symm
      refine ⟨fun hs => by simp [isStruct, hu] at hs, fun _ => ⟨x, y, rfl, rfl, ?_, fun w => isAgg_of hu⟩⟩
      obtain ⟨k', m, n, rfl, rfl, rfl⟩ := eqV_int hv
      exact run_equalIn_int w (D + d) t k' k _ _ hu
    · rename_i hu
      simp only [Option.some.injEq] at h
      obtain ⟨x, y, rfl, rfl, hv⟩ := basic .bool h.symm
      refine ⟨fun hs => by simp [isStruct, hu] at hs, fun _ => ⟨x, y, rfl, rfl, ?_, fun w => isAgg_of hu⟩⟩
      obtain ⟨m, n, rfl, rfl, rfl⟩ := eqV_bool hv
      exact run_equalIn_bool' w (D + d) t _ _ hu
    · rename_i hu
      simp only [Option.some.injEq] at h
      obtain ⟨x, y, rfl, rfl, hv⟩ := basic .str h.symm
      refine ⟨fun hs => by simp [isStruct, hu] at hs, fun _ => ⟨x, y, rfl, rfl, ?_, fun w => isAgg_of hu⟩⟩
      obtain ⟨m, n, rfl, rfl, rfl⟩ := eqV_str hv
      exact run_equalIn_string w (D + d) t _ _ hu
    · rename_i fs hu
      refine ⟨fun _ => ?_, fun hs => by simp [isStruct, hu] at hs⟩
      split at h
      · cases h
      · rename_i hso
        have hfo : P.fieldsOf t = fs := by simp [Program.fieldsOf, hu]
        rw [show D + (d + 1) = (D + d) + 1 by omega, run_equalIn_struct w (D + d) t xs.toArray ys.toArray (by rw [hfo]; exact hu) (by simpa using hso), hfo]
        have key : ∀ (l : List Field) (k : Nat) (ks : List BK) (b : Bool), flatFs P (flatT P d) k l = some ks → eqK ks (xs.drop k) (ys.drop k) = some b → (Op.eqFields (D + d) xs.toArray ys.toArray l).run P w = .ok b w := by
          intro l
          induction l with
          | nil =>
            intro k ks b h1 h2
            simp only [flatFs, Option.some.injEq] at h1; subst h1
            obtain ⟨g1, g2⟩ := eqK_length h2
            rw [List.eq_nil_of_length_eq_zero g1, List.eq_nil_of_length_eq_zero g2] at h2
            simp only [eqK, Option.some.injEq] at h2; subst h2
            rfl
          | cons f l ih =>
            intro k ks b h1 h2
            simp only [flatFs] at h1
            split at h1
            · rename_i ks1 i hg hi
              split at h1
              · rename_i hcond
                obtain ⟨c1, c2, c3⟩ := hcond
                cases hr : flatFs P (flatT P d) (k + ks1.length) l with
                | none => simp [hr] at h1
                | some ks2 =>
                  simp only [hr, Option.map_some, Option.some.injEq] at h1; subst h1
                  obtain ⟨b1, b2, e1, e2, e3⟩ := eqK_append h2
                  subst e3
                  rw [List.drop_drop, List.drop_drop] at e2
                  have hrest := ih _ _ _ hr e2
                  obtain ⟨s1, s2⟩ := flat_sound d hg D e1
                  simp only [Op.eqFields, if_pos c2]
                  by_cases hst : isStruct P f.type = true
                  · have hag : ∀ w, (isAgg f.type).run P w = .ok true w := fun w => by
                      unfold isStruct at hst
                      split at hst
                      · rename_i hu'; exact isAgg_of hu'
                      · rename_i hu'; exact isAgg_of hu'
                      · cases hst
                    have hp : ∀ zs : List Value, (part f.type zs.toArray f.offset).run P w = .ok (.agg ((zs.drop k).take ks1.length).toArray) w := fun zs => by
                      simp only [part, Sem.run_bind, hag, Result.andThen_ok, if_true, sizeOf, typeInfo, run_program, hi, Sem.run_pure, c1, c3]
                      congr 2
                      apply Array.toList_inj.1
                      simp [List.take_drop]
                    simp only [Sem.run_bind, hp, Result.andThen_ok, s1 hst]
                    cases b1
                    · simp
                    · simp [hrest]
                  · obtain ⟨x, y, hx, hy, hxy, hag⟩ := s2 (by simpa using hst)
                    have hlen1 : ks1.length = 1 := by have := (eqK_length e1).1; rw [hx] at this; simpa using this.symm
                    have hp : ∀ (zs : List Value) (z : Value), (zs.drop k).take ks1.length = [z] → (part f.type zs.toArray f.offset).run P w = .ok z w := fun zs z hz => by
                      have hzk : zs[k]? = some z := by
                        rw [hlen1] at hz
                        have : (List.take 1 (zs.drop k))[0]? = some z := by rw [hz]; rfl
                        simpa using this
                      simp [part, hag, c1, hzk]
                    simp only [Sem.run_bind, hp xs x hx, hp ys y hy, Result.andThen_ok, hxy]
                    cases b1
                    · simp
                    · simp [hrest]
              · cases h1
            · cases h1
        exact key fs.toList 0 ks b h (by simpa using he)
    · rename_i n e hu
      refine ⟨fun _ => ?_, fun hs => by simp [isStruct, hu] at hs⟩
      split at h
      · rename_i k0 i hk hi
        split at h
        · rename_i hcond
          obtain ⟨c1, c2⟩ := hcond
          simp only [Option.some.injEq] at h; subst h
          have hco : P.cellsOf e = 1 := by simp [Program.cellsOf, hi, c2]
          rw [show D + (d + 1) = (D + d) + 1 by omega, run_equalIn_array w (D + d) xs.toArray ys.toArray hu hi, hco]
          have key : ∀ (m k : Nat) (b : Bool), eqK (List.replicate m k0) (xs.drop k) (ys.drop k) = some b → (Op.eqItems (D + d) e 1 xs.toArray ys.toArray (List.range' k m)).run P w = .ok b w := by
            intro m
            induction m with
            | zero =>
              intro k b h2
              obtain ⟨g1, g2⟩ := eqK_length h2
              simp only [List.replicate_zero, List.length_nil] at g1 g2
              rw [List.eq_nil_of_length_eq_zero g1, List.eq_nil_of_length_eq_zero g2] at h2
              simp only [List.replicate_zero, eqK, Option.some.injEq] at h2; subst h2
              rfl
            | succ m ih =>
              intro k b h2
              rw [List.replicate_succ, show k0 :: List.replicate m k0 = [k0] ++ List.replicate m k0 from rfl] at h2
              obtain ⟨b1, b2, e1, e2, e3⟩ := eqK_append h2
              subst e3
              rw [List.drop_drop, List.drop_drop] at e2
              have hrest := ih _ _ e2
              obtain ⟨x, y, hx, hy, hxy, hag⟩ := (flat_sound d hk D e1).2 c1
              have hp : ∀ (zs : List Value) (z : Value), (zs.drop k).take 1 = [z] → (part e zs.toArray (k * 1)).run P w = .ok z w := fun zs z hz => by
                have hzk : zs[k]? = some z := by
                  have : (List.take 1 (zs.drop k))[0]? = some z := by rw [hz]; rfl
                  simpa using this
                simp [part, hag, hzk]
              rw [List.range'_succ]
              simp only [Op.eqItems, Sem.run_bind, hp xs x hx, hp ys y hy, Result.andThen_ok, hxy]
              cases b1
              · simp
              · simpa using hrest
          rw [List.range_eq_range']
          exact key n 0 b (by simpa using he)
        · cases h
      · cases h
    · cases h
end
end Go.Ab
