/-
Insert, at a row that grows from nil. Conditions: none.
-/
import Derived.Test.YtmhpjoadfgplgaaPunR
set_option linter.unusedSimpArgs false
set_option linter.unusedVariables false
set_option linter.unusedSectionVars false
namespace Go.Proofs.Ytmhpjoadfgplgaa
open Go Go.Ab Go.RowKit

theorem ins_nil_ok {t2 : Nat} {r : Int} {bx : List (Nat × List AV)} {tp : List (Nat × TypeId)} {nx : Nat} {K : AV → List (Nat × List AV) → List (Nat × TypeId) → Nat → Prop}
    (ht : hasTip tp t2 21 = true) (hK : K (.rf (.row 21 1 0 1) nx) ((nx, cI [r]) :: delBox bx nx) tp (nx + 1)) :
    CallOK Try.prog 49 [.lit (.slice none 0 0), .lit (.int .i64 ((0 : Nat) : Int)), .sl 21 (runes [r]) (some t2)] bx tp nx K := by
  refine ⟨enters_of Try.func49 (by kernel_rfl) (by kernel_rfl), fun c w vs hm hn hr => ?_⟩
  simp only [RepL, Rep, RefOK] at hr
  obtain ⟨v1, l1, hvs, rfl, v2, l2, rfl, rfl, v3, l3, rfl, ⟨⟨a, vcap, rfl, hvc, hEls, hread⟩, htip⟩, rfl⟩ := hr
  have hτ := (htip t2 rfl).2
  have hT := hm.tips _ (hasTip_mem ht)
  have hrl : (runes [r]).length = 1 := rfl
  rw [hrl] at hτ hvs hvc
  rcases hT.row with h1 | ⟨g, n, cap', cur, h1, hbase, hg, hnc, hcm, hcs, hpr⟩
  · simp only at h1
    rw [hτ] at h1
    simp only [Value.slice.injEq] at h1
    omega
  · simp only at h1
    rw [hτ] at h1
    simp only [Value.slice.injEq] at h1
    obtain ⟨rfl, rfl, rfl⟩ := h1
    have hvs2 : vs = #[.slice none 0 0, .int .i64 ((0 : Nat) : Int), .slice (some ⟨g, 0, none⟩) 1 vcap] := by rw [← Array.toArray_toList (xs := vs), hvs]
    subst hvs2
    have hcell : w.cell? ⟨g, 0, none⟩ = some (.int .i32 r) := by
      rcases hread with h0 | ⟨b, off, hbo, hrd⟩
      · simp [runes] at h0
      · simp only [Option.some.injEq, Addr.mk.injEq] at hbo
        obtain ⟨rfl, rfl, _⟩ := hbo
        exact (hrd 0 _ (by simp [runes])).2
    have hvz : ∀ j v, [Value.int .i32 r][j]? = some v → w.cell? ⟨g, 0 + j, none⟩ = some v := fun j v hj => by
      cases j with
      | zero => simp at hj; subst hj; exact hcell
      | succ j => simp at hj
    have h1v : ∀ v ∈ [Value.int .i32 r], v.oneCell' = true := fun v hv => by simp at hv; subst hv; rfl
    refine (ins_end_grow none 0 0 g 0 1 vcap [] [.int .i32 r] w (by omega) (by omega) (by omega) (by omega) rfl rfl (fun _ => rfl) (fun a ha => by cases ha) hvz h1v).mono ?_
    rintro e w' ⟨rfl, rfl⟩
    have hge := grownCap_ge w (0 + 1) 0 21
    have hcm2 := grownCap_le_maxLen w (0 + 1) 0 21 (by unfold maxLen; omega)
    obtain ⟨G, hG⟩ : ∃ G, G = grownCap w (0 + 1) 0 21 := ⟨_, rfl⟩
    rw [← hG] at hge hcm2 ⊢
    have hasz : (([] ++ [(.int .i32 r : Value)]).toArray ++ Builtin.zeroCells (Value.int .i32 0).cells (G - (0 + 1))).size = G := by
      simp [Builtin.zeroCells, Value.cells]; omega
    have hy2 : (([] ++ [(.int .i32 r : Value)]).toArray ++ Builtin.zeroCells (Value.int .i32 0).cells (G - (0 + 1))).toList.take [r].length = vI [r] := by
      rw [Array.toList_append, List.take_left' (by simp)]; rfl
    obtain ⟨c', x1, x2, x3, x4, x5⟩ := fin_new (ys := [r]) hm.drew nx hy2 (by rw [hasz]; exact hge) (by rw [hasz]; exact hcm2)
    rw [hasz] at x5
    refine ⟨_, c', _, _, tp, rfl, (Ext.drew _ _ _).trans x1, by omega, x3, x4, x5, ?_⟩
    rw [x2, hn]; exact hK

/-- A row that grows: nil, or one that may be written. -/
def outP (q : AV) (out : List Nat) (bx : List (Nat × List AV)) : Prop :=
  (q = .lit (.slice none 0 0) ∧ out = []) ∨ ∃ id, q = .rf (.row 21 1 0 out.length) id ∧ boxAt bx id = some (cI (ofN out))

theorem cI_unOb (xs : List Int) : unOb (cI xs) = some (cI xs) := by
  cases xs with
  | nil => rfl
  | cons x xs => cases xs <;> rfl
theorem ofN_ins (out : List Nat) (i m : Nat) : ofN (out.take i ++ m :: out.drop i) = (ofN out).take i ++ (m : Int) :: (ofN out).drop i := by
  simp [ofN, List.map_take, List.map_drop]

theorem ins_out_ok {i m t2 : Nat} {out : List Nat} {q : AV} {bx : List (Nat × List AV)} {tp : List (Nat × TypeId)} {nx : Nat} {K : AV → List (Nat × List AV) → List (Nat × TypeId) → Nat → Prop}
    (hq : outP q out bx) (hi : i ≤ out.length) (hl : out.length ≤ 1000000) (ht : hasTip tp t2 21 = true)
    (hK : ∀ q' bx' nx', outP q' (out.take i ++ m :: out.drop i) bx' → K q' bx' tp nx') :
    CallOK Try.prog 49 [q, .lit (.int .i64 (i : Int)), .sl 21 [[.int .i32 (m : Int)]] (some t2)] bx tp nx K := by
  have hlen := ins_length out i m
  rcases hq with ⟨rfl, rfl⟩ | ⟨id, rfl, hb⟩
  · have : i = 0 := by simpa using hi
    subst this
    refine ins_nil_ok (r := (m : Int)) ht (hK _ _ _ (.inr ⟨nx, rfl, ?_⟩))
    simp only [boxAt, if_true, cI_unOb]
    rfl
  · have h2 : (ofN out).length = out.length := ofN_length out
    rw [← h2]
    refine ins_row_ok (r := (m : Int)) (by rw [h2]; exact hi) (by rw [h2]; exact hl) hb ht (hK _ _ _ (.inr ⟨nx, by rw [h2, hlen], ?_⟩))
    simp only [boxAt, if_true, cI_unOb, ofN_ins]

/-- What a decoder hands back. -/
def decR (s : List Nat) : List Nat × Int := if 10000 < s.length then ([], 41) else match decT s with
  | some c => (c, 0)
  | none => ([], 40)
def decA (r : List Nat × Int) : AV := .tu [rS (ofN r.1) none, .lit (.int .i64 r.2)]

theorem runes_flatL (l : List Int) : (runes l).flatten.map AV.lit ++ [] = cI l := by
  rw [List.append_nil]
  induction l with
  | nil => rfl
  | cons x l ih =>
    show AV.lit (.int .i32 x) :: (runes l).flatten.map AV.lit = _
    rw [ih]; rfl
theorem runes_lenAll (l : List Int) : lenAll 1 (runes l) = true := by
  induction l with
  | nil => rfl
  | cons x b ih => show (decide _ && lenAll 1 (runes b)) = true; rw [ih]; rfl
theorem runes_oneV (l : List Int) : oneV (runes l) = true := by
  induction l with
  | nil => rfl
  | cons x b ih => show (_ && oneV (runes b)) = true; rw [ih]; rfl

/-- A decoder's end: its row is read from now on. -/
theorem fin_out {t2 t3 : Nat} {q : AV} {c : List Nat} {x : Int} {e : Exit} {sl : List (Nat × Option AV)} {bx : List (Nat × List AV)} {tp : List (Nat × TypeId)} {nx : Nat} (he : e = .normal ∨ e = .ret) (hne : t2 ≠ t3)
    (h2 : Ab.look sl t2 = some q) (hq : outP q c bx) (h3 : Ab.look sl t3 = some (.lit (.int .i64 x))) :
    ∃ s1, Weak Try.prog 0 ⟨sl, bx, tp, nx⟩ s1 ∧ Done Try.prog [.tmp t2, .tmp t3] (decA (c, x)) e s1 := by
  rcases hq with ⟨rfl, rfl⟩ | ⟨id, rfl, hb⟩
  · refine ⟨_, (weak_nil t2 21 h2).trans (weak_untip t2 (by simp only [Ab.look, if_true]; rfl)), he, ?_⟩
    simp only [resAV, resL, resOne, Ab.look, if_true, if_neg hne, h3]
    rfl
  · refine ⟨_, (weak_freeze t2 (els := runes (ofN c)) (rest := []) h2 (by rw [hb, runes_flatL]) (by rw [runes_length, ofN_length]) (runes_lenAll _) (runes_oneV _)).trans (weak_untip t2 (by simp only [Ab.look, if_true]; rfl)), he, ?_⟩
    simp only [resAV, resL, resOne, Ab.look, if_true, if_neg hne, h3]
    rfl
end Go.Proofs.Ytmhpjoadfgplgaa
