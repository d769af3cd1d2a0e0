/- Merging, in plain words. -/
import Derived.Test.YtbocbaakknkfiaaOj
set_option linter.unusedVariables false
set_option linter.unusedSimpArgs false
namespace Go.Proofs.Ytbocbaakknkfiaa

theorem takes_iff {a b c : Fld} : takesA a b c = true ↔ T b a = false ∧ T c a = true := by unfold takesA; cases T b a <;> cases T c a <;> simp
theorem disp_iff {a b c : Fld} : dispF a b c = true ↔ T b a = false ∧ T c a = false ∧ T b c = false := by unfold dispF; cases T b a <;> cases T c a <;> cases T b c <;> simp
section
variable (x y z : Nat → Fld) (i : Nat)
/-- A field that one side alone changed is that side's. -/
theorem field_a (h : T (y i) (x i) = true) : T (merged x y z i) (z i) = true := by
  unfold merged
  cases hc : takesA (x i) (y i) (z i) with
  | true => have := (takes_iff.1 hc).1; rw [h] at this; cases this
  | false => exact T_self _
theorem field_b (h : T (z i) (x i) = true) : T (merged x y z i) (y i) = true := by
  unfold merged
  cases hc : takesA (x i) (y i) (z i) with
  | true => exact T_self _
  | false =>
    have ha : T (y i) (x i) = true := by
      cases hy : T (y i) (x i) with
      | true => rfl
      | false => rw [takes_iff.2 ⟨hy, h⟩] at hc; cases hc
    show T (z i) (y i) = true
    rw [T_congr_left h, T_symm]; exact ha
theorem again_a : T (merged x (merged x y z) z i) (merged x y z i) = true := by
  show T (if takesA (x i) (merged x y z i) (z i) then merged x y z i else z i) (merged x y z i) = true
  cases hc : takesA (x i) (merged x y z i) (z i) with
  | true => exact T_self _
  | false =>
    cases hm : takesA (x i) (y i) (z i) with
    | true =>
      have e : merged x y z i = y i := by unfold merged; rw [hm]; rfl
      rw [e, hm] at hc; cases hc
    | false =>
      have e : merged x y z i = z i := by unfold merged; rw [hm]; rfl
      rw [e]; exact T_self _
theorem again_b0 : takesA (x i) (y i) (merged x y z i) = false := by
  cases hc : takesA (x i) (y i) (merged x y z i) with
  | false => rfl
  | true =>
    obtain ⟨h1, h2⟩ := takes_iff.1 hc
    cases hm : takesA (x i) (y i) (z i) with
    | true =>
      have e : merged x y z i = y i := by unfold merged; rw [hm]; rfl
      rw [e, h1] at h2; cases h2
    | false =>
      have e : merged x y z i = z i := by unfold merged; rw [hm]; rfl
      rw [e] at h2
      rw [takes_iff.2 ⟨h1, h2⟩] at hm; cases hm
theorem again_b : merged x y (merged x y z) i = merged x y z i := by
  show (if takesA (x i) (y i) (merged x y z i) then y i else merged x y z i) = merged x y z i
  rw [again_b0]; rfl
end
theorem same_of {L L' : Nat → Fld} (h : ∀ i, T (L i) (L' i) = true) : SameL L L' = true := by unfold SameL; rw [List.all_eq_true]; exact fun i _ => h i
theorem self_merged (x : Nat → Fld) : merged x x x = x := by funext i; unfold merged; split <;> rfl
theorem self_disps (x : Nat → Fld) : disps x x x 8 = [] := by
  unfold disps
  rw [List.map_eq_nil_iff, List.filter_eq_nil_iff]
  intro i _
  unfold dispF; rw [T_self]; simp
/-- Fields that rise, and each is one whose values differ. -/
structure Fits (x c : Nat → Fld) (l : List Int) : Prop where
  rise : ∀ i, (h : i + 1 < l.length) → l[i] < l[i + 1]
  each : ∀ i, (h : i < l.length) → ∃ n : Nat, l[i] = (n : Int) ∧ n < 8 ∧ T (x n) (c n) = false
theorem disps_fits {x y z c : Nat → Fld} (h : ∀ i, i < 8 → dispF (x i) (y i) (z i) = true → T (x i) (c i) = false) : Fits x c (disps x y z 8) := by
  have hp : ((List.range 8).filter fun i => dispF (x i) (y i) (z i)).Pairwise (· < ·) := List.Pairwise.filter _ List.pairwise_lt_range
  constructor
  · intro i hi
    unfold disps at hi ⊢
    rw [List.getElem_map, List.getElem_map]
    rw [List.length_map] at hi
    exact Int.ofNat_lt.2 (List.pairwise_iff_getElem.1 hp i (i + 1) (by omega) hi (by omega))
  · intro i hi
    unfold disps at hi ⊢
    rw [List.length_map] at hi
    have hm := List.getElem_mem hi
    rw [List.mem_filter, List.mem_range] at hm
    exact ⟨_, by rw [List.getElem_map]; rfl, hm.1, h _ hm.1 hm.2⟩
theorem fits_a (x y z : Nat → Fld) : Fits x (merged x y z) (disps x (merged x y z) z 8) := disps_fits fun i _ h => by rw [T_symm]; exact (disp_iff.1 h).1
theorem fits_b (x y z : Nat → Fld) : Fits x (merged x y (merged x y z)) (disps x y (merged x y z) 8) := disps_fits fun i _ h => by rw [again_b, T_symm]; exact (disp_iff.1 h).2.1
end Go.Proofs.Ytbocbaakknkfiaa
