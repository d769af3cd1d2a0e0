/- Names and their parts: plain. -/
import Derived.Test.YthbjgcmbbdlfkaaFd
set_option linter.unusedVariables false
set_option linter.unusedSimpArgs false
namespace Go.Proofs.Ythbjgcmbbdlfkaa
open Go.RowKit Go.Shelf Go.Proofs.YthbjgcmbbdlfkaaW.PrintWords Go.Proofs.YthbjgcmbbdlfkaaW.PrintMore Go.Proofs.YthbjgcmbbdlfkaaW.PrintLast

theorem alikeR_refl (r : Rdn) : alikeR r r = true := by unfold alikeR; simp
theorem alikeTo_refl (l : List Rdn) : ∀ k, alikeTo l l k = true := by
  intro k
  induction k with
  | zero => rfl
  | succ k ih => rw [alikeTo_next, ih, alikeR_refl]; rfl
theorem eqF_refl (l : List Rdn) : eqF l l = true := by unfold eqF; rw [alikeTo_refl]; simp
theorem dnOk_drop {l : List Rdn} (h : dnOk l = true) (k : Nat) : dnOk (l.drop k) = true := by
  unfold dnOk at h ⊢
  simp only [Bool.and_eq_true, List.all_eq_true, decide_eq_true_eq, List.length_drop] at h ⊢
  exact ⟨by omega, fun x hx => h.2 x (List.mem_of_mem_drop hx)⟩
theorem mild_drop {l : List Rdn} (h : Mild l) (k : Nat) : Mild (l.drop k) := ⟨by rw [List.length_drop]; have := h.1; omega, fun x hx => h.2 x (List.mem_of_mem_drop hx)⟩
theorem beB_drop {l : List Rdn} (h : dnOk l = true) {k : Nat} (h0 : 0 < k) (hk : k ≤ l.length) : beB l (l.drop k) = true := by
  unfold beB
  rw [h, dnOk_drop h k, List.length_drop, decide_eq_true (by omega), show l.length - (l.length - k) = k by omega, eqF_refl]
  rfl
theorem beB_short {a b : List Rdn} (h : ¬ b.length < a.length) : beB a b = false := by
  unfold beB
  rw [decide_eq_false h, Bool.false_and, Bool.and_false]
theorem alB_short {a b : List Rdn} (h : a.length ≠ b.length) : alB a b = false := by
  unfold alB eqF
  rw [decide_eq_false h, Bool.false_and, Bool.and_false]
end Go.Proofs.Ythbjgcmbbdlfkaa
