/- Is a name no more than is done? -/
import Derived.Test.YthbjgcmbbdlfkaaDa
set_option linter.unusedVariables false
namespace Go.Proofs.Ythbjgcmbbdlfkaa
def lightR (r : Rdn) : Bool := decide (r.t.size ≤ 300) && decide (r.v.size ≤ 300)
def lightB (l : List Rdn) : Bool := decide (l.length ≤ 20) && l.all lightR
theorem lightB_in {l : List Rdn} (h : lightB l = true) : l.length ≤ 20 ∧ ∀ x ∈ l, x.t.size ≤ 300 ∧ x.v.size ≤ 300 := by
  unfold lightB at h
  simp only [Bool.and_eq_true, List.all_eq_true, decide_eq_true_eq] at h
  refine ⟨h.1, fun x hx => ?_⟩
  have := h.2 x hx
  unfold lightR at this
  simpa using this
theorem lightB_mild {l : List Rdn} (h : lightB l = true) : Mild l := by
  obtain ⟨h1, h2⟩ := lightB_in h
  exact ⟨by omega, fun x hx => ⟨by have := (h2 x hx).1; omega, by have := (h2 x hx).2; omega⟩⟩
end Go.Proofs.Ythbjgcmbbdlfkaa
