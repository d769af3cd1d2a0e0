/- A contact by value; going over its fields. -/
import Derived.RangeFuncNested
import Derived.RangeFuncBound
import Derived.RangeFuncCalls
import Derived.RangeFuncLeaves
import Derived.RangeFuncFrom
import Derived.RangeFuncBox
import Derived.OwnWalkIn
import Derived.TacticsInMore
import Derived.LoopNIn
import Derived.LoopIn
import Derived.Test.YtbocbaakknkfiaaMd
set_option linter.unusedVariables false
set_option linter.unusedSimpArgs false
namespace Go.Proofs.Ytbocbaakknkfiaa
open Go.RowKit Go.Shelf Go.Proofs.YtbocbaakknkfiaaW.PrintWords Go.Proofs.YtbocbaakknkfiaaW.PrintMore Go.Proofs.YtbocbaakknkfiaaW.PrintLast
attribute [local go_sem] Oper.semAt_some

/-- A contact's fields, by value. -/
def FV (A : Nat → Option Addr) (c : Nat → Nat) (L : Nat → Fld) (i : Nat) : Value := .slice (A i) (L i).length (c i)
/-- A contact, by value. -/
abbrev conV (V : Nat → Value) : Array Value := #[V 0, V 1, V 2, V 3, V 4, V 5, V 6, V 7]
theorem conV_at (V : Nat → Value) (i : Nat) (hi : i < 8) : (conV V)[i]? = some (V i) := by
  match i, hi with
  | 0, _ => rfl
  | 1, _ => rfl
  | 2, _ => rfl
  | 3, _ => rfl
  | 4, _ => rfl
  | 5, _ => rfl
  | 6, _ => rfl
  | 7, _ => rfl
/-- Its box. -/
theorem con_cell {w : World} {B t : Nat} {V : Nat → Value} (h : w.heap[B]? = some (.cells (conV V) t (0, 0))) (i : Nat) (hi : i < 8) : w.cell? ⟨B, i, none⟩ = some (V i) := by
  rw [cell_of_row _ _ _ _ _ _ h]
  exact conV_at V i hi
theorem all_calls (A : Option Addr) (n c : Nat) (w : World) :
    Calls Try.prog 44 #[.slice A n c] w fun e w' => e = .returned (.func (.func 47) #[] #[.pointer (some ⟨w.heap.size, 0, none⟩)]) ∧ w.alloc (.cells #[.slice A n c] 76) = w' := by
  go_enter Try.func44, Try.ntmps44
  go_wp2
  go_ret
  exact ⟨rfl, rfl⟩
theorem fields_calls (V : Nat → Value) (w : World) :
    Calls Try.prog 38 #[.agg (conV V)] w fun e w' => e = .returned (.func (.func 47) #[] #[.pointer (some ⟨w.heap.size + 1, 0, none⟩)]) ∧ (w.alloc (.cells (conV V) 24)).alloc (.cells #[.slice (some ⟨w.heap.size, 0, none⟩) 8 8] 76) = w' := by
  have h := Aside0.mk (all_calls (some ⟨w.heap.size, 0, none⟩) 8 8 (w.alloc (.cells (conV V) 24)))
  have hz : (w.alloc (.cells (conV V) 24)).heap.size = w.heap.size + 1 := by simp
  rw [hz] at h
  go_enter Try.func38, Try.ntmps38
  go_wp2_with fail
  refine h.out.mono ?_
  rintro e w' ⟨rfl, rfl⟩
  go_wp2_with fail
  go_ret
  exact ⟨rfl, rfl⟩
end Go.Proofs.Ytbocbaakknkfiaa
