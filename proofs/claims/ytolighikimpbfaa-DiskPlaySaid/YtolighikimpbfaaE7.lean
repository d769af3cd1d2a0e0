/- DiskPlay: as the row wants it. -/
import Derived.Test.YtolighikimpbfaaSj
import Derived.Test.YtolighikimpbfaaOa
set_option linter.unusedVariables false
set_option linter.unusedSimpArgs false
namespace Go.Proofs.Ytolighikimpbfaa
open Go.RowKit Go.ChangeShapes Go.WideShapes Go.Proofs.YtolighikimpbfaaW.PrintWords Go.Proofs.YtolighikimpbfaaW.PrintMore
theorem diskPlay_all (size : Int) (A : Option Addr) (c : Nat) (l : List Act) (w : World) (hC : ak.C w A l.length (encAs l)) (hlc : l.length ≤ c) (hok : ∀ a ∈ l, a.Ok) :
    Calls Try.prog 4 #[.int .i64 size, .slice A l.length c] w fun e w' => e = .returned (.bool true) ∧ Below w.heap.size w w' := by
  cases hyes : decide (Few size l) with
  | false => exact diskPlay_few size A c l w hC hlc hyes
  | true =>
    by_cases hs : size < 1
    · exact diskPlay_none size A c l w hC hlc hyes hs
    · obtain ⟨m, rfl⟩ := Int.eq_ofNat_of_zero_le (show 0 ≤ size by omega)
      exact diskPlay_go m A c l w hC hlc hyes (by omega) hok
theorem diskPlay_row (W : World) (size : Int) (_wf : (Lit.int .i64 size).wf = true) (A : Option Addr) (c : Nat) (l : List (Int × Int × Int × List Int × Int × Int)) (hlc : l.length ≤ c) (_hcm : c ≤ maxLen) (hC : ak.C W A l.length l) (hG : ∀ y ∈ l, ∃ a : Act, y = encA a ∧ a.Ok) :
    Calls Try.prog 4 #[.int .i64 size, .slice A l.length c] W fun e w' => e = .returned (.bool true) ∧ Below W.heap.size W w' := by
  obtain ⟨L, rfl, hL⟩ := acts_of hG
  rw [encAs_length] at hC hlc ⊢
  exact diskPlay_all size A c L W hC hlc hL
end Go.Proofs.Ytolighikimpbfaa
