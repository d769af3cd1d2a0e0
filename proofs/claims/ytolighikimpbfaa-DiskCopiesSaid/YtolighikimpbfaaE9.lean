/- DiskCopies: as the row wants it. -/
import Derived.Test.YtolighikimpbfaaTh
import Derived.Test.YtolighikimpbfaaOa
set_option linter.unusedVariables false
set_option linter.unusedSimpArgs false
namespace Go.Proofs.Ytolighikimpbfaa
open Go.RowKit Go.ChangeShapes Go.WideShapes Go.Proofs.YtolighikimpbfaaW.PrintWords Go.Proofs.YtolighikimpbfaaW.PrintMore
theorem diskCopies_all (size : Int) (A A2 : Option Addr) (c c2 : Nat) (l l2 : List Act) (w : World) (hC : ak.C w A l.length (encAs l)) (hlc : l.length ≤ c) (hC2 : ak.C w A2 l2.length (encAs l2)) (hlc2 : l2.length ≤ c2) (hok : ∀ a ∈ l, a.Ok) (hok2 : ∀ a ∈ l2, a.Ok) :
    Calls Try.prog 7 #[.int .i64 size, .slice A l.length c, .slice A2 l2.length c2] w fun e w' => e = .returned (.bool true) ∧ Below w.heap.size w w' := by
  cases hyes : decide (Few size l) with
  | false => exact diskCopies_few size A A2 c c2 l l2 w hC hlc hC2 hlc2 (.inl hyes)
  | true =>
    cases hyes2 : decide (Few size l2) with
    | false => exact diskCopies_few size A A2 c c2 l l2 w hC hlc hC2 hlc2 (.inr (.inl ⟨hyes, hyes2⟩))
    | true =>
      by_cases h40 : 40 < l.length + l2.length
      · exact diskCopies_few size A A2 c c2 l l2 w hC hlc hC2 hlc2 (.inr (.inr ⟨hyes, hyes2, h40⟩))
      by_cases hs : size < 1
      · exact diskCopies_none size A A2 c c2 l l2 w hC hlc hC2 hlc2 hyes hyes2 (by omega) hs
      · obtain ⟨m, rfl⟩ := Int.eq_ofNat_of_zero_le (show 0 ≤ size by omega)
        exact diskCopies_go m A A2 c c2 l l2 w hC hlc hC2 hlc2 hyes hyes2 (by omega) (by omega) hok hok2
theorem diskCopies_row (W : World) (size : Int) (_wf : (Lit.int .i64 size).wf = true) (A : Option Addr) (c : Nat) (l : List (Int × Int × Int × List Int × Int × Int)) (hlc : l.length ≤ c) (_hcm : c ≤ maxLen) (hC : ak.C W A l.length l) (hG : ∀ y ∈ l, ∃ a : Act, y = encA a ∧ a.Ok)
    (A2 : Option Addr) (c2 : Nat) (l2 : List (Int × Int × Int × List Int × Int × Int)) (hlc2 : l2.length ≤ c2) (_hcm2 : c2 ≤ maxLen) (hC2 : ak.C W A2 l2.length l2) (hG2 : ∀ y ∈ l2, ∃ a : Act, y = encA a ∧ a.Ok) :
    Calls Try.prog 7 #[.int .i64 size, .slice A l.length c, .slice A2 l2.length c2] W fun e w' => e = .returned (.bool true) ∧ Below W.heap.size W w' := by
  obtain ⟨L, rfl, hL⟩ := acts_of hG
  obtain ⟨L2, rfl, hL2⟩ := acts_of hG2
  simp only [encAs_length] at hC hlc hC2 hlc2 ⊢
  exact diskCopies_all size A A2 c c2 L L2 W hC hlc hC2 hlc2 hL hL2
end Go.Proofs.Ytolighikimpbfaa
