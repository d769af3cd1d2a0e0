/- DiskCrash: as the row wants it. -/
import Derived.Test.YtolighikimpbfaaE2
import Derived.Test.YtolighikimpbfaaOa
set_option linter.unusedVariables false
set_option linter.unusedSimpArgs false
namespace Go.Proofs.Ytolighikimpbfaa
open Go.RowKit Go.WideShapes Go.Proofs.YtolighikimpbfaaW.PrintWords Go.Proofs.YtolighikimpbfaaW.PrintMore
theorem diskCrash_all (size x y : Int) (A : Option Addr) (c : Nat) (l : List Act) (w : World) (hC : ak.C w A l.length (encAs l)) (hlc : l.length ≤ c)
    (hx : -9223372036854775808 ≤ x ∧ x ≤ 9223372036854775807) (hy : -9223372036854775808 ≤ y ∧ y ≤ 9223372036854775807) (hok : ∀ a ∈ l, a.Ok) :
    Calls Try.prog 3 #[.int .i64 size, .slice A l.length c, .agg #[.int .i64 x, .int .i64 y]] w fun e w' => e = .returned (.bool true) ∧ Below w.heap.size w w' := by
  cases hyes : decide (Few size l) with
  | false => exact diskCrash_few size x y A c l w hC hlc hyes
  | true =>
    by_cases hs : size < 1
    · exact diskCrash_none size x y A c l w hC hlc hyes hs
    · obtain ⟨m, rfl⟩ := Int.eq_ofNat_of_zero_le (show 0 ≤ size by omega)
      exact diskCrash_go m x y A c l w hC hlc hyes (by omega) hx hy hok
/-- A crash by value. -/
theorem agg_of {P : Program} {w : World} {v : Value} {y : Int × Int} (hu : ∃ cs : Array Value, v = .agg cs ∧ cs.size = 2) (hK : (Kd.pair (Kd.int .i64) (Kd.int .i64)).K w y v.cells.toList) : v = .agg #[.int .i64 y.1, .int .i64 y.2] := by
  obtain ⟨cs, rfl, hs⟩ := hu
  obtain ⟨c0, c1, h, h0, h1⟩ := hK
  have h0 : c0 = [.int .i64 y.1] := h0
  have h1 : c1 = [.int .i64 y.2] := h1
  subst h0; subst h1
  have h2 : cs.toList = [.int .i64 y.1, .int .i64 y.2] := h
  obtain ⟨l⟩ := cs
  have h3 : l = [.int .i64 y.1, .int .i64 y.2] := h2
  rw [h3]
theorem diskCrash_row (W : World) (size : Int) (_wf : (Lit.int .i64 size).wf = true) (A : Option Addr) (c : Nat) (l : List (Int × Int × Int × List Int × Int × Int)) (hlc : l.length ≤ c) (_hcm : c ≤ maxLen) (hC : ak.C W A l.length l) (hG : ∀ y ∈ l, ∃ a : Act, y = encA a ∧ a.Ok)
    (v : Value) (y : Int × Int) (hK : (Kd.pair (Kd.int .i64) (Kd.int .i64)).K W y v.cells.toList) (hy : (-9223372036854775808 ≤ y.1 ∧ y.1 ≤ 9223372036854775807) ∧ (-9223372036854775808 ≤ y.2 ∧ y.2 ≤ 9223372036854775807)) (hv : Value.okWide Try.prog W .any 0 24 v) :
    Calls Try.prog 3 #[.int .i64 size, .slice A l.length c, v] W fun e w' => e = .returned (.bool true) ∧ Below W.heap.size W w' := by
  obtain ⟨L, rfl, hL⟩ := acts_of hG
  obtain ⟨cs, hcs, hs⟩ := okWide_struct Try.underlying24 hv
  rw [cells24] at hs
  have hv2 := agg_of (P := Try.prog) ⟨cs, hcs, hs⟩ hK
  subst hv2
  rw [encAs_length] at hC hlc ⊢
  exact diskCrash_all size y.1 y.2 A c L W hC hlc hy.1 hy.2 hL
end Go.Proofs.Ytolighikimpbfaa
