/- DiskReads: as the row wants it. -/
import Derived.Test.YtolighikimpbfaaSi
import Derived.Test.YtolighikimpbfaaE3
set_option linter.unusedVariables false
set_option linter.unusedSimpArgs false
namespace Go.Proofs.Ytolighikimpbfaa
open Go.RowKit Go.ChangeShapes Go.WideShapes Go.Proofs.YtolighikimpbfaaW.PrintWords Go.Proofs.YtolighikimpbfaaW.PrintMore
theorem diskReads_all (size x y : Int) (A : Option Addr) (c : Nat) (l : List Act) (w : World) (hC : ak.C w A l.length (encAs l)) (hlc : l.length ≤ c)
    (hx : -9223372036854775808 ≤ x ∧ x ≤ 9223372036854775807) (hy : -9223372036854775808 ≤ y ∧ y ≤ 9223372036854775807) (hok : ∀ a ∈ l, a.Ok) :
    Calls Try.prog 5 #[.int .i64 size, .slice A l.length c, .agg #[.int .i64 x, .int .i64 y]] w fun e w' => e = .returned (.bool true) ∧ Below w.heap.size w w' := by
  cases hyes : decide (Few size l) with
  | false => exact diskReads_few size x y A c l w hC hlc hyes
  | true =>
    by_cases hs : size < 1
    · exact diskReads_none size x y A c l w hC hlc hyes hs
    · obtain ⟨m, rfl⟩ := Int.eq_ofNat_of_zero_le (show 0 ≤ size by omega)
      exact diskReads_go m x y A c l w hC hlc hyes (by omega) hx hy hok
theorem cells51 : Try.prog.cellsOf 51 = 2 := by kernel_rfl
section
variable {H : Type} {enc : TypeId × Value → H} {w : World}
/-- Two whole numbers in a row. -/
theorem opens_two : Opens enc Try.prog w 51 (Kd.pair (Kd.int .i64) (Kd.int .i64)) (fun y => (-9223372036854775808 ≤ y.1 ∧ y.1 ≤ 9223372036854775807) ∧ (-9223372036854775808 ≤ y.2 ∧ y.2 ≤ 9223372036854775807)) := by
  intro fuel cs x h
  obtain ⟨xs, n, _, _, hl, hlen, hf⟩ := DataW.trod_array Try.underlying51 h
  rw [cells51] at hl
  match xs, hlen, cs, hl with
  | [y0, y1], _, [c0, c1], _ =>
    have f0 := hf 0 (by omega)
    have f1 := hf 1 (by omega)
    simp only [cells3] at f0 f1
    obtain ⟨n0, e0, _, w0⟩ := DataW.trod_int Try.underlying3 f0
    obtain ⟨n1, e1, _, w1⟩ := DataW.trod_int Try.underlying3 f1
    replace e0 : c0 = .int .i64 n0 := by simpa using e0
    replace e1 : c1 = .int .i64 n1 := by simpa using e1
    subst e0; subst e1
    exact ⟨(n0, n1), ⟨[_], [_], rfl, rfl, rfl⟩, int_bounds w0, int_bounds w1⟩
end
theorem okWide_arr {P : Program} {w : World} {r : Reach} {base t e : Nat} {v : Value} {n : Nat} (ht : P.underlying t = some (.array n e)) (h : Value.okWide P w r base t v) : ∃ cs, v = .agg cs ∧ cs.size = P.cellsOf t := by
  simp only [Value.okWide, ht] at h
  obtain ⟨cs, h1, h2, _⟩ := h
  exact ⟨cs, h1, h2⟩
theorem diskReads_row (W : World) (size : Int) (_wf : (Lit.int .i64 size).wf = true) (A : Option Addr) (c : Nat) (l : List (Int × Int × Int × List Int × Int × Int)) (hlc : l.length ≤ c) (_hcm : c ≤ maxLen) (hC : ak.C W A l.length l) (hG : ∀ y ∈ l, ∃ a : Act, y = encA a ∧ a.Ok)
    (v : Value) (y : Int × Int) (hK : (Kd.pair (Kd.int .i64) (Kd.int .i64)).K W y v.cells.toList) (hy : (-9223372036854775808 ≤ y.1 ∧ y.1 ≤ 9223372036854775807) ∧ (-9223372036854775808 ≤ y.2 ∧ y.2 ≤ 9223372036854775807)) (hv : Value.okWide Try.prog W .any 0 51 v) :
    Calls Try.prog 5 #[.int .i64 size, .slice A l.length c, v] W fun e w' => e = .returned (.bool true) ∧ Below W.heap.size W w' := by
  obtain ⟨L, rfl, hL⟩ := acts_of hG
  obtain ⟨cs, hcs, hs⟩ := okWide_arr Try.underlying51 hv
  rw [cells51] at hs
  have hv2 := agg_of (P := Try.prog) ⟨cs, hcs, hs⟩ hK
  subst hv2
  rw [encAs_length] at hC hlc ⊢
  exact diskReads_all size y.1 y.2 A c L W hC hlc hy.1 hy.2 hL
end Go.Proofs.Ytolighikimpbfaa
