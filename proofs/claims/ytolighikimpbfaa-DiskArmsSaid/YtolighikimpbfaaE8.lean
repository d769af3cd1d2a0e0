/- DiskArms: as the row wants it. -/
import Derived.Test.YtolighikimpbfaaTf
import Derived.Test.YtolighikimpbfaaOa
set_option linter.unusedVariables false
set_option linter.unusedSimpArgs false
namespace Go.Proofs.Ytolighikimpbfaa
open Go.RowKit Go.ChangeShapes Go.WideShapes Go.Proofs.YtolighikimpbfaaW.PrintWords Go.Proofs.YtolighikimpbfaaW.PrintMore
theorem diskArms_all (m n : Int) (A A2 : Option Addr) (c c2 : Nat) (T : List Bool) (b : List UInt8) (w : World) (hT : Kd.bool.C w A T.length T) (hbC : u8.C w A2 b.length (toI b)) :
    Calls Try.prog 6 #[.int .i64 m, .int .i64 n, .agg #[.slice A T.length c, .slice A2 b.length c2]] w fun e w' => e = .returned (.bool true) ∧ Below w.heap.size w w' := by
  by_cases h : ArmsFew m n T.length b.length
  · obtain ⟨k, rfl⟩ := Int.eq_ofNat_of_zero_le (show 0 ≤ m by have := h.1; omega)
    exact diskArms_go k n A A2 c c2 T b w hT hbC h
  · exact diskArms_few m n A A2 c c2 T.length b.length w h
theorem cells55 : Try.prog.cellsOf 55 = 2 := by kernel_rfl
theorem cells32 : Try.prog.cellsOf 32 = 1 := by kernel_rfl
theorem cells4 : Try.prog.cellsOf 4 = Kd.bool.sz := by kernel_rfl
section
variable {H : Type} {enc : TypeId × Value → H} {w : World}
/-- Truths, and bytes. -/
theorem opens_rowx : Opens enc Try.prog w 55 (Kd.pair (Kd.slice 4 Kd.bool) (Kd.slice 5 u8)) (fun y => ∃ b : List UInt8, y.2 = toI b) := by
  intro fuel cs x h
  obtain ⟨xs, n, _, _, hl, hlen, hf⟩ := DataW.trod_struct Try.underlying55 h
  rw [cells55] at hl
  match xs, hlen, cs, hl with
  | [y0, y1], _, [c0, c1], _ =>
    have f0 := hf 0 (Field.mk "Syncs" 32 0 false "" "" 0) rfl
    have f1 := hf 1 (Field.mk "B" 31 1 false "" "" 24) rfl
    simp only [cells31, cells32] at f0 f1
    obtain ⟨A, c, l, e0, h0, h0m, hC0, hG0⟩ := opens_row (d := Kd.bool) Try.underlying32 cells4 (opens_bool Try.underlying4) n _ _ f0
    replace e0 : c0 = .slice A l.length c := by simpa using e0
    obtain ⟨A1, c1', l1, e1, h1, h1m, hC1, hG1⟩ := opens_row (d := u8) Try.underlying31 cells5 (opens_int Try.underlying5) n _ _ f1
    replace e1 : c1 = .slice A1 l1.length c1' := by simpa using e1
    obtain ⟨bs, rfl⟩ := bytes_of hG1
    subst e0; subst e1
    exact ⟨(l, toI bs), ⟨[_], [_], rfl, ⟨A, c, rfl, h0, hC0⟩, ⟨A1, c1', rfl, h1, hC1⟩⟩, bs, rfl⟩
end
theorem diskArms_row (W : World) (m : Int) (_wf : (Lit.int .i64 m).wf = true) (n : Int) (_wf2 : (Lit.int .i64 n).wf = true)
    (v : Value) (y : List Bool × List Int) (hK : (Kd.pair (Kd.slice 4 Kd.bool) (Kd.slice 5 u8)).K W y v.cells.toList) (hy : ∃ b : List UInt8, y.2 = toI b) (hv : Value.okWide Try.prog W .any 0 55 v) :
    Calls Try.prog 6 #[.int .i64 m, .int .i64 n, v] W fun e w' => e = .returned (.bool true) ∧ Below W.heap.size W w' := by
  obtain ⟨b, hb⟩ := hy
  obtain ⟨cs, rfl, hs⟩ := okWide_struct Try.underlying55 hv
  obtain ⟨c0, c1, h, ⟨A, c, rfl, h0, hC0⟩, ⟨A1, c1', rfl, h1, hC1⟩⟩ := hK
  have h2 : cs.toList = [.slice A y.1.length c, .slice A1 y.2.length c1'] := h
  obtain ⟨l⟩ := cs
  have h3 : l = [.slice A y.1.length c, .slice A1 y.2.length c1'] := h2
  subst h3
  rw [hb] at hC1 ⊢
  rw [toI_length] at hC1 ⊢
  exact diskArms_all m n A A1 c c1' y.1 b W hC0 hC1
end Go.Proofs.Ytolighikimpbfaa
