/- Whatever calls came in, and whatever crash: what the heap holds of them. -/
import Derived.Test.YtolighikimpbfaaOp
import Derived.Test.YtolighikimpbfaaDa
import Derived.ChangeSame
set_option linter.unusedVariables false
set_option linter.unusedSimpArgs false
namespace Go.Proofs.Ytolighikimpbfaa
open Go.RowKit Go.ChangeShapes Go.WideShapes Go.Proofs.YtolighikimpbfaaW.PrintWords Go.Proofs.YtolighikimpbfaaW.PrintMore

section
variable {H : Type} {enc : TypeId × Value → H} {w : World}
theorem cells34 : Try.prog.cellsOf 34 = 6 := by kernel_rfl
theorem cells24 : Try.prog.cellsOf 24 = 2 := by kernel_rfl
theorem cells31 : Try.prog.cellsOf 31 = 1 := by kernel_rfl
theorem cells3 : Try.prog.cellsOf 3 = 1 := by kernel_rfl
theorem cells5 : Try.prog.cellsOf 5 = u8.sz := by kernel_rfl
theorem int_bounds {n : Int} (h : (Lit.int .i64 n).wf = true) : -9223372036854775808 ≤ n ∧ n ≤ 9223372036854775807 := by
  simp [Lit.wf, IntKind.min, IntKind.max, IntKind.signed, IntKind.bits] at h
  exact h
/-- A crash: two whole numbers. -/
theorem crash_cells {fuel : Nat} {cs : List Value} {x : DataW H × List MemPlace} (h : DataW.trod enc Try.prog w 0 (fun _ => true) true fuel 24 cs = some x) :
    ∃ a b : Int, cs = [.int .i64 a, .int .i64 b] ∧ (-9223372036854775808 ≤ a ∧ a ≤ 9223372036854775807) ∧ (-9223372036854775808 ≤ b ∧ b ≤ 9223372036854775807) := by
  obtain ⟨xs, n, _, _, hl, hlen, hf⟩ := DataW.trod_struct Try.underlying24 h
  rw [cells24] at hl
  match xs, hlen, cs, hl with
  | [y0, y1], _, [c0, c1], _ =>
    have f0 := hf 0 (Field.mk "Keep" 3 0 false "" "" 0) rfl
    have f1 := hf 1 (Field.mk "Torn" 3 1 false "" "" 8) rfl
    simp only [cells3] at f0 f1
    obtain ⟨n0, e0, _, w0⟩ := DataW.trod_int Try.underlying3 f0
    obtain ⟨n1, e1, _, w1⟩ := DataW.trod_int Try.underlying3 f1
    replace e0 : c0 = .int .i64 n0 := by simpa using e0
    replace e1 : c1 = .int .i64 n1 := by simpa using e1
    subst e0; subst e1
    exact ⟨n0, n1, rfl, int_bounds w0, int_bounds w1⟩
theorem opens_act : Opens enc Try.prog w 34 ak (fun y => ∃ a : Act, y = encA a ∧ a.Ok) := by
  intro fuel cs x h
  obtain ⟨xs, n, _, _, hl, hlen, hf⟩ := DataW.trod_struct Try.underlying34 h
  rw [cells34] at hl
  match xs, hlen, cs, hl with
  | [y0, y1, y2, y3, y4], _, [c0, c1, c2, c3, c4, c5], _ =>
    have f0 := hf 0 (Field.mk "Kind" 3 0 false "" "" 0) rfl
    have f1 := hf 1 (Field.mk "At" 3 1 false "" "" 8) rfl
    have f2 := hf 2 (Field.mk "N" 3 2 false "" "" 16) rfl
    have f3 := hf 3 (Field.mk "Bytes" 31 3 false "" "" 24) rfl
    have f4 := hf 4 (Field.mk "Crash" 24 4 false "" "" 48) rfl
    simp only [cells3, cells31, cells24] at f0 f1 f2 f3 f4
    obtain ⟨n0, e0, _, w0⟩ := DataW.trod_int Try.underlying3 f0
    obtain ⟨n1, e1, _, w1⟩ := DataW.trod_int Try.underlying3 f1
    obtain ⟨n2, e2, _, w2⟩ := DataW.trod_int Try.underlying3 f2
    replace e0 : c0 = .int .i64 n0 := by simpa using e0
    replace e1 : c1 = .int .i64 n1 := by simpa using e1
    replace e2 : c2 = .int .i64 n2 := by simpa using e2
    obtain ⟨A, c, l, e3, h3, h3m, hC, hG⟩ := opens_row (d := u8) Try.underlying31 cells5 (opens_int Try.underlying5) n _ _ f3
    replace e3 : c3 = .slice A l.length c := by simpa using e3
    obtain ⟨bs, rfl⟩ := bytes_of hG
    obtain ⟨n4, n5, e4, w4, w5⟩ := crash_cells f4
    replace e4 : c4 = .int .i64 n4 ∧ c5 = .int .i64 n5 := by simpa using e4
    obtain ⟨e4, e5⟩ := e4
    subst e0; subst e1; subst e2; subst e3; subst e4; subst e5
    refine ⟨encA ⟨n0, n1, n2, bs, n4, n5⟩, ⟨[_], _, rfl, rfl, [_], _, rfl, rfl, [_], _, rfl, rfl, [_], _, rfl, ⟨A, c, rfl, h3, hC⟩, [_], [_], rfl, rfl, rfl⟩, ⟨n0, n1, n2, bs, n4, n5⟩, rfl, ⟨int_bounds w0, int_bounds w1, int_bounds w2, w4, w5⟩⟩
theorem opens_crash : Opens enc Try.prog w 24 (Kd.pair (Kd.int .i64) (Kd.int .i64)) (fun y => (-9223372036854775808 ≤ y.1 ∧ y.1 ≤ 9223372036854775807) ∧ (-9223372036854775808 ≤ y.2 ∧ y.2 ≤ 9223372036854775807)) := by
  intro fuel cs x h
  obtain ⟨a, b, rfl, ha, hb⟩ := crash_cells h
  exact ⟨(a, b), ⟨[_], [_], rfl, rfl, rfl⟩, ha, hb⟩
end
theorem acts_of : ∀ {l : List (Int × Int × Int × List Int × Int × Int)}, (∀ y ∈ l, ∃ a : Act, y = encA a ∧ a.Ok) → ∃ L : List Act, l = encAs L ∧ ∀ a ∈ L, a.Ok
  | [], _ => ⟨[], rfl, fun _ h => by cases h⟩
  | y :: l, h => by
    obtain ⟨a, rfl, ha⟩ := h y (List.mem_cons_self ..)
    obtain ⟨L, rfl, hL⟩ := acts_of (l := l) (fun m hm => h m (List.mem_cons_of_mem _ hm))
    exact ⟨a :: L, rfl, fun b hb => by rcases List.mem_cons.1 hb with hb | hb; exact hb ▸ ha; exact hL b hb⟩
theorem cells_row34 : Try.prog.cellsOf 34 = ak.sz := by kernel_rfl
end Go.Proofs.Ytolighikimpbfaa
