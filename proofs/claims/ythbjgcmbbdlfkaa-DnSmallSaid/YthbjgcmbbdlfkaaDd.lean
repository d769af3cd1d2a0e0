/- The walk of DnSmall. -/
import Derived.Test.YthbjgcmbbdlfkaaDb
set_option linter.unusedVariables false
set_option linter.unusedSimpArgs false
namespace Go.Proofs.Ythbjgcmbbdlfkaa
open Go.RowKit Go.Shelf Go.Proofs.YthbjgcmbbdlfkaaW.PrintWords Go.Proofs.YthbjgcmbbdlfkaaW.PrintMore Go.Proofs.YthbjgcmbbdlfkaaW.PrintLast

theorem dnSmall_row (W : World) (a0 : ByteArray) (w0 : a0.size ≤ 140737488351232) : Calls Try.prog 5 #[.string a0] W fun e w' => e = .returned (.bool true) ∧ Below W.heap.size W w' := by
  by_cases hl : a0.size ≤ 1000
  · have i1 : ¬ (1000 : Int) < (a0.size : Int) := by omega
    have h1 := Aside0.mk (fun W => small_calls a0 W (by omega))
    have h2 := Aside0.mk (fun W => PDnAlike.rsmall_calls a0 (by omega) W)
    have h3 := Aside0.mk (fun W => small_calls (small a0) W (by rw [small_size]; omega))
    rw [small_idem] at h3
    generalize small a0 = t at *
    go_enter Try.func5, Try.ntmps5
    go_wp2_with fail
    refine (h1.out _).mono ?_
    rintro e w1 ⟨rfl, hb1⟩
    replace hb1 := Aside0.mk hb1
    go_wp2_with fail
    refine (h2.out _).mono ?_
    rintro e w2 ⟨rfl, hb2⟩
    replace hb2 := Aside0.mk (below_then hb1.out hb1.out.size hb2)
    go_wp2_with fail
    refine (h3.out _).mono ?_
    rintro e w3 ⟨rfl, hb3⟩
    replace hb3 := Aside0.mk (below_then hb2.out hb2.out.size hb3)
    go_wp2_with fail
    refine (known_calls _).mono ?_
    rintro e w4 ⟨rfl, hb4⟩
    replace hb4 := Aside0.mk (below_then hb3.out hb3.out.size hb4)
    go_wp2_with fail
    go_ret
    exact ⟨rfl, hb4.out⟩
  · have i1 : (1000 : Int) < (a0.size : Int) := by omega
    go_enter Try.func5, Try.ntmps5
    go_wp2_with fail
    refine (known_calls _).mono ?_
    rintro e w4 ⟨rfl, hb4⟩
    replace hb4 := Aside0.mk hb4
    go_wp2_with fail
    go_ret
    exact ⟨rfl, hb4.out⟩
end Go.Proofs.Ythbjgcmbbdlfkaa
