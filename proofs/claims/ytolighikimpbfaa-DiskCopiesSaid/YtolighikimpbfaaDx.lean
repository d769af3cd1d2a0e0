/- A write that is refused. -/
import Derived.Test.YtolighikimpbfaaDw
set_option linter.unusedVariables false
set_option linter.unusedSimpArgs false
namespace Go.Proofs.Ytolighikimpbfaa
open Go.RowKit Go.Shelf Go.Proofs.YtolighikimpbfaaW.PrintWords Go.Proofs.YtolighikimpbfaaW.PrintMore

/-- A scope that is left by jumps forward alone. -/
theorem wp_scope_forward {P : Program} {a : Act} {w : World} {Q : Exit → Act → World → Prop} {c rest : Code} (l : Nat) (hf : findLabel c l = some rest)
    (first : c.wp P (Exit.jump l (fun a' w' => rest.wp P (Exit.jump l (fun _ _ => False) Q) a' w') Q) a w) : (Code.scope c).wp P Q a w :=
  wp_scope_jumps l _ (fun _ _ => 0) hf first (fun a w h => Code.wp_mono (fun e a' w' h' => by cases e <;> first | exact h' | exact h'.2.elim) h)
set_option maxHeartbeats 1000000 in
theorem write_not (p : Option Addr) (x : Int) (A : Option Addr) (m c : Nat) (w : World) (hn : NoneIs true p w) :
    Calls Try.prog 12 #[.pointer p, .int .i64 x, .slice A m c] w fun e w' => e = .returned (.int .i64 1) ∧ w = w' := by
  have hn := Aside0.mk hn
  go_enter Try.func12, Try.ntmps12
  go_wp2
  refine wp_scope_forward 0 rfl ?_
  go_wp2_with (go_at_call 28; refine hn.out.mono ?_; rintro e w' ⟨rfl, rfl⟩)
  go_step3
  refine ⟨rfl, ?_⟩
  go_wp2
  rw [jump_ret]
  go_ret
  exact ⟨rfl, rfl⟩
set_option maxHeartbeats 1000000 in
theorem write_range (S RO : Nat → Prop) (g : Nat) (ds : DS) (w : World) (h : Dk w S RO g ds) (hl : ds.now.length ≤ 262144) (x : Int) (A : Option Addr) (m c : Nat) (hm : m ≤ 262144) (hx : x < 0 ∨ ds.now.length < x ∨ ds.now.length - x < m) :
    Calls Try.prog 12 #[.pointer (some ⟨g, 0, none⟩), .int .i64 x, .slice A m c] w fun e w' => e = .returned (.int .i64 4) ∧ w = w' := by
  have hn := Aside0.mk h.none
  obtain ⟨n, capn, lv, wv, h⟩ := h
  have c0 := h.cell.1
  clear h
  have dd : decide (x < 0) = true ∨ (decide (x < 0) = false ∧ 0 ≤ x ∧ decide ((ds.now.length : Int) < x) = true) ∨ (decide (x < 0) = false ∧ 0 ≤ x ∧ decide ((ds.now.length : Int) < x) = false ∧ x ≤ ds.now.length ∧ decide ((ds.now.length : Int) - x < m) = true) := by
    by_cases h1 : x < 0
    · exact .inl (by simpa using h1)
    · by_cases h2 : ds.now.length < x
      · exact .inr (.inl ⟨by simpa using h1, by omega, by simpa using h2⟩)
      · exact .inr (.inr ⟨by simpa using h1, by omega, by simpa using h2, by omega, by simp; omega⟩)
  clear hx
  rcases dd with d1 | ⟨d1, _, d2⟩ | ⟨d1, _, d2, _, d3⟩
  all_goals (
    go_enter Try.func12, Try.ntmps12
    go_wp2
    refine wp_scope_forward 0 rfl ?_
    go_wp2_with (go_at_call 28; refine hn.out.mono ?_; rintro e w' ⟨rfl, rfl⟩)
    go_step3
    refine ⟨rfl, ?_⟩
    go_wp2
    rw [jump_ret]
    go_ret
    exact ⟨rfl, rfl⟩)
set_option maxHeartbeats 1000000 in
theorem write_full (S RO : Nat → Prop) (g : Nat) (ds : DS) (w : World) (h : Dk w S RO g ds) (hl : ds.now.length ≤ 262144) (i : Nat) (A : Option Addr) (m c : Nat) (hm : 0 < m) (hx : i + m ≤ ds.now.length) (hf : ds.limit < i + m) :
    Calls Try.prog 12 #[.pointer (some ⟨g, 0, none⟩), .int .i64 i, .slice A m c] w fun e w' => e = .returned (.int .i64 110) ∧ w = w' := by
  have hn := Aside0.mk h.none
  obtain ⟨n, capn, lv, wv, h⟩ := h
  obtain ⟨N, hN⟩ : ∃ N, ds.now.length = N := ⟨_, rfl⟩
  have c0 := h.cell.1
  have c4 := h.cell.2.2.2.2.1
  rw [hN] at c0 hx hl
  clear h hN
  have d1 : decide ((i : Int) < 0) = false := by simp
  have d2 : decide ((N : Int) < (i : Int)) = false := by simp; omega
  have d3 : decide ((N : Int) - (i : Int) < (m : Int)) = false := by simp; omega
  have d5 : decide (ds.limit < (i : Int) + (m : Int)) = true := by simp; omega
  clear hf
  go_enter Try.func12, Try.ntmps12
  go_wp2
  refine wp_scope_forward 0 rfl ?_
  go_wp2_with (go_at_call 28; refine hn.out.mono ?_; rintro e w' ⟨rfl, rfl⟩)
  go_step3
  refine ⟨rfl, ?_⟩
  go_wp2
  rw [jump_ret]
  go_ret
  exact ⟨rfl, rfl⟩
set_option maxHeartbeats 1000000 in
theorem write_stop (S RO : Nat → Prop) (g : Nat) (ds : DS) (w : World) (h : Dk w S RO g ds) (h0 : ds.armed = 0) (hl : ds.now.length ≤ 262144) (i : Nat) (A : Option Addr) (m c : Nat) (hx : i + m ≤ ds.now.length) (hf : m = 0 ∨ i + m ≤ ds.limit) :
    Calls Try.prog 12 #[.pointer (some ⟨g, 0, none⟩), .int .i64 i, .slice A m c] w fun e w' => e = .returned (.int .i64 111) ∧ w = w' := by
  have hn := Aside0.mk h.none
  have hst := Aside0.mk (step_no S RO g ds w h h0)
  obtain ⟨n, capn, lv, wv, h⟩ := h
  obtain ⟨N, hN⟩ : ∃ N, ds.now.length = N := ⟨_, rfl⟩
  have c0 := h.cell.1
  have c4 := h.cell.2.2.2.2.1
  rw [hN] at c0 hx hl
  clear h hN h0
  have d1 : decide ((i : Int) < 0) = false := by simp
  have d2 : decide ((N : Int) < (i : Int)) = false := by simp; omega
  have d3 : decide ((N : Int) - (i : Int) < (m : Int)) = false := by simp; omega
  have dd : m = 0 ∨ (0 < m ∧ decide (ds.limit < (i : Int) + (m : Int)) = false) := by
    by_cases hz : m = 0
    · exact .inl hz
    · exact .inr ⟨by omega, by simp; omega⟩
  clear hf
  rcases dd with rfl | ⟨_, d5⟩
  all_goals (
    go_enter Try.func12, Try.ntmps12
    go_wp2
    refine wp_scope_forward 0 rfl ?_
    go_wp2_with (first | (go_at_call 28; refine hn.out.mono ?_; rintro e w' ⟨rfl, rfl⟩) | (go_at_call 29; refine hst.out.mono ?_; rintro e w' ⟨rfl, rfl⟩))
    go_step3
    refine ⟨rfl, ?_⟩
    go_wp2
    rw [jump_ret]
    go_ret
    exact ⟨rfl, rfl⟩)
end Go.Proofs.Ytolighikimpbfaa
