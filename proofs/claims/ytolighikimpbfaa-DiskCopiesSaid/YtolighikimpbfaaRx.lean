/- The reference: a write that is stopped. -/
import Derived.Test.YtolighikimpbfaaRw
set_option linter.unusedVariables false
set_option linter.unusedSimpArgs false
namespace Go.Proofs.Ytolighikimpbfaa
open Go.RowKit Go.Shelf Go.Proofs.YtolighikimpbfaaW.PrintWords Go.Proofs.YtolighikimpbfaaW.PrintMore

set_option maxHeartbeats 1000000 in
theorem rwrite_stop (O : Nat → Prop) (v : Value) (ds : DS) (w : World) (h : Ref w O v ds) (h0 : ds.armed = 0) (hf : Fine ds) (i : Nat) (A' : Option Addr) (m c' : Nat) (hx : i + m ≤ ds.now.length) (hl : m = 0 ∨ i + m ≤ ds.limit) :
    Calls Try.prog 36 #[v, .int .i64 i, .slice A' m c'] w fun e w' => e = .returned (.tuple #[v, .int .i64 111]) ∧ Below w.heap.size w w' := by
  have hr := h
  obtain ⟨A, c, A2, c2, rfl, h1, h2, h3, h4⟩ := h
  rw [← hf.las] at hx
  have hll : ds.lasts.length ≤ 262144 := by have := hf.las; have := hf.len; omega
  have hb := below_alloc (below_alloc (Below.refl w.heap.size w) (.cells #[.slice A ds.lasts.length c, .slice A2 ds.waits.length c2, .int .i64 ds.armed, .int .i64 ds.limit, .int .i64 ds.done] 45)) (.cells #[.slice none 0 0, .slice none 0 0, .int .i64 0, .int .i64 0, .int .i64 0] 45)
  have hs := Aside0.mk (rstep_no O _ ds _ (hr.below hb) h0)
  have H1 := Mod.blk (S := fun _ => False) ((Mod.refl _ _).alloc (.cells #[.slice none 0 0, .slice none 0 0, .int .i64 0, .int .i64 0, .int .i64 0] 45)) (Go.heap_alloc_new w (.cells #[.slice A ds.lasts.length c, .slice A2 ds.waits.length c2, .int .i64 ds.armed, .int .i64 ds.limit, .int .i64 ds.done] 45)) (fun h => h)
  have H2 := last_new w (.cells #[.slice A ds.lasts.length c, .slice A2 ds.waits.length c2, .int .i64 ds.armed, .int .i64 ds.limit, .int .i64 ds.done] 45) (.cells #[.slice none 0 0, .slice none 0 0, .int .i64 0, .int .i64 0, .int .i64 0] 45)
  have hz1 : ((w.alloc (.cells #[.slice A ds.lasts.length c, .slice A2 ds.waits.length c2, .int .i64 ds.armed, .int .i64 ds.limit, .int .i64 ds.done] 45)).alloc (.cells #[.slice none 0 0, .slice none 0 0, .int .i64 0, .int .i64 0, .int .i64 0] 45)).heap.size = w.heap.size + 2 := by simp
  have hb := Aside0.mk hb
  replace H1 := Aside0.mk H1
  replace H2 := Aside0.mk H2
  replace h0 := Aside0.mk h0
  clear h3 h4 hr hf
  generalize ds.lasts.length = n1 at *
  generalize ds.waits.length = n2 at *
  have d1 : decide ((i : Int) < 0) = false := by simp
  have d2 : decide ((n1 : Int) < (i : Int)) = false := by simp; omega
  have d3 : decide ((n1 : Int) - (i : Int) < (m : Int)) = false := by simp; omega
  have dd : m = 0 ∨ (0 < m ∧ decide (ds.limit < (i : Int) + (m : Int)) = false) := by
    by_cases hz : m = 0
    · exact .inl hz
    · exact .inr ⟨by omega, by simp; omega⟩
  clear hl
  rcases dd with rfl | ⟨_, d5⟩
  all_goals (
    go_enter Try.func36, Try.ntmps36
    go_wp2_with fail
    refine hs.out.mono ?_
    rintro e w2 ⟨rfl, hb2⟩
    obtain ⟨w1, hw1⟩ : ∃ w1, (w.alloc (.cells #[.slice A n1 c, .slice A2 n2 c2, .int .i64 ds.armed, .int .i64 ds.limit, .int .i64 ds.done] 45)).alloc (.cells #[.slice none 0 0, .slice none 0 0, .int .i64 0, .int .i64 0, .int .i64 0] 45) = w1 := ⟨_, rfl⟩
    rw [hw1] at hb2 hb H1 H2 hz1
    have G1 := (hb2.block w.heap.size (by omega)).trans H1.out
    have G2 := (hb2.block (w.heap.size + 1) (by omega)).trans H2.out
    have hz2 := hb2.size
    have G3 := Go.heap_alloc_new w2 (.cells #[.slice A n1 c, .slice A2 n2 c2, .int .i64 ds.armed, .int .i64 ds.limit, .int .i64 ds.done] 45)
    have hb3 := below_alloc (Below.refl w2.heap.size w2) (.cells #[.slice A n1 c, .slice A2 n2 c2, .int .i64 ds.armed, .int .i64 ds.limit, .int .i64 ds.done] 45)
    obtain ⟨w3, hw3⟩ : ∃ w3, w2.alloc (.cells #[.slice A n1 c, .slice A2 n2 c2, .int .i64 ds.armed, .int .i64 ds.limit, .int .i64 ds.done] 45) = w3 := ⟨_, rfl⟩
    rw [hw3] at G3 hb3
    replace G1 := (hb3.block w.heap.size (by omega)).trans G1
    replace G2 := (hb3.block (w.heap.size + 1) (by omega)).trans G2
    obtain ⟨a0, a1, a2, a3, a4, a5⟩ := blk5 G1
    obtain ⟨e0, e1, e2, e3, e4, e5⟩ := blk5 G2
    have hz3 := hb3.size
    have hb3 := Aside0.mk (below_then hb.out hb.out.size (below_then hb2 hb2.size hb3))
    have G2 := Aside0.mk G2
    clear G1 G3 hs
    go_wp2_with fail
    exact bodyPost_ret (results_ct rfl _ _ (w.heap.size + 1) 45 _ (0, 0) _ rfl (set5 G2.out _ _ _ _ _) Try.underlying45 rfl size45) rfl ⟨rfl, below5 hb3.out (by omega) _ _ _ _ _⟩)
end Go.Proofs.Ytolighikimpbfaa
