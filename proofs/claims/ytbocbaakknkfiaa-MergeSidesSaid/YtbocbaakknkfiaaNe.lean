/- The reference: are two contacts the same? -/
import Derived.Test.YtbocbaakknkfiaaNd
set_option linter.unusedVariables false
set_option linter.unusedSimpArgs false
namespace Go.Proofs.Ytbocbaakknkfiaa
open Go.RowKit Go.Shelf Go.Proofs.YtbocbaakknkfiaaW.PrintWords Go.Proofs.YtbocbaakknkfiaaW.PrintMore Go.Proofs.YtbocbaakknkfiaaW.PrintLast

set_option maxHeartbeats 2000000 in
theorem rsame_calls (x y : CT) (w : World) (hx : x.In w) (hy : y.In w) :
    Calls Try.prog 12 #[.agg (conV x.V), .agg (conV y.V)] w fun e w' => e = .returned (.bool (SameL x.L y.L)) ∧ Below w.heap.size w w' := by
  have hb := below_alloc (below_alloc (Below.refl w.heap.size w) (.cells (conV x.V) 24)) (.cells (conV y.V) 24)
  have h0 := heap_alloc2_old w (.cells (conV x.V) 24) (.cells (conV y.V) 24)
  have h1 := heap_alloc2_new w (.cells (conV x.V) 24) (.cells (conV y.V) 24)
  obtain ⟨w1, hw1⟩ : ∃ w1, (w.alloc (.cells (conV x.V) 24)).alloc (.cells (conV y.V) 24) = w1 := ⟨_, rfl⟩
  rw [hw1] at hb h0 h1
  have hd := rdiffer_calls x y w1 (hx.below hb) (hy.below hb)
  have hs := difs_nil x.L y.L
  obtain ⟨n, hn⟩ : ∃ n, (difs x.L y.L 8).length = n := ⟨_, rfl⟩
  rw [hn] at hd hs
  have p0 := fun i hi => con_cell h0 i hi
  have p1 := fun i hi => con_cell h1 i hi
  have u0 := p0 0 (by omega)
  have u1 := p0 1 (by omega)
  have u2 := p0 2 (by omega)
  have u3 := p0 3 (by omega)
  have u4 := p0 4 (by omega)
  have u5 := p0 5 (by omega)
  have u6 := p0 6 (by omega)
  have u7 := p0 7 (by omega)
  have v0 := p1 0 (by omega)
  have v1 := p1 1 (by omega)
  have v2 := p1 2 (by omega)
  have v3 := p1 3 (by omega)
  have v4 := p1 4 (by omega)
  have v5 := p1 5 (by omega)
  have v6 := p1 6 (by omega)
  have v7 := p1 7 (by omega)
  obtain ⟨b, hbb⟩ : ∃ b, SameL x.L y.L = b := ⟨_, rfl⟩
  rw [hbb] at hs ⊢
  have hz : ((n : Int) == 0) = b := by
    rw [← hs]
    by_cases h : n = 0
    · subst h; rfl
    · rw [decide_eq_false h]; simpa using h
  replace hb := Aside0.mk hb
  replace hd := Aside0.mk hd
  clear p0 p1 h0 h1 hs hbb hx hy hn
  generalize x.V = X at *
  generalize y.V = Y at *
  go_enter Try.func12, Try.ntmps12
  go_wp2_with fail
  refine hd.out.mono ?_
  rintro e w2 ⟨A, c, rfl, _, hb2⟩
  have hb2 := Aside0.mk (below_then hb.out hb.out.size hb2)
  clear hd
  go_wp2_with fail
  go_ret
  exact ⟨rfl, hb2.out⟩
end Go.Proofs.Ytbocbaakknkfiaa
