/- MergeDid: the walk. -/
import Derived.Test.YtbocbaakknkfiaaOn
import Derived.Test.YtbocbaakknkfiaaOl
set_option linter.unusedVariables false
set_option linter.unusedSimpArgs false
namespace Go.Proofs.Ytbocbaakknkfiaa
open Go.RowKit Go.Shelf Go.ChangeShapes Go.WideShapes Go.Proofs.YtbocbaakknkfiaaW.PrintWords Go.Proofs.YtbocbaakknkfiaaW.PrintMore Go.Proofs.YtbocbaakknkfiaaW.PrintLast

theorem did_cases (bx t by' s : Bool) : (didE bx t by' = 0 ∧ didV bx t by' s ≠ 0) ∨ (didE bx t by' = 2 ∧ didV bx t by' s = 0) := by
  cases bx <;> cases t <;> cases by' <;> cases s <;> decide
set_option maxHeartbeats 4000000 in
theorem mergeDid_all (x y : CT) (t : Bool) (w : World) (hx : Con w x.A x.c x.L) (hy : Con w y.A y.c y.L) :
    Calls Try.prog 7 #[.agg (conV x.V), .agg (conV y.V), .bool t] w fun e w' => e = .returned (.bool true) ∧ Below w.heap.size w w' := by
  have hk := Aside0.mk (fun w => known_calls w)
  obtain ⟨w1, hw1, hB, hs⟩ := box2 w x y
  obtain ⟨u0, u1, u2, u3, u4, u5, u6, u7⟩ := cells8 hB.b0
  obtain ⟨v0, v1, v2, v3, v4, v5, v6, v7⟩ := cells8 hB.b1
  have hb2 := below_alloc (Below.refl w1.heap.size w1) (.cells #[x.V 0, x.V 1, x.V 2, x.V 3, x.V 4, x.V 5, x.V 6, x.V 7, y.V 0, y.V 1, y.V 2, y.V 3, y.V 4, y.V 5, y.V 6, y.V 7] 24)
  have hB2 := hB.below hb2
  have hf := few_calls w1.heap.size 2 [x, y] _ (by simp) (laid2_row w1 x y) (fun t ht => by
    simp only [List.mem_cons, List.not_mem_nil, or_false] at ht
    rcases ht with rfl | rfl
    · exact hx.below hB2.bel
    · exact hy.below hB2.bel)
  obtain ⟨w2, hw2⟩ : ∃ w2, w1.alloc (.cells #[x.V 0, x.V 1, x.V 2, x.V 3, x.V 4, x.V 5, x.V 6, x.V 7, y.V 0, y.V 1, y.V 2, y.V 3, y.V 4, y.V 5, y.V 6, y.V 7] 24) = w2 := ⟨_, rfl⟩
  rw [hw2] at hB2 hf
  replace hB2 := Aside0.mk hB2
  replace hf := Aside0.mk hf
  replace hx := Aside0.mk hx
  replace hy := Aside0.mk hy
  clear hB hb2
  go_enter Try.func7, Try.ntmps7
  go_wp2_with fail
  have hf := hf.out
  try rw [hs] at hf
  refine hf.mono ?_
  rintro e w' ⟨⟨r, rfl, hr⟩, hw'⟩
  subst hw'
  clear hf u0 u1 u2 u3 u4 u5 u6 u7 v0 v1 v2 v3 v4 v5 v6 v7 hw1 hw2 hs
  cases r with
  | false =>
    clear hr
    go_wp2_with fail
    refine (hk.out _).mono ?_
    rintro e w3 ⟨rfl, hb3⟩
    have hB := Aside0.mk (hB2.out.below hb3)
    go_wp2_with fail
    go_ret
    exact ⟨rfl, hB.out.bel⟩
  | true =>
    have hr := hr rfl
    have hx2 := Aside0.mk (fun W (h : Below w.heap.size w W) => (⟨hx.out.below h, few_small (hr x (by simp))⟩ : x.In W))
    have hy2 := Aside0.mk (fun W (h : Below w.heap.size w W) => (⟨hy.out.below h, few_small (hr y (by simp))⟩ : y.In W))
    clear hr hx hy
    obtain ⟨u0, u1, u2, u3, u4, u5, u6, u7⟩ := cells8 hB2.out.b0
    obtain ⟨v0, v1, v2, v3, v4, v5, v6, v7⟩ := cells8 hB2.out.b1
    have hd := Aside0.mk (fun W (h : Below w.heap.size w W) => didOf_calls x y t W (hx2.out W h) (hy2.out W h))
    have hrd := Aside0.mk (fun W (h : Below w.heap.size w W) => rdidOf_calls x y t W (hx2.out W h) (hy2.out W h))
    have hc := did_cases (checkOk x.L) t (checkOk y.L) (SameL x.L y.L)
    obtain ⟨v, hv⟩ : ∃ v, didV (checkOk x.L) t (checkOk y.L) (SameL x.L y.L) = v := ⟨_, rfl⟩
    obtain ⟨e, he⟩ : ∃ e, didE (checkOk x.L) t (checkOk y.L) = e := ⟨_, rfl⟩
    rw [hv] at hd hrd hc
    rw [he] at hd hc
    clear hx2 hy2 hv he
    rcases hc with ⟨rfl, hne⟩ | ⟨rfl, rfl⟩
    · have g1 : (v == 0) = false := by simpa using hne
      have g2 : (v != 0) = true := by simpa using hne
      clear hne
      go_wp2_with fail
      clear u0 u1 u2 u3 u4 u5 u6 u7 v0 v1 v2 v3 v4 v5 v6 v7
      refine (hd.out _ hB2.out.bel).mono ?_
      rintro e w3 ⟨rfl, hb3⟩
      have hB3 := Aside0.mk (hB2.out.below hb3)
      clear hB2 hb3
      obtain ⟨u0, u1, u2, u3, u4, u5, u6, u7⟩ := cells8 hB3.out.b0
      obtain ⟨v0, v1, v2, v3, v4, v5, v6, v7⟩ := cells8 hB3.out.b1
      go_wp2_with fail
      refine (hrd.out _ hB3.out.bel).mono ?_
      rintro e w4 ⟨rfl, hb4⟩
      have hB4 := Aside0.mk (hB3.out.below hb4)
      clear hB3 hb4 u0 u1 u2 u3 u4 u5 u6 u7 v0 v1 v2 v3 v4 v5 v6 v7
      go_wp2_with fail
      refine (hk.out _).mono ?_
      rintro e w5 ⟨rfl, hb5⟩
      have hB := Aside0.mk (hB4.out.below hb5)
      go_wp2_with fail
      go_ret
      exact ⟨rfl, hB.out.bel⟩
    · go_wp2_with fail
      clear u0 u1 u2 u3 u4 u5 u6 u7 v0 v1 v2 v3 v4 v5 v6 v7
      refine (hd.out _ hB2.out.bel).mono ?_
      rintro e w3 ⟨rfl, hb3⟩
      have hB3 := Aside0.mk (hB2.out.below hb3)
      clear hB2 hb3
      obtain ⟨u0, u1, u2, u3, u4, u5, u6, u7⟩ := cells8 hB3.out.b0
      obtain ⟨v0, v1, v2, v3, v4, v5, v6, v7⟩ := cells8 hB3.out.b1
      go_wp2_with fail
      refine (hrd.out _ hB3.out.bel).mono ?_
      rintro e w4 ⟨rfl, hb4⟩
      have hB4 := Aside0.mk (hB3.out.below hb4)
      clear hB3 hb4 u0 u1 u2 u3 u4 u5 u6 u7 v0 v1 v2 v3 v4 v5 v6 v7
      go_wp2_with fail
      refine (hk.out _).mono ?_
      rintro e w5 ⟨rfl, hb5⟩
      have hB := Aside0.mk (hB4.out.below hb5)
      go_wp2_with fail
      go_ret
      exact ⟨rfl, hB.out.bel⟩
theorem mergeDid_row (W : World) (v0 : Value) (x : CT) (hK0 : v0.cells.toList = (conV x.V).toList ∧ Con W x.A x.c x.L) (_ : True) (hv0 : Value.okWide Try.prog W .any 0 24 v0)
    (v1 : Value) (y : CT) (hK1 : v1.cells.toList = (conV y.V).toList ∧ Con W y.A y.c y.L) (_ : True) (hv1 : Value.okWide Try.prog W .any 0 24 v1) (t : Bool) :
    Calls Try.prog 7 #[v0, v1, .bool t] W fun e w' => e = .returned (.bool true) ∧ Below W.heap.size W w' := by
  obtain ⟨rfl, hx⟩ := con_of hK0 hv0
  obtain ⟨rfl, hy⟩ := con_of hK1 hv1
  exact mergeDid_all x y t W hx hy
end Go.Proofs.Ytbocbaakknkfiaa
