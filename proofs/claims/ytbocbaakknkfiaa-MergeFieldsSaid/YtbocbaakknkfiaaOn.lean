/- merge.DidOf and the reference's. -/
import Derived.Test.YtbocbaakknkfiaaOm
set_option linter.unusedVariables false
set_option linter.unusedSimpArgs false
namespace Go.Proofs.Ytbocbaakknkfiaa
open Go.RowKit Go.Shelf Go.Proofs.YtbocbaakknkfiaaW.PrintWords Go.Proofs.YtbocbaakknkfiaaW.PrintMore Go.Proofs.YtbocbaakknkfiaaW.PrintLast

theorem laid1_row (w1 : World) (x : CT) : RowOf (w1.alloc (.cells #[x.V 0, x.V 1, x.V 2, x.V 3, x.V 4, x.V 5, x.V 6, x.V 7] 24)) w1.heap.size [x] := by
  intro k hk i hi
  rw [cell_of_row _ _ _ _ _ _ (Go.heap_alloc_new w1 _)]
  match k, hk with
  | 0, _ => exact (by rw [Nat.zero_mul, Nat.zero_add]; match i, hi with
    | 0, _ => rfl
    | 1, _ => rfl
    | 2, _ => rfl
    | 3, _ => rfl
    | 4, _ => rfl
    | 5, _ => rfl
    | 6, _ => rfl
    | 7, _ => rfl)
theorem laid2_row (w1 : World) (x y : CT) : RowOf (w1.alloc (.cells #[x.V 0, x.V 1, x.V 2, x.V 3, x.V 4, x.V 5, x.V 6, x.V 7, y.V 0, y.V 1, y.V 2, y.V 3, y.V 4, y.V 5, y.V 6, y.V 7] 24)) w1.heap.size [x, y] := by
  intro k hk i hi
  rw [cell_of_row _ _ _ _ _ _ (Go.heap_alloc_new w1 _)]
  match k, hk with
  | 0, _ => exact (by rw [Nat.zero_mul, Nat.zero_add]; match i, hi with
    | 0, _ => rfl
    | 1, _ => rfl
    | 2, _ => rfl
    | 3, _ => rfl
    | 4, _ => rfl
    | 5, _ => rfl
    | 6, _ => rfl
    | 7, _ => rfl)
  | 1, _ => exact (by match i, hi with
    | 0, _ => rfl
    | 1, _ => rfl
    | 2, _ => rfl
    | 3, _ => rfl
    | 4, _ => rfl
    | 5, _ => rfl
    | 6, _ => rfl
    | 7, _ => rfl)
/-- What a side did: 0 for none. -/
def didV (bx t by' s : Bool) : Int := if !bx || (t && !by') then 0 else if !t then 3 else if s then 1 else 2
def didE (bx t by' : Bool) : Int := if !bx || (t && !by') then 2 else 0
theorem one_right (x : CT) (w : World) (hx : x.In w) : Calls Try.prog 22 #[.slice (some ⟨w.heap.size, 0, none⟩) 1 1] (w.alloc (.cells #[x.V 0, x.V 1, x.V 2, x.V 3, x.V 4, x.V 5, x.V 6, x.V 7] 24)) fun e w' => e = .returned (.bool (checkOk x.L)) ∧ Below w.heap.size w w' := by
  have hb := below_alloc (Below.refl w.heap.size w) (.cells #[x.V 0, x.V 1, x.V 2, x.V 3, x.V 4, x.V 5, x.V 6, x.V 7] 24)
  refine (right_calls w.heap.size 1 [x] _ (by simp) (laid1_row w x) (fun t ht => by rw [List.mem_singleton.1 ht]; exact hx.below hb)).mono ?_
  rintro e w' ⟨rfl, h⟩
  exact ⟨by simp, below_then hb hb.size h⟩
structure Box2 (w0 w : World) (x y : CT) : Prop where
  bel : Below w0.heap.size w0 w
  b0 : w.heap[w0.heap.size]? = some (.cells (conV x.V) 24 (0, 0))
  b1 : w.heap[w0.heap.size + 1]? = some (.cells (conV y.V) 24 (0, 0))
theorem Box2.below {w0 w w' : World} {x y : CT} (h : Box2 w0 w x y) (hb : Below w.heap.size w w') : Box2 w0 w' x y := by
  have l : ∀ {B : Nat} {o : Obj}, w.heap[B]? = some o → w'.heap[B]? = some o := fun hq => (hb.block _ (Array.getElem?_eq_some_iff.1 hq).1).trans hq
  exact ⟨below_then h.bel h.bel.size hb, l h.b0, l h.b1⟩
theorem box2 (w : World) (x y : CT) : ∃ W, (w.alloc (.cells (conV x.V) 24)).alloc (.cells (conV y.V) 24) = W ∧ Box2 w W x y ∧ W.heap.size = w.heap.size + 2 :=
  ⟨_, rfl, ⟨below_alloc (below_alloc (Below.refl _ _) _) _, heap_alloc2_old _ _ _, heap_alloc2_new _ _ _⟩, by simp⟩
set_option maxHeartbeats 2000000 in
theorem didOf_calls (x y : CT) (t : Bool) (w : World) (hx : x.In w) (hy : y.In w) :
    Calls Try.prog 19 #[.agg (conV x.V), .agg (conV y.V), .bool t] w fun e w' => e = .returned (.tuple #[.int .i64 (didV (checkOk x.L) t (checkOk y.L) (SameL x.L y.L)), .int .i64 (didE (checkOk x.L) t (checkOk y.L))]) ∧ Below w.heap.size w w' := by
  obtain ⟨w1, hw1, hB, hs⟩ := box2 w x y
  obtain ⟨u0, u1, u2, u3, u4, u5, u6, u7⟩ := cells8 hB.b0
  have h1 := Aside0.mk (fun W (h : Below w.heap.size w W) => one_right x W (hx.below h))
  have h2 := Aside0.mk (fun W (h : Below w.heap.size w W) => one_right y W (hy.below h))
  have h3 := Aside0.mk (fun W (h : Below w.heap.size w W) => same_calls x y W (hx.below h) (hy.below h))
  have h1' := h1.out w1 hB.bel
  replace h1' := Aside0.mk h1'
  replace hB := Aside0.mk hB
  clear hx hy hs h1
  obtain ⟨bx, hbx⟩ : ∃ b, checkOk x.L = b := ⟨_, rfl⟩
  obtain ⟨by', hby⟩ : ∃ b, checkOk y.L = b := ⟨_, rfl⟩
  obtain ⟨sm, hsm⟩ : ∃ b, SameL x.L y.L = b := ⟨_, rfl⟩
  rw [hbx] at h1' ⊢
  rw [hby] at h2 ⊢
  rw [hsm] at h3 ⊢
  clear hbx hby hsm
  go_enter Try.func19, Try.ntmps19
  go_wp2_with fail
  refine h1'.out.mono ?_
  rintro e w2 ⟨rfl, hb2⟩
  have hB := Aside0.mk (hB.out.below hb2)
  clear hb2 hw1
  clear u0 u1 u2 u3 u4 u5 u6 u7
  cases bx with
  | false =>
    go_wp2_with fail
    go_ret2
    exact ⟨rfl, hB.out.bel⟩
  | true =>
    cases t with
    | false =>
      go_wp2_with fail
      go_ret2
      exact ⟨rfl, hB.out.bel⟩
    | true =>
      have q := cells8 hB.out.b1
      obtain ⟨v0, v1, v2, v3, v4, v5, v6, v7⟩ := q
      go_wp2_with fail
      refine (h2.out _ hB.out.bel).mono ?_
      rintro e w3 ⟨rfl, hb3⟩
      have hB := Aside0.mk (hB.out.below hb3)
      clear hb3
      clear v0 v1 v2 v3 v4 v5 v6 v7
      cases by' with
      | false =>
        go_wp2_with fail
        go_ret2
        exact ⟨rfl, hB.out.bel⟩
      | true =>
        have q := cells8 hB.out.b0
        obtain ⟨u0, u1, u2, u3, u4, u5, u6, u7⟩ := q
        have q := cells8 hB.out.b1
        obtain ⟨v0, v1, v2, v3, v4, v5, v6, v7⟩ := q
        go_wp2_with fail
        clear u0 u1 u2 u3 u4 u5 u6 u7
        clear v0 v1 v2 v3 v4 v5 v6 v7
        refine (h3.out _ hB.out.bel).mono ?_
        rintro e w4 ⟨rfl, hb4⟩
        have hB := Aside0.mk (hB.out.below hb4)
        clear hb4
        cases sm with
        | true =>
          go_wp2_with fail
          go_ret2
          exact ⟨rfl, hB.out.bel⟩
        | false =>
          go_wp2_with fail
          go_ret2
          exact ⟨rfl, hB.out.bel⟩
/-- The reference's. -/
theorem rdidOf_calls (x y : CT) (t : Bool) (w : World) (hx : x.In w) (hy : y.In w) :
    Calls Try.prog 20 #[.agg (conV x.V), .agg (conV y.V), .bool t] w fun e w' => e = .returned (.int .i64 (didV (checkOk x.L) t (checkOk y.L) (SameL x.L y.L))) ∧ Below w.heap.size w w' := by
  obtain ⟨w1, hw1, hB, hs⟩ := box2 w x y
  obtain ⟨u0, u1, u2, u3, u4, u5, u6, u7⟩ := cells8 hB.b0
  have h1 := Aside0.mk (fun W (h : Below w.heap.size w W) => rright_calls x W (hx.below h))
  have h2 := Aside0.mk (fun W (h : Below w.heap.size w W) => rright_calls y W (hy.below h))
  have h3 := Aside0.mk (fun W (h : Below w.heap.size w W) => rsame_calls x y W (hx.below h) (hy.below h))
  replace hB := Aside0.mk hB
  clear hx hy hs
  obtain ⟨bx, hbx⟩ : ∃ b, checkOk x.L = b := ⟨_, rfl⟩
  obtain ⟨by', hby⟩ : ∃ b, checkOk y.L = b := ⟨_, rfl⟩
  obtain ⟨sm, hsm⟩ : ∃ b, SameL x.L y.L = b := ⟨_, rfl⟩
  rw [hbx] at h1 ⊢
  rw [hby] at h2 ⊢
  rw [hsm] at h3 ⊢
  clear hbx hby hsm
  go_enter Try.func20, Try.ntmps20
  go_wp2_with fail
  refine (h1.out _ hB.out.bel).mono ?_
  rintro e w2 ⟨rfl, hb2⟩
  have hB := Aside0.mk (hB.out.below hb2)
  clear hb2 hw1
  clear u0 u1 u2 u3 u4 u5 u6 u7
  cases bx with
  | false =>
    go_wp2_with fail
    go_ret
    exact ⟨rfl, hB.out.bel⟩
  | true =>
    cases t with
    | false =>
      go_wp2_with fail
      go_ret
      exact ⟨rfl, hB.out.bel⟩
    | true =>
      have q := cells8 hB.out.b1
      obtain ⟨v0, v1, v2, v3, v4, v5, v6, v7⟩ := q
      go_wp2_with fail
      refine (h2.out _ hB.out.bel).mono ?_
      rintro e w3 ⟨rfl, hb3⟩
      have hB := Aside0.mk (hB.out.below hb3)
      clear hb3
      clear v0 v1 v2 v3 v4 v5 v6 v7
      cases by' with
      | false =>
        go_wp2_with fail
        go_ret
        exact ⟨rfl, hB.out.bel⟩
      | true =>
        have q := cells8 hB.out.b0
        obtain ⟨u0, u1, u2, u3, u4, u5, u6, u7⟩ := q
        have q := cells8 hB.out.b1
        obtain ⟨v0, v1, v2, v3, v4, v5, v6, v7⟩ := q
        go_wp2_with fail
        clear u0 u1 u2 u3 u4 u5 u6 u7
        clear v0 v1 v2 v3 v4 v5 v6 v7
        refine (h3.out _ hB.out.bel).mono ?_
        rintro e w4 ⟨rfl, hb4⟩
        have hB := Aside0.mk (hB.out.below hb4)
        clear hb4
        cases sm with
        | true =>
          go_wp2_with fail
          go_ret
          exact ⟨rfl, hB.out.bel⟩
        | false =>
          go_wp2_with fail
          go_ret
          exact ⟨rfl, hB.out.bel⟩
end Go.Proofs.Ytbocbaakknkfiaa
