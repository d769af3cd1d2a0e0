/- For the laws' walks: three boxes, the answers of Three as contacts. -/
import Derived.Test.YtbocbaakknkfiaaOi
set_option linter.unusedVariables false
set_option linter.unusedSimpArgs false
namespace Go.Proofs.Ytbocbaakknkfiaa
open Go.RowKit Go.Shelf Go.Proofs.YtbocbaakknkfiaaW.PrintWords Go.Proofs.YtbocbaakknkfiaaW.PrintMore Go.Proofs.YtbocbaakknkfiaaW.PrintLast

theorem cells8 {w : World} {B t : Nat} {V : Nat → Value} (h : w.heap[B]? = some (.cells (conV V) t (0, 0))) :
    w.cell? ⟨B, 0, none⟩ = some (V 0) ∧ w.cell? ⟨B, 1, none⟩ = some (V 1) ∧ w.cell? ⟨B, 2, none⟩ = some (V 2) ∧ w.cell? ⟨B, 3, none⟩ = some (V 3) ∧ w.cell? ⟨B, 4, none⟩ = some (V 4) ∧ w.cell? ⟨B, 5, none⟩ = some (V 5) ∧ w.cell? ⟨B, 6, none⟩ = some (V 6) ∧ w.cell? ⟨B, 7, none⟩ = some (V 7) :=
  ⟨con_cell h 0 (by omega), con_cell h 1 (by omega), con_cell h 2 (by omega), con_cell h 3 (by omega), con_cell h 4 (by omega), con_cell h 5 (by omega), con_cell h 6 (by omega), con_cell h 7 (by omega)⟩
/-- Nobody. -/
def nilT : CT := ⟨fun _ => none, fun _ => 0, fun _ => []⟩
theorem nilT_in (w : World) : nilT.In w := ⟨⟨fun _ _ => Nat.le_refl _, fun _ _ => Kd.C_nil _ _⟩, fun _ _ => ⟨by simp [nilT], by simp [nilT]⟩⟩
theorem SameL_self (L : Nat → Fld) : SameL L L = true := by unfold SameL; rw [List.all_eq_true]; exact fun i _ => T_self _
theorem merged_ok {x y z : Nat → Fld} (hy : checkOk y = true) (hz : checkOk z = true) : checkOk (merged x y z) = true := by
  refine checkOk_r.2 fun i hi => ?_
  unfold merged
  cases takesA (x i) (y i) (z i)
  · exact checkOk_r.1 hz i hi
  · exact checkOk_r.1 hy i hi
theorem merged_small {x y z : Nat → Fld} (hy : Small y) (hz : Small z) : Small (merged x y z) := by
  intro i hi
  unfold merged
  cases takesA (x i) (y i) (z i)
  · exact hz i hi
  · exact hy i hi
/-- merge.Three's answer as a contact. -/
theorem three_some (x y z : CT) (w : World) (hx : x.In w) (hy : y.In w) (hz : z.In w) (hyes : (checkOk x.L && (checkOk y.L && checkOk z.L)) = true) :
    Calls Try.prog 10 #[.agg (conV x.V), .agg (conV y.V), .agg (conV z.V)] w fun e w' => ∃ (t : CT) (A : Option Addr) (c : Nat), e = .returned (.tuple #[.agg #[.slice (t.A 0) (t.L 0).length (t.c 0), .slice (t.A 1) (t.L 1).length (t.c 1), .slice (t.A 2) (t.L 2).length (t.c 2), .slice (t.A 3) (t.L 3).length (t.c 3), .slice (t.A 4) (t.L 4).length (t.c 4), .slice (t.A 5) (t.L 5).length (t.c 5), .slice (t.A 6) (t.L 6).length (t.c 6), .slice (t.A 7) (t.L 7).length (t.c 7)], .slice A (disps x.L y.L z.L 8).length c, .int .i64 0]) ∧ t.L = merged x.L y.L z.L ∧ t.In w' ∧ (Kd.int .i64).C w' A (disps x.L y.L z.L 8).length (disps x.L y.L z.L 8) ∧ Below w.heap.size w w' := by
  refine (three_yes x y z w hx hy hz hyes).mono ?_
  rintro e w' ⟨v, A, c, rfl, hcon, hR, hb⟩
  obtain ⟨A', c', ev, _, hC⟩ := Kd.R_reads hR
  subst ev
  exact ⟨⟨A, c, merged x.L y.L z.L⟩, A', c', rfl, rfl, ⟨hcon, merged_small hy.2 hz.2⟩, hC, hb⟩
/-- The reference's. -/
theorem rthree_some (x y z : CT) (w : World) (hx : x.In w) (hy : y.In w) (hz : z.In w) :
    Calls Try.prog 13 #[.agg (conV x.V), .agg (conV y.V), .agg (conV z.V)] w fun e w' => ∃ (t : CT) (A : Option Addr) (c : Nat), e = .returned (.tuple #[.agg #[.slice (t.A 0) (t.L 0).length (t.c 0), .slice (t.A 1) (t.L 1).length (t.c 1), .slice (t.A 2) (t.L 2).length (t.c 2), .slice (t.A 3) (t.L 3).length (t.c 3), .slice (t.A 4) (t.L 4).length (t.c 4), .slice (t.A 5) (t.L 5).length (t.c 5), .slice (t.A 6) (t.L 6).length (t.c 6), .slice (t.A 7) (t.L 7).length (t.c 7)], .slice A (disps x.L y.L z.L 8).length c]) ∧ t.L = merged x.L y.L z.L ∧ t.In w' ∧ (Kd.int .i64).C w' A (disps x.L y.L z.L 8).length (disps x.L y.L z.L 8) ∧ Below w.heap.size w w' := by
  refine (rthree_calls x y z w hx hy hz).mono ?_
  rintro e w' ⟨v, rfl, hR, hb⟩
  obtain ⟨A', c', ev, _, hC⟩ := Kd.R_reads hR
  subst ev
  exact ⟨mT x y z, A', c', rfl, rfl, mT_in (hy.below hb) (hz.below hb), hC, hb⟩
/-- Three contacts in boxes. -/
structure Box3 (w0 w : World) (x y z : CT) : Prop where
  bel : Below w0.heap.size w0 w
  b0 : w.heap[w0.heap.size]? = some (.cells (conV x.V) 24 (0, 0))
  b1 : w.heap[w0.heap.size + 1]? = some (.cells (conV y.V) 24 (0, 0))
  b2 : w.heap[w0.heap.size + 1 + 1]? = some (.cells (conV z.V) 24 (0, 0))
theorem Box3.below {w0 w w' : World} {x y z : CT} (h : Box3 w0 w x y z) (hb : Below w.heap.size w w') : Box3 w0 w' x y z := by
  have l : ∀ {B : Nat} {o : Obj}, w.heap[B]? = some o → w'.heap[B]? = some o := fun hq => (hb.block _ (Array.getElem?_eq_some_iff.1 hq).1).trans hq
  exact ⟨below_then h.bel h.bel.size hb, l h.b0, l h.b1, l h.b2⟩
theorem box3 (w : World) (x y z : CT) : ∃ W, ((w.alloc (.cells (conV x.V) 24)).alloc (.cells (conV y.V) 24)).alloc (.cells (conV z.V) 24) = W ∧ Box3 w W x y z ∧ W.heap.size = w.heap.size + 3 := by
  obtain ⟨w1, e1⟩ : ∃ w1, w.alloc (.cells (conV x.V) 24) = w1 := ⟨_, rfl⟩
  obtain ⟨w2, e2⟩ : ∃ w2, w1.alloc (.cells (conV y.V) 24) = w2 := ⟨_, rfl⟩
  obtain ⟨w3, e3⟩ : ∃ w3, w2.alloc (.cells (conV z.V) 24) = w3 := ⟨_, rfl⟩
  rw [e1, e2, e3]
  have s1 : w1.heap.size = w.heap.size + 1 := by rw [← e1]; simp
  have s2 : w2.heap.size = w.heap.size + 2 := by rw [← e2]; simp; omega
  have s3 : w3.heap.size = w.heap.size + 3 := by rw [← e3]; simp; omega
  have h1 := Go.heap_alloc_new w (.cells (conV x.V) 24)
  have h2 := Go.heap_alloc_new w1 (.cells (conV y.V) 24)
  have h3 := Go.heap_alloc_new w2 (.cells (conV z.V) 24)
  rw [e1] at h1
  rw [e2, s1] at h2
  rw [e3, s2] at h3
  have k1 : Below w.heap.size w w1 := by rw [← e1]; exact below_alloc (Below.refl _ _) _
  have k2 : Below w1.heap.size w1 w2 := by rw [← e2]; exact below_alloc (Below.refl _ _) _
  have k3 : Below w2.heap.size w2 w3 := by rw [← e3]; exact below_alloc (Below.refl _ _) _
  have j2 := below_then k2 k2.size k3
  have j1 := below_then k1 k1.size j2
  exact ⟨w3, rfl, ⟨j1, (j2.block _ (by omega)).trans h1, (k3.block _ (by omega)).trans h2, h3⟩, s3⟩
/-- A contact laid into a new box. -/
theorem lay8 (w : World) (t : CT) : ∃ W, w.alloc (.cells #[.slice (t.A 0) (t.L 0).length (t.c 0), .slice (t.A 1) (t.L 1).length (t.c 1), .slice (t.A 2) (t.L 2).length (t.c 2), .slice (t.A 3) (t.L 3).length (t.c 3), .slice (t.A 4) (t.L 4).length (t.c 4), .slice (t.A 5) (t.L 5).length (t.c 5), .slice (t.A 6) (t.L 6).length (t.c 6), .slice (t.A 7) (t.L 7).length (t.c 7)] 24) = W ∧ W.heap[w.heap.size]? = some (.cells (conV t.V) 24 (0, 0)) ∧ Below w.heap.size w W :=
  ⟨_, rfl, heap_alloc_new w _, below_alloc (Below.refl _ _) _⟩
theorem lay8n (w : World) : (w.alloc (.cells #[.slice none 0 0, .slice none 0 0, .slice none 0 0, .slice none 0 0, .slice none 0 0, .slice none 0 0, .slice none 0 0, .slice none 0 0] 24)).heap[w.heap.size]? = some (.cells (conV nilT.V) 24 (0, 0)) ∧ Below w.heap.size w (w.alloc (.cells #[.slice none 0 0, .slice none 0 0, .slice none 0 0, .slice none 0 0, .slice none 0 0, .slice none 0 0, .slice none 0 0, .slice none 0 0] 24)) :=
  ⟨heap_alloc_new w _, below_alloc (Below.refl _ _) _⟩
end Go.Proofs.Ytbocbaakknkfiaa
