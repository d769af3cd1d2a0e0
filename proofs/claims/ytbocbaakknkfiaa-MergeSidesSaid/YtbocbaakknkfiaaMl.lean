/- merge.Three. -/
import Derived.Test.YtbocbaakknkfiaaMk
import Derived.Test.YtbocbaakknkfiaaMh
import Derived.ScopeJumps
set_option linter.unusedVariables false
set_option linter.unusedSimpArgs false
namespace Go.Proofs.Ytbocbaakknkfiaa
open Go.RowKit Go.Shelf Go.Proofs.YtbocbaakknkfiaaW.PrintWords Go.Proofs.YtbocbaakknkfiaaW.PrintMore Go.Proofs.YtbocbaakknkfiaaW.PrintLast

/-- A scope that is left by jumps forward alone. -/
theorem wp_scope_forward {P : Program} {a : Act} {w : World} {Q : Exit → Act → World → Prop} {c rest : Code} (l : Nat) (hf : findLabel c l = some rest)
    (first : c.wp P (Exit.jump l (fun a' w' => rest.wp P (Exit.jump l (fun _ _ => False) Q) a' w') Q) a w) : (Code.scope c).wp P Q a w :=
  wp_scope_jumps l _ (fun _ _ => 0) hf first (fun a w h => Code.wp_mono (fun e a' w' h' => by cases e <;> first | exact h' | exact h'.2.elim) h)
theorem jump_ret {l : Nat} {J : Act → World → Prop} {Q : Exit → Act → World → Prop} {a : Act} {w : World} : Exit.jump l J Q .ret a w = Q .ret a w := rfl
def nilV : Nat → Value := fun _ => .slice none 0 0
theorem run_loadVar_one {P : Program} {ty : TypeId} {d : TypeDesc} {w : World} {g : Nat} {v : Value} (hu : P.underlying ty = some d) (hd : (match d with | .struct _ | .array _ _ => true | _ => false) = false) (hc : w.cell? ⟨g, 0, none⟩ = some v) :
    (loadVar ty ⟨g, 0, none⟩).run P w = .ok v w := by
  simp [go_sem, loadVar, run_isAgg_plain hu hd, hc]
theorem results_cct {P : Program} {fn : Func} {p p' u : Tmp} {ty ty' : TypeId} (h : fn.results = #[.cell p ty, .cell p' ty', .tmp u]) (tmps : Array Value) (w : World) (g g' : Nat) (t : TypeId) (cs : Array Value) (fr : Nat × Nat) (d d' : TypeDesc) (v : Value)
    (hp : tmps.getD p undef = .pointer (some ⟨g, 0, none⟩)) (hp' : tmps.getD p' undef = .pointer (some ⟨g', 0, none⟩)) (hg : w.heap[g]? = some (.cells cs t fr))
    (hu : P.underlying ty = some d) (hd : (match d with | .struct _ | .array _ _ => true | _ => false) = true) (hi : (P.info? ty).map (·.size) = some cs.size)
    (hu' : P.underlying ty' = some d') (hd' : (match d' with | .struct _ | .array _ _ => true | _ => false) = false) (hc : w.cell? ⟨g', 0, none⟩ = some v) :
    (results fn tmps).run P w = .ok (.tuple #[.agg cs, v, tmps.getD u undef]) w := by
  have h1 : tmps[p]?.getD undef = .pointer (some ⟨g, 0, none⟩) := by simpa using hp
  have h2 : tmps[p']?.getD undef = .pointer (some ⟨g', 0, none⟩) := by simpa using hp'
  simp [results, h, h1, h2, asAddr, run_loadVar_row w g t ty cs fr d hg hu hd hi, run_loadVar_one hu' hd' hc]
/-- Eight cells of a box, all told. -/
theorem set8 {w : World} {g t : Nat} {V : Nat → Value} (h : w.heap[g]? = some (.cells (conV V) t (0, 0))) (V' : Nat → Value) :
    ((((((((w.setCell ⟨g, 0, none⟩ (V' 0)).setCell ⟨g, 1, none⟩ (V' 1)).setCell ⟨g, 2, none⟩ (V' 2)).setCell ⟨g, 3, none⟩ (V' 3)).setCell ⟨g, 4, none⟩ (V' 4)).setCell ⟨g, 5, none⟩ (V' 5)).setCell ⟨g, 6, none⟩ (V' 6)).setCell ⟨g, 7, none⟩ (V' 7)).heap[g]? = some (.cells (conV V') t (0, 0)) := by
  have h1 : (w.setCell ⟨g, 0, none⟩ (V' 0)).heap[g]? = some (.cells #[V' 0, V 1, V 2, V 3, V 4, V 5, V 6, V 7] t (0, 0)) := (heap_setCell_same _ _ 0 _ _ (V' 0) h).trans rfl
  have h2 : ((w.setCell ⟨g, 0, none⟩ (V' 0)).setCell ⟨g, 1, none⟩ (V' 1)).heap[g]? = some (.cells #[V' 0, V' 1, V 2, V 3, V 4, V 5, V 6, V 7] t (0, 0)) := (heap_setCell_same _ _ 1 _ _ (V' 1) h1).trans rfl
  have h3 : (((w.setCell ⟨g, 0, none⟩ (V' 0)).setCell ⟨g, 1, none⟩ (V' 1)).setCell ⟨g, 2, none⟩ (V' 2)).heap[g]? = some (.cells #[V' 0, V' 1, V' 2, V 3, V 4, V 5, V 6, V 7] t (0, 0)) := (heap_setCell_same _ _ 2 _ _ (V' 2) h2).trans rfl
  have h4 : ((((w.setCell ⟨g, 0, none⟩ (V' 0)).setCell ⟨g, 1, none⟩ (V' 1)).setCell ⟨g, 2, none⟩ (V' 2)).setCell ⟨g, 3, none⟩ (V' 3)).heap[g]? = some (.cells #[V' 0, V' 1, V' 2, V' 3, V 4, V 5, V 6, V 7] t (0, 0)) := (heap_setCell_same _ _ 3 _ _ (V' 3) h3).trans rfl
  have h5 : (((((w.setCell ⟨g, 0, none⟩ (V' 0)).setCell ⟨g, 1, none⟩ (V' 1)).setCell ⟨g, 2, none⟩ (V' 2)).setCell ⟨g, 3, none⟩ (V' 3)).setCell ⟨g, 4, none⟩ (V' 4)).heap[g]? = some (.cells #[V' 0, V' 1, V' 2, V' 3, V' 4, V 5, V 6, V 7] t (0, 0)) := (heap_setCell_same _ _ 4 _ _ (V' 4) h4).trans rfl
  have h6 : ((((((w.setCell ⟨g, 0, none⟩ (V' 0)).setCell ⟨g, 1, none⟩ (V' 1)).setCell ⟨g, 2, none⟩ (V' 2)).setCell ⟨g, 3, none⟩ (V' 3)).setCell ⟨g, 4, none⟩ (V' 4)).setCell ⟨g, 5, none⟩ (V' 5)).heap[g]? = some (.cells #[V' 0, V' 1, V' 2, V' 3, V' 4, V' 5, V 6, V 7] t (0, 0)) := (heap_setCell_same _ _ 5 _ _ (V' 5) h5).trans rfl
  have h7 : (((((((w.setCell ⟨g, 0, none⟩ (V' 0)).setCell ⟨g, 1, none⟩ (V' 1)).setCell ⟨g, 2, none⟩ (V' 2)).setCell ⟨g, 3, none⟩ (V' 3)).setCell ⟨g, 4, none⟩ (V' 4)).setCell ⟨g, 5, none⟩ (V' 5)).setCell ⟨g, 6, none⟩ (V' 6)).heap[g]? = some (.cells #[V' 0, V' 1, V' 2, V' 3, V' 4, V' 5, V' 6, V 7] t (0, 0)) := (heap_setCell_same _ _ 6 _ _ (V' 6) h6).trans rfl
  have h8 : ((((((((w.setCell ⟨g, 0, none⟩ (V' 0)).setCell ⟨g, 1, none⟩ (V' 1)).setCell ⟨g, 2, none⟩ (V' 2)).setCell ⟨g, 3, none⟩ (V' 3)).setCell ⟨g, 4, none⟩ (V' 4)).setCell ⟨g, 5, none⟩ (V' 5)).setCell ⟨g, 6, none⟩ (V' 6)).setCell ⟨g, 7, none⟩ (V' 7)).heap[g]? = some (.cells #[V' 0, V' 1, V' 2, V' 3, V' 4, V' 5, V' 6, V' 7] t (0, 0)) := (heap_setCell_same _ _ 7 _ _ (V' 7) h7).trans rfl
  exact h8
theorem mod8 (w : World) (g : Nat) (V : Nat → Value) : Mod (fun q => q = g) w ((((((((w.setCell ⟨g, 0, none⟩ (V 0)).setCell ⟨g, 1, none⟩ (V 1)).setCell ⟨g, 2, none⟩ (V 2)).setCell ⟨g, 3, none⟩ (V 3)).setCell ⟨g, 4, none⟩ (V 4)).setCell ⟨g, 5, none⟩ (V 5)).setCell ⟨g, 6, none⟩ (V 6)).setCell ⟨g, 7, none⟩ (V 7)) :=
  ((((((((Mod.refl (fun q => q = g) w).setCell (p := ⟨g, 0, none⟩) (.inl rfl) (V 0)).setCell (p := ⟨g, 1, none⟩) (.inl rfl) (V 1)).setCell (p := ⟨g, 2, none⟩) (.inl rfl) (V 2)).setCell (p := ⟨g, 3, none⟩) (.inl rfl) (V 3)).setCell (p := ⟨g, 4, none⟩) (.inl rfl) (V 4)).setCell (p := ⟨g, 5, none⟩) (.inl rfl) (V 5)).setCell (p := ⟨g, 6, none⟩) (.inl rfl) (V 6)).setCell (p := ⟨g, 7, none⟩) (.inl rfl) (V 7)
/-- Three contacts laid in boxes, and what is to come of them. -/
structure Laid3 (w w1 : World) (x y z : CT) : Prop where
  bel : Below w.heap.size w w1
  size : w1.heap.size = w.heap.size + 5
  b0 : w1.heap[w.heap.size]? = some (.cells (conV x.V) 24 (0, 0))
  b1 : w1.heap[w.heap.size + 1]? = some (.cells (conV y.V) 24 (0, 0))
  b2 : w1.heap[w.heap.size + 2]? = some (.cells (conV z.V) 24 (0, 0))
  b3 : w1.heap[w.heap.size + 3]? = some (.cells (conV nilV) 24 (0, 0))
  b4 : w1.heap[w.heap.size + 4]? = some (.cells #[.slice none 0 0] 28 (0, 0))
theorem laid3 (w : World) (x y z : CT) : Laid3 w (((((w.alloc (.cells (conV x.V) 24)).alloc (.cells (conV y.V) 24)).alloc (.cells (conV z.V) 24)).alloc (.cells (conV nilV) 24)).alloc (.cells #[.slice none 0 0] 28)) x y z := by
  obtain ⟨w1, e1⟩ : ∃ w1, w.alloc (.cells (conV x.V) 24) = w1 := ⟨_, rfl⟩
  obtain ⟨w2, e2⟩ : ∃ w2, w1.alloc (.cells (conV y.V) 24) = w2 := ⟨_, rfl⟩
  obtain ⟨w3, e3⟩ : ∃ w3, w2.alloc (.cells (conV z.V) 24) = w3 := ⟨_, rfl⟩
  obtain ⟨w4, e4⟩ : ∃ w4, w3.alloc (.cells (conV nilV) 24) = w4 := ⟨_, rfl⟩
  obtain ⟨w5, e5⟩ : ∃ w5, w4.alloc (.cells #[.slice none 0 0] 28) = w5 := ⟨_, rfl⟩
  rw [e1, e2, e3, e4, e5]
  have s1 : w1.heap.size = w.heap.size + 1 := by rw [← e1]; simp
  have s2 : w2.heap.size = w.heap.size + 2 := by rw [← e2]; simp; omega
  have s3 : w3.heap.size = w.heap.size + 3 := by rw [← e3]; simp; omega
  have s4 : w4.heap.size = w.heap.size + 4 := by rw [← e4]; simp; omega
  have s5 : w5.heap.size = w.heap.size + 5 := by rw [← e5]; simp; omega
  have h1 := Go.heap_alloc_new w (.cells (conV x.V) 24)
  have h2 := Go.heap_alloc_new w1 (.cells (conV y.V) 24)
  have h3 := Go.heap_alloc_new w2 (.cells (conV z.V) 24)
  have h4 := Go.heap_alloc_new w3 (.cells (conV nilV) 24)
  have h5 := Go.heap_alloc_new w4 (.cells #[.slice none 0 0] 28)
  have k1 : Below w.heap.size w w1 := by rw [← e1]; exact below_alloc (Below.refl _ _) _
  have k2 : Below w1.heap.size w1 w2 := by rw [← e2]; exact below_alloc (Below.refl _ _) _
  have k3 : Below w2.heap.size w2 w3 := by rw [← e3]; exact below_alloc (Below.refl _ _) _
  have k4 : Below w3.heap.size w3 w4 := by rw [← e4]; exact below_alloc (Below.refl _ _) _
  have k5 : Below w4.heap.size w4 w5 := by rw [← e5]; exact below_alloc (Below.refl _ _) _
  rw [e1] at h1
  rw [e2, s1] at h2
  rw [e3, s2] at h3
  rw [e4, s3] at h4
  rw [e5, s4] at h5
  have j4 := below_then k4 (by omega) k5
  have j3 := below_then k3 (by omega) j4
  have j2 := below_then k2 (by omega) j3
  have j1 := below_then k1 (by omega) j2
  exact ⟨j1, s5, (j2.block _ (by omega)).trans h1, (j3.block _ (by omega)).trans h2, (j4.block _ (by omega)).trans h3, (k5.block _ (by omega)).trans h4, h5⟩
theorem laid3_row (w1 : World) (x y z : CT) : RowOf (w1.alloc (.cells #[x.V 0, x.V 1, x.V 2, x.V 3, x.V 4, x.V 5, x.V 6, x.V 7, y.V 0, y.V 1, y.V 2, y.V 3, y.V 4, y.V 5, y.V 6, y.V 7, z.V 0, z.V 1, z.V 2, z.V 3, z.V 4, z.V 5, z.V 6, z.V 7] 24)) w1.heap.size [x, y, z] := by
  intro k hk i hi
  rw [cell_of_row _ _ _ _ _ _ (Go.heap_alloc_new w1 _)]
  match k, hk with
  | 0, _ => exact (by rw [Nat.zero_mul, Nat.zero_add]; match i, hi with
    | 0, _ => rfl
    | 1, _ => rfl
    | 2, _ => rfl
    | 3, _ => rfl
    | 4, _ => rfl
    | 5, _ => rfl
    | 6, _ => rfl
    | 7, _ => rfl)
  | 1, _ => exact (by match i, hi with
    | 0, _ => rfl
    | 1, _ => rfl
    | 2, _ => rfl
    | 3, _ => rfl
    | 4, _ => rfl
    | 5, _ => rfl
    | 6, _ => rfl
    | 7, _ => rfl)
  | 2, _ => exact (by match i, hi with
    | 0, _ => rfl
    | 1, _ => rfl
    | 2, _ => rfl
    | 3, _ => rfl
    | 4, _ => rfl
    | 5, _ => rfl
    | 6, _ => rfl
    | 7, _ => rfl)
set_option maxRecDepth 20000 in
set_option maxHeartbeats 4000000 in
theorem three_no (x y z : CT) (w : World) (hx : x.In w) (hy : y.In w) (hz : z.In w) (hno : (checkOk x.L && (checkOk y.L && checkOk z.L)) = false) :
    Calls Try.prog 10 #[.agg (conV x.V), .agg (conV y.V), .agg (conV z.V)] w fun e w' => e = .returned (.tuple #[.agg (conV nilV), .slice none 0 0, .int .i64 2]) ∧ Below w.heap.size w w' := by
  obtain ⟨w1, hw1⟩ : ∃ w1, (((((w.alloc (.cells (conV x.V) 24)).alloc (.cells (conV y.V) 24)).alloc (.cells (conV z.V) 24)).alloc (.cells #[.slice none 0 0, .slice none 0 0, .slice none 0 0, .slice none 0 0, .slice none 0 0, .slice none 0 0, .slice none 0 0, .slice none 0 0] 24)).alloc (.cells #[.slice none 0 0] 28)) = w1 := ⟨_, rfl⟩
  have hl : Laid3 w w1 x y z := by rw [← hw1]; exact laid3 w x y z
  have hb2 := below_alloc (Below.refl w1.heap.size w1) (.cells #[x.V 0, x.V 1, x.V 2, x.V 3, x.V 4, x.V 5, x.V 6, x.V 7, y.V 0, y.V 1, y.V 2, y.V 3, y.V 4, y.V 5, y.V 6, y.V 7, z.V 0, z.V 1, z.V 2, z.V 3, z.V 4, z.V 5, z.V 6, z.V 7] 24)
  have hb3 := below_then hl.bel hl.bel.size hb2
  have hr := right_calls w1.heap.size 3 [x, y, z] _ (by simp) (laid3_row w1 x y z) (fun t ht => by
    simp only [List.mem_cons, List.not_mem_nil, or_false] at ht
    rcases ht with rfl | rfl | rfl
    · exact hx.below hb3
    · exact hy.below hb3
    · exact hz.below hb3)
  have ha : ([x, y, z] : List CT).all (fun x => checkOk x.L) = false := by simpa using hno
  rw [ha] at hr
  have hs := hl.size
  have p0 := fun i hi => con_cell hl.b0 i hi
  have p1 := fun i hi => con_cell hl.b1 i hi
  have p2 := fun i hi => con_cell hl.b2 i hi
  have u0 := p0 0 (by omega)
  have u1 := p0 1 (by omega)
  have u2 := p0 2 (by omega)
  have u3 := p0 3 (by omega)
  have u4 := p0 4 (by omega)
  have u5 := p0 5 (by omega)
  have u6 := p0 6 (by omega)
  have u7 := p0 7 (by omega)
  have v0 := p1 0 (by omega)
  have v1 := p1 1 (by omega)
  have v2 := p1 2 (by omega)
  have v3 := p1 3 (by omega)
  have v4 := p1 4 (by omega)
  have v5 := p1 5 (by omega)
  have v6 := p1 6 (by omega)
  have v7 := p1 7 (by omega)
  have t0 := p2 0 (by omega)
  have t1 := p2 1 (by omega)
  have t2 := p2 2 (by omega)
  have t3 := p2 3 (by omega)
  have t4 := p2 4 (by omega)
  have t5 := p2 5 (by omega)
  have t6 := p2 6 (by omega)
  have t7 := p2 7 (by omega)
  generalize x.V = X at *
  generalize y.V = Y at *
  generalize z.V = Z at *
  replace hl := Aside0.mk hl
  replace hr := Aside0.mk hr
  replace hb3 := Aside0.mk hb3
  replace hb2 := Aside0.mk hb2
  clear p0 p1 p2 ha hno hx hy hz
  go_enter Try.func10, Try.ntmps10
  go_wp2_with fail
  refine wp_scope_forward 0 rfl ?_
  go_wp2_with fail
  have hr := hr.out
  rw [hs] at hr
  refine hr.mono ?_
  rintro e w2 ⟨rfl, hb4⟩
  have hb5 := below_then hb2.out hb2.out.size hb4
  have h3 := (hb5.block _ (show w.heap.size + 3 < w1.heap.size by omega)).trans hl.out.b3
  have h4 := (hb5.block _ (show w.heap.size + 4 < w1.heap.size by omega)).trans hl.out.b4
  have m0 := con_cell h3 0 (by omega)
  have m1 := con_cell h3 1 (by omega)
  have m2 := con_cell h3 2 (by omega)
  have m3 := con_cell h3 3 (by omega)
  have m4 := con_cell h3 4 (by omega)
  have m5 := con_cell h3 5 (by omega)
  have m6 := con_cell h3 6 (by omega)
  have m7 := con_cell h3 7 (by omega)
  have mf : ∀ i, w2.frozen? ⟨w.heap.size + 3, i, none⟩ = false := fun i => frozen_of_row _ _ _ _ _ h3
  have n0 : w2.cell? ⟨w.heap.size + 4, 0, none⟩ = some (.slice none 0 0) := (cell_of_row _ _ _ _ _ _ h4).trans rfl
  have nf : w2.frozen? ⟨w.heap.size + 4, 0, none⟩ = false := frozen_of_row _ _ _ _ _ h4
  have hb6 := Aside0.mk (below_then hl.out.bel hl.out.bel.size hb5)
  replace h3 := Aside0.mk h3
  replace h4 := Aside0.mk h4
  clear u0 u1 u2 u3 u4 u5 u6 u7 v0 v1 v2 v3 v4 v5 v6 v7 t0 t1 t2 t3 t4 t5 t6 t7 hr hb3 hb4 hb5
  go_wp2_with fail
  go_step3
  refine ⟨rfl, ?_⟩
  go_wp2
  have r3 := set8 h3.out nilV
  have hm := mod8 w2 (w.heap.size + 3) nilV
  obtain ⟨w3, hw3⟩ : ∃ w3, ((((((((w2.setCell ⟨w.heap.size + 3, 0, none⟩ (nilV 0)).setCell ⟨w.heap.size + 3, 1, none⟩ (nilV 1)).setCell ⟨w.heap.size + 3, 2, none⟩ (nilV 2)).setCell ⟨w.heap.size + 3, 3, none⟩ (nilV 3)).setCell ⟨w.heap.size + 3, 4, none⟩ (nilV 4)).setCell ⟨w.heap.size + 3, 5, none⟩ (nilV 5)).setCell ⟨w.heap.size + 3, 6, none⟩ (nilV 6)).setCell ⟨w.heap.size + 3, 7, none⟩ (nilV 7)) = w3 := ⟨_, rfl⟩
  rw [hw3] at r3 hm
  have r4 := hm.blk h4.out (by omega)
  have hm4 : Mod (fun q => q = w.heap.size + 4) w3 (w3.setCell ⟨w.heap.size + 4, 0, none⟩ (.slice none 0 0)) := Mod.setCell (S := fun q => q = w.heap.size + 4) (p := ⟨w.heap.size + 4, 0, none⟩) (Mod.refl _ _) (.inl rfl) _
  have r5 := hm4.blk r3 (by omega)
  have r6 := heap_setCell_same _ _ 0 _ _ (.slice none 0 0) r4
  have hbe : Below w.heap.size w (w3.setCell ⟨w.heap.size + 4, 0, none⟩ (.slice none 0 0)) := (hb6.out.trans (hm.below (fun q hq => by omega) (by have := hb6.out.size; omega))).trans (hm4.below (fun q hq => by omega) (by have := hb6.out.size; have := hm.size; omega))
  subst hw3
  rw [jump_ret]
  exact bodyPost_ret (results_cct rfl _ _ (w.heap.size + 3) (w.heap.size + 4) 24 (conV nilV) (0, 0) _ _ (.slice none 0 0) rfl rfl r5 Try.underlying24 rfl (by kernel_rfl) Try.underlying28 rfl ((cell_of_row _ _ _ _ _ _ r6).trans rfl)) rfl ⟨rfl, hbe⟩
end Go.Proofs.Ytbocbaakknkfiaa
