/- The reference: Sync. -/
import Derived.Test.YtolighikimpbfaaRn
set_option linter.unusedVariables false
set_option linter.unusedSimpArgs false
namespace Go.Proofs.Ytolighikimpbfaa
open Go.RowKit Go.Shelf Go.Proofs.YtolighikimpbfaaW.PrintWords Go.Proofs.YtolighikimpbfaaW.PrintMore

/-- Five cells of a block. -/
theorem blk5 {w : World} {g t : Nat} {a b c d e : Value} (h : w.heap[g]? = some (.cells #[a, b, c, d, e] t (0, 0))) :
    w.cell? ⟨g, 0, none⟩ = some a ∧ w.cell? ⟨g, 1, none⟩ = some b ∧ w.cell? ⟨g, 2, none⟩ = some c ∧ w.cell? ⟨g, 3, none⟩ = some d ∧ w.cell? ⟨g, 4, none⟩ = some e ∧ ∀ j, w.frozen? ⟨g, j, none⟩ = false :=
  ⟨(cell_of_row _ _ _ _ _ _ h).trans rfl, (cell_of_row _ _ _ _ _ _ h).trans rfl, (cell_of_row _ _ _ _ _ _ h).trans rfl, (cell_of_row _ _ _ _ _ _ h).trans rfl, (cell_of_row _ _ _ _ _ _ h).trans rfl, fun j => frozen_of_row _ _ _ _ _ h⟩
theorem set5 {w : World} {g t : Nat} {a b c d e : Value} (h : w.heap[g]? = some (.cells #[a, b, c, d, e] t (0, 0))) (a' b' c' d' e' : Value) :
    (((((w.setCell ⟨g, 0, none⟩ a').setCell ⟨g, 1, none⟩ b').setCell ⟨g, 2, none⟩ c').setCell ⟨g, 3, none⟩ d').setCell ⟨g, 4, none⟩ e').heap[g]? = some (.cells #[a', b', c', d', e'] t (0, 0)) := by
  have h1 := heap_setCell_same _ _ 0 _ _ a' h
  have h2 := heap_setCell_same _ _ 1 _ _ b' h1
  have h3 := heap_setCell_same _ _ 2 _ _ c' h2
  have h4 := heap_setCell_same _ _ 3 _ _ d' h3
  have h5 := heap_setCell_same _ _ 4 _ _ e' h4
  exact h5.trans rfl
theorem mod5 (w : World) (g : Nat) (a b c d e : Value) : Mod (fun q => q = g) w (((((w.setCell ⟨g, 0, none⟩ a).setCell ⟨g, 1, none⟩ b).setCell ⟨g, 2, none⟩ c).setCell ⟨g, 3, none⟩ d).setCell ⟨g, 4, none⟩ e) :=
  (((((Mod.refl (fun q => q = g) w).setCell (p := ⟨g, 0, none⟩) (.inl rfl) a).setCell (p := ⟨g, 1, none⟩) (.inl rfl) b).setCell (p := ⟨g, 2, none⟩) (.inl rfl) c).setCell (p := ⟨g, 3, none⟩) (.inl rfl) d).setCell (p := ⟨g, 4, none⟩) (.inl rfl) e
theorem below5 {w0 w : World} {B g : Nat} (h : Below B w0 w) (hg : B ≤ g) (a b c d e : Value) :
    Below B w0 (((((w.setCell ⟨g, 0, none⟩ a).setCell ⟨g, 1, none⟩ b).setCell ⟨g, 2, none⟩ c).setCell ⟨g, 3, none⟩ d).setCell ⟨g, 4, none⟩ e) :=
  ((((h.setCell (show B ≤ (⟨g, 0, none⟩ : Addr).block from hg) a).setCell (show B ≤ (⟨g, 1, none⟩ : Addr).block from hg) b).setCell (show B ≤ (⟨g, 2, none⟩ : Addr).block from hg) c).setCell (show B ≤ (⟨g, 3, none⟩ : Addr).block from hg) d).setCell (show B ≤ (⟨g, 4, none⟩ : Addr).block from hg) e
set_option maxHeartbeats 1000000 in
theorem rsync_no (O : Nat → Prop) (v : Value) (ds : DS) (w : World) (h : Ref w O v ds) (h0 : ds.armed = 0) :
    Calls Try.prog 37 #[v] w fun e w' => e = .returned (.tuple #[v, .int .i64 111]) ∧ Below w.heap.size w w' := by
  have hr := h
  obtain ⟨A, c, A2, c2, rfl, h1, h2, h3, h4⟩ := h
  have hb := below_alloc (below_alloc (Below.refl w.heap.size w) (.cells #[.slice A ds.lasts.length c, .slice A2 ds.waits.length c2, .int .i64 ds.armed, .int .i64 ds.limit, .int .i64 ds.done] 45)) (.cells #[.slice none 0 0, .slice none 0 0, .int .i64 0, .int .i64 0, .int .i64 0] 45)
  have hs := Aside0.mk (rstep_no O _ ds _ (hr.below hb) h0)
  have H1 := Mod.blk (S := fun _ => False) ((Mod.refl _ _).alloc (.cells #[.slice none 0 0, .slice none 0 0, .int .i64 0, .int .i64 0, .int .i64 0] 45)) (Go.heap_alloc_new w (.cells #[.slice A ds.lasts.length c, .slice A2 ds.waits.length c2, .int .i64 ds.armed, .int .i64 ds.limit, .int .i64 ds.done] 45)) (fun h => h)
  have H2 := last_new w (.cells #[.slice A ds.lasts.length c, .slice A2 ds.waits.length c2, .int .i64 ds.armed, .int .i64 ds.limit, .int .i64 ds.done] 45) (.cells #[.slice none 0 0, .slice none 0 0, .int .i64 0, .int .i64 0, .int .i64 0] 45)
  have hz1 : ((w.alloc (.cells #[.slice A ds.lasts.length c, .slice A2 ds.waits.length c2, .int .i64 ds.armed, .int .i64 ds.limit, .int .i64 ds.done] 45)).alloc (.cells #[.slice none 0 0, .slice none 0 0, .int .i64 0, .int .i64 0, .int .i64 0] 45)).heap.size = w.heap.size + 2 := by simp
  have hb := Aside0.mk hb
  replace H1 := Aside0.mk H1
  replace H2 := Aside0.mk H2
  replace h0 := Aside0.mk h0
  clear h3 h4 hr
  generalize ds.lasts.length = n1 at *
  generalize ds.waits.length = n2 at *
  go_enter Try.func37, Try.ntmps37
  go_wp2_with fail
  refine hs.out.mono ?_
  rintro e w2 ⟨rfl, hb2⟩
  obtain ⟨w1, hw1⟩ : ∃ w1, (w.alloc (.cells #[.slice A n1 c, .slice A2 n2 c2, .int .i64 ds.armed, .int .i64 ds.limit, .int .i64 ds.done] 45)).alloc (.cells #[.slice none 0 0, .slice none 0 0, .int .i64 0, .int .i64 0, .int .i64 0] 45) = w1 := ⟨_, rfl⟩
  rw [hw1] at hb2 hb H1 H2 hz1
  have G1 := (hb2.block w.heap.size (by omega)).trans H1.out
  have G2 := (hb2.block (w.heap.size + 1) (by omega)).trans H2.out
  have hz2 := hb2.size
  have G3 := Go.heap_alloc_new w2 (.cells #[.slice A n1 c, .slice A2 n2 c2, .int .i64 ds.armed, .int .i64 ds.limit, .int .i64 ds.done] 45)
  have hb3 := below_alloc (Below.refl w2.heap.size w2) (.cells #[.slice A n1 c, .slice A2 n2 c2, .int .i64 ds.armed, .int .i64 ds.limit, .int .i64 ds.done] 45)
  obtain ⟨w3, hw3⟩ : ∃ w3, w2.alloc (.cells #[.slice A n1 c, .slice A2 n2 c2, .int .i64 ds.armed, .int .i64 ds.limit, .int .i64 ds.done] 45) = w3 := ⟨_, rfl⟩
  rw [hw3] at G3 hb3
  replace G1 := (hb3.block w.heap.size (by omega)).trans G1
  replace G2 := (hb3.block (w.heap.size + 1) (by omega)).trans G2
  obtain ⟨a0, a1, a2, a3, a4, a5⟩ := blk5 G1
  obtain ⟨e0, e1, e2, e3, e4, e5⟩ := blk5 G2
  have hz3 := hb3.size
  have hb3 := Aside0.mk (below_then hb.out hb.out.size (below_then hb2 hb2.size hb3))
  have G2 := Aside0.mk G2
  clear G1 G3 hs
  go_wp2_with fail
  exact bodyPost_ret (results_ct rfl _ _ (w.heap.size + 1) 45 _ (0, 0) _ rfl (set5 G2.out _ _ _ _ _) Try.underlying45 rfl size45) rfl ⟨rfl, below5 hb3.out (by omega) _ _ _ _ _⟩
set_option maxHeartbeats 2000000 in
theorem rsync_yes (O : Nat → Prop) (v : Value) (ds : DS) (w : World) (h : Ref w O v ds) (hf : Fine ds) (hd : Std ds) (h0 : ds.armed ≠ 0) :
    Calls Try.prog 37 #[v] w fun e w' => ∃ u, e = .returned (.tuple #[u, .int .i64 0]) ∧ Ref w' (fun q => O q ∨ w.heap.size ≤ q) u ds.synced ∧ Below w.heap.size w w' := by
  have hr := h
  obtain ⟨A, c, A2, c2, rfl, h1, h2, h3, h4⟩ := h
  have hb := below_alloc (below_alloc (Below.refl w.heap.size w) (.cells #[.slice A ds.lasts.length c, .slice A2 ds.waits.length c2, .int .i64 ds.armed, .int .i64 ds.limit, .int .i64 ds.done] 45)) (.cells #[.slice none 0 0, .slice none 0 0, .int .i64 0, .int .i64 0, .int .i64 0] 45)
  have hs := Aside0.mk (rstep_yes O _ ds _ (hr.below hb) hf h0)
  have H1 := Mod.blk (S := fun _ => False) ((Mod.refl _ _).alloc (.cells #[.slice none 0 0, .slice none 0 0, .int .i64 0, .int .i64 0, .int .i64 0] 45)) (Go.heap_alloc_new w (.cells #[.slice A ds.lasts.length c, .slice A2 ds.waits.length c2, .int .i64 ds.armed, .int .i64 ds.limit, .int .i64 ds.done] 45)) (fun h => h)
  have H2 := last_new w (.cells #[.slice A ds.lasts.length c, .slice A2 ds.waits.length c2, .int .i64 ds.armed, .int .i64 ds.limit, .int .i64 ds.done] 45) (.cells #[.slice none 0 0, .slice none 0 0, .int .i64 0, .int .i64 0, .int .i64 0] 45)
  have hz1 : ((w.alloc (.cells #[.slice A ds.lasts.length c, .slice A2 ds.waits.length c2, .int .i64 ds.armed, .int .i64 ds.limit, .int .i64 ds.done] 45)).alloc (.cells #[.slice none 0 0, .slice none 0 0, .int .i64 0, .int .i64 0, .int .i64 0] 45)).heap.size = w.heap.size + 2 := by simp
  replace hb := Aside0.mk hb
  replace H1 := Aside0.mk H1
  replace H2 := Aside0.mk H2
  replace hr := Aside0.mk hr
  replace hf := Aside0.mk hf
  replace hd := Aside0.mk hd
  clear h3 h4 h0
  go_enter Try.func37, Try.ntmps37
  go_wp2_with fail
  refine hs.out.mono ?_
  rintro e w2 ⟨u, rfl, hu, hb2⟩
  obtain ⟨A5, c5, A6, c6, rfl, k1, k2, k3, k4⟩ := hu
  obtain ⟨w1, hw1⟩ : ∃ w1, (w.alloc (.cells #[.slice A ds.lasts.length c, .slice A2 ds.waits.length c2, .int .i64 ds.armed, .int .i64 ds.limit, .int .i64 ds.done] 45)).alloc (.cells #[.slice none 0 0, .slice none 0 0, .int .i64 0, .int .i64 0, .int .i64 0] 45) = w1 := ⟨_, rfl⟩
  rw [hw1] at hb2 hb H1 H2 hz1
  have hz2 := hb2.size
  have G1 := (hb2.block w.heap.size (by omega)).trans H1.out
  have G2 := (hb2.block (w.heap.size + 1) (by omega)).trans H2.out
  have G3 := Go.heap_alloc_new w2 (.cells #[.slice A5 ds.stepped.lasts.length c5, .slice A6 ds.stepped.waits.length c6, .int .i64 ds.stepped.armed, .int .i64 ds.stepped.limit, .int .i64 ds.stepped.done] 45)
  have hb3 := below_alloc (Below.refl w2.heap.size w2) (.cells #[.slice A5 ds.stepped.lasts.length c5, .slice A6 ds.stepped.waits.length c6, .int .i64 ds.stepped.armed, .int .i64 ds.stepped.limit, .int .i64 ds.stepped.done] 45)
  obtain ⟨w3, hw3⟩ : ∃ w3, w2.alloc (.cells #[.slice A5 ds.stepped.lasts.length c5, .slice A6 ds.stepped.waits.length c6, .int .i64 ds.stepped.armed, .int .i64 ds.stepped.limit, .int .i64 ds.stepped.done] 45) = w3 := ⟨_, rfl⟩
  rw [hw3] at G3 hb3
  replace G1 := (hb3.block w.heap.size (by omega)).trans G1
  replace G2 := (hb3.block (w.heap.size + 1) (by omega)).trans G2
  obtain ⟨a0, a1, a2, a3, a4, a5⟩ := blk5 G1
  have hz3 := hb3.size
  have hl3 := (Array.getElem?_eq_some_iff.1 G3).1
  have hb3 := Aside0.mk (below_then hb.out hb.out.size (below_then hb2 hb2.size hb3))
  obtain ⟨B3, hB3⟩ : ∃ B3, w2.heap.size = B3 := ⟨_, rfl⟩
  rw [hB3] at G3 hz2 hz3 hl3
  have hnow := Aside0.mk (now_calls O _ ds w3 (hr.out.below hb3.out) hf.out hd.out)
  replace G2 := Aside0.mk G2
  replace G3 := Aside0.mk G3
  clear G1 hs k1 k2 k3 k4 hb2 hw1
  go_wp2_with fail
  refine hnow.out.mono ?_
  rintro e w4 ⟨x, rfl, hx, hb4⟩
  obtain ⟨A7, c7, rfl⟩ := Kd.R_slice hx
  rw [toI_length] at hx ⊢
  have hz4 := hb4.size
  have K2 := (hb4.block (w.heap.size + 1) (by omega)).trans G2.out
  have K3 := (hb4.block B3 hl3).trans G3.out
  obtain ⟨x0, x1, x2, x3, x4, x5⟩ := blk5 K3
  have K3b := (heap_setCell_same _ _ 1 _ _ (.slice none 0 0) (heap_setCell_same _ _ 0 _ _ (.slice A7 ds.now.length c7) K3)).trans (show _ = some (Obj.cells #[.slice A7 ds.now.length c7, .slice none 0 0, .int .i64 ds.stepped.armed, .int .i64 ds.stepped.limit, .int .i64 ds.stepped.done] 45 (0, 0)) from rfl)
  have x6 : (w4.setCell ⟨B3, 0, none⟩ (.slice A7 ds.now.length c7)).cell? ⟨B3, 1, none⟩ = some (.slice A6 ds.stepped.waits.length c6) := (cell_of_row _ _ _ _ _ _ (heap_setCell_same _ _ 0 _ _ (.slice A7 ds.now.length c7) K3)).trans rfl
  have x7 : (w4.setCell ⟨B3, 0, none⟩ (.slice A7 ds.now.length c7)).frozen? ⟨B3, 1, none⟩ = false := frozen_of_row _ _ _ _ _ (heap_setCell_same _ _ 0 _ _ (.slice A7 ds.now.length c7) K3)
  have hm5 : Mod (fun q => q = B3) w4 ((w4.setCell ⟨B3, 0, none⟩ (.slice A7 ds.now.length c7)).setCell ⟨B3, 1, none⟩ (.slice none 0 0)) := ((Mod.refl (fun q => q = B3) w4).setCell (p := ⟨B3, 0, none⟩) (.inl rfl) _).setCell (p := ⟨B3, 1, none⟩) (.inl rfl) _
  obtain ⟨w5, hw5⟩ : ∃ w5, (w4.setCell ⟨B3, 0, none⟩ (.slice A7 ds.now.length c7)).setCell ⟨B3, 1, none⟩ (.slice none 0 0) = w5 := ⟨_, rfl⟩
  rw [hw5] at K3b hm5
  have K2b := hm5.blk K2 (by omega)
  obtain ⟨y0, y1, y2, y3, y4, y5⟩ := blk5 K3b
  obtain ⟨z0, z1, z2, z3, z4, z5⟩ := blk5 K2b
  have K2b := Aside0.mk K2b
  have hx := Aside0.mk (R_mod hx hm5 (fun q hq => by omega))
  have hb5 := Aside0.mk ((below_then hb3.out hb3.out.size hb4).trans (hm5.below (B := w.heap.size) (fun q hq => by omega) (by omega)))
  clear K2 K3 K3b hm5 hnow hb4 a0 a1 a2 a3 a4 a5
  go_wp2_with fail
  refine bodyPost_ret (results_ct rfl _ _ (w.heap.size + 1) 45 #[.slice A7 ds.now.length c7, .slice none 0 0, .int .i64 ds.stepped.armed, .int .i64 ds.stepped.limit, .int .i64 ds.stepped.done] (0, 0) _ rfl (set5 K2b.out _ _ _ _ _) Try.underlying45 rfl size45) rfl ⟨_, rfl, ⟨A7, c7, none, 0, rfl, ?_, Nat.le_refl _, ?_, Kd.F_nil _ _ _⟩, below5 hb5.out (by omega) _ _ _ _ _⟩
  · exact (Kd.R_reads' hx.out).2.1
  · exact Kd.F_mono (Kd.R_F (R_mod hx.out (mod5 w5 (w.heap.size + 1) _ _ _ _ _) (fun q hq => by omega))) (fun q hq => .inr (by omega))
end Go.Proofs.Ytolighikimpbfaa
