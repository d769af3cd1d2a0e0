/- ber.copied. -/
import Derived.Test.YtlmelbnmfhpacaaGa
set_option linter.unusedVariables false
set_option linter.unusedSimpArgs false
namespace Go.Proofs.Ytlmelbnmfhpacaa
open Go.RowKit Go.Shelf Go.Proofs.YtlmelbnmfhpacaaW.PrintWords Go.Proofs.YtlmelbnmfhpacaaW.PrintMore Go.Proofs.YtlmelbnmfhpacaaW.PrintLast

/-- What is in the cloned row so far: the first k are copies. -/
def Half (w wr : World) (g : Nat) (xs : List T) (css : List (List Value)) (k : Nat) : Prop :=
  xs.length = css.length ∧ ∀ (j : Nat) (x : T) (cs : List Value), xs[j]? = some x → css[j]? = some cs → Kd.FK kT wr (fun q => (j < k ∧ w.heap.size + 2 ≤ q ∧ q ≠ g) ∨ (k ≤ j ∧ q < w.heap.size)) x cs
set_option maxHeartbeats 4000000 in
theorem copied_calls (x : T) : ∀ (A : Option Addr) (c : Nat) (B : Option Addr) (d : Nat) (w : World), Bv w x A c B d → wT x ≤ 1000000 → Calls Try.prog 33 #[bv x A c B d] w (Gives x w) := by
  refine treeInd (P := fun x => ∀ (A : Option Addr) (c : Nat) (B : Option Addr) (d : Nat) (w : World), Bv w x A c B d → wT x ≤ 1000000 → Calls Try.prog 33 #[bv x A c B d] w (Gives x w)) (fun x0 x1 x2 xb xs ih => ?_) x
  intro A c B d w hv hw
  have hwb : xb.length ≤ 1000000 := by simp only [wT] at hw; omega
  have hwl : wL xs ≤ 1000000 := by simp only [wT] at hw; omega
  have hwn := wL_length xs
  have hA1 := box_new w (.int .u8 x0) (.int .u8 x1) (.bool x2) (.slice A xb.length c) (.slice B xs.length d)
  have hb1 := below_alloc (Below.refl w.heap.size w) (.cells #[.int .u8 x0, .int .u8 x1, .bool x2, .slice A xb.length c, .slice B xs.length d] 26)
  obtain ⟨w1, hw1⟩ : ∃ w1, w.alloc (.cells #[.int .u8 x0, .int .u8 x1, .bool x2, .slice A xb.length c, .slice B xs.length d] 26) = w1 := ⟨_, rfl⟩
  have hz1 := Aside0.mk (show w1.heap.size = w.heap.size + 1 from by rw [← hw1]; simp)
  rw [hw1] at hA1 hb1
  have hA2 := box_new w1 (.int .u8 0) (.int .u8 0) (.bool false) (.slice none 0 0) (.slice none 0 0)
  have hb2 := below_alloc (Below.refl w1.heap.size w1) (.cells #[.int .u8 0, .int .u8 0, .bool false, .slice none 0 0, .slice none 0 0] 26)
  obtain ⟨w2, hw2⟩ : ∃ w2, w1.alloc (.cells #[.int .u8 0, .int .u8 0, .bool false, .slice none 0 0, .slice none 0 0] 26) = w2 := ⟨_, rfl⟩
  have hz2 := Aside0.mk (show w2.heap.size = w.heap.size + 2 from by rw [← hw2]; simp; have := hz1.out; omega)
  rw [hw2] at hA2 hb2
  have hA12 := hA1.below hb2
  have hb12 := below_then hb1 hb1.size hb2
  have hv2 := hv.below hb12
  obtain ⟨css, hraw, htold⟩ := raw_of_C hv.ci
  have htold2 := htold.below hb12
  have hraw2 := Kd.C_below hraw hb12
  have hn1 := Aside0.mk (rfl : w.heap.size = w.heap.size)
  have hcb := Aside0.mk (fun W' (hb : Below w.heap.size w W') => cloneb_calls A c xb W' (Kd.C_below hv.cb hb) hwb)
  have hcl : css.length = xs.length := htold.1.symm
  have hci := Aside0.mk (fun W' (hb : Below w.heap.size w W') => by have h := clonei_calls B d css W' (by rw [hcl]; exact Kd.C_below hraw hb) (by rw [hcl]; omega); rw [hcl] at h; exact h)
  obtain ⟨p0, p1, p2, p3, p4⟩ := hA12.cells
  obtain ⟨f0, f1, f2, f3, f4⟩ := hA12.free
  replace hb12 := Aside0.mk hb12
  replace hA12 := Aside0.mk hA12
  replace hA2 := Aside0.mk hA2
  replace htold2 := Aside0.mk htold2
  replace ih := Aside0.mk ih
  clear hv hv2 hb1 hA1 hb2 hraw hraw2 htold hn1 hw
  unfold bv
  dsimp only
  go_enter Try.func33, Try.ntmps33
  go_wp2_with fail
  refine start_ (n := 10) (S := fun w' => w'.cell? ⟨w.heap.size, 3, none⟩ = some (.slice A xb.length c) ∧ w'.cell? ⟨w.heap.size, 4, none⟩ = some (.slice B xs.length d)) (ds := [7, 9]) #[false, false, false, false, false, false, false, false, false, false] (by kernel_rfl) rfl rfl ⟨p3, p4⟩ (fun hHeld => ?_)
  refine pure_ (i := 0) (N := some 4) (v := ?_) (a' := ?_) #[true, false, false, false, false, false, false, false, false, false] rfl rfl (by kernel_rfl) (fun _ _ _ h => h) (Or.inl ⟨by rfl, ?_⟩) ?_ ?_
  rotate_left
  · intro w'
    go_simp
    with_reducible rfl
  rotate_left
  · simp only [Act.put, List.setIfInBounds_toArray, List.set_cons_zero, List.set_cons_succ, i64_w, i32_w]
    rfl
  refine pure_ (i := 3) (N := some 7) (v := ?_) (a' := ?_) #[true, false, false, true, false, false, false, false, false, false] rfl rfl (by kernel_rfl) (fun _ _ _ h => h) (Or.inl ⟨by rfl, ?_⟩) ?_ ?_
  rotate_left
  · intro w'
    go_simp
    with_reducible rfl
  rotate_left
  · simp only [Act.put, List.setIfInBounds_toArray, List.set_cons_zero, List.set_cons_succ, i64_w, i32_w]
    rfl
  refine take_ (i := 1) (N := some 5) (v := ?_) (a' := ?_) #[true, true, false, true, false, false, false, false, false, false] rfl rfl (by kernel_rfl) (fun _ _ _ h => h) (Or.inl ⟨by rfl, ?_⟩) hHeld ?_ ?_
  rotate_left
  · rintro w' ⟨s0, s1⟩
    go_simp
    with_reducible rfl
  rotate_left
  · simp only [Act.put, List.setIfInBounds_toArray, List.set_cons_zero, List.set_cons_succ, i64_w, i32_w]
    rfl
  refine take_ (i := 4) (N := some 8) (v := ?_) (a' := ?_) #[true, true, false, true, true, false, false, false, false, false] rfl rfl (by kernel_rfl) (fun _ _ _ h => h) (Or.inl ⟨by rfl, ?_⟩) hHeld ?_ ?_
  rotate_left
  · rintro w' ⟨s0, s1⟩
    go_simp
    with_reducible rfl
  rotate_left
  · simp only [Act.put, List.setIfInBounds_toArray, List.set_cons_zero, List.set_cons_succ, i64_w, i32_w]
    rfl
  refine one_ (i := 2) (N := some 6) #[true, true, true, true, true, false, false, false, false, false] rfl rfl (by kernel_rfl) (by decide) (fun K hK => ?_)
  refine goes_ Try.func47 (by kernel_rfl) rfl #[.slice A xb.length c] (by rfl) rfl rfl (by simp only [List.map_toArray, List.map_cons, List.map_nil]; rfl) ?_
  with_reducible refine ((hcb.out w2.drew (below_drew hb12.out))).mono ?_
  rintro e w4 ⟨A4, c4, rfl, hR4, hb4⟩
  refine ⟨_, rfl, ?_⟩
  have hb4' := Aside0.mk (below_then (below_drew hb12.out) hb12.out.size hb4)
  have hb4 := Aside0.mk hb4
  have p3 := pw_cell_below hb4.out p3
  have p4 := pw_cell_below hb4.out p4
  refine hK.out _ _ ⟨(And.intro p3 p4).1, (And.intro p3 p4).2⟩ (fun hHeld => ?_)
  clear hK K
  refine norm_ (a' := ?_) ?_ ?_
  rotate_left
  · show Act.put _ (some 6) _ = _
    simp only [Act.put, List.setIfInBounds_toArray, List.set_cons_zero, List.set_cons_succ, i64_w, i32_w]
    rfl
  refine pure_ (i := 6) (N := some 10) (v := ?_) (a' := ?_) #[true, true, true, true, true, false, true, false, false, false] rfl rfl (by kernel_rfl) (fun _ _ _ h => h) (Or.inl ⟨by rfl, ?_⟩) ?_ ?_
  rotate_left
  · intro w'
    go_simp
    with_reducible rfl
  rotate_left
  · simp only [Act.put, List.setIfInBounds_toArray, List.set_cons_zero, List.set_cons_succ, i64_w, i32_w]
    rfl
  refine one_ (i := 5) (N := some 9) #[true, true, true, true, true, true, true, false, false, false] rfl rfl (by kernel_rfl) (by decide) (fun K hK => ?_)
  refine goes_ Try.func48 (by kernel_rfl) rfl #[.slice B xs.length d] (by rfl) rfl rfl (by simp only [List.map_toArray, List.map_cons, List.map_nil]; rfl) ?_
  with_reducible refine ((hci.out w4 hb4'.out)).mono ?_
  rintro e w5 ⟨A5, c5, rfl, hR5, hb5⟩
  refine ⟨_, rfl, ?_⟩
  have hb5' := Aside0.mk (below_then hb4'.out hb4'.out.size hb5)
  have hb5 := Aside0.mk hb5
  have p3 := pw_cell_below hb5.out p3
  have p4 := pw_cell_below hb5.out p4
  have f3 : w5.frozen? ⟨w.heap.size, 3, none⟩ = false := (hb5.out.frozen (p := ⟨w.heap.size, 3, none⟩) (by have := hb4'.out.size; have := hz2.out; have := hb4.out.size; simp at *; omega)).trans ((hb4.out.frozen (p := ⟨w.heap.size, 3, none⟩) (by have := hz2.out; simp; omega)).trans f3)
  have f4 : w5.frozen? ⟨w.heap.size, 4, none⟩ = false := (hb5.out.frozen (p := ⟨w.heap.size, 4, none⟩) (by have := hb4'.out.size; have := hz2.out; have := hb4.out.size; simp at *; omega)).trans ((hb4.out.frozen (p := ⟨w.heap.size, 4, none⟩) (by have := hz2.out; simp; omega)).trans f4)
  refine hK.out _ _ ⟨(And.intro p3 p4).1, (And.intro p3 p4).2⟩ (fun hHeld => ?_)
  clear hK K
  refine norm_ (a' := ?_) ?_ ?_
  rotate_left
  · show Act.put _ (some 9) _ = _
    simp only [Act.put, List.setIfInBounds_toArray, List.set_cons_zero, List.set_cons_succ, i64_w, i32_w]
    rfl
  refine last_ (i := 7) (N := none) #[true, true, true, true, true, true, true, true, false, false] rfl rfl (by kernel_rfl) (by decide) (fun K hK => ?_)
  refine skip_ (w1 := ?_) (by rfl) rfl ?_ ?_
  rotate_left
  · go_simp
    rfl
  refine hK.out _ _ ?_
  clear hK K
  refine pure_ (i := 8) (N := some 11) (v := ?_) (a' := ?_) #[true, true, true, true, true, true, true, true, true, false] rfl rfl (by kernel_rfl) (fun _ _ _ h => h) (Or.inl ⟨by rfl, ?_⟩) ?_ ?_
  rotate_left
  · intro w'
    go_simp
    with_reducible rfl
  rotate_left
  · simp only [Act.put, List.setIfInBounds_toArray, List.set_cons_zero, List.set_cons_succ, i64_w, i32_w]
    rfl
  refine last_ (i := 9) (N := none) #[true, true, true, true, true, true, true, true, true, true] rfl rfl (by kernel_rfl) (by decide) (fun K hK => ?_)
  refine skip_ (w1 := ?_) (by rfl) rfl ?_ ?_
  rotate_left
  · go_simp
    rfl
  refine hK.out _ _ ?_
  clear hK K
  refine done_ (by kernel_rfl) ?_
  have hm6 : Mod (fun q => q = w.heap.size) w5 ((w5.setCell ⟨w.heap.size, 3, none⟩ (.slice A4 xb.length c4)).setCell ⟨w.heap.size, 4, none⟩ (.slice A5 xs.length c5)) := ((Mod.refl (fun q => q = w.heap.size) w5).setCell (p := ⟨w.heap.size, 3, none⟩) (.inl rfl) _).setCell (p := ⟨w.heap.size, 4, none⟩) (.inl rfl) _
  have hb25 : Below w2.heap.size w2 w5 := below_then (below_then (below_drew (Below.refl _ _)) (Nat.le_refl _) hb4.out) (by have := hb4.out.size; simpa using this) hb5.out
  have hX5 := hA12.out.below hb25
  have hX6 : Box ((w5.setCell ⟨w.heap.size, 3, none⟩ (.slice A4 xb.length c4)).setCell ⟨w.heap.size, 4, none⟩ (.slice A5 xs.length c5)) w.heap.size (.int .u8 x0) (.int .u8 x1) (.bool x2) (.slice A4 xb.length c4) (.slice A5 xs.length c5) := by
    have := blk_set (blk_set hX5 3 (.slice A4 xb.length c4)) 4 (.slice A5 xs.length c5)
    simpa [Box] using this
  have hY5 := hA2.out.below hb25
  have hY6 := hY5.mod hm6 (by have := hz1.out; omega)
  have hb6 := put5_mod hm6 (below_then (below_drew hb12.out) hb12.out.size (below_then hb4.out hb4.out.size hb5.out)) (Nat.le_refl _)
  have hz4 : w.heap.size + 2 ≤ w4.heap.size := by have := hb4.out.size; have := hz2.out; simp at *; omega
  have hF5 : kU.F w5 (fun q => w.heap.size + 2 ≤ q ∧ q < w4.heap.size) A4 xb.length xb := Kd.F_below (Kd.F_mono (Kd.F_bound (Kd.R_F hR4)) (fun q hq => ⟨by have := hq.1; have := hz2.out; simp at *; omega, hq.2⟩)) hb5.out
  have hT5 := htold2.out.below hb25
  obtain ⟨g, hgle, hgr⟩ : ∃ g, w4.heap.size ≤ g ∧ (0 < xs.length → A5 = some ⟨g, 0, none⟩ ∧ Row5 w5 g css) := by
    by_cases h0 : 0 < xs.length
    · obtain ⟨g, h1, h2, h3⟩ := Row5.of_R hR5 h0
      exact ⟨g, h2, fun _ => ⟨h1, h3⟩⟩
    · exact ⟨w4.heap.size, Nat.le_refl _, fun h => absurd h h0⟩
  have hgr6 : 0 < xs.length → Row5 ((w5.setCell ⟨w.heap.size, 3, none⟩ (.slice A4 xb.length c4)).setCell ⟨w.heap.size, 4, none⟩ (.slice A5 xs.length c5)) g css := fun h => (hgr h).2.mod hm6 (by omega)
  have hF6 := F_mod (Kd.F_mono (ok' := fun q => w.heap.size + 2 ≤ q ∧ q ≠ g) hF5 (fun q hq => ⟨hq.1, by have := hq.2; omega⟩)) hm6 (fun q hq h => by have := hq.1; omega)
  have hH6 : Half w ((w5.setCell ⟨w.heap.size, 3, none⟩ (.slice A4 xb.length c4)).setCell ⟨w.heap.size, 4, none⟩ (.slice A5 xs.length c5)) g xs css 0 := by
    have hT6 := hT5.mod hm6 (fun q hq h => by omega)
    exact ⟨hT6.1, fun j x cs hx hc => Kd.FK_mono (hT6.2 j x cs hx hc) (fun q hq => .inr ⟨Nat.zero_le _, hq⟩)⟩
  obtain ⟨w6, hw6⟩ : ∃ w6, (w5.setCell ⟨w.heap.size, 3, none⟩ (.slice A4 xb.length c4)).setCell ⟨w.heap.size, 4, none⟩ (.slice A5 xs.length c5) = w6 := ⟨_, rfl⟩
  rw [hw6] at hX6 hY6 hb6 hgr6 hF6 hH6 ⊢
  have hA5 := Aside0.mk (fun h => (hgr h).1)
  have hc4 := Aside0.mk (Kd.R_reads' hR4).2.1
  have hc5 := Aside0.mk (Kd.R_reads' hR5).2.1
  obtain ⟨p0, p1, p2, p3, p4⟩ := hX6.cells
  replace hX6 := Aside0.mk hX6
  replace hY6 := Aside0.mk hY6
  replace hb6 := Aside0.mk hb6
  replace hgr6 := Aside0.mk hgr6
  replace hF6 := Aside0.mk hF6
  replace hH6 := Aside0.mk hH6
  have hg := Aside0.mk (show w.heap.size + 2 ≤ g from by omega)
  clear hm6 hb25 hX5 hY5 hF5 hT5 hgr hgle hR4 hR5 hb4 hb4' hb5 hb5' hA12 hA2 htold2 hcb hci f0 f1 f2 f3 f4 hw6 hHeld hw1 hw2 hb12 hz4
  obtain ⟨n, hn⟩ : ∃ n, xs.length = n := ⟨_, rfl⟩
  rw [hn] at p4 hX6 hgr6 hA5 hc5 hwn ⊢
  have hn' := Aside0.mk hn
  replace hcl := Aside0.mk (hcl.trans hn)
  clear hn
  obtain ⟨W1, hW1⟩ : ∃ W1, w1.heap.size = W1 := ⟨_, rfl⟩
  rw [hW1] at hY6 hz1 ⊢
  clear hW1 hz2
  go_wp2_with fail
  go_loopw [15] (fun s15 wr => ∃ (k : Nat) (cs5 : List (List Value)), k ≤ n ∧ s15 = .int .i64 k ∧ Aside0 (Below w.heap.size w wr) ∧ Aside0 (Box wr w.heap.size (.int .u8 x0) (.int .u8 x1) (.bool x2) (.slice A4 xb.length c4) (.slice A5 n c5)) ∧ Aside0 (Box wr W1 (.int .u8 0) (.int .u8 0) (.bool false) (.slice none 0 0) (.slice none 0 0)) ∧ Aside0 (kU.F wr (fun q => w.heap.size + 2 ≤ q ∧ q ≠ g) A4 xb.length xb) ∧ Aside0 (0 < n → Row5 wr g cs5) ∧ Aside0 (Half w wr g xs cs5 k) ∧ Aside0 (cs5.length = n)) (fun s15 _ => n - (intOf s15).toNat)
  case atStart => exact ⟨0, css, Nat.zero_le _, rfl, hb6, hX6, hY6, hF6, hgr6, hH6, hcl⟩
  case round =>
    clear hb6 hX6 hY6 hF6 hgr6 hH6 hcl p0 p1 p2 p3 p4
    obtain ⟨k, cs5, hk, rfl, hb, hX, hY, hF, hrow, hH, hl5⟩ := hrel
    by_cases hlt : k < n
    · have ea := hA5.out (by omega)
      have row := hrow.out (by omega)
      subst ea
      have hkx : k < xs.length := by rw [hn'.out]; exact hlt
      have hkc : k < cs5.length := by rw [hl5.out]; exact hlt
      have hfk := hH.out.2 k xs[k] cs5[k] (List.getElem?_eq_getElem hkx) (List.getElem?_eq_getElem hkc)
      have hmem : xs[k] ∈ xs := List.getElem_mem hkx
      have hwy := wT_mem hmem
      obtain ⟨y, hy⟩ : ∃ y, xs[k] = y := ⟨_, rfl⟩
      rw [hy] at hfk hmem hwy
      obtain ⟨A6, c6, B6, d6, ecs, hv6⟩ := Bv.cells (Kd.FK_now hfk)
      have hcs : cs5[k]? = some (bvs y A6 c6 B6 d6).toList := by rw [← ecs]; exact List.getElem?_eq_getElem hkc
      have r0 : wr.cell? ⟨g, k * 5, none⟩ = some (.int .u8 y.f0) := row.cell hcs (i := 0) rfl
      have r1 : wr.cell? ⟨g, k * 5 + 1, none⟩ = some (.int .u8 y.f1) := row.cell hcs (i := 1) rfl
      have r2 : wr.cell? ⟨g, k * 5 + 2, none⟩ = some (.bool y.f2) := row.cell hcs (i := 2) rfl
      have r3 : wr.cell? ⟨g, k * 5 + 3, none⟩ = some (.slice A6 y.f3.length c6) := row.cell hcs (i := 3) rfl
      have r4 : wr.cell? ⟨g, k * 5 + 4, none⟩ = some (.slice B6 y.f4.length d6) := row.cell hcs (i := 4) rfl
      have hcall := Aside0.mk (show Calls Try.prog 33 #[.agg #[.int .u8 y.f0, .int .u8 y.f1, .bool y.f2, .slice A6 y.f3.length c6, .slice B6 y.f4.length d6]] wr.drew fun e w' => (∃ A c B d, e = .returned (.agg #[.int .u8 y.f0, .int .u8 y.f1, .bool y.f2, .slice A y.f3.length c, .slice B y.f4.length d]) ∧ BvF w' (fun q => wr.heap.size ≤ q) y A c B d) ∧ Below wr.heap.size wr w' from
        (ih.out y hmem A6 c6 B6 d6 wr.drew (hv6.below (below_drew (Below.refl _ _))) (by omega)).mono (fun e w' h => ⟨h.1, below_then (below_drew (Below.refl wr.heap.size wr)) (Nat.le_refl _) h.2⟩))
      obtain ⟨p0, p1, p2, p3, p4⟩ := hX.out.cells
      replace row := Aside0.mk row
      have hyk := Aside0.mk (show xs[k]? = some y from by rw [← hy]; exact List.getElem?_eq_getElem hkx)
      replace hkc := Aside0.mk hkc
      have i1 : (0 : Int) ≤ (k : Int) := by omega
      have i2 : (k : Int) < (n : Int) := by omega
      clear hfk hmem hwy hy ecs hcs hv6 hkx p0 p1 p2 p3
      go_wp2_with fail
      refine start_ (n := 11) (S := fun w' => w'.cell? ⟨w.heap.size, 4, none⟩ = some (.slice (some ⟨g, 0, none⟩) n c5) ∧ w'.cell? ⟨g, k * 5, none⟩ = some (.int .u8 y.f0) ∧ w'.cell? ⟨g, k * 5 + 1, none⟩ = some (.int .u8 y.f1) ∧ w'.cell? ⟨g, k * 5 + 2, none⟩ = some (.bool y.f2) ∧ w'.cell? ⟨g, k * 5 + 3, none⟩ = some (.slice A6 y.f3.length c6) ∧ w'.cell? ⟨g, k * 5 + 4, none⟩ = some (.slice B6 y.f4.length d6)) (ds := [10]) #[false, false, false, false, false, false, false, false, false, false, false] (by kernel_rfl) rfl rfl ⟨p4, r0, r1, r2, r3, r4⟩ (fun hHeld => ?_)
      refine pure_ (i := 0) (N := some 18) (v := ?_) (a' := ?_) #[true, false, false, false, false, false, false, false, false, false, false] rfl rfl (by kernel_rfl) (fun _ _ _ h => h) (Or.inl ⟨by rfl, ?_⟩) ?_ ?_
      rotate_left
      · intro w'
        go_simp
        with_reducible rfl
      rotate_left
      · simp only [Act.put, List.setIfInBounds_toArray, List.set_cons_zero, List.set_cons_succ, i64_w, i32_w]
        rfl
      refine pure_ (i := 2) (N := some 20) (v := ?_) (a' := ?_) #[true, false, true, false, false, false, false, false, false, false, false] rfl rfl (by kernel_rfl) (fun _ _ _ h => h) (Or.inl ⟨by rfl, ?_⟩) ?_ ?_
      rotate_left
      · intro w'
        go_simp
        with_reducible rfl
      rotate_left
      · simp only [Act.put, List.setIfInBounds_toArray, List.set_cons_zero, List.set_cons_succ, i64_w, i32_w]
        rfl
      refine pure_ (i := 3) (N := some 21) (v := ?_) (a' := ?_) #[true, false, true, true, false, false, false, false, false, false, false] rfl rfl (by kernel_rfl) (fun _ _ _ h => h) (Or.inl ⟨by rfl, ?_⟩) ?_ ?_
      rotate_left
      · intro w'
        go_simp
        with_reducible rfl
      rotate_left
      · simp only [Act.put, List.setIfInBounds_toArray, List.set_cons_zero, List.set_cons_succ, i64_w, i32_w]
        rfl
      refine pure_ (i := 5) (N := some 23) (v := ?_) (a' := ?_) #[true, false, true, true, false, true, false, false, false, false, false] rfl rfl (by kernel_rfl) (fun _ _ _ h => h) (Or.inl ⟨by rfl, ?_⟩) ?_ ?_
      rotate_left
      · intro w'
        go_simp
        with_reducible rfl
      rotate_left
      · simp only [Act.put, List.setIfInBounds_toArray, List.set_cons_zero, List.set_cons_succ, i64_w, i32_w]
        rfl
      refine take_ (i := 1) (N := some 19) (v := ?_) (a' := ?_) #[true, true, true, true, false, true, false, false, false, false, false] rfl rfl (by kernel_rfl) (fun _ _ _ h => h) (Or.inl ⟨by rfl, ?_⟩) hHeld ?_ ?_
      rotate_left
      · rintro w' ⟨s0, s1, s2, s3, s4, s5⟩
        go_simp
        with_reducible rfl
      rotate_left
      · simp only [Act.put, List.setIfInBounds_toArray, List.set_cons_zero, List.set_cons_succ, i64_w, i32_w]
        rfl
      refine take_ (i := 4) (N := some 22) (v := ?_) (a' := ?_) #[true, true, true, true, true, true, false, false, false, false, false] rfl rfl (by kernel_rfl) (fun _ _ _ h => h) (Or.inl ⟨by rfl, ?_⟩) hHeld ?_ ?_
      rotate_left
      · rintro w' ⟨s0, s1, s2, s3, s4, s5⟩
        go_simp
        with_reducible rfl
      rotate_left
      · simp only [Act.put, List.setIfInBounds_toArray, List.set_cons_zero, List.set_cons_succ, i64_w, i32_w]
        rfl
      refine pure_ (i := 6) (N := some 24) (v := ?_) (a' := ?_) #[true, true, true, true, true, true, true, false, false, false, false] rfl rfl (by kernel_rfl) (fun _ _ _ h => h) (Or.inl ⟨by rfl, ?_⟩) ?_ ?_
      rotate_left
      · intro w'
        go_simp
        with_reducible rfl
      rotate_left
      · simp only [Act.put, List.setIfInBounds_toArray, List.set_cons_zero, List.set_cons_succ, i64_w, i32_w]
        rfl
      refine take_ (i := 7) (N := some 25) (v := ?_) (a' := ?_) #[true, true, true, true, true, true, true, true, false, false, false] rfl rfl (by kernel_rfl) (fun _ _ _ h => h) (Or.inl ⟨by rfl, ?_⟩) hHeld ?_ ?_
      rotate_left
      · rintro w' ⟨s0, s1, s2, s3, s4, s5⟩
        go_simp
        with_reducible rfl
      rotate_left
      · simp only [Act.put, List.setIfInBounds_toArray, List.set_cons_zero, List.set_cons_succ, i64_w, i32_w]
        rfl
      refine one_ (i := 8) (N := some 26) #[true, true, true, true, true, true, true, true, true, false, false] rfl rfl (by kernel_rfl) (by decide) (fun K hK => ?_)
      refine goes_ Try.func33 (by kernel_rfl) rfl #[.agg #[.int .u8 y.f0, .int .u8 y.f1, .bool y.f2, .slice A6 y.f3.length c6, .slice B6 y.f4.length d6]] (by rfl) rfl rfl (by simp only [List.map_toArray, List.map_cons, List.map_nil]; rfl) ?_
      with_reducible refine (hcall.out).mono ?_
      rintro e w7 ⟨⟨A7, c7, B7, d7, rfl, hG7⟩, hb7⟩
      refine ⟨_, rfl, ?_⟩
      have p4 := pw_cell_below hb7 p4
      have r0 := pw_cell_below hb7 r0
      have r1 := pw_cell_below hb7 r1
      have r2 := pw_cell_below hb7 r2
      have r3 := pw_cell_below hb7 r3
      have r4 := pw_cell_below hb7 r4
      have row7 := row.out.mod (Mod.of_below (S := fun _ => False) hb7) (fun h => h)
      have z0 := row7.free (k * 5)
      have z1 := row7.free (k * 5 + 1)
      have z2 := row7.free (k * 5 + 2)
      have z3 := row7.free (k * 5 + 3)
      have z4 := row7.free (k * 5 + 4)
      have row7 := Aside0.mk row7
      have hb7 := Aside0.mk hb7
      have hG7 := Aside0.mk hG7
      refine hK.out _ _ ⟨(And.intro p4 (And.intro r0 (And.intro r1 (And.intro r2 (And.intro r3 r4))))).1, (And.intro p4 (And.intro r0 (And.intro r1 (And.intro r2 (And.intro r3 r4))))).2.1, (And.intro p4 (And.intro r0 (And.intro r1 (And.intro r2 (And.intro r3 r4))))).2.2.1, (And.intro p4 (And.intro r0 (And.intro r1 (And.intro r2 (And.intro r3 r4))))).2.2.2.1, (And.intro p4 (And.intro r0 (And.intro r1 (And.intro r2 (And.intro r3 r4))))).2.2.2.2.1, (And.intro p4 (And.intro r0 (And.intro r1 (And.intro r2 (And.intro r3 r4))))).2.2.2.2.2⟩ (fun hHeld => ?_)
      clear hK K
      refine norm_ (a' := ?_) ?_ ?_
      rotate_left
      · show Act.put _ (some 26) _ = _
        simp only [Act.put, List.setIfInBounds_toArray, List.set_cons_zero, List.set_cons_succ, i64_w, i32_w]
        rfl
      refine pure_ (i := 9) (N := some 27) (v := ?_) (a' := ?_) #[true, true, true, true, true, true, true, true, true, true, false] rfl rfl (by kernel_rfl) (fun _ _ _ h => h) (Or.inl ⟨by rfl, ?_⟩) ?_ ?_
      rotate_left
      · intro w'
        go_simp
        with_reducible rfl
      rotate_left
      · simp only [Act.put, List.setIfInBounds_toArray, List.set_cons_zero, List.set_cons_succ, i64_w, i32_w]
        rfl
      refine last_ (i := 10) (N := none) #[true, true, true, true, true, true, true, true, true, true, true] rfl rfl (by kernel_rfl) (by decide) (fun K hK => ?_)
      refine skip_ (w1 := ?_) (by rfl) rfl ?_ ?_
      rotate_left
      · go_simp
        rfl
      refine hK.out _ _ ?_
      clear hK K
      refine done_ (by kernel_rfl) ?_
      obtain ⟨w8, hw8, row8, hm8⟩ := row7.out.set hkc.out (.int .u8 y.f0) (.int .u8 y.f1) (.bool y.f2) (.slice A7 y.f3.length c7) (.slice B7 y.f4.length d7) (by simp [Value.oneCell'])
      rw [hw8]
      have hgl := row.out.lt
      have hb78 : Mod (fun q => q = g) wr w8 := (Mod.of_below hb7.out).trans hm8 (fun q hq => .inl hq)
      have hgz := hg.out
      have hbn := Aside0.mk (Mod.below (S := fun q => w.heap.size ≤ q) ((Mod.of_below hb.out).trans hb78 (fun q hq => .inl (by omega))) (fun q hq => hq) (Nat.le_refl _))
      have hXn := Aside0.mk (hX.out.mod hb78 (by omega))
      have hYn := Aside0.mk (hY.out.mod hb78 (by have := hz1.out; omega))
      have hFn := Aside0.mk (F_mod hF.out hb78 (fun q hq h => hq.2 h))
      have hHn := Aside0.mk (show Half w w8 g xs (cs5.set k [.int .u8 y.f0, .int .u8 y.f1, .bool y.f2, .slice A7 y.f3.length c7, .slice B7 y.f4.length d7]) (k + 1) from by
        refine ⟨by rw [List.length_set]; exact hH.out.1, fun j x cs hx hcs => ?_⟩
        rw [List.getElem?_set] at hcs
        by_cases hjk : k = j
        · subst hjk
          rw [if_pos rfl, if_pos hkc.out] at hcs
          obtain rfl := Option.some.inj hcs
          rw [hyk.out] at hx
          obtain rfl := Option.some.inj hx
          exact Kd.FK_mono (Kd.FK_step hG7.out.FK (fun q hq hlt => hm8.block q hlt (fun h => by omega))) (fun q hq => .inl ⟨by omega, by have := hb.out.size; omega, by omega⟩)
        · rw [if_neg hjk] at hcs
          exact Kd.FK_mono (Kd.FK_step (hH.out.2 j x cs hx hcs) (fun q hq hlt => hb78.block q hlt (fun h => by rcases hq with hq | hq; exact hq.2.2 h; omega))) (fun q hq => by rcases hq with ⟨h1, h2, h3⟩ | ⟨h1, h2⟩; exact .inl ⟨by omega, h2, h3⟩; exact .inr ⟨by omega, h2⟩))
      have hrn := Aside0.mk (fun _ : 0 < n => row8)
      have hln := Aside0.mk (show (cs5.set k [.int .u8 y.f0, .int .u8 y.f1, .bool y.f2, .slice A7 y.f3.length c7, .slice B7 y.f4.length d7]).length = n from by rw [List.length_set]; exact hl5.out)
      clear hw8 row8 hm8 hgl hb78 hgz hb hX hY hF hrow hH hl5 row row7 hb7 hG7 hHeld p4 r0 r1 r2 r3 r4 hcall z0 z1 z2 z3 z4
      go_wp2_with fail
      go_roundw
      case rel => exact ⟨k + 1, _, by omega, by go_num, hbn, hXn, hYn, hFn, hrn, hHn, hln⟩
      case measure => simp [intOf]; omega
    · obtain rfl : k = n := by omega
      have hgz := hg.out
      have hT : Told wr (fun q => w.heap.size + 2 ≤ q) xs cs5 := ⟨hH.out.1, fun j x cs hx hcs => Kd.FK_mono (hH.out.2 j x cs hx hcs) (fun q hq => by
        have hj := (List.getElem?_eq_some_iff.1 hx).1
        have := hn'.out
        rcases hq with ⟨_, h2, _⟩ | ⟨h1, _⟩
        · exact h2
        · omega)⟩
      have hI : kT.F wr (fun q => w.heap.size + 2 ≤ q) A5 k xs := by
        by_cases h0 : 0 < k
        · have e5 := hA5.out h0
          have hC := (hrow.out h0).C (by rw [hl5.out]; omega)
          rw [hl5.out] at hC
          rw [e5]
          exact F_of_raw hC hT (fun ad e _ => by injection e with e; subst e; exact hgz)
        · intro W' _
          exact ⟨hn'.out, by omega, fun h => absurd h h0⟩
      obtain ⟨w9, hw9, hY9, hm9⟩ := put5 hY.out (.int .u8 x0) (.int .u8 x1) (.bool x2) (.slice A4 xb.length c4) (.slice A5 k c5)
      have hI9 := Kd.F_mono (ok' := fun q => w.heap.size ≤ q) (F_mod hI hm9 (fun q hq h => by have := hz1.out; omega)) (fun q hq => by omega)
      have hF9 := Kd.F_mono (ok' := fun q => w.heap.size ≤ q) (F_mod hF.out hm9 (fun q hq h => by have := hz1.out; have := hq.1; omega)) (fun q hq => by have := hq.1; omega)
      have hb9 := put5_mod hm9 hb.out (by have := hz1.out; omega)
      obtain ⟨p0, p1, p2, p3, p4⟩ := hX.out.cells
      obtain ⟨q0, q1, q2, q3, q4⟩ := hY.out.cells
      obtain ⟨f0, f1, f2, f3, f4⟩ := hY.out.free
      obtain ⟨d0, d1, d2, d3, d4⟩ := hY9.cells
      have hres := Aside0.mk (show BvF w9 (fun q => w.heap.size ≤ q) (⟨x0, x1, x2, xb, xs⟩ : T) A4 c4 A5 c5 from ⟨hc4.out, hF9, by show xs.length ≤ c5; rw [hn'.out]; exact hc5.out, by show kT.F w9 _ A5 xs.length xs; rw [hn'.out]; exact hI9⟩)
      replace hb9 := Aside0.mk hb9
      clear hT hI hY9 hm9 hI9 hF9 hgz hX hY hF hrow hH hl5 hb hlt hk
      go_wp2_with fail
      refine bodyPost_ret (v := .agg #[.int .u8 x0, .int .u8 x1, .bool x2, .slice A4 xb.length c4, .slice A5 k c5]) (by simp [results, Try.results33, go_sem, d0, d1, d2, d3, d4]) rfl ⟨⟨A4, c4, A5, c5, by unfold bv; rw [← hn'.out], hres.out⟩, hb9.out⟩
end Go.Proofs.Ytlmelbnmfhpacaa
