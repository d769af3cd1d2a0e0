/- Copy: another disk with the same. -/
import Derived.Test.YtolighikimpbfaaSh
set_option linter.unusedVariables false
set_option linter.unusedSimpArgs false
namespace Go.Proofs.Ytolighikimpbfaa
open Go.RowKit Go.Shelf Go.Proofs.YtolighikimpbfaaW.PrintWords Go.Proofs.YtolighikimpbfaaW.PrintMore Go.Proofs.YtolighikimpbfaaW.PrintLast

/-- What the copy is made of. -/
theorem copied_mem {w w4 : World} {RO : Nat → Prop} {B n2 N3 cap1 c2 c3 : Nat} {A2 A3 : Option Addr} {ds : DS} {a b c : Value} (hz : w.heap.size = B) (hblk : w4.heap[B]? = some (.cells #[a, b, c, .int .i64 ds.armed, .int .i64 ds.limit, .int .i64 ds.done] 65 (0, 0))) (hpos : 0 < ds.now.length)
    (h1 : u8.R 5 w4 0 (fun q => q = n2) (.slice (some ⟨n2, 0, none⟩) ds.now.length cap1) (toI ds.now)) (hn : B < n2) (hn3 : n2 < N3)
    (h2 : u8.R 5 w4 0 (fun q => some q = (Value.slice A2 ds.lasts.length c2).ownBlock) (.slice A2 ds.lasts.length c2) (toI ds.lasts)) (hl : ∀ q, (Value.slice A2 ds.lasts.length c2).ownBlock = some q → n2 < q ∧ q < N3)
    (h3 : Kd.R wk 69 w4 0 (fun q => some q = (Value.slice A3 ds.waits.length c3).ownBlock ∨ ((N3 ≤ q ∨ (RO q ∧ q < w.heap.size)) ∧ some q ≠ (Value.slice A3 ds.waits.length c3).ownBlock)) (.slice A3 ds.waits.length c3) (encWs ds.waits)) (hw : ∀ q, (Value.slice A3 ds.waits.length c3).ownBlock = some q → N3 ≤ q) :
    ∃ S' RO', Dk (((w4.setCell ⟨B, 0, none⟩ (.slice (some ⟨n2, 0, none⟩) ds.now.length cap1)).setCell ⟨B, 1, none⟩ (.slice A2 ds.lasts.length c2)).setCell ⟨B, 2, none⟩ (.slice A3 ds.waits.length c3)) S' RO' B ds ∧ (∀ q, S' q → w.heap.size ≤ q) ∧ (∀ q, RO' q → RO q ∨ w.heap.size ≤ q) := by
  have hm : Mod (fun q => q = B) w4 (((w4.setCell ⟨B, 0, none⟩ (.slice (some ⟨n2, 0, none⟩) ds.now.length cap1)).setCell ⟨B, 1, none⟩ (.slice A2 ds.lasts.length c2)).setCell ⟨B, 2, none⟩ (.slice A3 ds.waits.length c3)) :=
    (((Mod.refl (fun q => q = B) w4).setCell (p := ⟨B, 0, none⟩) (.inl rfl) _).setCell (p := ⟨B, 1, none⟩) (.inl rfl) _).setCell (p := ⟨B, 2, none⟩) (.inl rfl) _
  refine ⟨fun q => q = B ∨ q = n2 ∨ some q = (Value.slice A3 ds.waits.length c3).ownBlock, fun q => some q = (Value.slice A2 ds.lasts.length c2).ownBlock ∨ (RO q ∧ q < w.heap.size) ∨ (N3 ≤ q ∧ some q ≠ (Value.slice A3 ds.waits.length c3).ownBlock), ⟨n2, cap1, .slice A2 ds.lasts.length c2, .slice A3 ds.waits.length c3, ?_, .inl rfl, .inr (.inl rfl), by omega, hpos, ?_, R_mod h1 hm (fun q hq => by omega), ?_, ?_, ?_⟩, ?_, ?_⟩
  · exact (heap_setCell_same _ _ 2 _ _ _ (heap_setCell_same _ _ 1 _ _ _ (heap_setCell_same _ _ 0 _ _ _ hblk))).trans rfl
  · rintro q hq hs
    rcases hq with hq | hq | hq
    · have := hl q hq.symm
      rcases hs with hs | hs | hs
      · omega
      · omega
      · have := hw q hs.symm; omega
    · rcases hs with hs | hs | hs
      · omega
      · omega
      · have := hw q hs.symm; omega
    · rcases hs with hs | hs | hs
      · omega
      · omega
      · exact hq.2 hs
  · exact Kd.R_mono (R_mod h2 hm (fun q hq => by have := hl q hq.symm; omega)) (fun q hq => .inl hq)
  · intro q hq
    have := hw q hq
    exact ⟨.inr (.inr hq.symm), by omega, by omega⟩
  · refine Kd.R_mono (R_mod h3 hm (fun q hq => ?_)) (fun q hq => ?_)
    · rcases hq with hq | ⟨hq, _⟩
      · have := hw q hq.symm; omega
      · omega
    · rcases hq with hq | ⟨hq | hq, hne⟩
      · exact .inl hq
      · exact .inr (.inr (.inr ⟨hq, hne⟩))
      · exact .inr (.inr (.inl hq))
  · rintro q (hq | hq | hq)
    · omega
    · omega
    · have := hw q hq.symm; omega
  · rintro q (hq | hq | hq)
    · have := hl q hq.symm; right; omega
    · exact .inl hq.1
    · right; omega
set_option maxRecDepth 20000 in
set_option maxHeartbeats 4000000 in
theorem copy_calls (S RO : Nat → Prop) (g : Nat) (ds : DS) (w : World) (h : Dk w S RO g ds) (hf : Fine ds) :
    Calls Try.prog 23 #[.pointer (some ⟨g, 0, none⟩)] w fun e w' => ∃ g2 S' RO', e = .returned (.pointer (some ⟨g2, 0, none⟩)) ∧ Dk w' S' RO' g2 ds ∧ (∀ q, S' q → w.heap.size ≤ q) ∧ (∀ q, RO' q → RO q ∨ w.heap.size ≤ q) ∧ Below w.heap.size w w' := by
  have hn := Aside0.mk h.none
  obtain ⟨n, capn, lv, wv, h⟩ := h
  obtain ⟨A4, c4, e4⟩ := Kd.R_slice h.lasts
  obtain ⟨A5, c5, e5⟩ := Kd.R_slice h.waits
  rw [toI_length] at e4
  rw [encWs_length] at e5
  subst e4; subst e5
  obtain ⟨k0, k1, k2, k3, k4, k5⟩ := h.cell
  have hfr := h.frozen
  have hb1 := below_alloc (Below.refl w.heap.size w) (.cells #[.slice (some ⟨n, 0, none⟩) ds.now.length capn, .slice A4 ds.lasts.length c4, .slice A5 ds.waits.length c5, .int .i64 ds.armed, .int .i64 ds.limit, .int .i64 ds.done] 65)
  have H1 := Go.heap_alloc_new w (.cells #[.slice (some ⟨n, 0, none⟩) ds.now.length capn, .slice A4 ds.lasts.length c4, .slice A5 ds.waits.length c5, .int .i64 ds.armed, .int .i64 ds.limit, .int .i64 ds.done] 65)
  have hz1 : (w.alloc (.cells #[.slice (some ⟨n, 0, none⟩) ds.now.length capn, .slice A4 ds.lasts.length c4, .slice A5 ds.waits.length c5, .int .i64 ds.armed, .int .i64 ds.limit, .int .i64 ds.done] 65)).heap.size = w.heap.size + 1 := by simp
  obtain ⟨w1, hw1⟩ : ∃ w1, w.alloc (.cells #[.slice (some ⟨n, 0, none⟩) ds.now.length capn, .slice A4 ds.lasts.length c4, .slice A5 ds.waits.length c5, .int .i64 ds.armed, .int .i64 ds.limit, .int .i64 ds.done] 65) = w1 := ⟨_, rfl⟩
  rw [hw1] at hb1 H1 hz1
  have hX : ∀ W, Below w1.heap.size w1 W → W.cell? ⟨g, 0, none⟩ = some (.slice (some ⟨n, 0, none⟩) ds.now.length capn) ∧ W.cell? ⟨g, 1, none⟩ = some (.slice A4 ds.lasts.length c4) ∧ W.cell? ⟨g, 2, none⟩ = some (.slice A5 ds.waits.length c5) := fun W hW => by
    have hb := below_then hb1 hb1.size hW
    exact ⟨pw_cell_below hb k0, pw_cell_below hb k1, pw_cell_below hb k2⟩
  have hC1 : ∀ W, Below w1.heap.size w1 W → Calls Try.prog 30 #[.slice (some ⟨n, 0, none⟩) ds.now.length capn] W fun e w' => ∃ v, e = .returned v ∧ u8.R 5 w' 0 (fun q => W.heap.size ≤ q) v (toI ds.now) ∧ Below W.heap.size W w' := fun W hW =>
    clone8_calls _ capn ds.now W (Kd.C_below (Kd.F_now (Kd.R_F h.now)) (below_then hb1 hb1.size hW)) (by have := hf.len; omega)
  have hC2 : ∀ W, Below w1.heap.size w1 W → Calls Try.prog 30 #[.slice A4 ds.lasts.length c4] W fun e w' => ∃ v, e = .returned v ∧ u8.R 5 w' 0 (fun q => W.heap.size ≤ q) v (toI ds.lasts) ∧ Below W.heap.size W w' := fun W hW =>
    clone8_calls _ c4 ds.lasts W (Kd.C_below (Kd.F_now (Kd.R_F h.lasts)) (below_then hb1 hb1.size hW)) (by have := hf.len; have := hf.las; omega)
  have hC3 : ∀ W, Below w1.heap.size w1 W → Calls Try.prog 41 #[.slice A5 ds.waits.length c5] W fun e w' => ∃ v, e = .returned v ∧ Kd.R wk 69 w' 0 (fun q => some q = v.ownBlock ∨ ((W.heap.size ≤ q ∨ ((RO q ∧ q < w.heap.size) ∧ q < W.heap.size)) ∧ some q ≠ v.ownBlock)) v (encWs ds.waits) ∧ (∀ q, v.ownBlock = some q → W.heap.size ≤ q) ∧ Below W.heap.size W w' := fun W hW => by
    have hR := Kd.R_below (Kd.R_bound h.waits) (below_then hb1 hb1.size hW)
    have := clonew_calls A5 c5 (fun q => RO q ∧ q < w.heap.size) (encWs ds.waits) W (by rw [encWs_length]; exact Kd.R_mono hR (fun q hq => by
      rcases hq.1 with h8 | h8
      · exact .inl h8
      · exact .inr ⟨h8, hq.2.2.1⟩)) (by rw [encWs_length]; have := hf.wai; omega)
    rwa [encWs_length] at this
  have hpos := h.pos
  have hs0 : Below w1.heap.size w1 w1.drew := below_drew (Below.refl _ _)
  replace hX := Aside0.mk hX
  replace hC1 := Aside0.mk hC1
  replace hC2 := Aside0.mk hC2
  replace hC3 := Aside0.mk hC3
  replace hs0 := Aside0.mk hs0
  replace hb1 := Aside0.mk hb1
  replace H1 := Aside0.mk H1
  replace hf := Aside0.mk hf
  clear h
  go_enter Try.func23, Try.ntmps23
  go_wp2_with (go_at_call 28; refine hn.out.mono ?_; rintro e w' ⟨rfl, rfl⟩)
  refine start_ (n := 25) (S := fun w' => w'.cell? ⟨g, 0, none⟩ = some (.slice (some ⟨n, 0, none⟩) ds.now.length capn) ∧ w'.cell? ⟨g, 1, none⟩ = some (.slice A4 ds.lasts.length c4) ∧ w'.cell? ⟨g, 2, none⟩ = some (.slice A5 ds.waits.length c5)) (ds := [19, 22, 24]) #[false, false, false, false, false, false, false, false, false, false, false, false, false, false, false, false, false, false, false, false, false, false, false, false, false] (by kernel_rfl) rfl rfl ⟨(hX.out _ hs0.out).1, (hX.out _ hs0.out).2.1, (hX.out _ hs0.out).2.2⟩ (fun hHeld => ?_)
  refine pure_ (i := 0) (N := some 9) (v := ?_) (a' := ?_) #[true, false, false, false, false, false, false, false, false, false, false, false, false, false, false, false, false, false, false, false, false, false, false, false, false] rfl rfl (by kernel_rfl) (fun _ _ _ h => h) (Or.inl ⟨by rfl, ?_⟩) ?_ ?_
  rotate_left
  · intro w'
    go_simp
    with_reducible rfl
  rotate_left
  · simp only [Act.put, List.setIfInBounds_toArray, List.set_cons_zero, List.set_cons_succ, i64_w, i32_w]
    rfl
  refine pure_ (i := 1) (N := some 10) (v := ?_) (a' := ?_) #[true, true, false, false, false, false, false, false, false, false, false, false, false, false, false, false, false, false, false, false, false, false, false, false, false] rfl rfl (by kernel_rfl) (fun _ _ _ h => h) (Or.inl ⟨by rfl, ?_⟩) ?_ ?_
  rotate_left
  · intro w'
    go_simp
    with_reducible rfl
  rotate_left
  · simp only [Act.put, List.setIfInBounds_toArray, List.set_cons_zero, List.set_cons_succ, i64_w, i32_w]
    rfl
  refine pure_ (i := 2) (N := some 11) (v := ?_) (a' := ?_) #[true, true, true, false, false, false, false, false, false, false, false, false, false, false, false, false, false, false, false, false, false, false, false, false, false] rfl rfl (by kernel_rfl) (fun _ _ _ h => h) (Or.inl ⟨by rfl, ?_⟩) ?_ ?_
  rotate_left
  · intro w'
    go_simp
    with_reducible rfl
  rotate_left
  · simp only [Act.put, List.setIfInBounds_toArray, List.set_cons_zero, List.set_cons_succ, i64_w, i32_w]
    rfl
  refine pure_ (i := 3) (N := some 12) (v := ?_) (a' := ?_) #[true, true, true, true, false, false, false, false, false, false, false, false, false, false, false, false, false, false, false, false, false, false, false, false, false] rfl rfl (by kernel_rfl) (fun _ _ _ h => h) (Or.inl ⟨by rfl, ?_⟩) ?_ ?_
  rotate_left
  · intro w'
    go_simp
    with_reducible rfl
  rotate_left
  · simp only [Act.put, List.setIfInBounds_toArray, List.set_cons_zero, List.set_cons_succ, i64_w, i32_w]
    rfl
  refine pure_ (i := 6) (N := some 15) (v := ?_) (a' := ?_) #[true, true, true, true, false, false, true, false, false, false, false, false, false, false, false, false, false, false, false, false, false, false, false, false, false] rfl rfl (by kernel_rfl) (fun _ _ _ h => h) (Or.inl ⟨by rfl, ?_⟩) ?_ ?_
  rotate_left
  · intro w'
    go_simp
    with_reducible rfl
  rotate_left
  · simp only [Act.put, List.setIfInBounds_toArray, List.set_cons_zero, List.set_cons_succ, i64_w, i32_w]
    rfl
  refine pure_ (i := 7) (N := some 16) (v := ?_) (a' := ?_) #[true, true, true, true, false, false, true, true, false, false, false, false, false, false, false, false, false, false, false, false, false, false, false, false, false] rfl rfl (by kernel_rfl) (fun _ _ _ h => h) (Or.inl ⟨by rfl, ?_⟩) ?_ ?_
  rotate_left
  · intro w'
    go_simp
    with_reducible rfl
  rotate_left
  · simp only [Act.put, List.setIfInBounds_toArray, List.set_cons_zero, List.set_cons_succ, i64_w, i32_w]
    rfl
  refine pure_ (i := 8) (N := some 17) (v := ?_) (a' := ?_) #[true, true, true, true, false, false, true, true, true, false, false, false, false, false, false, false, false, false, false, false, false, false, false, false, false] rfl rfl (by kernel_rfl) (fun _ _ _ h => h) (Or.inl ⟨by rfl, ?_⟩) ?_ ?_
  rotate_left
  · intro w'
    go_simp
    with_reducible rfl
  rotate_left
  · simp only [Act.put, List.setIfInBounds_toArray, List.set_cons_zero, List.set_cons_succ, i64_w, i32_w]
    rfl
  refine pure_ (i := 9) (N := some 18) (v := ?_) (a' := ?_) #[true, true, true, true, false, false, true, true, true, true, false, false, false, false, false, false, false, false, false, false, false, false, false, false, false] rfl rfl (by kernel_rfl) (fun _ _ _ h => h) (Or.inl ⟨by rfl, ?_⟩) ?_ ?_
  rotate_left
  · intro w'
    go_simp
    with_reducible rfl
  rotate_left
  · simp only [Act.put, List.setIfInBounds_toArray, List.set_cons_zero, List.set_cons_succ, i64_w, i32_w]
    rfl
  refine pure_ (i := 12) (N := some 21) (v := ?_) (a' := ?_) #[true, true, true, true, false, false, true, true, true, true, false, false, true, false, false, false, false, false, false, false, false, false, false, false, false] rfl rfl (by kernel_rfl) (fun _ _ _ h => h) (Or.inl ⟨by rfl, ?_⟩) ?_ ?_
  rotate_left
  · intro w'
    go_simp
    with_reducible rfl
  rotate_left
  · simp only [Act.put, List.setIfInBounds_toArray, List.set_cons_zero, List.set_cons_succ, i64_w, i32_w]
    rfl
  refine pure_ (i := 13) (N := some 22) (v := ?_) (a' := ?_) #[true, true, true, true, false, false, true, true, true, true, false, false, true, true, false, false, false, false, false, false, false, false, false, false, false] rfl rfl (by kernel_rfl) (fun _ _ _ h => h) (Or.inl ⟨by rfl, ?_⟩) ?_ ?_
  rotate_left
  · intro w'
    go_simp
    with_reducible rfl
  rotate_left
  · simp only [Act.put, List.setIfInBounds_toArray, List.set_cons_zero, List.set_cons_succ, i64_w, i32_w]
    rfl
  refine pure_ (i := 14) (N := some 23) (v := ?_) (a' := ?_) #[true, true, true, true, false, false, true, true, true, true, false, false, true, true, true, false, false, false, false, false, false, false, false, false, false] rfl rfl (by kernel_rfl) (fun _ _ _ h => h) (Or.inl ⟨by rfl, ?_⟩) ?_ ?_
  rotate_left
  · intro w'
    go_simp
    with_reducible rfl
  rotate_left
  · simp only [Act.put, List.setIfInBounds_toArray, List.set_cons_zero, List.set_cons_succ, i64_w, i32_w]
    rfl
  refine take_ (i := 4) (N := some 13) (v := ?_) (a' := ?_) #[true, true, true, true, true, false, true, true, true, true, false, false, true, true, true, false, false, false, false, false, false, false, false, false, false] rfl rfl (by kernel_rfl) (fun _ _ _ h => h) (Or.inl ⟨by rfl, ?_⟩) hHeld ?_ ?_
  rotate_left
  · rintro w' ⟨s0, s1, s2⟩
    go_simp
    with_reducible rfl
  rotate_left
  · simp only [Act.put, List.setIfInBounds_toArray, List.set_cons_zero, List.set_cons_succ, i64_w, i32_w]
    rfl
  refine take_ (i := 10) (N := some 19) (v := ?_) (a' := ?_) #[true, true, true, true, true, false, true, true, true, true, true, false, true, true, true, false, false, false, false, false, false, false, false, false, false] rfl rfl (by kernel_rfl) (fun _ _ _ h => h) (Or.inl ⟨by rfl, ?_⟩) hHeld ?_ ?_
  rotate_left
  · rintro w' ⟨s0, s1, s2⟩
    go_simp
    with_reducible rfl
  rotate_left
  · simp only [Act.put, List.setIfInBounds_toArray, List.set_cons_zero, List.set_cons_succ, i64_w, i32_w]
    rfl
  refine take_ (i := 15) (N := some 24) (v := ?_) (a' := ?_) #[true, true, true, true, true, false, true, true, true, true, true, false, true, true, true, true, false, false, false, false, false, false, false, false, false] rfl rfl (by kernel_rfl) (fun _ _ _ h => h) (Or.inl ⟨by rfl, ?_⟩) hHeld ?_ ?_
  rotate_left
  · rintro w' ⟨s0, s1, s2⟩
    go_simp
    with_reducible rfl
  rotate_left
  · simp only [Act.put, List.setIfInBounds_toArray, List.set_cons_zero, List.set_cons_succ, i64_w, i32_w]
    rfl
  refine one_ (i := 5) (N := some 14) #[true, true, true, true, true, true, true, true, true, true, true, false, true, true, true, true, false, false, false, false, false, false, false, false, false] rfl rfl (by kernel_rfl) (by decide) (fun K hK => ?_)
  refine goes_ Try.func30 (by kernel_rfl) rfl #[.slice (some ⟨n, 0, none⟩) ds.now.length capn] (by rfl) rfl rfl (by simp only [List.map_toArray, List.map_cons, List.map_nil]; rfl) ?_
  with_reducible refine (hC1.out _ hs0.out).mono ?_
  rintro e w2 ⟨v1, rfl, r1, b2⟩
  refine ⟨_, rfl, ?_⟩
  obtain ⟨n2, cap2, e1, hn2, _, r1⟩ := R_form r1 (by rw [toI_length]; exact hpos)
  rw [toI_length] at e1
  subst e1
  have hn2 : w1.heap.size ≤ n2 := hn2
  have hn2' := (Kd.R_lt r1) n2 rfl
  replace b2 := Aside0.mk (hs0.out.trans b2)
  have z2 := b2.out.size
  replace r1 := Aside0.mk r1
  refine hK.out _ _ ⟨(hX.out _ b2.out).1, (hX.out _ b2.out).2.1, (hX.out _ b2.out).2.2⟩ (fun hHeld => ?_)
  clear hK K
  refine norm_ (a' := ?_) ?_ ?_
  rotate_left
  · show Act.put _ (some 14) _ = _
    simp only [Act.put, List.setIfInBounds_toArray, List.set_cons_zero, List.set_cons_succ, i64_w, i32_w]
    rfl
  refine one_ (i := 11) (N := some 20) #[true, true, true, true, true, true, true, true, true, true, true, true, true, true, true, true, false, false, false, false, false, false, false, false, false] rfl rfl (by kernel_rfl) (by decide) (fun K hK => ?_)
  refine goes_ Try.func30 (by kernel_rfl) rfl #[.slice A4 ds.lasts.length c4] (by rfl) rfl rfl (by simp only [List.map_toArray, List.map_cons, List.map_nil]; rfl) ?_
  with_reducible refine (hC2.out _ b2.out).mono ?_
  rintro e w3 ⟨v2, rfl, r2, b3⟩
  refine ⟨_, rfl, ?_⟩
  obtain ⟨A6, c6, rfl⟩ := Kd.R_slice r2
  rw [toI_length] at r2 ⊢
  have z3 := b3.size
  replace r1 := Aside0.mk (Kd.R_below r1.out b3)
  have b3' := Aside0.mk (below_then b2.out b2.out.size b3)
  replace r2 := Aside0.mk r2
  clear b3
  refine hK.out _ _ ⟨(hX.out _ b3'.out).1, (hX.out _ b3'.out).2.1, (hX.out _ b3'.out).2.2⟩ (fun hHeld => ?_)
  clear hK K
  refine norm_ (a' := ?_) ?_ ?_
  rotate_left
  · show Act.put _ (some 20) _ = _
    simp only [Act.put, List.setIfInBounds_toArray, List.set_cons_zero, List.set_cons_succ, i64_w, i32_w]
    rfl
  refine one_ (i := 16) (N := some 25) #[true, true, true, true, true, true, true, true, true, true, true, true, true, true, true, true, true, false, false, false, false, false, false, false, false] rfl rfl (by kernel_rfl) (by decide) (fun K hK => ?_)
  refine goes_ Try.func41 (by kernel_rfl) rfl #[.slice A5 ds.waits.length c5] (by rfl) rfl rfl (by simp only [List.map_toArray, List.map_cons, List.map_nil]; rfl) ?_
  with_reducible refine (hC3.out _ b3'.out).mono ?_
  rintro e w4 ⟨v3, rfl, r3, hw3, b4⟩
  refine ⟨_, rfl, ?_⟩
  obtain ⟨A7, c7, rfl⟩ := Kd.R_slice r3
  rw [encWs_length] at r3 hw3 ⊢
  have z4 := b4.size
  replace r1 := Aside0.mk (Kd.R_below r1.out b4)
  replace r2 := Aside0.mk (Kd.R_below (Kd.R_bound r2.out) b4)
  have b4' := Aside0.mk (below_then b3'.out b3'.out.size b4)
  have hB := (b4'.out.block w.heap.size (by omega)).trans H1.out
  obtain ⟨e0, e1, e2, e3, e4, e5⟩ := blk6 hB
  have ef : ∀ j : Nat, w4.frozen? ⟨w.heap.size, j, none⟩ = false := fun j => frozen_of_row _ _ _ _ _ hB
  replace r3 := Aside0.mk r3
  replace hw3 := Aside0.mk hw3
  replace hB := Aside0.mk hB
  clear b4
  refine hK.out _ _ ⟨(hX.out _ b4'.out).1, (hX.out _ b4'.out).2.1, (hX.out _ b4'.out).2.2⟩ (fun hHeld => ?_)
  clear hK K
  refine norm_ (a' := ?_) ?_ ?_
  rotate_left
  · show Act.put _ (some 25) _ = _
    simp only [Act.put, List.setIfInBounds_toArray, List.set_cons_zero, List.set_cons_succ, i64_w, i32_w]
    rfl
  refine pure_ (i := 17) (N := some 26) (v := ?_) (a' := ?_) #[true, true, true, true, true, true, true, true, true, true, true, true, true, true, true, true, true, true, false, false, false, false, false, false, false] rfl rfl (by kernel_rfl) (fun _ _ _ h => h) (Or.inl ⟨by rfl, ?_⟩) ?_ ?_
  rotate_left
  · intro w'
    go_simp
    with_reducible rfl
  rotate_left
  · simp only [Act.put, List.setIfInBounds_toArray, List.set_cons_zero, List.set_cons_succ, i64_w, i32_w]
    rfl
  refine pure_ (i := 18) (N := some 27) (v := ?_) (a' := ?_) #[true, true, true, true, true, true, true, true, true, true, true, true, true, true, true, true, true, true, true, false, false, false, false, false, false] rfl rfl (by kernel_rfl) (fun _ _ _ h => h) (Or.inl ⟨by rfl, ?_⟩) ?_ ?_
  rotate_left
  · intro w'
    go_simp
    with_reducible rfl
  rotate_left
  · simp only [Act.put, List.setIfInBounds_toArray, List.set_cons_zero, List.set_cons_succ, i64_w, i32_w]
    rfl
  refine last_ (i := 19) (N := none) #[true, true, true, true, true, true, true, true, true, true, true, true, true, true, true, true, true, true, true, true, false, false, false, false, false] rfl rfl (by kernel_rfl) (by decide) (fun K hK => ?_)
  refine skip_ (w1 := ?_) (by rfl) rfl ?_ ?_
  rotate_left
  · go_simp
    rfl
  refine hK.out _ _ ?_
  clear hK K
  refine pure_ (i := 20) (N := some 28) (v := ?_) (a' := ?_) #[true, true, true, true, true, true, true, true, true, true, true, true, true, true, true, true, true, true, true, true, true, false, false, false, false] rfl rfl (by kernel_rfl) (fun _ _ _ h => h) (Or.inl ⟨by rfl, ?_⟩) ?_ ?_
  rotate_left
  · intro w'
    go_simp
    with_reducible rfl
  rotate_left
  · simp only [Act.put, List.setIfInBounds_toArray, List.set_cons_zero, List.set_cons_succ, i64_w, i32_w]
    rfl
  refine pure_ (i := 21) (N := some 29) (v := ?_) (a' := ?_) #[true, true, true, true, true, true, true, true, true, true, true, true, true, true, true, true, true, true, true, true, true, true, false, false, false] rfl rfl (by kernel_rfl) (fun _ _ _ h => h) (Or.inl ⟨by rfl, ?_⟩) ?_ ?_
  rotate_left
  · intro w'
    go_simp
    with_reducible rfl
  rotate_left
  · simp only [Act.put, List.setIfInBounds_toArray, List.set_cons_zero, List.set_cons_succ, i64_w, i32_w]
    rfl
  refine last_ (i := 22) (N := none) #[true, true, true, true, true, true, true, true, true, true, true, true, true, true, true, true, true, true, true, true, true, true, true, false, false] rfl rfl (by kernel_rfl) (by decide) (fun K hK => ?_)
  refine skip_ (w1 := ?_) (by rfl) rfl ?_ ?_
  rotate_left
  · go_simp
    rfl
  refine hK.out _ _ ?_
  clear hK K
  refine pure_ (i := 23) (N := some 30) (v := ?_) (a' := ?_) #[true, true, true, true, true, true, true, true, true, true, true, true, true, true, true, true, true, true, true, true, true, true, true, true, false] rfl rfl (by kernel_rfl) (fun _ _ _ h => h) (Or.inl ⟨by rfl, ?_⟩) ?_ ?_
  rotate_left
  · intro w'
    go_simp
    with_reducible rfl
  rotate_left
  · simp only [Act.put, List.setIfInBounds_toArray, List.set_cons_zero, List.set_cons_succ, i64_w, i32_w]
    rfl
  refine last_ (i := 24) (N := none) #[true, true, true, true, true, true, true, true, true, true, true, true, true, true, true, true, true, true, true, true, true, true, true, true, true] rfl rfl (by kernel_rfl) (by decide) (fun K hK => ?_)
  refine skip_ (w1 := ?_) (by rfl) rfl ?_ ?_
  rotate_left
  · go_simp
    rfl
  refine hK.out _ _ ?_
  clear hK K
  refine done_ (by kernel_rfl) ?_
  go_wp2_with fail
  obtain ⟨S', RO', hd, hS, hR⟩ := copied_mem (RO := RO) (w := w) (N3 := w3.heap.size) rfl hB.out hpos r1.out (by omega) (by omega) (Kd.R_tight rfl r2.out) (fun q hq => by
    have h9 := r2.out.1 q hq
    exact ⟨Nat.lt_of_lt_of_le hn2' h9.1, h9.2.2.1⟩) (Kd.R_mono r3.out (fun q hq => hq.imp id (fun h => ⟨h.1.imp id (fun h => h.1), h.2⟩))) hw3.out
  go_ret
  refine ⟨w.heap.size, S', RO', rfl, hd, hS, hR, ?_⟩
  exact (((below_then hb1.out hb1.out.size b4'.out).setCell (show w.heap.size ≤ (⟨w.heap.size, 0, none⟩ : Addr).block from Nat.le_refl _) _).setCell (show w.heap.size ≤ (⟨w.heap.size, 1, none⟩ : Addr).block from Nat.le_refl _) _).setCell (show w.heap.size ≤ (⟨w.heap.size, 2, none⟩ : Addr).block from Nat.le_refl _) _
end Go.Proofs.Ytolighikimpbfaa
