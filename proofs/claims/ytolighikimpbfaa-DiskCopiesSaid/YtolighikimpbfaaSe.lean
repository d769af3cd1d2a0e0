/- does: Arm. -/
import Derived.Test.YtolighikimpbfaaSd
set_option linter.unusedVariables false
set_option linter.unusedSimpArgs false
namespace Go.Proofs.Ytolighikimpbfaa
open Go.RowKit Go.Shelf Go.Proofs.YtolighikimpbfaaW.PrintWords Go.Proofs.YtolighikimpbfaaW.PrintMore Go.Proofs.YtolighikimpbfaaW.PrintLast

set_option maxRecDepth 20000 in
set_option maxHeartbeats 4000000 in
theorem does_arm (O Z Oe : Nat → Prop) (g : Nat) (v : Value) (ds : DS) (k : Nat) (w : World) (x : Act) (Ab : Option Addr) (cb : Nat) (h : Own2 O Z w g ds) (hZ : ∀ q, Z q → O q) (hr : Ref w Oe v ds) (hOe : ∀ q, Oe q → O q ∧ ¬ Z q) (hO : ∀ q, O q → q < w.heap.size) (hu : Upto k ds) (hk : k < 1000000)
    (hbl : x.b.length ≤ 262144) (hb : u8.F w O Ab x.b.length (toI x.b)) (hx : x.kind = 3) :
    Calls Try.prog 20 #[.pointer (some ⟨g, 0, none⟩), v, actV x Ab cb] w (DoesPost w O Z (ds.does x)) := by
  have hd : ds.does x = ds.arm x.n := by unfold DS.does; rw [if_neg (by rw [hx]; decide), if_neg (by rw [hx]; decide), if_pos hx]
  have hf := hu.fine
  rw [hd]
  unfold actV
  rw [hx]
  have hr0 := hr
  obtain ⟨A, c, A2, c2, rfl, h1, h2, h3, h4⟩ := hr
  obtain ⟨n1, hn1⟩ : ∃ n1, ds.lasts.length = n1 := ⟨_, rfl⟩
  obtain ⟨n2, hn2⟩ : ∃ n2, ds.waits.length = n2 := ⟨_, rfl⟩
  rw [hn1, hn2] at hr0 ⊢
  obtain ⟨w1, hw1⟩ : ∃ w1, ((w.alloc (.cells #[.slice A n1 c, .slice A2 n2 c2, .int .i64 ds.armed, .int .i64 ds.limit, .int .i64 ds.done] 45)).alloc (.cells #[.int .i64 3, .int .i64 x.at_, .int .i64 x.n, .slice Ab x.b.length cb, .int .i64 x.keep, .int .i64 x.torn] 34)).alloc (.cells #[.slice none 0 0, .slice none 0 0, .int .i64 0, .int .i64 0, .int .i64 0] 45) = w1 := ⟨_, rfl⟩
  obtain ⟨hz1, hb1, H1, H2, H3⟩ := three_boxes w _ _ _ w1 hw1
  obtain ⟨a0, a1, a2, a3, a4, _⟩ := blk5 H1
  obtain ⟨p0, p1, p2, p3, p4, p5⟩ := blk6 H2
  have hwr := Aside0.mk (rarm_calls Oe _ ds w1.drew ((hr0.below hb1).below (below_drew (Below.refl _ _))) x.n)
  replace hb1 := Aside0.mk hb1
  replace H1 := Aside0.mk H1
  replace H2 := Aside0.mk H2
  replace H3 := Aside0.mk H3
  replace hr0 := Aside0.mk hr0
  replace hn1 := Aside0.mk hn1
  replace hn2 := Aside0.mk hn2
  replace hf := Aside0.mk hf
  replace h := Aside0.mk h
  replace hO := Aside0.mk hO
  replace hOe := Aside0.mk hOe
  replace hZ := Aside0.mk hZ
  replace hb := Aside0.mk hb
  have hX : ∀ W, Below w1.heap.size w1 W → W.cell? ⟨w.heap.size, 0, none⟩ = some (.slice A n1 c) ∧ W.cell? ⟨w.heap.size, 1, none⟩ = some (.slice A2 n2 c2) ∧ W.cell? ⟨w.heap.size, 2, none⟩ = some (.int .i64 ds.armed) ∧
      W.cell? ⟨w.heap.size, 3, none⟩ = some (.int .i64 ds.limit) ∧ W.cell? ⟨w.heap.size, 4, none⟩ = some (.int .i64 ds.done) ∧ W.cell? ⟨w.heap.size + 1, 2, none⟩ = some (.int .i64 x.n) := fun W hW => by
    have g9 := blk5 ((hW.block w.heap.size (by omega)).trans H1.out)
    have g2 := blk6 ((hW.block (w.heap.size + 1) (by omega)).trans H2.out)
    exact ⟨g9.1, g9.2.1, g9.2.2.1, g9.2.2.2.1, g9.2.2.2.2.1, g2.2.2.1⟩
  have hY : ∀ (O9 : Nat → Prop) (w9 W : World), Below w1.heap.size w1 w9 → Stays (fun q => O9 q ∨ (w.heap.size ≤ q ∧ q < w9.heap.size)) w9 W → W.cell? ⟨w.heap.size, 0, none⟩ = some (.slice A n1 c) ∧ W.cell? ⟨w.heap.size, 1, none⟩ = some (.slice A2 n2 c2) ∧ W.cell? ⟨w.heap.size, 2, none⟩ = some (.int .i64 ds.armed) ∧
      W.cell? ⟨w.heap.size, 3, none⟩ = some (.int .i64 ds.limit) ∧ W.cell? ⟨w.heap.size, 4, none⟩ = some (.int .i64 ds.done) ∧ W.cell? ⟨w.heap.size + 1, 2, none⟩ = some (.int .i64 x.n) := fun O9 w9 W h9 hW => by
    have := h9.size
    have g9 := blk5 ((hW.blk (k := w.heap.size) (.inr ⟨by omega, by omega⟩) (by omega)).trans ((h9.block w.heap.size (by omega)).trans H1.out))
    have g2 := blk6 ((hW.blk (k := w.heap.size + 1) (.inr ⟨by omega, by omega⟩) (by omega)).trans ((h9.block (w.heap.size + 1) (by omega)).trans H2.out))
    exact ⟨g9.1, g9.2.1, g9.2.2.1, g9.2.2.2.1, g9.2.2.2.2.1, g2.2.2.1⟩
  have hr9 : Below w1.heap.size w1 w1.drew := below_drew (Below.refl _ _)
  replace hX := Aside0.mk hX
  replace hY := Aside0.mk hY
  replace hr9 := Aside0.mk hr9
  clear h1 h2 h3 h4 hu hd hx hb hbl p1 p3 p4 p5
  go_enter Try.func20, Try.ntmps20
  go_wp2_with fail
  refine start_ (n := 13) (S := fun w' => w'.cell? ⟨w.heap.size, 0, none⟩ = some (.slice A n1 c) ∧ w'.cell? ⟨w.heap.size, 1, none⟩ = some (.slice A2 n2 c2) ∧ w'.cell? ⟨w.heap.size, 2, none⟩ = some (.int .i64 ds.armed) ∧ w'.cell? ⟨w.heap.size, 3, none⟩ = some (.int .i64 ds.limit) ∧ w'.cell? ⟨w.heap.size, 4, none⟩ = some (.int .i64 ds.done) ∧ w'.cell? ⟨w.heap.size + 1, 2, none⟩ = some (.int .i64 x.n)) (ds := [11]) #[false, false, false, false, false, false, false, false, false, false, false, false, false] (by kernel_rfl) rfl rfl ⟨(hX.out _ hr9.out).1, (hX.out _ hr9.out).2.1, (hX.out _ hr9.out).2.2.1, (hX.out _ hr9.out).2.2.2.1, (hX.out _ hr9.out).2.2.2.2.1, (hX.out _ hr9.out).2.2.2.2.2⟩ (fun hHeld => ?_)
  refine pure_ (i := 0) (N := some 54) (v := ?_) (a' := ?_) #[true, false, false, false, false, false, false, false, false, false, false, false, false] rfl rfl (by kernel_rfl) (fun _ _ _ h => h) (Or.inl ⟨by rfl, ?_⟩) ?_ ?_
  rotate_left
  · intro w'
    go_simp
    with_reducible rfl
  rotate_left
  · simp only [Act.put, List.setIfInBounds_toArray, List.set_cons_zero, List.set_cons_succ, i64_w, i32_w]
    rfl
  refine pure_ (i := 2) (N := some 56) (v := ?_) (a' := ?_) #[true, false, true, false, false, false, false, false, false, false, false, false, false] rfl rfl (by kernel_rfl) (fun _ _ _ h => h) (Or.inl ⟨by rfl, ?_⟩) ?_ ?_
  rotate_left
  · intro w'
    go_simp
    with_reducible rfl
  rotate_left
  · simp only [Act.put, List.setIfInBounds_toArray, List.set_cons_zero, List.set_cons_succ, i64_w, i32_w]
    rfl
  refine pure_ (i := 5) (N := some 59) (v := ?_) (a' := ?_) #[true, false, true, false, false, true, false, false, false, false, false, false, false] rfl rfl (by kernel_rfl) (fun _ _ _ h => h) (Or.inl ⟨by rfl, ?_⟩) ?_ ?_
  rotate_left
  · intro w'
    go_simp
    with_reducible rfl
  rotate_left
  · simp only [Act.put, List.setIfInBounds_toArray, List.set_cons_zero, List.set_cons_succ, i64_w, i32_w]
    rfl
  refine pure_ (i := 6) (N := some 60) (v := ?_) (a' := ?_) #[true, false, true, false, false, true, true, false, false, false, false, false, false] rfl rfl (by kernel_rfl) (fun _ _ _ h => h) (Or.inl ⟨by rfl, ?_⟩) ?_ ?_
  rotate_left
  · intro w'
    go_simp
    with_reducible rfl
  rotate_left
  · simp only [Act.put, List.setIfInBounds_toArray, List.set_cons_zero, List.set_cons_succ, i64_w, i32_w]
    rfl
  refine take_ (i := 1) (N := some 55) (v := ?_) (a' := ?_) #[true, true, true, false, false, true, true, false, false, false, false, false, false] rfl rfl (by kernel_rfl) (fun _ _ _ h => h) (Or.inl ⟨by rfl, ?_⟩) hHeld ?_ ?_
  rotate_left
  · rintro w' ⟨s0, s1, s2, s3, s4, s5⟩
    go_simp
    with_reducible rfl
  rotate_left
  · simp only [Act.put, List.setIfInBounds_toArray, List.set_cons_zero, List.set_cons_succ, i64_w, i32_w]
    rfl
  refine take_ (i := 3) (N := some 57) (v := ?_) (a' := ?_) #[true, true, true, true, false, true, true, false, false, false, false, false, false] rfl rfl (by kernel_rfl) (fun _ _ _ h => h) (Or.inl ⟨by rfl, ?_⟩) hHeld ?_ ?_
  rotate_left
  · rintro w' ⟨s0, s1, s2, s3, s4, s5⟩
    go_simp
    with_reducible rfl
  rotate_left
  · simp only [Act.put, List.setIfInBounds_toArray, List.set_cons_zero, List.set_cons_succ, i64_w, i32_w]
    rfl
  refine take_ (i := 7) (N := some 61) (v := ?_) (a' := ?_) #[true, true, true, true, false, true, true, true, false, false, false, false, false] rfl rfl (by kernel_rfl) (fun _ _ _ h => h) (Or.inl ⟨by rfl, ?_⟩) hHeld ?_ ?_
  rotate_left
  · rintro w' ⟨s0, s1, s2, s3, s4, s5⟩
    go_simp
    with_reducible rfl
  rotate_left
  · simp only [Act.put, List.setIfInBounds_toArray, List.set_cons_zero, List.set_cons_succ, i64_w, i32_w]
    rfl
  refine one_ (i := 4) (N := some 58) #[true, true, true, true, true, true, true, true, false, false, false, false, false] rfl rfl (by kernel_rfl) (by decide) (fun K hK => ?_)
  refine goes_ Try.func38 (by kernel_rfl) rfl #[.agg #[.slice A n1 c, .slice A2 n2 c2, .int .i64 ds.armed, .int .i64 ds.limit, .int .i64 ds.done], .int .i64 x.n] (by rfl) rfl rfl (by simp only [List.map_toArray, List.map_cons, List.map_nil]; rfl) ?_
  with_reducible refine (hwr.out).mono ?_
  rintro e w2 ⟨u, rfl, hu2, hb2⟩
  refine ⟨_, rfl, ?_⟩
  have hu0 := hu2
  obtain ⟨A5, c5, A6, c6, rfl, _, _, _, _⟩ := hu2
  have hb2 : Aside0 (Below w1.heap.size w1 w2) := Aside0.mk (hr9.out.trans hb2)
  have hb02 := below_then hb1.out hb1.out.size hb2.out
  have hOw := (h.out.fresh hb02).weaken (O' := fun q => O q ∨ (w.heap.size ≤ q ∧ q < w2.heap.size)) (Z' := fun q => Z q ∨ (w.heap.size ≤ q ∧ q < w2.heap.size)) (fun q hq => hq.imp id (fun h => h.1)) (fun q hq => hq.imp id (fun h => h.1))
  have hwo := Aside0.mk (arm_own2 hOw x.n)
  have hu0 := Aside0.mk hu0
  have hb02 := Aside0.mk hb02
  have hz2 := hb2.out.size
  clear hOw
  refine hK.out _ _ ⟨(hX.out _ hb2.out).1, (hX.out _ hb2.out).2.1, (hX.out _ hb2.out).2.2.1, (hX.out _ hb2.out).2.2.2.1, (hX.out _ hb2.out).2.2.2.2.1, (hX.out _ hb2.out).2.2.2.2.2⟩ (fun hHeld => ?_)
  clear hK K
  refine norm_ (a' := ?_) ?_ ?_
  rotate_left
  · show Act.put _ (some 58) _ = _
    simp only [Act.put, List.setIfInBounds_toArray, List.set_cons_zero, List.set_cons_succ, i64_w, i32_w]
    rfl
  refine one_ (i := 8) (N := some 62) #[true, true, true, true, true, true, true, true, true, false, false, false, false] rfl rfl (by kernel_rfl) (by decide) (fun K hK => ?_)
  refine goes_ Try.func15 (by kernel_rfl) rfl #[.pointer (some ⟨g, 0, none⟩), .int .i64 x.n] (by rfl) rfl rfl (by simp only [List.map_toArray, List.map_cons, List.map_nil]; rfl) ?_
  with_reducible refine (hwo.out).mono ?_
  rintro e w4 ⟨rfl, ho4, hs4⟩
  refine ⟨_, rfl, ?_⟩
  obtain ⟨e0, e1, e2, e3, e4, e5⟩ := blk5 ((hs4.blk (k := w.heap.size + 2) (.inr ⟨by omega, by omega⟩) (by omega)).trans ((hb2.out.block _ (by omega)).trans H3.out))
  replace hs4 := Aside0.mk hs4
  replace ho4 := Aside0.mk ho4
  refine hK.out _ _ ⟨(hY.out _ _ _ hb2.out hs4.out).1, (hY.out _ _ _ hb2.out hs4.out).2.1, (hY.out _ _ _ hb2.out hs4.out).2.2.1, (hY.out _ _ _ hb2.out hs4.out).2.2.2.1, (hY.out _ _ _ hb2.out hs4.out).2.2.2.2.1, (hY.out _ _ _ hb2.out hs4.out).2.2.2.2.2⟩ (fun hHeld => ?_)
  clear hK K
  refine norm_ (a' := ?_) ?_ ?_
  rotate_left
  · show Act.put _ (some 62) _ = _
    simp only [Act.put, List.setIfInBounds_toArray, List.set_cons_zero, List.set_cons_succ, i64_w, i32_w]
    rfl
  refine pure_ (i := 9) (N := some 63) (v := ?_) (a' := ?_) #[true, true, true, true, true, true, true, true, true, true, false, false, false] rfl rfl (by kernel_rfl) (fun _ _ _ h => h) (Or.inl ⟨by rfl, ?_⟩) ?_ ?_
  rotate_left
  · intro w'
    go_simp
    with_reducible rfl
  rotate_left
  · simp only [Act.put, List.setIfInBounds_toArray, List.set_cons_zero, List.set_cons_succ, i64_w, i32_w]
    rfl
  refine pure_ (i := 10) (N := some 6) (v := ?_) (a' := ?_) #[true, true, true, true, true, true, true, true, true, true, true, false, false] rfl rfl (by kernel_rfl) (fun _ _ _ h => h) (Or.inl ⟨by rfl, ?_⟩) ?_ ?_
  rotate_left
  · intro w'
    go_simp
    with_reducible rfl
  rotate_left
  · simp only [Act.put, List.setIfInBounds_toArray, List.set_cons_zero, List.set_cons_succ, i64_w, i32_w]
    rfl
  refine last_ (i := 11) (N := none) #[true, true, true, true, true, true, true, true, true, true, true, true, false] rfl rfl (by kernel_rfl) (by decide) (fun K hK => ?_)
  refine skip_ (w1 := ?_) (by rfl) rfl ?_ ?_
  rotate_left
  · go_simp
    rfl
  refine hK.out _ _ ?_
  clear hK K
  refine pure_ (i := 12) (N := some 8) (v := ?_) (a' := ?_) #[true, true, true, true, true, true, true, true, true, true, true, true, true] rfl rfl (by kernel_rfl) (fun _ _ _ h => h) (Or.inl ⟨by rfl, ?_⟩) ?_ ?_
  rotate_left
  · intro w'
    go_simp
    with_reducible rfl
  rotate_left
  · simp only [Act.put, List.setIfInBounds_toArray, List.set_cons_zero, List.set_cons_succ, i64_w, i32_w]
    rfl
  refine done_ (by kernel_rfl) ?_
  go_wp2_with fail
  have K2 := (hs4.out.blk (k := w.heap.size + 2) (.inr ⟨by omega, by omega⟩) (by omega)).trans ((hb2.out.block _ (by omega)).trans H3.out)
  have hm5 := mod5 w4 (w.heap.size + 2) (.slice A5 (ds.arm x.n).lasts.length c5) (.slice A6 (ds.arm x.n).waits.length c6) (.int .i64 (ds.arm x.n).armed) (.int .i64 (ds.arm x.n).limit) (.int .i64 (ds.arm x.n).done)
  refine bodyPost_ret (results_tct rfl _ _ (w.heap.size + 2) 45 #[.slice A5 (ds.arm x.n).lasts.length c5, .slice A6 (ds.arm x.n).waits.length c6, .int .i64 (ds.arm x.n).armed, .int .i64 (ds.arm x.n).limit, .int .i64 (ds.arm x.n).done] (0, 0) _ rfl (set5 K2 _ _ _ _ _) Try.underlying45 rfl size45) rfl ⟨g, _, _, Oe, rfl, (ho4.out.mod hm5 (fun q hq => by subst hq; exact ⟨.inr ⟨by omega, by omega⟩, .inr ⟨by omega, by omega⟩⟩)).weaken (fun _ h => h) (fun _ h => .inl h), ?_, fun q hq => .inl hq, ?_, ?_, ?_⟩
  · refine Ref.mono ((hu0.out.mod hs4.out (fun q hq hn => hn (.inl (hOe.out q hq).1))).mod hm5 (fun q hq hn => ?_)) (fun q hq => hq)
    have := hO.out q (hOe.out q hq).1
    omega
  · refine fun q hq => Nat.lt_of_lt_of_le ?_ (Nat.le_trans hs4.out.size hm5.size)
    rcases hq with hq | hq
    · have := hO.out q hq; omega
    · exact hq.2
  · exact fun q hq => ⟨.inl (hOe.out q hq).1, (hOe.out q hq).2⟩
  · exact Mod.trans ((Stays.of_below hb02.out).trans hs4.out (fun q hq => .inl hq)) hm5 (fun q hq => .inr (by omega))
end Go.Proofs.Ytolighikimpbfaa
