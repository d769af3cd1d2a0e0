/- does: Write, Sync. -/
import Derived.Test.YtolighikimpbfaaSb
set_option linter.unusedVariables false
set_option linter.unusedSimpArgs false
namespace Go.Proofs.Ytolighikimpbfaa
open Go.RowKit Go.Shelf Go.Proofs.YtolighikimpbfaaW.PrintWords Go.Proofs.YtolighikimpbfaaW.PrintMore Go.Proofs.YtolighikimpbfaaW.PrintLast

set_option maxRecDepth 20000 in
set_option maxHeartbeats 4000000 in
theorem does_write (O Z Oe : Nat → Prop) (g : Nat) (v : Value) (ds : DS) (k : Nat) (w : World) (x : Act) (Ab : Option Addr) (cb : Nat) (h : Own2 O Z w g ds) (hZ : ∀ q, Z q → O q) (hr : Ref w Oe v ds) (hOe : ∀ q, Oe q → O q ∧ ¬ Z q) (hO : ∀ q, O q → q < w.heap.size) (hu : Upto k ds) (hk : k < 1000000)
    (hbl : x.b.length ≤ 262144) (hb : u8.F w O Ab x.b.length (toI x.b)) (hx : x.kind = 1) :
    Calls Try.prog 20 #[.pointer (some ⟨g, 0, none⟩), v, actV x Ab cb] w (DoesPost w O Z (ds.does x)) := by
  have hd : ds.does x = (ds.write x.at_ x.b).1 := by unfold DS.does; rw [if_pos hx]
  have hf := hu.fine
  rw [hd]
  unfold actV
  rw [hx]
  have hr0 := hr
  obtain ⟨A, c, A2, c2, rfl, h1, h2, h3, h4⟩ := hr
  obtain ⟨n1, hn1⟩ : ∃ n1, ds.lasts.length = n1 := ⟨_, rfl⟩
  obtain ⟨n2, hn2⟩ : ∃ n2, ds.waits.length = n2 := ⟨_, rfl⟩
  rw [hn1, hn2] at hr0 ⊢
  obtain ⟨w1, hw1⟩ : ∃ w1, ((w.alloc (.cells #[.slice A n1 c, .slice A2 n2 c2, .int .i64 ds.armed, .int .i64 ds.limit, .int .i64 ds.done] 45)).alloc (.cells #[.int .i64 1, .int .i64 x.at_, .int .i64 x.n, .slice Ab x.b.length cb, .int .i64 x.keep, .int .i64 x.torn] 34)).alloc (.cells #[.slice none 0 0, .slice none 0 0, .int .i64 0, .int .i64 0, .int .i64 0] 45) = w1 := ⟨_, rfl⟩
  obtain ⟨hz1, hb1, H1, H2, H3⟩ := three_boxes w _ _ _ w1 hw1
  obtain ⟨a0, a1, a2, a3, a4, _⟩ := blk5 H1
  obtain ⟨p0, p1, p2, p3, p4, p5⟩ := blk6 H2
  have hwr := Aside0.mk (rwrite_calls Oe O _ ds w1 (hr0.below hb1) hf x.at_ Ab cb x.b hbl (Kd.F_below hb hb1))
  replace hb1 := Aside0.mk hb1
  replace H1 := Aside0.mk H1
  replace H2 := Aside0.mk H2
  replace H3 := Aside0.mk H3
  replace hr0 := Aside0.mk hr0
  replace hn1 := Aside0.mk hn1
  replace hn2 := Aside0.mk hn2
  replace hf := Aside0.mk hf
  replace h := Aside0.mk h
  replace hO := Aside0.mk hO
  replace hOe := Aside0.mk hOe
  replace hZ := Aside0.mk hZ
  replace hb := Aside0.mk hb
  clear h1 h2 h3 h4 hu hd hx
  go_enter Try.func20, Try.ntmps20
  go_wp2_with fail
  refine hwr.out.mono ?_
  rintro e w2 ⟨u, rfl, hu2, hb2⟩
  have hu0 := hu2
  obtain ⟨A5, c5, A6, c6, rfl, _, _, _, _⟩ := hu2
  generalize hn5 : (ds.write x.at_ x.b).1.lasts.length = n5 at *
  generalize hn6 : (ds.write x.at_ x.b).1.waits.length = n6 at *
  generalize hq3 : (ds.write x.at_ x.b).1.armed = q3 at *
  generalize hq4 : (ds.write x.at_ x.b).1.limit = q4 at *
  generalize hq5 : (ds.write x.at_ x.b).1.done = q5 at *
  generalize hno : (ds.write x.at_ x.b).2 = no at *
  have hz2 := hb2.size
  have hb3 := below_alloc (Below.refl w2.heap.size w2) (.cells #[.slice A5 n5 c5, .slice A6 n6 c6, .int .i64 q3, .int .i64 q4, .int .i64 q5] 45)
  have G9 := Go.heap_alloc_new w2 (.cells #[.slice A5 n5 c5, .slice A6 n6 c6, .int .i64 q3, .int .i64 q4, .int .i64 q5] 45)
  have hz3 : (w2.alloc (.cells #[.slice A5 n5 c5, .slice A6 n6 c6, .int .i64 q3, .int .i64 q4, .int .i64 q5] 45)).heap.size = w2.heap.size + 1 := by simp
  obtain ⟨w3, hw3⟩ : ∃ w3, w2.alloc (.cells #[.slice A5 n5 c5, .slice A6 n6 c6, .int .i64 q3, .int .i64 q4, .int .i64 q5] 45) = w3 := ⟨_, rfl⟩
  obtain ⟨B9, hB9⟩ : ∃ B9, w2.heap.size = B9 := ⟨_, rfl⟩
  rw [hw3] at hb3 G9 hz3
  have hb13 := below_then hb2 hb2.size hb3
  have hb03 := below_then hb1.out hb1.out.size hb13
  have hOw : Own2 (fun q => O q ∨ (w.heap.size ≤ q ∧ q < w3.heap.size)) (fun q => Z q ∨ (w.heap.size ≤ q ∧ q < w3.heap.size)) w3.drew g ds := ((h.out.fresh hb03).weaken (fun q hq => hq.imp id (fun h => h.1)) (fun q hq => hq.imp id (fun h => h.1))).below (below_drew (Below.refl _ _))
  have hRf : Ref w3 (fun q => Oe q ∨ (w.heap.size + 3 ≤ q ∧ q < w3.heap.size)) (.agg #[.slice A5 n5 c5, .slice A6 n6 c6, .int .i64 q3, .int .i64 q4, .int .i64 q5]) (ds.write x.at_ x.b).1 :=
    (hu0.bound.below hb3).mono (fun q hq => by rcases hq.1 with h | h; exact .inl h; exact .inr ⟨by omega, by have := hq.2; omega⟩)
  have hO3 : ∀ q, (O q ∨ (w.heap.size ≤ q ∧ q < w3.heap.size)) → q < w3.heap.size := fun q hq => by
    rcases hq with hq | hq
    · have := hO.out q hq; omega
    · exact hq.2
  have hwo := write_own2 hOw (fun q hq => hq.imp (hZ.out q) id) hO3 hf.out x.at_ Ab cb x.b hbl _ (Kd.F_below hb.out (below_then hb03 hb03.size (below_drew (Below.refl _ _)))) (fun q hq => .inl hq)
  rw [hno] at hwo
  have hX : ∀ W, Stays (fun q => O q ∨ (w.heap.size ≤ q ∧ q < w3.heap.size)) w3 W → W.cell? ⟨B9, 0, none⟩ = some (.slice A5 n5 c5) ∧ W.cell? ⟨B9, 1, none⟩ = some (.slice A6 n6 c6) ∧ W.cell? ⟨B9, 2, none⟩ = some (.int .i64 q3) ∧
      W.cell? ⟨B9, 3, none⟩ = some (.int .i64 q4) ∧ W.cell? ⟨B9, 4, none⟩ = some (.int .i64 q5) ∧ W.cell? ⟨w.heap.size + 1, 1, none⟩ = some (.int .i64 x.at_) ∧ W.cell? ⟨w.heap.size + 1, 3, none⟩ = some (.slice Ab x.b.length cb) := fun W hW => by
    have g9 := blk5 ((hW.blk (k := B9) (.inr ⟨by omega, by omega⟩) (by omega)).trans (hB9 ▸ G9))
    have g2 := blk6 ((hW.blk (k := w.heap.size + 1) (.inr ⟨by omega, by omega⟩) (by omega)).trans ((hb13.block _ (by omega)).trans H2.out))
    exact ⟨g9.1, g9.2.1, g9.2.2.1, g9.2.2.2.1, g9.2.2.2.2.1, g2.2.1, g2.2.2.2.1⟩
  have hs0 : Stays (fun q => O q ∨ (w.heap.size ≤ q ∧ q < w3.heap.size)) w3 w3.drew := (Stays.refl _ _).drew
  have hR3 : w3.heap[w.heap.size + 2]? = some (.cells #[.slice none 0 0, .slice none 0 0, .int .i64 0, .int .i64 0, .int .i64 0] 45 (0, 0)) := (hb13.block _ (by omega)).trans H3.out
  replace hX := Aside0.mk hX
  replace hs0 := Aside0.mk hs0
  replace hwo := Aside0.mk hwo
  replace hR3 := Aside0.mk hR3
  replace hOw := Aside0.mk hOw
  replace hRf := Aside0.mk hRf
  replace hO3 := Aside0.mk hO3
  have hb03 := Aside0.mk hb03
  have hB9 := Aside0.mk hB9
  replace hn5 := Aside0.mk hn5
  replace hn6 := Aside0.mk hn6
  replace hq3 := Aside0.mk hq3
  replace hq4 := Aside0.mk hq4
  replace hq5 := Aside0.mk hq5
  replace hno := Aside0.mk hno
  clear hwr G9 hb2 hb3 hb13 hu0 a0 a1 a2 a3 a4 p0 p2 p4 p5
  go_wp2_with fail
  refine start_ (n := 13) (S := fun w' => w'.cell? ⟨B9, 0, none⟩ = some (.slice A5 n5 c5) ∧ w'.cell? ⟨B9, 1, none⟩ = some (.slice A6 n6 c6) ∧ w'.cell? ⟨B9, 2, none⟩ = some (.int .i64 q3) ∧ w'.cell? ⟨B9, 3, none⟩ = some (.int .i64 q4) ∧ w'.cell? ⟨B9, 4, none⟩ = some (.int .i64 q5) ∧ w'.cell? ⟨w.heap.size + 1, 1, none⟩ = some (.int .i64 x.at_) ∧ w'.cell? ⟨w.heap.size + 1, 3, none⟩ = some (.slice Ab x.b.length cb)) (ds := [11]) #[false, false, false, false, false, false, false, false, false, false, false, false, false] (by kernel_rfl) rfl rfl ⟨(hX.out _ hs0.out).1, (hX.out _ hs0.out).2.1, (hX.out _ hs0.out).2.2.1, (hX.out _ hs0.out).2.2.2.1, (hX.out _ hs0.out).2.2.2.2.1, (hX.out _ hs0.out).2.2.2.2.2.1, (hX.out _ hs0.out).2.2.2.2.2.2⟩ (fun hHeld => ?_)
  refine pure_ (i := 0) (N := some 29) (v := ?_) (a' := ?_) #[true, false, false, false, false, false, false, false, false, false, false, false, false] rfl rfl (by kernel_rfl) (fun _ _ _ h => h) (Or.inl ⟨by rfl, ?_⟩) ?_ ?_
  rotate_left
  · intro w'
    go_simp
    with_reducible rfl
  rotate_left
  · simp only [Act.put, List.setIfInBounds_toArray, List.set_cons_zero, List.set_cons_succ, i64_w, i32_w]
    rfl
  refine pure_ (i := 2) (N := some 31) (v := ?_) (a' := ?_) #[true, false, true, false, false, false, false, false, false, false, false, false, false] rfl rfl (by kernel_rfl) (fun _ _ _ h => h) (Or.inl ⟨by rfl, ?_⟩) ?_ ?_
  rotate_left
  · intro w'
    go_simp
    with_reducible rfl
  rotate_left
  · simp only [Act.put, List.setIfInBounds_toArray, List.set_cons_zero, List.set_cons_succ, i64_w, i32_w]
    rfl
  refine pure_ (i := 3) (N := some 32) (v := ?_) (a' := ?_) #[true, false, true, true, false, false, false, false, false, false, false, false, false] rfl rfl (by kernel_rfl) (fun _ _ _ h => h) (Or.inl ⟨by rfl, ?_⟩) ?_ ?_
  rotate_left
  · intro w'
    go_simp
    with_reducible rfl
  rotate_left
  · simp only [Act.put, List.setIfInBounds_toArray, List.set_cons_zero, List.set_cons_succ, i64_w, i32_w]
    rfl
  refine pure_ (i := 5) (N := some 34) (v := ?_) (a' := ?_) #[true, false, true, true, false, true, false, false, false, false, false, false, false] rfl rfl (by kernel_rfl) (fun _ _ _ h => h) (Or.inl ⟨by rfl, ?_⟩) ?_ ?_
  rotate_left
  · intro w'
    go_simp
    with_reducible rfl
  rotate_left
  · simp only [Act.put, List.setIfInBounds_toArray, List.set_cons_zero, List.set_cons_succ, i64_w, i32_w]
    rfl
  refine pure_ (i := 8) (N := some 37) (v := ?_) (a' := ?_) #[true, false, true, true, false, true, false, false, true, false, false, false, false] rfl rfl (by kernel_rfl) (fun _ _ _ h => h) (Or.inl ⟨by rfl, ?_⟩) ?_ ?_
  rotate_left
  · intro w'
    go_simp
    with_reducible rfl
  rotate_left
  · simp only [Act.put, List.setIfInBounds_toArray, List.set_cons_zero, List.set_cons_succ, i64_w, i32_w]
    rfl
  refine take_ (i := 1) (N := some 30) (v := ?_) (a' := ?_) #[true, true, true, true, false, true, false, false, true, false, false, false, false] rfl rfl (by kernel_rfl) (fun _ _ _ h => h) (Or.inl ⟨by rfl, ?_⟩) hHeld ?_ ?_
  rotate_left
  · rintro w' ⟨s0, s1, s2, s3, s4, s5, s6⟩
    go_simp
    with_reducible rfl
  rotate_left
  · simp only [Act.put, List.setIfInBounds_toArray, List.set_cons_zero, List.set_cons_succ, i64_w, i32_w]
    rfl
  refine take_ (i := 4) (N := some 33) (v := ?_) (a' := ?_) #[true, true, true, true, true, true, false, false, true, false, false, false, false] rfl rfl (by kernel_rfl) (fun _ _ _ h => h) (Or.inl ⟨by rfl, ?_⟩) hHeld ?_ ?_
  rotate_left
  · rintro w' ⟨s0, s1, s2, s3, s4, s5, s6⟩
    go_simp
    with_reducible rfl
  rotate_left
  · simp only [Act.put, List.setIfInBounds_toArray, List.set_cons_zero, List.set_cons_succ, i64_w, i32_w]
    rfl
  refine take_ (i := 6) (N := some 35) (v := ?_) (a' := ?_) #[true, true, true, true, true, true, true, false, true, false, false, false, false] rfl rfl (by kernel_rfl) (fun _ _ _ h => h) (Or.inl ⟨by rfl, ?_⟩) hHeld ?_ ?_
  rotate_left
  · rintro w' ⟨s0, s1, s2, s3, s4, s5, s6⟩
    go_simp
    with_reducible rfl
  rotate_left
  · simp only [Act.put, List.setIfInBounds_toArray, List.set_cons_zero, List.set_cons_succ, i64_w, i32_w]
    rfl
  refine one_ (i := 7) (N := some 36) #[true, true, true, true, true, true, true, true, true, false, false, false, false] rfl rfl (by kernel_rfl) (by decide) (fun K hK => ?_)
  refine goes_ Try.func12 (by kernel_rfl) rfl #[.pointer (some ⟨g, 0, none⟩), .int .i64 x.at_, .slice Ab x.b.length cb] (by rfl) rfl rfl (by simp only [List.map_toArray, List.map_cons, List.map_nil]; rfl) ?_
  with_reducible refine (hwo.out).mono ?_
  rintro e w4 ⟨rfl, ho4, hs4⟩
  refine ⟨_, rfl, ?_⟩
  have hs4 := Aside0.mk (hs0.out.trans hs4 (fun _ h => h))
  obtain ⟨e0, e1, e2, e3, e4, e5⟩ := blk5 ((hs4.out.blk (k := w.heap.size + 2) (.inr ⟨by omega, by omega⟩) (by omega)).trans hR3.out)
  replace ho4 := Aside0.mk ho4
  refine hK.out _ _ ⟨(hX.out _ hs4.out).1, (hX.out _ hs4.out).2.1, (hX.out _ hs4.out).2.2.1, (hX.out _ hs4.out).2.2.2.1, (hX.out _ hs4.out).2.2.2.2.1, (hX.out _ hs4.out).2.2.2.2.2.1, (hX.out _ hs4.out).2.2.2.2.2.2⟩ (fun hHeld => ?_)
  clear hK K
  refine norm_ (a' := ?_) ?_ ?_
  rotate_left
  · show Act.put _ (some 36) _ = _
    simp only [Act.put, List.setIfInBounds_toArray, List.set_cons_zero, List.set_cons_succ, i64_w, i32_w]
    rfl
  refine pure_ (i := 9) (N := some 38) (v := ?_) (a' := ?_) #[true, true, true, true, true, true, true, true, true, true, false, false, false] rfl rfl (by kernel_rfl) (fun _ _ _ h => h) (Or.inl ⟨by rfl, ?_⟩) ?_ ?_
  rotate_left
  · intro w'
    go_simp
    with_reducible rfl
  rotate_left
  · simp only [Act.put, List.setIfInBounds_toArray, List.set_cons_zero, List.set_cons_succ, i64_w, i32_w]
    rfl
  refine pure_ (i := 10) (N := some 6) (v := ?_) (a' := ?_) #[true, true, true, true, true, true, true, true, true, true, true, false, false] rfl rfl (by kernel_rfl) (fun _ _ _ h => h) (Or.inl ⟨by rfl, ?_⟩) ?_ ?_
  rotate_left
  · intro w'
    go_simp
    with_reducible rfl
  rotate_left
  · simp only [Act.put, List.setIfInBounds_toArray, List.set_cons_zero, List.set_cons_succ, i64_w, i32_w]
    rfl
  refine last_ (i := 11) (N := none) #[true, true, true, true, true, true, true, true, true, true, true, true, false] rfl rfl (by kernel_rfl) (by decide) (fun K hK => ?_)
  refine skip_ (w1 := ?_) (by rfl) rfl ?_ ?_
  rotate_left
  · go_simp
    rfl
  refine hK.out _ _ ?_
  clear hK K
  refine pure_ (i := 12) (N := some 8) (v := ?_) (a' := ?_) #[true, true, true, true, true, true, true, true, true, true, true, true, true] rfl rfl (by kernel_rfl) (fun _ _ _ h => h) (Or.inl ⟨by rfl, ?_⟩) ?_ ?_
  rotate_left
  · intro w'
    go_simp
    with_reducible rfl
  rotate_left
  · simp only [Act.put, List.setIfInBounds_toArray, List.set_cons_zero, List.set_cons_succ, i64_w, i32_w]
    rfl
  refine done_ (by kernel_rfl) ?_
  go_wp2_with fail
  have K2 := (hs4.out.blk (k := w.heap.size + 2) (.inr ⟨by omega, by omega⟩) (by omega)).trans hR3.out
  have hm5 := mod5 w4 (w.heap.size + 2) (.slice A5 n5 c5) (.slice A6 n6 c6) (.int .i64 q3) (.int .i64 q4) (.int .i64 q5)
  refine bodyPost_ret (results_tct rfl _ _ (w.heap.size + 2) 45 #[.slice A5 n5 c5, .slice A6 n6 c6, .int .i64 q3, .int .i64 q4, .int .i64 q5] (0, 0) _ rfl (set5 K2 _ _ _ _ _) Try.underlying45 rfl size45) rfl ⟨g, _, _, fun q => Oe q ∨ (w.heap.size + 3 ≤ q ∧ q < w3.heap.size), rfl, (ho4.out.mod hm5 (fun q hq => by subst hq; exact ⟨.inr ⟨by omega, by omega⟩, .inr ⟨by omega, by omega⟩⟩)).weaken (fun _ h => h) (fun _ h => .inl h), ?_, fun q hq => .inl hq, ?_, ?_, ?_⟩
  · refine (hRf.out.mod hs4.out (fun q hq hn => hn (hq.imp (fun h => (hOe.out q h).1) (fun h => ⟨by omega, h.2⟩)))).mod hm5 (fun q hq hn => ?_)
    rcases hq with hq | hq
    · have := hO.out q (hOe.out q hq).1; omega
    · omega
  · exact fun q hq => Nat.lt_of_lt_of_le (hO3.out q hq) (Nat.le_trans hs4.out.size hm5.size)
  · rintro q (hq | hq)
    · exact ⟨.inl (hOe.out q hq).1, (hOe.out q hq).2⟩
    · exact ⟨.inr ⟨by omega, hq.2⟩, fun hn => by have := hO.out q (hZ.out q hn); omega⟩
  · exact Mod.trans ((Stays.of_below hb03.out).trans hs4.out (fun q hq => .inl hq)) hm5 (fun q hq => .inr (by omega))
end Go.Proofs.Ytolighikimpbfaa
