/- does: Limit. -/
import Derived.Test.YtolighikimpbfaaSe
set_option linter.unusedVariables false
set_option linter.unusedSimpArgs false
namespace Go.Proofs.Ytolighikimpbfaa
open Go.RowKit Go.Shelf Go.Proofs.YtolighikimpbfaaW.PrintWords Go.Proofs.YtolighikimpbfaaW.PrintMore Go.Proofs.YtolighikimpbfaaW.PrintLast

set_option maxRecDepth 20000 in
set_option maxHeartbeats 4000000 in
theorem does_lim_no (O Z Oe : Nat → Prop) (g : Nat) (v : Value) (ds : DS) (k : Nat) (w : World) (x : Act) (Ab : Option Addr) (cb : Nat) (h : Own2 O Z w g ds) (hZ : ∀ q, Z q → O q) (hr : Ref w Oe v ds) (hOe : ∀ q, Oe q → O q ∧ ¬ Z q) (hO : ∀ q, O q → q < w.heap.size) (hu : Upto k ds) (hk : k < 1000000)
    (hbl : x.b.length ≤ 262144) (hb : u8.F w O Ab x.b.length (toI x.b)) (hx : x.kind = 4) (hn : x.n < 0 ∨ (ds.lasts.length : Int) < x.n) :
    Calls Try.prog 20 #[.pointer (some ⟨g, 0, none⟩), v, actV x Ab cb] w (DoesPost w O Z (ds.does x)) := by
  have hf := hu.fine
  have hlm : ds.lim x.n = (ds, 4) := by unfold DS.lim; rw [if_pos (by rw [← hf.las]; omega)]
  have hd : ds.does x = ds := by unfold DS.does; rw [if_neg (by rw [hx]; decide), if_neg (by rw [hx]; decide), if_neg (by rw [hx]; decide), if_pos hx, hlm]
  rw [hd]
  unfold actV
  rw [hx]
  have hr0 := hr
  obtain ⟨A, c, A2, c2, rfl, h1, h2, h3, h4⟩ := hr
  obtain ⟨n1, hn1⟩ : ∃ n1, ds.lasts.length = n1 := ⟨_, rfl⟩
  obtain ⟨n2, hn2⟩ : ∃ n2, ds.waits.length = n2 := ⟨_, rfl⟩
  rw [hn1, hn2] at hr0 ⊢
  rw [hn1] at hn
  obtain ⟨w1, hw1⟩ : ∃ w1, ((w.alloc (.cells #[.slice A n1 c, .slice A2 n2 c2, .int .i64 ds.armed, .int .i64 ds.limit, .int .i64 ds.done] 45)).alloc (.cells #[.int .i64 4, .int .i64 x.at_, .int .i64 x.n, .slice Ab x.b.length cb, .int .i64 x.keep, .int .i64 x.torn] 34)).alloc (.cells #[.slice none 0 0, .slice none 0 0, .int .i64 0, .int .i64 0, .int .i64 0] 45) = w1 := ⟨_, rfl⟩
  obtain ⟨hz1, hb1, H1, H2, H3⟩ := three_boxes w _ _ _ w1 hw1
  obtain ⟨a0, a1, a2, a3, a4, a5⟩ := blk5 H1
  obtain ⟨p0, p1, p2, p3, p4, p5⟩ := blk6 H2
  have H1' := H1
  have H2' := H2
  have H3' := H3
  have hz2 := Nat.le_refl w1.heap.size
  have hb2 := hb1
  have hOw := ((h.fresh hb2).weaken (O' := fun q => O q ∨ (w.heap.size ≤ q ∧ q < w1.heap.size)) (Z' := fun q => Z q ∨ (w.heap.size ≤ q ∧ q < w1.heap.size)) (fun q hq => hq.imp id (fun h => h.1)) (fun q hq => hq.imp id (fun h => h.1))).below (below_drew (Below.refl _ _))
  have hwo := lim_own2 hOw hf x.n
  rw [hlm] at hwo
  have hY : ∀ W, Stays (fun q => O q ∨ (w.heap.size ≤ q ∧ q < w1.heap.size)) w1 W → W.cell? ⟨w.heap.size, 0, none⟩ = some (.slice A n1 c) ∧ W.cell? ⟨w.heap.size, 1, none⟩ = some (.slice A2 n2 c2) ∧ W.cell? ⟨w.heap.size, 2, none⟩ = some (.int .i64 ds.armed) ∧
      W.cell? ⟨w.heap.size, 3, none⟩ = some (.int .i64 ds.limit) ∧ W.cell? ⟨w.heap.size, 4, none⟩ = some (.int .i64 ds.done) ∧ W.cell? ⟨w.heap.size + 1, 2, none⟩ = some (.int .i64 x.n) := fun W hW => by
    have g9 := blk5 ((hW.blk (k := w.heap.size) (.inr ⟨by omega, by omega⟩) (by omega)).trans H1')
    have g2 := blk6 ((hW.blk (k := w.heap.size + 1) (.inr ⟨by omega, by omega⟩) (by omega)).trans H2')
    exact ⟨g9.1, g9.2.1, g9.2.2.1, g9.2.2.2.1, g9.2.2.2.2.1, g2.2.2.1⟩
  have hs0 : Stays (fun q => O q ∨ (w.heap.size ≤ q ∧ q < w1.heap.size)) w1 w1.drew := (Stays.refl _ _).drew
  have hrf : Ref w1 Oe (.agg #[.slice A n1 c, .slice A2 n2 c2, .int .i64 ds.armed, .int .i64 ds.limit, .int .i64 ds.done]) ds := ⟨A, c, A2, c2, by show _ = Value.agg #[.slice A ds.lasts.length c, .slice A2 ds.waits.length c2, _, _, _]; rw [hn1, hn2], by show ds.lasts.length ≤ c; omega, by show ds.waits.length ≤ c2; omega, by show u8.F _ _ _ ds.lasts.length _; exact Kd.F_below h3 hb2, by show wk.F _ _ _ ds.waits.length _; exact Kd.F_below h4 hb2⟩
  replace hY := Aside0.mk hY
  replace hs0 := Aside0.mk hs0
  replace hwo := Aside0.mk hwo
  replace hrf := Aside0.mk hrf
  replace H3' := Aside0.mk H3'
  replace hb2 := Aside0.mk hb2
  replace hO := Aside0.mk hO
  replace hOe := Aside0.mk hOe
  replace hZ := Aside0.mk hZ
  have hD : (decide (x.n < 0) = true) ∨ (decide (x.n < 0) = false ∧ decide ((n1 : Int) < x.n) = true) := by
    by_cases hh : x.n < 0
    · exact .inl (by simpa using hh)
    · exact .inr ⟨by simpa using hh, by simp; omega⟩
  clear h h1 h2 h3 h4 hu hd hx hb hbl p1 p3 p4 p5 hOw hlm hr0 hf H1 H2 H3 hb1 H1' H2' hn1 hn2
  rcases hD with d1 | ⟨d1, d2⟩
  · go_enter Try.func20, Try.ntmps20
    go_wp2_with fail
    refine start_ (n := 10) (S := fun w' => w'.cell? ⟨w.heap.size, 0, none⟩ = some (.slice A n1 c) ∧ w'.cell? ⟨w.heap.size, 1, none⟩ = some (.slice A2 n2 c2) ∧ w'.cell? ⟨w.heap.size, 2, none⟩ = some (.int .i64 ds.armed) ∧ w'.cell? ⟨w.heap.size, 3, none⟩ = some (.int .i64 ds.limit) ∧ w'.cell? ⟨w.heap.size, 4, none⟩ = some (.int .i64 ds.done) ∧ w'.cell? ⟨w.heap.size + 1, 2, none⟩ = some (.int .i64 x.n)) (ds := [8]) #[false, false, false, false, false, false, false, false, false, false] (by kernel_rfl) rfl rfl ⟨(hY.out _ hs0.out).1, (hY.out _ hs0.out).2.1, (hY.out _ hs0.out).2.2.1, (hY.out _ hs0.out).2.2.2.1, (hY.out _ hs0.out).2.2.2.2.1, (hY.out _ hs0.out).2.2.2.2.2⟩ (fun hHeld => ?_)
    refine pure_ (i := 0) (N := some 77) (v := ?_) (a' := ?_) #[true, false, false, false, false, false, false, false, false, false] rfl rfl (by kernel_rfl) (fun _ _ _ h => h) (Or.inl ⟨by rfl, ?_⟩) ?_ ?_
    rotate_left
    · intro w'
      go_simp
      with_reducible rfl
    rotate_left
    · simp only [Act.put, List.setIfInBounds_toArray, List.set_cons_zero, List.set_cons_succ, i64_w, i32_w]
      rfl
    refine pure_ (i := 2) (N := some 79) (v := ?_) (a' := ?_) #[true, false, true, false, false, false, false, false, false, false] rfl rfl (by kernel_rfl) (fun _ _ _ h => h) (Or.inl ⟨by rfl, ?_⟩) ?_ ?_
    rotate_left
    · intro w'
      go_simp
      with_reducible rfl
    rotate_left
    · simp only [Act.put, List.setIfInBounds_toArray, List.set_cons_zero, List.set_cons_succ, i64_w, i32_w]
      rfl
    refine pure_ (i := 3) (N := some 80) (v := ?_) (a' := ?_) #[true, false, true, true, false, false, false, false, false, false] rfl rfl (by kernel_rfl) (fun _ _ _ h => h) (Or.inl ⟨by rfl, ?_⟩) ?_ ?_
    rotate_left
    · intro w'
      go_simp
      with_reducible rfl
    rotate_left
    · simp only [Act.put, List.setIfInBounds_toArray, List.set_cons_zero, List.set_cons_succ, i64_w, i32_w]
      rfl
    refine take_ (i := 1) (N := some 78) (v := ?_) (a' := ?_) #[true, true, true, true, false, false, false, false, false, false] rfl rfl (by kernel_rfl) (fun _ _ _ h => h) (Or.inl ⟨by rfl, ?_⟩) hHeld ?_ ?_
    rotate_left
    · rintro w' ⟨s0, s1, s2, s3, s4, s5⟩
      go_simp
      with_reducible rfl
    rotate_left
    · simp only [Act.put, List.setIfInBounds_toArray, List.set_cons_zero, List.set_cons_succ, i64_w, i32_w]
      rfl
    refine take_ (i := 4) (N := some 81) (v := ?_) (a' := ?_) #[true, true, true, true, true, false, false, false, false, false] rfl rfl (by kernel_rfl) (fun _ _ _ h => h) (Or.inl ⟨by rfl, ?_⟩) hHeld ?_ ?_
    rotate_left
    · rintro w' ⟨s0, s1, s2, s3, s4, s5⟩
      go_simp
      with_reducible rfl
    rotate_left
    · simp only [Act.put, List.setIfInBounds_toArray, List.set_cons_zero, List.set_cons_succ, i64_w, i32_w]
      rfl
    refine one_ (i := 5) (N := some 82) #[true, true, true, true, true, true, false, false, false, false] rfl rfl (by kernel_rfl) (by decide) (fun K hK => ?_)
    refine goes_ Try.func16 (by kernel_rfl) rfl #[.pointer (some ⟨g, 0, none⟩), .int .i64 x.n] (by rfl) rfl rfl (by simp only [List.map_toArray, List.map_cons, List.map_nil]; rfl) ?_
    with_reducible refine (hwo.out).mono ?_
    rintro e w4 ⟨rfl, ho4, hs4⟩
    refine ⟨_, rfl, ?_⟩
    have hs4 := Aside0.mk (hs0.out.trans hs4 (fun _ h => h))
    obtain ⟨e0, e1, e2, e3, e4, e5⟩ := blk5 ((hs4.out.blk (k := w.heap.size + 2) (.inr ⟨by omega, by omega⟩) (by omega)).trans H3'.out)
    replace ho4 := Aside0.mk ho4
    refine hK.out _ _ ⟨(hY.out _ hs4.out).1, (hY.out _ hs4.out).2.1, (hY.out _ hs4.out).2.2.1, (hY.out _ hs4.out).2.2.2.1, (hY.out _ hs4.out).2.2.2.2.1, (hY.out _ hs4.out).2.2.2.2.2⟩ (fun hHeld => ?_)
    clear hK K
    refine norm_ (a' := ?_) ?_ ?_
    rotate_left
    · show Act.put _ (some 82) _ = _
      simp only [Act.put, List.setIfInBounds_toArray, List.set_cons_zero, List.set_cons_succ, i64_w, i32_w]
      rfl
    refine pure_ (i := 6) (N := some 83) (v := ?_) (a' := ?_) #[true, true, true, true, true, true, true, false, false, false] rfl rfl (by kernel_rfl) (fun _ _ _ h => h) (Or.inl ⟨by rfl, ?_⟩) ?_ ?_
    rotate_left
    · intro w'
      go_simp
      with_reducible rfl
    rotate_left
    · simp only [Act.put, List.setIfInBounds_toArray, List.set_cons_zero, List.set_cons_succ, i64_w, i32_w]
      rfl
    refine pure_ (i := 7) (N := some 6) (v := ?_) (a' := ?_) #[true, true, true, true, true, true, true, true, false, false] rfl rfl (by kernel_rfl) (fun _ _ _ h => h) (Or.inl ⟨by rfl, ?_⟩) ?_ ?_
    rotate_left
    · intro w'
      go_simp
      with_reducible rfl
    rotate_left
    · simp only [Act.put, List.setIfInBounds_toArray, List.set_cons_zero, List.set_cons_succ, i64_w, i32_w]
      rfl
    refine last_ (i := 8) (N := none) #[true, true, true, true, true, true, true, true, true, false] rfl rfl (by kernel_rfl) (by decide) (fun K hK => ?_)
    refine skip_ (w1 := ?_) (by rfl) rfl ?_ ?_
    rotate_left
    · go_simp
      rfl
    refine hK.out _ _ ?_
    clear hK K
    refine pure_ (i := 9) (N := some 8) (v := ?_) (a' := ?_) #[true, true, true, true, true, true, true, true, true, true] rfl rfl (by kernel_rfl) (fun _ _ _ h => h) (Or.inl ⟨by rfl, ?_⟩) ?_ ?_
    rotate_left
    · intro w'
      go_simp
      with_reducible rfl
    rotate_left
    · simp only [Act.put, List.setIfInBounds_toArray, List.set_cons_zero, List.set_cons_succ, i64_w, i32_w]
      rfl
    refine done_ (by kernel_rfl) ?_
    go_wp2_with fail
    have K2 := (hs4.out.blk (k := w.heap.size + 2) (.inr ⟨by omega, by omega⟩) (by omega)).trans H3'.out
    have hm5 := mod5 w4 (w.heap.size + 2) (.slice A n1 c) (.slice A2 n2 c2) (.int .i64 ds.armed) (.int .i64 ds.limit) (.int .i64 ds.done)
    refine bodyPost_ret (results_tct rfl _ _ (w.heap.size + 2) 45 #[.slice A n1 c, .slice A2 n2 c2, .int .i64 ds.armed, .int .i64 ds.limit, .int .i64 ds.done] (0, 0) _ rfl (set5 K2 _ _ _ _ _) Try.underlying45 rfl size45) rfl ⟨g, _, _, Oe, rfl, (ho4.out.mod hm5 (fun q hq => by subst hq; exact ⟨.inr ⟨by omega, by omega⟩, .inr ⟨by omega, by omega⟩⟩)).weaken (fun _ h => h) (fun _ h => .inl h), ?_, fun q hq => .inl hq, ?_, ?_, ?_⟩
    · refine Ref.mono ((hrf.out.mod hs4.out (fun q hq hn => hn (.inl (hOe.out q hq).1))).mod hm5 (fun q hq hn => ?_)) (fun q hq => hq)
      have := hO.out q (hOe.out q hq).1
      omega
    · refine fun q hq => Nat.lt_of_lt_of_le ?_ (Nat.le_trans hs4.out.size hm5.size)
      rcases hq with hq | hq
      · have := hO.out q hq; omega
      · exact hq.2
    · exact fun q hq => ⟨.inl (hOe.out q hq).1, (hOe.out q hq).2⟩
    · exact Mod.trans ((Stays.of_below hb2.out).trans hs4.out (fun q hq => .inl hq)) hm5 (fun q hq => .inr (by omega))
  · go_enter Try.func20, Try.ntmps20
    go_wp2_with fail
    refine start_ (n := 10) (S := fun w' => w'.cell? ⟨w.heap.size, 0, none⟩ = some (.slice A n1 c) ∧ w'.cell? ⟨w.heap.size, 1, none⟩ = some (.slice A2 n2 c2) ∧ w'.cell? ⟨w.heap.size, 2, none⟩ = some (.int .i64 ds.armed) ∧ w'.cell? ⟨w.heap.size, 3, none⟩ = some (.int .i64 ds.limit) ∧ w'.cell? ⟨w.heap.size, 4, none⟩ = some (.int .i64 ds.done) ∧ w'.cell? ⟨w.heap.size + 1, 2, none⟩ = some (.int .i64 x.n)) (ds := [8]) #[false, false, false, false, false, false, false, false, false, false] (by kernel_rfl) rfl rfl ⟨(hY.out _ hs0.out).1, (hY.out _ hs0.out).2.1, (hY.out _ hs0.out).2.2.1, (hY.out _ hs0.out).2.2.2.1, (hY.out _ hs0.out).2.2.2.2.1, (hY.out _ hs0.out).2.2.2.2.2⟩ (fun hHeld => ?_)
    refine pure_ (i := 0) (N := some 77) (v := ?_) (a' := ?_) #[true, false, false, false, false, false, false, false, false, false] rfl rfl (by kernel_rfl) (fun _ _ _ h => h) (Or.inl ⟨by rfl, ?_⟩) ?_ ?_
    rotate_left
    · intro w'
      go_simp
      with_reducible rfl
    rotate_left
    · simp only [Act.put, List.setIfInBounds_toArray, List.set_cons_zero, List.set_cons_succ, i64_w, i32_w]
      rfl
    refine pure_ (i := 2) (N := some 79) (v := ?_) (a' := ?_) #[true, false, true, false, false, false, false, false, false, false] rfl rfl (by kernel_rfl) (fun _ _ _ h => h) (Or.inl ⟨by rfl, ?_⟩) ?_ ?_
    rotate_left
    · intro w'
      go_simp
      with_reducible rfl
    rotate_left
    · simp only [Act.put, List.setIfInBounds_toArray, List.set_cons_zero, List.set_cons_succ, i64_w, i32_w]
      rfl
    refine pure_ (i := 3) (N := some 80) (v := ?_) (a' := ?_) #[true, false, true, true, false, false, false, false, false, false] rfl rfl (by kernel_rfl) (fun _ _ _ h => h) (Or.inl ⟨by rfl, ?_⟩) ?_ ?_
    rotate_left
    · intro w'
      go_simp
      with_reducible rfl
    rotate_left
    · simp only [Act.put, List.setIfInBounds_toArray, List.set_cons_zero, List.set_cons_succ, i64_w, i32_w]
      rfl
    refine take_ (i := 1) (N := some 78) (v := ?_) (a' := ?_) #[true, true, true, true, false, false, false, false, false, false] rfl rfl (by kernel_rfl) (fun _ _ _ h => h) (Or.inl ⟨by rfl, ?_⟩) hHeld ?_ ?_
    rotate_left
    · rintro w' ⟨s0, s1, s2, s3, s4, s5⟩
      go_simp
      with_reducible rfl
    rotate_left
    · simp only [Act.put, List.setIfInBounds_toArray, List.set_cons_zero, List.set_cons_succ, i64_w, i32_w]
      rfl
    refine take_ (i := 4) (N := some 81) (v := ?_) (a' := ?_) #[true, true, true, true, true, false, false, false, false, false] rfl rfl (by kernel_rfl) (fun _ _ _ h => h) (Or.inl ⟨by rfl, ?_⟩) hHeld ?_ ?_
    rotate_left
    · rintro w' ⟨s0, s1, s2, s3, s4, s5⟩
      go_simp
      with_reducible rfl
    rotate_left
    · simp only [Act.put, List.setIfInBounds_toArray, List.set_cons_zero, List.set_cons_succ, i64_w, i32_w]
      rfl
    refine one_ (i := 5) (N := some 82) #[true, true, true, true, true, true, false, false, false, false] rfl rfl (by kernel_rfl) (by decide) (fun K hK => ?_)
    refine goes_ Try.func16 (by kernel_rfl) rfl #[.pointer (some ⟨g, 0, none⟩), .int .i64 x.n] (by rfl) rfl rfl (by simp only [List.map_toArray, List.map_cons, List.map_nil]; rfl) ?_
    with_reducible refine (hwo.out).mono ?_
    rintro e w4 ⟨rfl, ho4, hs4⟩
    refine ⟨_, rfl, ?_⟩
    have hs4 := Aside0.mk (hs0.out.trans hs4 (fun _ h => h))
    obtain ⟨e0, e1, e2, e3, e4, e5⟩ := blk5 ((hs4.out.blk (k := w.heap.size + 2) (.inr ⟨by omega, by omega⟩) (by omega)).trans H3'.out)
    replace ho4 := Aside0.mk ho4
    refine hK.out _ _ ⟨(hY.out _ hs4.out).1, (hY.out _ hs4.out).2.1, (hY.out _ hs4.out).2.2.1, (hY.out _ hs4.out).2.2.2.1, (hY.out _ hs4.out).2.2.2.2.1, (hY.out _ hs4.out).2.2.2.2.2⟩ (fun hHeld => ?_)
    clear hK K
    refine norm_ (a' := ?_) ?_ ?_
    rotate_left
    · show Act.put _ (some 82) _ = _
      simp only [Act.put, List.setIfInBounds_toArray, List.set_cons_zero, List.set_cons_succ, i64_w, i32_w]
      rfl
    refine pure_ (i := 6) (N := some 83) (v := ?_) (a' := ?_) #[true, true, true, true, true, true, true, false, false, false] rfl rfl (by kernel_rfl) (fun _ _ _ h => h) (Or.inl ⟨by rfl, ?_⟩) ?_ ?_
    rotate_left
    · intro w'
      go_simp
      with_reducible rfl
    rotate_left
    · simp only [Act.put, List.setIfInBounds_toArray, List.set_cons_zero, List.set_cons_succ, i64_w, i32_w]
      rfl
    refine pure_ (i := 7) (N := some 6) (v := ?_) (a' := ?_) #[true, true, true, true, true, true, true, true, false, false] rfl rfl (by kernel_rfl) (fun _ _ _ h => h) (Or.inl ⟨by rfl, ?_⟩) ?_ ?_
    rotate_left
    · intro w'
      go_simp
      with_reducible rfl
    rotate_left
    · simp only [Act.put, List.setIfInBounds_toArray, List.set_cons_zero, List.set_cons_succ, i64_w, i32_w]
      rfl
    refine last_ (i := 8) (N := none) #[true, true, true, true, true, true, true, true, true, false] rfl rfl (by kernel_rfl) (by decide) (fun K hK => ?_)
    refine skip_ (w1 := ?_) (by rfl) rfl ?_ ?_
    rotate_left
    · go_simp
      rfl
    refine hK.out _ _ ?_
    clear hK K
    refine pure_ (i := 9) (N := some 8) (v := ?_) (a' := ?_) #[true, true, true, true, true, true, true, true, true, true] rfl rfl (by kernel_rfl) (fun _ _ _ h => h) (Or.inl ⟨by rfl, ?_⟩) ?_ ?_
    rotate_left
    · intro w'
      go_simp
      with_reducible rfl
    rotate_left
    · simp only [Act.put, List.setIfInBounds_toArray, List.set_cons_zero, List.set_cons_succ, i64_w, i32_w]
      rfl
    refine done_ (by kernel_rfl) ?_
    go_wp2_with fail
    have K2 := (hs4.out.blk (k := w.heap.size + 2) (.inr ⟨by omega, by omega⟩) (by omega)).trans H3'.out
    have hm5 := mod5 w4 (w.heap.size + 2) (.slice A n1 c) (.slice A2 n2 c2) (.int .i64 ds.armed) (.int .i64 ds.limit) (.int .i64 ds.done)
    refine bodyPost_ret (results_tct rfl _ _ (w.heap.size + 2) 45 #[.slice A n1 c, .slice A2 n2 c2, .int .i64 ds.armed, .int .i64 ds.limit, .int .i64 ds.done] (0, 0) _ rfl (set5 K2 _ _ _ _ _) Try.underlying45 rfl size45) rfl ⟨g, _, _, Oe, rfl, (ho4.out.mod hm5 (fun q hq => by subst hq; exact ⟨.inr ⟨by omega, by omega⟩, .inr ⟨by omega, by omega⟩⟩)).weaken (fun _ h => h) (fun _ h => .inl h), ?_, fun q hq => .inl hq, ?_, ?_, ?_⟩
    · refine Ref.mono ((hrf.out.mod hs4.out (fun q hq hn => hn (.inl (hOe.out q hq).1))).mod hm5 (fun q hq hn => ?_)) (fun q hq => hq)
      have := hO.out q (hOe.out q hq).1
      omega
    · refine fun q hq => Nat.lt_of_lt_of_le ?_ (Nat.le_trans hs4.out.size hm5.size)
      rcases hq with hq | hq
      · have := hO.out q hq; omega
      · exact hq.2
    · exact fun q hq => ⟨.inl (hOe.out q hq).1, (hOe.out q hq).2⟩
    · exact Mod.trans ((Stays.of_below hb2.out).trans hs4.out (fun q hq => .inl hq)) hm5 (fun q hq => .inr (by omega))
set_option maxRecDepth 20000 in
set_option maxHeartbeats 4000000 in
theorem does_lim_yes (O Z Oe : Nat → Prop) (g : Nat) (v : Value) (ds : DS) (k : Nat) (w : World) (x : Act) (Ab : Option Addr) (cb : Nat) (h : Own2 O Z w g ds) (hZ : ∀ q, Z q → O q) (hr : Ref w Oe v ds) (hOe : ∀ q, Oe q → O q ∧ ¬ Z q) (hO : ∀ q, O q → q < w.heap.size) (hu : Upto k ds) (hk : k < 1000000)
    (hbl : x.b.length ≤ 262144) (hb : u8.F w O Ab x.b.length (toI x.b)) (hx : x.kind = 4) (hn : 0 ≤ x.n ∧ x.n ≤ (ds.lasts.length : Int)) :
    Calls Try.prog 20 #[.pointer (some ⟨g, 0, none⟩), v, actV x Ab cb] w (DoesPost w O Z (ds.does x)) := by
  have hf := hu.fine
  have hlm : ds.lim x.n = ({ ds with limit := x.n }, 0) := by unfold DS.lim; rw [if_neg (by rw [← hf.las]; omega)]
  have hd : ds.does x = { ds with limit := x.n } := by unfold DS.does; rw [if_neg (by rw [hx]; decide), if_neg (by rw [hx]; decide), if_neg (by rw [hx]; decide), if_pos hx, hlm]
  rw [hd]
  unfold actV
  rw [hx]
  have hr0 := hr
  obtain ⟨A, c, A2, c2, rfl, h1, h2, h3, h4⟩ := hr
  obtain ⟨n1, hn1⟩ : ∃ n1, ds.lasts.length = n1 := ⟨_, rfl⟩
  obtain ⟨n2, hn2⟩ : ∃ n2, ds.waits.length = n2 := ⟨_, rfl⟩
  rw [hn1, hn2] at hr0 ⊢
  rw [hn1] at hn
  obtain ⟨w1, hw1⟩ : ∃ w1, ((w.alloc (.cells #[.slice A n1 c, .slice A2 n2 c2, .int .i64 ds.armed, .int .i64 ds.limit, .int .i64 ds.done] 45)).alloc (.cells #[.int .i64 4, .int .i64 x.at_, .int .i64 x.n, .slice Ab x.b.length cb, .int .i64 x.keep, .int .i64 x.torn] 34)).alloc (.cells #[.slice none 0 0, .slice none 0 0, .int .i64 0, .int .i64 0, .int .i64 0] 45) = w1 := ⟨_, rfl⟩
  obtain ⟨hz1, hb1, H1, H2, H3⟩ := three_boxes w _ _ _ w1 hw1
  obtain ⟨a0, a1, a2, a3, a4, a5⟩ := blk5 H1
  obtain ⟨p0, p1, p2, p3, p4, p5⟩ := blk6 H2
  have hm2 : Mod (fun q => q = w.heap.size) w1 (w1.setCell ⟨w.heap.size, 3, none⟩ (.int .i64 x.n)) := Mod.setCell (S := fun q => q = w.heap.size) (p := ⟨w.heap.size, 3, none⟩) (Mod.refl _ _) (.inl rfl) _
  have H1' := (heap_setCell_same _ _ 3 _ _ (.int .i64 x.n) H1).trans (show _ = some (Obj.cells #[.slice A n1 c, .slice A2 n2 c2, .int .i64 ds.armed, .int .i64 x.n, .int .i64 ds.done] 45 (0, 0)) from rfl)
  obtain ⟨w2, hw2⟩ : ∃ w2, w1.setCell ⟨w.heap.size, 3, none⟩ (.int .i64 x.n) = w2 := ⟨_, rfl⟩
  rw [hw2] at hm2 H1'
  have H2' := hm2.blk H2 (by omega)
  have H3' := hm2.blk H3 (by omega)
  have hz2 := hm2.size
  have hb2 : Below w.heap.size w w2 := hb1.trans (hm2.below (fun q hq => by omega) (by omega))
  have d1 : decide (x.n < 0) = false := by simp; omega
  have d2 : decide ((n1 : Int) < x.n) = false := by simp; omega
  have hOw := ((h.fresh hb2).weaken (O' := fun q => O q ∨ (w.heap.size ≤ q ∧ q < w2.heap.size)) (Z' := fun q => Z q ∨ (w.heap.size ≤ q ∧ q < w2.heap.size)) (fun q hq => hq.imp id (fun h => h.1)) (fun q hq => hq.imp id (fun h => h.1))).below (below_drew (Below.refl _ _))
  have hwo := lim_own2 hOw hf x.n
  rw [hlm] at hwo
  have hY : ∀ W, Stays (fun q => O q ∨ (w.heap.size ≤ q ∧ q < w2.heap.size)) w2 W → W.cell? ⟨w.heap.size, 0, none⟩ = some (.slice A n1 c) ∧ W.cell? ⟨w.heap.size, 1, none⟩ = some (.slice A2 n2 c2) ∧ W.cell? ⟨w.heap.size, 2, none⟩ = some (.int .i64 ds.armed) ∧
      W.cell? ⟨w.heap.size, 3, none⟩ = some (.int .i64 x.n) ∧ W.cell? ⟨w.heap.size, 4, none⟩ = some (.int .i64 ds.done) ∧ W.cell? ⟨w.heap.size + 1, 2, none⟩ = some (.int .i64 x.n) := fun W hW => by
    have g9 := blk5 ((hW.blk (k := w.heap.size) (.inr ⟨by omega, by omega⟩) (by omega)).trans H1')
    have g2 := blk6 ((hW.blk (k := w.heap.size + 1) (.inr ⟨by omega, by omega⟩) (by omega)).trans H2')
    exact ⟨g9.1, g9.2.1, g9.2.2.1, g9.2.2.2.1, g9.2.2.2.2.1, g2.2.2.1⟩
  have hs0 : Stays (fun q => O q ∨ (w.heap.size ≤ q ∧ q < w2.heap.size)) w2 w2.drew := (Stays.refl _ _).drew
  have hrf : Ref w2 Oe (.agg #[.slice A n1 c, .slice A2 n2 c2, .int .i64 ds.armed, .int .i64 x.n, .int .i64 ds.done]) { ds with limit := x.n } := ⟨A, c, A2, c2, by show _ = Value.agg #[.slice A ds.lasts.length c, .slice A2 ds.waits.length c2, _, _, _]; rw [hn1, hn2], by show ds.lasts.length ≤ c; omega, by show ds.waits.length ≤ c2; omega, by show u8.F _ _ _ ds.lasts.length _; exact Kd.F_below h3 hb2, by show wk.F _ _ _ ds.waits.length _; exact Kd.F_below h4 hb2⟩
  replace hY := Aside0.mk hY
  replace hs0 := Aside0.mk hs0
  replace hwo := Aside0.mk hwo
  replace hrf := Aside0.mk hrf
  replace H3' := Aside0.mk H3'
  replace hb2 := Aside0.mk hb2
  replace hO := Aside0.mk hO
  replace hOe := Aside0.mk hOe
  replace hZ := Aside0.mk hZ
  clear h h1 h2 h3 h4 hu hd hx hb hbl p1 p3 p4 p5 hOw hlm hr0 hf H1 H2 H3 hb1 H1' H2' hn1 hn2 hm2
  go_enter Try.func20, Try.ntmps20
  go_wp2_with fail
  refine start_ (n := 10) (S := fun w' => w'.cell? ⟨w.heap.size, 0, none⟩ = some (.slice A n1 c) ∧ w'.cell? ⟨w.heap.size, 1, none⟩ = some (.slice A2 n2 c2) ∧ w'.cell? ⟨w.heap.size, 2, none⟩ = some (.int .i64 ds.armed) ∧ w'.cell? ⟨w.heap.size, 3, none⟩ = some (.int .i64 x.n) ∧ w'.cell? ⟨w.heap.size, 4, none⟩ = some (.int .i64 ds.done) ∧ w'.cell? ⟨w.heap.size + 1, 2, none⟩ = some (.int .i64 x.n)) (ds := [8]) #[false, false, false, false, false, false, false, false, false, false] (by kernel_rfl) rfl rfl ⟨(hY.out _ hs0.out).1, (hY.out _ hs0.out).2.1, (hY.out _ hs0.out).2.2.1, (hY.out _ hs0.out).2.2.2.1, (hY.out _ hs0.out).2.2.2.2.1, (hY.out _ hs0.out).2.2.2.2.2⟩ (fun hHeld => ?_)
  refine pure_ (i := 0) (N := some 87) (v := ?_) (a' := ?_) #[true, false, false, false, false, false, false, false, false, false] rfl rfl (by kernel_rfl) (fun _ _ _ h => h) (Or.inl ⟨by rfl, ?_⟩) ?_ ?_
  rotate_left
  · intro w'
    go_simp
    with_reducible rfl
  rotate_left
  · simp only [Act.put, List.setIfInBounds_toArray, List.set_cons_zero, List.set_cons_succ, i64_w, i32_w]
    rfl
  refine pure_ (i := 2) (N := some 89) (v := ?_) (a' := ?_) #[true, false, true, false, false, false, false, false, false, false] rfl rfl (by kernel_rfl) (fun _ _ _ h => h) (Or.inl ⟨by rfl, ?_⟩) ?_ ?_
  rotate_left
  · intro w'
    go_simp
    with_reducible rfl
  rotate_left
  · simp only [Act.put, List.setIfInBounds_toArray, List.set_cons_zero, List.set_cons_succ, i64_w, i32_w]
    rfl
  refine pure_ (i := 3) (N := some 90) (v := ?_) (a' := ?_) #[true, false, true, true, false, false, false, false, false, false] rfl rfl (by kernel_rfl) (fun _ _ _ h => h) (Or.inl ⟨by rfl, ?_⟩) ?_ ?_
  rotate_left
  · intro w'
    go_simp
    with_reducible rfl
  rotate_left
  · simp only [Act.put, List.setIfInBounds_toArray, List.set_cons_zero, List.set_cons_succ, i64_w, i32_w]
    rfl
  refine take_ (i := 1) (N := some 88) (v := ?_) (a' := ?_) #[true, true, true, true, false, false, false, false, false, false] rfl rfl (by kernel_rfl) (fun _ _ _ h => h) (Or.inl ⟨by rfl, ?_⟩) hHeld ?_ ?_
  rotate_left
  · rintro w' ⟨s0, s1, s2, s3, s4, s5⟩
    go_simp
    with_reducible rfl
  rotate_left
  · simp only [Act.put, List.setIfInBounds_toArray, List.set_cons_zero, List.set_cons_succ, i64_w, i32_w]
    rfl
  refine take_ (i := 4) (N := some 91) (v := ?_) (a' := ?_) #[true, true, true, true, true, false, false, false, false, false] rfl rfl (by kernel_rfl) (fun _ _ _ h => h) (Or.inl ⟨by rfl, ?_⟩) hHeld ?_ ?_
  rotate_left
  · rintro w' ⟨s0, s1, s2, s3, s4, s5⟩
    go_simp
    with_reducible rfl
  rotate_left
  · simp only [Act.put, List.setIfInBounds_toArray, List.set_cons_zero, List.set_cons_succ, i64_w, i32_w]
    rfl
  refine one_ (i := 5) (N := some 92) #[true, true, true, true, true, true, false, false, false, false] rfl rfl (by kernel_rfl) (by decide) (fun K hK => ?_)
  refine goes_ Try.func16 (by kernel_rfl) rfl #[.pointer (some ⟨g, 0, none⟩), .int .i64 x.n] (by rfl) rfl rfl (by simp only [List.map_toArray, List.map_cons, List.map_nil]; rfl) ?_
  with_reducible refine (hwo.out).mono ?_
  rintro e w4 ⟨rfl, ho4, hs4⟩
  refine ⟨_, rfl, ?_⟩
  have hs4 := Aside0.mk (hs0.out.trans hs4 (fun _ h => h))
  obtain ⟨e0, e1, e2, e3, e4, e5⟩ := blk5 ((hs4.out.blk (k := w.heap.size + 2) (.inr ⟨by omega, by omega⟩) (by omega)).trans H3'.out)
  replace ho4 := Aside0.mk ho4
  refine hK.out _ _ ⟨(hY.out _ hs4.out).1, (hY.out _ hs4.out).2.1, (hY.out _ hs4.out).2.2.1, (hY.out _ hs4.out).2.2.2.1, (hY.out _ hs4.out).2.2.2.2.1, (hY.out _ hs4.out).2.2.2.2.2⟩ (fun hHeld => ?_)
  clear hK K
  refine norm_ (a' := ?_) ?_ ?_
  rotate_left
  · show Act.put _ (some 92) _ = _
    simp only [Act.put, List.setIfInBounds_toArray, List.set_cons_zero, List.set_cons_succ, i64_w, i32_w]
    rfl
  refine pure_ (i := 6) (N := some 93) (v := ?_) (a' := ?_) #[true, true, true, true, true, true, true, false, false, false] rfl rfl (by kernel_rfl) (fun _ _ _ h => h) (Or.inl ⟨by rfl, ?_⟩) ?_ ?_
  rotate_left
  · intro w'
    go_simp
    with_reducible rfl
  rotate_left
  · simp only [Act.put, List.setIfInBounds_toArray, List.set_cons_zero, List.set_cons_succ, i64_w, i32_w]
    rfl
  refine pure_ (i := 7) (N := some 6) (v := ?_) (a' := ?_) #[true, true, true, true, true, true, true, true, false, false] rfl rfl (by kernel_rfl) (fun _ _ _ h => h) (Or.inl ⟨by rfl, ?_⟩) ?_ ?_
  rotate_left
  · intro w'
    go_simp
    with_reducible rfl
  rotate_left
  · simp only [Act.put, List.setIfInBounds_toArray, List.set_cons_zero, List.set_cons_succ, i64_w, i32_w]
    rfl
  refine last_ (i := 8) (N := none) #[true, true, true, true, true, true, true, true, true, false] rfl rfl (by kernel_rfl) (by decide) (fun K hK => ?_)
  refine skip_ (w1 := ?_) (by rfl) rfl ?_ ?_
  rotate_left
  · go_simp
    rfl
  refine hK.out _ _ ?_
  clear hK K
  refine pure_ (i := 9) (N := some 8) (v := ?_) (a' := ?_) #[true, true, true, true, true, true, true, true, true, true] rfl rfl (by kernel_rfl) (fun _ _ _ h => h) (Or.inl ⟨by rfl, ?_⟩) ?_ ?_
  rotate_left
  · intro w'
    go_simp
    with_reducible rfl
  rotate_left
  · simp only [Act.put, List.setIfInBounds_toArray, List.set_cons_zero, List.set_cons_succ, i64_w, i32_w]
    rfl
  refine done_ (by kernel_rfl) ?_
  go_wp2_with fail
  have K2 := (hs4.out.blk (k := w.heap.size + 2) (.inr ⟨by omega, by omega⟩) (by omega)).trans H3'.out
  have hm5 := mod5 w4 (w.heap.size + 2) (.slice A n1 c) (.slice A2 n2 c2) (.int .i64 ds.armed) (.int .i64 x.n) (.int .i64 ds.done)
  refine bodyPost_ret (results_tct rfl _ _ (w.heap.size + 2) 45 #[.slice A n1 c, .slice A2 n2 c2, .int .i64 ds.armed, .int .i64 x.n, .int .i64 ds.done] (0, 0) _ rfl (set5 K2 _ _ _ _ _) Try.underlying45 rfl size45) rfl ⟨g, _, _, Oe, rfl, (ho4.out.mod hm5 (fun q hq => by subst hq; exact ⟨.inr ⟨by omega, by omega⟩, .inr ⟨by omega, by omega⟩⟩)).weaken (fun _ h => h) (fun _ h => .inl h), ?_, fun q hq => .inl hq, ?_, ?_, ?_⟩
  · refine Ref.mono ((hrf.out.mod hs4.out (fun q hq hn => hn (.inl (hOe.out q hq).1))).mod hm5 (fun q hq hn => ?_)) (fun q hq => hq)
    have := hO.out q (hOe.out q hq).1
    omega
  · refine fun q hq => Nat.lt_of_lt_of_le ?_ (Nat.le_trans hs4.out.size hm5.size)
    rcases hq with hq | hq
    · have := hO.out q hq; omega
    · exact hq.2
  · exact fun q hq => ⟨.inl (hOe.out q hq).1, (hOe.out q hq).2⟩
  · exact Mod.trans ((Stays.of_below hb2.out).trans hs4.out (fun q hq => .inl hq)) hm5 (fun q hq => .inr (by omega))
end Go.Proofs.Ytolighikimpbfaa
