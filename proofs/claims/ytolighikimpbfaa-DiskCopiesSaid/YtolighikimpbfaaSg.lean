/- does: crashes, and what is no call. -/
import Derived.Test.YtolighikimpbfaaSf
set_option linter.unusedVariables false
set_option linter.unusedSimpArgs false
namespace Go.Proofs.Ytolighikimpbfaa
open Go.RowKit Go.Shelf Go.Proofs.YtolighikimpbfaaW.PrintWords Go.Proofs.YtolighikimpbfaaW.PrintMore Go.Proofs.YtolighikimpbfaaW.PrintLast

set_option maxRecDepth 20000 in
set_option maxHeartbeats 4000000 in
theorem does_stay (O Z Oe : Nat → Prop) (g : Nat) (v : Value) (ds : DS) (k : Nat) (w : World) (x : Act) (Ab : Option Addr) (cb : Nat) (h : Own2 O Z w g ds) (hZ : ∀ q, Z q → O q) (hr : Ref w Oe v ds) (hOe : ∀ q, Oe q → O q ∧ ¬ Z q) (hO : ∀ q, O q → q < w.heap.size) (hu : Upto k ds) (hk : k < 1000000)
    (hbl : x.b.length ≤ 262144) (hb : u8.F w O Ab x.b.length (toI x.b)) (hx : x.kind ≠ 1 ∧ x.kind ≠ 2 ∧ x.kind ≠ 3 ∧ x.kind ≠ 4 ∧ x.kind ≠ 5 ∧ x.kind ≠ 6) :
    Calls Try.prog 20 #[.pointer (some ⟨g, 0, none⟩), v, actV x Ab cb] w (DoesPost w O Z (ds.does x)) := by
  have hd : ds.does x = ds := by unfold DS.does; rw [if_neg hx.1, if_neg hx.2.1, if_neg hx.2.2.1, if_neg hx.2.2.2.1, if_neg hx.2.2.2.2.1]
  have d1 : (x.kind == 1) = false := by simpa using hx.1
  have d2 : (x.kind == 2) = false := by simpa using hx.2.1
  have d3 : (x.kind == 3) = false := by simpa using hx.2.2.1
  have d4 : (x.kind == 4) = false := by simpa using hx.2.2.2.1
  have d5 : (x.kind == 5) = false := by simpa using hx.2.2.2.2.1
  have d6 : (x.kind == 6) = false := by simpa using hx.2.2.2.2.2
  have hf := hu.fine
  rw [hd]
  unfold actV
  have hr0 := hr
  obtain ⟨A, c, A2, c2, rfl, h1, h2, h3, h4⟩ := hr
  obtain ⟨n1, hn1⟩ : ∃ n1, ds.lasts.length = n1 := ⟨_, rfl⟩
  obtain ⟨n2, hn2⟩ : ∃ n2, ds.waits.length = n2 := ⟨_, rfl⟩
  rw [hn1, hn2] at hr0 ⊢
  obtain ⟨w1, hw1⟩ : ∃ w1, ((w.alloc (.cells #[.slice A n1 c, .slice A2 n2 c2, .int .i64 ds.armed, .int .i64 ds.limit, .int .i64 ds.done] 45)).alloc (.cells #[.int .i64 x.kind, .int .i64 x.at_, .int .i64 x.n, .slice Ab x.b.length cb, .int .i64 x.keep, .int .i64 x.torn] 34)).alloc (.cells #[.slice none 0 0, .slice none 0 0, .int .i64 0, .int .i64 0, .int .i64 0] 45) = w1 := ⟨_, rfl⟩
  obtain ⟨hz1, hb1, H1, H2, H3⟩ := three_boxes w _ _ _ w1 hw1
  obtain ⟨a0, a1, a2, a3, a4, _⟩ := blk5 H1
  obtain ⟨p0, p1, p2, p3, p4, p5⟩ := blk6 H2
  have hY : ∀ W, Below w1.heap.size w1 W → W.cell? ⟨w.heap.size, 0, none⟩ = some (.slice A n1 c) ∧ W.cell? ⟨w.heap.size, 1, none⟩ = some (.slice A2 n2 c2) ∧ W.cell? ⟨w.heap.size, 2, none⟩ = some (.int .i64 ds.armed) ∧ W.cell? ⟨w.heap.size, 3, none⟩ = some (.int .i64 ds.limit) ∧ W.cell? ⟨w.heap.size, 4, none⟩ = some (.int .i64 ds.done) := fun W hW => by
    have g9 := blk5 ((hW.block w.heap.size (by omega)).trans H1)
    exact ⟨g9.1, g9.2.1, g9.2.2.1, g9.2.2.2.1, g9.2.2.2.2.1⟩
  have hs0 : Below w1.heap.size w1 w1.drew := below_drew (Below.refl _ _)
  have hOw := (h.fresh hb1).weaken (O' := fun q => O q ∨ (w.heap.size ≤ q ∧ q < w1.heap.size)) (Z' := fun q => Z q ∨ (w.heap.size ≤ q ∧ q < w1.heap.size)) (fun q hq => hq.imp id (fun h => h.1)) (fun q hq => hq.imp id (fun h => h.1))
  have hrf := hr0.below hb1
  obtain ⟨e0, e1, e2, e3, e4, e5⟩ := blk5 H3
  have H3' := H3
  replace hY := Aside0.mk hY
  replace hOw := Aside0.mk hOw
  replace hrf := Aside0.mk hrf
  replace H3' := Aside0.mk H3'
  replace hb1 := Aside0.mk hb1
  replace hO := Aside0.mk hO
  replace hOe := Aside0.mk hOe
  replace hZ := Aside0.mk hZ
  replace hs0 := Aside0.mk hs0
  clear h h1 h2 h3 h4 hu hd hx hb hbl p1 p2 p3 p4 p5 hr0 hf H1 H2 H3 hn1 hn2
  go_enter Try.func20, Try.ntmps20
  go_wp2_with fail
  refine start_ (n := 5) (S := fun w' => w'.cell? ⟨w.heap.size, 0, none⟩ = some (.slice A n1 c) ∧ w'.cell? ⟨w.heap.size, 1, none⟩ = some (.slice A2 n2 c2) ∧ w'.cell? ⟨w.heap.size, 2, none⟩ = some (.int .i64 ds.armed) ∧ w'.cell? ⟨w.heap.size, 3, none⟩ = some (.int .i64 ds.limit) ∧ w'.cell? ⟨w.heap.size, 4, none⟩ = some (.int .i64 ds.done)) (ds := [3]) #[false, false, false, false, false] (by kernel_rfl) rfl rfl ⟨(hY.out _ hs0.out).1, (hY.out _ hs0.out).2.1, (hY.out _ hs0.out).2.2.1, (hY.out _ hs0.out).2.2.2.1, (hY.out _ hs0.out).2.2.2.2⟩ (fun hHeld => ?_)
  refine pure_ (i := 0) (N := some 128) (v := ?_) (a' := ?_) #[true, false, false, false, false] rfl rfl (by kernel_rfl) (fun _ _ _ h => h) (Or.inl ⟨by rfl, ?_⟩) ?_ ?_
  rotate_left
  · intro w'
    go_simp
    with_reducible rfl
  rotate_left
  · simp only [Act.put, List.setIfInBounds_toArray, List.set_cons_zero, List.set_cons_succ, i64_w, i32_w]
    rfl
  refine pure_ (i := 2) (N := some 6) (v := ?_) (a' := ?_) #[true, false, true, false, false] rfl rfl (by kernel_rfl) (fun _ _ _ h => h) (Or.inl ⟨by rfl, ?_⟩) ?_ ?_
  rotate_left
  · intro w'
    go_simp
    with_reducible rfl
  rotate_left
  · simp only [Act.put, List.setIfInBounds_toArray, List.set_cons_zero, List.set_cons_succ, i64_w, i32_w]
    rfl
  refine take_ (i := 1) (N := some 129) (v := ?_) (a' := ?_) #[true, true, true, false, false] rfl rfl (by kernel_rfl) (fun _ _ _ h => h) (Or.inl ⟨by rfl, ?_⟩) hHeld ?_ ?_
  rotate_left
  · rintro w' ⟨s0, s1, s2, s3, s4⟩
    go_simp
    with_reducible rfl
  rotate_left
  · simp only [Act.put, List.setIfInBounds_toArray, List.set_cons_zero, List.set_cons_succ, i64_w, i32_w]
    rfl
  refine last_ (i := 3) (N := none) #[true, true, true, true, false] rfl rfl (by kernel_rfl) (by decide) (fun K hK => ?_)
  refine skip_ (w1 := ?_) (by rfl) rfl ?_ ?_
  rotate_left
  · go_simp
    rfl
  refine hK.out _ _ ?_
  clear hK K
  refine pure_ (i := 4) (N := some 8) (v := ?_) (a' := ?_) #[true, true, true, true, true] rfl rfl (by kernel_rfl) (fun _ _ _ h => h) (Or.inl ⟨by rfl, ?_⟩) ?_ ?_
  rotate_left
  · intro w'
    go_simp
    with_reducible rfl
  rotate_left
  · simp only [Act.put, List.setIfInBounds_toArray, List.set_cons_zero, List.set_cons_succ, i64_w, i32_w]
    rfl
  refine done_ (by kernel_rfl) ?_
  go_wp2_with fail
  have hm5 := (mod5 w1 (w.heap.size + 2) (.slice A n1 c) (.slice A2 n2 c2) (.int .i64 ds.armed) (.int .i64 ds.limit) (.int .i64 ds.done)).drew
  refine bodyPost_ret (results_tct rfl _ _ (w.heap.size + 2) 45 #[.slice A n1 c, .slice A2 n2 c2, .int .i64 ds.armed, .int .i64 ds.limit, .int .i64 ds.done] (0, 0) _ rfl (set5 H3'.out _ _ _ _ _) Try.underlying45 rfl size45) rfl ⟨g, _, _, Oe, rfl, (hOw.out.mod hm5 (fun q hq => by subst hq; exact ⟨.inr ⟨by omega, by omega⟩, .inr ⟨by omega, by omega⟩⟩)).weaken (fun _ h => h) (fun _ h => .inl h), ?_, fun q hq => .inl hq, ?_, ?_, ?_⟩
  · refine Ref.mono (hrf.out.mod hm5 (fun q hq hn => ?_)) (fun q hq => hq)
    have := hO.out q (hOe.out q hq).1
    omega
  · refine fun q hq => Nat.lt_of_lt_of_le ?_ hm5.size
    show q < w1.heap.size
    rcases hq with hq | hq
    · have := hO.out q hq; omega
    · exact hq.2
  · exact fun q hq => ⟨.inl (hOe.out q hq).1, (hOe.out q hq).2⟩
  · exact Mod.trans (Stays.of_below hb1.out) hm5 (fun q hq => .inr (by omega))
set_option maxRecDepth 20000 in
set_option maxHeartbeats 4000000 in
theorem does_crash (O Z Oe : Nat → Prop) (g : Nat) (v : Value) (ds : DS) (k : Nat) (w : World) (x : Act) (Ab : Option Addr) (cb : Nat) (h : Own2 O Z w g ds) (hZ : ∀ q, Z q → O q) (hr : Ref w Oe v ds) (hOe : ∀ q, Oe q → O q ∧ ¬ Z q) (hO : ∀ q, O q → q < w.heap.size) (hu : Upto k ds) (hk : k < 1000000)
    (hbl : x.b.length ≤ 262144) (hb : u8.F w O Ab x.b.length (toI x.b)) (hxo : x.Ok) (hx : x.kind = 5) :
    Calls Try.prog 20 #[.pointer (some ⟨g, 0, none⟩), v, actV x Ab cb] w (DoesPost w O Z (ds.does x)) := by
  have hd : ds.does x = ds.crashed x.keep x.torn := by unfold DS.does; rw [if_neg (by rw [hx]; decide), if_neg (by rw [hx]; decide), if_neg (by rw [hx]; decide), if_neg (by rw [hx]; decide), if_pos (by rw [hx])]
  have hf := hu.fine
  rw [hd]
  unfold actV
  rw [hx]
  have hr0 := hr
  obtain ⟨A, c, A2, c2, rfl, h1, h2, h3, h4⟩ := hr
  obtain ⟨n1, hn1⟩ : ∃ n1, ds.lasts.length = n1 := ⟨_, rfl⟩
  obtain ⟨n2, hn2⟩ : ∃ n2, ds.waits.length = n2 := ⟨_, rfl⟩
  rw [hn1, hn2] at hr0 ⊢
  obtain ⟨w1, hw1⟩ : ∃ w1, ((w.alloc (.cells #[.slice A n1 c, .slice A2 n2 c2, .int .i64 ds.armed, .int .i64 ds.limit, .int .i64 ds.done] 45)).alloc (.cells #[.int .i64 5, .int .i64 x.at_, .int .i64 x.n, .slice Ab x.b.length cb, .int .i64 x.keep, .int .i64 x.torn] 34)).alloc (.cells #[.slice none 0 0, .slice none 0 0, .int .i64 0, .int .i64 0, .int .i64 0] 45) = w1 := ⟨_, rfl⟩
  obtain ⟨hz1, hb1, H1, H2, H3⟩ := three_boxes w _ _ _ w1 hw1
  obtain ⟨a0, a1, a2, a3, a4, _⟩ := blk5 H1
  obtain ⟨p0, p1, p2, p3, p4, p5⟩ := blk6 H2
  have hcr := crash_own (h.bare.below hb1) hf x.keep x.torn hxo.keep hxo.torn
  replace hcr := Aside0.mk hcr
  replace hb1 := Aside0.mk hb1
  replace H1 := Aside0.mk H1
  replace H2 := Aside0.mk H2
  replace H3 := Aside0.mk H3
  replace hr0 := Aside0.mk hr0
  replace hf := Aside0.mk hf
  replace h := Aside0.mk h
  replace hO := Aside0.mk hO
  replace hOe := Aside0.mk hOe
  replace hZ := Aside0.mk hZ
  replace hxo := Aside0.mk hxo
  replace hu := Aside0.mk hu
  replace hn1 := Aside0.mk hn1
  replace hn2 := Aside0.mk hn2
  clear h1 h2 h3 h4 hd hx hb hbl p1 p2 p3 a0 a1 a2 a3 a4
  go_enter Try.func20, Try.ntmps20
  go_wp2_with fail
  refine hcr.out.mono ?_
  rintro e w2 ⟨g2, rfl, ho2, hb2⟩
  have hz2 := hb2.size
  have rc := rcrash_calls Oe _ ds w2 ((hr0.out.below hb1.out).below hb2) hf.out x.keep x.torn hxo.out.keep hxo.out.torn
  obtain ⟨a0, a1, a2, a3, a4, _⟩ := blk5 ((hb2.block w.heap.size (by omega)).trans H1.out)
  obtain ⟨p0, p1, p2, p3, p4, p5⟩ := blk6 ((hb2.block (w.heap.size + 1) (by omega)).trans H2.out)
  replace rc := Aside0.mk rc
  replace ho2 := Aside0.mk ho2
  replace hb2 := Aside0.mk hb2
  clear hcr p1 p2 p3
  go_wp2_with fail
  refine rc.out.mono ?_
  rintro e w3 ⟨u, rfl, hu3, hb3⟩
  have hu0 := hu3
  obtain ⟨A5, c5, A6, c6, rfl, _, _, _, _⟩ := hu3
  generalize hn5 : (ds.crashed x.keep x.torn).lasts.length = n5 at *
  generalize hn6 : (ds.crashed x.keep x.torn).waits.length = n6 at *
  generalize hq3 : (ds.crashed x.keep x.torn).armed = q3 at *
  generalize hq4 : (ds.crashed x.keep x.torn).limit = q4 at *
  generalize hq5 : (ds.crashed x.keep x.torn).done = q5 at *
  have hz3 := hb3.size
  have hb4 := below_alloc (Below.refl w3.heap.size w3) (.cells #[.slice A5 n5 c5, .slice A6 n6 c6, .int .i64 q3, .int .i64 q4, .int .i64 q5] 45)
  have G9 := Go.heap_alloc_new w3 (.cells #[.slice A5 n5 c5, .slice A6 n6 c6, .int .i64 q3, .int .i64 q4, .int .i64 q5] 45)
  have hz4 : (w3.alloc (.cells #[.slice A5 n5 c5, .slice A6 n6 c6, .int .i64 q3, .int .i64 q4, .int .i64 q5] 45)).heap.size = w3.heap.size + 1 := by simp
  obtain ⟨w4, hw4⟩ : ∃ w4, w3.alloc (.cells #[.slice A5 n5 c5, .slice A6 n6 c6, .int .i64 q3, .int .i64 q4, .int .i64 q5] 45) = w4 := ⟨_, rfl⟩
  obtain ⟨B9, hB9⟩ : ∃ B9, w3.heap.size = B9 := ⟨_, rfl⟩
  rw [hw4] at hb4 G9 hz4
  have hb24 := below_then hb3 hb3.size hb4
  have hb14 := below_then hb2.out hb2.out.size hb24
  have hb04 := below_then hb1.out hb1.out.size hb14
  have hs0 : Below w4.heap.size w4 w4.drew := below_drew (Below.refl _ _)
  have hY : ∀ W, Below w4.heap.size w4 W → (W.cell? ⟨B9, 0, none⟩ = some (.slice A5 n5 c5) ∧ W.cell? ⟨B9, 1, none⟩ = some (.slice A6 n6 c6) ∧ W.cell? ⟨B9, 2, none⟩ = some (.int .i64 q3) ∧ W.cell? ⟨B9, 3, none⟩ = some (.int .i64 q4) ∧ W.cell? ⟨B9, 4, none⟩ = some (.int .i64 q5) ∧ W.cell? ⟨w.heap.size, 0, none⟩ = some (.slice A n1 c) ∧ W.cell? ⟨w.heap.size, 1, none⟩ = some (.slice A2 n2 c2) ∧ W.cell? ⟨w.heap.size, 2, none⟩ = some (.int .i64 ds.armed) ∧ W.cell? ⟨w.heap.size, 3, none⟩ = some (.int .i64 ds.limit) ∧ W.cell? ⟨w.heap.size, 4, none⟩ = some (.int .i64 ds.done)) := fun W hW => by
    have g9 := blk5 ((hW.block B9 (by omega)).trans (hB9 ▸ G9))
    have g1 := blk5 ((hW.block w.heap.size (by omega)).trans ((hb14.block _ (by omega)).trans H1.out))
    exact ⟨g9.1, g9.2.1, g9.2.2.1, g9.2.2.2.1, g9.2.2.2.2.1, g1.1, g1.2.1, g1.2.2.1, g1.2.2.2.1, g1.2.2.2.2.1⟩
  have p0 := (blk6 ((hb14.block (w.heap.size + 1) (by omega)).trans H2.out)).1
  have H3' := (hb14.block (w.heap.size + 2) (by omega)).trans H3.out
  have hRf : Ref w4 (fun q => w2.heap.size ≤ q ∧ q < w3.heap.size) (.agg #[.slice A5 n5 c5, .slice A6 n6 c6, .int .i64 q3, .int .i64 q4, .int .i64 q5]) (ds.crashed x.keep x.torn) := hu0.bound.below hb4
  have hO4 := ho2.out.add hb24
  obtain ⟨e0, e1, e2, e3, e4, e5⟩ := blk5 H3'
  have H3'' := H3'
  replace hY := Aside0.mk hY
  replace hs0 := Aside0.mk hs0
  replace H3'' := Aside0.mk H3''
  replace hO4 := Aside0.mk hO4
  replace hRf := Aside0.mk hRf
  have hb04 := Aside0.mk hb04
  have hB9 := Aside0.mk hB9
  clear rc G9 hb3 hb4 hb24 hb14 hu0 a0 a1 a2 a3 a4 p4 p5 hn5 hn6 hq3 hq4 hq5 H3'
  go_wp2_with fail
  refine start_ (n := 7) (S := fun w' => w'.cell? ⟨B9, 0, none⟩ = some (.slice A5 n5 c5) ∧ w'.cell? ⟨B9, 1, none⟩ = some (.slice A6 n6 c6) ∧ w'.cell? ⟨B9, 2, none⟩ = some (.int .i64 q3) ∧ w'.cell? ⟨B9, 3, none⟩ = some (.int .i64 q4) ∧ w'.cell? ⟨B9, 4, none⟩ = some (.int .i64 q5) ∧ w'.cell? ⟨w.heap.size, 0, none⟩ = some (.slice A n1 c) ∧ w'.cell? ⟨w.heap.size, 1, none⟩ = some (.slice A2 n2 c2) ∧ w'.cell? ⟨w.heap.size, 2, none⟩ = some (.int .i64 ds.armed) ∧ w'.cell? ⟨w.heap.size, 3, none⟩ = some (.int .i64 ds.limit) ∧ w'.cell? ⟨w.heap.size, 4, none⟩ = some (.int .i64 ds.done)) (ds := [5]) #[false, false, false, false, false, false, false] (by kernel_rfl) rfl rfl ⟨(hY.out _ hs0.out).1, (hY.out _ hs0.out).2.1, (hY.out _ hs0.out).2.2.1, (hY.out _ hs0.out).2.2.2.1, (hY.out _ hs0.out).2.2.2.2.1, (hY.out _ hs0.out).2.2.2.2.2.1, (hY.out _ hs0.out).2.2.2.2.2.2.1, (hY.out _ hs0.out).2.2.2.2.2.2.2.1, (hY.out _ hs0.out).2.2.2.2.2.2.2.2.1, (hY.out _ hs0.out).2.2.2.2.2.2.2.2.2⟩ (fun hHeld => ?_)
  refine pure_ (i := 0) (N := some 115) (v := ?_) (a' := ?_) #[true, false, false, false, false, false, false] rfl rfl (by kernel_rfl) (fun _ _ _ h => h) (Or.inl ⟨by rfl, ?_⟩) ?_ ?_
  rotate_left
  · intro w'
    go_simp
    with_reducible rfl
  rotate_left
  · simp only [Act.put, List.setIfInBounds_toArray, List.set_cons_zero, List.set_cons_succ, i64_w, i32_w]
    rfl
  refine pure_ (i := 2) (N := some 117) (v := ?_) (a' := ?_) #[true, false, true, false, false, false, false] rfl rfl (by kernel_rfl) (fun _ _ _ h => h) (Or.inl ⟨by rfl, ?_⟩) ?_ ?_
  rotate_left
  · intro w'
    go_simp
    with_reducible rfl
  rotate_left
  · simp only [Act.put, List.setIfInBounds_toArray, List.set_cons_zero, List.set_cons_succ, i64_w, i32_w]
    rfl
  refine pure_ (i := 3) (N := some 118) (v := ?_) (a' := ?_) #[true, false, true, true, false, false, false] rfl rfl (by kernel_rfl) (fun _ _ _ h => h) (Or.inl ⟨by rfl, ?_⟩) ?_ ?_
  rotate_left
  · intro w'
    go_simp
    with_reducible rfl
  rotate_left
  · simp only [Act.put, List.setIfInBounds_toArray, List.set_cons_zero, List.set_cons_succ, i64_w, i32_w]
    rfl
  refine pure_ (i := 4) (N := some 6) (v := ?_) (a' := ?_) #[true, false, true, true, true, false, false] rfl rfl (by kernel_rfl) (fun _ _ _ h => h) (Or.inl ⟨by rfl, ?_⟩) ?_ ?_
  rotate_left
  · intro w'
    go_simp
    with_reducible rfl
  rotate_left
  · simp only [Act.put, List.setIfInBounds_toArray, List.set_cons_zero, List.set_cons_succ, i64_w, i32_w]
    rfl
  refine take_ (i := 1) (N := some 116) (v := ?_) (a' := ?_) #[true, true, true, true, true, false, false] rfl rfl (by kernel_rfl) (fun _ _ _ h => h) (Or.inl ⟨by rfl, ?_⟩) hHeld ?_ ?_
  rotate_left
  · rintro w' ⟨s0, s1, s2, s3, s4, s5, s6, s7, s8, s9⟩
    go_simp
    with_reducible rfl
  rotate_left
  · simp only [Act.put, List.setIfInBounds_toArray, List.set_cons_zero, List.set_cons_succ, i64_w, i32_w]
    rfl
  refine last_ (i := 5) (N := none) #[true, true, true, true, true, true, false] rfl rfl (by kernel_rfl) (by decide) (fun K hK => ?_)
  refine skip_ (w1 := ?_) (by rfl) rfl ?_ ?_
  rotate_left
  · go_simp
    rfl
  refine hK.out _ _ ?_
  clear hK K
  refine pure_ (i := 6) (N := some 8) (v := ?_) (a' := ?_) #[true, true, true, true, true, true, true] rfl rfl (by kernel_rfl) (fun _ _ _ h => h) (Or.inl ⟨by rfl, ?_⟩) ?_ ?_
  rotate_left
  · intro w'
    go_simp
    with_reducible rfl
  rotate_left
  · simp only [Act.put, List.setIfInBounds_toArray, List.set_cons_zero, List.set_cons_succ, i64_w, i32_w]
    rfl
  refine done_ (by kernel_rfl) ?_
  go_wp2_with fail
  have hm5 := (mod5 w4 (w.heap.size + 2) (.slice A5 n5 c5) (.slice A6 n6 c6) (.int .i64 q3) (.int .i64 q4) (.int .i64 q5)).drew
  refine bodyPost_ret (results_tct rfl _ _ (w.heap.size + 2) 45 #[.slice A5 n5 c5, .slice A6 n6 c6, .int .i64 q3, .int .i64 q4, .int .i64 q5] (0, 0) _ rfl (set5 H3''.out _ _ _ _ _) Try.underlying45 rfl size45) rfl ⟨g2, _, fun q => O q ∨ (w2.heap.size ≤ q ∧ q < w4.heap.size), fun q => w2.heap.size ≤ q ∧ q < w3.heap.size, rfl, ?_, ?_, fun q hq => .inl hq, ?_, ?_, ?_⟩
  · refine (hO4.out.mod hm5 (fun q hq => .inl (by subst hq; omega))).two.weaken (fun q hq => ?_) (fun q hq => ?_)
    · rcases hq with hq | hq
      · have := hO.out q hq; left; omega
      · exact .inr hq.1
    · have := hO.out q (hZ.out q hq); left; omega
  · exact hRf.out.mod hm5 (fun q hq hn => by omega)
  · refine fun q hq => Nat.lt_of_lt_of_le ?_ hm5.size
    show q < w4.heap.size
    rcases hq with hq | hq
    · have := hO.out q hq; omega
    · exact hq.2
  · exact fun q hq => ⟨.inr ⟨hq.1, by omega⟩, fun hn => by have := hO.out q (hZ.out q hn); omega⟩
  · exact Mod.trans (Stays.of_below hb04.out) hm5 (fun q hq => .inr (by omega))
set_option maxRecDepth 20000 in
set_option maxHeartbeats 4000000 in
theorem does_look (O Z Oe : Nat → Prop) (g : Nat) (v : Value) (ds : DS) (k : Nat) (w : World) (x : Act) (Ab : Option Addr) (cb : Nat) (h : Own2 O Z w g ds) (hZ : ∀ q, Z q → O q) (hr : Ref w Oe v ds) (hOe : ∀ q, Oe q → O q ∧ ¬ Z q) (hO : ∀ q, O q → q < w.heap.size) (hu : Upto k ds) (hk : k < 1000000)
    (hbl : x.b.length ≤ 262144) (hb : u8.F w O Ab x.b.length (toI x.b)) (hxo : x.Ok) (hx : x.kind = 6) :
    Calls Try.prog 20 #[.pointer (some ⟨g, 0, none⟩), v, actV x Ab cb] w (DoesPost w O Z (ds.does x)) := by
  have hd : ds.does x = ds := by unfold DS.does; rw [if_neg (by rw [hx]; decide), if_neg (by rw [hx]; decide), if_neg (by rw [hx]; decide), if_neg (by rw [hx]; decide), if_neg (by rw [hx]; decide)]
  have hf := hu.fine
  rw [hd]
  unfold actV
  rw [hx]
  have hr0 := hr
  obtain ⟨A, c, A2, c2, rfl, h1, h2, h3, h4⟩ := hr
  obtain ⟨n1, hn1⟩ : ∃ n1, ds.lasts.length = n1 := ⟨_, rfl⟩
  obtain ⟨n2, hn2⟩ : ∃ n2, ds.waits.length = n2 := ⟨_, rfl⟩
  rw [hn1, hn2] at hr0 ⊢
  obtain ⟨w1, hw1⟩ : ∃ w1, ((w.alloc (.cells #[.slice A n1 c, .slice A2 n2 c2, .int .i64 ds.armed, .int .i64 ds.limit, .int .i64 ds.done] 45)).alloc (.cells #[.int .i64 6, .int .i64 x.at_, .int .i64 x.n, .slice Ab x.b.length cb, .int .i64 x.keep, .int .i64 x.torn] 34)).alloc (.cells #[.slice none 0 0, .slice none 0 0, .int .i64 0, .int .i64 0, .int .i64 0] 45) = w1 := ⟨_, rfl⟩
  obtain ⟨hz1, hb1, H1, H2, H3⟩ := three_boxes w _ _ _ w1 hw1
  obtain ⟨a0, a1, a2, a3, a4, _⟩ := blk5 H1
  obtain ⟨p0, p1, p2, p3, p4, p5⟩ := blk6 H2
  have hcr := crash_own (h.bare.below hb1) hf x.keep x.torn hxo.keep hxo.torn
  replace hcr := Aside0.mk hcr
  replace hb1 := Aside0.mk hb1
  replace H1 := Aside0.mk H1
  replace H2 := Aside0.mk H2
  replace H3 := Aside0.mk H3
  replace hr0 := Aside0.mk hr0
  replace hf := Aside0.mk hf
  replace h := Aside0.mk h
  replace hO := Aside0.mk hO
  replace hOe := Aside0.mk hOe
  replace hZ := Aside0.mk hZ
  replace hxo := Aside0.mk hxo
  replace hu := Aside0.mk hu
  replace hn1 := Aside0.mk hn1
  replace hn2 := Aside0.mk hn2
  clear h1 h2 h3 h4 hd hx hb hbl p1 p2 p3 a0 a1 a2 a3 a4
  go_enter Try.func20, Try.ntmps20
  go_wp2_with fail
  refine hcr.out.mono ?_
  rintro e w2 ⟨g2, rfl, ho2, hb2⟩
  have hz2 := hb2.size
  have rc := rcrash_calls Oe _ ds w2 ((hr0.out.below hb1.out).below hb2) hf.out x.keep x.torn hxo.out.keep hxo.out.torn
  obtain ⟨a0, a1, a2, a3, a4, _⟩ := blk5 ((hb2.block w.heap.size (by omega)).trans H1.out)
  obtain ⟨p0, p1, p2, p3, p4, p5⟩ := blk6 ((hb2.block (w.heap.size + 1) (by omega)).trans H2.out)
  replace rc := Aside0.mk rc
  replace ho2 := Aside0.mk ho2
  replace hb2 := Aside0.mk hb2
  clear hcr p1 p2 p3
  go_wp2_with fail
  refine rc.out.mono ?_
  rintro e w3 ⟨u, rfl, hu3, hb3⟩
  have hu0 := hu3
  obtain ⟨A5, c5, A6, c6, rfl, _, _, _, _⟩ := hu3
  generalize hn5 : (ds.crashed x.keep x.torn).lasts.length = n5 at *
  generalize hn6 : (ds.crashed x.keep x.torn).waits.length = n6 at *
  generalize hq3 : (ds.crashed x.keep x.torn).armed = q3 at *
  generalize hq4 : (ds.crashed x.keep x.torn).limit = q4 at *
  generalize hq5 : (ds.crashed x.keep x.torn).done = q5 at *
  have hz3 := hb3.size
  have hb4 := below_alloc (Below.refl w3.heap.size w3) (.cells #[.slice A5 n5 c5, .slice A6 n6 c6, .int .i64 q3, .int .i64 q4, .int .i64 q5] 45)
  have G9 := Go.heap_alloc_new w3 (.cells #[.slice A5 n5 c5, .slice A6 n6 c6, .int .i64 q3, .int .i64 q4, .int .i64 q5] 45)
  have hz4 : (w3.alloc (.cells #[.slice A5 n5 c5, .slice A6 n6 c6, .int .i64 q3, .int .i64 q4, .int .i64 q5] 45)).heap.size = w3.heap.size + 1 := by simp
  obtain ⟨w4, hw4⟩ : ∃ w4, w3.alloc (.cells #[.slice A5 n5 c5, .slice A6 n6 c6, .int .i64 q3, .int .i64 q4, .int .i64 q5] 45) = w4 := ⟨_, rfl⟩
  obtain ⟨B9, hB9⟩ : ∃ B9, w3.heap.size = B9 := ⟨_, rfl⟩
  rw [hw4] at hb4 G9 hz4
  have hb24 := below_then hb3 hb3.size hb4
  have hb14 := below_then hb2.out hb2.out.size hb24
  have hb04 := below_then hb1.out hb1.out.size hb14
  have hs0 : Below w4.heap.size w4 w4.drew := below_drew (Below.refl _ _)
  have hY : ∀ W, Below w4.heap.size w4 W → (W.cell? ⟨B9, 0, none⟩ = some (.slice A5 n5 c5) ∧ W.cell? ⟨B9, 1, none⟩ = some (.slice A6 n6 c6) ∧ W.cell? ⟨B9, 2, none⟩ = some (.int .i64 q3) ∧ W.cell? ⟨B9, 3, none⟩ = some (.int .i64 q4) ∧ W.cell? ⟨B9, 4, none⟩ = some (.int .i64 q5) ∧ W.cell? ⟨w.heap.size, 0, none⟩ = some (.slice A n1 c) ∧ W.cell? ⟨w.heap.size, 1, none⟩ = some (.slice A2 n2 c2) ∧ W.cell? ⟨w.heap.size, 2, none⟩ = some (.int .i64 ds.armed) ∧ W.cell? ⟨w.heap.size, 3, none⟩ = some (.int .i64 ds.limit) ∧ W.cell? ⟨w.heap.size, 4, none⟩ = some (.int .i64 ds.done)) := fun W hW => by
    have g9 := blk5 ((hW.block B9 (by omega)).trans (hB9 ▸ G9))
    have g1 := blk5 ((hW.block w.heap.size (by omega)).trans ((hb14.block _ (by omega)).trans H1.out))
    exact ⟨g9.1, g9.2.1, g9.2.2.1, g9.2.2.2.1, g9.2.2.2.2.1, g1.1, g1.2.1, g1.2.2.1, g1.2.2.2.1, g1.2.2.2.2.1⟩
  have p0 := (blk6 ((hb14.block (w.heap.size + 1) (by omega)).trans H2.out)).1
  have H3' := (hb14.block (w.heap.size + 2) (by omega)).trans H3.out
  have hRf : Ref w4 (fun q => w2.heap.size ≤ q ∧ q < w3.heap.size) (.agg #[.slice A5 n5 c5, .slice A6 n6 c6, .int .i64 q3, .int .i64 q4, .int .i64 q5]) (ds.crashed x.keep x.torn) := hu0.bound.below hb4
  have hsm := same_calls _ _ g2 _ (ds.crashed x.keep x.torn) w4.drew ((ho2.out.below hb24).below hs0) (hRf.below hs0) (fine_crashed hf.out _ _) (std_crashed _ _ _)
  replace hY := Aside0.mk hY
  replace hs0 := Aside0.mk hs0
  replace H3' := Aside0.mk H3'
  replace hsm := Aside0.mk hsm
  have hb04 := Aside0.mk hb04
  have hB9 := Aside0.mk hB9
  have hb14 := Aside0.mk hb14
  clear rc G9 hb3 hb4 hb24 hu0 a0 a1 a2 a3 a4 p4 p5 hn5 hn6 hq3 hq4 hq5 hRf
  go_wp2_with fail
  refine start_ (n := 12) (S := fun w' => w'.cell? ⟨B9, 0, none⟩ = some (.slice A5 n5 c5) ∧ w'.cell? ⟨B9, 1, none⟩ = some (.slice A6 n6 c6) ∧ w'.cell? ⟨B9, 2, none⟩ = some (.int .i64 q3) ∧ w'.cell? ⟨B9, 3, none⟩ = some (.int .i64 q4) ∧ w'.cell? ⟨B9, 4, none⟩ = some (.int .i64 q5) ∧ w'.cell? ⟨w.heap.size, 0, none⟩ = some (.slice A n1 c) ∧ w'.cell? ⟨w.heap.size, 1, none⟩ = some (.slice A2 n2 c2) ∧ w'.cell? ⟨w.heap.size, 2, none⟩ = some (.int .i64 ds.armed) ∧ w'.cell? ⟨w.heap.size, 3, none⟩ = some (.int .i64 ds.limit) ∧ w'.cell? ⟨w.heap.size, 4, none⟩ = some (.int .i64 ds.done)) (ds := [10]) #[false, false, false, false, false, false, false, false, false, false, false, false] (by kernel_rfl) rfl rfl ⟨(hY.out _ hs0.out).1, (hY.out _ hs0.out).2.1, (hY.out _ hs0.out).2.2.1, (hY.out _ hs0.out).2.2.2.1, (hY.out _ hs0.out).2.2.2.2.1, (hY.out _ hs0.out).2.2.2.2.2.1, (hY.out _ hs0.out).2.2.2.2.2.2.1, (hY.out _ hs0.out).2.2.2.2.2.2.2.1, (hY.out _ hs0.out).2.2.2.2.2.2.2.2.1, (hY.out _ hs0.out).2.2.2.2.2.2.2.2.2⟩ (fun hHeld => ?_)
  refine pure_ (i := 0) (N := some 119) (v := ?_) (a' := ?_) #[true, false, false, false, false, false, false, false, false, false, false, false] rfl rfl (by kernel_rfl) (fun _ _ _ h => h) (Or.inl ⟨by rfl, ?_⟩) ?_ ?_
  rotate_left
  · intro w'
    go_simp
    with_reducible rfl
  rotate_left
  · simp only [Act.put, List.setIfInBounds_toArray, List.set_cons_zero, List.set_cons_succ, i64_w, i32_w]
    rfl
  refine pure_ (i := 2) (N := some 121) (v := ?_) (a' := ?_) #[true, false, true, false, false, false, false, false, false, false, false, false] rfl rfl (by kernel_rfl) (fun _ _ _ h => h) (Or.inl ⟨by rfl, ?_⟩) ?_ ?_
  rotate_left
  · intro w'
    go_simp
    with_reducible rfl
  rotate_left
  · simp only [Act.put, List.setIfInBounds_toArray, List.set_cons_zero, List.set_cons_succ, i64_w, i32_w]
    rfl
  refine pure_ (i := 3) (N := some 122) (v := ?_) (a' := ?_) #[true, false, true, true, false, false, false, false, false, false, false, false] rfl rfl (by kernel_rfl) (fun _ _ _ h => h) (Or.inl ⟨by rfl, ?_⟩) ?_ ?_
  rotate_left
  · intro w'
    go_simp
    with_reducible rfl
  rotate_left
  · simp only [Act.put, List.setIfInBounds_toArray, List.set_cons_zero, List.set_cons_succ, i64_w, i32_w]
    rfl
  refine pure_ (i := 4) (N := some 123) (v := ?_) (a' := ?_) #[true, false, true, true, true, false, false, false, false, false, false, false] rfl rfl (by kernel_rfl) (fun _ _ _ h => h) (Or.inl ⟨by rfl, ?_⟩) ?_ ?_
  rotate_left
  · intro w'
    go_simp
    with_reducible rfl
  rotate_left
  · simp only [Act.put, List.setIfInBounds_toArray, List.set_cons_zero, List.set_cons_succ, i64_w, i32_w]
    rfl
  refine pure_ (i := 5) (N := some 124) (v := ?_) (a' := ?_) #[true, false, true, true, true, true, false, false, false, false, false, false] rfl rfl (by kernel_rfl) (fun _ _ _ h => h) (Or.inl ⟨by rfl, ?_⟩) ?_ ?_
  rotate_left
  · intro w'
    go_simp
    with_reducible rfl
  rotate_left
  · simp only [Act.put, List.setIfInBounds_toArray, List.set_cons_zero, List.set_cons_succ, i64_w, i32_w]
    rfl
  refine take_ (i := 1) (N := some 120) (v := ?_) (a' := ?_) #[true, true, true, true, true, true, false, false, false, false, false, false] rfl rfl (by kernel_rfl) (fun _ _ _ h => h) (Or.inl ⟨by rfl, ?_⟩) hHeld ?_ ?_
  rotate_left
  · rintro w' ⟨s0, s1, s2, s3, s4, s5, s6, s7, s8, s9⟩
    go_simp
    with_reducible rfl
  rotate_left
  · simp only [Act.put, List.setIfInBounds_toArray, List.set_cons_zero, List.set_cons_succ, i64_w, i32_w]
    rfl
  refine take_ (i := 6) (N := some 125) (v := ?_) (a' := ?_) #[true, true, true, true, true, true, true, false, false, false, false, false] rfl rfl (by kernel_rfl) (fun _ _ _ h => h) (Or.inl ⟨by rfl, ?_⟩) hHeld ?_ ?_
  rotate_left
  · rintro w' ⟨s0, s1, s2, s3, s4, s5, s6, s7, s8, s9⟩
    go_simp
    with_reducible rfl
  rotate_left
  · simp only [Act.put, List.setIfInBounds_toArray, List.set_cons_zero, List.set_cons_succ, i64_w, i32_w]
    rfl
  refine one_ (i := 7) (N := some 126) #[true, true, true, true, true, true, true, true, false, false, false, false] rfl rfl (by kernel_rfl) (by decide) (fun K hK => ?_)
  refine goes_ Try.func21 (by kernel_rfl) rfl #[.pointer (some ⟨g2, 0, none⟩), .agg #[.slice A5 n5 c5, .slice A6 n6 c6, .int .i64 q3, .int .i64 q4, .int .i64 q5]] (by rfl) rfl rfl (by simp only [List.map_toArray, List.map_cons, List.map_nil]; rfl) ?_
  with_reducible refine (hsm.out).mono ?_
  rintro e w5 ⟨rfl, hb5⟩
  refine ⟨_, rfl, ?_⟩
  replace hb5 := Aside0.mk (below_then hs0.out hs0.out.size hb5)
  have hz5 := hb5.out.size
  obtain ⟨e0, e1, e2, e3, e4, e5⟩ := blk5 ((hb5.out.block (w.heap.size + 2) (by omega)).trans H3'.out)
  refine hK.out _ _ ⟨(hY.out _ hb5.out).1, (hY.out _ hb5.out).2.1, (hY.out _ hb5.out).2.2.1, (hY.out _ hb5.out).2.2.2.1, (hY.out _ hb5.out).2.2.2.2.1, (hY.out _ hb5.out).2.2.2.2.2.1, (hY.out _ hb5.out).2.2.2.2.2.2.1, (hY.out _ hb5.out).2.2.2.2.2.2.2.1, (hY.out _ hb5.out).2.2.2.2.2.2.2.2.1, (hY.out _ hb5.out).2.2.2.2.2.2.2.2.2⟩ (fun hHeld => ?_)
  clear hK K
  refine norm_ (a' := ?_) ?_ ?_
  rotate_left
  · show Act.put _ (some 126) _ = _
    simp only [Act.put, List.setIfInBounds_toArray, List.set_cons_zero, List.set_cons_succ, i64_w, i32_w]
    rfl
  refine pure_ (i := 8) (N := some 127) (v := ?_) (a' := ?_) #[true, true, true, true, true, true, true, true, true, false, false, false] rfl rfl (by kernel_rfl) (fun _ _ _ h => h) (Or.inl ⟨by rfl, ?_⟩) ?_ ?_
  rotate_left
  · intro w'
    go_simp
    with_reducible rfl
  rotate_left
  · simp only [Act.put, List.setIfInBounds_toArray, List.set_cons_zero, List.set_cons_succ, i64_w, i32_w]
    rfl
  refine pure_ (i := 9) (N := some 6) (v := ?_) (a' := ?_) #[true, true, true, true, true, true, true, true, true, true, false, false] rfl rfl (by kernel_rfl) (fun _ _ _ h => h) (Or.inl ⟨by rfl, ?_⟩) ?_ ?_
  rotate_left
  · intro w'
    go_simp
    with_reducible rfl
  rotate_left
  · simp only [Act.put, List.setIfInBounds_toArray, List.set_cons_zero, List.set_cons_succ, i64_w, i32_w]
    rfl
  refine last_ (i := 10) (N := none) #[true, true, true, true, true, true, true, true, true, true, true, false] rfl rfl (by kernel_rfl) (by decide) (fun K hK => ?_)
  refine skip_ (w1 := ?_) (by rfl) rfl ?_ ?_
  rotate_left
  · go_simp
    rfl
  refine hK.out _ _ ?_
  clear hK K
  refine pure_ (i := 11) (N := some 8) (v := ?_) (a' := ?_) #[true, true, true, true, true, true, true, true, true, true, true, true] rfl rfl (by kernel_rfl) (fun _ _ _ h => h) (Or.inl ⟨by rfl, ?_⟩) ?_ ?_
  rotate_left
  · intro w'
    go_simp
    with_reducible rfl
  rotate_left
  · simp only [Act.put, List.setIfInBounds_toArray, List.set_cons_zero, List.set_cons_succ, i64_w, i32_w]
    rfl
  refine done_ (by kernel_rfl) ?_
  go_wp2_with fail
  have H3'' := (hb5.out.block (w.heap.size + 2) (by omega)).trans H3'.out
  have hm5 := mod5 w5 (w.heap.size + 2) (.slice A n1 c) (.slice A2 n2 c2) (.int .i64 ds.armed) (.int .i64 ds.limit) (.int .i64 ds.done)
  have hb05 := below_then hb04.out hb04.out.size hb5.out
  have hOw := (h.out.fresh hb05).weaken (O' := fun q => O q ∨ (w.heap.size ≤ q ∧ q < w1.heap.size)) (Z' := fun q => Z q ∨ (w.heap.size ≤ q ∧ q < w1.heap.size)) (fun q hq => hq.imp id (fun h => h.1)) (fun q hq => hq.imp id (fun h => h.1))
  refine bodyPost_ret (results_tct rfl _ _ (w.heap.size + 2) 45 #[.slice A n1 c, .slice A2 n2 c2, .int .i64 ds.armed, .int .i64 ds.limit, .int .i64 ds.done] (0, 0) _ rfl (set5 H3'' _ _ _ _ _) Try.underlying45 rfl size45) rfl ⟨g, _, _, Oe, rfl, (hOw.mod hm5 (fun q hq => by subst hq; exact ⟨.inr ⟨by omega, by omega⟩, .inr ⟨by omega, by omega⟩⟩)).weaken (fun _ h => h) (fun _ h => .inl h), ?_, fun q hq => .inl hq, ?_, ?_, ?_⟩
  · refine Ref.mono ((hr0.out.below hb05).mod hm5 (fun q hq hn => ?_)) (fun q hq => hq)
    have := hO.out q (hOe.out q hq).1
    omega
  · refine fun q hq => Nat.lt_of_lt_of_le ?_ hm5.size
    rcases hq with hq | hq
    · have := hO.out q hq; omega
    · omega
  · exact fun q hq => ⟨.inl (hOe.out q hq).1, (hOe.out q hq).2⟩
  · exact Mod.trans (Stays.of_below hb05) hm5 (fun q hq => .inr (by omega))
end Go.Proofs.Ytolighikimpbfaa
