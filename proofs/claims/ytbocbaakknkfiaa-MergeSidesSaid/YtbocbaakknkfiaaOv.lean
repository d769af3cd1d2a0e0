/- MergeSides: the walk. -/
import Derived.Test.YtbocbaakknkfiaaOs
set_option linter.unusedVariables false
set_option linter.unusedSimpArgs false
namespace Go.Proofs.Ytbocbaakknkfiaa
open Go.RowKit Go.Shelf Go.Proofs.YtbocbaakknkfiaaW.PrintWords Go.Proofs.YtbocbaakknkfiaaW.PrintMore Go.Proofs.YtbocbaakknkfiaaW.PrintLast

set_option maxRecDepth 20000 in
set_option maxHeartbeats 4000000 in
theorem mergeSides_all (x y z : CT) (w : World) (hx : Con w x.A x.c x.L) (hy : Con w y.A y.c y.L) (hz : Con w z.A z.c z.L) :
    Calls Try.prog 5 #[.agg (conV x.V), .agg (conV y.V), .agg (conV z.V)] w fun e w' => e = .returned (.bool true) ∧ Below w.heap.size w w' := by
  have hk := Aside0.mk (fun w => known_calls w)
  have hkn := hk
  obtain ⟨w1, hw1, hB, hs⟩ := box3 w x y z
  obtain ⟨u0, u1, u2, u3, u4, u5, u6, u7⟩ := cells8 hB.b0
  obtain ⟨v0, v1, v2, v3, v4, v5, v6, v7⟩ := cells8 hB.b1
  obtain ⟨t0, t1, t2, t3, t4, t5, t6, t7⟩ := cells8 hB.b2
  have hb2 := below_alloc (Below.refl w1.heap.size w1) (.cells #[x.V 0, x.V 1, x.V 2, x.V 3, x.V 4, x.V 5, x.V 6, x.V 7, y.V 0, y.V 1, y.V 2, y.V 3, y.V 4, y.V 5, y.V 6, y.V 7, z.V 0, z.V 1, z.V 2, z.V 3, z.V 4, z.V 5, z.V 6, z.V 7] 24)
  have hB2 := hB.below hb2
  have hf := few_calls w1.heap.size 3 [x, y, z] _ (by simp) (laid3_row w1 x y z) (fun t ht => by
    simp only [List.mem_cons, List.not_mem_nil, or_false] at ht
    rcases ht with rfl | rfl | rfl
    · exact hx.below hB2.bel
    · exact hy.below hB2.bel
    · exact hz.below hB2.bel)
  have hw2 : ∃ w2, w1.alloc (.cells #[x.V 0, x.V 1, x.V 2, x.V 3, x.V 4, x.V 5, x.V 6, x.V 7, y.V 0, y.V 1, y.V 2, y.V 3, y.V 4, y.V 5, y.V 6, y.V 7, z.V 0, z.V 1, z.V 2, z.V 3, z.V 4, z.V 5, z.V 6, z.V 7] 24) = w2 := ⟨_, rfl⟩
  obtain ⟨w2, hw2⟩ := hw2
  rw [hw2] at hB2 hf
  replace hB2 := Aside0.mk hB2
  replace hf := Aside0.mk hf
  replace hx := Aside0.mk hx
  replace hy := Aside0.mk hy
  replace hz := Aside0.mk hz
  clear hB hb2
  obtain ⟨X, hX⟩ : ∃ X, x.V = X := ⟨_, rfl⟩
  obtain ⟨Y, hY⟩ : ∃ Y, y.V = Y := ⟨_, rfl⟩
  obtain ⟨Z, hZ⟩ : ∃ Z, z.V = Z := ⟨_, rfl⟩
  rw [hX] at u0 u1 u2 u3 u4 u5 u6 u7 hw1 hw2
  rw [hY] at v0 v1 v2 v3 v4 v5 v6 v7 hw1 hw2
  rw [hZ] at t0 t1 t2 t3 t4 t5 t6 t7 hw1 hw2
  rw [hX, hY, hZ]
  replace hX := Aside0.mk hX
  replace hY := Aside0.mk hY
  replace hZ := Aside0.mk hZ
  go_enter Try.func5, Try.ntmps5
  go_wp2_with fail
  have hf := hf.out
  rw [hs] at hf
  refine hf.mono ?_
  rintro e w' ⟨⟨r, rfl, hr⟩, hw'⟩
  subst hw'
  clear hf u0 u1 u2 u3 u4 u5 u6 u7 v0 v1 v2 v3 v4 v5 v6 v7 t0 t1 t2 t3 t4 t5 t6 t7 hw1 hw2 hs
  cases r with
  | false =>
    clear hr
    go_wp2_with fail
    refine (hk.out _).mono ?_
    rintro e w3 ⟨rfl, hb3⟩
    have hB := Aside0.mk (hB2.out.below hb3)
    go_wp2_with fail
    go_ret
    exact ⟨rfl, hB.out.bel⟩
  | true =>
    have hr := hr rfl
    have hx2 := Aside0.mk (fun W (h : Below w.heap.size w W) => (⟨hx.out.below h, few_small (hr x (by simp))⟩ : x.In W))
    have hy2 := Aside0.mk (fun W (h : Below w.heap.size w W) => (⟨hy.out.below h, few_small (hr y (by simp))⟩ : y.In W))
    have hz2 := Aside0.mk (fun W (h : Below w.heap.size w W) => (⟨hz.out.below h, few_small (hr z (by simp))⟩ : z.In W))
    clear hr hx hy hz
    obtain ⟨u0, u1, u2, u3, u4, u5, u6, u7⟩ := cells8 hB2.out.b0
    obtain ⟨v0, v1, v2, v3, v4, v5, v6, v7⟩ := cells8 hB2.out.b1
    obtain ⟨t0, t1, t2, t3, t4, t5, t6, t7⟩ := cells8 hB2.out.b2
    rw [hX.out] at u0 u1 u2 u3 u4 u5 u6 u7
    rw [hY.out] at v0 v1 v2 v3 v4 v5 v6 v7
    rw [hZ.out] at t0 t1 t2 t3 t4 t5 t6 t7
    go_wp2_with fail
    clear u0 u1 u2 u3 u4 u5 u6 u7 v0 v1 v2 v3 v4 v5 v6 v7 t0 t1 t2 t3 t4 t5 t6 t7
    rw [← hX.out, ← hY.out, ← hZ.out]
    have hXs := Aside0.mk (Boxes.of3 hB2.out (hx2.out _ hB2.out.bel) (hy2.out _ hB2.out.bel) (hz2.out _ hB2.out.bel))
    have hRs : Aside0 (IntRows w2 []) := ⟨fun p hp => by cases hp⟩
    have hbel := Aside0.mk hB2.out.bel
    clear hB2 hX hY hZ
    refine (three_any x y z w2 (hXs.out.con (w.heap.size) x (by simp)) (hXs.out.con (w.heap.size + 1) y (by simp)) (hXs.out.con (w.heap.size + 1 + 1) z (by simp))).mono ?_
    rintro e w3 ⟨t, A1, c1, D, e1, rfl, ho1, hI, hD, hbw3⟩
    obtain ⟨w4, hw4, hC, hbw4⟩ := lay8 w3 t
    have hXs := Aside0.mk (((hXs.out.below hbw3).below hbw4).cons hC (hI.below hbw4))
    have hRs := Aside0.mk (((hRs.out.below hbw3).cons hD).below hbw4)
    have hbel := Aside0.mk (below_then (below_then hbel.out hbel.out.size hbw3) (Nat.le_trans hbel.out.size hbw3.size) hbw4)
    clear hC hD hI hbw3 hbw4
    have q := cells8 (hXs.out.box (w.heap.size) x (by simp))
    obtain ⟨u0, u1, u2, u3, u4, u5, u6, u7⟩ := q
    have q := cells8 (hXs.out.box (w.heap.size + 1 + 1) z (by simp))
    obtain ⟨v0, v1, v2, v3, v4, v5, v6, v7⟩ := q
    have q := cells8 (hXs.out.box (w.heap.size + 1) y (by simp))
    obtain ⟨t0, t1, t2, t3, t4, t5, t6, t7⟩ := q
    go_wp2_with fail
    clear hw4 hx2 hy2 hz2
    clear u0 u1 u2 u3 u4 u5 u6 u7 v0 v1 v2 v3 v4 v5 v6 v7 t0 t1 t2 t3 t4 t5 t6 t7
    refine (three_any x z y w4 (hXs.out.con (w.heap.size) x (by simp)) (hXs.out.con (w.heap.size + 1 + 1) z (by simp)) (hXs.out.con (w.heap.size + 1) y (by simp))).mono ?_
    rintro e w5 ⟨u, A2, c2, D2, e2, rfl, ho2, hI, hD, hbw5⟩
    obtain ⟨rfl, rfl, hlen, hboth⟩ := both_sides ho1 ho2
    clear ho1 ho2
    obtain ⟨w6, hw6, hC, hbw6⟩ := lay8 w5 u
    have hXs := Aside0.mk (((hXs.out.below hbw5).below hbw6).cons hC (hI.below hbw6))
    have hRs := Aside0.mk (((hRs.out.below hbw5).cons hD).below hbw6)
    have hbel := Aside0.mk (below_then (below_then hbel.out hbel.out.size hbw5) (Nat.le_trans hbel.out.size hbw5.size) hbw6)
    clear hC hD hI hbw5 hbw6
    replace hboth := Aside0.mk hboth
    obtain ⟨nD, hnD⟩ : ∃ nD, D2.length = nD := ⟨_, rfl⟩
    rw [hnD] at hlen ⊢
    replace hnD := Aside0.mk hnD
    go_wp2_with fail
    clear hw6
    go_loopw [13] (fun s13 wr => ∃ f : Nat, f ≤ 8 ∧ s13 = .int .i64 f ∧ Aside0 (Boxes wr [(w5.heap.size, u), (w3.heap.size, t), (w.heap.size, x), (w.heap.size + 1, y), (w.heap.size + 1 + 1, z)]) ∧ Aside0 (IntRows wr [(A2, D2), (A1, D2)]) ∧ Aside0 (Below w.heap.size w wr)) (fun s13 _ => 8 - (intOf s13).toNat)
    case atStart => exact ⟨0, by omega, rfl, hXs, hRs, hbel⟩
    case round =>
      clear hXs hRs hbel
      obtain ⟨f, hf8, rfl, hXs, hRs, hbel⟩ := hrel
      by_cases hlt : f < 8
      · have g1 := hXs.out.at_ (w.heap.size + 1) y (by simp) f hlt
        have g2 := hXs.out.at_ (w.heap.size + 1 + 1) z (by simp) f hlt
        have g3 := hXs.out.at_ (w3.heap.size) t (by simp) f hlt
        have g4 := hXs.out.at_ (w5.heap.size) u (by simp) f hlt
        have i1 : (0 : Int) ≤ (f : Int) := by omega
        have i2 : (f : Int) < 8 := by omega
        go_wp2_with fail
        go_loopw [14, 15] (fun s14 s15 W => ∃ (i : Nat) (d : Bool), i ≤ nD ∧ s14 = .bool d ∧ s15 = .int .i64 i ∧ Aside0 (d = decide ((f : Int) ∈ D2.take i)) ∧ W = wr) (fun _ s15 _ => nD - (intOf s15).toNat)
        case atStart => exact ⟨0, false, by omega, rfl, rfl, ⟨by simp⟩, rfl⟩
        case round =>
          obtain ⟨i, d, hi, rfl, rfl, hd, rfl⟩ := hrel
          by_cases hln : i < nD
          · have hil : i < D2.length := by rw [hnD.out]; exact hln
            obtain ⟨ad, ea, p1⟩ := int_at (hRs.out.row A1 D2 (by simp)) i hil
            obtain ⟨ad2, ea2, p2⟩ := int_at (hRs.out.row A2 D2 (by simp)) i hil
            have htm := take_mem (n := (f : Int)) hil
            subst ea
            subst ea2
            obtain ⟨q, hq⟩ : ∃ q, D2[i] = q := ⟨_, rfl⟩
            rw [hq] at p1 p2 htm
            have j1 : (0 : Int) ≤ (i : Int) := by omega
            have j2 : (i : Int) < (nD : Int) := by omega
            replace htm := Aside0.mk htm
            clear hq hil
            cases d with
            | true =>
              have hnext : Aside0 (true = decide ((f : Int) ∈ D2.take (i + 1))) := ⟨(decide_eq_true (htm.out.2 (.inl (by simpa using hd.out)))).symm⟩
              clear hd
              go_wp2_with fail
              go_roundw
              case rel => exact ⟨i + 1, _, by omega, rfl, by go_num, hnext, trivial⟩
              case measure => simp [intOf]; omega
            | false =>
              by_cases hqf : q = (f : Int)
              · have hnext : Aside0 (true = decide ((f : Int) ∈ D2.take (i + 1))) := ⟨(decide_eq_true (htm.out.2 (.inr hqf))).symm⟩
                have q1 : (q == (f : Int)) = true := by simpa using hqf
                clear hd hqf
                go_wp2_with fail
                go_roundw
                case rel => exact ⟨i + 1, _, by omega, rfl, by go_num, hnext, trivial⟩
                case measure => simp [intOf]; omega
              · have hnext : Aside0 (false = decide ((f : Int) ∈ D2.take (i + 1))) := ⟨(decide_eq_false (fun h => (htm.out.1 h).elim (by simpa using hd.out) hqf)).symm⟩
                have q1 : (q == (f : Int)) = false := by simpa using hqf
                clear hd hqf
                go_wp2_with fail
                go_roundw
                case rel => exact ⟨i + 1, _, by omega, rfl, by go_num, hnext, trivial⟩
                case measure => simp [intOf]; omega
          · obtain rfl : i = nD := by omega
            have hd : Aside0 (d = decide ((f : Int) ∈ D2)) := ⟨by rw [hd.out, List.take_of_length_le (by rw [hnD.out]; exact Nat.le_refl _)]⟩
            cases d with
            | false =>
              have hT := hboth.out.out f hlt (by simpa using hd.out)
              have hc := texts_in t u f hlt wr.drew ((hXs.out.below (below_drew (Below.refl wr.heap.size wr))).con (w3.heap.size) t (by simp)) ((hXs.out.below (below_drew (Below.refl wr.heap.size wr))).con (w5.heap.size) u (by simp))
              rw [hT] at hc
              have hc := Aside0.mk hc
              clear hT
              have hXs := Aside0.mk (hXs.out.below (below_drew (Below.refl wr.heap.size wr)))
              have hRs := Aside0.mk (hRs.out.below (below_drew (Below.refl wr.heap.size wr)))
              have hbel := Aside0.mk (below_then hbel.out hbel.out.size (below_drew (Below.refl wr.heap.size wr)))
              go_wp2_with fail
              refine start_ (n := 35) (S := fun w' => w'.cell? ⟨w3.heap.size, f, none⟩ = some (.slice (t.A f) (t.L f).length (t.c f)) ∧ w'.cell? ⟨w5.heap.size, f, none⟩ = some (.slice (u.A f) (u.L f).length (u.c f))) (ds := []) #[false, false, false, false, false, false, false, false, false, false, false, false, false, false, false, false, false, false, false, false, false, false, false, false, false, false, false, false, false, false, false, false, false, false, false] (by kernel_rfl) rfl rfl ⟨g3, g4⟩ (fun hHeld => ?_)
              refine pure_ (i := 0) (N := some 83) (v := ?_) (a' := ?_) #[true, false, false, false, false, false, false, false, false, false, false, false, false, false, false, false, false, false, false, false, false, false, false, false, false, false, false, false, false, false, false, false, false, false, false] rfl rfl (by kernel_rfl) (fun _ _ _ h => h) (Or.inl ⟨by rfl, ?_⟩) ?_ ?_
              rotate_left
              · intro w'
                go_simp
                with_reducible rfl
              rotate_left
              · simp only [Act.put, List.setIfInBounds_toArray, List.set_cons_zero, List.set_cons_succ, i64_w, i32_w]
                rfl
              refine pure_ (i := 1) (N := some 84) (v := ?_) (a' := ?_) #[true, true, false, false, false, false, false, false, false, false, false, false, false, false, false, false, false, false, false, false, false, false, false, false, false, false, false, false, false, false, false, false, false, false, false] rfl rfl (by kernel_rfl) (fun _ _ _ h => h) (Or.inl ⟨by rfl, ?_⟩) ?_ ?_
              rotate_left
              · intro w'
                go_simp
                with_reducible rfl
              rotate_left
              · simp only [Act.put, List.setIfInBounds_toArray, List.set_cons_zero, List.set_cons_succ, i64_w, i32_w]
                rfl
              refine pure_ (i := 2) (N := some 85) (v := ?_) (a' := ?_) #[true, true, true, false, false, false, false, false, false, false, false, false, false, false, false, false, false, false, false, false, false, false, false, false, false, false, false, false, false, false, false, false, false, false, false] rfl rfl (by kernel_rfl) (fun _ _ _ h => h) (Or.inl ⟨by rfl, ?_⟩) ?_ ?_
              rotate_left
              · intro w'
                go_simp
                with_reducible rfl
              rotate_left
              · simp only [Act.put, List.setIfInBounds_toArray, List.set_cons_zero, List.set_cons_succ, i64_w, i32_w]
                rfl
              refine pure_ (i := 3) (N := some 86) (v := ?_) (a' := ?_) #[true, true, true, true, false, false, false, false, false, false, false, false, false, false, false, false, false, false, false, false, false, false, false, false, false, false, false, false, false, false, false, false, false, false, false] rfl rfl (by kernel_rfl) (fun _ _ _ h => h) (Or.inl ⟨by rfl, ?_⟩) ?_ ?_
              rotate_left
              · intro w'
                go_simp
                with_reducible rfl
              rotate_left
              · simp only [Act.put, List.setIfInBounds_toArray, List.set_cons_zero, List.set_cons_succ, i64_w, i32_w]
                rfl
              refine pure_ (i := 4) (N := some 87) (v := ?_) (a' := ?_) #[true, true, true, true, true, false, false, false, false, false, false, false, false, false, false, false, false, false, false, false, false, false, false, false, false, false, false, false, false, false, false, false, false, false, false] rfl rfl (by kernel_rfl) (fun _ _ _ h => h) (Or.inl ⟨by rfl, ?_⟩) ?_ ?_
              rotate_left
              · intro w'
                go_simp
                with_reducible rfl
              rotate_left
              · simp only [Act.put, List.setIfInBounds_toArray, List.set_cons_zero, List.set_cons_succ, i64_w, i32_w]
                rfl
              refine pure_ (i := 6) (N := some 89) (v := ?_) (a' := ?_) #[true, true, true, true, true, false, true, false, false, false, false, false, false, false, false, false, false, false, false, false, false, false, false, false, false, false, false, false, false, false, false, false, false, false, false] rfl rfl (by kernel_rfl) (fun _ _ _ h => h) (Or.inl ⟨by rfl, ?_⟩) ?_ ?_
              rotate_left
              · intro w'
                go_simp
                with_reducible rfl
              rotate_left
              · simp only [Act.put, List.setIfInBounds_toArray, List.set_cons_zero, List.set_cons_succ, i64_w, i32_w]
                rfl
              refine pure_ (i := 7) (N := some 90) (v := ?_) (a' := ?_) #[true, true, true, true, true, false, true, true, false, false, false, false, false, false, false, false, false, false, false, false, false, false, false, false, false, false, false, false, false, false, false, false, false, false, false] rfl rfl (by kernel_rfl) (fun _ _ _ h => h) (Or.inl ⟨by rfl, ?_⟩) ?_ ?_
              rotate_left
              · intro w'
                go_simp
                with_reducible rfl
              rotate_left
              · simp only [Act.put, List.setIfInBounds_toArray, List.set_cons_zero, List.set_cons_succ, i64_w, i32_w]
                rfl
              refine take_ (i := 5) (N := some 88) (v := ?_) (a' := ?_) #[true, true, true, true, true, true, true, true, false, false, false, false, false, false, false, false, false, false, false, false, false, false, false, false, false, false, false, false, false, false, false, false, false, false, false] rfl rfl (by kernel_rfl) (fun _ _ _ h => h) (Or.inl ⟨by rfl, ?_⟩) hHeld ?_ ?_
              rotate_left
              · rintro w' ⟨s0, s1⟩
                go_simp
                with_reducible rfl
              rotate_left
              · simp only [Act.put, List.setIfInBounds_toArray, List.set_cons_zero, List.set_cons_succ, i64_w, i32_w]
                rfl
              refine take_ (i := 8) (N := some 91) (v := ?_) (a' := ?_) #[true, true, true, true, true, true, true, true, true, false, false, false, false, false, false, false, false, false, false, false, false, false, false, false, false, false, false, false, false, false, false, false, false, false, false] rfl rfl (by kernel_rfl) (fun _ _ _ h => h) (Or.inl ⟨by rfl, ?_⟩) hHeld ?_ ?_
              rotate_left
              · rintro w' ⟨s0, s1⟩
                go_simp
                with_reducible rfl
              rotate_left
              · simp only [Act.put, List.setIfInBounds_toArray, List.set_cons_zero, List.set_cons_succ, i64_w, i32_w]
                rfl
              refine one_ (i := 9) (N := some 92) #[true, true, true, true, true, true, true, true, true, true, false, false, false, false, false, false, false, false, false, false, false, false, false, false, false, false, false, false, false, false, false, false, false, false, false] rfl rfl (by kernel_rfl) (by decide) (fun K hK => ?_)
              refine goes_ Try.func14 (by kernel_rfl) rfl #[.slice (t.A f) (t.L f).length (t.c f), .slice (u.A f) (u.L f).length (u.c f)] (by rfl) rfl rfl (by simp only [List.map_toArray, List.map_cons, List.map_nil]; rfl) ?_
              with_reducible refine (hc.out).mono ?_
              rintro e w7 ⟨rfl, hb7⟩
              refine ⟨_, rfl, ?_⟩
              have hXs := Aside0.mk (hXs.out.below hb7)
              have hRs := Aside0.mk (hRs.out.below hb7)
              have hbel := Aside0.mk (below_then hbel.out hbel.out.size hb7)
              have g3 := pw_cell_below hb7 g3
              have g4 := pw_cell_below hb7 g4
              refine hK.out _ _ ⟨(And.intro g3 g4).1, (And.intro g3 g4).2⟩ (fun hHeld => ?_)
              clear hK K
              refine norm_ (a' := ?_) ?_ ?_
              rotate_left
              · show Act.put _ (some 92) _ = _
                simp only [Act.put, List.setIfInBounds_toArray, List.set_cons_zero, List.set_cons_succ, i64_w, i32_w]
                rfl
              refine pure_ (i := 10) (N := some 93) (v := ?_) (a' := ?_) #[true, true, true, true, true, true, true, true, true, true, true, false, false, false, false, false, false, false, false, false, false, false, false, false, false, false, false, false, false, false, false, false, false, false, false] rfl rfl (by kernel_rfl) (fun _ _ _ h => h) (Or.inl ⟨by rfl, ?_⟩) ?_ ?_
              rotate_left
              · intro w'
                go_simp
                with_reducible rfl
              rotate_left
              · simp only [Act.put, List.setIfInBounds_toArray, List.set_cons_zero, List.set_cons_succ, i64_w, i32_w]
                rfl
              refine pure_ (i := 11) (N := some 94) (v := ?_) (a' := ?_) #[true, true, true, true, true, true, true, true, true, true, true, true, false, false, false, false, false, false, false, false, false, false, false, false, false, false, false, false, false, false, false, false, false, false, false] rfl rfl (by kernel_rfl) (fun _ _ _ h => h) (Or.inl ⟨by rfl, ?_⟩) ?_ ?_
              rotate_left
              · intro w'
                go_simp
                with_reducible rfl
              rotate_left
              · simp only [Act.put, List.setIfInBounds_toArray, List.set_cons_zero, List.set_cons_succ, i64_w, i32_w]
                rfl
              refine pure_ (i := 12) (N := some 95) (v := ?_) (a' := ?_) #[true, true, true, true, true, true, true, true, true, true, true, true, true, false, false, false, false, false, false, false, false, false, false, false, false, false, false, false, false, false, false, false, false, false, false] rfl rfl (by kernel_rfl) (fun _ _ _ h => h) (Or.inl ⟨by rfl, ?_⟩) ?_ ?_
              rotate_left
              · intro w'
                go_simp
                with_reducible rfl
              rotate_left
              · simp only [Act.put, List.setIfInBounds_toArray, List.set_cons_zero, List.set_cons_succ, i64_w, i32_w]
                rfl
              refine pure_ (i := 13) (N := some 96) (v := ?_) (a' := ?_) #[true, true, true, true, true, true, true, true, true, true, true, true, true, true, false, false, false, false, false, false, false, false, false, false, false, false, false, false, false, false, false, false, false, false, false] rfl rfl (by kernel_rfl) (fun _ _ _ h => h) (Or.inl ⟨by rfl, ?_⟩) ?_ ?_
              rotate_left
              · intro w'
                go_simp
                with_reducible rfl
              rotate_left
              · simp only [Act.put, List.setIfInBounds_toArray, List.set_cons_zero, List.set_cons_succ, i64_w, i32_w]
                rfl
              refine pure_ (i := 14) (N := some 97) (v := ?_) (a' := ?_) #[true, true, true, true, true, true, true, true, true, true, true, true, true, true, true, false, false, false, false, false, false, false, false, false, false, false, false, false, false, false, false, false, false, false, false] rfl rfl (by kernel_rfl) (fun _ _ _ h => h) (Or.inl ⟨by rfl, ?_⟩) ?_ ?_
              rotate_left
              · intro w'
                go_simp
                with_reducible rfl
              rotate_left
              · simp only [Act.put, List.setIfInBounds_toArray, List.set_cons_zero, List.set_cons_succ, i64_w, i32_w]
                rfl
              refine pure_ (i := 15) (N := some 98) (v := undef) (a' := ?_) #[true, true, true, true, true, true, true, true, true, true, true, true, true, true, true, true, false, false, false, false, false, false, false, false, false, false, false, false, false, false, false, false, false, false, false] rfl rfl (by kernel_rfl) (fun _ _ _ h => h) (Or.inr ⟨by rfl, rfl⟩) ?_ ?_
              rotate_left
              · simp only [Act.put, List.setIfInBounds_toArray, List.set_cons_zero, List.set_cons_succ, i64_w, i32_w]
                rfl
              refine pure_ (i := 16) (N := some 99) (v := undef) (a' := ?_) #[true, true, true, true, true, true, true, true, true, true, true, true, true, true, true, true, true, false, false, false, false, false, false, false, false, false, false, false, false, false, false, false, false, false, false] rfl rfl (by kernel_rfl) (fun _ _ _ h => h) (Or.inr ⟨by rfl, rfl⟩) ?_ ?_
              rotate_left
              · simp only [Act.put, List.setIfInBounds_toArray, List.set_cons_zero, List.set_cons_succ, i64_w, i32_w]
                rfl
              refine pure_ (i := 17) (N := some 100) (v := undef) (a' := ?_) #[true, true, true, true, true, true, true, true, true, true, true, true, true, true, true, true, true, true, false, false, false, false, false, false, false, false, false, false, false, false, false, false, false, false, false] rfl rfl (by kernel_rfl) (fun _ _ _ h => h) (Or.inr ⟨by rfl, rfl⟩) ?_ ?_
              rotate_left
              · simp only [Act.put, List.setIfInBounds_toArray, List.set_cons_zero, List.set_cons_succ, i64_w, i32_w]
                rfl
              refine pure_ (i := 18) (N := some 101) (v := undef) (a' := ?_) #[true, true, true, true, true, true, true, true, true, true, true, true, true, true, true, true, true, true, true, false, false, false, false, false, false, false, false, false, false, false, false, false, false, false, false] rfl rfl (by kernel_rfl) (fun _ _ _ h => h) (Or.inr ⟨by rfl, rfl⟩) ?_ ?_
              rotate_left
              · simp only [Act.put, List.setIfInBounds_toArray, List.set_cons_zero, List.set_cons_succ, i64_w, i32_w]
                rfl
              refine pure_ (i := 19) (N := some 102) (v := undef) (a' := ?_) #[true, true, true, true, true, true, true, true, true, true, true, true, true, true, true, true, true, true, true, true, false, false, false, false, false, false, false, false, false, false, false, false, false, false, false] rfl rfl (by kernel_rfl) (fun _ _ _ h => h) (Or.inr ⟨by rfl, rfl⟩) ?_ ?_
              rotate_left
              · simp only [Act.put, List.setIfInBounds_toArray, List.set_cons_zero, List.set_cons_succ, i64_w, i32_w]
                rfl
              refine pure_ (i := 20) (N := some 103) (v := undef) (a' := ?_) #[true, true, true, true, true, true, true, true, true, true, true, true, true, true, true, true, true, true, true, true, true, false, false, false, false, false, false, false, false, false, false, false, false, false, false] rfl rfl (by kernel_rfl) (fun _ _ _ h => h) (Or.inr ⟨by rfl, rfl⟩) ?_ ?_
              rotate_left
              · simp only [Act.put, List.setIfInBounds_toArray, List.set_cons_zero, List.set_cons_succ, i64_w, i32_w]
                rfl
              refine pure_ (i := 21) (N := some 104) (v := undef) (a' := ?_) #[true, true, true, true, true, true, true, true, true, true, true, true, true, true, true, true, true, true, true, true, true, true, false, false, false, false, false, false, false, false, false, false, false, false, false] rfl rfl (by kernel_rfl) (fun _ _ _ h => h) (Or.inr ⟨by rfl, rfl⟩) ?_ ?_
              rotate_left
              · simp only [Act.put, List.setIfInBounds_toArray, List.set_cons_zero, List.set_cons_succ, i64_w, i32_w]
                rfl
              refine pure_ (i := 22) (N := some 105) (v := undef) (a' := ?_) #[true, true, true, true, true, true, true, true, true, true, true, true, true, true, true, true, true, true, true, true, true, true, true, false, false, false, false, false, false, false, false, false, false, false, false] rfl rfl (by kernel_rfl) (fun _ _ _ h => h) (Or.inr ⟨by rfl, rfl⟩) ?_ ?_
              rotate_left
              · simp only [Act.put, List.setIfInBounds_toArray, List.set_cons_zero, List.set_cons_succ, i64_w, i32_w]
                rfl
              refine pure_ (i := 23) (N := some 106) (v := undef) (a' := ?_) #[true, true, true, true, true, true, true, true, true, true, true, true, true, true, true, true, true, true, true, true, true, true, true, true, false, false, false, false, false, false, false, false, false, false, false] rfl rfl (by kernel_rfl) (fun _ _ _ h => h) (Or.inr ⟨by rfl, rfl⟩) ?_ ?_
              rotate_left
              · simp only [Act.put, List.setIfInBounds_toArray, List.set_cons_zero, List.set_cons_succ, i64_w, i32_w]
                rfl
              refine pure_ (i := 24) (N := some 107) (v := undef) (a' := ?_) #[true, true, true, true, true, true, true, true, true, true, true, true, true, true, true, true, true, true, true, true, true, true, true, true, true, false, false, false, false, false, false, false, false, false, false] rfl rfl (by kernel_rfl) (fun _ _ _ h => h) (Or.inr ⟨by rfl, rfl⟩) ?_ ?_
              rotate_left
              · simp only [Act.put, List.setIfInBounds_toArray, List.set_cons_zero, List.set_cons_succ, i64_w, i32_w]
                rfl
              refine pure_ (i := 25) (N := some 108) (v := undef) (a' := ?_) #[true, true, true, true, true, true, true, true, true, true, true, true, true, true, true, true, true, true, true, true, true, true, true, true, true, true, false, false, false, false, false, false, false, false, false] rfl rfl (by kernel_rfl) (fun _ _ _ h => h) (Or.inr ⟨by rfl, rfl⟩) ?_ ?_
              rotate_left
              · simp only [Act.put, List.setIfInBounds_toArray, List.set_cons_zero, List.set_cons_succ, i64_w, i32_w]
                rfl
              refine pure_ (i := 26) (N := some 109) (v := undef) (a' := ?_) #[true, true, true, true, true, true, true, true, true, true, true, true, true, true, true, true, true, true, true, true, true, true, true, true, true, true, true, false, false, false, false, false, false, false, false] rfl rfl (by kernel_rfl) (fun _ _ _ h => h) (Or.inr ⟨by rfl, rfl⟩) ?_ ?_
              rotate_left
              · simp only [Act.put, List.setIfInBounds_toArray, List.set_cons_zero, List.set_cons_succ, i64_w, i32_w]
                rfl
              refine pure_ (i := 27) (N := some 110) (v := undef) (a' := ?_) #[true, true, true, true, true, true, true, true, true, true, true, true, true, true, true, true, true, true, true, true, true, true, true, true, true, true, true, true, false, false, false, false, false, false, false] rfl rfl (by kernel_rfl) (fun _ _ _ h => h) (Or.inr ⟨by rfl, rfl⟩) ?_ ?_
              rotate_left
              · simp only [Act.put, List.setIfInBounds_toArray, List.set_cons_zero, List.set_cons_succ, i64_w, i32_w]
                rfl
              refine pure_ (i := 28) (N := some 111) (v := undef) (a' := ?_) #[true, true, true, true, true, true, true, true, true, true, true, true, true, true, true, true, true, true, true, true, true, true, true, true, true, true, true, true, true, false, false, false, false, false, false] rfl rfl (by kernel_rfl) (fun _ _ _ h => h) (Or.inr ⟨by rfl, rfl⟩) ?_ ?_
              rotate_left
              · simp only [Act.put, List.setIfInBounds_toArray, List.set_cons_zero, List.set_cons_succ, i64_w, i32_w]
                rfl
              refine pure_ (i := 29) (N := some 112) (v := undef) (a' := ?_) #[true, true, true, true, true, true, true, true, true, true, true, true, true, true, true, true, true, true, true, true, true, true, true, true, true, true, true, true, true, true, false, false, false, false, false] rfl rfl (by kernel_rfl) (fun _ _ _ h => h) (Or.inr ⟨by rfl, rfl⟩) ?_ ?_
              rotate_left
              · simp only [Act.put, List.setIfInBounds_toArray, List.set_cons_zero, List.set_cons_succ, i64_w, i32_w]
                rfl
              refine pure_ (i := 30) (N := some 113) (v := undef) (a' := ?_) #[true, true, true, true, true, true, true, true, true, true, true, true, true, true, true, true, true, true, true, true, true, true, true, true, true, true, true, true, true, true, true, false, false, false, false] rfl rfl (by kernel_rfl) (fun _ _ _ h => h) (Or.inr ⟨by rfl, rfl⟩) ?_ ?_
              rotate_left
              · simp only [Act.put, List.setIfInBounds_toArray, List.set_cons_zero, List.set_cons_succ, i64_w, i32_w]
                rfl
              refine pure_ (i := 31) (N := some 114) (v := undef) (a' := ?_) #[true, true, true, true, true, true, true, true, true, true, true, true, true, true, true, true, true, true, true, true, true, true, true, true, true, true, true, true, true, true, true, true, false, false, false] rfl rfl (by kernel_rfl) (fun _ _ _ h => h) (Or.inr ⟨by rfl, rfl⟩) ?_ ?_
              rotate_left
              · simp only [Act.put, List.setIfInBounds_toArray, List.set_cons_zero, List.set_cons_succ, i64_w, i32_w]
                rfl
              refine pure_ (i := 32) (N := some 115) (v := undef) (a' := ?_) #[true, true, true, true, true, true, true, true, true, true, true, true, true, true, true, true, true, true, true, true, true, true, true, true, true, true, true, true, true, true, true, true, true, false, false] rfl rfl (by kernel_rfl) (fun _ _ _ h => h) (Or.inr ⟨by rfl, rfl⟩) ?_ ?_
              rotate_left
              · simp only [Act.put, List.setIfInBounds_toArray, List.set_cons_zero, List.set_cons_succ, i64_w, i32_w]
                rfl
              refine pure_ (i := 33) (N := some 116) (v := ?_) (a' := ?_) #[true, true, true, true, true, true, true, true, true, true, true, true, true, true, true, true, true, true, true, true, true, true, true, true, true, true, true, true, true, true, true, true, true, true, false] rfl rfl (by kernel_rfl) (fun _ _ _ h => h) (Or.inl ⟨by rfl, ?_⟩) ?_ ?_
              rotate_left
              · intro w'
                go_simp
                with_reducible rfl
              rotate_left
              · simp only [Act.put, List.setIfInBounds_toArray, List.set_cons_zero, List.set_cons_succ, i64_w, i32_w]
                rfl
              refine pure_ (i := 34) (N := some 117) (v := ?_) (a' := ?_) #[true, true, true, true, true, true, true, true, true, true, true, true, true, true, true, true, true, true, true, true, true, true, true, true, true, true, true, true, true, true, true, true, true, true, true] rfl rfl (by kernel_rfl) (fun _ _ _ h => h) (Or.inl ⟨by rfl, ?_⟩) ?_ ?_
              rotate_left
              · intro w'
                go_simp
                with_reducible rfl
              rotate_left
              · simp only [Act.put, List.setIfInBounds_toArray, List.set_cons_zero, List.set_cons_succ, i64_w, i32_w]
                rfl
              refine done_ (by kernel_rfl) ?_
              go_wp2_with fail
              go_roundw
              case rel => exact ⟨f + 1, by omega, by go_num, hXs, hRs, hbel⟩
              case measure => simp [intOf]; omega
            | true =>
              have hT := hboth.out.in_ f hlt (by simpa using hd.out)
              have hc := texts_in t z f hlt wr.drew ((hXs.out.below (below_drew (Below.refl wr.heap.size wr))).con (w3.heap.size) t (by simp)) ((hXs.out.below (below_drew (Below.refl wr.heap.size wr))).con (w.heap.size + 1 + 1) z (by simp))
              rw [hT.1] at hc
              have hc := Aside0.mk hc
              replace hT := Aside0.mk hT.2
              have hXs := Aside0.mk (hXs.out.below (below_drew (Below.refl wr.heap.size wr)))
              have hRs := Aside0.mk (hRs.out.below (below_drew (Below.refl wr.heap.size wr)))
              have hbel := Aside0.mk (below_then hbel.out hbel.out.size (below_drew (Below.refl wr.heap.size wr)))
              go_wp2_with fail
              refine start_ (n := 35) (S := fun w' => w'.cell? ⟨w3.heap.size, f, none⟩ = some (.slice (t.A f) (t.L f).length (t.c f)) ∧ w'.cell? ⟨w.heap.size + 1 + 1, f, none⟩ = some (.slice (z.A f) (z.L f).length (z.c f)) ∧ w'.cell? ⟨w5.heap.size, f, none⟩ = some (.slice (u.A f) (u.L f).length (u.c f)) ∧ w'.cell? ⟨w.heap.size + 1, f, none⟩ = some (.slice (y.A f) (y.L f).length (y.c f))) (ds := []) #[false, false, false, false, false, false, false, false, false, false, false, false, false, false, false, false, false, false, false, false, false, false, false, false, false, false, false, false, false, false, false, false, false, false, false] (by kernel_rfl) rfl rfl ⟨g3, g2, g4, g1⟩ (fun hHeld => ?_)
              refine pure_ (i := 0) (N := some 83) (v := ?_) (a' := ?_) #[true, false, false, false, false, false, false, false, false, false, false, false, false, false, false, false, false, false, false, false, false, false, false, false, false, false, false, false, false, false, false, false, false, false, false] rfl rfl (by kernel_rfl) (fun _ _ _ h => h) (Or.inl ⟨by rfl, ?_⟩) ?_ ?_
              rotate_left
              · intro w'
                go_simp
                with_reducible rfl
              rotate_left
              · simp only [Act.put, List.setIfInBounds_toArray, List.set_cons_zero, List.set_cons_succ, i64_w, i32_w]
                rfl
              refine pure_ (i := 1) (N := some 84) (v := ?_) (a' := ?_) #[true, true, false, false, false, false, false, false, false, false, false, false, false, false, false, false, false, false, false, false, false, false, false, false, false, false, false, false, false, false, false, false, false, false, false] rfl rfl (by kernel_rfl) (fun _ _ _ h => h) (Or.inl ⟨by rfl, ?_⟩) ?_ ?_
              rotate_left
              · intro w'
                go_simp
                with_reducible rfl
              rotate_left
              · simp only [Act.put, List.setIfInBounds_toArray, List.set_cons_zero, List.set_cons_succ, i64_w, i32_w]
                rfl
              refine pure_ (i := 2) (N := some 85) (v := ?_) (a' := ?_) #[true, true, true, false, false, false, false, false, false, false, false, false, false, false, false, false, false, false, false, false, false, false, false, false, false, false, false, false, false, false, false, false, false, false, false] rfl rfl (by kernel_rfl) (fun _ _ _ h => h) (Or.inl ⟨by rfl, ?_⟩) ?_ ?_
              rotate_left
              · intro w'
                go_simp
                with_reducible rfl
              rotate_left
              · simp only [Act.put, List.setIfInBounds_toArray, List.set_cons_zero, List.set_cons_succ, i64_w, i32_w]
                rfl
              refine pure_ (i := 3) (N := some 86) (v := undef) (a' := ?_) #[true, true, true, true, false, false, false, false, false, false, false, false, false, false, false, false, false, false, false, false, false, false, false, false, false, false, false, false, false, false, false, false, false, false, false] rfl rfl (by kernel_rfl) (fun _ _ _ h => h) (Or.inr ⟨by rfl, rfl⟩) ?_ ?_
              rotate_left
              · simp only [Act.put, List.setIfInBounds_toArray, List.set_cons_zero, List.set_cons_succ, i64_w, i32_w]
                rfl
              refine pure_ (i := 4) (N := some 87) (v := undef) (a' := ?_) #[true, true, true, true, true, false, false, false, false, false, false, false, false, false, false, false, false, false, false, false, false, false, false, false, false, false, false, false, false, false, false, false, false, false, false] rfl rfl (by kernel_rfl) (fun _ _ _ h => h) (Or.inr ⟨by rfl, rfl⟩) ?_ ?_
              rotate_left
              · simp only [Act.put, List.setIfInBounds_toArray, List.set_cons_zero, List.set_cons_succ, i64_w, i32_w]
                rfl
              refine pure_ (i := 5) (N := some 88) (v := undef) (a' := ?_) #[true, true, true, true, true, true, false, false, false, false, false, false, false, false, false, false, false, false, false, false, false, false, false, false, false, false, false, false, false, false, false, false, false, false, false] rfl rfl (by kernel_rfl) (fun _ _ _ h => h) (Or.inr ⟨by rfl, rfl⟩) ?_ ?_
              rotate_left
              · simp only [Act.put, List.setIfInBounds_toArray, List.set_cons_zero, List.set_cons_succ, i64_w, i32_w]
                rfl
              refine pure_ (i := 6) (N := some 89) (v := undef) (a' := ?_) #[true, true, true, true, true, true, true, false, false, false, false, false, false, false, false, false, false, false, false, false, false, false, false, false, false, false, false, false, false, false, false, false, false, false, false] rfl rfl (by kernel_rfl) (fun _ _ _ h => h) (Or.inr ⟨by rfl, rfl⟩) ?_ ?_
              rotate_left
              · simp only [Act.put, List.setIfInBounds_toArray, List.set_cons_zero, List.set_cons_succ, i64_w, i32_w]
                rfl
              refine pure_ (i := 7) (N := some 90) (v := undef) (a' := ?_) #[true, true, true, true, true, true, true, true, false, false, false, false, false, false, false, false, false, false, false, false, false, false, false, false, false, false, false, false, false, false, false, false, false, false, false] rfl rfl (by kernel_rfl) (fun _ _ _ h => h) (Or.inr ⟨by rfl, rfl⟩) ?_ ?_
              rotate_left
              · simp only [Act.put, List.setIfInBounds_toArray, List.set_cons_zero, List.set_cons_succ, i64_w, i32_w]
                rfl
              refine pure_ (i := 8) (N := some 91) (v := undef) (a' := ?_) #[true, true, true, true, true, true, true, true, true, false, false, false, false, false, false, false, false, false, false, false, false, false, false, false, false, false, false, false, false, false, false, false, false, false, false] rfl rfl (by kernel_rfl) (fun _ _ _ h => h) (Or.inr ⟨by rfl, rfl⟩) ?_ ?_
              rotate_left
              · simp only [Act.put, List.setIfInBounds_toArray, List.set_cons_zero, List.set_cons_succ, i64_w, i32_w]
                rfl
              refine pure_ (i := 9) (N := some 92) (v := undef) (a' := ?_) #[true, true, true, true, true, true, true, true, true, true, false, false, false, false, false, false, false, false, false, false, false, false, false, false, false, false, false, false, false, false, false, false, false, false, false] rfl rfl (by kernel_rfl) (fun _ _ _ h => h) (Or.inr ⟨by rfl, rfl⟩) ?_ ?_
              rotate_left
              · simp only [Act.put, List.setIfInBounds_toArray, List.set_cons_zero, List.set_cons_succ, i64_w, i32_w]
                rfl
              refine pure_ (i := 10) (N := some 93) (v := undef) (a' := ?_) #[true, true, true, true, true, true, true, true, true, true, true, false, false, false, false, false, false, false, false, false, false, false, false, false, false, false, false, false, false, false, false, false, false, false, false] rfl rfl (by kernel_rfl) (fun _ _ _ h => h) (Or.inr ⟨by rfl, rfl⟩) ?_ ?_
              rotate_left
              · simp only [Act.put, List.setIfInBounds_toArray, List.set_cons_zero, List.set_cons_succ, i64_w, i32_w]
                rfl
              refine pure_ (i := 11) (N := some 94) (v := ?_) (a' := ?_) #[true, true, true, true, true, true, true, true, true, true, true, true, false, false, false, false, false, false, false, false, false, false, false, false, false, false, false, false, false, false, false, false, false, false, false] rfl rfl (by kernel_rfl) (fun _ _ _ h => h) (Or.inl ⟨by rfl, ?_⟩) ?_ ?_
              rotate_left
              · intro w'
                go_simp
                with_reducible rfl
              rotate_left
              · simp only [Act.put, List.setIfInBounds_toArray, List.set_cons_zero, List.set_cons_succ, i64_w, i32_w]
                rfl
              refine pure_ (i := 12) (N := some 95) (v := ?_) (a' := ?_) #[true, true, true, true, true, true, true, true, true, true, true, true, true, false, false, false, false, false, false, false, false, false, false, false, false, false, false, false, false, false, false, false, false, false, false] rfl rfl (by kernel_rfl) (fun _ _ _ h => h) (Or.inl ⟨by rfl, ?_⟩) ?_ ?_
              rotate_left
              · intro w'
                go_simp
                with_reducible rfl
              rotate_left
              · simp only [Act.put, List.setIfInBounds_toArray, List.set_cons_zero, List.set_cons_succ, i64_w, i32_w]
                rfl
              refine pure_ (i := 13) (N := some 96) (v := ?_) (a' := ?_) #[true, true, true, true, true, true, true, true, true, true, true, true, true, true, false, false, false, false, false, false, false, false, false, false, false, false, false, false, false, false, false, false, false, false, false] rfl rfl (by kernel_rfl) (fun _ _ _ h => h) (Or.inl ⟨by rfl, ?_⟩) ?_ ?_
              rotate_left
              · intro w'
                go_simp
                with_reducible rfl
              rotate_left
              · simp only [Act.put, List.setIfInBounds_toArray, List.set_cons_zero, List.set_cons_succ, i64_w, i32_w]
                rfl
              refine pure_ (i := 14) (N := some 97) (v := ?_) (a' := ?_) #[true, true, true, true, true, true, true, true, true, true, true, true, true, true, true, false, false, false, false, false, false, false, false, false, false, false, false, false, false, false, false, false, false, false, false] rfl rfl (by kernel_rfl) (fun _ _ _ h => h) (Or.inl ⟨by rfl, ?_⟩) ?_ ?_
              rotate_left
              · intro w'
                go_simp
                with_reducible rfl
              rotate_left
              · simp only [Act.put, List.setIfInBounds_toArray, List.set_cons_zero, List.set_cons_succ, i64_w, i32_w]
                rfl
              refine pure_ (i := 15) (N := some 98) (v := ?_) (a' := ?_) #[true, true, true, true, true, true, true, true, true, true, true, true, true, true, true, true, false, false, false, false, false, false, false, false, false, false, false, false, false, false, false, false, false, false, false] rfl rfl (by kernel_rfl) (fun _ _ _ h => h) (Or.inl ⟨by rfl, ?_⟩) ?_ ?_
              rotate_left
              · intro w'
                go_simp
                with_reducible rfl
              rotate_left
              · simp only [Act.put, List.setIfInBounds_toArray, List.set_cons_zero, List.set_cons_succ, i64_w, i32_w]
                rfl
              refine pure_ (i := 16) (N := some 99) (v := ?_) (a' := ?_) #[true, true, true, true, true, true, true, true, true, true, true, true, true, true, true, true, true, false, false, false, false, false, false, false, false, false, false, false, false, false, false, false, false, false, false] rfl rfl (by kernel_rfl) (fun _ _ _ h => h) (Or.inl ⟨by rfl, ?_⟩) ?_ ?_
              rotate_left
              · intro w'
                go_simp
                with_reducible rfl
              rotate_left
              · simp only [Act.put, List.setIfInBounds_toArray, List.set_cons_zero, List.set_cons_succ, i64_w, i32_w]
                rfl
              refine pure_ (i := 18) (N := some 101) (v := ?_) (a' := ?_) #[true, true, true, true, true, true, true, true, true, true, true, true, true, true, true, true, true, false, true, false, false, false, false, false, false, false, false, false, false, false, false, false, false, false, false] rfl rfl (by kernel_rfl) (fun _ _ _ h => h) (Or.inl ⟨by rfl, ?_⟩) ?_ ?_
              rotate_left
              · intro w'
                go_simp
                with_reducible rfl
              rotate_left
              · simp only [Act.put, List.setIfInBounds_toArray, List.set_cons_zero, List.set_cons_succ, i64_w, i32_w]
                rfl
              refine pure_ (i := 19) (N := some 102) (v := ?_) (a' := ?_) #[true, true, true, true, true, true, true, true, true, true, true, true, true, true, true, true, true, false, true, true, false, false, false, false, false, false, false, false, false, false, false, false, false, false, false] rfl rfl (by kernel_rfl) (fun _ _ _ h => h) (Or.inl ⟨by rfl, ?_⟩) ?_ ?_
              rotate_left
              · intro w'
                go_simp
                with_reducible rfl
              rotate_left
              · simp only [Act.put, List.setIfInBounds_toArray, List.set_cons_zero, List.set_cons_succ, i64_w, i32_w]
                rfl
              refine take_ (i := 17) (N := some 100) (v := ?_) (a' := ?_) #[true, true, true, true, true, true, true, true, true, true, true, true, true, true, true, true, true, true, true, true, false, false, false, false, false, false, false, false, false, false, false, false, false, false, false] rfl rfl (by kernel_rfl) (fun _ _ _ h => h) (Or.inl ⟨by rfl, ?_⟩) hHeld ?_ ?_
              rotate_left
              · rintro w' ⟨s0, s1, s2, s3⟩
                go_simp
                with_reducible rfl
              rotate_left
              · simp only [Act.put, List.setIfInBounds_toArray, List.set_cons_zero, List.set_cons_succ, i64_w, i32_w]
                rfl
              refine take_ (i := 20) (N := some 103) (v := ?_) (a' := ?_) #[true, true, true, true, true, true, true, true, true, true, true, true, true, true, true, true, true, true, true, true, true, false, false, false, false, false, false, false, false, false, false, false, false, false, false] rfl rfl (by kernel_rfl) (fun _ _ _ h => h) (Or.inl ⟨by rfl, ?_⟩) hHeld ?_ ?_
              rotate_left
              · rintro w' ⟨s0, s1, s2, s3⟩
                go_simp
                with_reducible rfl
              rotate_left
              · simp only [Act.put, List.setIfInBounds_toArray, List.set_cons_zero, List.set_cons_succ, i64_w, i32_w]
                rfl
              refine one_ (i := 21) (N := some 104) #[true, true, true, true, true, true, true, true, true, true, true, true, true, true, true, true, true, true, true, true, true, true, false, false, false, false, false, false, false, false, false, false, false, false, false] rfl rfl (by kernel_rfl) (by decide) (fun K hK => ?_)
              refine goes_ Try.func14 (by kernel_rfl) rfl #[.slice (t.A f) (t.L f).length (t.c f), .slice (z.A f) (z.L f).length (z.c f)] (by rfl) rfl rfl (by simp only [List.map_toArray, List.map_cons, List.map_nil]; rfl) ?_
              with_reducible refine (hc.out).mono ?_
              rintro e w7 ⟨rfl, hb7⟩
              refine ⟨_, rfl, ?_⟩
              have hXs := Aside0.mk (hXs.out.below hb7)
              have hRs := Aside0.mk (hRs.out.below hb7)
              have hbel := Aside0.mk (below_then hbel.out hbel.out.size hb7)
              have g1 := pw_cell_below hb7 g1
              have g2 := pw_cell_below hb7 g2
              have g3 := pw_cell_below hb7 g3
              have g4 := pw_cell_below hb7 g4
              have hc2 := texts_in u y f hlt w7 (hXs.out.con (w5.heap.size) u (by simp)) (hXs.out.con (w.heap.size + 1) y (by simp))
              rw [hT.out] at hc2
              have hc2 := Aside0.mk hc2
              refine hK.out _ _ ⟨(And.intro g3 (And.intro g2 (And.intro g4 g1))).1, (And.intro g3 (And.intro g2 (And.intro g4 g1))).2.1, (And.intro g3 (And.intro g2 (And.intro g4 g1))).2.2.1, (And.intro g3 (And.intro g2 (And.intro g4 g1))).2.2.2⟩ (fun hHeld => ?_)
              clear hK K
              refine norm_ (a' := ?_) ?_ ?_
              rotate_left
              · show Act.put _ (some 104) _ = _
                simp only [Act.put, List.setIfInBounds_toArray, List.set_cons_zero, List.set_cons_succ, i64_w, i32_w]
                rfl
              refine pure_ (i := 22) (N := some 105) (v := ?_) (a' := ?_) #[true, true, true, true, true, true, true, true, true, true, true, true, true, true, true, true, true, true, true, true, true, true, true, false, false, false, false, false, false, false, false, false, false, false, false] rfl rfl (by kernel_rfl) (fun _ _ _ h => h) (Or.inl ⟨by rfl, ?_⟩) ?_ ?_
              rotate_left
              · intro w'
                go_simp
                with_reducible rfl
              rotate_left
              · simp only [Act.put, List.setIfInBounds_toArray, List.set_cons_zero, List.set_cons_succ, i64_w, i32_w]
                rfl
              refine pure_ (i := 23) (N := some 106) (v := ?_) (a' := ?_) #[true, true, true, true, true, true, true, true, true, true, true, true, true, true, true, true, true, true, true, true, true, true, true, true, false, false, false, false, false, false, false, false, false, false, false] rfl rfl (by kernel_rfl) (fun _ _ _ h => h) (Or.inl ⟨by rfl, ?_⟩) ?_ ?_
              rotate_left
              · intro w'
                go_simp
                with_reducible rfl
              rotate_left
              · simp only [Act.put, List.setIfInBounds_toArray, List.set_cons_zero, List.set_cons_succ, i64_w, i32_w]
                rfl
              refine pure_ (i := 24) (N := some 107) (v := ?_) (a' := ?_) #[true, true, true, true, true, true, true, true, true, true, true, true, true, true, true, true, true, true, true, true, true, true, true, true, true, false, false, false, false, false, false, false, false, false, false] rfl rfl (by kernel_rfl) (fun _ _ _ h => h) (Or.inl ⟨by rfl, ?_⟩) ?_ ?_
              rotate_left
              · intro w'
                go_simp
                with_reducible rfl
              rotate_left
              · simp only [Act.put, List.setIfInBounds_toArray, List.set_cons_zero, List.set_cons_succ, i64_w, i32_w]
                rfl
              refine pure_ (i := 25) (N := some 108) (v := ?_) (a' := ?_) #[true, true, true, true, true, true, true, true, true, true, true, true, true, true, true, true, true, true, true, true, true, true, true, true, true, true, false, false, false, false, false, false, false, false, false] rfl rfl (by kernel_rfl) (fun _ _ _ h => h) (Or.inl ⟨by rfl, ?_⟩) ?_ ?_
              rotate_left
              · intro w'
                go_simp
                with_reducible rfl
              rotate_left
              · simp only [Act.put, List.setIfInBounds_toArray, List.set_cons_zero, List.set_cons_succ, i64_w, i32_w]
                rfl
              refine pure_ (i := 27) (N := some 110) (v := ?_) (a' := ?_) #[true, true, true, true, true, true, true, true, true, true, true, true, true, true, true, true, true, true, true, true, true, true, true, true, true, true, false, true, false, false, false, false, false, false, false] rfl rfl (by kernel_rfl) (fun _ _ _ h => h) (Or.inl ⟨by rfl, ?_⟩) ?_ ?_
              rotate_left
              · intro w'
                go_simp
                with_reducible rfl
              rotate_left
              · simp only [Act.put, List.setIfInBounds_toArray, List.set_cons_zero, List.set_cons_succ, i64_w, i32_w]
                rfl
              refine pure_ (i := 28) (N := some 111) (v := ?_) (a' := ?_) #[true, true, true, true, true, true, true, true, true, true, true, true, true, true, true, true, true, true, true, true, true, true, true, true, true, true, false, true, true, false, false, false, false, false, false] rfl rfl (by kernel_rfl) (fun _ _ _ h => h) (Or.inl ⟨by rfl, ?_⟩) ?_ ?_
              rotate_left
              · intro w'
                go_simp
                with_reducible rfl
              rotate_left
              · simp only [Act.put, List.setIfInBounds_toArray, List.set_cons_zero, List.set_cons_succ, i64_w, i32_w]
                rfl
              refine take_ (i := 26) (N := some 109) (v := ?_) (a' := ?_) #[true, true, true, true, true, true, true, true, true, true, true, true, true, true, true, true, true, true, true, true, true, true, true, true, true, true, true, true, true, false, false, false, false, false, false] rfl rfl (by kernel_rfl) (fun _ _ _ h => h) (Or.inl ⟨by rfl, ?_⟩) hHeld ?_ ?_
              rotate_left
              · rintro w' ⟨s0, s1, s2, s3⟩
                go_simp
                with_reducible rfl
              rotate_left
              · simp only [Act.put, List.setIfInBounds_toArray, List.set_cons_zero, List.set_cons_succ, i64_w, i32_w]
                rfl
              refine take_ (i := 29) (N := some 112) (v := ?_) (a' := ?_) #[true, true, true, true, true, true, true, true, true, true, true, true, true, true, true, true, true, true, true, true, true, true, true, true, true, true, true, true, true, true, false, false, false, false, false] rfl rfl (by kernel_rfl) (fun _ _ _ h => h) (Or.inl ⟨by rfl, ?_⟩) hHeld ?_ ?_
              rotate_left
              · rintro w' ⟨s0, s1, s2, s3⟩
                go_simp
                with_reducible rfl
              rotate_left
              · simp only [Act.put, List.setIfInBounds_toArray, List.set_cons_zero, List.set_cons_succ, i64_w, i32_w]
                rfl
              refine one_ (i := 30) (N := some 113) #[true, true, true, true, true, true, true, true, true, true, true, true, true, true, true, true, true, true, true, true, true, true, true, true, true, true, true, true, true, true, true, false, false, false, false] rfl rfl (by kernel_rfl) (by decide) (fun K hK => ?_)
              refine goes_ Try.func14 (by kernel_rfl) rfl #[.slice (u.A f) (u.L f).length (u.c f), .slice (y.A f) (y.L f).length (y.c f)] (by rfl) rfl rfl (by simp only [List.map_toArray, List.map_cons, List.map_nil]; rfl) ?_
              with_reducible refine (hc2.out).mono ?_
              rintro e w8 ⟨rfl, hb8⟩
              refine ⟨_, rfl, ?_⟩
              have hXs := Aside0.mk (hXs.out.below hb8)
              have hRs := Aside0.mk (hRs.out.below hb8)
              have hbel := Aside0.mk (below_then hbel.out hbel.out.size hb8)
              have g1 := pw_cell_below hb8 g1
              have g2 := pw_cell_below hb8 g2
              have g3 := pw_cell_below hb8 g3
              have g4 := pw_cell_below hb8 g4
              refine hK.out _ _ ⟨(And.intro g3 (And.intro g2 (And.intro g4 g1))).1, (And.intro g3 (And.intro g2 (And.intro g4 g1))).2.1, (And.intro g3 (And.intro g2 (And.intro g4 g1))).2.2.1, (And.intro g3 (And.intro g2 (And.intro g4 g1))).2.2.2⟩ (fun hHeld => ?_)
              clear hK K
              refine norm_ (a' := ?_) ?_ ?_
              rotate_left
              · show Act.put _ (some 113) _ = _
                simp only [Act.put, List.setIfInBounds_toArray, List.set_cons_zero, List.set_cons_succ, i64_w, i32_w]
                rfl
              refine pure_ (i := 31) (N := some 114) (v := ?_) (a' := ?_) #[true, true, true, true, true, true, true, true, true, true, true, true, true, true, true, true, true, true, true, true, true, true, true, true, true, true, true, true, true, true, true, true, false, false, false] rfl rfl (by kernel_rfl) (fun _ _ _ h => h) (Or.inl ⟨by rfl, ?_⟩) ?_ ?_
              rotate_left
              · intro w'
                go_simp
                with_reducible rfl
              rotate_left
              · simp only [Act.put, List.setIfInBounds_toArray, List.set_cons_zero, List.set_cons_succ, i64_w, i32_w]
                rfl
              refine pure_ (i := 32) (N := some 115) (v := ?_) (a' := ?_) #[true, true, true, true, true, true, true, true, true, true, true, true, true, true, true, true, true, true, true, true, true, true, true, true, true, true, true, true, true, true, true, true, true, false, false] rfl rfl (by kernel_rfl) (fun _ _ _ h => h) (Or.inl ⟨by rfl, ?_⟩) ?_ ?_
              rotate_left
              · intro w'
                go_simp
                with_reducible rfl
              rotate_left
              · simp only [Act.put, List.setIfInBounds_toArray, List.set_cons_zero, List.set_cons_succ, i64_w, i32_w]
                rfl
              refine pure_ (i := 33) (N := some 116) (v := ?_) (a' := ?_) #[true, true, true, true, true, true, true, true, true, true, true, true, true, true, true, true, true, true, true, true, true, true, true, true, true, true, true, true, true, true, true, true, true, true, false] rfl rfl (by kernel_rfl) (fun _ _ _ h => h) (Or.inl ⟨by rfl, ?_⟩) ?_ ?_
              rotate_left
              · intro w'
                go_simp
                with_reducible rfl
              rotate_left
              · simp only [Act.put, List.setIfInBounds_toArray, List.set_cons_zero, List.set_cons_succ, i64_w, i32_w]
                rfl
              refine pure_ (i := 34) (N := some 117) (v := ?_) (a' := ?_) #[true, true, true, true, true, true, true, true, true, true, true, true, true, true, true, true, true, true, true, true, true, true, true, true, true, true, true, true, true, true, true, true, true, true, true] rfl rfl (by kernel_rfl) (fun _ _ _ h => h) (Or.inl ⟨by rfl, ?_⟩) ?_ ?_
              rotate_left
              · intro w'
                go_simp
                with_reducible rfl
              rotate_left
              · simp only [Act.put, List.setIfInBounds_toArray, List.set_cons_zero, List.set_cons_succ, i64_w, i32_w]
                rfl
              refine done_ (by kernel_rfl) ?_
              go_wp2_with fail
              go_roundw
              case rel => exact ⟨f + 1, by omega, by go_num, hXs, hRs, hbel⟩
              case measure => simp [intOf]; omega
      · obtain rfl : f = 8 := by omega
        clear hXs hRs
        go_wp2_with fail
        have hT0 := heap_alloc_new wr (.cells #[.int .i64 0, .int .i64 1, .int .i64 2, .int .i64 5, .int .i64 6, .int .i64 3, .int .i64 4, .int .i64 7] 39)
        have hbT := below_alloc (Below.refl wr.heap.size wr) (.cells #[.int .i64 0, .int .i64 1, .int .i64 2, .int .i64 5, .int .i64 6, .int .i64 3, .int .i64 4, .int .i64 7] 39)
        have hbel := Aside0.mk (below_then hbel.out hbel.out.size hbT)
        obtain ⟨BT, hBT⟩ : ∃ BT, wr.heap.size = BT := ⟨_, rfl⟩
        rw [hBT] at hT0 ⊢
        have hT0 := Aside0.mk hT0
        clear hbT hBT
        go_loopw [17] (fun s17 W => ∃ i : Nat, 1 ≤ i ∧ i ≤ 4 ∧ s17 = .int .i64 i ∧ Aside0 (W.heap[BT]? = some (.cells #[.int .i64 0, .int .i64 1, .int .i64 2, .int .i64 5, .int .i64 6, .int .i64 3, .int .i64 4, .int .i64 7] 39 (0, 0))) ∧ Aside0 (Below w.heap.size w W)) (fun s17 _ => 4 - (intOf s17).toNat)
        case atStart => exact ⟨1, by omega, by omega, rfl, hT0, hbel⟩
        case round =>
          clear hT0 hbel
          obtain ⟨i, hi1, hi4, rfl, hT0, hbel⟩ := hrel
          by_cases hi3 : i ≤ 3
          · have e1 : (i : Int) ≤ 3 := by omega
            have e2 : (1 : Int) ≤ (i : Int) := by omega
            go_wp2_with fail
            go_loopw [18] (fun s18 W => ∃ k : Nat, 1 ≤ k ∧ k ≤ 4 ∧ s18 = .int .i64 k ∧ Aside0 (W.heap[BT]? = some (.cells #[.int .i64 0, .int .i64 1, .int .i64 2, .int .i64 5, .int .i64 6, .int .i64 3, .int .i64 4, .int .i64 7] 39 (0, 0))) ∧ Aside0 (Below w.heap.size w W)) (fun s18 _ => 4 - (intOf s18).toNat)
            case atStart => exact ⟨1, by omega, by omega, rfl, hT0, hbel⟩
            case round =>
              clear hT0 hbel
              obtain ⟨k, hk1, hk4, rfl, hT0, hbel⟩ := hrel
              by_cases hk3 : k ≤ 3
              · have e3 : (k : Int) ≤ 3 := by omega
                have e4 : (1 : Int) ≤ (k : Int) := by omega
                obtain ⟨v, v', a1, a2, a3, a4, hvv⟩ := ver_turned (i : Int) (k : Int) ⟨e2, e1⟩ ⟨e4, e3⟩
                replace a1 := Aside0.mk a1
                replace a2 := Aside0.mk a2
                replace a3 := Aside0.mk a3
                replace a4 := Aside0.mk a4
                go_wp2_with fail
                refine (verdict_calls (i : Int) (k : Int) (by omega) (by omega) _).mono ?_
                rw [a1.out, a3.out]
                rintro e w7 ⟨rfl, hb7⟩
                have hT0 := Aside0.mk ((hb7.block _ (Array.getElem?_eq_some_iff.1 hT0.out).1).trans hT0.out)
                have hbel := Aside0.mk (below_then hbel.out hbel.out.size hb7)
                clear hb7
                go_wp2_with fail
                refine (verdict_calls (k : Int) (i : Int) (by omega) (by omega) _).mono ?_
                rw [a2.out, a4.out]
                rintro e w8 ⟨rfl, hb8⟩
                have hT0 := (hb8.block _ (Array.getElem?_eq_some_iff.1 hT0.out).1).trans hT0.out
                have hbel := Aside0.mk (below_then hbel.out hbel.out.size hb8)
                clear hb8 a1 a2 a3 a4
                have p1 : w8.cell? ⟨BT, 1, none⟩ = some (.int .i64 1) := (cell_of_row _ _ _ _ _ _ hT0).trans rfl
                have p2 : w8.cell? ⟨BT, 2, none⟩ = some (.int .i64 2) := (cell_of_row _ _ _ _ _ _ hT0).trans rfl
                have p3 : w8.cell? ⟨BT, 3, none⟩ = some (.int .i64 5) := (cell_of_row _ _ _ _ _ _ hT0).trans rfl
                have p4 : w8.cell? ⟨BT, 4, none⟩ = some (.int .i64 6) := (cell_of_row _ _ _ _ _ _ hT0).trans rfl
                have p5 : w8.cell? ⟨BT, 5, none⟩ = some (.int .i64 3) := (cell_of_row _ _ _ _ _ _ hT0).trans rfl
                have p6 : w8.cell? ⟨BT, 6, none⟩ = some (.int .i64 4) := (cell_of_row _ _ _ _ _ _ hT0).trans rfl
                have p7 : w8.cell? ⟨BT, 7, none⟩ = some (.int .i64 7) := (cell_of_row _ _ _ _ _ _ hT0).trans rfl
                replace hT0 := Aside0.mk hT0
                rcases hvv with ⟨rfl, rfl⟩ | ⟨rfl, rfl⟩ | ⟨rfl, rfl⟩ | ⟨rfl, rfl⟩ | ⟨rfl, rfl⟩ | ⟨rfl, rfl⟩ | ⟨rfl, rfl⟩
                all_goals
                  go_wp2_with fail
                  refine ⟨?_, ?measure⟩
                  · (repeat' apply Exists.intro)
                    any_goals (refine ⟨?rel, rfl⟩)
                    case rel => exact ⟨k + 1, by omega, by omega, by go_num, hT0, hbel⟩
                    all_goals exact undef
                  case measure => simp [intOf]; omega
              · obtain rfl : k = 4 := by omega
                go_wp2_with fail
                go_roundw
                case rel => exact ⟨i + 1, by omega, by omega, by go_num, hT0, hbel⟩
                case measure => simp [intOf]; omega
          · obtain rfl : i = 4 := by omega
            go_wp2_with fail
            refine (hk.out _).mono ?_
            rintro e w9 ⟨rfl, hbw9⟩
            have hbel := Aside0.mk (below_then hbel.out hbel.out.size hbw9)
            go_wp2_with fail
            go_ret
            exact ⟨rfl, hbel.out⟩
end Go.Proofs.Ytbocbaakknkfiaa
