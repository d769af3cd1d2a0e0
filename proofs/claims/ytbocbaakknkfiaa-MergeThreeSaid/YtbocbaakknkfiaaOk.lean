/- MergeThree: the walk. -/
import Derived.Test.YtbocbaakknkfiaaOj
set_option linter.unusedVariables false
set_option linter.unusedSimpArgs false
namespace Go.Proofs.Ytbocbaakknkfiaa
open Go.RowKit Go.Shelf Go.Proofs.YtbocbaakknkfiaaW.PrintWords Go.Proofs.YtbocbaakknkfiaaW.PrintMore Go.Proofs.YtbocbaakknkfiaaW.PrintLast

set_option maxRecDepth 20000 in
set_option maxHeartbeats 4000000 in
theorem mergeThree_all (x y z : CT) (w : World) (hx : Con w x.A x.c x.L) (hy : Con w y.A y.c y.L) (hz : Con w z.A z.c z.L) :
    Calls Try.prog 3 #[.agg (conV x.V), .agg (conV y.V), .agg (conV z.V)] w fun e w' => e = .returned (.bool true) ∧ Below w.heap.size w w' := by
  have hk := Aside0.mk (fun w => known_calls w)
  have hkn := hk
  obtain ⟨w1, hw1, hB, hs⟩ := box3 w x y z
  obtain ⟨u0, u1, u2, u3, u4, u5, u6, u7⟩ := cells8 hB.b0
  obtain ⟨v0, v1, v2, v3, v4, v5, v6, v7⟩ := cells8 hB.b1
  obtain ⟨t0, t1, t2, t3, t4, t5, t6, t7⟩ := cells8 hB.b2
  have hb2 := below_alloc (Below.refl w1.heap.size w1) (.cells #[x.V 0, x.V 1, x.V 2, x.V 3, x.V 4, x.V 5, x.V 6, x.V 7, y.V 0, y.V 1, y.V 2, y.V 3, y.V 4, y.V 5, y.V 6, y.V 7, z.V 0, z.V 1, z.V 2, z.V 3, z.V 4, z.V 5, z.V 6, z.V 7] 24)
  have hB2 := hB.below hb2
  have hf := few_calls w1.heap.size 3 [x, y, z] _ (by simp) (laid3_row w1 x y z) (fun t ht => by
    simp only [List.mem_cons, List.not_mem_nil, or_false] at ht
    rcases ht with rfl | rfl | rfl
    · exact hx.below hB2.bel
    · exact hy.below hB2.bel
    · exact hz.below hB2.bel)
  have hw2 : ∃ w2, w1.alloc (.cells #[x.V 0, x.V 1, x.V 2, x.V 3, x.V 4, x.V 5, x.V 6, x.V 7, y.V 0, y.V 1, y.V 2, y.V 3, y.V 4, y.V 5, y.V 6, y.V 7, z.V 0, z.V 1, z.V 2, z.V 3, z.V 4, z.V 5, z.V 6, z.V 7] 24) = w2 := ⟨_, rfl⟩
  obtain ⟨w2, hw2⟩ := hw2
  rw [hw2] at hB2 hf
  replace hB2 := Aside0.mk hB2
  replace hf := Aside0.mk hf
  replace hx := Aside0.mk hx
  replace hy := Aside0.mk hy
  replace hz := Aside0.mk hz
  clear hB hb2
  obtain ⟨X, hX⟩ : ∃ X, x.V = X := ⟨_, rfl⟩
  obtain ⟨Y, hY⟩ : ∃ Y, y.V = Y := ⟨_, rfl⟩
  obtain ⟨Z, hZ⟩ : ∃ Z, z.V = Z := ⟨_, rfl⟩
  rw [hX] at u0 u1 u2 u3 u4 u5 u6 u7 hw1 hw2
  rw [hY] at v0 v1 v2 v3 v4 v5 v6 v7 hw1 hw2
  rw [hZ] at t0 t1 t2 t3 t4 t5 t6 t7 hw1 hw2
  rw [hX, hY, hZ]
  replace hX := Aside0.mk hX
  replace hY := Aside0.mk hY
  replace hZ := Aside0.mk hZ
  go_enter Try.func3, Try.ntmps3
  go_wp2_with fail
  have hf := hf.out
  rw [hs] at hf
  refine hf.mono ?_
  rintro e w' ⟨⟨r, rfl, hr⟩, hw'⟩
  subst hw'
  clear hf u0 u1 u2 u3 u4 u5 u6 u7 v0 v1 v2 v3 v4 v5 v6 v7 t0 t1 t2 t3 t4 t5 t6 t7 hw1 hw2 hs
  cases r with
  | false =>
    clear hr
    go_wp2_with fail
    refine (hk.out _).mono ?_
    rintro e w3 ⟨rfl, hb3⟩
    have hB := Aside0.mk (hB2.out.below hb3)
    go_wp2_with fail
    go_ret
    exact ⟨rfl, hB.out.bel⟩
  | true =>
    have hr := hr rfl
    have hx2 := Aside0.mk (fun W (h : Below w.heap.size w W) => (⟨hx.out.below h, few_small (hr x (by simp))⟩ : x.In W))
    have hy2 := Aside0.mk (fun W (h : Below w.heap.size w W) => (⟨hy.out.below h, few_small (hr y (by simp))⟩ : y.In W))
    have hz2 := Aside0.mk (fun W (h : Below w.heap.size w W) => (⟨hz.out.below h, few_small (hr z (by simp))⟩ : z.In W))
    clear hr hx hy hz
    obtain ⟨u0, u1, u2, u3, u4, u5, u6, u7⟩ := cells8 hB2.out.b0
    obtain ⟨v0, v1, v2, v3, v4, v5, v6, v7⟩ := cells8 hB2.out.b1
    obtain ⟨t0, t1, t2, t3, t4, t5, t6, t7⟩ := cells8 hB2.out.b2
    rw [hX.out] at u0 u1 u2 u3 u4 u5 u6 u7
    rw [hY.out] at v0 v1 v2 v3 v4 v5 v6 v7
    rw [hZ.out] at t0 t1 t2 t3 t4 t5 t6 t7
    go_wp2_with fail
    clear u0 u1 u2 u3 u4 u5 u6 u7 v0 v1 v2 v3 v4 v5 v6 v7 t0 t1 t2 t3 t4 t5 t6 t7
    rw [← hX.out, ← hY.out, ← hZ.out]
    cases hyes : (checkOk x.L && (checkOk y.L && checkOk z.L)) with
    | false =>
      refine (three_no x y z w2 (hx2.out _ hB2.out.bel) (hy2.out _ hB2.out.bel) (hz2.out _ hB2.out.bel) hyes).mono ?_
      rintro e w3 ⟨rfl, hb3⟩
      simp only [conV, nilV]
      have hB3 := hB2.out.below hb3
      clear hB2
      have hC := Aside0.mk (lay8n w3).1
      have hB := Aside0.mk (hB3.below (lay8n w3).2)
      clear hB3 hb3
      obtain ⟨u0, u1, u2, u3, u4, u5, u6, u7⟩ := cells8 hB.out.b0
      obtain ⟨bx, hxb⟩ : ∃ b, checkOk x.L = b := ⟨_, rfl⟩
      obtain ⟨by', hyb⟩ : ∃ b, checkOk y.L = b := ⟨_, rfl⟩
      obtain ⟨bz, hzb⟩ : ∃ b, checkOk z.L = b := ⟨_, rfl⟩
      rw [hxb, hyb, hzb] at hyes
      replace hyes := Aside0.mk hyes
      replace hxb := Aside0.mk hxb
      replace hyb := Aside0.mk hyb
      replace hzb := Aside0.mk hzb
      go_wp2_with fail
      refine (rright_calls x _ (hx2.out _ hB.out.bel)).mono ?_
      rw [hxb.out]
      rintro e w5 ⟨rfl, hb5⟩
      have hB := Aside0.mk (hB.out.below hb5)
      have hC := Aside0.mk ((hb5.block _ (Array.getElem?_eq_some_iff.1 hC.out).1).trans hC.out)
      clear hb5 u0 u1 u2 u3 u4 u5 u6 u7
      cases bx with
      | false =>
        have q := cells8 hC.out
        obtain ⟨q0, q1, q2, q3, q4, q5, q6, q7⟩ := q
        go_wp2_with fail
        clear q0 q1 q2 q3 q4 q5 q6 q7
        refine (rsame_calls nilT nilT _ (nilT_in _) (nilT_in _)).mono ?_
        rw [SameL_self]
        rintro e w8 ⟨rfl, hb8⟩
        have hB := Aside0.mk (hB.out.below hb8)
        clear hb8
        go_wp2_with fail
        refine (hk.out _).mono ?_
        rintro e w9 ⟨rfl, hb9⟩
        have hB := Aside0.mk (hB.out.below hb9)
        go_wp2_with fail
        go_ret
        exact ⟨rfl, hB.out.bel⟩
      | true =>
        obtain ⟨v0, v1, v2, v3, v4, v5, v6, v7⟩ := cells8 hB.out.b1
        go_wp2_with fail
        refine (rright_calls y _ (hy2.out _ hB.out.bel)).mono ?_
        rw [hyb.out]
        rintro e w6 ⟨rfl, hb6⟩
        have hB := Aside0.mk (hB.out.below hb6)
        have hC := Aside0.mk ((hb6.block _ (Array.getElem?_eq_some_iff.1 hC.out).1).trans hC.out)
        clear hb6 v0 v1 v2 v3 v4 v5 v6 v7
        cases by' with
        | false =>
          have q := cells8 hC.out
          obtain ⟨q0, q1, q2, q3, q4, q5, q6, q7⟩ := q
          go_wp2_with fail
          clear q0 q1 q2 q3 q4 q5 q6 q7
          refine (rsame_calls nilT nilT _ (nilT_in _) (nilT_in _)).mono ?_
          rw [SameL_self]
          rintro e w8 ⟨rfl, hb8⟩
          have hB := Aside0.mk (hB.out.below hb8)
          clear hb8
          go_wp2_with fail
          refine (hk.out _).mono ?_
          rintro e w9 ⟨rfl, hb9⟩
          have hB := Aside0.mk (hB.out.below hb9)
          go_wp2_with fail
          go_ret
          exact ⟨rfl, hB.out.bel⟩
        | true =>
          obtain rfl : bz = false := hyes.out
          obtain ⟨t0, t1, t2, t3, t4, t5, t6, t7⟩ := cells8 hB.out.b2
          go_wp2_with fail
          refine (rright_calls z _ (hz2.out _ hB.out.bel)).mono ?_
          rw [hzb.out]
          rintro e w7 ⟨rfl, hb7⟩
          have hB := Aside0.mk (hB.out.below hb7)
          have hC := Aside0.mk ((hb7.block _ (Array.getElem?_eq_some_iff.1 hC.out).1).trans hC.out)
          clear hb7 t0 t1 t2 t3 t4 t5 t6 t7
          have q := cells8 hC.out
          obtain ⟨q0, q1, q2, q3, q4, q5, q6, q7⟩ := q
          go_wp2_with fail
          clear q0 q1 q2 q3 q4 q5 q6 q7
          refine (rsame_calls nilT nilT _ (nilT_in _) (nilT_in _)).mono ?_
          rw [SameL_self]
          rintro e w8 ⟨rfl, hb8⟩
          have hB := Aside0.mk (hB.out.below hb8)
          clear hb8
          go_wp2_with fail
          refine (hk.out _).mono ?_
          rintro e w9 ⟨rfl, hb9⟩
          have hB := Aside0.mk (hB.out.below hb9)
          go_wp2_with fail
          go_ret
          exact ⟨rfl, hB.out.bel⟩
    | true =>
      refine (three_some x y z w2 (hx2.out _ hB2.out.bel) (hy2.out _ hB2.out.bel) (hz2.out _ hB2.out.bel) hyes).mono ?_
      rintro e w3 ⟨t, A, c, rfl, htL, htI, hD, hb3⟩
      have hB3 := hB2.out.below hb3
      clear hB2
      obtain ⟨w4, hw4, hC, hbw4⟩ := lay8 w3 t
      have hB := Aside0.mk (hB3.below hbw4)
      replace hC := Aside0.mk hC
      replace htI := Aside0.mk (htI.below hbw4)
      replace hD := Aside0.mk (Kd.C_below hD hbw4)
      replace htL := Aside0.mk htL
      clear hB3 hbw4 hb3
      obtain ⟨D, hDD⟩ : ∃ D, disps x.L y.L z.L 8 = D := ⟨_, rfl⟩
      rw [hDD] at hD ⊢
      obtain ⟨n, hn⟩ : ∃ n, D.length = n := ⟨_, rfl⟩
      have hn16 : n ≤ 8 := by rw [← hn, ← hDD]; exact disps_length _ _ _ _
      rw [hn] at hD ⊢
      obtain ⟨u0, u1, u2, u3, u4, u5, u6, u7⟩ := cells8 hB.out.b0
      have hxb : checkOk x.L = true := by revert hyes; cases checkOk x.L <;> simp
      have hyb : checkOk y.L = true := by revert hyes; cases checkOk y.L <;> simp
      have hzb : checkOk z.L = true := by revert hyes; cases checkOk z.L <;> simp
      have hmo := Aside0.mk (merged_ok (x := x.L) hyb hzb)
      replace hyes := Aside0.mk hyes
      replace hxb := Aside0.mk hxb
      replace hyb := Aside0.mk hyb
      replace hzb := Aside0.mk hzb
      replace hDD := Aside0.mk hDD
      replace hn := Aside0.mk hn
      go_wp2_with fail
      clear hw4
      refine (rright_calls x _ (hx2.out _ hB.out.bel)).mono ?_
      rw [hxb.out]
      rintro e w5 ⟨rfl, hb5⟩
      have hB := Aside0.mk (hB.out.below hb5)
      have hC := Aside0.mk ((hb5.block _ (Array.getElem?_eq_some_iff.1 hC.out).1).trans hC.out)
      replace htI := Aside0.mk (htI.out.below hb5)
      replace hD := Aside0.mk (Kd.C_below hD.out hb5)
      clear hb5 u0 u1 u2 u3 u4 u5 u6 u7
      obtain ⟨v0, v1, v2, v3, v4, v5, v6, v7⟩ := cells8 hB.out.b1
      go_wp2_with fail
      refine (rright_calls y _ (hy2.out _ hB.out.bel)).mono ?_
      rw [hyb.out]
      rintro e w6 ⟨rfl, hb6⟩
      have hB := Aside0.mk (hB.out.below hb6)
      have hC := Aside0.mk ((hb6.block _ (Array.getElem?_eq_some_iff.1 hC.out).1).trans hC.out)
      replace htI := Aside0.mk (htI.out.below hb6)
      replace hD := Aside0.mk (Kd.C_below hD.out hb6)
      clear hb6 v0 v1 v2 v3 v4 v5 v6 v7
      obtain ⟨t0, t1, t2, t3, t4, t5, t6, t7⟩ := cells8 hB.out.b2
      go_wp2_with fail
      refine (rright_calls z _ (hz2.out _ hB.out.bel)).mono ?_
      rw [hzb.out]
      rintro e w7 ⟨rfl, hb7⟩
      have hB := Aside0.mk (hB.out.below hb7)
      have hC := Aside0.mk ((hb7.block _ (Array.getElem?_eq_some_iff.1 hC.out).1).trans hC.out)
      replace htI := Aside0.mk (htI.out.below hb7)
      replace hD := Aside0.mk (Kd.C_below hD.out hb7)
      clear hb7 t0 t1 t2 t3 t4 t5 t6 t7
      obtain ⟨u0, u1, u2, u3, u4, u5, u6, u7⟩ := cells8 hB.out.b0
      obtain ⟨v0, v1, v2, v3, v4, v5, v6, v7⟩ := cells8 hB.out.b1
      obtain ⟨t0, t1, t2, t3, t4, t5, t6, t7⟩ := cells8 hB.out.b2
      go_wp2_with fail
      clear u0 u1 u2 u3 u4 u5 u6 u7 v0 v1 v2 v3 v4 v5 v6 v7 t0 t1 t2 t3 t4 t5 t6 t7
      refine (rthree_some x y z w7 (hx2.out _ hB.out.bel) (hy2.out _ hB.out.bel) (hz2.out _ hB.out.bel)).mono ?_
      rw [hDD.out, hn.out]
      rintro e w8 ⟨s, A2, c2, rfl, hsL, hsI, hE, hb8⟩
      have hB8 := hB.out.below hb8
      have hC8 := (hb8.block _ (Array.getElem?_eq_some_iff.1 hC.out).1).trans hC.out
      have hD8 := Kd.C_below hD.out hb8
      have hT8 := htI.out.below hb8
      clear hB hC hD htI hb8
      obtain ⟨w9, hw9, hF, hbw9⟩ := lay8 w8 s
      have hB := Aside0.mk (hB8.below hbw9)
      have hC9 := (hbw9.block _ (Array.getElem?_eq_some_iff.1 hC8).1).trans hC8
      have hC := Aside0.mk hC9
      have hD := Aside0.mk (Kd.C_below hD8 hbw9)
      have hE := Aside0.mk (Kd.C_below hE hbw9)
      have hT := Aside0.mk (hT8.below hbw9)
      have hsI := Aside0.mk (hsI.below hbw9)
      clear hB8 hC8 hD8 hT8 hbw9
      obtain ⟨q0, q1, q2, q3, q4, q5, q6, q7⟩ := cells8 hC9
      obtain ⟨p0, p1, p2, p3, p4, p5, p6, p7⟩ := cells8 hF
      clear hC9
      replace hF := Aside0.mk hF
      have hsame : SameL t.L s.L = true := by rw [htL.out, hsL]; exact SameL_self _
      replace hsL := Aside0.mk hsL
      replace hsame := Aside0.mk hsame
      go_wp2_with fail
      clear hw9 q0 q1 q2 q3 q4 q5 q6 q7 p0 p1 p2 p3 p4 p5 p6 p7
      refine (rsame_calls t s w9 hT.out hsI.out).mono ?_
      rw [hsame.out]
      rintro e w10 ⟨rfl, hb10⟩
      have hB := Aside0.mk (hB.out.below hb10)
      have hC := Aside0.mk ((hb10.block _ (Array.getElem?_eq_some_iff.1 hC.out).1).trans hC.out)
      have hD := Aside0.mk (Kd.C_below hD.out hb10)
      have hE := Aside0.mk (Kd.C_below hE.out hb10)
      have hT := Aside0.mk (hT.out.below hb10)
      clear hb10
      have q := cells8 hC.out
      obtain ⟨q0, q1, q2, q3, q4, q5, q6, q7⟩ := q
      go_wp2_with fail
      clear q0 q1 q2 q3 q4 q5 q6 q7
      refine (rright_calls t w10 hT.out).mono ?_
      rw [htL.out, hmo.out]
      rintro e w11 ⟨rfl, hb11⟩
      have hB := Aside0.mk (hB.out.below hb11)
      have hD := Aside0.mk (Kd.C_below hD.out hb11)
      have hE := Aside0.mk (Kd.C_below hE.out hb11)
      clear hb11 hT hC hF hsI
      go_wp2_with fail
      go_loopw [12] (fun s12 wr => ∃ k : Nat, k ≤ n ∧ s12 = .int .i64 k ∧ Aside0 (Below w11.heap.size w11 wr)) (fun s12 _ => n - (intOf s12).toNat)
      case atStart => exact ⟨0, by omega, rfl, ⟨Below.refl _ _⟩⟩
      case round =>
        obtain ⟨k, hk, rfl, hbr⟩ := hrel
        by_cases hlt : k < n
        · have hkD : k < D.length := by rw [hn.out]; exact hlt
          have hD2 := Kd.C_below hD.out hbr.out
          have hE2 := Kd.C_below hE.out hbr.out
          rw [← hn.out] at hD2 hE2
          obtain ⟨ad, ea, pa⟩ := int_at hD2 k hkD
          obtain ⟨ad2, ea2, pa2⟩ := int_at hE2 k hkD
          subst ea
          subst ea2
          obtain ⟨d, hd⟩ : ∃ d, D[k] = d := ⟨_, rfl⟩
          rw [hd] at pa pa2
          clear hD2 hE2 hd hkD
          go_wp2_with fail
          refine start_ (n := 9) (S := fun w' => w'.cell? (ad.add k) = some (.int .i64 d) ∧ w'.cell? (ad2.add k) = some (.int .i64 d)) (ds := []) #[false, false, false, false, false, false, false, false, false] (by kernel_rfl) rfl rfl ⟨pa, pa2⟩ (fun hHeld => ?_)
          refine pure_ (i := 0) (N := some 89) (v := ?_) (a' := ?_) #[true, false, false, false, false, false, false, false, false] rfl rfl (by kernel_rfl) (fun _ _ _ h => h) (Or.inl ⟨by rfl, ?_⟩) ?_ ?_
          rotate_left
          · intro w'
            go_simp
            with_reducible rfl
          rotate_left
          · simp only [Act.put, List.setIfInBounds_toArray, List.set_cons_zero, List.set_cons_succ, i64_w, i32_w]
            rfl
          refine pure_ (i := 1) (N := some 90) (v := ?_) (a' := ?_) #[true, true, false, false, false, false, false, false, false] rfl rfl (by kernel_rfl) (fun _ _ _ h => h) (Or.inl ⟨by rfl, ?_⟩) ?_ ?_
          rotate_left
          · intro w'
            go_simp
            with_reducible rfl
          rotate_left
          · simp only [Act.put, List.setIfInBounds_toArray, List.set_cons_zero, List.set_cons_succ, i64_w, i32_w]
            rfl
          refine pure_ (i := 2) (N := some 91) (v := ?_) (a' := ?_) #[true, true, true, false, false, false, false, false, false] rfl rfl (by kernel_rfl) (fun _ _ _ h => h) (Or.inl ⟨by rfl, ?_⟩) ?_ ?_
          rotate_left
          · intro w'
            go_simp
            with_reducible rfl
          rotate_left
          · simp only [Act.put, List.setIfInBounds_toArray, List.set_cons_zero, List.set_cons_succ, i64_w, i32_w]
            rfl
          refine pure_ (i := 4) (N := some 93) (v := ?_) (a' := ?_) #[true, true, true, false, true, false, false, false, false] rfl rfl (by kernel_rfl) (fun _ _ _ h => h) (Or.inl ⟨by rfl, ?_⟩) ?_ ?_
          rotate_left
          · intro w'
            go_simp
            with_reducible rfl
          rotate_left
          · simp only [Act.put, List.setIfInBounds_toArray, List.set_cons_zero, List.set_cons_succ, i64_w, i32_w]
            rfl
          refine pure_ (i := 5) (N := some 94) (v := ?_) (a' := ?_) #[true, true, true, false, true, true, false, false, false] rfl rfl (by kernel_rfl) (fun _ _ _ h => h) (Or.inl ⟨by rfl, ?_⟩) ?_ ?_
          rotate_left
          · intro w'
            go_simp
            with_reducible rfl
          rotate_left
          · simp only [Act.put, List.setIfInBounds_toArray, List.set_cons_zero, List.set_cons_succ, i64_w, i32_w]
            rfl
          refine pure_ (i := 6) (N := some 95) (v := ?_) (a' := ?_) #[true, true, true, false, true, true, true, false, false] rfl rfl (by kernel_rfl) (fun _ _ _ h => h) (Or.inl ⟨by rfl, ?_⟩) ?_ ?_
          rotate_left
          · intro w'
            go_simp
            with_reducible rfl
          rotate_left
          · simp only [Act.put, List.setIfInBounds_toArray, List.set_cons_zero, List.set_cons_succ, i64_w, i32_w]
            rfl
          refine take_ (i := 3) (N := some 92) (v := ?_) (a' := ?_) #[true, true, true, true, true, true, true, false, false] rfl rfl (by kernel_rfl) (fun _ _ _ h => h) (Or.inl ⟨by rfl, ?_⟩) hHeld ?_ ?_
          rotate_left
          · rintro w' ⟨s0, s1⟩
            go_simp
            with_reducible rfl
          rotate_left
          · simp only [Act.put, List.setIfInBounds_toArray, List.set_cons_zero, List.set_cons_succ, i64_w, i32_w]
            rfl
          refine take_ (i := 7) (N := some 96) (v := ?_) (a' := ?_) #[true, true, true, true, true, true, true, true, false] rfl rfl (by kernel_rfl) (fun _ _ _ h => h) (Or.inl ⟨by rfl, ?_⟩) hHeld ?_ ?_
          rotate_left
          · rintro w' ⟨s0, s1⟩
            go_simp
            with_reducible rfl
          rotate_left
          · simp only [Act.put, List.setIfInBounds_toArray, List.set_cons_zero, List.set_cons_succ, i64_w, i32_w]
            rfl
          refine pure_ (i := 8) (N := some 97) (v := ?_) (a' := ?_) #[true, true, true, true, true, true, true, true, true] rfl rfl (by kernel_rfl) (fun _ _ _ h => h) (Or.inl ⟨by rfl, ?_⟩) ?_ ?_
          rotate_left
          · intro w'
            go_simp
            with_reducible rfl
          rotate_left
          · simp only [Act.put, List.setIfInBounds_toArray, List.set_cons_zero, List.set_cons_succ, i64_w, i32_w]
            rfl
          refine done_ (by kernel_rfl) ?_
          go_wp2_with fail
          go_roundw
          case rel => exact ⟨k + 1, by omega, by go_num, ⟨hbr.out.trans (below_drew (Below.refl _ _))⟩⟩
          case measure => simp [intOf]; omega
        · obtain rfl : k = n := by omega
          go_wp2_with fail
          refine (hkn.out _).mono ?_
          rintro e w12 ⟨rfl, hb12⟩
          have hB := Aside0.mk ((hB.out.below hbr.out).below hb12)
          go_wp2_with fail
          go_ret
          exact ⟨rfl, hB.out.bel⟩
end Go.Proofs.Ytbocbaakknkfiaa
