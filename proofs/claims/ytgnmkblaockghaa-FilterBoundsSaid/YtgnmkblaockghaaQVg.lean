/- The reference's filter of the value of an or of many. -/
import Derived.Test.YtgnmkblaockghaaQVf
import Derived.Test.YtgnmkblaockghaaQNc
set_option linter.unusedVariables false
set_option linter.unusedSimpArgs false
namespace Go.Proofs.Ytgnmkblaockghaa
open Go.RowKit Go.Shelf Go.Proofs.YtgnmkblaockghaaW.PrintWords Go.Proofs.YtgnmkblaockghaaW.PrintMore Go.Proofs.YtgnmkblaockghaaW.PrintLast
open B (kT kU bv Bv BvF Gives Box box_new put5)

set_option maxRecDepth 20000 in
set_option maxHeartbeats 4000000 in
theorem rof_leaf (D : Int) (hD : D ≤ 16) (A : Option Addr) (c : Nat) (B' : Option Addr) (d : Nat) (w : World) (hv : Bv w leafV A c B' d) :
    Calls Try.prog 74 #[.agg #[.int .u8 2, .int .u8 7, .bool false, .slice A 1 c, .slice B' 0 d], .int .i64 D] w fun e w' => e = .returned (.tuple #[aV, .bool true]) ∧ Below w.heap.size w w' := by
  have hX := box_new w (.int .u8 2) (.int .u8 7) (.bool false) (.slice A 1 c) (.slice B' 0 d)
  have hb1 := below_alloc (Below.refl w.heap.size w) (.cells #[.int .u8 2, .int .u8 7, .bool false, .slice A 1 c, .slice B' 0 d] 55)
  obtain ⟨w1, hw1⟩ : ∃ w1, w.alloc (.cells #[.int .u8 2, .int .u8 7, .bool false, .slice A 1 c, .slice B' 0 d] 55) = w1 := ⟨_, rfl⟩
  rw [hw1] at hX hb1
  have hR := fbox_new w1 25 (.int .i64 0) (.slice none 0 0) (.string ⟨#[]⟩) (.string ⟨#[]⟩)
  have hbn := below_alloc (Below.refl w1.heap.size w1) (.cells #[.int .i64 0, .slice none 0 0, .string ⟨#[]⟩, .string ⟨#[]⟩] 25)
  obtain ⟨w2, hw2⟩ : ∃ w2, w1.alloc (.cells #[.int .i64 0, .slice none 0 0, .string ⟨#[]⟩, .string ⟨#[]⟩] 25) = w2 := ⟨_, rfl⟩
  rw [hw2] at hR hbn
  have hX2 := hX.below hbn
  have hb2 := below_then hb1 hb1.size hbn
  obtain ⟨X, hXe⟩ : ∃ X, w.heap.size = X := ⟨_, rfl⟩
  obtain ⟨R, hRe⟩ : ∃ R, w1.heap.size = R := ⟨_, rfl⟩
  have hXR := Aside0.mk (show X < R by rw [← hXe, ← hRe]; exact hX.lt)
  have hXle := Aside0.mk (show w.heap.size ≤ X by omega)
  rw [hXe] at hX hX2
  rw [hRe] at hR
  have hcb : kU.C w2 A 1 [97] := (hv.below hb2).cb
  have hcv := leaf_string c hcb
  have hD1 : decide (D > 16) = false := decide_eq_false (by omega)
  clear hD
  have hsm := PFilterBounds.rsmall_calls { data := #[97] } (by decide) w2
  rw [small_a] at hsm
  replace hsm := Aside0.mk hsm
  obtain ⟨x0, x1, x2, x3, x4⟩ := hX2.cells
  replace hX := Aside0.mk hX
  have hR4 := Aside0.mk hR
  have hb4 := Aside0.mk hb2
  clear hX2 hR hb1 hb2 hbn hcb hv hX
  go_enter Try.func74, Try.ntmps74
  go_wp2_with fail
  refine hsm.out.mono ?_
  rintro e w5 ⟨rfl, hb5⟩
  have hR5 := hR4.out.below hb5
  have hbb5 := below_then hb4.out hb4.out.size hb5
  obtain ⟨g0, g1, g2, g3⟩ := hR5.free
  obtain ⟨h0, h1, h2, h3⟩ := hR5.cells
  obtain ⟨w6, hw6, hR6, hm6⟩ := put4 hR5 (.int .i64 6) (.slice none 0 0) (.string { data := #[97] }) (.string ⟨#[]⟩)
  have hbz := Aside0.mk (mod_below hm6 hbb5 (by have := hXle.out; have := hXR.out; omega))
  obtain ⟨r0, r1, r2, r3⟩ := hR6.cells
  replace hR6 := Aside0.mk hR6
  clear hm6 hR5 hbb5 hb5
  go_wp2_with fail
  refine bodyPost_ret (v := .tuple #[aV, .bool true]) (by simp [results, Try.results74, go_sem, r0, r1, r2, r3]) rfl ?_
  exact ⟨rfl, hbz.out⟩
set_option maxRecDepth 20000 in
set_option maxHeartbeats 8000000 in
theorem rof_or (n : Nat) (hn : n ≤ 1000) (A : Option Addr) (c : Nat) (B' : Option Addr) (d : Nat) (w : World) (hv : Bv w (valN n) A c B' d) :
    Calls Try.prog 74 #[.agg #[.int .u8 2, .int .u8 1, .bool true, .slice A 0 c, .slice B' n d], .int .i64 1] w fun e w' => (∃ A c, e = .returned (.tuple #[.agg #[.int .i64 2, .slice A n c, .string ⟨#[]⟩, .string ⟨#[]⟩], .bool true]) ∧ GivesOr n A c w w') ∧ Below w.heap.size w w' := by
  have hC := Aside0.mk (show kT.C w B' (List.replicate n leafV).length (List.replicate n leafV) from hv.ci)
  have hX := box_new w (.int .u8 2) (.int .u8 1) (.bool true) (.slice A 0 c) (.slice B' n d)
  have hb1 := below_alloc (Below.refl w.heap.size w) (.cells #[.int .u8 2, .int .u8 1, .bool true, .slice A 0 c, .slice B' n d] 55)
  obtain ⟨w1, hw1⟩ : ∃ w1, w.alloc (.cells #[.int .u8 2, .int .u8 1, .bool true, .slice A 0 c, .slice B' n d] 55) = w1 := ⟨_, rfl⟩
  rw [hw1] at hX hb1
  have hR := fbox_new w1 25 (.int .i64 0) (.slice none 0 0) (.string ⟨#[]⟩) (.string ⟨#[]⟩)
  have hbn := below_alloc (Below.refl w1.heap.size w1) (.cells #[.int .i64 0, .slice none 0 0, .string ⟨#[]⟩, .string ⟨#[]⟩] 25)
  obtain ⟨w2, hw2⟩ : ∃ w2, w1.alloc (.cells #[.int .i64 0, .slice none 0 0, .string ⟨#[]⟩, .string ⟨#[]⟩] 25) = w2 := ⟨_, rfl⟩
  rw [hw2] at hR hbn
  have hX2 := hX.below hbn
  have hb2 := below_then hb1 hb1.size hbn
  have hV := fbox_new w2 25 (.int .i64 0) (.slice none 0 0) (.string ⟨#[]⟩) (.string ⟨#[]⟩)
  have hbm := below_alloc (Below.refl w2.heap.size w2) (.cells #[.int .i64 0, .slice none 0 0, .string ⟨#[]⟩, .string ⟨#[]⟩] 25)
  obtain ⟨w3, hw3⟩ : ∃ w3, w2.alloc (.cells #[.int .i64 0, .slice none 0 0, .string ⟨#[]⟩, .string ⟨#[]⟩] 25) = w3 := ⟨_, rfl⟩
  rw [hw3] at hV hbm
  have hX3 := hX2.below hbm
  have hR3 := hR.below hbm
  have hb3 := below_then hb2 hb2.size hbm
  obtain ⟨X, hXe⟩ : ∃ X, w.heap.size = X := ⟨_, rfl⟩
  obtain ⟨R, hRe⟩ : ∃ R, w1.heap.size = R := ⟨_, rfl⟩
  obtain ⟨V, hVe⟩ : ∃ V, w2.heap.size = V := ⟨_, rfl⟩
  have hXR := Aside0.mk (show X < R by rw [← hXe, ← hRe]; exact hX.lt)
  have hRV := Aside0.mk (show R < V by rw [← hVe, ← hRe]; exact hR.lt)
  have hXle := Aside0.mk (show w.heap.size ≤ X by omega)
  rw [hXe] at hX hX2 hX3
  rw [hRe] at hR hR3
  rw [hVe] at hV
  obtain ⟨v0, v1, v2, v3⟩ := hV.cells
  obtain ⟨f0, f1, f2, f3⟩ := hV.free
  obtain ⟨w4, hw4, hV4, hm4⟩ := put4 hV (.int .i64 2) (.slice none 0 0) (.string ⟨#[]⟩) (.string ⟨#[]⟩)
  have hX4 := hX3.mod hm4 (show ¬ X = V by have := hXR.out; have := hRV.out; omega)
  have hR4 := Aside0.mk (hR3.mod hm4 (show ¬ R = V by have := hRV.out; omega))
  have hb4 := Aside0.mk (mod_below hm4 hb3 (by have := hXle.out; have := hXR.out; have := hRV.out; omega))
  have hVle := Aside0.mk (show w.heap.size ≤ V by have := hXle.out; have := hXR.out; have := hRV.out; omega)
  have hRle := Aside0.mk (show w.heap.size ≤ R by have := hXle.out; have := hXR.out; omega)
  obtain ⟨x0, x1, x2, x3, x4⟩ := hX2.cells
  obtain ⟨y0, y1, y2, y3, y4⟩ := hX4.cells
  replace hV4 := Aside0.mk hV4
  have hX4A := Aside0.mk hX4
  clear hX2 hX3 hX4 hR hR3 hb1 hb2 hb3 hbn hbm hV hm4 hv hX
  go_enter Try.func74, Try.ntmps74
  go_wp2_with fail
  clear x0 x1 x2 x3 x4 y0 y1 y2 y3 y4 v0 v1 v2 v3 f0 f1 f2 f3
  go_loopw [7, 8, 9] (fun s7 s8 s9 wr => ∃ (i : Nat) (iv : Value), i ≤ n ∧ s7 = .int .i64 (i : Int) ∧ Aside0 (Box wr X (.int .u8 2) (.int .u8 1) (.bool true) (.slice A 0 c) (.slice B' n d)) ∧ Aside0 (FBox wr R 25 (.int .i64 0) (.slice none 0 0) (.string ⟨#[]⟩) (.string ⟨#[]⟩)) ∧ Aside0 (FBox wr V 25 (.int .i64 2) iv (.string ⟨#[]⟩) (.string ⟨#[]⟩)) ∧ Aside0 (Kd.N kF 25 wr 0 (fun q => V < q) iv (List.replicate i hasA)) ∧ Aside0 (Below w.heap.size w wr) ∧ Aside0 (s8 = s8 ∧ s9 = s9)) (fun s7 _ _ _ => n - (intOf s7).toNat)
  case atStart => exact ⟨0, _, Nat.zero_le _, rfl, hX4A, hR4, hV4, ⟨Kd.N_nil _ _ _ _ _⟩, hb4, ⟨⟨rfl, rfl⟩⟩⟩
  case round =>
    clear hR4 hV4 hb4
    obtain ⟨i, iv, hi, rfl, hX, hR, hV, hN, hb, _⟩ := hrel
    obtain ⟨A9, c9, e⟩ := Kd.N_slice hN.out
    subst e
    obtain ⟨L9, hLe⟩ : ∃ L9, (List.replicate i hasA).length = L9 := ⟨_, rfl⟩
    obtain ⟨acc, hacc⟩ : ∃ acc, List.replicate i hasA = acc := ⟨_, rfl⟩
    by_cases hlt : i < n
    · have hil : i < (List.replicate n leafV).length := by rw [List.length_replicate]; exact hlt
      obtain ⟨ad, A6, c6, B6, d6, e, p0, p1, p2, p3, p4, hv6⟩ := B.kT_at (Kd.C_below hC.out hb.out) i hil
      subst e
      rw [List.getElem_replicate] at p0 p1 p2 p3 p4 hv6
      have hLN := Aside0.mk (show L9 = i by rw [← hLe, List.length_replicate])
      rw [hLe] at hV hN
      rw [hacc] at hN hLe
      replace hacc := Aside0.mk hacc
      replace hLe := Aside0.mk hLe
      have hcl := rof_leaf (wrap64 (1 + 1)) (by rw [show wrap64 (1 + 1) = 2 by decide +kernel]; decide) A6 c6 B6 d6 wr hv6
      rw [show wrap64 (1 + 1) = 2 by decide +kernel] at hcl
      unfold aV at hcl
      unfold leafV at p0 p1 p2 p3 p4
      dsimp only [List.length_nil, List.length_cons] at p0 p1 p2 p3 p4
      replace hcl := Aside0.mk hcl
      have hNl := Aside0.mk (Kd.N_lt hN.out)
      have hVl := Aside0.mk (show V < wr.heap.size from hV.out.lt)
      obtain ⟨u0, u1, u2, u3, u4⟩ := hX.out.cells
      have i0 : (0 : Int) ≤ (i : Int) := by omega
      have i1 : (i : Int) < (n : Int) := by omega
      have hni := Aside0.mk (show i < n ∧ n ≤ 1000 from ⟨hlt, by omega⟩)
      clear hil hv6
      go_wp2_with fail
      refine hcl.out.mono ?_
      rintro e w5 ⟨rfl, hb5⟩
      have hX5 := hX.out.below hb5
      have hR5 := hR.out.below hb5
      have hV5 := hV.out.below hb5
      have hN5 := Kd.N_below hN.out hb5
      have hbb5 := below_then hb.out hb.out.size hb5
      have hz5 := hb5.size
      have hYn := fbox_new w5 25 (.int .i64 0) (.slice none 0 0) (.string ⟨#[]⟩) (.string ⟨#[]⟩)
      have hbn := below_alloc (Below.refl w5.heap.size w5) (.cells #[.int .i64 0, .slice none 0 0, .string ⟨#[]⟩, .string ⟨#[]⟩] 25)
      obtain ⟨w6, hw6⟩ : ∃ w6, w5.alloc (.cells #[.int .i64 0, .slice none 0 0, .string ⟨#[]⟩, .string ⟨#[]⟩] 25) = w6 := ⟨_, rfl⟩
      rw [hw6] at hYn hbn
      have hVY := Aside0.mk (show V < w5.heap.size from hV5.lt)
      have hRY := Aside0.mk (show R < w5.heap.size from hR5.lt)
      have hXY := Aside0.mk (show X < w5.heap.size from hX5.lt)
      have hbb6 := below_then hbb5 hbb5.size hbn
      have hX6 := hX5.below hbn
      have hR6 := hR5.below hbn
      have hV6 := hV5.below hbn
      have hN6 := Kd.N_below (Kd.N_bound hN5) hbn
      have hz6 := hbn.size
      obtain ⟨Y, hYe⟩ : ∃ Y, w5.heap.size = Y := ⟨_, rfl⟩
      have hYle := Aside0.mk (show w.heap.size ≤ w5.heap.size from hbb5.size)
      rw [hYe] at hYn hVY hRY hXY hYle
      obtain ⟨e0, e1, e2, e3⟩ := hYn.free
      obtain ⟨d0, d1, d2, d3⟩ := hYn.cells
      obtain ⟨w9, hw9, hY9, hm9⟩ := put4 hYn (.int .i64 6) (.slice none 0 0) (.string { data := #[97] }) (.string { data := #[] })
      have hX9 := Aside0.mk (hX6.mod hm9 (show ¬ X = Y by have := hXY.out; omega))
      have hR9 := Aside0.mk (hR6.mod hm9 (show ¬ R = Y by have := hRY.out; omega))
      have hV9 := Aside0.mk (hV6.mod hm9 (show ¬ V = Y by have := hVY.out; omega))
      have hbb9 := Aside0.mk (mod_below hm9 hbb6 hYle.out)
      have hN9 := Aside0.mk (Kd.N_mono (Kd.N_step hN6 (fun q hq hlt => hm9.block q hlt (fun e => by have e : q = Y := e; have := hq.2; omega))) (ok' := fun q => V < q) (fun q hq => hq.1))
      have hz9 := Aside0.mk (show wr.heap.size ≤ w9.heap.size from Nat.le_trans hz5 (Nat.le_trans hz6 hm9.size))
      have hlen : (acc.length + 1) * 64 ≤ 140737488355328 := by have := hLe.out; have := hLN.out; have := hni.out; omega
      obtain ⟨_, b1, _, _⟩ := hV9.out.cells
      obtain ⟨z0, z1, z2, z3⟩ := hY9.cells
      have hok := Aside0.mk (fun (q : Nat) (hq : wr.heap.size ≤ q) => (show V < q ∧ some q ≠ (Value.slice A9 L9 c9).ownBlock from ⟨by have := hVl.out; omega, fun e => by have := hNl.out q e.symm; omega⟩))
      have hfr := Aside0.mk (fun (q : Nat) (hq : w9.heap.size ≤ q) => (show V < q by have := hVl.out; have := hz9.out; omega))
      clear hX5 hR5 hV5 hN5 hbb5 hz5 hYn hbn hbb6 hX6 hR6 hV6 hN6 hz6 hm9 hb5 hX hR hV hN hb hY9 hcl
      go_wp2_with (first | ((with_reducible refine gate_builtin (b := .append) (xs := #[.tmp 83, .tmp 85]) rfl ?_); at_builtin; (refine NF_append_last (w0 := w9) (W := w9) rfl (.tmp 83) (.tmp 85) rfl 0 (.slice A9 L9 c9) acc hasA [.int .i64 6, .slice none 0 0, .string { data := #[97] }, .string { data := #[] }] (fun q => V < q) (fun q => wr.heap.size ≤ q) rfl rfl (FK_of (x := hasA) (A := none) (c := 0) (Nat.le_refl _) (Kd.F_nil _ _ _)) hok.out hfr.out hN9.out (Below.refl _ _) (Nat.zero_le _) hlen ?_); intro v1 w10 hN10 _ hg; have hm10 := Aside0.mk (Mod.of_grown (S := fun q => V < q) hg (fun j hj => .inl (hN9.out.1 j hj))); have hV10 := Aside0.mk (hV9.out.mod hm10.out (Nat.lt_irrefl V)); have hR10 := Aside0.mk (hR9.out.mod hm10.out (show ¬ V < R by have := hRV.out; omega)); have hX10 := Aside0.mk (hX9.out.mod hm10.out (show ¬ V < X by have := hRV.out; have := hXR.out; omega)); obtain ⟨A5, c5, ev⟩ := Kd.N_slice hN10; subst ev; obtain ⟨N9, hN9e⟩ : ∃ N9, (acc ++ [hasA]).length = N9 := ⟨_, rfl⟩; rw [hN9e] at hN10; rw [hN9e]; replace hN9e := Aside0.mk hN9e; obtain ⟨_, q10, _, _⟩ := hV10.out.cells; obtain ⟨_, q11, _, _⟩ := hV10.out.free; replace hN10 := Aside0.mk hN10; clear hg))
      have hV11 := Aside0.mk (hV10.out.set1 (.slice A5 N9 c5))
      have hm11 := set_mod w10 V 1 (.slice A5 N9 c5)
      obtain ⟨w11, hw11⟩ : ∃ wn, w10.setCell ⟨V, 1, none⟩ (.slice A5 N9 c5) = wn := ⟨_, rfl⟩
      rw [hw11] at hV11 hm11 ⊢
      have hR11 := Aside0.mk (hR10.out.mod hm11 (show ¬ R = V by have := hRV.out; omega))
      have hN11 := Aside0.mk (show Kd.N kF 25 w11 0 (fun q => V < q) (.slice A5 N9 c5) (List.replicate (i + 1) hasA) from by
        rw [List.replicate_succ', hacc.out]
        exact Kd.N_step hN10.out (fun j hj hlt => hm11.block j hlt (fun e => by have e : j = V := e; have hj : V < j := hj; omega)))
      have hb11 := Aside0.mk (Mod.below (S := fun q => V ≤ q) (((Mod.of_below (S := fun q => V ≤ q) hbb9.out).trans hm10.out (fun q hq => .inl (Nat.le_of_lt hq))).trans hm11 (fun q hq => .inl (by have hz : q = V := hq; show V ≤ q; omega))) (fun q hq => Nat.le_trans hVle.out hq) (Nat.le_refl _))
      have hX11 := Aside0.mk (hX10.out.mod hm11 (show ¬ X = V by have := hRV.out; have := hXR.out; omega))
      clear hm11 hw11 hN10 hR10 hV10 hN9 hV9 hR9 hbb9 p0 p1 p2 p3 p4 q10 q11 hX10 hX9 b1 z0 z1 z2 z3 u0 u1 u2 u3 u4 d0 d1 d2 d3 e0 e1 e2 e3
      go_wp2_with fail
      go_roundw
      case rel => exact ⟨i + 1, _, by omega, by go_num, hX11, hR11, hV11, hN11, hb11, (by first | exact ⟨⟨rfl, rfl⟩⟩ | exact ⟨trivial⟩ | exact ⟨⟨trivial, trivial⟩⟩)⟩
      case measure => simp [intOf]; omega
    · obtain rfl : i = n := by omega
      have hcap := Aside0.mk (Kd.N_reads' hN.out).2.1
      have hNF := Kd.N_F hN.out
      have hLn := Aside0.mk (show L9 = i by rw [← hLe, List.length_replicate])
      rw [hLe] at hV
      replace hLe := Aside0.mk hLe
      obtain ⟨g0, g1, g2, g3⟩ := hR.out.free
      obtain ⟨h0, h1, h2, h3⟩ := hR.out.cells
      obtain ⟨e0, e1, e2, e3⟩ := hV.out.cells
      obtain ⟨u0, u1, u2, u3, u4⟩ := hX.out.cells
      obtain ⟨w7, hw7, hR7, hm7⟩ := put4 hR.out (.int .i64 2) (.slice A9 L9 c9) (.string ⟨#[]⟩) (.string ⟨#[]⟩)
      have hbz := Aside0.mk (mod_below hm7 hb.out hRle.out)
      have hFz := Aside0.mk (F_mod hNF hm7 (fun q hq e => by have hq : V < q := hq; have e : q = R := e; have := hRV.out; omega))
      obtain ⟨r0, r1, r2, r3⟩ := hR7.cells
      replace hR7 := Aside0.mk hR7
      clear hm7 hNF hacc
      go_wp2_with fail
      refine bodyPost_ret (v := .tuple #[.agg #[.int .i64 2, .slice A9 L9 c9, .string ⟨#[]⟩, .string ⟨#[]⟩], .bool true]) (by simp [results, Try.results74, go_sem, r0, r1, r2, r3]) rfl ?_
      have hcp := hcap.out
      have hF9 := Kd.F_mono hFz.out (ok' := fun q => w.heap.size ≤ q) (fun q hq => by have hq : V < q := hq; have := hVle.out; show w.heap.size ≤ q; omega)
      rw [hLe.out, hLn.out] at hcp hF9
      exact ⟨⟨A9, c9, by rw [hLn.out], hcp, hF9⟩, hXe ▸ hbz.out⟩
end Go.Proofs.Ytgnmkblaockghaa
