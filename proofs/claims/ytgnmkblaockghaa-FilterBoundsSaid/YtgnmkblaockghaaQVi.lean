/- The reference's Of, and FilterValues, of the value of an or of many. -/
import Derived.Test.YtgnmkblaockghaaQVh
import Derived.Test.YtgnmkblaockghaaQNd
set_option linter.unusedVariables false
set_option linter.unusedSimpArgs false
namespace Go.Proofs.Ytgnmkblaockghaa
open Go.RowKit Go.Shelf Go.Proofs.YtgnmkblaockghaaW.PrintWords Go.Proofs.YtgnmkblaockghaaW.PrintMore Go.Proofs.YtgnmkblaockghaaW.PrintLast
open B (kT kU bv Bv BvF Gives Box box_new put5)

/-- What the reference's Of ends in. -/
def ROfEnds (n : Nat) (w : World) (e : Ending) (w' : World) : Prop :=
  (if n ≤ 199 then ∃ A c, e = .returned (.tuple #[.agg #[.int .i64 2, .slice A n c, .string ⟨#[]⟩, .string ⟨#[]⟩], .bool true]) ∧ GivesOr n A c w w' else e = .returned (.tuple #[noF, .bool false])) ∧ Below w.heap.size w w'
theorem rcheckV_calls (n : Nat) (hn : n ≤ 1000) (A : Option Addr) (c : Nat) (B' : Option Addr) (d : Nat) (w : World) (hv : Bv w (valN n) A c B' d) :
    Calls Try.prog 73 #[.agg #[.int .u8 2, .int .u8 1, .bool true, .slice A 0 c, .slice B' n d]] w fun e w' => e = .returned (.int .i64 0) ∧ Below w.heap.size w w' := by
  have h := PFilterBounds.cardcaseref05_Check.calls (n + 6) 2 1 true A c [] B' d (List.replicate n leafV) 0 w hv.cb hv.lb hv.ci hv.li (rcheck_val n hn)
  rw [List.length_replicate] at h
  exact h
theorem values_calls (n : Nat) (hn : n ≤ 210) (A : Option Addr) (c : Nat) (B' : Option Addr) (d : Nat) (w : World) (hv : Bv w (valN n) A c B' d) :
    Calls Try.prog 46 #[.agg #[.int .u8 2, .int .u8 1, .bool true, .slice A 0 c, .slice B' n d], .int .i64 3000, .int .i64 1] w fun e w' => e = .returned (.int .i64 (2999 - 2 * (n : Int))) ∧ Below w.heap.size w w' := by
  have h := PFilterBounds.cardcaselaw08_values.calls (n + 6) 2 1 true A c [] B' d (List.replicate n leafV) 3000 1 (2999 - 2 * (n : Int)) w hv.cb hv.lb hv.ci hv.li (vals_val n hn)
  rw [List.length_replicate] at h
  exact h
set_option maxRecDepth 20000 in
set_option maxHeartbeats 4000000 in
theorem rofV_calls (n : Nat) (hn : n ≤ 1000) (A : Option Addr) (c : Nat) (B' : Option Addr) (d : Nat) (w : World) (hv : Bv w (valN n) A c B' d) :
    Calls Try.prog 48 #[.agg #[.int .u8 2, .int .u8 1, .bool true, .slice A 0 c, .slice B' n d]] w (ROfEnds n w) := by
  have hX := box_new w (.int .u8 2) (.int .u8 1) (.bool true) (.slice A 0 c) (.slice B' n d)
  have hb1 := below_alloc (Below.refl w.heap.size w) (.cells #[.int .u8 2, .int .u8 1, .bool true, .slice A 0 c, .slice B' n d] 55)
  obtain ⟨w1, hw1⟩ : ∃ w1, w.alloc (.cells #[.int .u8 2, .int .u8 1, .bool true, .slice A 0 c, .slice B' n d] 55) = w1 := ⟨_, rfl⟩
  rw [hw1] at hX hb1
  have hR := fbox_new w1 25 (.int .i64 0) (.slice none 0 0) (.string ⟨#[]⟩) (.string ⟨#[]⟩)
  have hbn := below_alloc (Below.refl w1.heap.size w1) (.cells #[.int .i64 0, .slice none 0 0, .string ⟨#[]⟩, .string ⟨#[]⟩] 25)
  obtain ⟨w2, hw2⟩ : ∃ w2, w1.alloc (.cells #[.int .i64 0, .slice none 0 0, .string ⟨#[]⟩, .string ⟨#[]⟩] 25) = w2 := ⟨_, rfl⟩
  rw [hw2] at hR hbn
  have hX2 := hX.below hbn
  have hb2 := below_then hb1 hb1.size hbn
  obtain ⟨X, hXe⟩ : ∃ X, w.heap.size = X := ⟨_, rfl⟩
  obtain ⟨R, hRe⟩ : ∃ R, w1.heap.size = R := ⟨_, rfl⟩
  have hRle := Aside0.mk (show w.heap.size ≤ R by rw [← hRe]; exact hb1.size)
  rw [hXe] at hX2
  rw [hRe] at hR
  have hv2 := hv.below hb2
  have hck := Aside0.mk (rcheckV_calls n hn A c B' d w2 hv2)
  replace hv2 := Aside0.mk hv2
  obtain ⟨x0, x1, x2, x3, x4⟩ := hX2.cells
  replace hX2 := Aside0.mk hX2
  replace hR := Aside0.mk hR
  replace hb2 := Aside0.mk hb2
  clear hX hb1 hbn hv
  go_enter Try.func48, Try.ntmps48
  go_wp2_with fail
  refine hck.out.mono ?_
  rintro e w3 ⟨rfl, hb3⟩
  have hX3 := hX2.out.below hb3
  have hR3 := Aside0.mk (hR.out.below hb3)
  have hbb3 := Aside0.mk (below_then hb2.out hb2.out.size hb3)
  have hcl := Aside0.mk (rof_or n hn A c B' d w3 (hv2.out.below hb3))
  obtain ⟨y0, y1, y2, y3, y4⟩ := hX3.cells
  replace hX3 := Aside0.mk hX3
  clear hb3 x0 x1 x2 x3 x4 hck
  go_wp2_with fail
  refine hcl.out.mono ?_
  rintro e w4 ⟨⟨A4, c4, rfl, hc4, hF4⟩, hb4⟩
  have hR4 := hR3.out.below hb4
  have hbb4 := below_then hbb3.out hbb3.out.size hb4
  have hVn := fbox_new w4 25 (.int .i64 0) (.slice none 0 0) (.string ⟨#[]⟩) (.string ⟨#[]⟩)
  have hbn := below_alloc (Below.refl w4.heap.size w4) (.cells #[.int .i64 0, .slice none 0 0, .string ⟨#[]⟩, .string ⟨#[]⟩] 25)
  obtain ⟨w5, hw5⟩ : ∃ w5, w4.alloc (.cells #[.int .i64 0, .slice none 0 0, .string ⟨#[]⟩, .string ⟨#[]⟩] 25) = w5 := ⟨_, rfl⟩
  obtain ⟨V, hVe⟩ : ∃ V, w4.heap.size = V := ⟨_, rfl⟩
  rw [hw5] at hVn hbn
  have hRV := Aside0.mk (show R < V by rw [← hVe]; exact hR4.lt)
  have hVle := Aside0.mk (show w.heap.size ≤ V by rw [← hVe]; exact hbb4.size)
  have hw3V := Aside0.mk (show w.heap.size ≤ w3.heap.size from hbb3.out.size)
  have hRw3 := Aside0.mk (show R < w3.heap.size from hR3.out.lt)
  rw [hVe] at hVn
  have hR5 := hR4.below hbn
  have hbb5 := below_then hbb4 hbb4.size hbn
  have hF5 := Kd.F_below (Kd.F_bound hF4) hbn
  obtain ⟨f0, f1, f2, f3⟩ := hVn.free
  obtain ⟨v0, v1, v2, v3⟩ := hVn.cells
  obtain ⟨w6, hw6, hV6, hm6⟩ := put4 hVn (.int .i64 2) (.slice A4 n c4) (.string ⟨#[]⟩) (.string ⟨#[]⟩)
  have hR6 := Aside0.mk (hR5.mod hm6 (show ¬ R = V by have := hRV.out; omega))
  have hbb6 := Aside0.mk (mod_below hm6 hbb5 hVle.out)
  have hF6 := Aside0.mk (F_mod hF5 hm6 (fun q hq e => by have e : q = V := e; have := hq.2; omega))
  have hrr := oright_calls n hn A4 c4 w6 hc4 (Kd.F_now hF6.out)
  obtain ⟨z0, z1, z2, z3⟩ := hV6.cells
  replace hV6 := Aside0.mk hV6
  replace hc4 := Aside0.mk hc4
  clear hR4 hbb4 hVn hbn hR5 hbb5 hF5 hF4 hm6 hb4 hcl
  by_cases h199 : n ≤ 199
  · rw [decide_eq_true h199] at hrr
    replace hrr := Aside0.mk hrr
    replace h199 := Aside0.mk h199
    replace hn := Aside0.mk hn
    go_wp2_with fail
    refine hrr.out.mono ?_
    rintro e w7 ⟨rfl, hb7⟩
    have hR7 := hR6.out.below hb7
    have hbb7 := below_then hbb6.out hbb6.out.size hb7
    have hF7 := Kd.F_below hF6.out hb7
    obtain ⟨k0, k1, k2, k3⟩ := (hV6.out.below hb7).cells
    obtain ⟨g0, g1, g2, g3⟩ := hR7.free
    obtain ⟨h0, h1, h2, h3⟩ := hR7.cells
    obtain ⟨wz, hwz, hRz, hmz⟩ := put4 hR7 (.int .i64 2) (.slice A4 n c4) (.string ⟨#[]⟩) (.string ⟨#[]⟩)
    obtain ⟨r0, r1, r2, r3⟩ := hRz.cells
    have hbz := Aside0.mk (mod_below hmz hbb7 hRle.out)
    have hFz := Aside0.mk (F_mod hF7 hmz (fun q hq e => by have e : q = R := e; have hq := hq.1; have hq : w3.heap.size ≤ q := hq; have := hRw3.out; omega))
    clear hR7 hbb7 hF7 hmz hRz hb7 z0 z1 z2 z3 v0 v1 v2 v3 f0 f1 f2 f3
    go_wp2_with fail
    refine bodyPost_ret (v := .tuple #[.agg #[.int .i64 2, .slice A4 n c4, .string ⟨#[]⟩, .string ⟨#[]⟩], .bool true]) (by simp [results, Try.results48, go_sem, r0, r1, r2, r3]) rfl ?_
    unfold ROfEnds
    rw [if_pos h199.out]
    exact ⟨⟨A4, c4, rfl, hc4.out, Kd.F_mono hFz.out (fun q hq => Nat.le_trans hw3V.out hq.1)⟩, hXe ▸ hbz.out⟩
  · rw [decide_eq_false h199] at hrr
    replace hrr := Aside0.mk hrr
    replace h199 := Aside0.mk h199
    replace hn := Aside0.mk hn
    go_wp2_with fail
    refine hrr.out.mono ?_
    rintro e w7 ⟨rfl, hb7⟩
    have hR7 := hR6.out.below hb7
    have hbb7 := below_then hbb6.out hbb6.out.size hb7
    obtain ⟨g0, g1, g2, g3⟩ := hR7.free
    obtain ⟨h0, h1, h2, h3⟩ := hR7.cells
    obtain ⟨wz, hwz, hRz, hmz⟩ := put4 hR7 (.int .i64 0) (.slice none 0 0) (.string ⟨#[]⟩) (.string ⟨#[]⟩)
    obtain ⟨r0, r1, r2, r3⟩ := hRz.cells
    have hbz := Aside0.mk (mod_below hmz hbb7 hRle.out)
    clear hR7 hbb7 hmz hRz hb7 z0 z1 z2 z3 v0 v1 v2 v3 f0 f1 f2 f3
    go_wp2_with fail
    refine bodyPost_ret (v := .tuple #[noF, .bool false]) (by simp [results, Try.results48, go_sem, r0, r1, r2, r3]) rfl ?_
    unfold ROfEnds
    rw [if_neg h199.out]
    exact ⟨rfl, hXe ▸ hbz.out⟩
set_option maxRecDepth 20000 in
set_option maxHeartbeats 8000000 in
theorem filterValues_walk (n : Nat) (hn : n ≤ 210) (A : Option Addr) (c : Nat) (B' : Option Addr) (d : Nat) (w : World) (hv : Bv w (valN n) A c B' d) :
    Calls Try.prog 25 #[.agg #[.int .u8 2, .int .u8 1, .bool true, .slice A 0 c, .slice B' n d]] w fun e w' => e = .returned (.bool true) ∧ Below w.heap.size w w' := by
  have hkn := Aside0.mk known_calls
  have hX := box_new w (.int .u8 2) (.int .u8 1) (.bool true) (.slice A 0 c) (.slice B' n d)
  have hb1 := below_alloc (Below.refl w.heap.size w) (.cells #[.int .u8 2, .int .u8 1, .bool true, .slice A 0 c, .slice B' n d] 55)
  obtain ⟨w1, hw1⟩ : ∃ w1, w.alloc (.cells #[.int .u8 2, .int .u8 1, .bool true, .slice A 0 c, .slice B' n d] 55) = w1 := ⟨_, rfl⟩
  rw [hw1] at hX hb1
  obtain ⟨X, hXe⟩ : ∃ X, w.heap.size = X := ⟨_, rfl⟩
  rw [hXe] at hX
  have hXle := Aside0.mk (show w.heap.size ≤ X by omega)
  have hv1 := hv.below hb1
  have hva := Aside0.mk (values_calls n hn A c B' d w1 hv1)
  have g1 : decide (2999 - 2 * (n : Int) < 0) = false := decide_eq_false (by omega)
  obtain ⟨x0, x1, x2, x3, x4⟩ := hX.cells
  replace hX := Aside0.mk hX
  replace hb1 := Aside0.mk hb1
  replace hv1 := Aside0.mk hv1
  replace hv := Aside0.mk hv
  go_enter Try.func25, Try.ntmps25
  go_wp2_with fail
  refine hva.out.mono ?_
  rintro e w2 ⟨rfl, hb2⟩
  have hX2 := hX.out.below hb2
  have hbb2 := Aside0.mk (below_then hb1.out hb1.out.size hb2)
  have hv2 := hv1.out.below hb2
  have hof := Aside0.mk (ofV_calls n (by omega) A c B' d w2 hv2)
  obtain ⟨y0, y1, y2, y3, y4⟩ := hX2.cells
  replace hX2 := Aside0.mk hX2
  replace hv2 := Aside0.mk hv2
  clear hb2 x0 x1 x2 x3 x4 hva
  go_wp2_with fail
  clear g1
  refine hof.out.mono ?_
  rintro e w3 ⟨he, hb3⟩
  have hX3 := hX2.out.below hb3
  have hbb3 := below_then hbb2.out hbb2.out.size hb3
  have hv3 := hv2.out.below hb3
  have hYn := fbox_new w3 25 (.int .i64 0) (.slice none 0 0) (.string ⟨#[]⟩) (.string ⟨#[]⟩)
  have hbn := below_alloc (Below.refl w3.heap.size w3) (.cells #[.int .i64 0, .slice none 0 0, .string ⟨#[]⟩, .string ⟨#[]⟩] 25)
  obtain ⟨w4, hw4⟩ : ∃ w4, w3.alloc (.cells #[.int .i64 0, .slice none 0 0, .string ⟨#[]⟩, .string ⟨#[]⟩] 25) = w4 := ⟨_, rfl⟩
  rw [hw4] at hYn hbn
  obtain ⟨Y, hYe⟩ : ∃ Y, w3.heap.size = Y := ⟨_, rfl⟩
  have hXY := Aside0.mk (show X < Y by rw [← hYe]; exact hX3.lt)
  have hYle := Aside0.mk (show w.heap.size ≤ Y by rw [← hYe]; exact hbb3.size)
  have hw2le := Aside0.mk (show w.heap.size ≤ w2.heap.size from hbb2.out.size)
  rw [hYe] at hYn
  have hX4 := hX3.below hbn
  have hbb4 := below_then hbb3 hbb3.size hbn
  have hv4 := hv3.below hbn
  obtain ⟨e0, e1, e2, e3⟩ := hYn.free
  obtain ⟨d0, d1, d2, d3⟩ := hYn.cells
  clear hof hX3 hbb3 hv3
  by_cases h199 : n ≤ 199
  · rw [if_pos h199] at he
    obtain ⟨A5, c5, rfl, hc5, hF5⟩ := he
    obtain ⟨w5, hw5, hY5, hm5⟩ := put4 hYn (.int .i64 2) (.slice A5 n c5) (.string ⟨#[]⟩) (.string ⟨#[]⟩)
    have hX5 := hX4.mod hm5 (show ¬ X = Y by have := hXY.out; omega)
    have hbb5 := Aside0.mk (mod_below hm5 hbb4 hYle.out)
    have hF5' := Aside0.mk (F_mod (Kd.F_below (Kd.F_bound hF5) hbn) hm5 (fun q hq e => by have e : q = Y := e; have := hq.2; omega))
    replace hc5 := Aside0.mk hc5
    clear hF5
    have hv5 := hv.out.below hbb5.out
    have hro := Aside0.mk (rofV_calls n (by omega) A c B' d w5 hv5)
    obtain ⟨z0, z1, z2, z3, z4⟩ := hX5.cells
    replace hX5 := Aside0.mk hX5
    replace hY5 := Aside0.mk hY5
    clear hbn hm5 hb3 hX4 hbb4 hv4 hv5
    replace h199 := Aside0.mk h199
    replace hn := Aside0.mk hn
    go_wp2_with fail
    clear y0 y1 y2 y3 y4 e0 e1 e2 e3 d0 d1 d2 d3
    refine hro.out.mono ?_
    rintro e w6 ⟨he, hb6⟩
    rw [if_pos h199.out] at he
    obtain ⟨A6, c6, rfl, hc6, hF6⟩ := he
    have hY6 := hY5.out.below hb6
    have hF6' := Kd.F_below hF5'.out hb6
    have hbb6 := below_then hbb5.out hbb5.out.size hb6
    have hZn := fbox_new w6 25 (.int .i64 0) (.slice none 0 0) (.string ⟨#[]⟩) (.string ⟨#[]⟩)
    have hbn := below_alloc (Below.refl w6.heap.size w6) (.cells #[.int .i64 0, .slice none 0 0, .string ⟨#[]⟩, .string ⟨#[]⟩] 25)
    obtain ⟨w7, hw7⟩ : ∃ w7, w6.alloc (.cells #[.int .i64 0, .slice none 0 0, .string ⟨#[]⟩, .string ⟨#[]⟩] 25) = w7 := ⟨_, rfl⟩
    rw [hw7] at hZn hbn
    obtain ⟨Z, hZe⟩ : ∃ Z, w6.heap.size = Z := ⟨_, rfl⟩
    have hYZ := Aside0.mk (show Y < Z by rw [← hZe]; exact hY6.lt)
    rw [hZe] at hZn
    have hY7 := hY6.below hbn
    have hF7 := Kd.F_below (Kd.F_bound hF6') hbn
    have hG7 := Kd.F_below (Kd.F_bound hF6) hbn
    have hbb7 := below_then hbb6 hbb6.size hbn
    obtain ⟨e0, e1, e2, e3⟩ := hZn.free
    obtain ⟨d0, d1, d2, d3⟩ := hZn.cells
    obtain ⟨w8, hw8, hZ8, hm8⟩ := put4 hZn (.int .i64 2) (.slice A6 n c6) (.string ⟨#[]⟩) (.string ⟨#[]⟩)
    have hY8 := hY7.mod hm8 (show ¬ Y = Z by have := hYZ.out; omega)
    have hF8 := Kd.F_now (F_mod hF7 hm8 (fun q hq e => by have e : q = Z := e; have := hq.2; omega))
    have hG8 := Kd.F_now (F_mod hG7 hm8 (fun q hq e => by have e : q = Z := e; have := hq.2; omega))
    have hb8 := Aside0.mk (mod_below hm8 hbb7 (by have := hYle.out; have := hYZ.out; omega))
    obtain ⟨k0, k1, k2, k3⟩ := hY8.cells
    obtain ⟨l0, l1, l2, l3⟩ := hZ8.cells
    have hsm := rsame_calls (orN n) (orN n) A5 c5 A6 c6 w8 (or_Fv hc5.out hF8) (or_Fv hc6 hG8) (by rw [wF_or]; have := hn.out; omega) (by rw [wF_or]; have := hn.out; omega)
    rw [sameT_self, or_fv, or_fv] at hsm
    replace hsm := Aside0.mk hsm
    clear hF6' hF7 hG7 hF8 hG8 hF6 hc6
    replace hY8 := Aside0.mk hY8
    replace hZ8 := Aside0.mk hZ8
    clear hY6 hbb6 hZn hbn hY7 hbb7 hm8 hb6 hro z0 z1 z2 z3 z4
    go_wp2_with fail
    refine hsm.out.mono ?_
    rintro e w9 ⟨rfl, hb9⟩
    have hbb9 := Aside0.mk (below_then hb8.out hb8.out.size hb9)
    clear hb9
    go_wp2_with fail
    refine (hkn.out w9).mono ?_
    rintro e wz ⟨rfl, hbz⟩
    have hbbz := Aside0.mk (below_then hbb9.out hbb9.out.size hbz)
    clear hbz
    go_wp2_with fail
    go_ret
    exact ⟨rfl, hXe ▸ hbbz.out⟩
  · rw [if_neg h199] at he
    subst he
    obtain ⟨w5, hw5, hY5, hm5⟩ := put4 hYn (.int .i64 0) (.slice none 0 0) (.string ⟨#[]⟩) (.string ⟨#[]⟩)
    have hX5 := hX4.mod hm5 (show ¬ X = Y by have := hXY.out; omega)
    have hbb5 := Aside0.mk (mod_below hm5 hbb4 hYle.out)
    unfold noF
    have hv5 := hv.out.below hbb5.out
    have hro := Aside0.mk (rofV_calls n (by omega) A c B' d w5 hv5)
    obtain ⟨z0, z1, z2, z3, z4⟩ := hX5.cells
    replace hX5 := Aside0.mk hX5
    replace hY5 := Aside0.mk hY5
    clear hbn hm5 hb3 hX4 hbb4 hv4 hv5
    replace h199 := Aside0.mk h199
    replace hn := Aside0.mk hn
    go_wp2_with fail
    clear y0 y1 y2 y3 y4 e0 e1 e2 e3 d0 d1 d2 d3
    refine hro.out.mono ?_
    rintro e w6 ⟨he, hb6⟩
    rw [if_neg h199.out] at he
    subst he
    have hY6 := hY5.out.below hb6
    skip
    have hbb6 := below_then hbb5.out hbb5.out.size hb6
    have hZn := fbox_new w6 25 (.int .i64 0) (.slice none 0 0) (.string ⟨#[]⟩) (.string ⟨#[]⟩)
    have hbn := below_alloc (Below.refl w6.heap.size w6) (.cells #[.int .i64 0, .slice none 0 0, .string ⟨#[]⟩, .string ⟨#[]⟩] 25)
    obtain ⟨w7, hw7⟩ : ∃ w7, w6.alloc (.cells #[.int .i64 0, .slice none 0 0, .string ⟨#[]⟩, .string ⟨#[]⟩] 25) = w7 := ⟨_, rfl⟩
    rw [hw7] at hZn hbn
    obtain ⟨Z, hZe⟩ : ∃ Z, w6.heap.size = Z := ⟨_, rfl⟩
    have hYZ := Aside0.mk (show Y < Z by rw [← hZe]; exact hY6.lt)
    rw [hZe] at hZn
    have hY7 := hY6.below hbn
    skip
    skip
    have hbb7 := below_then hbb6 hbb6.size hbn
    obtain ⟨e0, e1, e2, e3⟩ := hZn.free
    obtain ⟨d0, d1, d2, d3⟩ := hZn.cells
    obtain ⟨w8, hw8, hZ8, hm8⟩ := put4 hZn (.int .i64 0) (.slice none 0 0) (.string ⟨#[]⟩) (.string ⟨#[]⟩)
    have hY8 := hY7.mod hm8 (show ¬ Y = Z by have := hYZ.out; omega)
    skip
    skip
    have hb8 := Aside0.mk (mod_below hm8 hbb7 (by have := hYle.out; have := hYZ.out; omega))
    obtain ⟨k0, k1, k2, k3⟩ := hY8.cells
    obtain ⟨l0, l1, l2, l3⟩ := hZ8.cells
    have hsm := rsame_calls ⟨0, [], ⟨#[]⟩, ⟨#[]⟩⟩ ⟨0, [], ⟨#[]⟩, ⟨#[]⟩⟩ none 0 none 0 w8 ⟨Nat.le_refl _, Kd.C_nil _ _⟩ ⟨Nat.le_refl _, Kd.C_nil _ _⟩ (by rw [wF_of, wFs_nil]; decide) (by rw [wF_of, wFs_nil]; decide)
    rw [sameT_self] at hsm
    unfold fv at hsm
    dsimp only [List.length_nil] at hsm
    replace hsm := Aside0.mk hsm
    replace hY8 := Aside0.mk hY8
    replace hZ8 := Aside0.mk hZ8
    clear hY6 hbb6 hZn hbn hY7 hbb7 hm8 hb6 hro z0 z1 z2 z3 z4
    go_wp2_with fail
    refine hsm.out.mono ?_
    rintro e w9 ⟨rfl, hb9⟩
    have hbb9 := Aside0.mk (below_then hb8.out hb8.out.size hb9)
    clear hb9
    go_wp2_with fail
    refine (hkn.out w9).mono ?_
    rintro e wz ⟨rfl, hbz⟩
    have hbbz := Aside0.mk (below_then hbb9.out hbb9.out.size hbz)
    clear hbz
    go_wp2_with fail
    go_ret
    exact ⟨rfl, hXe ▸ hbbz.out⟩
end Go.Proofs.Ytgnmkblaockghaa
