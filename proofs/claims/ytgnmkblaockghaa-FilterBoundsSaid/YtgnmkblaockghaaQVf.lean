/- The filter of the value of an or of many. -/
import Derived.Test.YtgnmkblaockghaaQVe
set_option linter.unusedVariables false
set_option linter.unusedSimpArgs false
namespace Go.Proofs.Ytgnmkblaockghaa
open Go.RowKit Go.Shelf Go.Proofs.YtgnmkblaockghaaW.PrintWords Go.Proofs.YtgnmkblaockghaaW.PrintMore Go.Proofs.YtgnmkblaockghaaW.PrintLast
open B (kT kU bv Bv BvF Gives Box box_new put5)

/-- Has a, as the machine holds it. -/
abbrev aV : Value := .agg #[.int .i64 6, .slice none 0 0, .string { data := #[97] }, .string { data := #[] }]
theorem nums_a : strOfNums [97] = { data := #[97] } := by decide +kernel
theorem leaf_string {w : World} {A : Option Addr} (c : Nat) (h : kU.C w A 1 [97]) : (convert 52 9 (.slice A 1 c)).run Try.prog w = .ok (.string { data := #[97] }) w := by
  have h2 := Kd.C_string (P := Try.prog) (dst := 9) (c := c) Try.underlying52 Try.underlying5 Try.underlying9 h
  rw [nums_a] at h2
  exact h2
set_option maxRecDepth 20000 in
set_option maxHeartbeats 4000000 in
theorem of_leaf (D : Int) (hD : D ≤ 16) (A : Option Addr) (c : Nat) (B' : Option Addr) (d : Nat) (w : World) (hv : Bv w leafV A c B' d) :
    Calls Try.prog 72 #[.agg #[.int .u8 2, .int .u8 7, .bool false, .slice A 1 c, .slice B' 0 d], .int .i64 D] w fun e w' => e = .returned aV ∧ Below w.heap.size w w' := by
  have hX := box_new w (.int .u8 2) (.int .u8 7) (.bool false) (.slice A 1 c) (.slice B' 0 d)
  have hb1 := below_alloc (Below.refl w.heap.size w) (.cells #[.int .u8 2, .int .u8 7, .bool false, .slice A 1 c, .slice B' 0 d] 55)
  obtain ⟨w1, hw1⟩ : ∃ w1, w.alloc (.cells #[.int .u8 2, .int .u8 7, .bool false, .slice A 1 c, .slice B' 0 d] 55) = w1 := ⟨_, rfl⟩
  rw [hw1] at hX hb1
  have hR := fbox_new w1 25 (.int .i64 0) (.slice none 0 0) (.string ⟨#[]⟩) (.string ⟨#[]⟩)
  have hbn := below_alloc (Below.refl w1.heap.size w1) (.cells #[.int .i64 0, .slice none 0 0, .string ⟨#[]⟩, .string ⟨#[]⟩] 25)
  obtain ⟨w2, hw2⟩ : ∃ w2, w1.alloc (.cells #[.int .i64 0, .slice none 0 0, .string ⟨#[]⟩, .string ⟨#[]⟩] 25) = w2 := ⟨_, rfl⟩
  rw [hw2] at hR hbn
  have hX2 := hX.below hbn
  have hb2 := below_then hb1 hb1.size hbn
  have hV := fbox_new w2 25 (.int .i64 0) (.slice none 0 0) (.string ⟨#[]⟩) (.string ⟨#[]⟩)
  have hbm := below_alloc (Below.refl w2.heap.size w2) (.cells #[.int .i64 0, .slice none 0 0, .string ⟨#[]⟩, .string ⟨#[]⟩] 25)
  obtain ⟨w3, hw3⟩ : ∃ w3, w2.alloc (.cells #[.int .i64 0, .slice none 0 0, .string ⟨#[]⟩, .string ⟨#[]⟩] 25) = w3 := ⟨_, rfl⟩
  rw [hw3] at hV hbm
  have hX3 := hX2.below hbm
  have hR3 := hR.below hbm
  have hb3 := below_then hb2 hb2.size hbm
  obtain ⟨X, hXe⟩ : ∃ X, w.heap.size = X := ⟨_, rfl⟩
  obtain ⟨R, hRe⟩ : ∃ R, w1.heap.size = R := ⟨_, rfl⟩
  obtain ⟨V, hVe⟩ : ∃ V, w2.heap.size = V := ⟨_, rfl⟩
  have hXR := Aside0.mk (show X < R by rw [← hXe, ← hRe]; exact hX.lt)
  have hRV := Aside0.mk (show R < V by rw [← hVe, ← hRe]; exact hR.lt)
  have hXle := Aside0.mk (show w.heap.size ≤ X by omega)
  rw [hXe] at hX hX2 hX3
  rw [hRe] at hR hR3
  rw [hVe] at hV
  obtain ⟨v0, v1, v2, v3⟩ := hV.cells
  obtain ⟨f0, f1, f2, f3⟩ := hV.free
  obtain ⟨w4, hw4, hV4, hm4⟩ := put4 hV (.int .i64 8) (.slice none 0 0) (.string ⟨#[]⟩) (.string ⟨#[]⟩)
  have hX4 := hX3.mod hm4 (show ¬ X = V by have := hXR.out; have := hRV.out; omega)
  have hR4 := hR3.mod hm4 (show ¬ R = V by have := hRV.out; omega)
  have hb4 := mod_below hm4 hb3 (by have := hXle.out; have := hXR.out; have := hRV.out; omega)
  have hvb := (hv.below hb3).cb
  have hcb : kU.C w4 A 1 [97] := B.u8_mod hvb hm4 (fun ad e _ he => by
    have h2 := hv.cb.2.2 (by show 0 < 1; decide)
    obtain ⟨ad2, e2, h3⟩ := h2
    obtain ⟨cs, h4, h5, h6⟩ := h3 0 97 rfl
    have h7 := h6 0 (.int .u8 97) (by rw [show cs = [.int .u8 97] from h5]; rfl)
    have h8 := World.block_lt_of_cell? w _ h7
    rw [B.add_block] at h8
    rw [e] at e2
    injection e2 with e2
    subst e2
    have he : ad.block = V := he
    have := hXle.out; have := hXR.out; have := hRV.out
    omega)
  have hcv := leaf_string c hcb
  have hD1 : decide (D ≤ 16) = true := decide_eq_true hD
  clear hD
  have hsm := small_calls { data := #[97] } w4 (by decide)
  rw [small_a] at hsm
  replace hsm := Aside0.mk hsm
  have hmy := Aside0.mk must_yes
  obtain ⟨x0, x1, x2, x3, x4⟩ := hX2.cells
  obtain ⟨y0, y1, y2, y3, y4⟩ := hX4.cells
  replace hX := Aside0.mk hX
  replace hR4 := Aside0.mk hR4
  replace hb4 := Aside0.mk hb4
  clear hX2 hX3 hX4 hR hR3 hb1 hb2 hb3 hbn hbm hV hm4 hvb hcb hv hX
  go_enter Try.func72, Try.ntmps72
  go_wp2_with fail
  refine (hmy.out _).mono ?_
  rintro e wy ⟨rfl, rfl⟩
  go_wp2_with fail
  refine hsm.out.mono ?_
  rintro e w5 ⟨rfl, hb5⟩
  have hR5 := hR4.out.below hb5
  have hbb5 := below_then hb4.out hb4.out.size hb5
  obtain ⟨g0, g1, g2, g3⟩ := hR5.free
  obtain ⟨h0, h1, h2, h3⟩ := hR5.cells
  obtain ⟨w6, hw6, hR6, hm6⟩ := put4 hR5 (.int .i64 6) (.slice none 0 0) (.string { data := #[97] }) (.string ⟨#[]⟩)
  have hbz := Aside0.mk (mod_below hm6 hbb5 (by have := hXle.out; have := hXR.out; omega))
  obtain ⟨r0, r1, r2, r3⟩ := hR6.cells
  replace hR6 := Aside0.mk hR6
  clear hm6 hR5 hbb5 hb5
  go_wp2_with fail
  refine bodyPost_ret (v := aV) (by simp [results, Try.results72, go_sem, r0, r1, r2, r3]) rfl ?_
  exact ⟨rfl, hbz.out⟩
set_option maxRecDepth 20000 in
set_option maxHeartbeats 4000000 in
theorem of_or_no (n : Nat) (hn : 200 < n) (A : Option Addr) (c : Nat) (B' : Option Addr) (d : Nat) (w : World) :
    Calls Try.prog 72 #[.agg #[.int .u8 2, .int .u8 1, .bool true, .slice A 0 c, .slice B' n d], .int .i64 1] w fun e w' => e = stopE ∧ Below w.heap.size w w' := by
  have hX := box_new w (.int .u8 2) (.int .u8 1) (.bool true) (.slice A 0 c) (.slice B' n d)
  have hb1 := below_alloc (Below.refl w.heap.size w) (.cells #[.int .u8 2, .int .u8 1, .bool true, .slice A 0 c, .slice B' n d] 55)
  obtain ⟨w1, hw1⟩ : ∃ w1, w.alloc (.cells #[.int .u8 2, .int .u8 1, .bool true, .slice A 0 c, .slice B' n d] 55) = w1 := ⟨_, rfl⟩
  rw [hw1] at hX hb1
  have hR := fbox_new w1 25 (.int .i64 0) (.slice none 0 0) (.string ⟨#[]⟩) (.string ⟨#[]⟩)
  have hbn := below_alloc (Below.refl w1.heap.size w1) (.cells #[.int .i64 0, .slice none 0 0, .string ⟨#[]⟩, .string ⟨#[]⟩] 25)
  obtain ⟨w2, hw2⟩ : ∃ w2, w1.alloc (.cells #[.int .i64 0, .slice none 0 0, .string ⟨#[]⟩, .string ⟨#[]⟩] 25) = w2 := ⟨_, rfl⟩
  rw [hw2] at hR hbn
  have hX2 := hX.below hbn
  have hb2 := below_then hb1 hb1.size hbn
  have g1 : decide ((n : Int) ≤ 200) = false := decide_eq_false (by omega)
  have hmn := Aside0.mk must_no
  obtain ⟨x0, x1, x2, x3, x4⟩ := hX2.cells
  replace hb2 := Aside0.mk hb2
  clear hX hb1 hR hbn hX2
  go_enter Try.func72, Try.ntmps72
  go_wp2_with fail
  refine (hmn.out _).mono ?_
  rintro e wy ⟨rfl, rfl⟩
  go_wp2_with fail
  exact ⟨rfl, rfl, hb2.out⟩
/-- A filter of many in memory of its own. -/
def GivesOr (n : Nat) (A : Option Addr) (c : Nat) (w w' : World) : Prop := n ≤ c ∧ kF.F w' (fun q => w.heap.size ≤ q) A n (List.replicate n hasA)
set_option maxRecDepth 20000 in
set_option maxHeartbeats 8000000 in
theorem of_or (n : Nat) (hn : n ≤ 200) (A : Option Addr) (c : Nat) (B' : Option Addr) (d : Nat) (w : World) (hv : Bv w (valN n) A c B' d) :
    Calls Try.prog 72 #[.agg #[.int .u8 2, .int .u8 1, .bool true, .slice A 0 c, .slice B' n d], .int .i64 1] w fun e w' => (∃ A c, e = .returned (.agg #[.int .i64 2, .slice A n c, .string ⟨#[]⟩, .string ⟨#[]⟩]) ∧ GivesOr n A c w w') ∧ Below w.heap.size w w' := by
  have hC := Aside0.mk (show kT.C w B' (List.replicate n leafV).length (List.replicate n leafV) from hv.ci)
  have hX := box_new w (.int .u8 2) (.int .u8 1) (.bool true) (.slice A 0 c) (.slice B' n d)
  have hb1 := below_alloc (Below.refl w.heap.size w) (.cells #[.int .u8 2, .int .u8 1, .bool true, .slice A 0 c, .slice B' n d] 55)
  obtain ⟨w1, hw1⟩ : ∃ w1, w.alloc (.cells #[.int .u8 2, .int .u8 1, .bool true, .slice A 0 c, .slice B' n d] 55) = w1 := ⟨_, rfl⟩
  rw [hw1] at hX hb1
  have hR := fbox_new w1 25 (.int .i64 0) (.slice none 0 0) (.string ⟨#[]⟩) (.string ⟨#[]⟩)
  have hbn := below_alloc (Below.refl w1.heap.size w1) (.cells #[.int .i64 0, .slice none 0 0, .string ⟨#[]⟩, .string ⟨#[]⟩] 25)
  obtain ⟨w2, hw2⟩ : ∃ w2, w1.alloc (.cells #[.int .i64 0, .slice none 0 0, .string ⟨#[]⟩, .string ⟨#[]⟩] 25) = w2 := ⟨_, rfl⟩
  rw [hw2] at hR hbn
  have hX2 := hX.below hbn
  have hb2 := below_then hb1 hb1.size hbn
  have hV := fbox_new w2 25 (.int .i64 0) (.slice none 0 0) (.string ⟨#[]⟩) (.string ⟨#[]⟩)
  have hbm := below_alloc (Below.refl w2.heap.size w2) (.cells #[.int .i64 0, .slice none 0 0, .string ⟨#[]⟩, .string ⟨#[]⟩] 25)
  obtain ⟨w3, hw3⟩ : ∃ w3, w2.alloc (.cells #[.int .i64 0, .slice none 0 0, .string ⟨#[]⟩, .string ⟨#[]⟩] 25) = w3 := ⟨_, rfl⟩
  rw [hw3] at hV hbm
  have hX3 := hX2.below hbm
  have hR3 := hR.below hbm
  have hb3 := below_then hb2 hb2.size hbm
  obtain ⟨X, hXe⟩ : ∃ X, w.heap.size = X := ⟨_, rfl⟩
  obtain ⟨R, hRe⟩ : ∃ R, w1.heap.size = R := ⟨_, rfl⟩
  obtain ⟨V, hVe⟩ : ∃ V, w2.heap.size = V := ⟨_, rfl⟩
  have hXR := Aside0.mk (show X < R by rw [← hXe, ← hRe]; exact hX.lt)
  have hRV := Aside0.mk (show R < V by rw [← hVe, ← hRe]; exact hR.lt)
  have hXle := Aside0.mk (show w.heap.size ≤ X by omega)
  rw [hXe] at hX hX2 hX3
  rw [hRe] at hR hR3
  rw [hVe] at hV
  obtain ⟨v0, v1, v2, v3⟩ := hV.cells
  obtain ⟨f0, f1, f2, f3⟩ := hV.free
  obtain ⟨w4, hw4, hV4, hm4⟩ := put4 hV (.int .i64 2) (.slice none 0 0) (.string ⟨#[]⟩) (.string ⟨#[]⟩)
  have hX4 := hX3.mod hm4 (show ¬ X = V by have := hXR.out; have := hRV.out; omega)
  have hR4 := Aside0.mk (hR3.mod hm4 (show ¬ R = V by have := hRV.out; omega))
  have hb4 := Aside0.mk (mod_below hm4 hb3 (by have := hXle.out; have := hXR.out; have := hRV.out; omega))
  have hVle := Aside0.mk (show w.heap.size ≤ V by have := hXle.out; have := hXR.out; have := hRV.out; omega)
  have hRle := Aside0.mk (show w.heap.size ≤ R by have := hXle.out; have := hXR.out; omega)
  have g1 : decide ((n : Int) ≤ 200) = true := decide_eq_true (by omega)
  have hmy := Aside0.mk must_yes
  obtain ⟨x0, x1, x2, x3, x4⟩ := hX2.cells
  obtain ⟨y0, y1, y2, y3, y4⟩ := hX4.cells
  replace hV4 := Aside0.mk hV4
  clear hX2 hX3 hX4 hR hR3 hb1 hb2 hb3 hbn hbm hV hm4 hv hX
  go_enter Try.func72, Try.ntmps72
  go_wp2_with fail
  refine (hmy.out _).mono ?_
  rintro e wy ⟨rfl, rfl⟩
  go_wp2_with fail
  clear x0 x1 x2 x3 x4 y0 y1 y2 y3 y4 v0 v1 v2 v3 f0 f1 f2 f3
  go_loopw [8, 63] (fun s8 s63 wr => ∃ (i : Nat) (iv : Value), i ≤ n ∧ s63 = .int .i64 (i : Int) ∧ Aside0 (FBox wr R 25 (.int .i64 0) (.slice none 0 0) (.string ⟨#[]⟩) (.string ⟨#[]⟩)) ∧ Aside0 (FBox wr V 25 (.int .i64 2) iv (.string ⟨#[]⟩) (.string ⟨#[]⟩)) ∧ Aside0 (Kd.N kF 25 wr 0 (fun q => V < q) iv (List.replicate i hasA)) ∧ Aside0 (Below w.heap.size w wr) ∧ Aside0 (s8 = s8)) (fun _ s63 _ => n - (intOf s63).toNat)
  case atStart => exact ⟨0, _, Nat.zero_le _, rfl, hR4, hV4, ⟨Kd.N_nil _ _ _ _ _⟩, hb4, ⟨rfl⟩⟩
  case round =>
    clear hR4 hV4 hb4
    obtain ⟨i, iv, hi, rfl, hR, hV, hN, hb, _⟩ := hrel
    obtain ⟨A9, c9, e⟩ := Kd.N_slice hN.out
    subst e
    obtain ⟨L9, hLe⟩ : ∃ L9, (List.replicate i hasA).length = L9 := ⟨_, rfl⟩
    obtain ⟨acc, hacc⟩ : ∃ acc, List.replicate i hasA = acc := ⟨_, rfl⟩
    by_cases hlt : i < n
    · have hil : i < (List.replicate n leafV).length := by rw [List.length_replicate]; exact hlt
      obtain ⟨ad, A6, c6, B6, d6, e, p0, p1, p2, p3, p4, hv6⟩ := B.kT_at (Kd.C_below hC.out hb.out) i hil
      subst e
      rw [List.getElem_replicate] at p0 p1 p2 p3 p4 hv6
      have hLN := Aside0.mk (show L9 = i by rw [← hLe, List.length_replicate])
      rw [hLe] at hV hN
      rw [hacc] at hN hLe
      replace hacc := Aside0.mk hacc
      replace hLe := Aside0.mk hLe
      have hY := box_new wr (.int .u8 2) (.int .u8 7) (.bool false) (.slice A6 1 c6) (.slice B6 0 d6)
      have hbY := below_alloc (Below.refl wr.heap.size wr) (.cells #[.int .u8 2, .int .u8 7, .bool false, .slice A6 1 c6, .slice B6 0 d6] 55)
      obtain ⟨w6, hw6⟩ : ∃ w6, wr.alloc (.cells #[.int .u8 2, .int .u8 7, .bool false, .slice A6 1 c6, .slice B6 0 d6] 55) = w6 := ⟨_, rfl⟩
      rw [hw6] at hY hbY
      have hcl := of_leaf (wrap64 (1 + 1)) (by rw [show wrap64 (1 + 1) = 2 by decide +kernel]; decide) A6 c6 B6 d6 w6.drew (hv6.below (below_then hbY hbY.size (below_drew (Below.refl _ _))))
      unfold aV at hcl
      unfold leafV at p0 p1 p2 p3 p4
      dsimp only [List.length_nil, List.length_cons] at p0 p1 p2 p3 p4
      replace hcl := Aside0.mk hcl
      have hR6 := Aside0.mk (hR.out.below hbY)
      have hV6 := Aside0.mk (hV.out.below hbY)
      have hN6 := Aside0.mk (Kd.N_below hN.out hbY)
      have hb6 := Aside0.mk (below_then hb.out hb.out.size hbY)
      have hNl := Aside0.mk (Kd.N_lt hN.out)
      have hVl := Aside0.mk (show V < wr.heap.size from hV.out.lt)
      have hz6 := Aside0.mk (show wr.heap.size ≤ w6.heap.size from hbY.size)
      obtain ⟨q0, q1, q2, q3, q4⟩ := hY.cells
      obtain ⟨_, a1, _, _⟩ := hV6.out.cells
      have i0 : (0 : Int) ≤ (i : Int) := by omega
      have i1 : (i : Int) < (n : Int) := by omega
      have hni := Aside0.mk (show i < n ∧ n ≤ 1000 from ⟨hlt, by omega⟩)
      clear hil hv6 hY hbY hR hV hN hb
      go_wp2_with fail
      refine start_ (n := 10) (S := fun w' => w'.cell? ⟨V, 1, none⟩ = some (.slice A9 L9 c9) ∧ w'.cell? ⟨wr.heap.size, 0, none⟩ = some (.int .u8 2) ∧ w'.cell? ⟨wr.heap.size, 1, none⟩ = some (.int .u8 7) ∧ w'.cell? ⟨wr.heap.size, 2, none⟩ = some (.bool false) ∧ w'.cell? ⟨wr.heap.size, 3, none⟩ = some (.slice A6 1 c6) ∧ w'.cell? ⟨wr.heap.size, 4, none⟩ = some (.slice B6 0 d6)) (ds := [7, 9]) (B_ 10 0) (by kernel_rfl) rfl rfl ⟨a1, q0, q1, q2, q3, q4⟩ (fun hHeld => ?_)
      refine pn_ 0 67 (B_ 10 1) rfl rfl ?_
      refine pn_ 3 70 (B_ 10 9) rfl rfl ?_
      refine pn_ 4 71 (B_ 10 25) rfl rfl ?_
      refine tk_ 1 68 (B_ 10 27) rfl rfl hHeld (by rintro w' ⟨s0, s1, s2, s3, s4, s5⟩; go_simp; with_reducible rfl) ?_
      refine tk_ 2 69 (B_ 10 31) rfl rfl hHeld (by rintro w' ⟨s0, s1, s2, s3, s4, s5⟩; go_simp; with_reducible rfl) ?_
      refine one_ (i := 5) (N := some 72) (B_ 10 63) rfl rfl (by kernel_rfl) (by decide) (fun K hK => ?_)
      refine goes_ Try.func72 (by kernel_rfl) rfl #[.agg #[.int .u8 2, .int .u8 7, .bool false, .slice A6 1 c6, .slice B6 0 d6], .int .i64 (wrap64 (1 + 1))] (by rfl) rfl rfl (by simp only [List.map_toArray, List.map_cons, List.map_nil]; rfl) ?_
      with_reducible refine (hcl.out).mono ?_
      rintro e w9 ⟨rfl, hb9⟩
      refine ⟨_, rfl, ?_⟩
      have a1 := pw_cell_below hb9 a1
      have q0 := pw_cell_below hb9 q0
      have q1 := pw_cell_below hb9 q1
      have q2 := pw_cell_below hb9 q2
      have q3 := pw_cell_below hb9 q3
      have q4 := pw_cell_below hb9 q4
      have hR9 := Aside0.mk ((show FBox w6.drew R 25 _ _ _ _ from hR6.out).below hb9)
      have hV9 := Aside0.mk ((show FBox w6.drew V 25 _ _ _ _ from hV6.out).below hb9)
      have hN9 := Aside0.mk (Kd.N_below (Kd.N_drew hN6.out) hb9)
      have hbb9 := Aside0.mk (below_then (below_drew hb6.out) hb6.out.size hb9)
      have hz9 := Aside0.mk (show w6.heap.size ≤ w9.heap.size from hb9.size)
      clear hb9
      refine hK.out _ _ ⟨a1, q0, q1, q2, q3, q4⟩ (fun hHeld => ?_)
      clear hK K
      refine nm_ 72 ?_
      refine one_ (i := 6) (N := some 73) (B_ 10 127) rfl rfl (by kernel_rfl) (by decide) (fun K hK => ?_)
      refine value_ (w1 := ?_) (v := ?_) (by rfl) rfl ?_ ?_
      rotate_left 2
      · go_simp
        constructor
        · rfl
        · rfl
      refine hK.out _ _ ⟨pw_cell_below (below_alloc (Below.refl _ w9) _) a1, pw_cell_below (below_alloc (Below.refl _ w9) _) q0, pw_cell_below (below_alloc (Below.refl _ w9) _) q1, pw_cell_below (below_alloc (Below.refl _ w9) _) q2, pw_cell_below (below_alloc (Below.refl _ w9) _) q3, pw_cell_below (below_alloc (Below.refl _ w9) _) q4⟩ (fun hHeld => ?_)
      clear hK K
      refine nm_ 73 ?_
      refine last_ (i := 7) (N := some 74) (B_ 10 255) rfl rfl (by kernel_rfl) (by decide) (fun K hK => ?_)
      refine Kd.N_append_step kF (w0 := w9) 0 (by rfl) (.tmp 68) (.tmp 73) 23 25 (.agg #[.int .i64 0, .slice none 0 0, .string ⟨#[]⟩, .string ⟨#[]⟩]) 64 rfl Try.underlying23 PFilterBounds.info25 rfl (by decide) (by decide) (.slice A9 L9 c9) acc hasA [.int .i64 6, .slice none 0 0, .string { data := #[97] }, .string { data := #[] }] (fun q => V < q) (fun q => w6.heap.size ≤ q) rfl rfl (FK_of (x := hasA) (A := none) (c := 0) (Nat.le_refl _) (Kd.F_nil _ _ _)) (fun j hj => ⟨by have := hVl.out; have := hz6.out; have : w6.heap.size ≤ j := hj; omega, fun e => by have := hNl.out j e.symm; have := hz6.out; have : w6.heap.size ≤ j := hj; omega⟩) (fun j hj => by have := hVl.out; have := hz9.out; have := hz6.out; omega) hN9.out (Below.refl _ _) (Nat.zero_le _) (by have := hLe.out; have := hLN.out; have := hni.out; omega) ?_
      intro v1 w10 hN10 _ hg _
      have hm10 := Aside0.mk (Mod.of_grown (S := fun q => V < q) hg (fun j hj => .inl (hN9.out.1 j hj)))
      have hV10 := Aside0.mk (hV9.out.mod hm10.out (Nat.lt_irrefl V))
      have hR10 := Aside0.mk (hR9.out.mod hm10.out (show ¬ V < R by have := hRV.out; omega))
      obtain ⟨A5, c5, ev⟩ := Kd.N_slice hN10
      subst ev
      obtain ⟨_, q10, _, _⟩ := hV10.out.cells
      obtain ⟨_, q11, _, _⟩ := hV10.out.free
      obtain ⟨N9, hN9e⟩ : ∃ N9, (acc ++ [hasA]).length = N9 := ⟨_, rfl⟩
      rw [hN9e] at hN10
      rw [hN9e]
      replace hN9e := Aside0.mk hN9e
      replace hN10 := Aside0.mk hN10
      clear hg
      refine hK.out _ _ ?_
      clear hK K
      refine nm_ 74 ?_
      refine pn_ 8 75 (B_ 10 511) rfl rfl ?_
      refine last_ (i := 9) (N := none) (B_ 10 1023) rfl rfl (by kernel_rfl) (by decide) (fun K hK => ?_)
      refine skip_ (w1 := ?_) (by rfl) rfl ?_ ?_
      rotate_left
      · go_simp
        rfl
      refine hK.out _ _ ?_
      clear hK K
      refine done_ (by kernel_rfl) ?_
      have hV11 := Aside0.mk (hV10.out.set1 (.slice A5 N9 c5))
      have hm11 := set_mod w10 V 1 (.slice A5 N9 c5)
      obtain ⟨w11, hw11⟩ : ∃ wn, w10.setCell ⟨V, 1, none⟩ (.slice A5 N9 c5) = wn := ⟨_, rfl⟩
      rw [hw11] at hV11 hm11 ⊢
      have hR11 := Aside0.mk (hR10.out.mod hm11 (show ¬ R = V by have := hRV.out; omega))
      have hN11 := Aside0.mk (show Kd.N kF 25 w11 0 (fun q => V < q) (.slice A5 N9 c5) (List.replicate (i + 1) hasA) from by
        rw [List.replicate_succ', hacc.out]
        exact Kd.N_step hN10.out (fun j hj hlt => hm11.block j hlt (fun e => by have e : j = V := e; have hj : V < j := hj; omega)))
      have hb11 := Aside0.mk (Mod.below (S := fun q => V ≤ q) (((Mod.of_below (S := fun q => V ≤ q) hbb9.out).trans hm10.out (fun q hq => .inl (Nat.le_of_lt hq))).trans hm11 (fun q hq => .inl (by have hz : q = V := hq; show V ≤ q; omega))) (fun q hq => Nat.le_trans hVle.out hq) (Nat.le_refl _))
      clear hm11 hw11 hN10 hR10 hV10 hN9 hV9 hR9 hbb9 hcl a1 p0 p1 p2 p3 p4 q0 q1 q2 q3 q4 q10 q11
      go_wp2_with fail
      go_roundw
      case rel => exact ⟨i + 1, _, by omega, by go_num, hR11, hV11, hN11, hb11, (by first | exact ⟨rfl⟩ | exact ⟨trivial⟩)⟩
      case measure => simp [intOf]; omega
    · obtain rfl : i = n := by omega
      have hcap := Aside0.mk (Kd.N_reads' hN.out).2.1
      have hNF := Kd.N_F hN.out
      have hLn := Aside0.mk (show L9 = i by rw [← hLe, List.length_replicate])
      rw [hLe] at hV
      replace hLe := Aside0.mk hLe
      obtain ⟨g0, g1, g2, g3⟩ := hR.out.free
      obtain ⟨h0, h1, h2, h3⟩ := hR.out.cells
      obtain ⟨e0, e1, e2, e3⟩ := hV.out.cells
      obtain ⟨w7, hw7, hR7, hm7⟩ := put4 hR.out (.int .i64 2) (.slice A9 L9 c9) (.string ⟨#[]⟩) (.string ⟨#[]⟩)
      have hbz := Aside0.mk (mod_below hm7 hb.out hRle.out)
      have hFz := Aside0.mk (F_mod hNF hm7 (fun q hq e => by have hq : V < q := hq; have e : q = R := e; have := hRV.out; omega))
      obtain ⟨r0, r1, r2, r3⟩ := hR7.cells
      replace hR7 := Aside0.mk hR7
      clear hm7 hNF hacc
      go_wp2_with fail
      refine bodyPost_ret (v := .agg #[.int .i64 2, .slice A9 L9 c9, .string ⟨#[]⟩, .string ⟨#[]⟩]) (by simp [results, Try.results72, go_sem, r0, r1, r2, r3]) rfl ?_
      have hcp := hcap.out
      have hF9 := Kd.F_mono hFz.out (ok' := fun q => w.heap.size ≤ q) (fun q hq => by have hq : V < q := hq; have := hVle.out; show w.heap.size ≤ q; omega)
      rw [hLe.out, hLn.out] at hcp hF9
      exact ⟨⟨A9, c9, by rw [hLn.out], hcp, hF9⟩, hXe ▸ hbz.out⟩
end Go.Proofs.Ytgnmkblaockghaa
