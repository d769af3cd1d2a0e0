/- The reference's Value of the filters that FilterBounds builds. -/
import Derived.Test.YtgnmkblaockghaaQVd
set_option linter.unusedVariables false
set_option linter.unusedSimpArgs false
namespace Go.Proofs.Ytgnmkblaockghaa
open Go.RowKit Go.Shelf Go.Proofs.YtgnmkblaockghaaW.PrintWords Go.Proofs.YtgnmkblaockghaaW.PrintMore Go.Proofs.YtgnmkblaockghaaW.PrintLast
open B (kT kU bv Bv BvF Gives Box box_new put5)

theorem BvF_FK {w : World} {ok : Nat → Prop} {x : B.T} {A : Option Addr} {c : Nat} {B' : Option Addr} {d : Nat} (h : BvF w ok x A c B' d) : Kd.FK kT w ok x [.int .u8 x.f0, .int .u8 x.f1, .bool x.f2, .slice A x.f3.length c, .slice B' x.f4.length d] := fun W' hW => PFilterBounds.k55_mk W' x h.lb (h.cb W' hW) h.li (h.ci W' hW)
theorem small_a : small { data := #[97] } = { data := #[97] } := by decide +kernel
set_option maxHeartbeats 1000000 in
set_option maxRecDepth 8000 in
theorem rtag_calls (s : ByteArray) (cl nu : Int) (w : World) (hs : s.size ≤ 1000000) : Calls Try.prog 49 #[.string s, .int .u8 cl, .int .u8 nu] w (Gives ⟨cl, nu, false, bytesOf s, []⟩ w) := by
  have kb := fun W => print_bytes (P := Try.prog) 9 52 5 Try.underlying9 Try.underlying52 Try.underlying5 s W
  have hB := box_new w (.int .u8 0) (.int .u8 0) (.bool false) (.slice none 0 0) (.slice none 0 0)
  have hb1 := below_alloc (Below.refl w.heap.size w) (.cells #[.int .u8 0, .int .u8 0, .bool false, .slice none 0 0, .slice none 0 0] 55)
  obtain ⟨w1, hw1⟩ : ∃ w1, w.alloc (.cells #[.int .u8 0, .int .u8 0, .bool false, .slice none 0 0, .slice none 0 0] 55) = w1 := ⟨_, rfl⟩
  rw [hw1] at hB hb1
  have hb2 := bytes_below hb1 hb1.size 5 s
  have hb2' := bytes_below (Below.refl w1.heap.size w1) (Nat.le_refl _) 5 s
  have kb1 := kb w1
  have hC := B.bytes_C w1 s (by omega)
  have hcap' : s.size ≤ grownCap w1 s.size 0 5 := grownCap_ge w1 _ _ _
  clear kb
  obtain ⟨w2, hw2⟩ : ∃ w2, Lib.bytesWorld w1 5 s = w2 := ⟨_, rfl⟩
  obtain ⟨cap, hcap⟩ : ∃ cap, grownCap w1 s.size 0 5 = cap := ⟨_, rfl⟩
  rw [hw2] at hb2 hb2' kb1 hC
  rw [hcap] at kb1 hcap'
  have hB2 := hB.below hb2'
  clear hw2 hcap hb2' hb1 hB
  obtain ⟨w3, hw3, hB3, hm3⟩ := put5 hB2 (.int .u8 cl) (.int .u8 nu) (.bool false) (.slice (some ⟨w1.heap.size, 0, none⟩) s.size cap) (.slice none 0 0)
  have hz : w1.heap.size = w.heap.size + 1 := by rw [← hw1]; simp
  have hb3 := B.put5_mod hm3 hb2 (Nat.le_refl _)
  have hC3 := Kd.F_mono (ok' := fun q => w.heap.size ≤ q) (F_mod (B.kU_F (ok := fun q => w1.heap.size ≤ q) hC (fun ad e _ => by injection e with e; subst e; exact Nat.le_refl _)) hm3 (fun q hq h => by subst h; omega)) (fun q hq => by omega)
  obtain ⟨c0, c1, c2, c3, c4⟩ := hB2.cells
  obtain ⟨f0, f1, f2, f3, f4⟩ := hB2.free
  obtain ⟨d0, d1, d2, d3, d4⟩ := hB3.cells
  replace hB2 := Aside0.mk hB2
  clear hz
  go_enter Try.func49, Try.ntmps49
  go_wp2_with fail
  refine bodyPost_ret (v := .agg #[.int .u8 cl, .int .u8 nu, .bool false, .slice (some ⟨w1.heap.size, 0, none⟩) s.size cap, .slice none 0 0]) (by simp [results, Try.results49, go_sem, d0, d1, d2, d3, d4]) rfl ⟨⟨some ⟨w1.heap.size, 0, none⟩, cap, none, 0, by unfold bv; rw [bytesOf_length]; rfl, ⟨by rw [bytesOf_length]; exact hcap', hC3, Nat.le_refl _, Kd.F_nil _ _ _⟩⟩, hb3⟩
/-- Value's beginning, up to the small name. -/
def ValP (x : Ft) (v : B.T) : Prop := ∀ A c W, Fv W x A c → Calls Try.prog 26 #[fv x A c] W (Gives v W)
set_option maxRecDepth 20000 in
set_option maxHeartbeats 4000000 in
theorem rvalue_leaf : ValP hasA leafV := by
  intro A c w hv
  have hX := fbox_new w 25 (.int .i64 6) (.slice A 0 c) (.string { data := #[97] }) (.string { data := #[] })
  have hb1 := below_alloc (Below.refl w.heap.size w) (.cells #[.int .i64 6, .slice A 0 c, .string { data := #[97] }, .string { data := #[] }] 25)
  obtain ⟨w1, hw1⟩ : ∃ w1, w.alloc (.cells #[.int .i64 6, .slice A 0 c, .string { data := #[97] }, .string { data := #[] }] 25) = w1 := ⟨_, rfl⟩
  rw [hw1] at hX hb1
  have hR := box_new w1 (.int .u8 0) (.int .u8 0) (.bool false) (.slice none 0 0) (.slice none 0 0)
  have hb2' := below_alloc (Below.refl w1.heap.size w1) (.cells #[.int .u8 0, .int .u8 0, .bool false, .slice none 0 0, .slice none 0 0] 55)
  obtain ⟨w2, hw2⟩ : ∃ w2, w1.alloc (.cells #[.int .u8 0, .int .u8 0, .bool false, .slice none 0 0, .slice none 0 0] 55) = w2 := ⟨_, rfl⟩
  rw [hw2] at hR hb2'
  have hX2 := hX.below hb2'
  have hb2 := Aside0.mk (below_then hb1 hb1.size hb2')
  have hRle := Aside0.mk (show w.heap.size ≤ w1.heap.size from hb1.size)
  obtain ⟨X, hXe⟩ : ∃ X, w.heap.size = X := ⟨_, rfl⟩
  obtain ⟨R, hRe⟩ : ∃ R, w1.heap.size = R := ⟨_, rfl⟩
  rw [hXe] at hX2
  rw [hRe] at hR hRle
  have hsm := PFilterBounds.rsmall_calls { data := #[97] } (by decide) w2
  rw [small_a] at hsm
  replace hsm := Aside0.mk hsm
  obtain ⟨p0, p1, p2, p3⟩ := hX2.cells
  replace hX2 := Aside0.mk hX2
  replace hR := Aside0.mk hR
  clear hX hb1 hb2' hv
  unfold fv hasA
  dsimp only [List.length_nil]
  go_enter Try.func26, Try.ntmps26
  go_wp2_with fail
  refine hsm.out.mono ?_
  rintro e w3 ⟨rfl, hb3⟩
  have hX3 := hX2.out.below hb3
  have hR3 := hR.out.below hb3
  have hbb3 := below_then hb2.out hb2.out.size hb3
  have hVn := box_new w3 (.int .u8 0) (.int .u8 0) (.bool false) (.slice none 0 0) (.slice none 0 0)
  have hbn := below_alloc (Below.refl w3.heap.size w3) (.cells #[.int .u8 0, .int .u8 0, .bool false, .slice none 0 0, .slice none 0 0] 55)
  obtain ⟨w4, hw4⟩ : ∃ w4, w3.alloc (.cells #[.int .u8 0, .int .u8 0, .bool false, .slice none 0 0, .slice none 0 0] 55) = w4 := ⟨_, rfl⟩
  rw [hw4] at hVn hbn
  obtain ⟨V, hVe⟩ : ∃ V, w3.heap.size = V := ⟨_, rfl⟩
  have hXV := Aside0.mk (show X < w3.heap.size from hX3.lt)
  have hRV := Aside0.mk (show R < w3.heap.size from hR3.lt)
  have hVle := Aside0.mk (show w.heap.size ≤ w3.heap.size from hbb3.size)
  rw [hVe] at hVn hXV hRV hVle
  have hX4 := hX3.below hbn
  have hR4 := hR3.below hbn
  have hbb4 := below_then hbb3 hbb3.size hbn
  obtain ⟨v0, v1, v2, v3, v4⟩ := hVn.cells
  obtain ⟨f0, f1, f2, f3, f4⟩ := hVn.free
  obtain ⟨w5, hw5, hV5, hm5⟩ := put5 hVn (.int .u8 2) (.int .u8 5) (.bool true) (.slice none 0 0) (.slice none 0 0)
  have hX5 := hX4.mod hm5 (show ¬ X = V by have := hXV.out; omega)
  have hR5 := Aside0.mk (hR4.mod hm5 (show ¬ R = V by have := hRV.out; omega))
  have hbb5 := Aside0.mk (mod_below hm5 hbb4 hVle.out)
  have hX5A := Aside0.mk hX5
  obtain ⟨q0, q1, q2, q3⟩ := hX5.cells
  obtain ⟨k0, k1, k2, k3⟩ := hX3.cells
  clear hX3 hR3 hbb3 hVn hbn hX4 hR4 hbb4 hm5 p0 p1 p2 p3 hX5 hb3 hV5
  go_wp2_with fail
  clear k0 k1 k2 k3 v0 v1 v2 v3 v4 f0 f1 f2 f3 f4
  go_loopw [5] (fun s5 wr => wr = w5 ∧ s5 = .int .i64 0) (fun _ _ => 0)
  case atStart => exact ⟨rfl, rfl⟩
  case round =>
    obtain ⟨rfl, rfl⟩ := hrel
    have ht := Aside0.mk (rtag_calls { data := #[97] } 2 7 wr (by decide))
    go_wp2_with fail
    refine ht.out.mono ?_
    rintro e w6 ⟨⟨A6, c6, B6, d6, rfl, hv6⟩, hb6⟩
    have hR6 := hR5.out.below hb6
    have hbb6 := below_then hbb5.out hbb5.out.size hb6
    obtain ⟨g0, g1, g2, g3, g4⟩ := hR6.free
    obtain ⟨h0, h1, h2, h3, h4⟩ := hR6.cells
    obtain ⟨w7, hw7, hR7, hm7⟩ := put5 hR6 (.int .u8 2) (.int .u8 7) (.bool false) (.slice A6 1 c6) (.slice B6 0 d6)
    have hbz := Aside0.mk (mod_below hm7 hbb6 hRle.out)
    have hvz := Aside0.mk (hv6.mod hm7 (fun q hq e => by have hq : wr.heap.size ≤ q := hq; have e : q = R := e; have := hR5.out.lt; omega))
    have hwr := Aside0.mk hbb5.out.size
    obtain ⟨r0, r1, r2, r3, r4⟩ := hR7.cells
    replace hR7 := Aside0.mk hR7
    clear hb6 hR6 hbb6 hm7 hv6
    unfold bv
    dsimp only
    rw [show (bytesOf { data := #[97] }).length = 1 from rfl]
    dsimp only [List.length_nil]
    go_wp2_with fail
    refine bodyPost_ret (v := .agg #[.int .u8 2, .int .u8 7, .bool false, .slice A6 1 c6, .slice B6 0 d6]) (by simp [results, Try.results26, go_sem, r0, r1, r2, r3, r4]) rfl ?_
    exact ⟨⟨A6, c6, B6, d6, rfl, hvz.out.mono (fun q hq => Nat.le_trans hwr.out hq)⟩, hbz.out⟩
theorem info55 : (Try.prog.info? 55).map (fun i => (i.zero, i.size, i.bytes)) = some (some (.agg #[.int .u8 0, .int .u8 0, .bool false, .slice none 0 0, .slice none 0 0]), 5, 56) := by kernel_rfl
theorem box_set4 {w : World} {b : Nat} {v0 v1 v2 v3 v4 : Value} (h : Box w b v0 v1 v2 v3 v4) (v : Value) : Box (w.setCell ⟨b, 4, none⟩ v) b v0 v1 v2 v3 v := by
  have h4 := blk_set h 4 v
  simpa [Box] using h4
set_option maxRecDepth 20000 in
set_option maxHeartbeats 8000000 in
theorem rvalue_or (n : Nat) (hn : n ≤ 1000) : ValP (orN n) (valN n) := by
  intro A c w hv
  have hC := Aside0.mk (show kF.C w A (List.replicate n hasA).length (List.replicate n hasA) from hv.co)
  have hX := fbox_new w 25 (.int .i64 2) (.slice A n c) (.string { data := #[] }) (.string { data := #[] })
  have hb1 := below_alloc (Below.refl w.heap.size w) (.cells #[.int .i64 2, .slice A n c, .string { data := #[] }, .string { data := #[] }] 25)
  obtain ⟨w1, hw1⟩ : ∃ w1, w.alloc (.cells #[.int .i64 2, .slice A n c, .string { data := #[] }, .string { data := #[] }] 25) = w1 := ⟨_, rfl⟩
  rw [hw1] at hX hb1
  have hR := box_new w1 (.int .u8 0) (.int .u8 0) (.bool false) (.slice none 0 0) (.slice none 0 0)
  have hb2' := below_alloc (Below.refl w1.heap.size w1) (.cells #[.int .u8 0, .int .u8 0, .bool false, .slice none 0 0, .slice none 0 0] 55)
  obtain ⟨w2, hw2⟩ : ∃ w2, w1.alloc (.cells #[.int .u8 0, .int .u8 0, .bool false, .slice none 0 0, .slice none 0 0] 55) = w2 := ⟨_, rfl⟩
  rw [hw2] at hR hb2'
  have hX2 := hX.below hb2'
  have hb2 := Aside0.mk (below_then hb1 hb1.size hb2')
  have hRle := Aside0.mk (show w.heap.size ≤ w1.heap.size from hb1.size)
  obtain ⟨X, hXe⟩ : ∃ X, w.heap.size = X := ⟨_, rfl⟩
  obtain ⟨R, hRe⟩ : ∃ R, w1.heap.size = R := ⟨_, rfl⟩
  rw [hXe] at hX2
  rw [hRe] at hR hRle
  have hsm := Aside0.mk (PFilterBounds.rsmall_calls { data := #[] } (by decide) w2)
  obtain ⟨p0, p1, p2, p3⟩ := hX2.cells
  replace hX2 := Aside0.mk hX2
  replace hR := Aside0.mk hR
  clear hX hb1 hb2' hv
  unfold fv orN
  dsimp only
  rw [List.length_replicate]
  go_enter Try.func26, Try.ntmps26
  go_wp2_with fail
  refine hsm.out.mono ?_
  rintro e w3 ⟨rfl, hb3⟩
  have hX3 := hX2.out.below hb3
  have hR3 := hR.out.below hb3
  have hbb3 := below_then hb2.out hb2.out.size hb3
  have hVn := box_new w3 (.int .u8 0) (.int .u8 0) (.bool false) (.slice none 0 0) (.slice none 0 0)
  have hbn := below_alloc (Below.refl w3.heap.size w3) (.cells #[.int .u8 0, .int .u8 0, .bool false, .slice none 0 0, .slice none 0 0] 55)
  obtain ⟨w4, hw4⟩ : ∃ w4, w3.alloc (.cells #[.int .u8 0, .int .u8 0, .bool false, .slice none 0 0, .slice none 0 0] 55) = w4 := ⟨_, rfl⟩
  rw [hw4] at hVn hbn
  obtain ⟨V, hVe⟩ : ∃ V, w3.heap.size = V := ⟨_, rfl⟩
  have hXV := Aside0.mk (show X < w3.heap.size from hX3.lt)
  have hRV := Aside0.mk (show R < w3.heap.size from hR3.lt)
  have hVle := Aside0.mk (show w.heap.size ≤ w3.heap.size from hbb3.size)
  rw [hVe] at hVn hXV hRV hVle
  have hX4 := hX3.below hbn
  have hR4 := hR3.below hbn
  have hbb4 := below_then hbb3 hbb3.size hbn
  obtain ⟨v0, v1, v2, v3, v4⟩ := hVn.cells
  obtain ⟨f0, f1, f2, f3, f4⟩ := hVn.free
  obtain ⟨w5, hw5, hV5, hm5⟩ := put5 hVn (.int .u8 2) (.int .u8 1) (.bool true) (.slice none 0 0) (.slice none 0 0)
  have hX5 := Aside0.mk (hX4.mod hm5 (show ¬ X = V by have := hXV.out; omega))
  have hR5 := Aside0.mk (hR4.mod hm5 (show ¬ R = V by have := hRV.out; omega))
  have hbb5 := Aside0.mk (mod_below hm5 hbb4 hVle.out)
  replace hV5 := Aside0.mk hV5
  obtain ⟨k0, k1, k2, k3⟩ := hX3.cells
  clear hX3 hR3 hbb3 hVn hbn hX4 hR4 hbb4 hm5 p0 p1 p2 p3 hb3
  go_wp2_with fail
  clear k0 k1 k2 k3 v0 v1 v2 v3 v4 f0 f1 f2 f3 f4
  go_loopw [5] (fun s5 wr => ∃ (i : Nat) (iv : Value), i ≤ n ∧ s5 = .int .i64 (i : Int) ∧ Aside0 (FBox wr X 25 (.int .i64 2) (.slice A n c) (.string { data := #[] }) (.string { data := #[] })) ∧ Aside0 (Box wr R (.int .u8 0) (.int .u8 0) (.bool false) (.slice none 0 0) (.slice none 0 0)) ∧ Aside0 (Box wr V (.int .u8 2) (.int .u8 1) (.bool true) (.slice none 0 0) iv) ∧ Aside0 (Kd.N kT 55 wr 0 (fun q => V < q) iv (List.replicate i leafV)) ∧ Aside0 (Below w.heap.size w wr)) (fun s5 _ => n - (intOf s5).toNat)
  case atStart => exact ⟨0, _, Nat.zero_le _, rfl, hX5, hR5, hV5, ⟨Kd.N_nil _ _ _ _ _⟩, hbb5⟩
  case round =>
    clear hX5 hR5 hV5 hbb5
    obtain ⟨i, iv, hi, rfl, hX, hR, hV, hN, hb⟩ := hrel
    obtain ⟨A9, c9, e⟩ := Kd.N_slice hN.out
    subst e
    obtain ⟨acc, hacc⟩ : ∃ acc, List.replicate i leafV = acc := ⟨_, rfl⟩
    obtain ⟨L9, hLe⟩ : ∃ L9, (List.replicate i leafV).length = L9 := ⟨_, rfl⟩
    obtain ⟨x0, x1, x2, x3⟩ := hX.out.cells
    by_cases hlt : i < n
    · have hil : i < (List.replicate n hasA).length := by rw [List.length_replicate]; exact hlt
      obtain ⟨ad, A6, c6, e, p0, p1, p2, p3, hv6⟩ := kF_at (Kd.C_below hC.out hb.out) i hil
      subst e
      rw [List.getElem_replicate] at p0 p1 p2 p3 hv6
      have hcl := rvalue_leaf A6 c6 wr.drew (hv6.below (below_drew (Below.refl _ _)))
      have hLN := Aside0.mk (show L9 = i by rw [← hLe, List.length_replicate])
      rw [hLe] at hV hN
      rw [hacc] at hN hLe
      replace hacc := Aside0.mk hacc
      replace hLe := Aside0.mk hLe
      unfold fv hasA at hcl
      unfold hasA at p0 p1 p2 p3
      dsimp only [List.length_nil] at hcl p0 p1 p2 p3
      have hcl : Calls Try.prog 26 #[.agg #[.int .i64 6, .slice A6 0 c6, .string { data := #[97] }, .string { data := #[] }]] wr.drew (fun e w' => (∃ A c B d, e = .returned (.agg #[.int .u8 2, .int .u8 7, .bool false, .slice A 1 c, .slice B 0 d]) ∧ BvF w' (fun q => wr.drew.heap.size ≤ q) leafV A c B d) ∧ Below wr.drew.heap.size wr.drew w') := hcl
      replace hcl := Aside0.mk hcl
      have hNl := Aside0.mk (Kd.N_lt hN.out)
      have hVl := Aside0.mk (show V < wr.heap.size from hV.out.lt)
      obtain ⟨_, _, _, _, a4⟩ := hV.out.cells
      have i0 : (0 : Int) ≤ (i : Int) := by omega
      have i1 : (i : Int) < (n : Int) := by omega
      have hni := Aside0.mk (show i < n ∧ n ≤ 1000 from ⟨hlt, hn⟩)
      clear hil hv6
      go_wp2_with fail
      refine start_ (n := 12) (S := fun w' => w'.cell? ⟨V, 4, none⟩ = some (.slice A9 L9 c9) ∧ w'.cell? ⟨X, 1, none⟩ = some (.slice (some ad) n c) ∧ w'.cell? (ad.add (i * 4)) = some (.int .i64 6) ∧ w'.cell? ⟨(ad.add (i * 4)).block, (ad.add (i * 4)).off + 1, none⟩ = some (.slice A6 0 c6) ∧ w'.cell? ⟨(ad.add (i * 4)).block, (ad.add (i * 4)).off + 2, none⟩ = some (.string { data := #[97] }) ∧ w'.cell? ⟨(ad.add (i * 4)).block, (ad.add (i * 4)).off + 3, none⟩ = some (.string { data := #[] })) (ds := [9, 11]) (B_ 12 0) (by kernel_rfl) rfl rfl ⟨a4, x1, p0, p1, p2, p3⟩ (fun hHeld => ?_)
      refine pn_ 0 21 (B_ 12 1) rfl rfl ?_
      refine pn_ 2 23 (B_ 12 5) rfl rfl ?_
      refine pn_ 4 25 (B_ 12 21) rfl rfl ?_
      refine tk_ 1 22 (B_ 12 23) rfl rfl hHeld (by rintro w' ⟨s0, s1, s2, s3, s4, s5⟩; go_simp; with_reducible rfl) ?_
      refine tk_ 3 24 (B_ 12 31) rfl rfl hHeld (by rintro w' ⟨s0, s1, s2, s3, s4, s5⟩; go_simp; with_reducible rfl) ?_
      refine pn_ 5 26 (B_ 12 63) rfl rfl ?_
      refine tk_ 6 27 (B_ 12 127) rfl rfl hHeld (by rintro w' ⟨s0, s1, s2, s3, s4, s5⟩; go_simp; with_reducible rfl) ?_
      refine one_ (i := 7) (N := some 28) (B_ 12 255) rfl rfl (by kernel_rfl) (by decide) (fun K hK => ?_)
      refine goes_ Try.func26 (by kernel_rfl) rfl #[.agg #[.int .i64 6, .slice A6 0 c6, .string { data := #[97] }, .string { data := #[] }]] (by rfl) rfl rfl (by simp only [List.map_toArray, List.map_cons, List.map_nil]; rfl) ?_
      with_reducible refine (hcl.out).mono ?_
      rintro e w9 ⟨⟨A7, c7, B7, d7, rfl, hv9⟩, hb9⟩
      refine ⟨_, rfl, ?_⟩
      have a4 := pw_cell_below hb9 a4
      have x1 := pw_cell_below hb9 x1
      have p0 := pw_cell_below hb9 p0
      have p1 := pw_cell_below hb9 p1
      have p2 := pw_cell_below hb9 p2
      have p3 := pw_cell_below hb9 p3
      have hX9 := Aside0.mk ((show FBox wr.drew X 25 _ _ _ _ from hX.out).below hb9)
      have hR9 := Aside0.mk ((show Box wr.drew R _ _ _ _ _ from hR.out).below hb9)
      have hV9 := Aside0.mk ((show Box wr.drew V _ _ _ _ _ from hV.out).below hb9)
      have hN9 := Aside0.mk (Kd.N_below (Kd.N_drew hN.out) hb9)
      have hbb9 := Aside0.mk (below_then (below_drew hb.out) hb.out.size hb9)
      have hz9 := Aside0.mk (show wr.heap.size ≤ w9.heap.size from hb9.size)
      replace hv9 := Aside0.mk hv9
      clear hb9
      refine hK.out _ _ ⟨a4, x1, p0, p1, p2, p3⟩ (fun hHeld => ?_)
      clear hK K
      refine nm_ 28 ?_
      refine one_ (i := 8) (N := some 29) (B_ 12 511) rfl rfl (by kernel_rfl) (by decide) (fun K hK => ?_)
      refine value_ (w1 := ?_) (v := ?_) (by rfl) rfl ?_ ?_
      rotate_left 2
      · go_simp
        constructor
        · rfl
        · rfl
      refine hK.out _ _ ⟨pw_cell_below (below_alloc (Below.refl _ w9) _) a4, pw_cell_below (below_alloc (Below.refl _ w9) _) x1, pw_cell_below (below_alloc (Below.refl _ w9) _) p0, pw_cell_below (below_alloc (Below.refl _ w9) _) p1, pw_cell_below (below_alloc (Below.refl _ w9) _) p2, pw_cell_below (below_alloc (Below.refl _ w9) _) p3⟩ (fun hHeld => ?_)
      clear hK K
      refine nm_ 29 ?_
      refine last_ (i := 9) (N := some 30) (B_ 12 1023) rfl rfl (by kernel_rfl) (by decide) (fun K hK => ?_)
      refine Kd.N_append_step kT (w0 := w9) 0 (by rfl) (.tmp 22) (.tmp 29) 53 55 (.agg #[.int .u8 0, .int .u8 0, .bool false, .slice none 0 0, .slice none 0 0]) 56 rfl Try.underlying53 info55 rfl (by decide) (by decide) (.slice A9 L9 c9) acc leafV [.int .u8 2, .int .u8 7, .bool false, .slice A7 1 c7, .slice B7 0 d7] (fun q => V < q) (fun q => wr.drew.heap.size ≤ q) rfl rfl (BvF_FK hv9.out) (fun j hj => ⟨by have := hVl.out; have : wr.heap.size ≤ j := hj; omega, fun e => by have := hNl.out j e.symm; have : wr.heap.size ≤ j := hj; omega⟩) (fun j hj => by have := hVl.out; have := hz9.out; omega) hN9.out (Below.refl _ _) (Nat.zero_le _) (by have := hLe.out; have := hLN.out; have := hni.out; omega) ?_
      intro v1 w10 hN10 _ hg _
      have hm10 := Aside0.mk (Mod.of_grown (S := fun q => V < q) hg (fun j hj => .inl (hN9.out.1 j hj)))
      have hV10 := Aside0.mk (hV9.out.mod hm10.out (Nat.lt_irrefl V))
      have hX10 := Aside0.mk (hX9.out.mod hm10.out (show ¬ V < X by have := hXV.out; omega))
      have hR10 := Aside0.mk (hR9.out.mod hm10.out (show ¬ V < R by have := hRV.out; omega))
      obtain ⟨A5, c5, ev⟩ := Kd.N_slice hN10
      subst ev
      obtain ⟨_, _, _, _, q10⟩ := hV10.out.cells
      obtain ⟨_, _, _, _, q11⟩ := hV10.out.free
      obtain ⟨_, x1, _, _⟩ := hX10.out.cells
      obtain ⟨N9, hN9e⟩ : ∃ N9, (acc ++ [leafV]).length = N9 := ⟨_, rfl⟩
      rw [hN9e] at hN10
      rw [hN9e]
      replace hN9e := Aside0.mk hN9e
      replace hN10 := Aside0.mk hN10
      clear hg
      refine hK.out _ _ ?_
      clear hK K
      refine nm_ 30 ?_
      refine pn_ 10 31 (B_ 12 2047) rfl rfl ?_
      refine last_ (i := 11) (N := none) (B_ 12 4095) rfl rfl (by kernel_rfl) (by decide) (fun K hK => ?_)
      refine skip_ (w1 := ?_) (by rfl) rfl ?_ ?_
      rotate_left
      · go_simp
        rfl
      refine hK.out _ _ ?_
      clear hK K
      refine done_ (by kernel_rfl) ?_
      have hV11 := Aside0.mk (box_set4 hV10.out (.slice A5 N9 c5))
      have hm11 := set_mod w10 V 4 (.slice A5 N9 c5)
      obtain ⟨w11, hw11⟩ : ∃ wn, w10.setCell ⟨V, 4, none⟩ (.slice A5 N9 c5) = wn := ⟨_, rfl⟩
      rw [hw11] at hV11 hm11 ⊢
      have hX11 := Aside0.mk (hX10.out.mod hm11 (show ¬ X = V by have := hXV.out; omega))
      have hR11 := Aside0.mk (hR10.out.mod hm11 (show ¬ R = V by have := hRV.out; omega))
      have hN11 := Aside0.mk (show Kd.N kT 55 w11 0 (fun q => V < q) (.slice A5 N9 c5) (List.replicate (i + 1) leafV) from by
        rw [List.replicate_succ', hacc.out]
        exact Kd.N_step hN10.out (fun j hj hlt => hm11.block j hlt (fun e => by have e : j = V := e; have hj : V < j := hj; omega)))
      have hb11 := Aside0.mk (Mod.below (S := fun q => V ≤ q) (((Mod.of_below (S := fun q => V ≤ q) hbb9.out).trans hm10.out (fun q hq => .inl (Nat.le_of_lt hq))).trans hm11 (fun q hq => .inl (by have hz : q = V := hq; show V ≤ q; omega))) (fun q hq => Nat.le_trans hVle.out hq) (Nat.le_refl _))
      clear hm11 hw11 hN10 hR10 hX10 hV10 hN9 hV9 hR9 hX9 hbb9 hcl a4 p0 p1 p2 p3 q10 q11 hX hR hV hN hb hv9
      go_wp2_with fail
      go_roundw
      case rel => exact ⟨i + 1, _, by omega, by go_num, hX11, hR11, hV11, hN11, hb11⟩
      case measure => simp [intOf]; omega
    · obtain rfl : i = n := by omega
      have hcap := Aside0.mk (Kd.N_reads' hN.out).2.1
      have hNF := Kd.N_F hN.out
      rw [hLe] at hV
      replace hLe := Aside0.mk hLe
      obtain ⟨g0, g1, g2, g3, g4⟩ := hR.out.free
      obtain ⟨h0, h1, h2, h3, h4⟩ := hR.out.cells
      obtain ⟨e0, e1, e2, e3, e4⟩ := hV.out.cells
      obtain ⟨w7, hw7, hR7, hm7⟩ := put5 hR.out (.int .u8 2) (.int .u8 1) (.bool true) (.slice none 0 0) (.slice A9 L9 c9)
      have hbz := Aside0.mk (mod_below hm7 hb.out hRle.out)
      have hFz := Aside0.mk (F_mod hNF hm7 (fun q hq e => by have hq : V < q := hq; have e : q = R := e; have := hRV.out; omega))
      obtain ⟨r0, r1, r2, r3, r4⟩ := hR7.cells
      replace hR7 := Aside0.mk hR7
      clear hm7 hNF hacc
      go_wp2_with fail
      refine bodyPost_ret (v := .agg #[.int .u8 2, .int .u8 1, .bool true, .slice none 0 0, .slice A9 L9 c9]) (by simp [results, Try.results26, go_sem, r0, r1, r2, r3, r4]) rfl ?_
      exact ⟨⟨none, 0, A9, c9, by unfold bv valN; dsimp only; rw [hLe.out]; rfl, ⟨Nat.le_refl _, Kd.F_nil _ _ _, hcap.out, Kd.F_mono hFz.out (fun q hq => by have hq : V < q := hq; have := hVle.out; show w.heap.size ≤ q; omega)⟩⟩, hbz.out⟩
end Go.Proofs.Ytgnmkblaockghaa
