/- The walk of BerBounds. -/
import Derived.Test.YtlmelbnmfhpacaaBw
set_option linter.unusedVariables false
set_option linter.unusedSimpArgs false
namespace Go.Proofs.Ytlmelbnmfhpacaa
open Go.RowKit Go.Shelf Go.Proofs.YtlmelbnmfhpacaaW.PrintWords Go.Proofs.YtlmelbnmfhpacaaW.PrintMore Go.Proofs.YtlmelbnmfhpacaaW.PrintLast

theorem code_calls (l : List Int) (A : Option Addr) (L c : Nat) (w : World) (hL : l.length = L) (hC : kU.C w A L l) (hc : L ≤ c) (hl : L ≤ 1000000) (hy : ∀ x ∈ l, 0 ≤ x ∧ x < 256) :
    Calls Try.prog 16 #[.slice A L c] w fun e w' => (∃ (y0 y1 : Int) (y2 : Bool) (A8 : Option Addr) (n8 c8 : Nat) (B8 : Option Addr) (k8 d8 : Nat), e = .returned (.tuple #[.agg #[.int .u8 y0, .int .u8 y1, .bool y2, .slice A8 n8 c8, .slice B8 k8 d8], .int .i64 (codeOf (decF l))])) ∧ Below w.heap.size w w' := by
  subst hL
  exact (decode_calls A c l w hC hc hl hy).mono (fun e w' h => dec_code h)
theorem rbytes_C (x : T) (A : Option Addr) (c : Nat) (B : Option Addr) (d : Nat) (L : Nat) (l : List Int) (w : World) (hv : Bv w x A c B d) (ha : argT x = true) (hy : byteT x) (hl : layT x = l) (hL : l.length = L) (hz : L ≤ 1000000) :
    Calls Try.prog 17 #[.agg #[.int .u8 x.f0, .int .u8 x.f1, .bool x.f2, .slice A x.f3.length c, .slice B x.f4.length d]] w fun e w' => ∃ A' c', e = .returned (.slice A' L c') ∧ L ≤ c' ∧ kU.C w' A' L l ∧ Below w.heap.size w w' := by
  subst hl
  subst hL
  refine (show Calls Try.prog 17 #[.agg #[.int .u8 x.f0, .int .u8 x.f1, .bool x.f2, .slice A x.f3.length c, .slice B x.f4.length d]] w (Laid (layT x) w) from rbytes_calls x A c B d w hv ha hy hz).mono ?_
  rintro e w' ⟨A', c', rfl, hR, hb⟩
  exact ⟨A', c', rfl, (Kd.R_reads' hR).2.1, (Kd.R_reads' hR).2.2, hb⟩
theorem rsize_calls (x : T) (A : Option Addr) (c : Nat) (B : Option Addr) (d : Nat) (w : World) (hv : Bv w x A c B d) (hz : sizeT x ≤ 65536) :
    Calls Try.prog 19 #[.agg #[.int .u8 x.f0, .int .u8 x.f1, .bool x.f2, .slice A x.f3.length c, .slice B x.f4.length d]] w fun e w' => e = .returned (.int .i64 ((sizeT x : Nat) : Int)) ∧ Below w.heap.size w w' := by
  obtain ⟨K, r, e, h1, h2⟩ := rsize_ours x (by omega)
  have : r = sizeT x := by omega
  subst this
  refine (PBerEncodes.cardcaseref05_Size.calls K x.f0 x.f1 x.f2 A c x.f3 B d x.f4 _ w hv.cb hv.lb hv.ci hv.li e).mono ?_
  rintro e w' ⟨rfl, hd⟩
  exact ⟨rfl, hd⟩
/-- A box that was made and filled. -/
theorem boxed5 (w : World) (v0 v1 v2 v3 v4 : Value) : ∃ w1 w2, w.alloc (.cells #[.int .u8 0, .int .u8 0, .bool false, .slice none 0 0, .slice none 0 0] 26) = w1 ∧
    (((((w1.setCell ⟨w.heap.size, 0, none⟩ v0).setCell ⟨w.heap.size, 1, none⟩ v1).setCell ⟨w.heap.size, 2, none⟩ v2).setCell ⟨w.heap.size, 3, none⟩ v3).setCell ⟨w.heap.size, 4, none⟩ v4) = w2 ∧
    Box w1 w.heap.size (.int .u8 0) (.int .u8 0) (.bool false) (.slice none 0 0) (.slice none 0 0) ∧ Below w.heap.size w w2 := by
  obtain ⟨w2, h1, h2, h3⟩ := put5 (box_new w (.int .u8 0) (.int .u8 0) (.bool false) (.slice none 0 0) (.slice none 0 0)) v0 v1 v2 v3 v4
  exact ⟨_, w2, rfl, h1, box_new w _ _ _ _ _, put5_mod h3 (below_alloc (Below.refl _ _) _) (Nat.le_refl _)⟩
theorem kX_x : bytesOf { data := #[120] } = [120] := by decide +kernel
set_option maxHeartbeats 40000000 in
set_option maxRecDepth 100000 in
theorem bounds_walk (deep long : Int) (w : World) (hd : -9223372036854775808 ≤ deep ∧ deep ≤ 9223372036854775807) (hl : -9223372036854775808 ≤ long ∧ long ≤ 9223372036854775807) :
    Calls Try.prog 3 #[.int .i64 deep, .int .i64 long] w fun e w' => e = .returned (.bool true) ∧ Below w.heap.size w w' := by
  by_cases h0 : deep < 1
  · clear hd hl
    go_enter Try.func3, Try.ntmps3
    go_wp2_with fail
    refine (known_calls _).mono ?_
    rintro e w1 ⟨rfl, hb1⟩
    have hb1 := Aside0.mk hb1
    go_wp2_with fail
    go_ret
    exact ⟨rfl, hb1.out⟩
  · have i0 : decide (deep < 1) = false := by simp; omega
    by_cases h1 : 40 < deep
    · have i1 : decide (40 < deep) = true := by simp; omega
      clear h0 hd hl
      go_enter Try.func3, Try.ntmps3
      go_wp2_with fail
      refine (known_calls _).mono ?_
      rintro e w1 ⟨rfl, hb1⟩
      have hb1 := Aside0.mk hb1
      go_wp2_with fail
      go_ret
      exact ⟨rfl, hb1.out⟩
    · have i1 : decide (40 < deep) = false := by simp; omega
      by_cases h2 : long < 65500
      · have i2 : decide (long < 65500) = true := by simp; omega
        clear h0 h1 hd hl
        go_enter Try.func3, Try.ntmps3
        go_wp2_with fail
        refine (known_calls _).mono ?_
        rintro e w1 ⟨rfl, hb1⟩
        have hb1 := Aside0.mk hb1
        go_wp2_with fail
        go_ret
        exact ⟨rfl, hb1.out⟩
      · have i2 : decide (long < 65500) = false := by simp; omega
        by_cases h3 : 65560 < long
        · have i3 : decide (65560 < long) = true := by simp; omega
          clear h0 h1 h2 hd hl
          go_enter Try.func3, Try.ntmps3
          go_wp2_with fail
          refine (known_calls _).mono ?_
          rintro e w1 ⟨rfl, hb1⟩
          have hb1 := Aside0.mk hb1
          go_wp2_with fail
          go_ret
          exact ⟨rfl, hb1.out⟩
        · have i3 : decide (65560 < long) = false := by simp; omega
          obtain ⟨D, rfl⟩ := Int.eq_ofNat_of_zero_le (show 0 ≤ deep by omega)
          obtain ⟨m, rfl⟩ := Int.eq_ofNat_of_zero_le (show 0 ≤ long by omega)
          have hD := Aside0.mk (show 1 ≤ D ∧ D ≤ 40 by omega)
          have hm9 := Aside0.mk (show 65500 ≤ m ∧ m ≤ 65560 by omega)
          have m0 : (0 : Int) ≤ (m : Int) := by omega
          clear h0 h1 h2 h3 hd hl
          have hbw0 := Aside0.mk (Below.refl w.heap.size w)
          go_enter Try.func3, Try.ntmps3
          go_wp2_with fail
          refine (text_calls _ w (by decide +kernel)).mono ?_
          rintro e w1 ⟨⟨A1, c1, B1, d1, rfl, hv1⟩, hb1⟩
          rw [kX_x] at hv1 ⊢
          unfold bv
          dsimp only
          obtain ⟨w2, w3, hw2, hw3, hX2, hX3, hb13⟩ := boxed w1 (nest 0) A1 c1 B1 d1
          dsimp only [nest] at hw3 hX3
          simp only [List.length_cons, List.length_nil, Nat.zero_add] at hw3 hX3 ⊢
          obtain ⟨X, hX⟩ : ∃ X, w1.heap.size = X := ⟨_, rfl⟩
          rw [hX] at hX2 hX3 hw3
          obtain ⟨a0, a1, a2, a3, a4⟩ := hX2.cells
          obtain ⟨f0, f1, f2, f3, f4⟩ := hX2.free
          have hb3 := Aside0.mk (below_then hb1 hb1.size hb13)
          have hv3 := Aside0.mk (show BvF w3 (fun q => q ≠ X) (nest 0) A1 c1 B1 d1 from (hv1.within.below hb13).mono (fun q hq => by have := hq.2; omega))
          have hX3 := Aside0.mk (show Box w3 X (.int .u8 (nest 0).f0) (.int .u8 (nest 0).f1) (.bool (nest 0).f2) (.slice A1 (nest 0).f3.length c1) (.slice B1 (nest 0).f4.length d1) from hX3)
          have hwX : Aside0 (w.heap.size ≤ X) := ⟨by have := hb1.size; omega⟩
          clear hX2 hb13 hb1 hv1
          go_wp2_with fail
          replace hw2 := Aside0.mk hw2
          replace hw3 := Aside0.mk hw3
          replace hX := Aside0.mk hX
          clear a0 a1 a2 a3 a4 f0 f1 f2 f3 f4
          go_loopw [6] (fun s6 wr => ∃ (i k : Nat) (A : Option Addr) (c : Nat) (B : Option Addr) (d : Nat), Aside0 (i = k + 1) ∧ Aside0 (i ≤ D) ∧ s6 = .int .i64 (i : Int) ∧ Aside0 (Box wr X (.int .u8 (nest k).f0) (.int .u8 (nest k).f1) (.bool (nest k).f2) (.slice A (nest k).f3.length c) (.slice B (nest k).f4.length d)) ∧ Aside0 (BvF wr (fun q => q ≠ X) (nest k) A c B d) ∧ Aside0 (Below w.heap.size w wr)) (fun s6 _ => D - (intOf s6).toNat)
          case atStart => exact ⟨1, 0, A1, c1, B1, d1, ⟨rfl⟩, ⟨by have := hD.out; omega⟩, rfl, hX3, hv3, hb3⟩
          case round =>
            clear hX3 hv3 hb3
            obtain ⟨i, k, A, c, B, d, hik, hk, rfl, hBX, hv, hb⟩ := hrel
            obtain ⟨x, hx⟩ : ∃ x, nest k = x := ⟨_, rfl⟩
            have hxw := Aside0.mk (hx ▸ nest_w k)
            have hnx := Aside0.mk (show nest (k + 1) = ⟨0, 16, true, [], [x]⟩ from by rw [← hx]; rfl)
            rw [hx] at hBX hv
            obtain ⟨p0, p1, p2, p3, p4⟩ := hBX.out.cells
            by_cases hlt : i < D
            · have i5 : (i : Int) < (D : Int) := by omega
              have hG := Go.heap_alloc_new wr (.cells #[.int .u8 x.f0, .int .u8 x.f1, .bool x.f2, .slice A x.f3.length c, .slice B x.f4.length d] 26)
              have hb4 := below_alloc (Below.refl wr.heap.size wr) (.cells #[.int .u8 x.f0, .int .u8 x.f1, .bool x.f2, .slice A x.f3.length c, .slice B x.f4.length d] 26)
              obtain ⟨w4, hw4⟩ : ∃ w4, wr.alloc (.cells #[.int .u8 x.f0, .int .u8 x.f1, .bool x.f2, .slice A x.f3.length c, .slice B x.f4.length d] 26) = w4 := ⟨_, rfl⟩
              rw [hw4] at hG hb4
              have hli := Aside0.mk (show Calls Try.prog 12 #[.slice (some ⟨wr.heap.size, 0, none⟩) 1 1] w4 (Gives ⟨0, 16, true, [], [x]⟩ w4) from list_calls _ 1 [x] w4 (one_T hG (hv.out.now.below hb4)) (Nat.le_refl _) (by simp only [wL, hxw.out]; have := hD.out; have := hk.out; have := hik.out; omega))
              have hBX4 := Aside0.mk (hBX.out.below hb4)
              have hb4' := Aside0.mk (below_then hb.out hb.out.size hb4)
              have hXl := Aside0.mk hBX4.out.lt
              clear hG hb4 hx
              have hk40 : (i : Int) ≤ 40 := by have := hD.out; omega
              have hk0 : (0 : Int) ≤ (i : Int) := by omega
              have hik2 : Aside0 (i + 1 = k + 1 + 1) := ⟨by have := hik.out; omega⟩
              go_wp2_with fail
              refine hli.out.mono ?_
              rintro e w5 ⟨⟨A5, c5, B5, d5, rfl, hv5⟩, hb5⟩
              unfold bv
              dsimp only
              simp only [List.length_cons, List.length_nil, Nat.zero_add]
              have hX5 := hBX4.out.below hb5
              obtain ⟨g0, g1, g2, g3, g4⟩ := hX5.cells
              obtain ⟨f0, f1, f2, f3, f4⟩ := hX5.free
              obtain ⟨w6, hw6, hX6, hm6⟩ := put5 hX5 (.int .u8 0) (.int .u8 16) (.bool true) (.slice A5 0 c5) (.slice B5 1 d5)
              have hv6 := Aside0.mk (show BvF w6 (fun q => q ≠ X) (nest (k + 1)) A5 c5 B5 d5 from by
                rw [hnx.out]
                exact (hv5.mod hm6 (fun q hq e => by have := hXl.out; have : w4.heap.size ≤ q := hq; omega)).mono (fun q hq e => by have := hXl.out; have : w4.heap.size ≤ q := hq; omega))
              have hX6' := Aside0.mk (show Box w6 X (.int .u8 (nest (k + 1)).f0) (.int .u8 (nest (k + 1)).f1) (.bool (nest (k + 1)).f2) (.slice A5 (nest (k + 1)).f3.length c5) (.slice B5 (nest (k + 1)).f4.length d5) from by rw [hnx.out]; exact hX6)
              have hb6 := Aside0.mk (show Below w.heap.size w w6 from put5_mod hm6 (below_then hb4'.out hb4'.out.size hb5) hwX.out)
              replace hX6 := Aside0.mk hX6
              clear hX5 hm6 hb5 hv5 hli p0 p1 p2 p3 p4
              go_wp2_with fail
              go_roundw
              case rel => exact ⟨i + 1, k + 1, A5, c5, B5, d5, hik2, ⟨hlt⟩, by go_num, hX6', hv6, hb6⟩
              case measure => simp [intOf]; omega
            · obtain rfl : D = i := by have := hk.out; omega
              have hkD : k + 1 = D := by have := hk.out; have := hik.out; omega
              have hN1 : checkN x = if D ≤ 16 then 0 else 150 := by
                rw [← hx, nest_check ⟨k, by have := hD.out; omega⟩]
                by_cases c : k < 16
                · rw [if_pos c, if_pos (by omega)]
                · rw [if_neg c, if_neg (by omega)]
              have hN2 : codeOf (decF (layT x)) = if D ≤ 16 then 0 else 150 := by
                rw [← hx, nest_dec ⟨k, by have := hD.out; omega⟩]
                by_cases c : k < 16
                · rw [if_pos c, if_pos (by omega)]
                · rw [if_neg c, if_neg (by omega)]
              have hxa := Aside0.mk (show argT x = true from by rw [← hx]; exact nest_arg ⟨k, by have := hD.out; omega⟩)
              have hxl := Aside0.mk (show (layT x).length ≤ 1000 from by rw [← hx]; exact nest_len ⟨k, by have := hD.out; omega⟩)
              have hxb := Aside0.mk (show byteT x from by rw [← hx]; exact nest_byte k)
              have hxw2 := Aside0.mk (show wT x ≤ 1000 from by rw [hxw.out]; have := hD.out; omega)
              have hdl : decide ((D : Int) ≤ 16) = decide (D ≤ 16) := by
                by_cases c : D ≤ 16
                · rw [decide_eq_true c, decide_eq_true (by omega)]
                · rw [decide_eq_false c, decide_eq_false (by omega)]
              have i5 : decide ((D : Int) < (D : Int)) = false := by simp
              replace hkD := Aside0.mk hkD
              clear hlt hnx hxw hx
              have hbX := Aside0.mk (fun W (hW : Below wr.heap.size wr W) => hv.out.now.below hW)
              have hcX := Aside0.mk (fun W (hW : Below wr.heap.size wr W) => check_ours x A c B d W (hbX.out W hW) (by have := hxw2.out; omega))
              have hrX := Aside0.mk (fun W (hW : Below wr.heap.size wr W) => rcheck_calls x A c B d W (hbX.out W hW) (by have := hxw2.out; omega))
              obtain ⟨l1, hl1⟩ : ∃ l1, layT x = l1 := ⟨_, rfl⟩
              obtain ⟨L1, hL1⟩ : ∃ L1, l1.length = L1 := ⟨_, rfl⟩
              have hlX := Aside0.mk (fun W (hW : Below wr.heap.size wr W) => rbytes_C x A c B d L1 l1 W (hbX.out W hW) hxa.out hxb.out hl1 hL1 (by have := hxl.out; rw [hl1, hL1] at this; omega))
              have hdX := Aside0.mk (fun A c W hC hc => code_calls l1 A L1 c W hL1 hC hc (by have := hxl.out; rw [hl1, hL1] at this; omega) (by rw [← hl1]; exact lay_bytes x hxa.out hxb.out (by have := hxl.out; omega)))
              rw [hl1] at hN2
              have hKX := Aside0.mk (show ∀ W, Below wr.heap.size wr W → (W.cell? ⟨X, 0, none⟩ = some (.int .u8 x.f0) ∧ W.cell? ⟨X, 1, none⟩ = some (.int .u8 x.f1) ∧ W.cell? ⟨X, 2, none⟩ = some (.bool x.f2) ∧ W.cell? ⟨X, 3, none⟩ = some (.slice A x.f3.length c) ∧ W.cell? ⟨X, 4, none⟩ = some (.slice B x.f4.length d)) from fun W hW => (hBX.out.below hW).cells)
              have hwr0 := Aside0.mk (Below.refl wr.heap.size wr)
              clear hl1 hL1
              have hcase : (checkN x = 0 ∧ codeOf (decF l1) = 0 ∧ decide ((D : Int) ≤ 16) = true) ∨ (checkN x = 150 ∧ codeOf (decF l1) = 150 ∧ decide ((D : Int) ≤ 16) = false) := by
                by_cases h16 : D ≤ 16
                · rw [if_pos h16] at hN1 hN2; rw [decide_eq_true h16] at hdl; exact .inl ⟨hN1, hN2, hdl⟩
                · rw [if_neg h16] at hN1 hN2; rw [decide_eq_false h16] at hdl; exact .inr ⟨hN1, hN2, hdl⟩
              clear hN1 hN2 hdl
              rcases hcase with ⟨hN1, hN2, hdl⟩ | ⟨hN1, hN2, hdl⟩
              all_goals
                have hb9 := hb
                rw [hN1] at hcX hrX
                rw [hN2] at hdX
                clear hN1 hN2
                have hcv0 := Aside0.mk (show ∀ (A : Option Addr) (c : Nat) (W : World), kU.C W A m (List.replicate m 0) → (convert 23 9 (.slice A m c)).run Try.prog W = .ok (.string (zS m)) W from fun A c W h => Kd.C_string (P := Try.prog) (dst := 9) (c := c) Try.underlying23 Try.underlying5 Try.underlying9 h)
                have hte := Aside0.mk (fun W => text_calls (zS m) W (by rw [zS_size]; have := hm9.out; omega))
                rw [zS_bytes] at hte
                obtain ⟨zs, hzs⟩ : ∃ zs, zS m = zs := ⟨_, rfl⟩
                rw [hzs] at hcv0 hte
                replace hzs := Aside0.mk hzs
                go_wp2_with fail
                refine (hcX.out _ hwr0.out).mono ?_
                rintro e w4 ⟨rfl, hb⟩
                have h4 := Aside0.mk hb
                clear hb p0 p1 p2 p3 p4
                go_wp2_with ((with_reducible refine gate_dst (N := 45) rfl ?_); refine Kd.R_make kU (w0 := w4) w4.heap.size 5 rfl rfl 23 (.tmp 44) (.tmp 44) rfl (m : Int) rfl rfl Try.underlying23 (.int .u8 0) 1 PBerEncodes.info5 rfl (by decide) (by omega) (0 : Int) (ok := fun _ => True) (okp := fun _ => False) rfl (fun _ h => h.elim) trivial m0 (by rw [Int.toNat_natCast]; have := hm9.out; omega) (Below.refl _ _) (Nat.le_refl _) ?_; intro v1 w5 ho hb5 _ _; rw [Int.toNat_natCast] at ho; obtain ⟨A5, c5, ev⟩ := Kd.R_slice ho; rw [List.length_replicate] at ev; subst ev; have hcv := hcv0.out A5 c5 w5 (by have := (Kd.R_reads' ho).2.2; rwa [List.length_replicate] at this); have hb5 := Aside0.mk hb5; have ho := Aside0.mk ho; replace hcv0 := Aside0.mk trivial)
                clear ho
                refine (hte.out w5).mono ?_
                rintro e w6 ⟨⟨A6, c6, B6, d6, rfl, hv6⟩, hb6⟩
                unfold bv
                dsimp only
                rw [List.length_replicate]
                obtain ⟨w7, w8, hw7, hw8, hU7, hU8, hb68⟩ := boxed w6 (zT m) A6 c6 B6 d6
                dsimp only [zT] at hw8 hU8
                rw [List.length_replicate] at hw8 hU8
                simp only [List.length_nil] at hw8 hU8 ⊢
                obtain ⟨U, hU⟩ : ∃ U, w6.heap.size = U := ⟨_, rfl⟩
                rw [hU] at hU7 hU8 hw8
                obtain ⟨a0, a1, a2, a3, a4⟩ := hU7.cells
                obtain ⟨f0, f1, f2, f3, f4⟩ := hU7.free
                have hb58 := below_then hb6 hb6.size hb68
                have h8 := Aside0.mk (below_then h4.out h4.out.size (below_then hb5.out hb5.out.size hb58))
                have hv8 := Aside0.mk (show BvF w8 (fun q => w5.heap.size ≤ q) (zT m) A6 c6 B6 d6 from hv6.below hb68)
                have hU8 := Aside0.mk hU8
                have hKU := Aside0.mk (show ∀ W, Below w8.heap.size w8 W → (W.cell? ⟨U, 0, none⟩ = some (.int .u8 0) ∧ W.cell? ⟨U, 1, none⟩ = some (.int .u8 4) ∧ W.cell? ⟨U, 2, none⟩ = some (.bool false) ∧ W.cell? ⟨U, 3, none⟩ = some (.slice A6 m c6) ∧ W.cell? ⟨U, 4, none⟩ = some (.slice B6 0 d6)) from fun W hW => (hU8.out.below hW).cells)
                obtain ⟨q0, q1, q2, q3, q4⟩ := hKU.out w8 (Below.refl _ _)
                clear hU7 hb68 hb58 hb6 hv6 hcv hte
                have h88 := Aside0.mk (Below.refl w8.heap.size w8)
                have hbU := Aside0.mk (fun W (hW : Below w8.heap.size w8 W) => (hv8.out.below hW).now)
                have hrU := Aside0.mk (fun W (hW : Below w8.heap.size w8 W) => (show Calls Try.prog 15 #[.agg #[.int .u8 0, .int .u8 4, .bool false, .slice A6 m c6, .slice B6 0 d6]] W (fun e w' => e = .returned (.int .i64 (checkN (zT m))) ∧ Below W.heap.size W w') from by
                  have h := rcheck_calls (zT m) A6 c6 B6 d6 W (hbU.out W hW) (by rw [zT_w]; have := hm9.out; omega)
                  have hz : (zT m).f3.length = m := List.length_replicate ..
                  rw [hz] at h
                  exact h))
                obtain ⟨l2, hl2⟩ : ∃ l2, layT (zT m) = l2 := ⟨_, rfl⟩
                obtain ⟨L2, hL2⟩ : ∃ L2, l2.length = L2 := ⟨_, rfl⟩
                have hL29 : L2 = 1 + (lenL m).length + m := by rw [← hL2, ← hl2]; exact zT_lay m
                have hL2m : L2 ≤ 70000 := by rw [hL29]; have := (lenL_length m).2; have := hm9.out; omega
                have hlU := Aside0.mk (fun W (hW : Below w8.heap.size w8 W) => (show Calls Try.prog 17 #[.agg #[.int .u8 0, .int .u8 4, .bool false, .slice A6 m c6, .slice B6 0 d6]] W (fun e w' => ∃ A' c', e = .returned (.slice A' L2 c') ∧ L2 ≤ c' ∧ kU.C w' A' L2 l2 ∧ Below W.heap.size W w') from by
                  have h := rbytes_C (zT m) A6 c6 B6 d6 L2 l2 W (hbU.out W hW) (zT_arg m) (zT_byte m) hl2 hL2 (by omega)
                  have hz : (zT m).f3.length = m := List.length_replicate ..
                  rw [hz] at h
                  exact h))
                have hdU := Aside0.mk (fun A c W hC hc => code_calls l2 A L2 c W hL2 hC hc (by omega) (by rw [← hl2]; exact lay_bytes (zT m) (zT_arg m) (zT_byte m) (by rw [hl2, hL2]; omega)))
                have hco := zT_dec m hm9.out.1 hm9.out.2
                rw [hl2] at hco
                rw [hco] at hdU
                have hck := zT_check m (by have := hm9.out; omega)
                clear hco
                by_cases h65 : m + 4 > 65536
                · rw [if_pos h65] at hck hdU
                  have hL3 : 65536 < L2 := by rw [hL29, lenL_len]; have := hm9.out; (repeat' split) <;> omega
                  have hrd := Aside0.mk (fun A c W (_ : kU.C W A L2 l2) (_ : L2 ≤ c) => rdec_no A L2 c W hL3)
                  have hen := Aside0.mk (fun W (hW : Below w8.heap.size w8 W) => (show Calls Try.prog 14 #[.agg #[.int .u8 0, .int .u8 4, .bool false, .slice A6 m c6, .slice B6 0 d6]] W (fun e w' => (∃ A' c', e = .returned (.tuple #[.slice A' 0 c', .int .i64 3])) ∧ Below W.heap.size W w') from by
                    have h := enc_no (zT m) A6 c6 B6 d6 W (hbU.out W hW) (zT_byte m) (by rw [zT_w]; have := hm9.out; omega) (by rw [hck]; decide)
                    rw [hck] at h
                    have hz : (zT m).f3.length = m := List.length_replicate ..
                    rw [hz] at h
                    exact h.mono (fun e w' g => ⟨⟨none, 0, g.1⟩, g.2⟩)))
                  rw [hck] at hrU
                  clear h65 hL29 hL2m hL3 hl2 hL2 hck
                  go_wp2_with fail
                  refine (hen.out _ h88.out).mono ?_
                  rintro e w9 ⟨⟨A9, c9, rfl⟩, hb⟩
                  have hw9 := Aside0.mk (below_then h88.out h88.out.size hb)
                  clear hb
                  replace hw7 := Aside0.mk hw7
                  replace hw8 := Aside0.mk hw8
                  replace hU := Aside0.mk hU
                  clear a0 a1 a2 a3 a4 f0 f1 f2 f3 f4
                  clear q0 q1 q2 q3 q4
                  obtain ⟨q0, q1, q2, q3, q4⟩ := hKU.out _ hw9.out
                  go_wp2_with fail
                  refine (hrU.out _ hw9.out).mono ?_
                  rintro e w10 ⟨rfl, hb⟩
                  have hw10 := Aside0.mk (below_then hw9.out hw9.out.size hb)
                  clear hb
                  clear q0 q1 q2 q3 q4
                  obtain ⟨q0, q1, q2, q3, q4⟩ := hKU.out _ hw10.out
                  obtain ⟨p0, p1, p2, p3, p4⟩ := hKX.out _ (below_then h8.out h8.out.size hw10.out)
                  go_wp2_with fail
                  refine (hrX.out _ (below_then h8.out h8.out.size hw10.out)).mono ?_
                  rintro e w11 ⟨rfl, hb⟩
                  have hw11 := Aside0.mk (below_then hw10.out hw10.out.size hb)
                  clear hb
                  clear p0 p1 p2 p3 p4
                  clear q0 q1 q2 q3 q4
                  obtain ⟨q0, q1, q2, q3, q4⟩ := hKU.out _ hw11.out
                  obtain ⟨p0, p1, p2, p3, p4⟩ := hKX.out _ (below_then h8.out h8.out.size hw11.out)
                  go_wp2_with fail
                  refine (hlX.out _ (below_then h8.out h8.out.size hw11.out)).mono ?_
                  rintro e w20 ⟨A20, c20, rfl, hc20, hC20, hb⟩
                  have hw20 := Aside0.mk (below_then hw11.out hw11.out.size hb)
                  have hdc := Aside0.mk (hdX.out A20 c20 w20 hC20 hc20)
                  clear hb hc20 hC20
                  go_wp2_with fail
                  refine hdc.out.mono ?_
                  rintro e w201 ⟨⟨y0, y1, y2, A8, n8, c8, B8, k8, d8, rfl⟩, hb⟩
                  obtain ⟨w202, w203, hww202, hww203, hB20, hbb⟩ := boxed5 w201 (.int .u8 y0) (.int .u8 y1) (.bool y2) (.slice A8 n8 c8) (.slice B8 k8 d8)
                  obtain ⟨a0, a1, a2, a3, a4⟩ := hB20.cells
                  obtain ⟨f0, f1, f2, f3, f4⟩ := hB20.free
                  have hw203 := Aside0.mk (below_then hw20.out hw20.out.size (below_then hb hb.size hbb))
                  have hB20 := Aside0.mk hB20
                  clear hb hbb hdc
                  clear q0 q1 q2 q3 q4
                  obtain ⟨q0, q1, q2, q3, q4⟩ := hKU.out _ hw203.out
                  clear p0 p1 p2 p3 p4
                  go_wp2_with fail
                  replace hww202 := Aside0.mk hww202
                  replace hww203 := Aside0.mk hww203
                  clear a0 a1 a2 a3 a4 f0 f1 f2 f3 f4
                  refine (hlU.out _ hw203.out).mono ?_
                  rintro e w30 ⟨A30, c30, rfl, hc30, hC30, hb⟩
                  have hw30 := Aside0.mk (below_then hw203.out hw203.out.size hb)
                  have hdc := Aside0.mk (hdU.out A30 c30 w30 hC30 hc30)
                  clear hb hc30 hC30
                  go_wp2_with fail
                  refine hdc.out.mono ?_
                  rintro e w301 ⟨⟨y0, y1, y2, A8, n8, c8, B8, k8, d8, rfl⟩, hb⟩
                  obtain ⟨w302, w303, hww302, hww303, hB30, hbb⟩ := boxed5 w301 (.int .u8 y0) (.int .u8 y1) (.bool y2) (.slice A8 n8 c8) (.slice B8 k8 d8)
                  obtain ⟨a0, a1, a2, a3, a4⟩ := hB30.cells
                  obtain ⟨f0, f1, f2, f3, f4⟩ := hB30.free
                  have hw303 := Aside0.mk (below_then hw30.out hw30.out.size (below_then hb hb.size hbb))
                  have hB30 := Aside0.mk hB30
                  clear hb hbb hdc
                  clear q0 q1 q2 q3 q4
                  obtain ⟨q0, q1, q2, q3, q4⟩ := hKU.out _ hw303.out
                  go_wp2_with fail
                  replace hww302 := Aside0.mk hww302
                  replace hww303 := Aside0.mk hww303
                  clear a0 a1 a2 a3 a4 f0 f1 f2 f3 f4
                  refine (hlU.out _ hw303.out).mono ?_
                  rintro e w40 ⟨A40, c40, rfl, hc40, hC40, hb⟩
                  have hw40 := Aside0.mk (below_then hw303.out hw303.out.size hb)
                  have hdc := Aside0.mk (hrd.out A40 c40 w40 hC40 hc40)
                  clear hb hc40 hC40
                  go_wp2_with fail
                  refine hdc.out.mono ?_
                  rintro e w401 ⟨⟨y0, y1, y2, A8, n8, c8, B8, k8, d8, rfl⟩, hb⟩
                  obtain ⟨w402, w403, hww402, hww403, hB40, hbb⟩ := boxed5 w401 (.int .u8 y0) (.int .u8 y1) (.bool y2) (.slice A8 n8 c8) (.slice B8 k8 d8)
                  obtain ⟨a0, a1, a2, a3, a4⟩ := hB40.cells
                  obtain ⟨f0, f1, f2, f3, f4⟩ := hB40.free
                  have hw403 := Aside0.mk (below_then hw40.out hw40.out.size (below_then hb hb.size hbb))
                  have hB40 := Aside0.mk hB40
                  clear hb hbb hdc
                  clear q0 q1 q2 q3 q4
                  obtain ⟨q0, q1, q2, q3, q4⟩ := hKU.out _ hw403.out
                  go_wp2_with fail
                  refine (known_calls _).mono ?_
                  rintro e w60 ⟨rfl, hb⟩
                  have hbf := Aside0.mk (below_then (below_then hb9.out hb9.out.size (below_then h8.out h8.out.size hw403.out)) (below_then hb9.out hb9.out.size (below_then h8.out h8.out.size hw403.out)).size hb)
                  clear hb
                  go_wp2_with fail
                  go_ret
                  exact ⟨rfl, hbf.out⟩
                · rw [if_neg h65] at hck hdU
                  have hL3 : L2 = m + 4 := by rw [hL29, lenL_len]; have := hm9.out; (repeat' split) <;> omega
                  have hsz : sizeT (zT m) = L2 := by rw [← sizeT_lay _ (zT_arg m), hl2, hL2]
                  have hrd := Aside0.mk (fun A c W (hC : kU.C W A L2 l2) (hc : L2 ≤ c) => (show Calls Try.prog 18 #[.slice A L2 c] W (fun e w' => (∃ (y0 y1 : Int) (y2 : Bool) (A8 : Option Addr) (n8 c8 : Nat) (B8 : Option Addr) (k8 d8 : Nat), e = .returned (.tuple #[.agg #[.int .u8 y0, .int .u8 y1, .bool y2, .slice A8 n8 c8, .slice B8 k8 d8], .int .i64 0])) ∧ Below W.heap.size W w') from by
                    rw [hL3] at hC hc ⊢
                    exact rdec_yes m A c W hm9.out.1 (by omega) (by rw [hl2]; exact hC) hc))
                  have hen := Aside0.mk (fun W (hW : Below w8.heap.size w8 W) => (show Calls Try.prog 14 #[.agg #[.int .u8 0, .int .u8 4, .bool false, .slice A6 m c6, .slice B6 0 d6]] W (fun e w' => (∃ A' c', e = .returned (.tuple #[.slice A' L2 c', .int .i64 0])) ∧ Below W.heap.size W w') from by
                    have h := enc_yes (zT m) A6 c6 B6 d6 W (hbU.out W hW) (zT_byte m) (by rw [zT_w]; have := hm9.out; omega) hck
                    rw [hl2, hL2] at h
                    have hz : (zT m).f3.length = m := List.length_replicate ..
                    rw [hz] at h
                    exact h.mono (fun e w' g => by obtain ⟨A', c', g1, _, _, g2⟩ := g; exact ⟨⟨A', c', g1⟩, g2⟩)))
                  have hszc := Aside0.mk (fun W (hW : Below w8.heap.size w8 W) => (show Calls Try.prog 19 #[.agg #[.int .u8 0, .int .u8 4, .bool false, .slice A6 m c6, .slice B6 0 d6]] W (fun e w' => e = .returned (.int .i64 (L2 : Int)) ∧ Below W.heap.size W w') from by
                    have h := rsize_calls (zT m) A6 c6 B6 d6 W (hbU.out W hW) (by rw [hsz, hL3]; omega)
                    rw [hsz] at h
                    have hz : (zT m).f3.length = m := List.length_replicate ..
                    rw [hz] at h
                    exact h))
                  rw [hck] at hrU
                  have hLL : ((L2 : Int) == (L2 : Int)) = true := by simp
                  clear h65 hL29 hL2m hL3 hl2 hL2 hck hsz
                  go_wp2_with fail
                  refine (hen.out _ h88.out).mono ?_
                  rintro e w9 ⟨⟨A9, c9, rfl⟩, hb⟩
                  have hw9 := Aside0.mk (below_then h88.out h88.out.size hb)
                  clear hb
                  replace hw7 := Aside0.mk hw7
                  replace hw8 := Aside0.mk hw8
                  replace hU := Aside0.mk hU
                  clear a0 a1 a2 a3 a4 f0 f1 f2 f3 f4
                  clear q0 q1 q2 q3 q4
                  obtain ⟨q0, q1, q2, q3, q4⟩ := hKU.out _ hw9.out
                  go_wp2_with fail
                  refine (hrU.out _ hw9.out).mono ?_
                  rintro e w10 ⟨rfl, hb⟩
                  have hw10 := Aside0.mk (below_then hw9.out hw9.out.size hb)
                  clear hb
                  clear q0 q1 q2 q3 q4
                  obtain ⟨q0, q1, q2, q3, q4⟩ := hKU.out _ hw10.out
                  obtain ⟨p0, p1, p2, p3, p4⟩ := hKX.out _ (below_then h8.out h8.out.size hw10.out)
                  go_wp2_with fail
                  refine (hrX.out _ (below_then h8.out h8.out.size hw10.out)).mono ?_
                  rintro e w11 ⟨rfl, hb⟩
                  have hw11 := Aside0.mk (below_then hw10.out hw10.out.size hb)
                  clear hb
                  clear p0 p1 p2 p3 p4
                  clear q0 q1 q2 q3 q4
                  obtain ⟨q0, q1, q2, q3, q4⟩ := hKU.out _ hw11.out
                  obtain ⟨p0, p1, p2, p3, p4⟩ := hKX.out _ (below_then h8.out h8.out.size hw11.out)
                  go_wp2_with fail
                  refine (hlX.out _ (below_then h8.out h8.out.size hw11.out)).mono ?_
                  rintro e w20 ⟨A20, c20, rfl, hc20, hC20, hb⟩
                  have hw20 := Aside0.mk (below_then hw11.out hw11.out.size hb)
                  have hdc := Aside0.mk (hdX.out A20 c20 w20 hC20 hc20)
                  clear hb hc20 hC20
                  go_wp2_with fail
                  refine hdc.out.mono ?_
                  rintro e w201 ⟨⟨y0, y1, y2, A8, n8, c8, B8, k8, d8, rfl⟩, hb⟩
                  obtain ⟨w202, w203, hww202, hww203, hB20, hbb⟩ := boxed5 w201 (.int .u8 y0) (.int .u8 y1) (.bool y2) (.slice A8 n8 c8) (.slice B8 k8 d8)
                  obtain ⟨a0, a1, a2, a3, a4⟩ := hB20.cells
                  obtain ⟨f0, f1, f2, f3, f4⟩ := hB20.free
                  have hw203 := Aside0.mk (below_then hw20.out hw20.out.size (below_then hb hb.size hbb))
                  have hB20 := Aside0.mk hB20
                  clear hb hbb hdc
                  clear q0 q1 q2 q3 q4
                  obtain ⟨q0, q1, q2, q3, q4⟩ := hKU.out _ hw203.out
                  clear p0 p1 p2 p3 p4
                  go_wp2_with fail
                  replace hww202 := Aside0.mk hww202
                  replace hww203 := Aside0.mk hww203
                  clear a0 a1 a2 a3 a4 f0 f1 f2 f3 f4
                  refine (hlU.out _ hw203.out).mono ?_
                  rintro e w30 ⟨A30, c30, rfl, hc30, hC30, hb⟩
                  have hw30 := Aside0.mk (below_then hw203.out hw203.out.size hb)
                  have hdc := Aside0.mk (hdU.out A30 c30 w30 hC30 hc30)
                  clear hb hc30 hC30
                  go_wp2_with fail
                  refine hdc.out.mono ?_
                  rintro e w301 ⟨⟨y0, y1, y2, A8, n8, c8, B8, k8, d8, rfl⟩, hb⟩
                  obtain ⟨w302, w303, hww302, hww303, hB30, hbb⟩ := boxed5 w301 (.int .u8 y0) (.int .u8 y1) (.bool y2) (.slice A8 n8 c8) (.slice B8 k8 d8)
                  obtain ⟨a0, a1, a2, a3, a4⟩ := hB30.cells
                  obtain ⟨f0, f1, f2, f3, f4⟩ := hB30.free
                  have hw303 := Aside0.mk (below_then hw30.out hw30.out.size (below_then hb hb.size hbb))
                  have hB30 := Aside0.mk hB30
                  clear hb hbb hdc
                  clear q0 q1 q2 q3 q4
                  obtain ⟨q0, q1, q2, q3, q4⟩ := hKU.out _ hw303.out
                  go_wp2_with fail
                  replace hww302 := Aside0.mk hww302
                  replace hww303 := Aside0.mk hww303
                  clear a0 a1 a2 a3 a4 f0 f1 f2 f3 f4
                  refine (hlU.out _ hw303.out).mono ?_
                  rintro e w40 ⟨A40, c40, rfl, hc40, hC40, hb⟩
                  have hw40 := Aside0.mk (below_then hw303.out hw303.out.size hb)
                  have hdc := Aside0.mk (hrd.out A40 c40 w40 hC40 hc40)
                  clear hb hc40 hC40
                  go_wp2_with fail
                  refine hdc.out.mono ?_
                  rintro e w401 ⟨⟨y0, y1, y2, A8, n8, c8, B8, k8, d8, rfl⟩, hb⟩
                  obtain ⟨w402, w403, hww402, hww403, hB40, hbb⟩ := boxed5 w401 (.int .u8 y0) (.int .u8 y1) (.bool y2) (.slice A8 n8 c8) (.slice B8 k8 d8)
                  obtain ⟨a0, a1, a2, a3, a4⟩ := hB40.cells
                  obtain ⟨f0, f1, f2, f3, f4⟩ := hB40.free
                  have hw403 := Aside0.mk (below_then hw40.out hw40.out.size (below_then hb hb.size hbb))
                  have hB40 := Aside0.mk hB40
                  clear hb hbb hdc
                  clear q0 q1 q2 q3 q4
                  obtain ⟨q0, q1, q2, q3, q4⟩ := hKU.out _ hw403.out
                  go_wp2_with fail
                  replace hww402 := Aside0.mk hww402
                  replace hww403 := Aside0.mk hww403
                  clear a0 a1 a2 a3 a4 f0 f1 f2 f3 f4
                  refine (hszc.out _ hw403.out).mono ?_
                  rintro e w50 ⟨rfl, hb⟩
                  have hw50 := Aside0.mk (below_then hw403.out hw403.out.size hb)
                  clear hb
                  clear q0 q1 q2 q3 q4
                  go_wp2_with fail
                  refine (known_calls _).mono ?_
                  rintro e w60 ⟨rfl, hb⟩
                  have hbf := Aside0.mk (below_then (below_then hb9.out hb9.out.size (below_then h8.out h8.out.size hw50.out)) (below_then hb9.out hb9.out.size (below_then h8.out h8.out.size hw50.out)).size hb)
                  clear hb
                  go_wp2_with fail
                  go_ret
                  exact ⟨rfl, hbf.out⟩
end Go.Proofs.Ytlmelbnmfhpacaa
