/- The reference's Decode of a text's bytes that are many. -/
import Derived.Test.YtlmelbnmfhpacaaBq
set_option linter.unusedVariables false
set_option linter.unusedSimpArgs false
namespace Go.Proofs.Ytlmelbnmfhpacaa
open Go.RowKit Go.Shelf Go.Proofs.YtlmelbnmfhpacaaW.PrintWords Go.Proofs.YtlmelbnmfhpacaaW.PrintMore Go.Proofs.YtlmelbnmfhpacaaW.PrintLast

theorem slice_mid (A : Option Addr) (M c a n : Nat) (hm : a + n ≤ c) : ∀ w', (Instr.slice 23 (.slice A M c) (some (.int .i64 (a : Int))) (some (.int .i64 ((a : Int) + (n : Int)))) none).run Try.prog w' = .ok (.slice (if c = a then A else A.map (·.add (a * kU.sz))) n (c - a)) w' := by
  intro w'
  rw [run_slice_lh (P := Try.prog) (w := w') 23 A M c (by kernel_rfl) .i64 .i64 (a : Int) ((a : Int) + (n : Int)) (by omega) (by omega) (by omega)]
  rw [show (Go.sizeOf (Try.prog.elem 23)).run Try.prog w' = .ok 1 w' by kernel_rfl]
  show Result.ok (sliced A ((a : Int).toNat) ((a : Int) + (n : Int)).toNat c 1) w' = _
  rw [show ((a : Int) + (n : Int)).toNat = a + n by omega, show ((a : Int).toNat) = a from rfl]
  unfold sliced
  rw [Nat.add_sub_cancel_left]
  rfl
theorem wrap_four (n : Nat) (h : n ≤ 65532) : wrap64 (4 + (n : Int)) = 4 + (n : Int) := wrap_in _ (by omega)
theorem wrap_self (n : Nat) (h : n ≤ 65532) : wrap64 (n : Int) = (n : Int) := wrap_nat n (by omega)
set_option maxHeartbeats 8000000 in
set_option maxRecDepth 100000 in
theorem rone_calls (h lo : Int) (body : List Int) (n : Nat) (A : Option Addr) (c : Nat) (w : World) (hh : 0 ≤ h ∧ h < 256) (hlo : 0 ≤ lo ∧ lo < 256) (hn : (n : Int) = 256 * h + lo) (hb : body.length = n) (h1 : 65500 ≤ n) (h2 : n ≤ 65532)
    (hC : kU.C w A (n + 4) (4 :: 130 :: h :: lo :: body)) (hc : n + 4 ≤ c) :
    Calls Try.prog 43 #[.slice A (n + 4) c, .int .i64 1] w fun e w' => (∃ A' c', e = .returned (.tuple #[.agg #[.int .u8 0, .int .u8 4, .bool false, .slice A' n c', .slice none 0 0], .int .i64 (4 + (n : Int)), .int .i64 0])) ∧ Below w.heap.size w w' := by
  have hlen : (4 :: 130 :: h :: lo :: body).length = n + 4 := by simp [hb]
  obtain ⟨ad, e, q0⟩ := u8_at hC 0 (by simp)
  obtain ⟨ad', e', q1⟩ := u8_at hC 1 (by simp)
  subst e
  injection e' with e'
  subst e'
  obtain ⟨ad', e', q2⟩ := u8_at hC 2 (by simp)
  injection e' with e'
  subst e'
  obtain ⟨ad', e', q3⟩ := u8_at hC 3 (by simp)
  injection e' with e'
  subst e'
  simp only [List.getElem_cons_zero, List.getElem_cons_succ] at q0 q1 q2 q3
  have q0' : w.cell? ad = some (.int .u8 4) := by rw [show ad = ad.add 0 from by simp [Addr.add]]; exact q0
  have hQ : ∀ W, Below w.heap.size w W → W.cell? ad = some (.int .u8 4) ∧ W.cell? (ad.add 1) = some (.int .u8 130) ∧ W.cell? (ad.add 2) = some (.int .u8 h) ∧ W.cell? (ad.add 3) = some (.int .u8 lo) := fun W hW => ⟨pw_cell_below hW q0', pw_cell_below hW q1, pw_cell_below hW q2, pw_cell_below hW q3⟩
  have hX1 := box_new w (.int .u8 0) (.int .u8 0) (.bool false) (.slice none 0 0) (.slice none 0 0)
  have hb1 := below_alloc (Below.refl w.heap.size w) (.cells #[.int .u8 0, .int .u8 0, .bool false, .slice none 0 0, .slice none 0 0] 26)
  obtain ⟨w1, hw1⟩ : ∃ w1, w.alloc (.cells #[.int .u8 0, .int .u8 0, .bool false, .slice none 0 0, .slice none 0 0] 26) = w1 := ⟨_, rfl⟩
  obtain ⟨P, hP⟩ : ∃ P, w.heap.size = P := ⟨_, rfl⟩
  rw [hw1] at hX1 hb1
  rw [hP] at hX1
  obtain ⟨c0, c1, c2, c3⟩ := hQ _ hb1
  have hQ := Aside0.mk hQ
  have hb1' := Aside0.mk hb1
  obtain ⟨KM, hKM⟩ := many_ours n (by omega)
  have hl3 : (lenL n).length = 3 := by rw [lenL_len, if_neg (by omega), if_neg (by omega), if_pos (by omega)]
  rw [hl3] at hKM
  have hmc := Aside0.mk (fun W => PBerEncodes.cardcaseref05_many.calls KM (n : Int) _ W hKM)
  obtain ⟨N, hN⟩ : ∃ N, n + 4 = N := ⟨_, rfl⟩
  have hsl := slice_mid (some ad) N c 4 n (by omega)
  obtain ⟨A2, hA2⟩ : ∃ A2, (if c = 4 then some ad else (some ad).map (·.add (4 * kU.sz))) = A2 := ⟨_, rfl⟩
  rw [hA2] at hsl
  have hsl' : ∀ w', (Instr.slice 23 (.slice (some ad) N c) (some (.int .i64 4)) (some (.int .i64 (4 + (n : Int)))) none).run Try.prog w' = .ok (.slice A2 n (c - 4)) w' := hsl
  rw [hN]
  have i0 : (0 : Int) < (N : Int) := by omega
  have n0 : 0 < N := by omega
  have n1 : 1 < N := by omega
  have i1 : (1 : Int) < (N : Int) := by omega
  have i2 : decide ((N : Int) < 1) = false := by simp; omega
  have i3 : decide ((N : Int) < 2) = false := by simp; omega
  have i4 : decide ((N : Int) < 4) = false := by simp; omega
  have i5 : (2 : Int) < (N : Int) := by omega
  have i6 : (3 : Int) < (N : Int) := by omega
  have i7 : (N : Int) - 4 = (n : Int) := by omega
  have i8 : decide ((n : Int) < 128) = false := by simp; omega
  have u1 := Aside0.mk (wrap_self n h2)
  have u2 := Aside0.mk (wrap_four n h2)
  have u3 : (0 : Int) ≤ 4 + (n : Int) := by omega
  have u4 : (4 : Int) ≤ 4 + (n : Int) := by omega
  have u5 : 4 + (n : Int) ≤ (c : Int) := by omega
  have u6 : decide ((n : Int) < (n : Int)) = false := by simp
  have u0 : IntKind.u8.wrap 0 = 0 := IntWalk.u8_in 0 (by omega)
  have hn9 := Aside0.mk hn
  have h19 := Aside0.mk h1
  have h29 := Aside0.mk h2
  obtain ⟨hh0, hh1⟩ := hh
  obtain ⟨hlo0, hlo1⟩ := hlo
  have hN' := Aside0.mk hN
  clear q0 q1 q2 q3 q0' hb1 hKM hl3 hsl hA2 hn h1 h2 hb hC hN hlen
  go_enter Try.func43, Try.ntmps43
  go_wp2_with fail
  replace hw1 := Aside0.mk hw1
  have hP9 := Aside0.mk hP
  have hdr := Aside0.mk (below_drew (Below.refl w1.heap.size w1))
  refine start_ (n := 17) (S := fun w' => w'.cell? ad = some (.int .u8 4)) (ds := [16]) #[false, false, false, false, false, false, false, false, false, false, false, false, false, false, false, false, false] (by kernel_rfl) rfl rfl ((hQ.out _ (below_then hb1'.out hb1'.out.size hdr.out)).1) (fun hHeld => ?_)
  refine pure_ (i := 0) (N := some 35) (v := ?_) (a' := ?_) #[true, false, false, false, false, false, false, false, false, false, false, false, false, false, false, false, false] rfl rfl (by kernel_rfl) (fun _ _ _ h => h) (Or.inl ⟨by rfl, ?_⟩) ?_ ?_
  rotate_left
  · intro w'
    go_simp
    with_reducible rfl
  rotate_left
  · simp only [Act.put, List.setIfInBounds_toArray, List.set_cons_zero, List.set_cons_succ, i64_w, i32_w]
    rfl
  refine pure_ (i := 1) (N := some 36) (v := ?_) (a' := ?_) #[true, true, false, false, false, false, false, false, false, false, false, false, false, false, false, false, false] rfl rfl (by kernel_rfl) (fun _ _ _ h => h) (Or.inl ⟨by rfl, ?_⟩) ?_ ?_
  rotate_left
  · intro w'
    go_simp
    with_reducible rfl
  rotate_left
  · simp only [Act.put, List.setIfInBounds_toArray, List.set_cons_zero, List.set_cons_succ, i64_w, i32_w]
    rfl
  refine pure_ (i := 4) (N := some 39) (v := ?_) (a' := ?_) #[true, true, false, false, true, false, false, false, false, false, false, false, false, false, false, false, false] rfl rfl (by kernel_rfl) (fun _ _ _ h => h) (Or.inl ⟨by rfl, ?_⟩) ?_ ?_
  rotate_left
  · intro w'
    go_simp
    with_reducible rfl
  rotate_left
  · simp only [Act.put, List.setIfInBounds_toArray, List.set_cons_zero, List.set_cons_succ, i64_w, i32_w]
    rfl
  refine pure_ (i := 5) (N := some 40) (v := ?_) (a' := ?_) #[true, true, false, false, true, true, false, false, false, false, false, false, false, false, false, false, false] rfl rfl (by kernel_rfl) (fun _ _ _ h => h) (Or.inl ⟨by rfl, ?_⟩) ?_ ?_
  rotate_left
  · intro w'
    go_simp
    with_reducible rfl
  rotate_left
  · simp only [Act.put, List.setIfInBounds_toArray, List.set_cons_zero, List.set_cons_succ, i64_w, i32_w]
    rfl
  refine pure_ (i := 8) (N := some 43) (v := ?_) (a' := ?_) #[true, true, false, false, true, true, false, false, true, false, false, false, false, false, false, false, false] rfl rfl (by kernel_rfl) (fun _ _ _ h => h) (Or.inl ⟨by rfl, ?_⟩) ?_ ?_
  rotate_left
  · intro w'
    go_simp
    with_reducible rfl
  rotate_left
  · simp only [Act.put, List.setIfInBounds_toArray, List.set_cons_zero, List.set_cons_succ, i64_w, i32_w]
    rfl
  refine pure_ (i := 9) (N := some 44) (v := ?_) (a' := ?_) #[true, true, false, false, true, true, false, false, true, true, false, false, false, false, false, false, false] rfl rfl (by kernel_rfl) (fun _ _ _ h => h) (Or.inl ⟨by rfl, ?_⟩) ?_ ?_
  rotate_left
  · intro w'
    go_simp
    with_reducible rfl
  rotate_left
  · simp only [Act.put, List.setIfInBounds_toArray, List.set_cons_zero, List.set_cons_succ, i64_w, i32_w]
    rfl
  refine take_ (i := 2) (N := some 37) (v := ?_) (a' := ?_) #[true, true, true, false, true, true, false, false, true, true, false, false, false, false, false, false, false] rfl rfl (by kernel_rfl) (fun _ _ _ h => h) (Or.inl ⟨by rfl, ?_⟩) hHeld ?_ ?_
  rotate_left
  · intro w' s0
    go_simp
    with_reducible rfl
  rotate_left
  · simp only [Act.put, List.setIfInBounds_toArray, List.set_cons_zero, List.set_cons_succ, i64_w, i32_w]
    rfl
  refine pure_ (i := 3) (N := some 38) (v := ?_) (a' := ?_) #[true, true, true, true, true, true, false, false, true, true, false, false, false, false, false, false, false] rfl rfl (by kernel_rfl) (fun _ _ _ h => h) (Or.inl ⟨by rfl, ?_⟩) ?_ ?_
  rotate_left
  · intro w'
    go_simp
    with_reducible rfl
  rotate_left
  · simp only [Act.put, List.setIfInBounds_toArray, List.set_cons_zero, List.set_cons_succ, i64_w, i32_w]
    rfl
  refine take_ (i := 6) (N := some 41) (v := ?_) (a' := ?_) #[true, true, true, true, true, true, true, false, true, true, false, false, false, false, false, false, false] rfl rfl (by kernel_rfl) (fun _ _ _ h => h) (Or.inl ⟨by rfl, ?_⟩) hHeld ?_ ?_
  rotate_left
  · intro w' s0
    go_simp
    with_reducible rfl
  rotate_left
  · simp only [Act.put, List.setIfInBounds_toArray, List.set_cons_zero, List.set_cons_succ, i64_w, i32_w]
    rfl
  refine pure_ (i := 7) (N := some 42) (v := ?_) (a' := ?_) #[true, true, true, true, true, true, true, true, true, true, false, false, false, false, false, false, false] rfl rfl (by kernel_rfl) (fun _ _ _ h => h) (Or.inl ⟨by rfl, ?_⟩) ?_ ?_
  rotate_left
  · intro w'
    go_simp
    with_reducible rfl
  rotate_left
  · simp only [Act.put, List.setIfInBounds_toArray, List.set_cons_zero, List.set_cons_succ, i64_w, i32_w]
    rfl
  refine take_ (i := 10) (N := some 45) (v := ?_) (a' := ?_) #[true, true, true, true, true, true, true, true, true, true, true, false, false, false, false, false, false] rfl rfl (by kernel_rfl) (fun _ _ _ h => h) (Or.inl ⟨by rfl, ?_⟩) hHeld ?_ ?_
  rotate_left
  · intro w' s0
    go_simp
    with_reducible rfl
  rotate_left
  · simp only [Act.put, List.setIfInBounds_toArray, List.set_cons_zero, List.set_cons_succ, i64_w, i32_w]
    rfl
  refine pure_ (i := 11) (N := some 46) (v := ?_) (a' := ?_) #[true, true, true, true, true, true, true, true, true, true, true, true, false, false, false, false, false] rfl rfl (by kernel_rfl) (fun _ _ _ h => h) (Or.inl ⟨by rfl, ?_⟩) ?_ ?_
  rotate_left
  · intro w'
    go_simp
    with_reducible rfl
  rotate_left
  · simp only [Act.put, List.setIfInBounds_toArray, List.set_cons_zero, List.set_cons_succ, i64_w, i32_w]
    rfl
  refine pure_ (i := 12) (N := some 47) (v := ?_) (a' := ?_) #[true, true, true, true, true, true, true, true, true, true, true, true, true, false, false, false, false] rfl rfl (by kernel_rfl) (fun _ _ _ h => h) (Or.inl ⟨by rfl, ?_⟩) ?_ ?_
  rotate_left
  · intro w'
    go_simp
    with_reducible rfl
  rotate_left
  · simp only [Act.put, List.setIfInBounds_toArray, List.set_cons_zero, List.set_cons_succ, i64_w, i32_w]
    rfl
  refine pure_ (i := 13) (N := some 48) (v := ?_) (a' := ?_) #[true, true, true, true, true, true, true, true, true, true, true, true, true, true, false, false, false] rfl rfl (by kernel_rfl) (fun _ _ _ h => h) (Or.inl ⟨by rfl, ?_⟩) ?_ ?_
  rotate_left
  · intro w'
    go_simp
    with_reducible rfl
  rotate_left
  · simp only [Act.put, List.setIfInBounds_toArray, List.set_cons_zero, List.set_cons_succ, i64_w, i32_w]
    rfl
  refine pure_ (i := 14) (N := some 49) (v := ?_) (a' := ?_) #[true, true, true, true, true, true, true, true, true, true, true, true, true, true, true, false, false] rfl rfl (by kernel_rfl) (fun _ _ _ h => h) (Or.inl ⟨by rfl, ?_⟩) ?_ ?_
  rotate_left
  · intro w'
    go_simp
    with_reducible rfl
  rotate_left
  · simp only [Act.put, List.setIfInBounds_toArray, List.set_cons_zero, List.set_cons_succ, i64_w, i32_w]
    rfl
  refine one_ (i := 15) (N := some 7) #[true, true, true, true, true, true, true, true, true, true, true, true, true, true, true, true, false] rfl rfl (by kernel_rfl) (by decide) (fun K hK => ?_)
  refine value_ (w1 := ?_) (v := ?_) (by rfl) rfl ?_ ?_
  rotate_left 2
  · go_simp
    constructor
    · rfl
    · rfl
  have hV2 := box_new w1.drew (.int .u8 0) (.int .u8 0) (.bool false) (.slice none 0 0) (.slice none 0 0)
  have hb2 := Aside0.mk (below_then hdr.out hdr.out.size (below_alloc (Below.refl w1.drew.heap.size w1.drew) (.cells #[.int .u8 0, .int .u8 0, .bool false, .slice none 0 0, .slice none 0 0] 26)))
  obtain ⟨e0, e1, e2, e3, e4⟩ := hV2.cells
  obtain ⟨f0, f1, f2, f3, f4⟩ := hV2.free
  refine hK.out _ _ ((hQ.out _ (below_then hb1'.out hb1'.out.size hb2.out)).1) (fun hHeld => ?_)
  clear hK K
  refine norm_ (a' := ?_) ?_ ?_
  rotate_left
  · show Act.put _ (some 7) _ = _
    simp only [Act.put, List.setIfInBounds_toArray, List.set_cons_zero, List.set_cons_succ, i64_w, i32_w]
    rfl
  refine last_ (i := 16) (N := none) #[true, true, true, true, true, true, true, true, true, true, true, true, true, true, true, true, true] rfl rfl (by kernel_rfl) (by decide) (fun K hK => ?_)
  refine skip_ (w1 := ?_) (by rfl) rfl ?_ ?_
  rotate_left
  · go_simp
    rfl
  refine hK.out _ _ ?_
  clear hK K
  refine done_ (by kernel_rfl) ?_
  have hV4 : Box (w1.alloc (.cells #[.int .u8 0, .int .u8 4, .bool false, .slice none 0 0, .slice none 0 0] 26)).drew w1.heap.size (.int .u8 0) (.int .u8 4) (.bool false) (.slice none 0 0) (.slice none 0 0) := box_new w1 _ _ _ _ _
  have hb4 : Below w1.heap.size w1 (w1.alloc (.cells #[.int .u8 0, .int .u8 4, .bool false, .slice none 0 0, .slice none 0 0] 26)).drew := (below_alloc (Below.refl _ _) _).drew
  obtain ⟨w4, hw4⟩ : ∃ w4, (w1.alloc (.cells #[.int .u8 0, .int .u8 4, .bool false, .slice none 0 0, .slice none 0 0] 26)).drew = w4 := ⟨_, rfl⟩
  obtain ⟨V, hV⟩ : ∃ V, w1.heap.size = V := ⟨_, rfl⟩
  have hX4 := hX1.below hb4
  have hPV : P < V := by have := hX1.lt; omega
  rw [hw4, hV] at hV4
  rw [hw4] at hb4 hX4
  rw [hw4, hV]
  obtain ⟨c0, c1, c2, c3⟩ := hQ.out _ (below_then hb1'.out hb1'.out.size hb4)
  have hb14 := Aside0.mk hb4
  have hX4' := Aside0.mk hX4
  have hV4' := Aside0.mk hV4
  replace hV := Aside0.mk hV
  clear hb4 hX4 hX1 hV2 e0 e1 e2 e3 e4 f0 f1 f2 f3 f4 hw4 hV4
  have k1 : w4.cell? ⟨ad.block, ad.off + 1, none⟩ = some (.int .u8 130) := by rw [show (⟨ad.block, ad.off + 1, none⟩ : Addr) = ad.add 1 from by simp [Addr.add]]; exact c1
  go_wp2_with fail
  go_loopw [8, 11] (fun s8 s11 wr => ∃ (j : Nat) (nn : Int), s11 = .int .i64 (j : Int) ∧ s8 = .int .i64 nn ∧ Aside0 ((j = 0 ∧ nn = 0) ∨ (j = 1 ∧ nn = h) ∨ (j = 2 ∧ nn = (n : Int))) ∧ wr = w4) (fun _ s11 _ => 2 - (intOf s11).toNat)
  case atStart => exact ⟨0, 0, rfl, rfl, ⟨.inl ⟨rfl, rfl⟩⟩, rfl⟩
  case round =>
    obtain ⟨j, nn, rfl, rfl, hj, rfl⟩ := hrel
    rcases hj.out with ⟨rfl, rfl⟩ | ⟨rfl, rfl⟩ | ⟨rfl, rfl⟩
    · have k2 : wr.cell? ⟨ad.block, ad.off + 2, none⟩ = some (.int .u8 h) := by rw [show (⟨ad.block, ad.off + 2, none⟩ : Addr) = ad.add 2 from by simp [Addr.add]]; exact c2
      clear hj
      go_wp2_with fail
      go_roundw
      case rel => exact ⟨1, h, rfl, rfl, ⟨.inr (.inl ⟨rfl, rfl⟩)⟩, trivial⟩
      case measure => simp [intOf]
    · have k3 : wr.cell? ⟨ad.block, ad.off + 3, none⟩ = some (.int .u8 lo) := by rw [show (⟨ad.block, ad.off + 3, none⟩ : Addr) = ad.add 3 from by simp [Addr.add]]; exact c3
      clear hj
      go_wp2_with fail
      go_roundw
      case rel => exact ⟨2, (n : Int), rfl, by rw [hn9.out], ⟨.inr (.inr ⟨rfl, rfl⟩)⟩, trivial⟩
      case measure => simp [intOf]
    · clear hj
      go_wp2_with fail
      refine (hmc.out _).mono ?_
      rintro e w5 ⟨rfl, hd5⟩
      have hb5 := hd5.below
      have hX5 := hX4'.out.below hb5
      have hV5 := hV4'.out.below hb5
      obtain ⟨_, _, v2, _, _⟩ := hV5.cells
      obtain ⟨_, _, _, g3, _⟩ := hV5.free
      obtain ⟨_, _, _, v3, _⟩ := hV5.cells
      have hV6 : Box (w5.setCell ⟨V, 3, none⟩ (.slice A2 n (c - 4))) V (.int .u8 0) (.int .u8 4) (.bool false) (.slice A2 n (c - 4)) (.slice none 0 0) := by simpa [Box] using blk_set hV5 3 (.slice A2 n (c - 4))
      have hm6 := (Mod.refl (fun q => q = V) w5).setCell (p := ⟨V, 3, none⟩) (.inl rfl) (.slice A2 n (c - 4))
      obtain ⟨w6, hw6⟩ : ∃ w6, w5.setCell ⟨V, 3, none⟩ (.slice A2 n (c - 4)) = w6 := ⟨_, rfl⟩
      rw [hw6] at hV6 hm6
      have hX6 := hX5.mod hm6 (by omega)
      obtain ⟨m0, m1, m2, m3, m4⟩ := hV6.cells
      obtain ⟨n0', n1', n2', n3', n4'⟩ := hX6.cells
      obtain ⟨o0, o1, o2, o3, o4⟩ := hX6.free
      obtain ⟨w7, hw7, hX7, hm7⟩ := put5 hX6 (.int .u8 0) (.int .u8 4) (.bool false) (.slice A2 n (c - 4)) (.slice none 0 0)
      obtain ⟨r0, r1, r2, r3, r4⟩ := hX7.cells
      have hbw5 := below_then hb1'.out hb1'.out.size (below_then hb14.out hb14.out.size hb5)
      have hfin := Aside0.mk (show Below w.heap.size w w7 from Mod.below (S := fun q => w.heap.size ≤ q) (((Mod.of_below (S := fun q => w.heap.size ≤ q) hbw5).trans hm6 (fun q hq => .inl (by show w.heap.size ≤ q; have := hP9.out; omega))).trans hm7 (fun q hq => .inl (by show w.heap.size ≤ q; have := hP9.out; omega))) (fun q hq => hq) (Nat.le_refl _))
      replace hV6 := Aside0.mk hV6
      replace hX7 := Aside0.mk hX7
      clear hd5 hb5 hm6 hm7 hbw5 hX6 hV5 hX5 k1 c0 c1 c2 c3
      replace u1 := u1.out
      replace u2 := u2.out
      go_wp2_with fail
      rw [u2]
      refine bodyPost_ret (v := .tuple #[.agg #[.int .u8 0, .int .u8 4, .bool false, .slice A2 n (c - 4), .slice none 0 0], .int .i64 (4 + (n : Int)), .int .i64 0]) (by simp [results, Try.results43, go_sem, r0, r1, r2, r3, r4]) rfl ⟨⟨A2, c - 4, rfl⟩, hfin.out⟩
end Go.Proofs.Ytlmelbnmfhpacaa
