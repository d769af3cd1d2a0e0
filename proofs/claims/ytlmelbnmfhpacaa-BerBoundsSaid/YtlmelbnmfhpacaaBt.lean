/- The walk of BerLengths. -/
import Derived.Test.YtlmelbnmfhpacaaBq
set_option linter.unusedVariables false
set_option linter.unusedSimpArgs false
namespace Go.Proofs.Ytlmelbnmfhpacaa
open Go.RowKit Go.Shelf Go.Proofs.YtlmelbnmfhpacaaW.PrintWords Go.Proofs.YtlmelbnmfhpacaaW.PrintMore Go.Proofs.YtlmelbnmfhpacaaW.PrintLast

/-- A text of noughts, as a value. -/
def zT (n : Nat) : T := ⟨0, 4, false, List.replicate n 0, []⟩
def zS (n : Nat) : ByteArray := strOfNums (List.replicate n 0)
theorem zero_bytes (n : Nat) : ∀ x ∈ List.replicate n (0 : Int), 0 ≤ x ∧ x < 256 := fun x hx => by rw [List.eq_of_mem_replicate hx]; omega
theorem zS_bytes (n : Nat) : bytesOf (zS n) = List.replicate n 0 := bytes_str _ (zero_bytes n)
theorem zS_size (n : Nat) : (zS n).size = n := by
  have := bytesOf_length (zS n)
  rw [zS_bytes, List.length_replicate] at this
  exact this.symm
theorem zT_byte (n : Nat) : byteT (zT n) := ⟨by omega, by omega, zero_bytes n, trivial⟩
theorem zT_w (n : Nat) : wT (zT n) = 1 + n := by simp [zT, wT, wL]
theorem zT_arg (n : Nat) : argT (zT n) = true := by simp [zT, argT, argL]
theorem zT_size (n : Nat) : sizeT (zT n) = 1 + (lenL n).length + n := by simp [zT, sizeT, sizeL]
theorem zT_check (n : Nat) (h : n ≤ 70000) : checkN (zT n) = if n + 4 > 65536 then 3 else 0 := by
  have hd : deepT 1 (zT n) = true := by simp [zT, deepT, deepL]
  unfold checkN rightN
  rw [zT_arg, hd, zT_size, lenL_len]
  simp only [if_true]
  by_cases c : n + 4 > 65536
  · rw [if_pos c, if_pos]
    repeat' split
    all_goals omega
  · rw [if_neg c, if_neg]
    repeat' split
    all_goals omega
theorem zT_lay (n : Nat) : (layT (zT n)).length = 1 + (lenL n).length + n := by rw [sizeT_lay _ (zT_arg n), zT_size]
theorem sum_in (a b : Int) (h : -9000000000000000000 ≤ a + b ∧ a + b ≤ 9000000000000000000) : IntKind.i64.wrap (a + b) = a + b := IntWalk.i64_in _ (by omega)
set_option maxHeartbeats 16000000 in
set_option maxRecDepth 20000 in
theorem lengths_walk (n : Int) (w : World) (hn : -9223372036854775808 ≤ n ∧ n ≤ 9223372036854775807) :
    Calls Try.prog 4 #[.int .i64 n] w fun e w' => e = .returned (.bool true) ∧ Below w.heap.size w w' := by
  by_cases h0 : n < 0
  · go_enter Try.func4, Try.ntmps4
    go_wp2_with fail
    refine (known_calls _).mono ?_
    rintro e w1 ⟨rfl, hb1⟩
    have hb1 := Aside0.mk hb1
    go_wp2_with fail
    go_ret
    exact ⟨rfl, hb1.out⟩
  · have i1 : decide (n < 0) = false := by simp; omega
    by_cases h1 : 66000 < n
    · have i2 : decide (66000 < n) = true := by simp; omega
      clear h0 h1
      go_enter Try.func4, Try.ntmps4
      go_wp2_with fail
      refine (known_calls _).mono ?_
      rintro e w1 ⟨rfl, hb1⟩
      have hb1 := Aside0.mk hb1
      go_wp2_with fail
      go_ret
      exact ⟨rfl, hb1.out⟩
    · have i2 : decide (66000 < n) = false := by simp; omega
      obtain ⟨m, rfl⟩ := Int.eq_ofNat_of_zero_le (show 0 ≤ n by omega)
      have hm : m ≤ 66000 := by omega
      have hm9 := Aside0.mk hm
      have i0 : (0 : Int) ≤ (m : Int) := by omega
      clear h0 h1 hn
      have hw0 := Aside0.mk (Below.refl w.heap.size w)
      have hck := Aside0.mk (zT_check m (by omega))
      have hcv0 := fun (A : Option Addr) (c : Nat) (W : World) (h : kU.C W A m (List.replicate m 0)) => Kd.C_string (P := Try.prog) (dst := 9) (c := c) Try.underlying23 Try.underlying5 Try.underlying9 h
      have hcv0 := Aside0.mk (show ∀ (A : Option Addr) (c : Nat) (W : World), kU.C W A m (List.replicate m 0) → (convert 23 9 (.slice A m c)).run Try.prog W = .ok (.string (zS m)) W from hcv0)
      have hte := Aside0.mk (fun W => text_calls (zS m) W (by rw [zS_size]; have := hm9.out; omega))
      rw [zS_bytes] at hte
      obtain ⟨zs, hzs⟩ : ∃ zs, zS m = zs := ⟨_, rfl⟩
      rw [hzs] at hcv0 hte
      replace hzs := Aside0.mk hzs
      by_cases h2 : m + 4 > 65536
      · rw [if_pos h2] at hck
        have i3 : (65536 : Int) < (m : Int) + 4 := by omega
        clear h2
        go_enter Try.func4, Try.ntmps4
        go_wp2_with ((with_reducible refine gate_dst (N := 15) rfl ?_); refine Kd.R_make kU (w0 := w) w.heap.size 5 rfl rfl 23 (.tmp 14) (.tmp 14) rfl (m : Int) rfl rfl Try.underlying23 (.int .u8 0) 1 PBerEncodes.info5 rfl (by decide) (by omega) (0 : Int) (ok := fun _ => True) (okp := fun _ => False) rfl (fun _ h => h.elim) trivial i0 (by rw [Int.toNat_natCast]; have := hm9.out; omega) (Below.refl _ _) (Nat.le_refl _) ?_; intro v1 w1 ho hb1 _ _; rw [Int.toNat_natCast] at ho; obtain ⟨A1, c1, ev⟩ := Kd.R_slice ho; rw [List.length_replicate] at ev; subst ev; have hcv := hcv0.out A1 c1 w1 (by have := (Kd.R_reads' ho).2.2; rwa [List.length_replicate] at this); have hb1 := Aside0.mk hb1; have ho := Aside0.mk ho; replace hcv0 := Aside0.mk trivial)
        clear ho
        refine (hte.out w1).mono ?_
        rintro e w2 ⟨⟨A2, c2, B2, d2, rfl, hv2⟩, hb2⟩
        unfold bv
        dsimp only
        rw [List.length_replicate]
        obtain ⟨w3, w4, hw3, hw4, hX3, hX4, hb24⟩ := boxed w2 (zT m) A2 c2 B2 d2
        dsimp only [zT] at hw4 hX4
        rw [List.length_replicate] at hw4 hX4
        simp only [List.length_nil] at hw4 hX4 ⊢
        obtain ⟨V, hV⟩ : ∃ V, w2.heap.size = V := ⟨_, rfl⟩
        rw [hV] at hX3 hX4 hw4
        obtain ⟨a0, a1, a2, a3, a4⟩ := hX3.cells
        obtain ⟨f0, f1, f2, f3, f4⟩ := hX3.free
        obtain ⟨e0, e1, e2, e3, e4⟩ := hX4.cells
        have hb14 := below_then hb2 hb2.size hb24
        have hb4 := Aside0.mk (below_then hb1.out hb1.out.size hb14)
        have hv4 := Aside0.mk (show BvF w4 (fun q => w1.heap.size ≤ q) (zT m) A2 c2 B2 d2 from hv2.below hb24)
        have hX4 := Aside0.mk hX4
        clear hX3 hb24 hb14 hb2 hv2 hcv hte
        have hen := Aside0.mk (show Calls Try.prog 14 #[.agg #[.int .u8 0, .int .u8 4, .bool false, .slice A2 m c2, .slice B2 0 d2]] w4 (fun e w' => e = .returned (.tuple #[.slice none 0 0, .int .i64 3]) ∧ Below w4.heap.size w4 w') from by
          have h := enc_no (zT m) A2 c2 B2 d2 w4 hv4.out.now (zT_byte m) (by rw [zT_w]; have := hm9.out; omega) (by rw [hck.out]; decide)
          rw [hck.out] at h
          dsimp only [zT] at h
          rw [List.length_replicate] at h
          exact h)
        go_wp2_with fail
        refine hen.out.mono ?_
        rintro e w5 ⟨rfl, hb5⟩
        replace hw3 := Aside0.mk hw3
        replace hw4 := Aside0.mk hw4
        replace hV := Aside0.mk hV
        have hb5' := Aside0.mk (below_then hb4.out hb4.out.size hb5)
        clear hb5 hen
        go_wp2_with fail
        refine (known_calls _).mono ?_
        rintro e w6 ⟨rfl, hb6⟩
        have hb6' := Aside0.mk (below_then hb5'.out hb5'.out.size hb6)
        clear hb6
        go_wp2_with fail
        go_ret
        exact ⟨rfl, hb6'.out⟩
      · skip
        rw [if_neg h2] at hck
        have i3 : decide ((65536 : Int) < (m : Int) + 4) = false := by simp; omega
        have hlz := Aside0.mk (show ∃ l, layT (zT m) = l from ⟨_, rfl⟩)
        obtain ⟨l, hlz⟩ := hlz.out
        have hL9 := zT_lay m
        rw [hlz] at hL9
        obtain ⟨L, hL⟩ : ∃ L, l.length = L := ⟨_, rfl⟩
        rw [hL, lenL_len] at hL9
        have hLm : Aside0 (L ≤ 5 + m) := ⟨by rw [hL9]; (repeat' split) <;> omega⟩
        have hcvl : Aside0 (∀ A c W, kU.C W A L l → (convert 23 9 (.slice A L c)).run Try.prog W = .ok (.string (strOfNums l)) W) := ⟨fun A c W h => Kd.C_string (P := Try.prog) (dst := 9) (c := c) Try.underlying23 Try.underlying5 Try.underlying9 h⟩
        obtain ⟨str, hstr⟩ : ∃ str, strOfNums l = str := ⟨_, rfl⟩
        rw [hstr] at hcvl
        have hss : (str.toList == str.toList) = true := by simp
        replace hstr := Aside0.mk hstr
        replace hlz := Aside0.mk hlz
        have h2p := Aside0.mk (show m + 4 ≤ 65536 by omega)
        clear h2
        have k0 := Aside0.mk hL
        replace hL := k0
        by_cases h3 : m < 128
        · rw [if_pos h3] at hL9
          have j1 : decide ((128 : Int) ≤ (m : Int)) = false := by simp; omega
          have j2 : decide ((256 : Int) ≤ (m : Int)) = false := by simp; omega
          have j3 : (L : Int) = 2 + (m : Int) := by omega
          have j4 : IntKind.i64.wrap (2 + (m : Int)) = 2 + (m : Int) := sum_in _ _ (by have := hm9.out; omega)
          have j5 : ((L : Int) == 2 + (m : Int)) = true := by rw [j3]; simp
          clear hL9 h3 j3

          go_enter Try.func4, Try.ntmps4
          go_wp2_with ((with_reducible refine gate_dst (N := 15) rfl ?_); refine Kd.R_make kU (w0 := w) w.heap.size 5 rfl rfl 23 (.tmp 14) (.tmp 14) rfl (m : Int) rfl rfl Try.underlying23 (.int .u8 0) 1 PBerEncodes.info5 rfl (by decide) (by omega) (0 : Int) (ok := fun _ => True) (okp := fun _ => False) rfl (fun _ h => h.elim) trivial i0 (by rw [Int.toNat_natCast]; have := hm9.out; omega) (Below.refl _ _) (Nat.le_refl _) ?_; intro v1 w1 ho hb1 _ _; rw [Int.toNat_natCast] at ho; obtain ⟨A1, c1, ev⟩ := Kd.R_slice ho; rw [List.length_replicate] at ev; subst ev; have hcv := hcv0.out A1 c1 w1 (by have := (Kd.R_reads' ho).2.2; rwa [List.length_replicate] at this); have hb1 := Aside0.mk hb1; have ho := Aside0.mk ho; replace hcv0 := Aside0.mk trivial)
          clear ho
          refine (hte.out w1).mono ?_
          rintro e w2 ⟨⟨A2, c2, B2, d2, rfl, hv2⟩, hb2⟩
          unfold bv
          dsimp only
          rw [List.length_replicate]
          obtain ⟨w3, w4, hw3, hw4, hX3, hX4, hb24⟩ := boxed w2 (zT m) A2 c2 B2 d2
          dsimp only [zT] at hw4 hX4
          rw [List.length_replicate] at hw4 hX4
          simp only [List.length_nil] at hw4 hX4 ⊢
          obtain ⟨V, hV⟩ : ∃ V, w2.heap.size = V := ⟨_, rfl⟩
          rw [hV] at hX3 hX4 hw4
          obtain ⟨a0, a1, a2, a3, a4⟩ := hX3.cells
          obtain ⟨f0, f1, f2, f3, f4⟩ := hX3.free
          obtain ⟨e0, e1, e2, e3, e4⟩ := hX4.cells
          have hb14 := below_then hb2 hb2.size hb24
          have hb4 := Aside0.mk (below_then hb1.out hb1.out.size hb14)
          have hv4 := Aside0.mk (show BvF w4 (fun q => w1.heap.size ≤ q) (zT m) A2 c2 B2 d2 from hv2.below hb24)
          have hX4 := Aside0.mk hX4
          clear hX3 hb24 hb14 hb2 hv2 hcv hte
          have hen := Aside0.mk (show Calls Try.prog 14 #[.agg #[.int .u8 0, .int .u8 4, .bool false, .slice A2 m c2, .slice B2 0 d2]] w4 (fun e w' => ∃ A' c', e = .returned (.tuple #[.slice A' L c', .int .i64 0]) ∧ L ≤ c' ∧ kU.F w' (fun q => w4.heap.size ≤ q) A' L l ∧ Below w4.heap.size w4 w') from by
            have h := enc_yes (zT m) A2 c2 B2 d2 w4 hv4.out.now (zT_byte m) (by rw [zT_w]; have := hm9.out; omega) hck.out
            rw [hlz.out, hL.out] at h
            dsimp only [zT] at h
            rw [List.length_replicate] at h
            exact h)
          go_wp2_with fail
          refine hen.out.mono ?_
          rintro e w5 ⟨A5, c5, rfl, hc5, hF5, hb5⟩
          replace hw3 := Aside0.mk hw3
          replace hw4 := Aside0.mk hw4
          replace hV := Aside0.mk hV
          have hb5' := Aside0.mk (below_then hb4.out hb4.out.size hb5)
          have hX5 := Aside0.mk (hX4.out.below hb5)
          have hv5 := Aside0.mk (hv4.out.below hb5)
          have hF5 := Aside0.mk hF5
          clear hb5 hen a0 a1 a2 a3 a4 f0 f1 f2 f3 f4 e0 e1 e2 e3 e4
          go_wp2_with fail
          have hdr := Aside0.mk (below_drew (Below.refl w5.heap.size w5))
          have hS := Aside0.mk (show ∀ W, Below w5.heap.size w5 W → (W.cell? ⟨V, 0, none⟩ = some (.int .u8 0) ∧ W.cell? ⟨V, 1, none⟩ = some (.int .u8 4) ∧ W.cell? ⟨V, 2, none⟩ = some (.bool false) ∧ W.cell? ⟨V, 3, none⟩ = some (.slice A2 m c2) ∧ W.cell? ⟨V, 4, none⟩ = some (.slice B2 0 d2) ∧ (convert 23 9 (.slice A5 L c5)).run Try.prog W = .ok (.string str) W) from fun W hW => by
            obtain ⟨h0, h1, h2, h3, h4⟩ := (hX5.out.below hW).cells
            exact ⟨h0, h1, h2, h3, h4, hcvl.out _ _ _ (Kd.F_now (Kd.F_below hF5.out hW))⟩)
          have hrb := Aside0.mk (fun W (hW : Below w5.heap.size w5 W) => (show Calls Try.prog 17 #[.agg #[.int .u8 0, .int .u8 4, .bool false, .slice A2 m c2, .slice B2 0 d2]] W (fun e w' => ∃ A' c', e = .returned (.slice A' L c') ∧ kU.C w' A' L l ∧ Below W.heap.size W w') from by
            have h := rbytes_calls (zT m) A2 c2 B2 d2 W (hv5.out.below hW).now (zT_arg m) (zT_byte m) (by rw [hlz.out, hL.out]; have := hLm.out; have := hm9.out; omega)
            rw [hlz.out] at h
            unfold bv at h
            dsimp only [zT] at h
            rw [List.length_replicate] at h
            refine h.mono ?_
            rintro e w' ⟨A', c', rfl, hR, hb⟩
            have hC := (Kd.R_reads' hR).2.2
            rw [hL.out] at hC ⊢
            exact ⟨A', c', rfl, hC, hb⟩))
          refine start_ (n := 22) (S := fun w' => w'.cell? ⟨V, 0, none⟩ = some (.int .u8 0) ∧ w'.cell? ⟨V, 1, none⟩ = some (.int .u8 4) ∧ w'.cell? ⟨V, 2, none⟩ = some (.bool false) ∧ w'.cell? ⟨V, 3, none⟩ = some (.slice A2 m c2) ∧ w'.cell? ⟨V, 4, none⟩ = some (.slice B2 0 d2) ∧ (convert 23 9 (.slice A5 L c5)).run Try.prog w' = .ok (.string str) w') (ds := []) #[false, false, false, false, false, false, false, false, false, false, false, false, false, false, false, false, false, false, false, false, false, false] (by kernel_rfl) rfl rfl ⟨(hS.out _ hdr.out).1, (hS.out _ hdr.out).2.1, (hS.out _ hdr.out).2.2.1, (hS.out _ hdr.out).2.2.2.1, (hS.out _ hdr.out).2.2.2.2.1, (hS.out _ hdr.out).2.2.2.2.2⟩ (fun hHeld => ?_)
          refine pure_ (i := 0) (N := some 40) (v := ?_) (a' := ?_) #[true, false, false, false, false, false, false, false, false, false, false, false, false, false, false, false, false, false, false, false, false, false] rfl rfl (by kernel_rfl) (fun _ _ _ h => h) (Or.inl ⟨by rfl, ?_⟩) ?_ ?_
          rotate_left
          · intro w'
            go_simp
            with_reducible rfl
          rotate_left
          · simp only [Act.put, List.setIfInBounds_toArray, List.set_cons_zero, List.set_cons_succ, i64_w, i32_w]
            rfl
          refine pure_ (i := 1) (N := some 41) (v := ?_) (a' := ?_) #[true, true, false, false, false, false, false, false, false, false, false, false, false, false, false, false, false, false, false, false, false, false] rfl rfl (by kernel_rfl) (fun _ _ _ h => h) (Or.inl ⟨by rfl, ?_⟩) ?_ ?_
          rotate_left
          · intro w'
            go_simp
            with_reducible rfl
          rotate_left
          · simp only [Act.put, List.setIfInBounds_toArray, List.set_cons_zero, List.set_cons_succ, i64_w, i32_w]
            rfl
          refine pure_ (i := 2) (N := some 42) (v := ?_) (a' := ?_) #[true, true, true, false, false, false, false, false, false, false, false, false, false, false, false, false, false, false, false, false, false, false] rfl rfl (by kernel_rfl) (fun _ _ _ h => h) (Or.inl ⟨by rfl, ?_⟩) ?_ ?_
          rotate_left
          · intro w'
            go_simp
            with_reducible rfl
          rotate_left
          · simp only [Act.put, List.setIfInBounds_toArray, List.set_cons_zero, List.set_cons_succ, i64_w, i32_w]
            rfl
          refine pure_ (i := 3) (N := some 43) (v := ?_) (a' := ?_) #[true, true, true, true, false, false, false, false, false, false, false, false, false, false, false, false, false, false, false, false, false, false] rfl rfl (by kernel_rfl) (fun _ _ _ h => h) (Or.inl ⟨by rfl, ?_⟩) ?_ ?_
          rotate_left
          · intro w'
            go_simp
            with_reducible rfl
          rotate_left
          · simp only [Act.put, List.setIfInBounds_toArray, List.set_cons_zero, List.set_cons_succ, i64_w, i32_w]
            rfl
          refine pure_ (i := 4) (N := some 44) (v := ?_) (a' := ?_) #[true, true, true, true, true, false, false, false, false, false, false, false, false, false, false, false, false, false, false, false, false, false] rfl rfl (by kernel_rfl) (fun _ _ _ h => h) (Or.inl ⟨by rfl, ?_⟩) ?_ ?_
          rotate_left
          · intro w'
            go_simp
            with_reducible rfl
          rotate_left
          · simp only [Act.put, List.setIfInBounds_toArray, List.set_cons_zero, List.set_cons_succ, i64_w, i32_w]
            rfl
          refine pure_ (i := 5) (N := some 45) (v := ?_) (a' := ?_) #[true, true, true, true, true, true, false, false, false, false, false, false, false, false, false, false, false, false, false, false, false, false] rfl rfl (by kernel_rfl) (fun _ _ _ h => h) (Or.inl ⟨by rfl, ?_⟩) ?_ ?_
          rotate_left
          · intro w'
            go_simp
            with_reducible rfl
          rotate_left
          · simp only [Act.put, List.setIfInBounds_toArray, List.set_cons_zero, List.set_cons_succ, i64_w, i32_w]
            rfl
          refine pure_ (i := 6) (N := some 46) (v := ?_) (a' := ?_) #[true, true, true, true, true, true, true, false, false, false, false, false, false, false, false, false, false, false, false, false, false, false] rfl rfl (by kernel_rfl) (fun _ _ _ h => h) (Or.inl ⟨by rfl, ?_⟩) ?_ ?_
          rotate_left
          · intro w'
            go_simp
            with_reducible rfl
          rotate_left
          · simp only [Act.put, List.setIfInBounds_toArray, List.set_cons_zero, List.set_cons_succ, i64_w, i32_w]
            rfl
          refine pure_ (i := 7) (N := some 47) (v := ?_) (a' := ?_) #[true, true, true, true, true, true, true, true, false, false, false, false, false, false, false, false, false, false, false, false, false, false] rfl rfl (by kernel_rfl) (fun _ _ _ h => h) (Or.inl ⟨by rfl, ?_⟩) ?_ ?_
          rotate_left
          · intro w'
            go_simp
            with_reducible rfl
          rotate_left
          · simp only [Act.put, List.setIfInBounds_toArray, List.set_cons_zero, List.set_cons_succ, i64_w, i32_w]
            rfl
          refine pure_ (i := 8) (N := some 48) (v := ?_) (a' := ?_) #[true, true, true, true, true, true, true, true, true, false, false, false, false, false, false, false, false, false, false, false, false, false] rfl rfl (by kernel_rfl) (fun _ _ _ h => h) (Or.inl ⟨by rfl, ?_⟩) ?_ ?_
          rotate_left
          · intro w'
            go_simp
            with_reducible rfl
          rotate_left
          · simp only [Act.put, List.setIfInBounds_toArray, List.set_cons_zero, List.set_cons_succ, i64_w, i32_w]
            rfl
          refine pure_ (i := 9) (N := some 49) (v := ?_) (a' := ?_) #[true, true, true, true, true, true, true, true, true, true, false, false, false, false, false, false, false, false, false, false, false, false] rfl rfl (by kernel_rfl) (fun _ _ _ h => h) (Or.inl ⟨by rfl, ?_⟩) ?_ ?_
          rotate_left
          · intro w'
            go_simp
            with_reducible rfl
          rotate_left
          · simp only [Act.put, List.setIfInBounds_toArray, List.set_cons_zero, List.set_cons_succ, i64_w, i32_w]
            rfl
          refine pure_ (i := 10) (N := some 50) (v := ?_) (a' := ?_) #[true, true, true, true, true, true, true, true, true, true, true, false, false, false, false, false, false, false, false, false, false, false] rfl rfl (by kernel_rfl) (fun _ _ _ h => h) (Or.inl ⟨by rfl, ?_⟩) ?_ ?_
          rotate_left
          · intro w'
            go_simp
            with_reducible rfl
          rotate_left
          · simp only [Act.put, List.setIfInBounds_toArray, List.set_cons_zero, List.set_cons_succ, i64_w, i32_w]
            rfl
          refine pure_ (i := 11) (N := some 51) (v := ?_) (a' := ?_) #[true, true, true, true, true, true, true, true, true, true, true, true, false, false, false, false, false, false, false, false, false, false] rfl rfl (by kernel_rfl) (fun _ _ _ h => h) (Or.inl ⟨by rfl, ?_⟩) ?_ ?_
          rotate_left
          · intro w'
            go_simp
            with_reducible rfl
          rotate_left
          · simp only [Act.put, List.setIfInBounds_toArray, List.set_cons_zero, List.set_cons_succ, i64_w, i32_w]
            rfl
          refine take_ (i := 12) (N := some 52) (v := ?_) (a' := ?_) #[true, true, true, true, true, true, true, true, true, true, true, true, true, false, false, false, false, false, false, false, false, false] rfl rfl (by kernel_rfl) (fun _ _ _ h => h) (Or.inl ⟨by rfl, ?_⟩) hHeld ?_ ?_
          rotate_left
          · rintro w' ⟨s0, s1, s2, s3, s4, s5⟩
            go_simp
            with_reducible rfl
          rotate_left
          · simp only [Act.put, List.setIfInBounds_toArray, List.set_cons_zero, List.set_cons_succ, i64_w, i32_w]
            rfl
          refine take_ (i := 13) (N := some 53) (v := ?_) (a' := ?_) #[true, true, true, true, true, true, true, true, true, true, true, true, true, true, false, false, false, false, false, false, false, false] rfl rfl (by kernel_rfl) (fun _ _ _ h => h) (Or.inl ⟨by rfl, ?_⟩) hHeld ?_ ?_
          rotate_left
          · rintro w' ⟨s0, s1, s2, s3, s4, s5⟩
            go_simp
            with_reducible rfl
          rotate_left
          · simp only [Act.put, List.setIfInBounds_toArray, List.set_cons_zero, List.set_cons_succ, i64_w, i32_w]
            rfl
          refine one_ (i := 14) (N := some 54) #[true, true, true, true, true, true, true, true, true, true, true, true, true, true, true, false, false, false, false, false, false, false] rfl rfl (by kernel_rfl) (by decide) (fun K hK => ?_)
          refine goes_ Try.func17 (by kernel_rfl) rfl #[.agg #[.int .u8 0, .int .u8 4, .bool false, .slice A2 m c2, .slice B2 0 d2]] (by rfl) rfl rfl (by simp only [List.map_toArray, List.map_cons, List.map_nil]; rfl) ?_
          with_reducible refine ((hrb.out _ hdr.out)).mono ?_
          rintro e w9 ⟨A9, c9, rfl, hC9, hb9⟩
          refine ⟨_, rfl, ?_⟩
          have hcu := hcvl.out A9 c9 w9 hC9
          have h59 := Aside0.mk (below_then hdr.out hdr.out.size hb9)
          clear hC9 hb9
          refine hK.out _ _ ⟨(hS.out _ h59.out).1, (hS.out _ h59.out).2.1, (hS.out _ h59.out).2.2.1, (hS.out _ h59.out).2.2.2.1, (hS.out _ h59.out).2.2.2.2.1, (hS.out _ h59.out).2.2.2.2.2⟩ (fun hHeld => ?_)
          clear hK K
          refine norm_ (a' := ?_) ?_ ?_
          rotate_left
          · show Act.put _ (some 54) _ = _
            simp only [Act.put, List.setIfInBounds_toArray, List.set_cons_zero, List.set_cons_succ, i64_w, i32_w]
            rfl
          refine one_ (i := 15) (N := some 55) #[true, true, true, true, true, true, true, true, true, true, true, true, true, true, true, true, false, false, false, false, false, false] rfl rfl (by kernel_rfl) (by decide) (fun K hK => ?_)
          refine value_ (w1 := ?_) (v := ?_) (by rfl) rfl ?_ ?_
          rotate_left 2
          · go_simp
            constructor
            · rfl
            · rfl
          refine hK.out _ _ ⟨(hS.out _ h59.out).1, (hS.out _ h59.out).2.1, (hS.out _ h59.out).2.2.1, (hS.out _ h59.out).2.2.2.1, (hS.out _ h59.out).2.2.2.2.1, (hS.out _ h59.out).2.2.2.2.2⟩ (fun hHeld => ?_)
          clear hK K
          refine norm_ (a' := ?_) ?_ ?_
          rotate_left
          · show Act.put _ (some 55) _ = _
            simp only [Act.put, List.setIfInBounds_toArray, List.set_cons_zero, List.set_cons_succ, i64_w, i32_w]
            rfl
          refine pure_ (i := 16) (N := some 56) (v := ?_) (a' := ?_) #[true, true, true, true, true, true, true, true, true, true, true, true, true, true, true, true, true, false, false, false, false, false] rfl rfl (by kernel_rfl) (fun _ _ _ h => h) (Or.inl ⟨by rfl, ?_⟩) ?_ ?_
          rotate_left
          · intro w'
            go_simp
            with_reducible rfl
          rotate_left
          · simp only [Act.put, List.setIfInBounds_toArray, List.set_cons_zero, List.set_cons_succ, i64_w, i32_w]
            rfl
          refine pure_ (i := 17) (N := some 57) (v := ?_) (a' := ?_) #[true, true, true, true, true, true, true, true, true, true, true, true, true, true, true, true, true, true, false, false, false, false] rfl rfl (by kernel_rfl) (fun _ _ _ h => h) (Or.inl ⟨by rfl, ?_⟩) ?_ ?_
          rotate_left
          · intro w'
            go_simp
            with_reducible rfl
          rotate_left
          · simp only [Act.put, List.setIfInBounds_toArray, List.set_cons_zero, List.set_cons_succ, i64_w, i32_w]
            rfl
          refine pure_ (i := 18) (N := some 58) (v := ?_) (a' := ?_) #[true, true, true, true, true, true, true, true, true, true, true, true, true, true, true, true, true, true, true, false, false, false] rfl rfl (by kernel_rfl) (fun _ _ _ h => h) (Or.inl ⟨by rfl, ?_⟩) ?_ ?_
          rotate_left
          · intro w'
            go_simp
            with_reducible rfl
          rotate_left
          · simp only [Act.put, List.setIfInBounds_toArray, List.set_cons_zero, List.set_cons_succ, i64_w, i32_w]
            rfl
          refine one_ (i := 19) (N := some 59) #[true, true, true, true, true, true, true, true, true, true, true, true, true, true, true, true, true, true, true, true, false, false] rfl rfl (by kernel_rfl) (by decide) (fun K hK => ?_)
          refine goes_ Try.func10 (by kernel_rfl) rfl #[] (by rfl) rfl rfl (by simp only [List.map_toArray, List.map_nil]) ?_
          with_reducible refine ((known_calls _)).mono ?_
          rintro e w12 ⟨rfl, hb12⟩
          refine ⟨_, rfl, ?_⟩
          have h512 := Aside0.mk (below_then h59.out h59.out.size hb12)
          clear hb12
          refine hK.out _ _ ⟨(hS.out _ h512.out).1, (hS.out _ h512.out).2.1, (hS.out _ h512.out).2.2.1, (hS.out _ h512.out).2.2.2.1, (hS.out _ h512.out).2.2.2.2.1, (hS.out _ h512.out).2.2.2.2.2⟩ (fun hHeld => ?_)
          clear hK K
          refine norm_ (a' := ?_) ?_ ?_
          rotate_left
          · show Act.put _ (some 59) _ = _
            simp only [Act.put, List.setIfInBounds_toArray, List.set_cons_zero, List.set_cons_succ, i64_w, i32_w]
            rfl
          refine pure_ (i := 20) (N := some 60) (v := ?_) (a' := ?_) #[true, true, true, true, true, true, true, true, true, true, true, true, true, true, true, true, true, true, true, true, true, false] rfl rfl (by kernel_rfl) (fun _ _ _ h => h) (Or.inl ⟨by rfl, ?_⟩) ?_ ?_
          rotate_left
          · intro w'
            go_simp
            with_reducible rfl
          rotate_left
          · simp only [Act.put, List.setIfInBounds_toArray, List.set_cons_zero, List.set_cons_succ, i64_w, i32_w]
            rfl
          refine pure_ (i := 21) (N := some 2) (v := ?_) (a' := ?_) #[true, true, true, true, true, true, true, true, true, true, true, true, true, true, true, true, true, true, true, true, true, true] rfl rfl (by kernel_rfl) (fun _ _ _ h => h) (Or.inl ⟨by rfl, ?_⟩) ?_ ?_
          rotate_left
          · intro w'
            go_simp
            with_reducible rfl
          rotate_left
          · simp only [Act.put, List.setIfInBounds_toArray, List.set_cons_zero, List.set_cons_succ, i64_w, i32_w]
            rfl
          refine done_ (by kernel_rfl) ?_
          have hbf := Aside0.mk (below_then hb5'.out hb5'.out.size h512.out)
          go_wp2_with fail
          go_ret
          exact ⟨rfl, hbf.out⟩
        · rw [if_neg h3] at hL9
          have j1 : decide ((128 : Int) ≤ (m : Int)) = true := by simp; omega
          by_cases h4 : m < 256
          · rw [if_pos h4] at hL9
            have j2 : decide ((256 : Int) ≤ (m : Int)) = false := by simp; omega
            have j3 : (L : Int) = 3 + (m : Int) := by omega
            have j4 : IntKind.i64.wrap (3 + (m : Int)) = 3 + (m : Int) := sum_in _ _ (by have := hm9.out; omega)
            have j5 : ((L : Int) == 3 + (m : Int)) = true := by rw [j3]; simp
            clear hL9 h3 h4 j3

            go_enter Try.func4, Try.ntmps4
            go_wp2_with ((with_reducible refine gate_dst (N := 15) rfl ?_); refine Kd.R_make kU (w0 := w) w.heap.size 5 rfl rfl 23 (.tmp 14) (.tmp 14) rfl (m : Int) rfl rfl Try.underlying23 (.int .u8 0) 1 PBerEncodes.info5 rfl (by decide) (by omega) (0 : Int) (ok := fun _ => True) (okp := fun _ => False) rfl (fun _ h => h.elim) trivial i0 (by rw [Int.toNat_natCast]; have := hm9.out; omega) (Below.refl _ _) (Nat.le_refl _) ?_; intro v1 w1 ho hb1 _ _; rw [Int.toNat_natCast] at ho; obtain ⟨A1, c1, ev⟩ := Kd.R_slice ho; rw [List.length_replicate] at ev; subst ev; have hcv := hcv0.out A1 c1 w1 (by have := (Kd.R_reads' ho).2.2; rwa [List.length_replicate] at this); have hb1 := Aside0.mk hb1; have ho := Aside0.mk ho; replace hcv0 := Aside0.mk trivial)
            clear ho
            refine (hte.out w1).mono ?_
            rintro e w2 ⟨⟨A2, c2, B2, d2, rfl, hv2⟩, hb2⟩
            unfold bv
            dsimp only
            rw [List.length_replicate]
            obtain ⟨w3, w4, hw3, hw4, hX3, hX4, hb24⟩ := boxed w2 (zT m) A2 c2 B2 d2
            dsimp only [zT] at hw4 hX4
            rw [List.length_replicate] at hw4 hX4
            simp only [List.length_nil] at hw4 hX4 ⊢
            obtain ⟨V, hV⟩ : ∃ V, w2.heap.size = V := ⟨_, rfl⟩
            rw [hV] at hX3 hX4 hw4
            obtain ⟨a0, a1, a2, a3, a4⟩ := hX3.cells
            obtain ⟨f0, f1, f2, f3, f4⟩ := hX3.free
            obtain ⟨e0, e1, e2, e3, e4⟩ := hX4.cells
            have hb14 := below_then hb2 hb2.size hb24
            have hb4 := Aside0.mk (below_then hb1.out hb1.out.size hb14)
            have hv4 := Aside0.mk (show BvF w4 (fun q => w1.heap.size ≤ q) (zT m) A2 c2 B2 d2 from hv2.below hb24)
            have hX4 := Aside0.mk hX4
            clear hX3 hb24 hb14 hb2 hv2 hcv hte
            have hen := Aside0.mk (show Calls Try.prog 14 #[.agg #[.int .u8 0, .int .u8 4, .bool false, .slice A2 m c2, .slice B2 0 d2]] w4 (fun e w' => ∃ A' c', e = .returned (.tuple #[.slice A' L c', .int .i64 0]) ∧ L ≤ c' ∧ kU.F w' (fun q => w4.heap.size ≤ q) A' L l ∧ Below w4.heap.size w4 w') from by
              have h := enc_yes (zT m) A2 c2 B2 d2 w4 hv4.out.now (zT_byte m) (by rw [zT_w]; have := hm9.out; omega) hck.out
              rw [hlz.out, hL.out] at h
              dsimp only [zT] at h
              rw [List.length_replicate] at h
              exact h)
            go_wp2_with fail
            refine hen.out.mono ?_
            rintro e w5 ⟨A5, c5, rfl, hc5, hF5, hb5⟩
            replace hw3 := Aside0.mk hw3
            replace hw4 := Aside0.mk hw4
            replace hV := Aside0.mk hV
            have hb5' := Aside0.mk (below_then hb4.out hb4.out.size hb5)
            have hX5 := Aside0.mk (hX4.out.below hb5)
            have hv5 := Aside0.mk (hv4.out.below hb5)
            have hF5 := Aside0.mk hF5
            clear hb5 hen a0 a1 a2 a3 a4 f0 f1 f2 f3 f4 e0 e1 e2 e3 e4
            go_wp2_with fail
            have hdr := Aside0.mk (below_drew (Below.refl w5.heap.size w5))
            have hS := Aside0.mk (show ∀ W, Below w5.heap.size w5 W → (W.cell? ⟨V, 0, none⟩ = some (.int .u8 0) ∧ W.cell? ⟨V, 1, none⟩ = some (.int .u8 4) ∧ W.cell? ⟨V, 2, none⟩ = some (.bool false) ∧ W.cell? ⟨V, 3, none⟩ = some (.slice A2 m c2) ∧ W.cell? ⟨V, 4, none⟩ = some (.slice B2 0 d2) ∧ (convert 23 9 (.slice A5 L c5)).run Try.prog W = .ok (.string str) W) from fun W hW => by
              obtain ⟨h0, h1, h2, h3, h4⟩ := (hX5.out.below hW).cells
              exact ⟨h0, h1, h2, h3, h4, hcvl.out _ _ _ (Kd.F_now (Kd.F_below hF5.out hW))⟩)
            have hrb := Aside0.mk (fun W (hW : Below w5.heap.size w5 W) => (show Calls Try.prog 17 #[.agg #[.int .u8 0, .int .u8 4, .bool false, .slice A2 m c2, .slice B2 0 d2]] W (fun e w' => ∃ A' c', e = .returned (.slice A' L c') ∧ kU.C w' A' L l ∧ Below W.heap.size W w') from by
              have h := rbytes_calls (zT m) A2 c2 B2 d2 W (hv5.out.below hW).now (zT_arg m) (zT_byte m) (by rw [hlz.out, hL.out]; have := hLm.out; have := hm9.out; omega)
              rw [hlz.out] at h
              unfold bv at h
              dsimp only [zT] at h
              rw [List.length_replicate] at h
              refine h.mono ?_
              rintro e w' ⟨A', c', rfl, hR, hb⟩
              have hC := (Kd.R_reads' hR).2.2
              rw [hL.out] at hC ⊢
              exact ⟨A', c', rfl, hC, hb⟩))
            refine start_ (n := 22) (S := fun w' => w'.cell? ⟨V, 0, none⟩ = some (.int .u8 0) ∧ w'.cell? ⟨V, 1, none⟩ = some (.int .u8 4) ∧ w'.cell? ⟨V, 2, none⟩ = some (.bool false) ∧ w'.cell? ⟨V, 3, none⟩ = some (.slice A2 m c2) ∧ w'.cell? ⟨V, 4, none⟩ = some (.slice B2 0 d2) ∧ (convert 23 9 (.slice A5 L c5)).run Try.prog w' = .ok (.string str) w') (ds := []) #[false, false, false, false, false, false, false, false, false, false, false, false, false, false, false, false, false, false, false, false, false, false] (by kernel_rfl) rfl rfl ⟨(hS.out _ hdr.out).1, (hS.out _ hdr.out).2.1, (hS.out _ hdr.out).2.2.1, (hS.out _ hdr.out).2.2.2.1, (hS.out _ hdr.out).2.2.2.2.1, (hS.out _ hdr.out).2.2.2.2.2⟩ (fun hHeld => ?_)
            refine pure_ (i := 0) (N := some 40) (v := ?_) (a' := ?_) #[true, false, false, false, false, false, false, false, false, false, false, false, false, false, false, false, false, false, false, false, false, false] rfl rfl (by kernel_rfl) (fun _ _ _ h => h) (Or.inl ⟨by rfl, ?_⟩) ?_ ?_
            rotate_left
            · intro w'
              go_simp
              with_reducible rfl
            rotate_left
            · simp only [Act.put, List.setIfInBounds_toArray, List.set_cons_zero, List.set_cons_succ, i64_w, i32_w]
              rfl
            refine pure_ (i := 1) (N := some 41) (v := ?_) (a' := ?_) #[true, true, false, false, false, false, false, false, false, false, false, false, false, false, false, false, false, false, false, false, false, false] rfl rfl (by kernel_rfl) (fun _ _ _ h => h) (Or.inl ⟨by rfl, ?_⟩) ?_ ?_
            rotate_left
            · intro w'
              go_simp
              with_reducible rfl
            rotate_left
            · simp only [Act.put, List.setIfInBounds_toArray, List.set_cons_zero, List.set_cons_succ, i64_w, i32_w]
              rfl
            refine pure_ (i := 2) (N := some 42) (v := ?_) (a' := ?_) #[true, true, true, false, false, false, false, false, false, false, false, false, false, false, false, false, false, false, false, false, false, false] rfl rfl (by kernel_rfl) (fun _ _ _ h => h) (Or.inl ⟨by rfl, ?_⟩) ?_ ?_
            rotate_left
            · intro w'
              go_simp
              with_reducible rfl
            rotate_left
            · simp only [Act.put, List.setIfInBounds_toArray, List.set_cons_zero, List.set_cons_succ, i64_w, i32_w]
              rfl
            refine pure_ (i := 3) (N := some 43) (v := ?_) (a' := ?_) #[true, true, true, true, false, false, false, false, false, false, false, false, false, false, false, false, false, false, false, false, false, false] rfl rfl (by kernel_rfl) (fun _ _ _ h => h) (Or.inl ⟨by rfl, ?_⟩) ?_ ?_
            rotate_left
            · intro w'
              go_simp
              with_reducible rfl
            rotate_left
            · simp only [Act.put, List.setIfInBounds_toArray, List.set_cons_zero, List.set_cons_succ, i64_w, i32_w]
              rfl
            refine pure_ (i := 4) (N := some 44) (v := ?_) (a' := ?_) #[true, true, true, true, true, false, false, false, false, false, false, false, false, false, false, false, false, false, false, false, false, false] rfl rfl (by kernel_rfl) (fun _ _ _ h => h) (Or.inl ⟨by rfl, ?_⟩) ?_ ?_
            rotate_left
            · intro w'
              go_simp
              with_reducible rfl
            rotate_left
            · simp only [Act.put, List.setIfInBounds_toArray, List.set_cons_zero, List.set_cons_succ, i64_w, i32_w]
              rfl
            refine pure_ (i := 5) (N := some 45) (v := ?_) (a' := ?_) #[true, true, true, true, true, true, false, false, false, false, false, false, false, false, false, false, false, false, false, false, false, false] rfl rfl (by kernel_rfl) (fun _ _ _ h => h) (Or.inl ⟨by rfl, ?_⟩) ?_ ?_
            rotate_left
            · intro w'
              go_simp
              with_reducible rfl
            rotate_left
            · simp only [Act.put, List.setIfInBounds_toArray, List.set_cons_zero, List.set_cons_succ, i64_w, i32_w]
              rfl
            refine pure_ (i := 6) (N := some 46) (v := ?_) (a' := ?_) #[true, true, true, true, true, true, true, false, false, false, false, false, false, false, false, false, false, false, false, false, false, false] rfl rfl (by kernel_rfl) (fun _ _ _ h => h) (Or.inl ⟨by rfl, ?_⟩) ?_ ?_
            rotate_left
            · intro w'
              go_simp
              with_reducible rfl
            rotate_left
            · simp only [Act.put, List.setIfInBounds_toArray, List.set_cons_zero, List.set_cons_succ, i64_w, i32_w]
              rfl
            refine pure_ (i := 7) (N := some 47) (v := ?_) (a' := ?_) #[true, true, true, true, true, true, true, true, false, false, false, false, false, false, false, false, false, false, false, false, false, false] rfl rfl (by kernel_rfl) (fun _ _ _ h => h) (Or.inl ⟨by rfl, ?_⟩) ?_ ?_
            rotate_left
            · intro w'
              go_simp
              with_reducible rfl
            rotate_left
            · simp only [Act.put, List.setIfInBounds_toArray, List.set_cons_zero, List.set_cons_succ, i64_w, i32_w]
              rfl
            refine pure_ (i := 8) (N := some 48) (v := ?_) (a' := ?_) #[true, true, true, true, true, true, true, true, true, false, false, false, false, false, false, false, false, false, false, false, false, false] rfl rfl (by kernel_rfl) (fun _ _ _ h => h) (Or.inl ⟨by rfl, ?_⟩) ?_ ?_
            rotate_left
            · intro w'
              go_simp
              with_reducible rfl
            rotate_left
            · simp only [Act.put, List.setIfInBounds_toArray, List.set_cons_zero, List.set_cons_succ, i64_w, i32_w]
              rfl
            refine pure_ (i := 9) (N := some 49) (v := ?_) (a' := ?_) #[true, true, true, true, true, true, true, true, true, true, false, false, false, false, false, false, false, false, false, false, false, false] rfl rfl (by kernel_rfl) (fun _ _ _ h => h) (Or.inl ⟨by rfl, ?_⟩) ?_ ?_
            rotate_left
            · intro w'
              go_simp
              with_reducible rfl
            rotate_left
            · simp only [Act.put, List.setIfInBounds_toArray, List.set_cons_zero, List.set_cons_succ, i64_w, i32_w]
              rfl
            refine pure_ (i := 10) (N := some 50) (v := ?_) (a' := ?_) #[true, true, true, true, true, true, true, true, true, true, true, false, false, false, false, false, false, false, false, false, false, false] rfl rfl (by kernel_rfl) (fun _ _ _ h => h) (Or.inl ⟨by rfl, ?_⟩) ?_ ?_
            rotate_left
            · intro w'
              go_simp
              with_reducible rfl
            rotate_left
            · simp only [Act.put, List.setIfInBounds_toArray, List.set_cons_zero, List.set_cons_succ, i64_w, i32_w]
              rfl
            refine pure_ (i := 11) (N := some 51) (v := ?_) (a' := ?_) #[true, true, true, true, true, true, true, true, true, true, true, true, false, false, false, false, false, false, false, false, false, false] rfl rfl (by kernel_rfl) (fun _ _ _ h => h) (Or.inl ⟨by rfl, ?_⟩) ?_ ?_
            rotate_left
            · intro w'
              go_simp
              with_reducible rfl
            rotate_left
            · simp only [Act.put, List.setIfInBounds_toArray, List.set_cons_zero, List.set_cons_succ, i64_w, i32_w]
              rfl
            refine take_ (i := 12) (N := some 52) (v := ?_) (a' := ?_) #[true, true, true, true, true, true, true, true, true, true, true, true, true, false, false, false, false, false, false, false, false, false] rfl rfl (by kernel_rfl) (fun _ _ _ h => h) (Or.inl ⟨by rfl, ?_⟩) hHeld ?_ ?_
            rotate_left
            · rintro w' ⟨s0, s1, s2, s3, s4, s5⟩
              go_simp
              with_reducible rfl
            rotate_left
            · simp only [Act.put, List.setIfInBounds_toArray, List.set_cons_zero, List.set_cons_succ, i64_w, i32_w]
              rfl
            refine take_ (i := 13) (N := some 53) (v := ?_) (a' := ?_) #[true, true, true, true, true, true, true, true, true, true, true, true, true, true, false, false, false, false, false, false, false, false] rfl rfl (by kernel_rfl) (fun _ _ _ h => h) (Or.inl ⟨by rfl, ?_⟩) hHeld ?_ ?_
            rotate_left
            · rintro w' ⟨s0, s1, s2, s3, s4, s5⟩
              go_simp
              with_reducible rfl
            rotate_left
            · simp only [Act.put, List.setIfInBounds_toArray, List.set_cons_zero, List.set_cons_succ, i64_w, i32_w]
              rfl
            refine one_ (i := 14) (N := some 54) #[true, true, true, true, true, true, true, true, true, true, true, true, true, true, true, false, false, false, false, false, false, false] rfl rfl (by kernel_rfl) (by decide) (fun K hK => ?_)
            refine goes_ Try.func17 (by kernel_rfl) rfl #[.agg #[.int .u8 0, .int .u8 4, .bool false, .slice A2 m c2, .slice B2 0 d2]] (by rfl) rfl rfl (by simp only [List.map_toArray, List.map_cons, List.map_nil]; rfl) ?_
            with_reducible refine ((hrb.out _ hdr.out)).mono ?_
            rintro e w9 ⟨A9, c9, rfl, hC9, hb9⟩
            refine ⟨_, rfl, ?_⟩
            have hcu := hcvl.out A9 c9 w9 hC9
            have h59 := Aside0.mk (below_then hdr.out hdr.out.size hb9)
            clear hC9 hb9
            refine hK.out _ _ ⟨(hS.out _ h59.out).1, (hS.out _ h59.out).2.1, (hS.out _ h59.out).2.2.1, (hS.out _ h59.out).2.2.2.1, (hS.out _ h59.out).2.2.2.2.1, (hS.out _ h59.out).2.2.2.2.2⟩ (fun hHeld => ?_)
            clear hK K
            refine norm_ (a' := ?_) ?_ ?_
            rotate_left
            · show Act.put _ (some 54) _ = _
              simp only [Act.put, List.setIfInBounds_toArray, List.set_cons_zero, List.set_cons_succ, i64_w, i32_w]
              rfl
            refine one_ (i := 15) (N := some 55) #[true, true, true, true, true, true, true, true, true, true, true, true, true, true, true, true, false, false, false, false, false, false] rfl rfl (by kernel_rfl) (by decide) (fun K hK => ?_)
            refine value_ (w1 := ?_) (v := ?_) (by rfl) rfl ?_ ?_
            rotate_left 2
            · go_simp
              constructor
              · rfl
              · rfl
            refine hK.out _ _ ⟨(hS.out _ h59.out).1, (hS.out _ h59.out).2.1, (hS.out _ h59.out).2.2.1, (hS.out _ h59.out).2.2.2.1, (hS.out _ h59.out).2.2.2.2.1, (hS.out _ h59.out).2.2.2.2.2⟩ (fun hHeld => ?_)
            clear hK K
            refine norm_ (a' := ?_) ?_ ?_
            rotate_left
            · show Act.put _ (some 55) _ = _
              simp only [Act.put, List.setIfInBounds_toArray, List.set_cons_zero, List.set_cons_succ, i64_w, i32_w]
              rfl
            refine pure_ (i := 16) (N := some 56) (v := ?_) (a' := ?_) #[true, true, true, true, true, true, true, true, true, true, true, true, true, true, true, true, true, false, false, false, false, false] rfl rfl (by kernel_rfl) (fun _ _ _ h => h) (Or.inl ⟨by rfl, ?_⟩) ?_ ?_
            rotate_left
            · intro w'
              go_simp
              with_reducible rfl
            rotate_left
            · simp only [Act.put, List.setIfInBounds_toArray, List.set_cons_zero, List.set_cons_succ, i64_w, i32_w]
              rfl
            refine pure_ (i := 17) (N := some 57) (v := ?_) (a' := ?_) #[true, true, true, true, true, true, true, true, true, true, true, true, true, true, true, true, true, true, false, false, false, false] rfl rfl (by kernel_rfl) (fun _ _ _ h => h) (Or.inl ⟨by rfl, ?_⟩) ?_ ?_
            rotate_left
            · intro w'
              go_simp
              with_reducible rfl
            rotate_left
            · simp only [Act.put, List.setIfInBounds_toArray, List.set_cons_zero, List.set_cons_succ, i64_w, i32_w]
              rfl
            refine pure_ (i := 18) (N := some 58) (v := ?_) (a' := ?_) #[true, true, true, true, true, true, true, true, true, true, true, true, true, true, true, true, true, true, true, false, false, false] rfl rfl (by kernel_rfl) (fun _ _ _ h => h) (Or.inl ⟨by rfl, ?_⟩) ?_ ?_
            rotate_left
            · intro w'
              go_simp
              with_reducible rfl
            rotate_left
            · simp only [Act.put, List.setIfInBounds_toArray, List.set_cons_zero, List.set_cons_succ, i64_w, i32_w]
              rfl
            refine one_ (i := 19) (N := some 59) #[true, true, true, true, true, true, true, true, true, true, true, true, true, true, true, true, true, true, true, true, false, false] rfl rfl (by kernel_rfl) (by decide) (fun K hK => ?_)
            refine goes_ Try.func10 (by kernel_rfl) rfl #[] (by rfl) rfl rfl (by simp only [List.map_toArray, List.map_nil]) ?_
            with_reducible refine ((known_calls _)).mono ?_
            rintro e w12 ⟨rfl, hb12⟩
            refine ⟨_, rfl, ?_⟩
            have h512 := Aside0.mk (below_then h59.out h59.out.size hb12)
            clear hb12
            refine hK.out _ _ ⟨(hS.out _ h512.out).1, (hS.out _ h512.out).2.1, (hS.out _ h512.out).2.2.1, (hS.out _ h512.out).2.2.2.1, (hS.out _ h512.out).2.2.2.2.1, (hS.out _ h512.out).2.2.2.2.2⟩ (fun hHeld => ?_)
            clear hK K
            refine norm_ (a' := ?_) ?_ ?_
            rotate_left
            · show Act.put _ (some 59) _ = _
              simp only [Act.put, List.setIfInBounds_toArray, List.set_cons_zero, List.set_cons_succ, i64_w, i32_w]
              rfl
            refine pure_ (i := 20) (N := some 60) (v := ?_) (a' := ?_) #[true, true, true, true, true, true, true, true, true, true, true, true, true, true, true, true, true, true, true, true, true, false] rfl rfl (by kernel_rfl) (fun _ _ _ h => h) (Or.inl ⟨by rfl, ?_⟩) ?_ ?_
            rotate_left
            · intro w'
              go_simp
              with_reducible rfl
            rotate_left
            · simp only [Act.put, List.setIfInBounds_toArray, List.set_cons_zero, List.set_cons_succ, i64_w, i32_w]
              rfl
            refine pure_ (i := 21) (N := some 2) (v := ?_) (a' := ?_) #[true, true, true, true, true, true, true, true, true, true, true, true, true, true, true, true, true, true, true, true, true, true] rfl rfl (by kernel_rfl) (fun _ _ _ h => h) (Or.inl ⟨by rfl, ?_⟩) ?_ ?_
            rotate_left
            · intro w'
              go_simp
              with_reducible rfl
            rotate_left
            · simp only [Act.put, List.setIfInBounds_toArray, List.set_cons_zero, List.set_cons_succ, i64_w, i32_w]
              rfl
            refine done_ (by kernel_rfl) ?_
            have hbf := Aside0.mk (below_then hb5'.out hb5'.out.size h512.out)
            go_wp2_with fail
            go_ret
            exact ⟨rfl, hbf.out⟩
          · rw [if_neg h4, if_pos (show m < 65536 by have := h2p.out; omega)] at hL9
            have j2 : decide ((256 : Int) ≤ (m : Int)) = true := by simp; omega
            have j3 : (L : Int) = 4 + (m : Int) := by omega
            have j4 : IntKind.i64.wrap (4 + (m : Int)) = 4 + (m : Int) := sum_in _ _ (by have := hm9.out; omega)
            have j5 : ((L : Int) == 4 + (m : Int)) = true := by rw [j3]; simp
            clear hL9 h3 h4 j3

            go_enter Try.func4, Try.ntmps4
            go_wp2_with ((with_reducible refine gate_dst (N := 15) rfl ?_); refine Kd.R_make kU (w0 := w) w.heap.size 5 rfl rfl 23 (.tmp 14) (.tmp 14) rfl (m : Int) rfl rfl Try.underlying23 (.int .u8 0) 1 PBerEncodes.info5 rfl (by decide) (by omega) (0 : Int) (ok := fun _ => True) (okp := fun _ => False) rfl (fun _ h => h.elim) trivial i0 (by rw [Int.toNat_natCast]; have := hm9.out; omega) (Below.refl _ _) (Nat.le_refl _) ?_; intro v1 w1 ho hb1 _ _; rw [Int.toNat_natCast] at ho; obtain ⟨A1, c1, ev⟩ := Kd.R_slice ho; rw [List.length_replicate] at ev; subst ev; have hcv := hcv0.out A1 c1 w1 (by have := (Kd.R_reads' ho).2.2; rwa [List.length_replicate] at this); have hb1 := Aside0.mk hb1; have ho := Aside0.mk ho; replace hcv0 := Aside0.mk trivial)
            clear ho
            refine (hte.out w1).mono ?_
            rintro e w2 ⟨⟨A2, c2, B2, d2, rfl, hv2⟩, hb2⟩
            unfold bv
            dsimp only
            rw [List.length_replicate]
            obtain ⟨w3, w4, hw3, hw4, hX3, hX4, hb24⟩ := boxed w2 (zT m) A2 c2 B2 d2
            dsimp only [zT] at hw4 hX4
            rw [List.length_replicate] at hw4 hX4
            simp only [List.length_nil] at hw4 hX4 ⊢
            obtain ⟨V, hV⟩ : ∃ V, w2.heap.size = V := ⟨_, rfl⟩
            rw [hV] at hX3 hX4 hw4
            obtain ⟨a0, a1, a2, a3, a4⟩ := hX3.cells
            obtain ⟨f0, f1, f2, f3, f4⟩ := hX3.free
            obtain ⟨e0, e1, e2, e3, e4⟩ := hX4.cells
            have hb14 := below_then hb2 hb2.size hb24
            have hb4 := Aside0.mk (below_then hb1.out hb1.out.size hb14)
            have hv4 := Aside0.mk (show BvF w4 (fun q => w1.heap.size ≤ q) (zT m) A2 c2 B2 d2 from hv2.below hb24)
            have hX4 := Aside0.mk hX4
            clear hX3 hb24 hb14 hb2 hv2 hcv hte
            have hen := Aside0.mk (show Calls Try.prog 14 #[.agg #[.int .u8 0, .int .u8 4, .bool false, .slice A2 m c2, .slice B2 0 d2]] w4 (fun e w' => ∃ A' c', e = .returned (.tuple #[.slice A' L c', .int .i64 0]) ∧ L ≤ c' ∧ kU.F w' (fun q => w4.heap.size ≤ q) A' L l ∧ Below w4.heap.size w4 w') from by
              have h := enc_yes (zT m) A2 c2 B2 d2 w4 hv4.out.now (zT_byte m) (by rw [zT_w]; have := hm9.out; omega) hck.out
              rw [hlz.out, hL.out] at h
              dsimp only [zT] at h
              rw [List.length_replicate] at h
              exact h)
            go_wp2_with fail
            refine hen.out.mono ?_
            rintro e w5 ⟨A5, c5, rfl, hc5, hF5, hb5⟩
            replace hw3 := Aside0.mk hw3
            replace hw4 := Aside0.mk hw4
            replace hV := Aside0.mk hV
            have hb5' := Aside0.mk (below_then hb4.out hb4.out.size hb5)
            have hX5 := Aside0.mk (hX4.out.below hb5)
            have hv5 := Aside0.mk (hv4.out.below hb5)
            have hF5 := Aside0.mk hF5
            clear hb5 hen a0 a1 a2 a3 a4 f0 f1 f2 f3 f4 e0 e1 e2 e3 e4
            go_wp2_with fail
            have hdr := Aside0.mk (below_drew (Below.refl w5.heap.size w5))
            have hS := Aside0.mk (show ∀ W, Below w5.heap.size w5 W → (W.cell? ⟨V, 0, none⟩ = some (.int .u8 0) ∧ W.cell? ⟨V, 1, none⟩ = some (.int .u8 4) ∧ W.cell? ⟨V, 2, none⟩ = some (.bool false) ∧ W.cell? ⟨V, 3, none⟩ = some (.slice A2 m c2) ∧ W.cell? ⟨V, 4, none⟩ = some (.slice B2 0 d2) ∧ (convert 23 9 (.slice A5 L c5)).run Try.prog W = .ok (.string str) W) from fun W hW => by
              obtain ⟨h0, h1, h2, h3, h4⟩ := (hX5.out.below hW).cells
              exact ⟨h0, h1, h2, h3, h4, hcvl.out _ _ _ (Kd.F_now (Kd.F_below hF5.out hW))⟩)
            have hrb := Aside0.mk (fun W (hW : Below w5.heap.size w5 W) => (show Calls Try.prog 17 #[.agg #[.int .u8 0, .int .u8 4, .bool false, .slice A2 m c2, .slice B2 0 d2]] W (fun e w' => ∃ A' c', e = .returned (.slice A' L c') ∧ kU.C w' A' L l ∧ Below W.heap.size W w') from by
              have h := rbytes_calls (zT m) A2 c2 B2 d2 W (hv5.out.below hW).now (zT_arg m) (zT_byte m) (by rw [hlz.out, hL.out]; have := hLm.out; have := hm9.out; omega)
              rw [hlz.out] at h
              unfold bv at h
              dsimp only [zT] at h
              rw [List.length_replicate] at h
              refine h.mono ?_
              rintro e w' ⟨A', c', rfl, hR, hb⟩
              have hC := (Kd.R_reads' hR).2.2
              rw [hL.out] at hC ⊢
              exact ⟨A', c', rfl, hC, hb⟩))
            refine start_ (n := 22) (S := fun w' => w'.cell? ⟨V, 0, none⟩ = some (.int .u8 0) ∧ w'.cell? ⟨V, 1, none⟩ = some (.int .u8 4) ∧ w'.cell? ⟨V, 2, none⟩ = some (.bool false) ∧ w'.cell? ⟨V, 3, none⟩ = some (.slice A2 m c2) ∧ w'.cell? ⟨V, 4, none⟩ = some (.slice B2 0 d2) ∧ (convert 23 9 (.slice A5 L c5)).run Try.prog w' = .ok (.string str) w') (ds := []) #[false, false, false, false, false, false, false, false, false, false, false, false, false, false, false, false, false, false, false, false, false, false] (by kernel_rfl) rfl rfl ⟨(hS.out _ hdr.out).1, (hS.out _ hdr.out).2.1, (hS.out _ hdr.out).2.2.1, (hS.out _ hdr.out).2.2.2.1, (hS.out _ hdr.out).2.2.2.2.1, (hS.out _ hdr.out).2.2.2.2.2⟩ (fun hHeld => ?_)
            refine pure_ (i := 0) (N := some 40) (v := ?_) (a' := ?_) #[true, false, false, false, false, false, false, false, false, false, false, false, false, false, false, false, false, false, false, false, false, false] rfl rfl (by kernel_rfl) (fun _ _ _ h => h) (Or.inl ⟨by rfl, ?_⟩) ?_ ?_
            rotate_left
            · intro w'
              go_simp
              with_reducible rfl
            rotate_left
            · simp only [Act.put, List.setIfInBounds_toArray, List.set_cons_zero, List.set_cons_succ, i64_w, i32_w]
              rfl
            refine pure_ (i := 1) (N := some 41) (v := ?_) (a' := ?_) #[true, true, false, false, false, false, false, false, false, false, false, false, false, false, false, false, false, false, false, false, false, false] rfl rfl (by kernel_rfl) (fun _ _ _ h => h) (Or.inl ⟨by rfl, ?_⟩) ?_ ?_
            rotate_left
            · intro w'
              go_simp
              with_reducible rfl
            rotate_left
            · simp only [Act.put, List.setIfInBounds_toArray, List.set_cons_zero, List.set_cons_succ, i64_w, i32_w]
              rfl
            refine pure_ (i := 2) (N := some 42) (v := ?_) (a' := ?_) #[true, true, true, false, false, false, false, false, false, false, false, false, false, false, false, false, false, false, false, false, false, false] rfl rfl (by kernel_rfl) (fun _ _ _ h => h) (Or.inl ⟨by rfl, ?_⟩) ?_ ?_
            rotate_left
            · intro w'
              go_simp
              with_reducible rfl
            rotate_left
            · simp only [Act.put, List.setIfInBounds_toArray, List.set_cons_zero, List.set_cons_succ, i64_w, i32_w]
              rfl
            refine pure_ (i := 3) (N := some 43) (v := ?_) (a' := ?_) #[true, true, true, true, false, false, false, false, false, false, false, false, false, false, false, false, false, false, false, false, false, false] rfl rfl (by kernel_rfl) (fun _ _ _ h => h) (Or.inl ⟨by rfl, ?_⟩) ?_ ?_
            rotate_left
            · intro w'
              go_simp
              with_reducible rfl
            rotate_left
            · simp only [Act.put, List.setIfInBounds_toArray, List.set_cons_zero, List.set_cons_succ, i64_w, i32_w]
              rfl
            refine pure_ (i := 4) (N := some 44) (v := ?_) (a' := ?_) #[true, true, true, true, true, false, false, false, false, false, false, false, false, false, false, false, false, false, false, false, false, false] rfl rfl (by kernel_rfl) (fun _ _ _ h => h) (Or.inl ⟨by rfl, ?_⟩) ?_ ?_
            rotate_left
            · intro w'
              go_simp
              with_reducible rfl
            rotate_left
            · simp only [Act.put, List.setIfInBounds_toArray, List.set_cons_zero, List.set_cons_succ, i64_w, i32_w]
              rfl
            refine pure_ (i := 5) (N := some 45) (v := ?_) (a' := ?_) #[true, true, true, true, true, true, false, false, false, false, false, false, false, false, false, false, false, false, false, false, false, false] rfl rfl (by kernel_rfl) (fun _ _ _ h => h) (Or.inl ⟨by rfl, ?_⟩) ?_ ?_
            rotate_left
            · intro w'
              go_simp
              with_reducible rfl
            rotate_left
            · simp only [Act.put, List.setIfInBounds_toArray, List.set_cons_zero, List.set_cons_succ, i64_w, i32_w]
              rfl
            refine pure_ (i := 6) (N := some 46) (v := ?_) (a' := ?_) #[true, true, true, true, true, true, true, false, false, false, false, false, false, false, false, false, false, false, false, false, false, false] rfl rfl (by kernel_rfl) (fun _ _ _ h => h) (Or.inl ⟨by rfl, ?_⟩) ?_ ?_
            rotate_left
            · intro w'
              go_simp
              with_reducible rfl
            rotate_left
            · simp only [Act.put, List.setIfInBounds_toArray, List.set_cons_zero, List.set_cons_succ, i64_w, i32_w]
              rfl
            refine pure_ (i := 7) (N := some 47) (v := ?_) (a' := ?_) #[true, true, true, true, true, true, true, true, false, false, false, false, false, false, false, false, false, false, false, false, false, false] rfl rfl (by kernel_rfl) (fun _ _ _ h => h) (Or.inl ⟨by rfl, ?_⟩) ?_ ?_
            rotate_left
            · intro w'
              go_simp
              with_reducible rfl
            rotate_left
            · simp only [Act.put, List.setIfInBounds_toArray, List.set_cons_zero, List.set_cons_succ, i64_w, i32_w]
              rfl
            refine pure_ (i := 8) (N := some 48) (v := ?_) (a' := ?_) #[true, true, true, true, true, true, true, true, true, false, false, false, false, false, false, false, false, false, false, false, false, false] rfl rfl (by kernel_rfl) (fun _ _ _ h => h) (Or.inl ⟨by rfl, ?_⟩) ?_ ?_
            rotate_left
            · intro w'
              go_simp
              with_reducible rfl
            rotate_left
            · simp only [Act.put, List.setIfInBounds_toArray, List.set_cons_zero, List.set_cons_succ, i64_w, i32_w]
              rfl
            refine pure_ (i := 9) (N := some 49) (v := ?_) (a' := ?_) #[true, true, true, true, true, true, true, true, true, true, false, false, false, false, false, false, false, false, false, false, false, false] rfl rfl (by kernel_rfl) (fun _ _ _ h => h) (Or.inl ⟨by rfl, ?_⟩) ?_ ?_
            rotate_left
            · intro w'
              go_simp
              with_reducible rfl
            rotate_left
            · simp only [Act.put, List.setIfInBounds_toArray, List.set_cons_zero, List.set_cons_succ, i64_w, i32_w]
              rfl
            refine pure_ (i := 10) (N := some 50) (v := ?_) (a' := ?_) #[true, true, true, true, true, true, true, true, true, true, true, false, false, false, false, false, false, false, false, false, false, false] rfl rfl (by kernel_rfl) (fun _ _ _ h => h) (Or.inl ⟨by rfl, ?_⟩) ?_ ?_
            rotate_left
            · intro w'
              go_simp
              with_reducible rfl
            rotate_left
            · simp only [Act.put, List.setIfInBounds_toArray, List.set_cons_zero, List.set_cons_succ, i64_w, i32_w]
              rfl
            refine pure_ (i := 11) (N := some 51) (v := ?_) (a' := ?_) #[true, true, true, true, true, true, true, true, true, true, true, true, false, false, false, false, false, false, false, false, false, false] rfl rfl (by kernel_rfl) (fun _ _ _ h => h) (Or.inl ⟨by rfl, ?_⟩) ?_ ?_
            rotate_left
            · intro w'
              go_simp
              with_reducible rfl
            rotate_left
            · simp only [Act.put, List.setIfInBounds_toArray, List.set_cons_zero, List.set_cons_succ, i64_w, i32_w]
              rfl
            refine take_ (i := 12) (N := some 52) (v := ?_) (a' := ?_) #[true, true, true, true, true, true, true, true, true, true, true, true, true, false, false, false, false, false, false, false, false, false] rfl rfl (by kernel_rfl) (fun _ _ _ h => h) (Or.inl ⟨by rfl, ?_⟩) hHeld ?_ ?_
            rotate_left
            · rintro w' ⟨s0, s1, s2, s3, s4, s5⟩
              go_simp
              with_reducible rfl
            rotate_left
            · simp only [Act.put, List.setIfInBounds_toArray, List.set_cons_zero, List.set_cons_succ, i64_w, i32_w]
              rfl
            refine take_ (i := 13) (N := some 53) (v := ?_) (a' := ?_) #[true, true, true, true, true, true, true, true, true, true, true, true, true, true, false, false, false, false, false, false, false, false] rfl rfl (by kernel_rfl) (fun _ _ _ h => h) (Or.inl ⟨by rfl, ?_⟩) hHeld ?_ ?_
            rotate_left
            · rintro w' ⟨s0, s1, s2, s3, s4, s5⟩
              go_simp
              with_reducible rfl
            rotate_left
            · simp only [Act.put, List.setIfInBounds_toArray, List.set_cons_zero, List.set_cons_succ, i64_w, i32_w]
              rfl
            refine one_ (i := 14) (N := some 54) #[true, true, true, true, true, true, true, true, true, true, true, true, true, true, true, false, false, false, false, false, false, false] rfl rfl (by kernel_rfl) (by decide) (fun K hK => ?_)
            refine goes_ Try.func17 (by kernel_rfl) rfl #[.agg #[.int .u8 0, .int .u8 4, .bool false, .slice A2 m c2, .slice B2 0 d2]] (by rfl) rfl rfl (by simp only [List.map_toArray, List.map_cons, List.map_nil]; rfl) ?_
            with_reducible refine ((hrb.out _ hdr.out)).mono ?_
            rintro e w9 ⟨A9, c9, rfl, hC9, hb9⟩
            refine ⟨_, rfl, ?_⟩
            have hcu := hcvl.out A9 c9 w9 hC9
            have h59 := Aside0.mk (below_then hdr.out hdr.out.size hb9)
            clear hC9 hb9
            refine hK.out _ _ ⟨(hS.out _ h59.out).1, (hS.out _ h59.out).2.1, (hS.out _ h59.out).2.2.1, (hS.out _ h59.out).2.2.2.1, (hS.out _ h59.out).2.2.2.2.1, (hS.out _ h59.out).2.2.2.2.2⟩ (fun hHeld => ?_)
            clear hK K
            refine norm_ (a' := ?_) ?_ ?_
            rotate_left
            · show Act.put _ (some 54) _ = _
              simp only [Act.put, List.setIfInBounds_toArray, List.set_cons_zero, List.set_cons_succ, i64_w, i32_w]
              rfl
            refine one_ (i := 15) (N := some 55) #[true, true, true, true, true, true, true, true, true, true, true, true, true, true, true, true, false, false, false, false, false, false] rfl rfl (by kernel_rfl) (by decide) (fun K hK => ?_)
            refine value_ (w1 := ?_) (v := ?_) (by rfl) rfl ?_ ?_
            rotate_left 2
            · go_simp
              constructor
              · rfl
              · rfl
            refine hK.out _ _ ⟨(hS.out _ h59.out).1, (hS.out _ h59.out).2.1, (hS.out _ h59.out).2.2.1, (hS.out _ h59.out).2.2.2.1, (hS.out _ h59.out).2.2.2.2.1, (hS.out _ h59.out).2.2.2.2.2⟩ (fun hHeld => ?_)
            clear hK K
            refine norm_ (a' := ?_) ?_ ?_
            rotate_left
            · show Act.put _ (some 55) _ = _
              simp only [Act.put, List.setIfInBounds_toArray, List.set_cons_zero, List.set_cons_succ, i64_w, i32_w]
              rfl
            refine pure_ (i := 16) (N := some 56) (v := ?_) (a' := ?_) #[true, true, true, true, true, true, true, true, true, true, true, true, true, true, true, true, true, false, false, false, false, false] rfl rfl (by kernel_rfl) (fun _ _ _ h => h) (Or.inl ⟨by rfl, ?_⟩) ?_ ?_
            rotate_left
            · intro w'
              go_simp
              with_reducible rfl
            rotate_left
            · simp only [Act.put, List.setIfInBounds_toArray, List.set_cons_zero, List.set_cons_succ, i64_w, i32_w]
              rfl
            refine pure_ (i := 17) (N := some 57) (v := ?_) (a' := ?_) #[true, true, true, true, true, true, true, true, true, true, true, true, true, true, true, true, true, true, false, false, false, false] rfl rfl (by kernel_rfl) (fun _ _ _ h => h) (Or.inl ⟨by rfl, ?_⟩) ?_ ?_
            rotate_left
            · intro w'
              go_simp
              with_reducible rfl
            rotate_left
            · simp only [Act.put, List.setIfInBounds_toArray, List.set_cons_zero, List.set_cons_succ, i64_w, i32_w]
              rfl
            refine pure_ (i := 18) (N := some 58) (v := ?_) (a' := ?_) #[true, true, true, true, true, true, true, true, true, true, true, true, true, true, true, true, true, true, true, false, false, false] rfl rfl (by kernel_rfl) (fun _ _ _ h => h) (Or.inl ⟨by rfl, ?_⟩) ?_ ?_
            rotate_left
            · intro w'
              go_simp
              with_reducible rfl
            rotate_left
            · simp only [Act.put, List.setIfInBounds_toArray, List.set_cons_zero, List.set_cons_succ, i64_w, i32_w]
              rfl
            refine one_ (i := 19) (N := some 59) #[true, true, true, true, true, true, true, true, true, true, true, true, true, true, true, true, true, true, true, true, false, false] rfl rfl (by kernel_rfl) (by decide) (fun K hK => ?_)
            refine goes_ Try.func10 (by kernel_rfl) rfl #[] (by rfl) rfl rfl (by simp only [List.map_toArray, List.map_nil]) ?_
            with_reducible refine ((known_calls _)).mono ?_
            rintro e w12 ⟨rfl, hb12⟩
            refine ⟨_, rfl, ?_⟩
            have h512 := Aside0.mk (below_then h59.out h59.out.size hb12)
            clear hb12
            refine hK.out _ _ ⟨(hS.out _ h512.out).1, (hS.out _ h512.out).2.1, (hS.out _ h512.out).2.2.1, (hS.out _ h512.out).2.2.2.1, (hS.out _ h512.out).2.2.2.2.1, (hS.out _ h512.out).2.2.2.2.2⟩ (fun hHeld => ?_)
            clear hK K
            refine norm_ (a' := ?_) ?_ ?_
            rotate_left
            · show Act.put _ (some 59) _ = _
              simp only [Act.put, List.setIfInBounds_toArray, List.set_cons_zero, List.set_cons_succ, i64_w, i32_w]
              rfl
            refine pure_ (i := 20) (N := some 60) (v := ?_) (a' := ?_) #[true, true, true, true, true, true, true, true, true, true, true, true, true, true, true, true, true, true, true, true, true, false] rfl rfl (by kernel_rfl) (fun _ _ _ h => h) (Or.inl ⟨by rfl, ?_⟩) ?_ ?_
            rotate_left
            · intro w'
              go_simp
              with_reducible rfl
            rotate_left
            · simp only [Act.put, List.setIfInBounds_toArray, List.set_cons_zero, List.set_cons_succ, i64_w, i32_w]
              rfl
            refine pure_ (i := 21) (N := some 2) (v := ?_) (a' := ?_) #[true, true, true, true, true, true, true, true, true, true, true, true, true, true, true, true, true, true, true, true, true, true] rfl rfl (by kernel_rfl) (fun _ _ _ h => h) (Or.inl ⟨by rfl, ?_⟩) ?_ ?_
            rotate_left
            · intro w'
              go_simp
              with_reducible rfl
            rotate_left
            · simp only [Act.put, List.setIfInBounds_toArray, List.set_cons_zero, List.set_cons_succ, i64_w, i32_w]
              rfl
            refine done_ (by kernel_rfl) ?_
            have hbf := Aside0.mk (below_then hb5'.out hb5'.out.size h512.out)
            go_wp2_with fail
            go_ret
            exact ⟨rfl, hbf.out⟩
end Go.Proofs.Ytlmelbnmfhpacaa
