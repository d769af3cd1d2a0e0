/- DiskArms, walked. -/
import Derived.Test.YtolighikimpbfaaTe
set_option linter.unusedVariables false
set_option linter.unusedSimpArgs false
namespace Go.Proofs.Ytolighikimpbfaa
open Go.RowKit Go.Shelf Go.Proofs.YtolighikimpbfaaW.PrintWords Go.Proofs.YtolighikimpbfaaW.PrintMore Go.Proofs.YtolighikimpbfaaW.PrintLast

theorem bool_at {w : World} {A : Option Addr} {b : List Bool} (h : Kd.bool.C w A b.length b) (i : Nat) (hi : i < b.length) :
    ∃ ad, A = some ad ∧ w.cell? (ad.add i) = some (.bool b[i]) := by
  obtain ⟨ad, c, e, _, hK, hc0⟩ := Kd.C_get h false (i : Int) (by omega) (by omega)
  have hc : ∀ j u, c[j]? = some u → w.cell? (ad.add (i * 1 + j)) = some u := hc0
  have hg : b.getD (i : Int).toNat false = b[i] := by
    simp [List.getD_eq_getElem?_getD, hi]
  rw [hg] at hK
  have : c = [.bool b[i]] := hK
  subst this
  exact ⟨ad, e, by have hq := hc 0 _ rfl; rwa [Nat.mul_one, Nat.add_zero] at hq⟩
/-- How many steps may still be done. -/
def armAt (n : Int) (i : Nat) : Int := if n < 0 then -1 else if (i : Int) < n then n - i else 0
structure Armed (n : Int) (m i : Nat) (ds : DS) : Prop where
  upto : Upto i ds
  len : ds.now.length = m
  lim : ds.limit = m
  arm : ds.armed = armAt n i
theorem mx_arm (n : Int) (i : Nat) (h : n < 0 ∨ (i : Int) < n) : mx (-1) (armAt n i - 1) = armAt n (i + 1) := by
  unfold armAt mx
  rcases h with h | h
  · rw [if_pos h, if_pos h]; rfl
  · by_cases h0 : n < 0
    · rw [if_pos h0, if_pos h0]; rfl
    · rw [if_neg h0, if_neg h0, if_pos h]
      by_cases h1 : ((i + 1 : Nat) : Int) < n
      · rw [if_pos h1, if_pos (by omega)]; omega
      · rw [if_neg h1, if_pos (by omega)]; omega
theorem armed_start (n : Int) (m : Nat) (hm : m ≤ 262144) (hn : n ≤ 9223372036854775807) : Armed n m 0 ((fresh m).arm n) := by
  refine ⟨⟨fine_arm (fine_fresh m hm) n hn, std_arm (std_fresh m) n, by show (0 : Int) ≤ _; omega, Nat.zero_le _⟩, by simp [DS.arm, fresh], rfl, ?_⟩
  show mx (-1) n = armAt n 0
  unfold mx armAt
  by_cases h : n < 0
  · rw [if_neg (by omega), if_pos h]
  · rw [if_pos (by omega), if_neg h]
    by_cases h1 : ((0 : Nat) : Int) < n
    · rw [if_pos h1]; omega
    · rw [if_neg h1]; omega
theorem armed_ok {n : Int} {m i : Nat} {ds : DS} (h : Armed n m i ds) (ho : n < 0 ∨ (i : Int) < n) : ds.armed ≠ 0 := by
  rw [h.arm]
  unfold armAt
  by_cases h0 : n < 0
  · rw [if_pos h0]; omega
  · rw [if_neg h0, if_pos (by omega)]; omega
theorem armed_no {n : Int} {m i : Nat} {ds : DS} (h : Armed n m i ds) (ho : ¬ (n < 0 ∨ (i : Int) < n)) : ds.armed = 0 := by
  rw [h.arm]
  unfold armAt
  rw [if_neg (by omega), if_neg (by omega)]
theorem armed_stays {n : Int} {m i : Nat} {ds : DS} (h : Armed n m i ds) (ho : ¬ (n < 0 ∨ (i : Int) < n)) : Armed n m (i + 1) ds := by
  refine ⟨h.upto.up (by omega), h.len, h.lim, ?_⟩
  rw [armed_no h ho]
  unfold armAt
  rw [if_neg (by omega), if_neg (by omega)]
theorem armed_write {n : Int} {m i : Nat} {ds : DS} (h : Armed n m i ds) (hi : i < 1000000) (b : List UInt8) (hb : b.length ≤ m) (ho : n < 0 ∨ (i : Int) < n) : ds.write 0 b = (ds.wrote 0 b, 0) ∧ Armed n m (i + 1) (ds.wrote 0 b) := by
  have e : ds.write 0 b = (ds.wrote 0 b, 0) := by
    unfold DS.write
    have := h.lim
    have := h.len
    rw [if_neg (by omega), if_neg (by omega), if_neg (armed_ok h ho)]
    rfl
  have hl := write_length ds 0 b
  have hd := write_done ds 0 b
  have hf := fine_write h.upto.fine (by have := h.upto.done; omega) (by have := h.upto.waits; omega) 0 b
  have hs := std_write h.upto.std 0 b
  rw [e] at hl hd hf hs
  refine ⟨e, ⟨⟨hf, hs, ?_, ?_⟩, hl.trans h.len, h.lim, ?_⟩⟩
  · have := h.upto.done; have := hd.1; simp only at this; omega
  · have := h.upto.waits; have := hd.2; simp only at this; omega
  · show mx (-1) (ds.armed - 1) = _
    rw [h.arm]; exact mx_arm n i ho
theorem armed_sync {n : Int} {m i : Nat} {ds : DS} (h : Armed n m i ds) (hi : i < 1000000) (ho : n < 0 ∨ (i : Int) < n) : ds.sync = (ds.synced, 0) ∧ Armed n m (i + 1) ds.synced := by
  have e : ds.sync = (ds.synced, 0) := by
    unfold DS.sync
    rw [if_neg (armed_ok h ho)]
  have hl := sync_length ds
  have hd := sync_done ds
  have hf := fine_sync h.upto.fine (by have := h.upto.done; omega)
  have hs := std_sync h.upto.std
  rw [e] at hl hd hf hs
  refine ⟨e, ⟨⟨hf, hs, ?_, ?_⟩, hl.trans h.len, h.lim, ?_⟩⟩
  · have := h.upto.done; have := hd.1; simp only at this; omega
  · have := h.upto.waits; have := hd.2; simp only at this; omega
  · show mx (-1) (ds.armed - 1) = _
    rw [h.arm]; exact mx_arm n i ho
theorem write_none {ds : DS} {m : Nat} (hl : ds.now.length = m) (hm : ds.limit = m) (h0 : ds.armed = 0) (b : List UInt8) (hb : b.length ≤ m) : ds.write 0 b = (ds, 111) := by
  unfold DS.write
  rw [if_neg (by omega), if_neg (by omega), if_pos h0]
theorem sync_none {ds : DS} (h0 : ds.armed = 0) : ds.sync = (ds, 111) := by unfold DS.sync; rw [if_pos h0]

/-- No more than is done here. -/
def ArmsFew (m n : Int) (k j : Nat) : Prop := 20 ≤ m ∧ m ≤ 300 ∧ -5 ≤ n ∧ n ≤ 30 ∧ k ≤ 40 ∧ j ≤ 20
set_option maxRecDepth 20000 in
set_option maxHeartbeats 4000000 in
theorem diskArms_few (m n : Int) (A A2 : Option Addr) (c c2 : Nat) (k j : Nat) (w : World) (hno : ¬ ArmsFew m n k j) :
    Calls Try.prog 6 #[.int .i64 m, .int .i64 n, .agg #[.slice A k c, .slice A2 j c2]] w fun e w' => e = .returned (.bool true) ∧ Below w.heap.size w w' := by
  have hb := below_alloc (Below.refl w.heap.size w) (.cells #[.slice A k c, .slice A2 j c2] 55)
  have H1 := Go.heap_alloc_new w (.cells #[.slice A k c, .slice A2 j c2] 55)
  obtain ⟨w1, hw1⟩ : ∃ w1, w.alloc (.cells #[.slice A k c, .slice A2 j c2] 55) = w1 := ⟨_, rfl⟩
  rw [hw1] at hb H1
  have hX : ∀ W : World, W.heap[w.heap.size]? = w1.heap[w.heap.size]? → W.cell? ⟨w.heap.size, 0, none⟩ = some (.slice A k c) ∧ W.cell? ⟨w.heap.size, 1, none⟩ = some (.slice A2 j c2) := fun W hW =>
    ⟨(cell_of_row _ _ _ _ _ _ (hW.trans H1)).trans rfl, (cell_of_row _ _ _ _ _ _ (hW.trans H1)).trans rfl⟩
  have hD : (decide (m < 20) = true) ∨ (decide (m < 20) = false ∧ decide (300 < m) = true) ∨ (decide (m < 20) = false ∧ decide (300 < m) = false ∧ decide (n < -5) = true) ∨ (decide (m < 20) = false ∧ decide (300 < m) = false ∧ decide (n < -5) = false ∧ decide (30 < n) = true) ∨
      (decide (m < 20) = false ∧ decide (300 < m) = false ∧ decide (n < -5) = false ∧ decide (30 < n) = false ∧ decide ((40 : Int) < (k : Int)) = true) ∨ (decide (m < 20) = false ∧ decide (300 < m) = false ∧ decide (n < -5) = false ∧ decide (30 < n) = false ∧ decide ((40 : Int) < (k : Int)) = false ∧ decide ((20 : Int) < (j : Int)) = true) := by
    simp only [decide_eq_true_eq, decide_eq_false_iff_not]
    unfold ArmsFew at hno
    omega
  replace hX := Aside0.mk hX
  replace hb := Aside0.mk hb
  clear H1 hno
  rcases hD with d1 | ⟨d1, d2⟩ | ⟨d1, d2, d3⟩ | ⟨d1, d2, d3, d4⟩ | ⟨d1, d2, d3, d4, d5⟩ | ⟨d1, d2, d3, d4, d5, d6⟩
  all_goals
    go_enter Try.func6, Try.ntmps6
    go_wp2_with fail
    refine start_ (n := 6) (S := fun w' => w'.cell? ⟨w.heap.size, 0, none⟩ = some (.slice A k c) ∧ w'.cell? ⟨w.heap.size, 1, none⟩ = some (.slice A2 j c2)) (ds := []) #[false, false, false, false, false, false] (by kernel_rfl) rfl rfl ⟨(hX.out _ rfl).1, (hX.out _ rfl).2⟩ (fun hHeld => ?_)
    refine pure_ (i := 0) (N := some 14) (v := ?_) (a' := ?_) #[true, false, false, false, false, false] rfl rfl (by kernel_rfl) (fun _ _ _ h => h) (Or.inl ⟨by rfl, ?_⟩) ?_ ?_
    rotate_left
    · intro w'
      go_simp
      with_reducible rfl
    rotate_left
    · simp only [Act.put, List.setIfInBounds_toArray, List.set_cons_zero, List.set_cons_succ, i64_w, i32_w]
      rfl
    refine pure_ (i := 2) (N := some 16) (v := ?_) (a' := ?_) #[true, false, true, false, false, false] rfl rfl (by kernel_rfl) (fun _ _ _ h => h) (Or.inl ⟨by rfl, ?_⟩) ?_ ?_
    rotate_left
    · intro w'
      go_simp
      with_reducible rfl
    rotate_left
    · simp only [Act.put, List.setIfInBounds_toArray, List.set_cons_zero, List.set_cons_succ, i64_w, i32_w]
      rfl
    refine take_ (i := 1) (N := some 15) (v := ?_) (a' := ?_) #[true, true, true, false, false, false] rfl rfl (by kernel_rfl) (fun _ _ _ h => h) (Or.inl ⟨by rfl, ?_⟩) hHeld ?_ ?_
    rotate_left
    · rintro w' ⟨s0, s1⟩
      go_simp
      with_reducible rfl
    rotate_left
    · simp only [Act.put, List.setIfInBounds_toArray, List.set_cons_zero, List.set_cons_succ, i64_w, i32_w]
      rfl
    refine pure_ (i := 4) (N := some 7) (v := ?_) (a' := ?_) #[true, true, true, false, true, false] rfl rfl (by kernel_rfl) (fun _ _ _ h => h) (Or.inl ⟨by rfl, ?_⟩) ?_ ?_
    rotate_left
    · intro w'
      go_simp
      with_reducible rfl
    rotate_left
    · simp only [Act.put, List.setIfInBounds_toArray, List.set_cons_zero, List.set_cons_succ, i64_w, i32_w]
      rfl
    refine take_ (i := 3) (N := some 17) (v := ?_) (a' := ?_) #[true, true, true, true, true, false] rfl rfl (by kernel_rfl) (fun _ _ _ h => h) (Or.inl ⟨by rfl, ?_⟩) hHeld ?_ ?_
    rotate_left
    · rintro w' ⟨s0, s1⟩
      go_simp
      with_reducible rfl
    rotate_left
    · simp only [Act.put, List.setIfInBounds_toArray, List.set_cons_zero, List.set_cons_succ, i64_w, i32_w]
      rfl
    refine pure_ (i := 5) (N := some 8) (v := ?_) (a' := ?_) #[true, true, true, true, true, true] rfl rfl (by kernel_rfl) (fun _ _ _ h => h) (Or.inl ⟨by rfl, ?_⟩) ?_ ?_
    rotate_left
    · intro w'
      go_simp
      with_reducible rfl
    rotate_left
    · simp only [Act.put, List.setIfInBounds_toArray, List.set_cons_zero, List.set_cons_succ, i64_w, i32_w]
      rfl
    refine done_ (by kernel_rfl) ?_
    go_wp2_with (go_at_call 10; refine (known_calls _).mono ?_; rintro e w2 ⟨rfl, hb2⟩; replace hb2 := Aside0.mk hb2)
    go_ret
    exact ⟨rfl, below_then (hb.out.trans (below_drew (Below.refl _ _))) hb.out.size hb2.out⟩
set_option maxRecDepth 20000 in
set_option maxHeartbeats 8000000 in
theorem diskArms_go (m : Nat) (n : Int) (A A2 : Option Addr) (c c2 : Nat) (T : List Bool) (b : List UInt8) (w : World) (hT : Kd.bool.C w A T.length T) (hbC : u8.C w A2 b.length (toI b)) (hfew : ArmsFew (m : Int) n T.length b.length) :
    Calls Try.prog 6 #[.int .i64 (m : Int), .int .i64 n, .agg #[.slice A T.length c, .slice A2 b.length c2]] w fun e w' => e = .returned (.bool true) ∧ Below w.heap.size w w' := by
  have hb := below_alloc (Below.refl w.heap.size w) (.cells #[.slice A T.length c, .slice A2 b.length c2] 55)
  have H1 := Go.heap_alloc_new w (.cells #[.slice A T.length c, .slice A2 b.length c2] 55)
  have hsb : (w.alloc (.cells #[.slice A T.length c, .slice A2 b.length c2] 55)).heap.size = w.heap.size + 1 := by simp
  obtain ⟨w1, hw1⟩ : ∃ w1, w.alloc (.cells #[.slice A T.length c, .slice A2 b.length c2] 55) = w1 := ⟨_, rfl⟩
  rw [hw1] at hb H1 hsb
  obtain ⟨f1, f2, f3, f4, f5, f6⟩ := hfew
  obtain ⟨M, hM⟩ : ∃ M, T.length = M := ⟨_, rfl⟩
  obtain ⟨N, hN⟩ : ∃ N, b.length = N := ⟨_, rfl⟩
  have hbl : Aside0 (b.length ≤ 20) := Aside0.mk f6
  rw [hM] at H1 f5 hw1 ⊢
  rw [hN] at H1 f6 hw1 ⊢
  have hX : ∀ W : World, W.heap[w.heap.size]? = w1.heap[w.heap.size]? → W.cell? ⟨w.heap.size, 0, none⟩ = some (.slice A M c) ∧ W.cell? ⟨w.heap.size, 1, none⟩ = some (.slice A2 N c2) := fun W hW =>
    ⟨(cell_of_row _ _ _ _ _ _ (hW.trans H1)).trans rfl, (cell_of_row _ _ _ _ _ _ (hW.trans H1)).trans rfl⟩
  have d1 : decide ((m : Int) < 20) = false := by simp; omega
  have d2 : decide (300 < (m : Int)) = false := by simp; omega
  have d3 : decide (n < -5) = false := by simp; omega
  have d4 : decide (30 < n) = false := by simp; omega
  have d5 : decide ((40 : Int) < (M : Int)) = false := by simp; omega
  have d6 : decide ((20 : Int) < (N : Int)) = false := by simp; omega
  have hn := new_own m (by omega) (by omega) w1.drew
  have hb1 : Below w.heap.size w w1.drew := hb.trans (below_drew (Below.refl _ _))
  replace hX := Aside0.mk hX
  replace hb1 := Aside0.mk hb1
  replace hT := Aside0.mk hT
  replace hbC := Aside0.mk hbC
  replace hM := Aside0.mk hM
  replace hN := Aside0.mk hN
  replace hn := Aside0.mk hn
  clear H1 hb
  go_enter Try.func6, Try.ntmps6
  go_wp2_with fail
  refine start_ (n := 6) (S := fun w' => w'.cell? ⟨w.heap.size, 0, none⟩ = some (.slice A M c) ∧ w'.cell? ⟨w.heap.size, 1, none⟩ = some (.slice A2 N c2)) (ds := []) #[false, false, false, false, false, false] (by kernel_rfl) rfl rfl ⟨(hX.out _ rfl).1, (hX.out _ rfl).2⟩ (fun hHeld => ?_)
  refine pure_ (i := 0) (N := some 14) (v := ?_) (a' := ?_) #[true, false, false, false, false, false] rfl rfl (by kernel_rfl) (fun _ _ _ h => h) (Or.inl ⟨by rfl, ?_⟩) ?_ ?_
  rotate_left
  · intro w'
    go_simp
    with_reducible rfl
  rotate_left
  · simp only [Act.put, List.setIfInBounds_toArray, List.set_cons_zero, List.set_cons_succ, i64_w, i32_w]
    rfl
  refine pure_ (i := 2) (N := some 16) (v := ?_) (a' := ?_) #[true, false, true, false, false, false] rfl rfl (by kernel_rfl) (fun _ _ _ h => h) (Or.inl ⟨by rfl, ?_⟩) ?_ ?_
  rotate_left
  · intro w'
    go_simp
    with_reducible rfl
  rotate_left
  · simp only [Act.put, List.setIfInBounds_toArray, List.set_cons_zero, List.set_cons_succ, i64_w, i32_w]
    rfl
  refine take_ (i := 1) (N := some 15) (v := ?_) (a' := ?_) #[true, true, true, false, false, false] rfl rfl (by kernel_rfl) (fun _ _ _ h => h) (Or.inl ⟨by rfl, ?_⟩) hHeld ?_ ?_
  rotate_left
  · rintro w' ⟨s0, s1⟩
    go_simp
    with_reducible rfl
  rotate_left
  · simp only [Act.put, List.setIfInBounds_toArray, List.set_cons_zero, List.set_cons_succ, i64_w, i32_w]
    rfl
  refine pure_ (i := 4) (N := some 7) (v := ?_) (a' := ?_) #[true, true, true, false, true, false] rfl rfl (by kernel_rfl) (fun _ _ _ h => h) (Or.inl ⟨by rfl, ?_⟩) ?_ ?_
  rotate_left
  · intro w'
    go_simp
    with_reducible rfl
  rotate_left
  · simp only [Act.put, List.setIfInBounds_toArray, List.set_cons_zero, List.set_cons_succ, i64_w, i32_w]
    rfl
  refine take_ (i := 3) (N := some 17) (v := ?_) (a' := ?_) #[true, true, true, true, true, false] rfl rfl (by kernel_rfl) (fun _ _ _ h => h) (Or.inl ⟨by rfl, ?_⟩) hHeld ?_ ?_
  rotate_left
  · rintro w' ⟨s0, s1⟩
    go_simp
    with_reducible rfl
  rotate_left
  · simp only [Act.put, List.setIfInBounds_toArray, List.set_cons_zero, List.set_cons_succ, i64_w, i32_w]
    rfl
  refine pure_ (i := 5) (N := some 8) (v := ?_) (a' := ?_) #[true, true, true, true, true, true] rfl rfl (by kernel_rfl) (fun _ _ _ h => h) (Or.inl ⟨by rfl, ?_⟩) ?_ ?_
  rotate_left
  · intro w'
    go_simp
    with_reducible rfl
  rotate_left
  · simp only [Act.put, List.setIfInBounds_toArray, List.set_cons_zero, List.set_cons_succ, i64_w, i32_w]
    rfl
  refine done_ (by kernel_rfl) ?_
  go_wp2_with fail
  refine hn.out.mono ?_
  rintro e w2 ⟨g0, rfl, ho2, hb2⟩
  have ho2 : One (w.heap.size + 1) w2 g0 (fresh m) := Own.from (ho2.weaken (fun q hq => by show q < w1.heap.size; omega))
  have hb2 := below_then hb1.out hb1.out.size hb2
  have hB2 : w.heap.size + 1 ≤ w2.heap.size := by
    obtain ⟨S, RO, k1, k2⟩ := ho2
    obtain ⟨_, _, _, _, hd⟩ := k1
    have := k2 _ hd.sg
    have := (Array.getElem?_eq_some_iff.1 hd.blk).1
    omega
  have har := Aside0.mk (one_arm ho2 hB2 n)
  replace hb2 := Aside0.mk hb2
  clear ho2 hn hX
  go_wp2_with fail
  refine har.out.mono ?_
  rintro e w3 ⟨rfl, ho3, hb3⟩
  have hB3 := hb3.size
  have hb03 := Aside0.mk (hb2.out.trans (hb3.mono (by omega)))
  have ho3 := Aside0.mk ho3
  have has := Aside0.mk (armed_start n m (by omega) (by omega))
  clear har hb3
  go_wp2_with fail
  obtain ⟨wx, hwx⟩ : ∃ wx, w3 = wx := ⟨_, rfl⟩
  rw [hwx] at ho3 hb03 hB3 ⊢
  have hB3 : w.heap.size + 1 ≤ wx.heap.size := by omega
  clear hwx hb2
  go_loopw [9, 11] (fun s9 s11 wr => ∃ (k g : Nat) (ds : DS), k ≤ M ∧ s9 = .pointer (some ⟨g, 0, none⟩) ∧ s11 = .int .i64 k ∧ Aside0 (One (w.heap.size + 1) wr g ds) ∧ Aside0 (Armed n m k ds) ∧ Aside0 (Below w.heap.size w wr) ∧ w.heap.size + 1 ≤ wr.heap.size) (fun _ s11 _ => M - (intOf s11).toNat)
  case atStart => exact ⟨0, g0, _, Nat.zero_le _, rfl, rfl, ho3, has, hb03, hB3⟩
  case round =>
    clear ho3 has hb03 hB3
    obtain ⟨k, g, ds, hk, rfl, rfl, ho, ha, hbr, hBr⟩ := hrel
    by_cases hlt : k < M
    · have hkw : k < T.length := by rw [hM.out]; exact hlt
      obtain ⟨ad, e, p0⟩ := bool_at hT.out k hkw
      subst e
      obtain ⟨t, ht⟩ : ∃ t, T[k] = t := ⟨_, rfl⟩
      rw [ht] at p0
      clear ht hkw
      have hc1 := Aside0.mk (copy_two ho.out hBr ha.out.upto.fine)
      clear ho
      have i1 : (0 : Int) ≤ (k : Int) := by omega
      have i2 : (k : Int) < (M : Int) := by omega
      go_wp2_with fail
      refine hc1.out.mono ?_
      rintro e w4 ⟨gw, rfl, t1, t2, hb4⟩
      have hB4 := Nat.le_trans hBr hb4.size
      have hb4 := below_then hbr.out hbr.out.size hb4
      have hwr := two_write t1 hB4 ha.out.upto.fine 0 A2 c2 b (by have := hbl.out; omega) _ (F_came hbC.out hb4) (fun q hq => by omega)
      rw [hN.out] at hwr
      have hD : (Aside0 (n < 0 ∨ (k : Int) < n) ∧ (decide (n < 0) = true ∨ (decide (n < 0) = false ∧ decide ((k : Int) < n) = true))) ∨ (Aside0 (¬ (n < 0 ∨ (k : Int) < n)) ∧ decide (n < 0) = false ∧ decide ((k : Int) < n) = false) := by
        by_cases q1 : n < 0
        · exact .inl ⟨⟨.inl q1⟩, .inl (by simpa using q1)⟩
        · by_cases q2 : (k : Int) < n
          · exact .inl ⟨⟨.inr q2⟩, .inr ⟨by simpa using q1, by simpa using q2⟩⟩
          · exact .inr ⟨⟨by omega⟩, by simpa using q1, by simpa using q2⟩
      replace hb4 := Aside0.mk hb4
      clear hc1 t1 hbr
      rcases hD with ⟨ho, hD⟩ | ⟨ho, x1, x2⟩
      · obtain ⟨eW, aW⟩ := armed_write ha.out (by omega) b (by have := hbl.out; omega) ho.out
        obtain ⟨eS, aS⟩ := armed_sync ha.out (by omega) ho.out
        rw [eW] at hwr
        have hzo : Aside0 (ds.sync.2 = 0) := Aside0.mk (by rw [eS])
        have hzs : Aside0 (ds.sync.1 = ds.synced) := Aside0.mk (by rw [eS])
        replace hwr := Aside0.mk hwr
        replace aW := Aside0.mk aW
        replace aS := Aside0.mk aS
        have t2 := Aside0.mk t2
        clear eW eS
        go_wp2_with fail
        refine hwr.out.mono ?_
        rintro e w5 ⟨rfl, t3, hb5⟩
        have hB5 := Nat.le_trans hB4 hb5.size
        have hb5' := Aside0.mk (hb4.out.trans (hb5.mono (by omega)))
        have p5 := pw_cell_below hb5'.out p0
        have hcw := Aside0.mk (copy_two t3.second hB5 ha.out.upto.fine)
        replace t3 := Aside0.mk t3
        clear hwr t2 hb5 hb4
        cases t with
        | false =>
          clear hcw
          rcases hD with x1 | ⟨x1, x2⟩
          all_goals
            go_wp2_with fail
            go_roundw
            case rel => exact ⟨k + 1, g, _, by omega, rfl, by go_num, Aside0.mk t3.out.first, aW, hb5', hB5⟩
            case measure => simp [intOf]; omega
        | true =>
          go_wp2_with fail
          refine hcw.out.mono ?_
          rintro e w6 ⟨g3, rfl, t4, t5, hb6⟩
          have hB6 := Nat.le_trans hB5 hb6.size
          have hb6' := Aside0.mk (below_then hb5'.out hb5'.out.size hb6)
          have hsy := two_sync t5 hB6 ha.out.upto.fine
          rw [hzo.out, hzs.out] at hsy
          replace hsy := Aside0.mk hsy
          clear hcw t3 t4 t5 hb6
          go_wp2_with fail
          refine hsy.out.mono ?_
          rintro e w7 ⟨rfl, t6, hb7⟩
          have hB7 := Nat.le_trans hB6 hb7.size
          have hb7' := Aside0.mk (hb6'.out.trans (hb7.mono (by omega)))
          replace t6 := Aside0.mk t6
          clear hsy hb7
          rcases hD with x1 | ⟨x1, x2⟩
          all_goals
            go_wp2_with fail
            go_roundw
            case rel => exact ⟨k + 1, g3, _, by omega, rfl, by go_num, Aside0.mk t6.out.first, aS, hb7', hB7⟩
            case measure => simp [intOf]; omega
      · have eW := write_none ha.out.len ha.out.lim (armed_no ha.out ho.out) b (by have := hbl.out; omega)
        have eS := sync_none (armed_no ha.out ho.out)
        rw [eW] at hwr
        have hzo : Aside0 (ds.sync = (ds, 111)) := Aside0.mk eS
        have hst := Aside0.mk (armed_stays ha.out ho.out)
        have hwl := ha.out.upto.waits
        replace hwr := Aside0.mk hwr
        clear eW eS t2
        go_wp2_with fail
        refine hwr.out.mono ?_
        rintro e w5 ⟨rfl, t3, hb5⟩
        have hB5 := Nat.le_trans hB4 hb5.size
        have hb5' := Aside0.mk (hb4.out.trans (hb5.mono (by omega)))
        have p5 := pw_cell_below hb5'.out p0
        have hcw := Aside0.mk (copy_two t3.second hB5 ha.out.upto.fine)
        replace t3 := Aside0.mk t3
        clear hwr hb5 hb4
        cases t with
        | false =>
          have hsm := two_same t3.out (by omega)
          rw [dsame_self] at hsm
          replace hsm := Aside0.mk hsm
          clear hcw
          go_wp2_with fail
          refine hsm.out.mono ?_
          rintro e w6 ⟨rfl, hb6⟩
          have hB6 := Nat.le_trans hB5 hb6.size
          have hb6' := Aside0.mk (below_then hb5'.out hb5'.out.size hb6)
          have ho6 := Aside0.mk (t3.out.first.below hb6)
          clear hb6
          go_wp2_with fail
          go_roundw
          case rel => exact ⟨k + 1, g, _, by omega, rfl, by go_num, ho6, hst, hb6', hB6⟩
          case measure => simp [intOf]; omega
        | true =>
          go_wp2_with fail
          refine hcw.out.mono ?_
          rintro e w6 ⟨g3, rfl, t4, t5, hb6⟩
          have hB6 := Nat.le_trans hB5 hb6.size
          have hb6' := Aside0.mk (below_then hb5'.out hb5'.out.size hb6)
          have hsy := two_sync t5 hB6 ha.out.upto.fine
          rw [hzo.out] at hsy
          replace hsy := Aside0.mk hsy
          clear hcw t3 t4 t5 hb6
          go_wp2_with fail
          refine hsy.out.mono ?_
          rintro e w7 ⟨rfl, t6, hb7⟩
          have hB7 := Nat.le_trans hB6 hb7.size
          have hb7' := Aside0.mk (hb6'.out.trans (hb7.mono (by omega)))
          have hsm := two_same t6 (by omega)
          rw [dsame_self] at hsm
          replace hsm := Aside0.mk hsm
          replace t6 := Aside0.mk t6
          clear hsy hb7
          go_wp2_with fail
          refine hsm.out.mono ?_
          rintro e w8 ⟨rfl, hb8⟩
          have hB8 := Nat.le_trans hB7 hb8.size
          have hb8' := Aside0.mk (below_then hb7'.out hb7'.out.size hb8)
          have ho8 := Aside0.mk (t6.out.first.below hb8)
          clear hb8
          go_wp2_with fail
          go_roundw
          case rel => exact ⟨k + 1, g3, _, by omega, rfl, by go_num, ho8, hst, hb8', hB8⟩
          case measure => simp [intOf]; omega
    · have h1 := Aside0.mk (one_arm ho.out hBr (-1))
      have hA : Armed (-1) m k (ds.arm (-1)) := ⟨⟨fine_arm ha.out.upto.fine _ (by omega), std_arm ha.out.upto.std _, ha.out.upto.done, ha.out.upto.waits⟩, ha.out.len, ha.out.lim, rfl⟩
      obtain ⟨eW, aW⟩ := armed_write hA (by omega) b (by have := hbl.out; omega) (.inl (by omega))
      obtain ⟨eS, aS⟩ := armed_sync aW (by omega) (.inl (by omega))
      replace hA := Aside0.mk hA
      replace aW := Aside0.mk aW
      replace eW := Aside0.mk eW
      replace eS := Aside0.mk eS
      clear aS ho ha
      go_wp2_with fail
      refine h1.out.mono ?_
      rintro e w4 ⟨rfl, o4, hb4⟩
      have hB4 := Nat.le_trans hBr hb4.size
      have hb4 := Aside0.mk (hbr.out.trans (hb4.mono (by omega)))
      have h2 := one_write o4 hB4 hA.out.upto.fine 0 A2 c2 b (by have := hbl.out; omega) _ (F_came hbC.out hb4.out) (fun q hq => by omega)
      have h2e := eW.out
      rw [hN.out] at h2
      rw [show (ds.arm (-1)).write 0 b = _ from h2e] at h2
      replace h2 := Aside0.mk h2
      clear h1 o4 h2e
      go_wp2_with fail
      refine h2.out.mono ?_
      rintro e w5 ⟨rfl, o5, hb5⟩
      have hB5 := Nat.le_trans hB4 hb5.size
      have hb5 := Aside0.mk (hb4.out.trans (hb5.mono (by omega)))
      have h3 := one_sync o5 hB5 aW.out.upto.fine
      rw [show ((ds.arm (-1)).wrote 0 b).sync = _ from eS.out] at h3
      replace h3 := Aside0.mk h3
      clear h2 o5
      go_wp2_with fail
      refine h3.out.mono ?_
      rintro e w6 ⟨rfl, o6, hb6⟩
      have hb6 := Aside0.mk (hb5.out.trans (hb6.mono (by omega)))
      have h4 := one_waits o6
      rw [show (((ds.arm (-1)).wrote 0 b).synced.waits.length : Int) = 0 from rfl] at h4
      replace h4 := Aside0.mk h4
      clear h3 o6
      go_wp2_with fail
      refine h4.out.mono ?_
      rintro e w7 ⟨rfl, hb7⟩
      have hb7 := Aside0.mk (below_then hb6.out hb6.out.size hb7)
      go_wp2_with (go_at_call 10; refine (known_calls _).mono ?_; rintro e wz ⟨rfl, hbz⟩; replace hbz := Aside0.mk hbz)
      go_ret
      exact ⟨rfl, below_then hb7.out hb7.out.size hbz.out⟩
end Go.Proofs.Ytolighikimpbfaa
