/- The walk of BerCommon. -/
import Derived.Test.YtlmelbnmfhpacaaBi
import Derived.Test.YtlmelbnmfhpacaaBg
set_option linter.unusedVariables false
set_option linter.unusedSimpArgs false
namespace Go.Proofs.Ytlmelbnmfhpacaa
open Go.RowKit Go.Shelf Go.Proofs.YtlmelbnmfhpacaaW.PrintWords Go.Proofs.YtlmelbnmfhpacaaW.PrintMore Go.Proofs.YtlmelbnmfhpacaaW.PrintLast

theorem str_bytes (s : ByteArray) : (strOfNums (bytesOf s)).toList = s.toList := by
  rw [ByteArray.toList_eq, str_data, ByteArray.toList_eq]
  unfold bytesOf
  rw [List.map_map]
  conv => rhs; rw [← List.map_id s.data.toList]
  apply List.map_congr_left
  intro x _
  simp
/-- left of a value: below 0, or the weight is no more. -/
theorem left_calls (x : T) (A : Option Addr) (c : Nat) (B : Option Addr) (d : Nat) (n : Nat) (w : World) (hv : Bv w x A c B d) (hn : n ≤ 4000) :
    ∃ r : Int, LeftOk r (n : Int) (wT x) ∧ Calls Try.prog 20 #[.agg #[.int .u8 x.f0, .int .u8 x.f1, .bool x.f2, .slice A x.f3.length c, .slice B x.f4.length d], .int .i64 (n : Int), .int .i64 1] w fun e w' => e = .returned (.int .i64 r) ∧ Below w.heap.size w w' := by
  obtain ⟨K, r, e, h⟩ := left_ours x 1 n (by omega) (by omega) (by omega) (by omega)
  refine ⟨r, h, (PBerEncodes.cardcaselaw05_left.calls K x.f0 x.f1 x.f2 A c x.f3 B d x.f4 (n : Int) 1 r w hv.cb hv.lb hv.ci hv.li e).mono ?_⟩
  rintro e w' ⟨rfl, hd⟩
  exact ⟨rfl, hd⟩
theorem rsame_calls (x y : T) (A : Option Addr) (c : Nat) (B : Option Addr) (d : Nat) (A' : Option Addr) (c' : Nat) (B' : Option Addr) (d' : Nat) (w : World) (hv : Bv w x A c B d) (hu : Bv w y A' c' B' d') (hx : byteT x) (hy : byteT y) (hw : wT x ≤ 1000000000) :
    Calls Try.prog 30 #[.agg #[.int .u8 x.f0, .int .u8 x.f1, .bool x.f2, .slice A x.f3.length c, .slice B x.f4.length d], .agg #[.int .u8 y.f0, .int .u8 y.f1, .bool y.f2, .slice A' y.f3.length c', .slice B' y.f4.length d']] w (Tells (x = y) w) := by
  obtain ⟨K, r, e, h⟩ := rsame_ours x y hx hy hw
  refine (PBerEncodes.cardcaseref05_Same.calls K x.f0 x.f1 x.f2 A c x.f3 B d x.f4 y.f0 y.f1 y.f2 A' c' y.f3 B' d' y.f4 r w hv.cb hv.lb hv.ci hv.li hu.cb hu.lb hu.ci hu.li e).mono ?_
  rintro e w' ⟨rfl, hd⟩
  exact ⟨⟨r, rfl, h⟩, hd⟩
/-- A box that was made and filled behind a call. -/
theorem boxed (w : World) (x : T) (A : Option Addr) (c : Nat) (B : Option Addr) (d : Nat) : ∃ w1 w2, w.alloc (.cells #[.int .u8 0, .int .u8 0, .bool false, .slice none 0 0, .slice none 0 0] 26) = w1 ∧
    (((((w1.setCell ⟨w.heap.size, 0, none⟩ (.int .u8 x.f0)).setCell ⟨w.heap.size, 1, none⟩ (.int .u8 x.f1)).setCell ⟨w.heap.size, 2, none⟩ (.bool x.f2)).setCell ⟨w.heap.size, 3, none⟩ (.slice A x.f3.length c)).setCell ⟨w.heap.size, 4, none⟩ (.slice B x.f4.length d)) = w2 ∧
    Box w1 w.heap.size (.int .u8 0) (.int .u8 0) (.bool false) (.slice none 0 0) (.slice none 0 0) ∧ Box w2 w.heap.size (.int .u8 x.f0) (.int .u8 x.f1) (.bool x.f2) (.slice A x.f3.length c) (.slice B x.f4.length d) ∧ Below w.heap.size w w2 := by
  obtain ⟨w2, h1, h2, h3⟩ := put5 (box_new w (.int .u8 0) (.int .u8 0) (.bool false) (.slice none 0 0) (.slice none 0 0)) (.int .u8 x.f0) (.int .u8 x.f1) (.bool x.f2) (.slice A x.f3.length c) (.slice B x.f4.length d)
  exact ⟨_, w2, rfl, h1, box_new w _ _ _ _ _, h2, put5_mod h3 (below_alloc (Below.refl _ _) _) (Nat.le_refl _)⟩
theorem rsame_yes (x : T) (A : Option Addr) (c : Nat) (B : Option Addr) (d : Nat) (A' : Option Addr) (c' : Nat) (B' : Option Addr) (d' : Nat) (w : World) (hv : Bv w x A c B d) (hu : Bv w x A' c' B' d') (hx : byteT x) (hw : wT x ≤ 1000000000) :
    Calls Try.prog 30 #[.agg #[.int .u8 x.f0, .int .u8 x.f1, .bool x.f2, .slice A x.f3.length c, .slice B x.f4.length d], .agg #[.int .u8 x.f0, .int .u8 x.f1, .bool x.f2, .slice A' x.f3.length c', .slice B' x.f4.length d']] w fun e w' => e = .returned (.bool true) ∧ Below w.heap.size w w' :=
  (rsame_calls x x A c B d A' c' B' d' w hv hu hx hx hw).mono (fun e w' h => by obtain ⟨⟨r, h1, h2⟩, h3⟩ := h; rw [h2.2 rfl] at h1; exact ⟨h1, h3⟩)
set_option maxHeartbeats 8000000 in
theorem common_walk (s : ByteArray) (A : Option Addr) (c : Nat) (l : List T) (is : Bool) (w : World) (hC : kT.C w A l.length l) (hc : l.length ≤ c) (hb : byteL l) :
    Calls Try.prog 7 #[.string s, .slice A l.length c, .bool is] w fun e w' => e = .returned (.bool true) ∧ Below w.heap.size w w' := by
  by_cases h0 : 1000 < s.size
  · have i1 : (1000 : Int) < (s.size : Int) := by omega
    obtain ⟨N, hN⟩ : ∃ N, l.length = N := ⟨_, rfl⟩
    rw [hN]
    clear hC hc hb hN
    go_enter Try.func7, Try.ntmps7
    go_wp2_with fail
    refine (known_calls _).mono ?_
    rintro e w1 ⟨rfl, hb1⟩
    have hb1 := Aside0.mk hb1
    go_wp2_with fail
    go_ret
    exact ⟨rfl, hb1.out⟩
  · have i1 : decide ((1000 : Int) < (s.size : Int)) = false := by simp; omega
    by_cases h1 : 10 < l.length
    · obtain ⟨N, hN⟩ : ∃ N, l.length = N := ⟨_, rfl⟩
      rw [hN] at h1 ⊢
      have i2 : (10 : Int) < (N : Int) := by omega
      clear hC hc hb hN
      go_enter Try.func7, Try.ntmps7
      go_wp2_with fail
      refine (known_calls _).mono ?_
      rintro e w1 ⟨rfl, hb1⟩
      have hb1 := Aside0.mk hb1
      go_wp2_with fail
      go_ret
      exact ⟨rfl, hb1.out⟩
    · obtain ⟨r, hr, hcl⟩ := left_calls ⟨0, 0, false, [], l⟩ none 0 A c 2000 w ⟨Nat.le_refl _, Kd.C_nil _ _, hc, hC⟩ (by omega)
      replace hcl : Calls Try.prog 20 #[.agg #[.int .u8 0, .int .u8 0, .bool false, .slice none 0 0, .slice A l.length c], .int .i64 2000, .int .i64 1] w fun e w' => e = .returned (.int .i64 r) ∧ Below w.heap.size w w' := hcl
      replace hcl := Aside0.mk hcl
      have hN' : Aside0 (∃ N, l.length = N) := ⟨⟨_, rfl⟩⟩
      obtain ⟨N, hN⟩ := hN'.out
      have hNN := Aside0.mk hN
      have i2 : decide ((10 : Int) < (N : Int)) = false := by simp; omega
      rw [hN] at hC hc hcl ⊢
      clear hN hN' h1 h0
      by_cases h2 : r < 0
      · clear hC hc hb hr
        go_enter Try.func7, Try.ntmps7
        go_wp2_with fail
        refine hcl.out.mono ?_
        rintro e w1 ⟨rfl, hb1⟩
        have hb1 := Aside0.mk hb1
        go_wp2_with fail
        refine (known_calls _).mono ?_
        rintro e w2 ⟨rfl, hb2⟩
        have hb2 := Aside0.mk (below_then hb1.out hb1.out.size hb2)
        go_wp2_with fail
        go_ret
        exact ⟨rfl, hb2.out⟩
      · have hwl : wL l ≤ 2000 := by
          have h3 := hr.2.2 (by omega)
          have h4 : wT ⟨0, 0, false, [], l⟩ = 1 + wL l := by simp only [wT]; simp
          rw [h4] at h3
          omega
        have i3 : decide (r < 0) = false := by simp; omega
        have hs := str_bytes s
        replace hC := Aside0.mk hC
        replace hwl := Aside0.mk hwl
        replace hb := Aside0.mk hb
        have hs9 : s.size ≤ 1000000 := by have : decide ((1000 : Int) < (s.size : Int)) = false := i1; simp at this; omega
        clear hr h2
        replace hs := Aside0.mk hs
        go_enter Try.func7, Try.ntmps7
        go_wp2_with fail
        refine hcl.out.mono ?_
        rintro e w1 ⟨rfl, hb1⟩
        have htr := Aside0.mk (truth_calls is w1)
        replace hb1 := Aside0.mk hb1
        clear hcl
        go_wp2_with fail
        refine htr.out.mono ?_
        rintro e w2 ⟨⟨A2, c2, B2, d2, rfl, hv2⟩, hb2⟩
        unfold bv
        dsimp only
        have hb12 := below_then hb1.out hb1.out.size hb2
        obtain ⟨w3, w4, hw3, hw4, hX3, hX4, hb24⟩ := boxed w2 ⟨0, 1, false, [if is = true then 255 else 0], []⟩ A2 c2 B2 d2
        obtain ⟨V, hV⟩ : ∃ V, w2.heap.size = V := ⟨_, rfl⟩
        rw [hV] at hX3 hX4
        dsimp only at hw4 hX4
        simp only [List.length_cons, List.length_nil, Nat.zero_add] at hw4 hX4 ⊢
        obtain ⟨a0, a1, a2, a3, a4⟩ := hX3.cells
        obtain ⟨f0, f1, f2, f3, f4⟩ := hX3.free
        have hb14 := Aside0.mk (below_then hb12 hb12.size hb24)
        have hv4 := Aside0.mk (hv2.below hb24)
        have hte := Aside0.mk (text_calls s w4 hs9)
        rw [hV] at hw4
        have hX4 := Aside0.mk hX4
        clear hX3 hb24 htr hb2 hb12 hv2
        go_wp2_with fail
        refine hte.out.mono ?_
        rintro e w5 ⟨⟨A5, c5, B5, d5, rfl, hv5⟩, hb5⟩
        unfold bv
        dsimp only
        replace hw3 := Aside0.mk hw3
        replace hw4 := Aside0.mk hw4
        replace hV := Aside0.mk hV
        clear a0 a1 a2 a3 a4 f0 f1 f2 f3 f4
        have hb15 := below_then hb14.out hb14.out.size hb5
        have hX5 := hX4.out.below hb5
        have hv45 := hv4.out.below hb5
        obtain ⟨w6, w7, hw6, hw7, hU6, hU7, hb57⟩ := boxed w5 ⟨0, 4, false, bytesOf s, []⟩ A5 c5 B5 d5
        obtain ⟨U, hU⟩ : ∃ U, w5.heap.size = U := ⟨_, rfl⟩
        rw [hU] at hU6 hU7 hw7
        dsimp only at hw7 hU7
        obtain ⟨m, hm⟩ : ∃ m, (bytesOf s).length = m := ⟨_, rfl⟩
        simp only [List.length_nil] at hw7 hU7 ⊢
        rw [hm] at hw7 hU7 ⊢
        obtain ⟨a0, a1, a2, a3, a4⟩ := hU6.cells
        obtain ⟨f0, f1, f2, f3, f4⟩ := hU6.free
        have hb17 := Aside0.mk (below_then hb15 hb15.size hb57)
        have hX7 := Aside0.mk (hX5.below hb57)
        have hv47 := Aside0.mk (hv45.below hb57)
        have hv57 := Aside0.mk (hv5.below hb57)
        have hC7 := Aside0.mk (Kd.C_below hC.out hb17.out)
        have hli := Aside0.mk (show Calls Try.prog 12 #[.slice A N c] w7 (Gives ⟨0, 16, true, [], l⟩ w7) from by
          have h := list_calls A c l w7 (by rw [hNN.out]; exact hC7.out) (by rw [hNN.out]; exact hc) (by have := hwl.out; omega)
          rwa [hNN.out] at h)
        have hU7 := Aside0.mk hU7
        replace hm := Aside0.mk hm
        clear hU6 hb57 hte hb5 hb15 hX5 hX4 hv45 hv5 hv4 hb14
        go_wp2_with fail
        refine hli.out.mono ?_
        rintro e w8 ⟨⟨A8, c8, B8, d8, rfl, hv8⟩, hb8⟩
        unfold bv
        dsimp only
        rw [hNN.out]
        replace hw6 := Aside0.mk hw6
        replace hw7 := Aside0.mk hw7
        replace hU := Aside0.mk hU
        clear a0 a1 a2 a3 a4 f0 f1 f2 f3 f4
        have hb18 := Aside0.mk (below_then hb17.out hb17.out.size hb8)
        have hset := Aside0.mk (show Calls Try.prog 29 #[.slice A N c] w8 (Gives ⟨0, 17, true, [], l⟩ w8) from by
          have h := set_calls A c l w8 (by rw [hNN.out]; exact Kd.C_below hC7.out hb8) (by rw [hNN.out]; exact hc) (by have := hwl.out; omega)
          rwa [hNN.out] at h)
        have hX8 := Aside0.mk (hX7.out.below hb8)
        have hU8 := Aside0.mk (hU7.out.below hb8)
        have hv48 := Aside0.mk (hv47.out.below hb8)
        have hv58 := Aside0.mk (hv57.out.below hb8)
        have hv8 := Aside0.mk hv8
        clear hli hb8 hX7 hU7 hv47 hv57 hb17
        go_wp2_with fail
        refine hset.out.mono ?_
        rintro e w9 ⟨⟨A9, c9, B9, d9, rfl, hv9⟩, hb9⟩
        unfold bv
        dsimp only
        rw [hNN.out]
        have hP10 := box_new w9 (.int .u8 0) (.int .u8 0) (.bool false) (.slice none 0 0) (.slice none 0 0)
        have hb10 := below_alloc (Below.refl w9.heap.size w9) (.cells #[.int .u8 0, .int .u8 0, .bool false, .slice none 0 0, .slice none 0 0] 26)
        obtain ⟨w10, hw10⟩ : ∃ w10, w9.alloc (.cells #[.int .u8 0, .int .u8 0, .bool false, .slice none 0 0, .slice none 0 0] 26) = w10 := ⟨_, rfl⟩
        obtain ⟨P, hP⟩ : ∃ P, w9.heap.size = P := ⟨_, rfl⟩
        rw [hw10] at hP10 hb10
        rw [hP] at hP10
        have hQ11 := box_new w10 (.int .u8 0) (.int .u8 0) (.bool false) (.slice none 0 0) (.slice none 0 0)
        have hb11 := below_alloc (Below.refl w10.heap.size w10) (.cells #[.int .u8 0, .int .u8 0, .bool false, .slice none 0 0, .slice none 0 0] 26)
        obtain ⟨w11, hw11⟩ : ∃ w11, w10.alloc (.cells #[.int .u8 0, .int .u8 0, .bool false, .slice none 0 0, .slice none 0 0] 26) = w11 := ⟨_, rfl⟩
        obtain ⟨Q, hQ⟩ : ∃ Q, w10.heap.size = Q := ⟨_, rfl⟩
        rw [hw11] at hQ11 hb11
        rw [hQ] at hQ11
        have hPQ : P < Q := by have := hP10.lt; omega
        have hP11 := hP10.below hb11
        obtain ⟨w12, hw12, hP12, hm12⟩ := put5 hP11 (.int .u8 0) (.int .u8 16) (.bool true) (.slice A8 0 c8) (.slice B8 N d8)
        have hQ12 := hQ11.mod hm12 (by omega)
        obtain ⟨w13, hw13, hQ13, hm13⟩ := put5 hQ12 (.int .u8 0) (.int .u8 17) (.bool true) (.slice A9 0 c9) (.slice B9 N d9)
        have hP13 := hP12.mod hm13 (by omega)
        obtain ⟨a0, a1, a2, a3, a4⟩ := hP11.cells
        obtain ⟨f0, f1, f2, f3, f4⟩ := hP11.free
        obtain ⟨b0, b1, b2, b3, b4⟩ := hQ12.cells
        obtain ⟨g0, g1, g2, g3, g4⟩ := hQ12.free
        have hb911 := below_then hb10 hb10.size hb11
        have hb13 : Below w9.heap.size w9 w13 := put5_mod hm13 (put5_mod hm12 hb911 (by omega)) (by omega)
        have hb813 := below_then hb9 hb9.size hb13
        have hb113 := Aside0.mk (below_then hb18.out hb18.out.size hb813)
        have hX13 := Aside0.mk (hX8.out.below hb813)
        have hU13 := Aside0.mk (hU8.out.below hb813)
        have hv413 := Aside0.mk (hv48.out.below hb813)
        have hv513 := Aside0.mk (hv58.out.below hb813)
        have hv813 := Aside0.mk (hv8.out.below hb813)
        have hv913 := Aside0.mk (hv9.below hb13)
        have hP13 := Aside0.mk hP13
        have hQ13 := Aside0.mk hQ13
        obtain ⟨p0, p1, p2, p3, p4⟩ := hX13.out.cells
        have hto := Aside0.mk (show Calls Try.prog 26 #[.agg #[.int .u8 0, .int .u8 1, .bool false, .slice A2 1 c2, .slice B2 0 d2]] w13 (TruthEnds (some is) w13) from by
          have h := truthof_calls ⟨0, 1, false, [if is = true then 255 else 0], []⟩ A2 c2 B2 d2 w13 hv413.out.now
          rw [show truthF ⟨0, 1, false, [if is = true then 255 else 0], []⟩ = some is from by cases is <;> simp [truthF]] at h
          exact h)
        clear hset hP10 hb10 hQ11 hb11 hP11 hP12 hQ12 hm12 hm13 hb911 hb13 hb813 hb9 hX8 hU8 hv48 hv58 hv8 hv9 hb18
        go_wp2_with fail
        refine hto.out.mono ?_
        rintro e w14 ⟨rfl, hb14⟩
        dsimp only
        replace hw10 := Aside0.mk hw10
        replace hw11 := Aside0.mk hw11
        replace hw12 := Aside0.mk hw12
        replace hw13 := Aside0.mk hw13
        replace hP := Aside0.mk hP
        replace hQ := Aside0.mk hQ
        clear a0 a1 a2 a3 a4 f0 f1 f2 f3 f4 b0 b1 b2 b3 b4 g0 g1 g2 g3 g4 p0 p1 p2 p3 p4 hto
        have hb114 := Aside0.mk (below_then hb113.out hb113.out.size hb14)
        obtain ⟨_, x1, _, _, _⟩ := (hX13.out.below hb14).cells
        obtain ⟨_, u1, u2, u3, _⟩ := (hU13.out.below hb14).cells
        obtain ⟨_, p1, p2, _, p4⟩ := (hP13.out.below hb14).cells
        obtain ⟨_, q1, q2, _, q4⟩ := (hQ13.out.below hb14).cells
        have hcv := Kd.C_string (P := Try.prog) (dst := 9) (c := c5) Try.underlying23 Try.underlying5 Try.underlying9 (hv513.out.below hb14).now.cb
        dsimp only at hcv
        rw [hm.out] at hcv
        have hss : ((strOfNums (bytesOf s)).toList != s.toList) = false := by rw [hs.out]; simp
        obtain ⟨str, hstr⟩ : ∃ str, strOfNums (bytesOf s) = str := ⟨_, rfl⟩
        have hs2 : ((strOfNums (bytesOf s)).toList == s.toList) = true := by rw [hs.out]; simp
        rw [hstr] at hcv hss hs2
        have hii : (is != is) = false := by cases is <;> rfl
        have hC14 := Aside0.mk (Kd.C_below (by have := hC.out; exact this) hb114.out)
        have hy : byteT ⟨0, 0, false, [], l⟩ := ⟨by omega, by omega, by simp, hb.out⟩
        have hwy : wT (⟨0, 0, false, [], l⟩ : T) ≤ 1000000000 := by have := hwl.out; simp only [wT]; simp; omega
        have hl0 : Bv w14 ⟨0, 0, false, [], l⟩ none 0 A c := ⟨Nat.le_refl _, Kd.C_nil _ _, by rw [hNN.out]; exact hc, by rw [hNN.out]; exact hC14.out⟩
        have hli0 : Bv w14 ⟨0, 0, false, [], l⟩ none 0 B8 d8 := ⟨Nat.le_refl _, Kd.C_nil _ _, hv813.out.li, (hv813.out.below hb14).now.ci⟩
        have hse0 : Bv w14 ⟨0, 0, false, [], l⟩ none 0 B9 d9 := ⟨Nat.le_refl _, Kd.C_nil _ _, hv913.out.li, (hv913.out.below hb14).now.ci⟩
        have hsa := Aside0.mk (show Calls Try.prog 30 #[.agg #[.int .u8 0, .int .u8 0, .bool false, .slice none 0 0, .slice B8 N d8], .agg #[.int .u8 0, .int .u8 0, .bool false, .slice none 0 0, .slice A N c]] w14 (fun e w' => e = .returned (.bool true) ∧ Below w14.heap.size w14 w') from by
          have h := rsame_yes ⟨0, 0, false, [], l⟩ none 0 B8 d8 none 0 A c w14 hli0 hl0 hy hwy
          dsimp only at h
          rw [hNN.out] at h
          exact h)
        have hsb := Aside0.mk (fun W (hW : Below w14.heap.size w14 W) => (show Calls Try.prog 30 #[.agg #[.int .u8 0, .int .u8 0, .bool false, .slice none 0 0, .slice B9 N d9], .agg #[.int .u8 0, .int .u8 0, .bool false, .slice none 0 0, .slice A N c]] W (fun e w' => e = .returned (.bool true) ∧ Below W.heap.size W w') from by
          have h := rsame_yes ⟨0, 0, false, [], l⟩ none 0 B9 d9 none 0 A c W (hse0.below hW) (hl0.below hW) hy hwy
          dsimp only at h
          rw [hNN.out] at h
          exact h))
        clear hb14 hl0 hli0 hse0 hy hwy
        replace hstr := Aside0.mk hstr
        go_wp2_with fail
        refine hsa.out.mono ?_
        rintro e w15 ⟨rfl, hb15⟩
        have hsb' := Aside0.mk (hsb.out w15 hb15)
        have q4' := pw_cell_below hb15 q4
        have hb115 := Aside0.mk (below_then hb114.out hb114.out.size hb15)
        clear hsa hsb hb15 x1 u1 u2 u3 p1 p2 p4 q1 q2 q4 hcv
        go_wp2_with fail
        refine hsb'.out.mono ?_
        rintro e w16 ⟨rfl, hb16⟩
        have hb116 := Aside0.mk (below_then hb115.out hb115.out.size hb16)
        clear hb16 hsb' q4'
        go_wp2_with fail
        refine (known_calls _).mono ?_
        rintro e w17 ⟨rfl, hb17⟩
        have hb117 := Aside0.mk (below_then hb116.out hb116.out.size hb17)
        clear hb17
        go_wp2_with fail
        go_ret
        exact ⟨rfl, hb117.out⟩
end Go.Proofs.Ytlmelbnmfhpacaa
