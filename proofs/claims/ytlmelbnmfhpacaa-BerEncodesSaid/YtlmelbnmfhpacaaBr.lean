/- The walk of BerEncodes. -/
import Derived.Test.YtlmelbnmfhpacaaBq
set_option linter.unusedVariables false
set_option linter.unusedSimpArgs false
namespace Go.Proofs.Ytlmelbnmfhpacaa
open Go.RowKit Go.Shelf Go.Proofs.YtlmelbnmfhpacaaW.PrintWords Go.Proofs.YtlmelbnmfhpacaaW.PrintMore Go.Proofs.YtlmelbnmfhpacaaW.PrintLast

theorem light_calls (x : T) (A : Option Addr) (c : Nat) (B : Option Addr) (d : Nat) (w : World) (hv : Bv w x A c B d) :
    ∃ b : Bool, (b = true → wT x ≤ 2000) ∧ Calls Try.prog 31 #[.agg #[.int .u8 x.f0, .int .u8 x.f1, .bool x.f2, .slice A x.f3.length c, .slice B x.f4.length d]] w fun e w' => e = .returned (.bool b) ∧ Below w.heap.size w w' := by
  obtain ⟨K, r, e, h⟩ := left_ours x 1 2000 (by omega) (by omega) (by omega) (by omega)
  refine ⟨decide (r ≥ 0), fun hb => ?_, (PBerEncodes.cardcaselaw05_light.calls K x.f0 x.f1 x.f2 A c x.f3 B d x.f4 (decide (r ≥ 0)) w hv.cb hv.lb hv.ci hv.li ?_).mono ?_⟩
  · have h1 := of_decide_eq_true hb
    have h2 := h.2.2 h1
    omega
  · unfold PBerEncodes.cardcaselaw05_light.f
    have e' : PBerEncodes.cardcaselaw05_left.f K x.f0 x.f1 x.f2 x.f3 x.f4 2000 1 = some r := e
    rw [e']
    rfl
  · rintro e w' ⟨rfl, hd⟩
    exact ⟨rfl, hd⟩
theorem same_yes (x : T) (A : Option Addr) (c : Nat) (B : Option Addr) (d : Nat) (A' : Option Addr) (c' : Nat) (B' : Option Addr) (d' : Nat) (w : World) (hv : Bv w x A c B d) (hu : Bv w x A' c' B' d') (hx : byteT x) (hw : wT x ≤ 10000000) :
    Calls Try.prog 32 #[.agg #[.int .u8 x.f0, .int .u8 x.f1, .bool x.f2, .slice A x.f3.length c, .slice B x.f4.length d], .agg #[.int .u8 x.f0, .int .u8 x.f1, .bool x.f2, .slice A' x.f3.length c', .slice B' x.f4.length d']] w fun e w' => e = .returned (.bool true) ∧ Below w.heap.size w w' :=
  tells_bool (b := true) (same_calls x hx hw x A c B d A' c' B' d' w hv hu hx) (by simp)
set_option maxHeartbeats 16000000 in
theorem encodes_walk (x : T) (A : Option Addr) (c : Nat) (B : Option Addr) (d : Nat) (w : World) (hv : Bv w x A c B d) (hx : byteT x) :
    Calls Try.prog 8 #[.agg #[.int .u8 x.f0, .int .u8 x.f1, .bool x.f2, .slice A x.f3.length c, .slice B x.f4.length d]] w fun e w' => e = .returned (.bool true) ∧ Below w.heap.size w w' := by
  have hX1 := box_new w (.int .u8 x.f0) (.int .u8 x.f1) (.bool x.f2) (.slice A x.f3.length c) (.slice B x.f4.length d)
  have hb1 := below_alloc (Below.refl w.heap.size w) (.cells #[.int .u8 x.f0, .int .u8 x.f1, .bool x.f2, .slice A x.f3.length c, .slice B x.f4.length d] 26)
  obtain ⟨w1, hw1⟩ : ∃ w1, w.alloc (.cells #[.int .u8 x.f0, .int .u8 x.f1, .bool x.f2, .slice A x.f3.length c, .slice B x.f4.length d] 26) = w1 := ⟨_, rfl⟩
  obtain ⟨V, hV⟩ : ∃ V, w.heap.size = V := ⟨_, rfl⟩
  rw [hw1] at hX1 hb1
  rw [hV] at hX1
  have hK := Aside0.mk (show ∀ W, Below w1.heap.size w1 W → (W.cell? ⟨V, 0, none⟩ = some (.int .u8 x.f0) ∧ W.cell? ⟨V, 1, none⟩ = some (.int .u8 x.f1) ∧ W.cell? ⟨V, 2, none⟩ = some (.bool x.f2) ∧ W.cell? ⟨V, 3, none⟩ = some (.slice A x.f3.length c) ∧ W.cell? ⟨V, 4, none⟩ = some (.slice B x.f4.length d)) from fun W hW => (hX1.below hW).cells)
  have hv2 := Aside0.mk (fun W (hW : Below w1.heap.size w1 W) => (hv.below hb1).below hW)
  have hb1' := Aside0.mk hb1
  have hw10 := Aside0.mk (Below.refl w1.heap.size w1)
  obtain ⟨bl, hbl, hli⟩ := light_calls x A c B d w1 (hv2.out _ hw10.out)
  replace hli := Aside0.mk hli
  obtain ⟨p0, p1, p2, p3, p4⟩ := hK.out _ hw10.out
  replace hx := Aside0.mk hx
  clear hX1 hb1 hv
  cases bl with
  | false =>
    clear hbl
    go_enter Try.func8, Try.ntmps8
    go_wp2_with fail
    refine hli.out.mono ?_
    rintro e w2 ⟨rfl, hb⟩
    have hw2 := Aside0.mk hb
    clear hb
    go_wp2_with fail
    refine (known_calls _).mono ?_
    rintro e w11 ⟨rfl, hb11⟩
    have hbf := Aside0.mk (below_then hb1'.out hb1'.out.size (below_then hw2.out hw2.out.size hb11))
    clear hb11
    go_wp2_with fail
    go_ret
    exact ⟨rfl, hbf.out⟩
  | true =>
    have hwx := Aside0.mk (hbl rfl)
    clear hbl
    have hrc := Aside0.mk (fun W (hW : Below w1.heap.size w1 W) => rcheck_calls x A c B d W (hv2.out W hW) (by have := hwx.out; omega))
    have hoc := Aside0.mk (fun W (hW : Below w1.heap.size w1 W) => check_ours x A c B d W (hv2.out W hW) (by have := hwx.out; omega))
    by_cases cx : checkN x = 0
    · have hex := Aside0.mk (fun W (hW : Below w1.heap.size w1 W) => enc_yes x A c B d W (hv2.out W hW) hx.out (by have := hwx.out; omega) cx)
      have hdl := Aside0.mk (dec_lay cx hx.out)
      obtain ⟨ha, _, hz⟩ := check_zero cx
      have hls := sizeT_lay x ha
      have hby := Aside0.mk (lay_bytes x ha hx.out (by omega))
      have hrb := Aside0.mk (fun W (hW : Below w1.heap.size w1 W) => (show Calls Try.prog 17 #[.agg #[.int .u8 x.f0, .int .u8 x.f1, .bool x.f2, .slice A x.f3.length c, .slice B x.f4.length d]] W (Laid (layT x) W) from rbytes_calls x A c B d W (hv2.out W hW) ha hx.out (by omega)))
      have hll : (layT x).length ≤ 65536 := by omega
      rw [cx] at hrc hoc
      obtain ⟨l, hl⟩ : ∃ l, layT x = l := ⟨_, rfl⟩
      rw [hl] at hex hdl hby hrb hll
      obtain ⟨m, hm⟩ : ∃ m, l.length = m := ⟨_, rfl⟩
      have hcv : Aside0 (∀ A c W, kU.C W A l.length l → (convert 23 9 (.slice A m c)).run Try.prog W = .ok (.string (strOfNums l)) W) := ⟨fun A c W h => by
        have := Kd.C_string (P := Try.prog) (dst := 9) (c := c) Try.underlying23 Try.underlying5 Try.underlying9 h
        rwa [hm] at this⟩
      obtain ⟨str, hstr⟩ : ∃ str, strOfNums l = str := ⟨_, rfl⟩
      rw [hstr] at hcv
      have hss : (str.toList == str.toList) = true := by simp
      rw [hm] at hex hll
      replace hm := Aside0.mk hm
      clear ha hz hls hl cx hstr
      go_enter Try.func8, Try.ntmps8
      go_wp2_with fail
      refine hli.out.mono ?_
      rintro e w2 ⟨rfl, hb⟩
      have hw2 := Aside0.mk hb
      clear hb p0 p1 p2 p3 p4
      obtain ⟨p0, p1, p2, p3, p4⟩ := hK.out _ hw2.out
      go_wp2_with fail
      refine (hex.out _ hw2.out).mono ?_
      rintro e w3 ⟨A3, c3, rfl, hc3, hF3, hb⟩
      have hw3 := Aside0.mk (below_then hw2.out hw2.out.size hb)
      have hF3 := Aside0.mk hF3
      clear hb p0 p1 p2 p3 p4
      obtain ⟨p0, p1, p2, p3, p4⟩ := hK.out _ hw3.out
      go_wp2_with fail
      refine (hrc.out _ hw3.out).mono ?_
      rintro e w4 ⟨rfl, hb⟩
      have hw4 := Aside0.mk (below_then hw3.out hw3.out.size hb)
      have hF4 := Aside0.mk (Kd.F_below hF3.out hb)
      clear hb p0 p1 p2 p3 p4 hF3
      obtain ⟨p0, p1, p2, p3, p4⟩ := hK.out _ hw4.out
      go_wp2_with fail
      refine (hoc.out _ hw4.out).mono ?_
      rintro e w5 ⟨rfl, hb⟩
      have hw5 := Aside0.mk (below_then hw4.out hw4.out.size hb)
      have hF5 := Aside0.mk (Kd.F_below hF4.out hb)
      have hde := decode_calls A3 c3 l w5 (by rw [hm.out]; exact Kd.F_now hF5.out) (by rw [hm.out]; exact hc3) (by rw [hm.out]; omega) hby.out
      rw [hdl.out, hm.out] at hde
      have hde := Aside0.mk (show Calls Try.prog 16 #[.slice A3 m c3] w5 (fun e w' => (∃ A c B d, e = .returned (.tuple #[.agg #[.int .u8 x.f0, .int .u8 x.f1, .bool x.f2, .slice A x.f3.length c, .slice B x.f4.length d], .int .i64 0]) ∧ BvF w' (fun q => w5.heap.size ≤ q) x A c B d) ∧ Below w5.heap.size w5 w') from hde)
      clear hb p0 p1 p2 p3 p4 hF4
      go_wp2_with fail
      refine hde.out.mono ?_
      rintro e w6 ⟨⟨A6, c6, B6, d6, rfl, hv6⟩, hb6⟩
      obtain ⟨w7, w8, hw7, hw8, hX7, hX8, hb68⟩ := boxed w6 x A6 c6 B6 d6
      obtain ⟨O, hO⟩ : ∃ O, w6.heap.size = O := ⟨_, rfl⟩
      rw [hO] at hX7 hX8 hw8
      obtain ⟨a0, a1, a2, a3, a4⟩ := hX7.cells
      obtain ⟨f0, f1, f2, f3, f4⟩ := hX7.free
      have hb58 := below_then hb6 hb6.size hb68
      have hw8' := Aside0.mk (below_then hw5.out hw5.out.size hb58)
      have hF8 := Aside0.mk (Kd.F_below hF5.out hb58)
      have hv8 := Aside0.mk (hv6.below hb68)
      have hX8 := Aside0.mk hX8
      clear hX7 hb6 hb68 hb58 hv6 hde hF5
      go_wp2_with fail
      replace hw7 := Aside0.mk hw7
      replace hw8 := Aside0.mk hw8
      replace hO := Aside0.mk hO
      have hdr := Aside0.mk (below_drew (Below.refl w8.heap.size w8))
      have hS := Aside0.mk (show ∀ W, Below w8.heap.size w8 W → (W.cell? ⟨V, 0, none⟩ = some (.int .u8 x.f0) ∧ W.cell? ⟨V, 1, none⟩ = some (.int .u8 x.f1) ∧ W.cell? ⟨V, 2, none⟩ = some (.bool x.f2) ∧ W.cell? ⟨V, 3, none⟩ = some (.slice A x.f3.length c) ∧ W.cell? ⟨V, 4, none⟩ = some (.slice B x.f4.length d) ∧ W.cell? ⟨O, 0, none⟩ = some (.int .u8 x.f0) ∧ W.cell? ⟨O, 1, none⟩ = some (.int .u8 x.f1) ∧ W.cell? ⟨O, 2, none⟩ = some (.bool x.f2) ∧ W.cell? ⟨O, 3, none⟩ = some (.slice A6 x.f3.length c6) ∧ W.cell? ⟨O, 4, none⟩ = some (.slice B6 x.f4.length d6) ∧ (convert 23 9 (.slice A3 m c3)).run Try.prog W = .ok (.string str) W) from fun W hW => by
        obtain ⟨h0, h1, h2, h3, h4⟩ := hK.out W (below_then hw8'.out hw8'.out.size hW)
        obtain ⟨g0, g1, g2, g3, g4⟩ := (hX8.out.below hW).cells
        exact ⟨h0, h1, h2, h3, h4, g0, g1, g2, g3, g4, hcv.out _ _ _ (by rw [hm.out]; exact Kd.F_now (Kd.F_below hF8.out hW))⟩)
      have hbv := Aside0.mk (fun W (hW : Below w8.heap.size w8 W) => hv2.out W (below_then hw8'.out hw8'.out.size hW))
      clear a0 a1 a2 a3 a4 f0 f1 f2 f3 f4
      refine start_ (n := 24) (S := fun w' => w'.cell? ⟨V, 0, none⟩ = some (.int .u8 x.f0) ∧ w'.cell? ⟨V, 1, none⟩ = some (.int .u8 x.f1) ∧ w'.cell? ⟨V, 2, none⟩ = some (.bool x.f2) ∧ w'.cell? ⟨V, 3, none⟩ = some (.slice A x.f3.length c) ∧ w'.cell? ⟨V, 4, none⟩ = some (.slice B x.f4.length d) ∧ w'.cell? ⟨O, 0, none⟩ = some (.int .u8 x.f0) ∧ w'.cell? ⟨O, 1, none⟩ = some (.int .u8 x.f1) ∧ w'.cell? ⟨O, 2, none⟩ = some (.bool x.f2) ∧ w'.cell? ⟨O, 3, none⟩ = some (.slice A6 x.f3.length c6) ∧ w'.cell? ⟨O, 4, none⟩ = some (.slice B6 x.f4.length d6) ∧ (convert 23 9 (.slice A3 m c3)).run Try.prog w' = .ok (.string str) w') (ds := []) #[false, false, false, false, false, false, false, false, false, false, false, false, false, false, false, false, false, false, false, false, false, false, false, false] (by kernel_rfl) rfl rfl ⟨(hS.out _ hdr.out).1, (hS.out _ hdr.out).2.1, (hS.out _ hdr.out).2.2.1, (hS.out _ hdr.out).2.2.2.1, (hS.out _ hdr.out).2.2.2.2.1, (hS.out _ hdr.out).2.2.2.2.2.1, (hS.out _ hdr.out).2.2.2.2.2.2.1, (hS.out _ hdr.out).2.2.2.2.2.2.2.1, (hS.out _ hdr.out).2.2.2.2.2.2.2.2.1, (hS.out _ hdr.out).2.2.2.2.2.2.2.2.2.1, (hS.out _ hdr.out).2.2.2.2.2.2.2.2.2.2⟩ (fun hHeld => ?_)
      refine pure_ (i := 0) (N := some 41) (v := ?_) (a' := ?_) #[true, false, false, false, false, false, false, false, false, false, false, false, false, false, false, false, false, false, false, false, false, false, false, false] rfl rfl (by kernel_rfl) (fun _ _ _ h => h) (Or.inl ⟨by rfl, ?_⟩) ?_ ?_
      rotate_left
      · intro w'
        go_simp
        with_reducible rfl
      rotate_left
      · simp only [Act.put, List.setIfInBounds_toArray, List.set_cons_zero, List.set_cons_succ, i64_w, i32_w]
        rfl
      refine take_ (i := 1) (N := some 42) (v := ?_) (a' := ?_) #[true, true, false, false, false, false, false, false, false, false, false, false, false, false, false, false, false, false, false, false, false, false, false, false] rfl rfl (by kernel_rfl) (fun _ _ _ h => h) (Or.inl ⟨by rfl, ?_⟩) hHeld ?_ ?_
      rotate_left
      · rintro w' ⟨s0, s1, s2, s3, s4, s5, s6, s7, s8, s9, s10⟩
        go_simp
        with_reducible rfl
      rotate_left
      · simp only [Act.put, List.setIfInBounds_toArray, List.set_cons_zero, List.set_cons_succ, i64_w, i32_w]
        rfl
      refine take_ (i := 2) (N := some 43) (v := ?_) (a' := ?_) #[true, true, true, false, false, false, false, false, false, false, false, false, false, false, false, false, false, false, false, false, false, false, false, false] rfl rfl (by kernel_rfl) (fun _ _ _ h => h) (Or.inl ⟨by rfl, ?_⟩) hHeld ?_ ?_
      rotate_left
      · rintro w' ⟨s0, s1, s2, s3, s4, s5, s6, s7, s8, s9, s10⟩
        go_simp
        with_reducible rfl
      rotate_left
      · simp only [Act.put, List.setIfInBounds_toArray, List.set_cons_zero, List.set_cons_succ, i64_w, i32_w]
        rfl
      refine one_ (i := 3) (N := some 44) #[true, true, true, true, false, false, false, false, false, false, false, false, false, false, false, false, false, false, false, false, false, false, false, false] rfl rfl (by kernel_rfl) (by decide) (fun K hK => ?_)
      refine goes_ Try.func17 (by kernel_rfl) rfl #[.agg #[.int .u8 x.f0, .int .u8 x.f1, .bool x.f2, .slice A x.f3.length c, .slice B x.f4.length d]] (by rfl) rfl rfl (by simp only [List.map_toArray, List.map_cons, List.map_nil]; rfl) ?_
      with_reducible refine ((hrb.out _ (below_then hw8'.out hw8'.out.size hdr.out))).mono ?_
      rintro e w9 ⟨A9, c9, rfl, hR9, hb9⟩
      refine ⟨_, rfl, ?_⟩
      have hcu := hcv.out A9 c9 w9 (Kd.R_reads' hR9).2.2
      rw [hm.out]
      have h89 := Aside0.mk (below_then hdr.out hdr.out.size hb9)
      clear hR9 hb9
      refine hK.out _ _ ⟨(hS.out _ h89.out).1, (hS.out _ h89.out).2.1, (hS.out _ h89.out).2.2.1, (hS.out _ h89.out).2.2.2.1, (hS.out _ h89.out).2.2.2.2.1, (hS.out _ h89.out).2.2.2.2.2.1, (hS.out _ h89.out).2.2.2.2.2.2.1, (hS.out _ h89.out).2.2.2.2.2.2.2.1, (hS.out _ h89.out).2.2.2.2.2.2.2.2.1, (hS.out _ h89.out).2.2.2.2.2.2.2.2.2.1, (hS.out _ h89.out).2.2.2.2.2.2.2.2.2.2⟩ (fun hHeld => ?_)
      clear hK K
      refine norm_ (a' := ?_) ?_ ?_
      rotate_left
      · show Act.put _ (some 44) _ = _
        simp only [Act.put, List.setIfInBounds_toArray, List.set_cons_zero, List.set_cons_succ, i64_w, i32_w]
        rfl
      refine one_ (i := 4) (N := some 45) #[true, true, true, true, true, false, false, false, false, false, false, false, false, false, false, false, false, false, false, false, false, false, false, false] rfl rfl (by kernel_rfl) (by decide) (fun K hK => ?_)
      refine value_ (w1 := ?_) (v := ?_) (by rfl) rfl ?_ ?_
      rotate_left 2
      · go_simp
        constructor
        · rfl
        · rfl
      refine hK.out _ _ ⟨(hS.out _ h89.out).1, (hS.out _ h89.out).2.1, (hS.out _ h89.out).2.2.1, (hS.out _ h89.out).2.2.2.1, (hS.out _ h89.out).2.2.2.2.1, (hS.out _ h89.out).2.2.2.2.2.1, (hS.out _ h89.out).2.2.2.2.2.2.1, (hS.out _ h89.out).2.2.2.2.2.2.2.1, (hS.out _ h89.out).2.2.2.2.2.2.2.2.1, (hS.out _ h89.out).2.2.2.2.2.2.2.2.2.1, (hS.out _ h89.out).2.2.2.2.2.2.2.2.2.2⟩ (fun hHeld => ?_)
      clear hK K
      refine norm_ (a' := ?_) ?_ ?_
      rotate_left
      · show Act.put _ (some 45) _ = _
        simp only [Act.put, List.setIfInBounds_toArray, List.set_cons_zero, List.set_cons_succ, i64_w, i32_w]
        rfl
      refine pure_ (i := 5) (N := some 46) (v := ?_) (a' := ?_) #[true, true, true, true, true, true, false, false, false, false, false, false, false, false, false, false, false, false, false, false, false, false, false, false] rfl rfl (by kernel_rfl) (fun _ _ _ h => h) (Or.inl ⟨by rfl, ?_⟩) ?_ ?_
      rotate_left
      · intro w'
        go_simp
        with_reducible rfl
      rotate_left
      · simp only [Act.put, List.setIfInBounds_toArray, List.set_cons_zero, List.set_cons_succ, i64_w, i32_w]
        rfl
      refine pure_ (i := 6) (N := some 47) (v := ?_) (a' := ?_) #[true, true, true, true, true, true, true, false, false, false, false, false, false, false, false, false, false, false, false, false, false, false, false, false] rfl rfl (by kernel_rfl) (fun _ _ _ h => h) (Or.inl ⟨by rfl, ?_⟩) ?_ ?_
      rotate_left
      · intro w'
        go_simp
        with_reducible rfl
      rotate_left
      · simp only [Act.put, List.setIfInBounds_toArray, List.set_cons_zero, List.set_cons_succ, i64_w, i32_w]
        rfl
      refine pure_ (i := 7) (N := some 48) (v := ?_) (a' := ?_) #[true, true, true, true, true, true, true, true, false, false, false, false, false, false, false, false, false, false, false, false, false, false, false, false] rfl rfl (by kernel_rfl) (fun _ _ _ h => h) (Or.inl ⟨by rfl, ?_⟩) ?_ ?_
      rotate_left
      · intro w'
        go_simp
        with_reducible rfl
      rotate_left
      · simp only [Act.put, List.setIfInBounds_toArray, List.set_cons_zero, List.set_cons_succ, i64_w, i32_w]
        rfl
      refine pure_ (i := 8) (N := some 49) (v := ?_) (a' := ?_) #[true, true, true, true, true, true, true, true, true, false, false, false, false, false, false, false, false, false, false, false, false, false, false, false] rfl rfl (by kernel_rfl) (fun _ _ _ h => h) (Or.inl ⟨by rfl, ?_⟩) ?_ ?_
      rotate_left
      · intro w'
        go_simp
        with_reducible rfl
      rotate_left
      · simp only [Act.put, List.setIfInBounds_toArray, List.set_cons_zero, List.set_cons_succ, i64_w, i32_w]
        rfl
      refine pure_ (i := 9) (N := some 50) (v := ?_) (a' := ?_) #[true, true, true, true, true, true, true, true, true, true, false, false, false, false, false, false, false, false, false, false, false, false, false, false] rfl rfl (by kernel_rfl) (fun _ _ _ h => h) (Or.inl ⟨by rfl, ?_⟩) ?_ ?_
      rotate_left
      · intro w'
        go_simp
        with_reducible rfl
      rotate_left
      · simp only [Act.put, List.setIfInBounds_toArray, List.set_cons_zero, List.set_cons_succ, i64_w, i32_w]
        rfl
      refine pure_ (i := 10) (N := some 51) (v := ?_) (a' := ?_) #[true, true, true, true, true, true, true, true, true, true, true, false, false, false, false, false, false, false, false, false, false, false, false, false] rfl rfl (by kernel_rfl) (fun _ _ _ h => h) (Or.inl ⟨by rfl, ?_⟩) ?_ ?_
      rotate_left
      · intro w'
        go_simp
        with_reducible rfl
      rotate_left
      · simp only [Act.put, List.setIfInBounds_toArray, List.set_cons_zero, List.set_cons_succ, i64_w, i32_w]
        rfl
      refine take_ (i := 11) (N := some 52) (v := ?_) (a' := ?_) #[true, true, true, true, true, true, true, true, true, true, true, true, false, false, false, false, false, false, false, false, false, false, false, false] rfl rfl (by kernel_rfl) (fun _ _ _ h => h) (Or.inl ⟨by rfl, ?_⟩) hHeld ?_ ?_
      rotate_left
      · rintro w' ⟨s0, s1, s2, s3, s4, s5, s6, s7, s8, s9, s10⟩
        go_simp
        with_reducible rfl
      rotate_left
      · simp only [Act.put, List.setIfInBounds_toArray, List.set_cons_zero, List.set_cons_succ, i64_w, i32_w]
        rfl
      refine take_ (i := 12) (N := some 53) (v := ?_) (a' := ?_) #[true, true, true, true, true, true, true, true, true, true, true, true, true, false, false, false, false, false, false, false, false, false, false, false] rfl rfl (by kernel_rfl) (fun _ _ _ h => h) (Or.inl ⟨by rfl, ?_⟩) hHeld ?_ ?_
      rotate_left
      · rintro w' ⟨s0, s1, s2, s3, s4, s5, s6, s7, s8, s9, s10⟩
        go_simp
        with_reducible rfl
      rotate_left
      · simp only [Act.put, List.setIfInBounds_toArray, List.set_cons_zero, List.set_cons_succ, i64_w, i32_w]
        rfl
      refine one_ (i := 13) (N := some 54) #[true, true, true, true, true, true, true, true, true, true, true, true, true, true, false, false, false, false, false, false, false, false, false, false] rfl rfl (by kernel_rfl) (by decide) (fun K hK => ?_)
      refine goes_ Try.func30 (by kernel_rfl) rfl #[.agg #[.int .u8 x.f0, .int .u8 x.f1, .bool x.f2, .slice A6 x.f3.length c6, .slice B6 x.f4.length d6], .agg #[.int .u8 x.f0, .int .u8 x.f1, .bool x.f2, .slice A x.f3.length c, .slice B x.f4.length d]] (by rfl) rfl rfl (by simp only [List.map_toArray, List.map_cons, List.map_nil]; rfl) ?_
      with_reducible refine ((rsame_yes x A6 c6 B6 d6 A c B d w9 (hv8.out.below h89.out).now (hbv.out _ h89.out) hx.out (by have := hwx.out; omega))).mono ?_
      rintro e w10 ⟨rfl, hb10⟩
      refine ⟨_, rfl, ?_⟩
      have h810 := Aside0.mk (below_then h89.out h89.out.size hb10)
      clear hb10
      refine hK.out _ _ ⟨(hS.out _ h810.out).1, (hS.out _ h810.out).2.1, (hS.out _ h810.out).2.2.1, (hS.out _ h810.out).2.2.2.1, (hS.out _ h810.out).2.2.2.2.1, (hS.out _ h810.out).2.2.2.2.2.1, (hS.out _ h810.out).2.2.2.2.2.2.1, (hS.out _ h810.out).2.2.2.2.2.2.2.1, (hS.out _ h810.out).2.2.2.2.2.2.2.2.1, (hS.out _ h810.out).2.2.2.2.2.2.2.2.2.1, (hS.out _ h810.out).2.2.2.2.2.2.2.2.2.2⟩ (fun hHeld => ?_)
      clear hK K
      refine norm_ (a' := ?_) ?_ ?_
      rotate_left
      · show Act.put _ (some 54) _ = _
        simp only [Act.put, List.setIfInBounds_toArray, List.set_cons_zero, List.set_cons_succ, i64_w, i32_w]
        rfl
      refine pure_ (i := 14) (N := some 55) (v := ?_) (a' := ?_) #[true, true, true, true, true, true, true, true, true, true, true, true, true, true, true, false, false, false, false, false, false, false, false, false] rfl rfl (by kernel_rfl) (fun _ _ _ h => h) (Or.inl ⟨by rfl, ?_⟩) ?_ ?_
      rotate_left
      · intro w'
        go_simp
        with_reducible rfl
      rotate_left
      · simp only [Act.put, List.setIfInBounds_toArray, List.set_cons_zero, List.set_cons_succ, i64_w, i32_w]
        rfl
      refine pure_ (i := 15) (N := some 56) (v := ?_) (a' := ?_) #[true, true, true, true, true, true, true, true, true, true, true, true, true, true, true, true, false, false, false, false, false, false, false, false] rfl rfl (by kernel_rfl) (fun _ _ _ h => h) (Or.inl ⟨by rfl, ?_⟩) ?_ ?_
      rotate_left
      · intro w'
        go_simp
        with_reducible rfl
      rotate_left
      · simp only [Act.put, List.setIfInBounds_toArray, List.set_cons_zero, List.set_cons_succ, i64_w, i32_w]
        rfl
      refine take_ (i := 16) (N := some 57) (v := ?_) (a' := ?_) #[true, true, true, true, true, true, true, true, true, true, true, true, true, true, true, true, true, false, false, false, false, false, false, false] rfl rfl (by kernel_rfl) (fun _ _ _ h => h) (Or.inl ⟨by rfl, ?_⟩) hHeld ?_ ?_
      rotate_left
      · rintro w' ⟨s0, s1, s2, s3, s4, s5, s6, s7, s8, s9, s10⟩
        go_simp
        with_reducible rfl
      rotate_left
      · simp only [Act.put, List.setIfInBounds_toArray, List.set_cons_zero, List.set_cons_succ, i64_w, i32_w]
        rfl
      refine take_ (i := 17) (N := some 58) (v := ?_) (a' := ?_) #[true, true, true, true, true, true, true, true, true, true, true, true, true, true, true, true, true, true, false, false, false, false, false, false] rfl rfl (by kernel_rfl) (fun _ _ _ h => h) (Or.inl ⟨by rfl, ?_⟩) hHeld ?_ ?_
      rotate_left
      · rintro w' ⟨s0, s1, s2, s3, s4, s5, s6, s7, s8, s9, s10⟩
        go_simp
        with_reducible rfl
      rotate_left
      · simp only [Act.put, List.setIfInBounds_toArray, List.set_cons_zero, List.set_cons_succ, i64_w, i32_w]
        rfl
      refine one_ (i := 18) (N := some 59) #[true, true, true, true, true, true, true, true, true, true, true, true, true, true, true, true, true, true, true, false, false, false, false, false] rfl rfl (by kernel_rfl) (by decide) (fun K hK => ?_)
      refine goes_ Try.func32 (by kernel_rfl) rfl #[.agg #[.int .u8 x.f0, .int .u8 x.f1, .bool x.f2, .slice A6 x.f3.length c6, .slice B6 x.f4.length d6], .agg #[.int .u8 x.f0, .int .u8 x.f1, .bool x.f2, .slice A x.f3.length c, .slice B x.f4.length d]] (by rfl) rfl rfl (by simp only [List.map_toArray, List.map_cons, List.map_nil]; rfl) ?_
      with_reducible refine ((same_yes x A6 c6 B6 d6 A c B d w10 (hv8.out.below h810.out).now (hbv.out _ h810.out) hx.out (by have := hwx.out; omega))).mono ?_
      rintro e w11 ⟨rfl, hb11⟩
      refine ⟨_, rfl, ?_⟩
      have h811 := Aside0.mk (below_then h810.out h810.out.size hb11)
      clear hb11
      refine hK.out _ _ ⟨(hS.out _ h811.out).1, (hS.out _ h811.out).2.1, (hS.out _ h811.out).2.2.1, (hS.out _ h811.out).2.2.2.1, (hS.out _ h811.out).2.2.2.2.1, (hS.out _ h811.out).2.2.2.2.2.1, (hS.out _ h811.out).2.2.2.2.2.2.1, (hS.out _ h811.out).2.2.2.2.2.2.2.1, (hS.out _ h811.out).2.2.2.2.2.2.2.2.1, (hS.out _ h811.out).2.2.2.2.2.2.2.2.2.1, (hS.out _ h811.out).2.2.2.2.2.2.2.2.2.2⟩ (fun hHeld => ?_)
      clear hK K
      refine norm_ (a' := ?_) ?_ ?_
      rotate_left
      · show Act.put _ (some 59) _ = _
        simp only [Act.put, List.setIfInBounds_toArray, List.set_cons_zero, List.set_cons_succ, i64_w, i32_w]
        rfl
      refine pure_ (i := 19) (N := some 60) (v := ?_) (a' := ?_) #[true, true, true, true, true, true, true, true, true, true, true, true, true, true, true, true, true, true, true, true, false, false, false, false] rfl rfl (by kernel_rfl) (fun _ _ _ h => h) (Or.inl ⟨by rfl, ?_⟩) ?_ ?_
      rotate_left
      · intro w'
        go_simp
        with_reducible rfl
      rotate_left
      · simp only [Act.put, List.setIfInBounds_toArray, List.set_cons_zero, List.set_cons_succ, i64_w, i32_w]
        rfl
      refine pure_ (i := 20) (N := some 61) (v := ?_) (a' := ?_) #[true, true, true, true, true, true, true, true, true, true, true, true, true, true, true, true, true, true, true, true, true, false, false, false] rfl rfl (by kernel_rfl) (fun _ _ _ h => h) (Or.inl ⟨by rfl, ?_⟩) ?_ ?_
      rotate_left
      · intro w'
        go_simp
        with_reducible rfl
      rotate_left
      · simp only [Act.put, List.setIfInBounds_toArray, List.set_cons_zero, List.set_cons_succ, i64_w, i32_w]
        rfl
      refine one_ (i := 21) (N := some 62) #[true, true, true, true, true, true, true, true, true, true, true, true, true, true, true, true, true, true, true, true, true, true, false, false] rfl rfl (by kernel_rfl) (by decide) (fun K hK => ?_)
      refine goes_ Try.func10 (by kernel_rfl) rfl #[] (by rfl) rfl rfl (by simp only [List.map_toArray, List.map_nil]) ?_
      with_reducible refine ((known_calls _)).mono ?_
      rintro e w12 ⟨rfl, hb12⟩
      refine ⟨_, rfl, ?_⟩
      have h812 := Aside0.mk (below_then h811.out h811.out.size hb12)
      clear hb12
      refine hK.out _ _ ⟨(hS.out _ h812.out).1, (hS.out _ h812.out).2.1, (hS.out _ h812.out).2.2.1, (hS.out _ h812.out).2.2.2.1, (hS.out _ h812.out).2.2.2.2.1, (hS.out _ h812.out).2.2.2.2.2.1, (hS.out _ h812.out).2.2.2.2.2.2.1, (hS.out _ h812.out).2.2.2.2.2.2.2.1, (hS.out _ h812.out).2.2.2.2.2.2.2.2.1, (hS.out _ h812.out).2.2.2.2.2.2.2.2.2.1, (hS.out _ h812.out).2.2.2.2.2.2.2.2.2.2⟩ (fun hHeld => ?_)
      clear hK K
      refine norm_ (a' := ?_) ?_ ?_
      rotate_left
      · show Act.put _ (some 62) _ = _
        simp only [Act.put, List.setIfInBounds_toArray, List.set_cons_zero, List.set_cons_succ, i64_w, i32_w]
        rfl
      refine pure_ (i := 22) (N := some 63) (v := ?_) (a' := ?_) #[true, true, true, true, true, true, true, true, true, true, true, true, true, true, true, true, true, true, true, true, true, true, true, false] rfl rfl (by kernel_rfl) (fun _ _ _ h => h) (Or.inl ⟨by rfl, ?_⟩) ?_ ?_
      rotate_left
      · intro w'
        go_simp
        with_reducible rfl
      rotate_left
      · simp only [Act.put, List.setIfInBounds_toArray, List.set_cons_zero, List.set_cons_succ, i64_w, i32_w]
        rfl
      refine pure_ (i := 23) (N := some 2) (v := ?_) (a' := ?_) #[true, true, true, true, true, true, true, true, true, true, true, true, true, true, true, true, true, true, true, true, true, true, true, true] rfl rfl (by kernel_rfl) (fun _ _ _ h => h) (Or.inl ⟨by rfl, ?_⟩) ?_ ?_
      rotate_left
      · intro w'
        go_simp
        with_reducible rfl
      rotate_left
      · simp only [Act.put, List.setIfInBounds_toArray, List.set_cons_zero, List.set_cons_succ, i64_w, i32_w]
        rfl
      refine done_ (by kernel_rfl) ?_
      have hbf := Aside0.mk (below_then hb1'.out hb1'.out.size (below_then hw8'.out hw8'.out.size h812.out))
      go_wp2_with fail
      go_ret
      exact ⟨rfl, hbf.out⟩
    · have hex := Aside0.mk (fun W (hW : Below w1.heap.size w1 W) => enc_no x A c B d W (hv2.out W hW) hx.out (by have := hwx.out; omega) cx)
      obtain ⟨N, hN⟩ : ∃ N, checkN x = N := ⟨_, rfl⟩
      rw [hN] at hex cx hrc hoc
      have hN0 : (N != 0) = true := by simpa using cx
      have hN1 : (N == 0) = false := by simpa using cx
      have hNN : (N != N) = false := by simp
      clear cx hN
      go_enter Try.func8, Try.ntmps8
      go_wp2_with fail
      refine hli.out.mono ?_
      rintro e w2 ⟨rfl, hb⟩
      have hw2 := Aside0.mk hb
      clear hb p0 p1 p2 p3 p4
      obtain ⟨p0, p1, p2, p3, p4⟩ := hK.out _ hw2.out
      go_wp2_with fail
      refine (hex.out _ hw2.out).mono ?_
      rintro e w3 ⟨rfl, hb⟩
      have hw3 := Aside0.mk (below_then hw2.out hw2.out.size hb)
      clear hb p0 p1 p2 p3 p4
      obtain ⟨p0, p1, p2, p3, p4⟩ := hK.out _ hw3.out
      go_wp2_with fail
      refine (hrc.out _ hw3.out).mono ?_
      rintro e w4 ⟨rfl, hb⟩
      have hw4 := Aside0.mk (below_then hw3.out hw3.out.size hb)
      clear hb p0 p1 p2 p3 p4
      obtain ⟨p0, p1, p2, p3, p4⟩ := hK.out _ hw4.out
      go_wp2_with fail
      refine (hoc.out _ hw4.out).mono ?_
      rintro e w5 ⟨rfl, hb⟩
      have hw5 := Aside0.mk (below_then hw4.out hw4.out.size hb)
      clear hb p0 p1 p2 p3 p4
      go_wp2_with fail
      refine (known_calls _).mono ?_
      rintro e w11 ⟨rfl, hb11⟩
      have hbf := Aside0.mk (below_then hb1'.out hb1'.out.size (below_then hw5.out hw5.out.size hb11))
      clear hb11
      go_wp2_with fail
      go_ret
      exact ⟨rfl, hbf.out⟩
end Go.Proofs.Ytlmelbnmfhpacaa
