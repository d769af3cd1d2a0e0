/- ber.List, ber.Set, ber.Tagged. -/
import Derived.Test.YtlmelbnmfhpacaaAg
import Derived.Laws.EntriesVeiled
set_option linter.unusedVariables false
set_option linter.unusedSimpArgs false
namespace Go.Proofs.Ytlmelbnmfhpacaa
open Go.RowKit Go.Shelf Go.Proofs.YtlmelbnmfhpacaaW.PrintWords Go.Proofs.YtlmelbnmfhpacaaW.PrintMore Go.Proofs.YtlmelbnmfhpacaaW.PrintLast

set_option maxHeartbeats 1000000 in
theorem list_calls (A : Option Addr) (c : Nat) (l : List T) (w : World) (hC : kT.C w A l.length l) (hc : l.length ≤ c) (hl : wL l ≤ 900000) : Calls Try.prog 12 #[.slice A l.length c] w (Gives ⟨0, 16, true, [], l⟩ w) := by
  have hB := box_new w (.int .u8 0) (.int .u8 0) (.bool false) (.slice none 0 0) (.slice none 0 0)
  have hb1 := below_alloc (Below.refl w.heap.size w) (.cells #[.int .u8 0, .int .u8 0, .bool false, .slice none 0 0, .slice none 0 0] 26)
  obtain ⟨w1, hw1⟩ : ∃ w1, w.alloc (.cells #[.int .u8 0, .int .u8 0, .bool false, .slice none 0 0, .slice none 0 0] 26) = w1 := ⟨_, rfl⟩
  have hz := Aside0.mk (show w1.heap.size = w.heap.size + 1 from by rw [← hw1]; simp)
  rw [hw1] at hB hb1
  have hcp : Calls Try.prog 33 #[.agg #[.int .u8 0, .int .u8 16, .bool true, .slice none 0 0, .slice A l.length c]] w1 (fun e w' => (∃ A c B d, e = .returned (.agg #[.int .u8 0, .int .u8 16, .bool true, .slice A 0 c, .slice B l.length d]) ∧ BvF w' (fun q => w1.heap.size ≤ q) (⟨0, 16, true, [], l⟩ : T) A c B d) ∧ Below w1.heap.size w1 w') :=
    copied_calls ⟨0, 16, true, [], l⟩ none 0 A c w1 ⟨Nat.le_refl _, Kd.C_nil _ _, hc, Kd.C_below hC hb1⟩ (by simp only [wT]; simp; omega)
  replace hcp := Aside0.mk hcp
  replace hB := Aside0.mk hB
  replace hb1 := Aside0.mk hb1
  clear hC hc
  go_enter Try.func12, Try.ntmps12
  go_wp2_with fail
  refine hcp.out.mono ?_
  rintro e w2 ⟨⟨A2, c2, B2, d2, rfl, hG⟩, hb⟩
  have hB2 := hB.out.below hb
  obtain ⟨w3, hw3, hB3, hm3⟩ := put5 hB2 (.int .u8 0) (.int .u8 16) (.bool true) (.slice A2 0 c2) (.slice B2 l.length d2)
  have hF3 := Aside0.mk (BvF.mono (ok' := fun q => w.heap.size ≤ q) (hG.mod hm3 (fun q hq h => by have := hz.out; omega)) (fun q hq => by have := hz.out; omega))
  have hb3 := Aside0.mk (put5_mod hm3 (below_then hb1.out hb1.out.size hb) (Nat.le_refl _))
  obtain ⟨c0, c1, c2', c3, c4⟩ := hB2.cells
  obtain ⟨f0, f1, f2, f3, f4⟩ := hB2.free
  obtain ⟨d0, d1, d2', d3, d4⟩ := hB3.cells
  clear hcp hb1 hB hB2 hB3 hm3 hG hb
  go_wp2_with fail
  refine bodyPost_ret (v := .agg #[.int .u8 0, .int .u8 16, .bool true, .slice A2 0 c2, .slice B2 l.length d2]) (by simp [results, Try.results12, go_sem, d0, d1, d2', d3, d4]) rfl ⟨⟨A2, c2, B2, d2, rfl, hF3.out⟩, hb3.out⟩
set_option maxHeartbeats 1000000 in
theorem set_calls (A : Option Addr) (c : Nat) (l : List T) (w : World) (hC : kT.C w A l.length l) (hc : l.length ≤ c) (hl : wL l ≤ 900000) : Calls Try.prog 29 #[.slice A l.length c] w (Gives ⟨0, 17, true, [], l⟩ w) := by
  have hB := box_new w (.int .u8 0) (.int .u8 0) (.bool false) (.slice none 0 0) (.slice none 0 0)
  have hb1 := below_alloc (Below.refl w.heap.size w) (.cells #[.int .u8 0, .int .u8 0, .bool false, .slice none 0 0, .slice none 0 0] 26)
  obtain ⟨w1, hw1⟩ : ∃ w1, w.alloc (.cells #[.int .u8 0, .int .u8 0, .bool false, .slice none 0 0, .slice none 0 0] 26) = w1 := ⟨_, rfl⟩
  have hz := Aside0.mk (show w1.heap.size = w.heap.size + 1 from by rw [← hw1]; simp)
  rw [hw1] at hB hb1
  have hcp : Calls Try.prog 33 #[.agg #[.int .u8 0, .int .u8 17, .bool true, .slice none 0 0, .slice A l.length c]] w1 (fun e w' => (∃ A c B d, e = .returned (.agg #[.int .u8 0, .int .u8 17, .bool true, .slice A 0 c, .slice B l.length d]) ∧ BvF w' (fun q => w1.heap.size ≤ q) (⟨0, 17, true, [], l⟩ : T) A c B d) ∧ Below w1.heap.size w1 w') :=
    copied_calls ⟨0, 17, true, [], l⟩ none 0 A c w1 ⟨Nat.le_refl _, Kd.C_nil _ _, hc, Kd.C_below hC hb1⟩ (by simp only [wT]; simp; omega)
  replace hcp := Aside0.mk hcp
  replace hB := Aside0.mk hB
  replace hb1 := Aside0.mk hb1
  clear hC hc
  go_enter Try.func29, Try.ntmps29
  go_wp2_with fail
  refine hcp.out.mono ?_
  rintro e w2 ⟨⟨A2, c2, B2, d2, rfl, hG⟩, hb⟩
  have hB2 := hB.out.below hb
  obtain ⟨w3, hw3, hB3, hm3⟩ := put5 hB2 (.int .u8 0) (.int .u8 17) (.bool true) (.slice A2 0 c2) (.slice B2 l.length d2)
  have hF3 := Aside0.mk (BvF.mono (ok' := fun q => w.heap.size ≤ q) (hG.mod hm3 (fun q hq h => by have := hz.out; omega)) (fun q hq => by have := hz.out; omega))
  have hb3 := Aside0.mk (put5_mod hm3 (below_then hb1.out hb1.out.size hb) (Nat.le_refl _))
  obtain ⟨c0, c1, c2', c3, c4⟩ := hB2.cells
  obtain ⟨f0, f1, f2, f3, f4⟩ := hB2.free
  obtain ⟨d0, d1, d2', d3, d4⟩ := hB3.cells
  clear hcp hb1 hB hB2 hB3 hm3 hG hb
  go_wp2_with fail
  refine bodyPost_ret (v := .agg #[.int .u8 0, .int .u8 17, .bool true, .slice A2 0 c2, .slice B2 l.length d2]) (by simp [results, Try.results29, go_sem, d0, d1, d2', d3, d4]) rfl ⟨⟨A2, c2, B2, d2, rfl, hF3.out⟩, hb3.out⟩
set_option maxHeartbeats 1000000 in
theorem tagged_calls (x : T) (A : Option Addr) (c : Nat) (B : Option Addr) (d : Nat) (cl num : Int) (w : World) (hv : Bv w x A c B d) (hx : wT x ≤ 1000000) :
    Calls Try.prog 21 #[.agg #[.int .u8 x.f0, .int .u8 x.f1, .bool x.f2, .slice A x.f3.length c, .slice B x.f4.length d], .int .u8 cl, .int .u8 num] w (Gives ⟨cl, num, x.f2, x.f3, x.f4⟩ w) := by
  obtain ⟨x0, x1, x2, xb, xs⟩ := x
  dsimp only
  have hA1 := box_new w (.int .u8 x0) (.int .u8 x1) (.bool x2) (.slice A xb.length c) (.slice B xs.length d)
  have hb1 := below_alloc (Below.refl w.heap.size w) (.cells #[.int .u8 x0, .int .u8 x1, .bool x2, .slice A xb.length c, .slice B xs.length d] 26)
  obtain ⟨w1, hw1⟩ : ∃ w1, w.alloc (.cells #[.int .u8 x0, .int .u8 x1, .bool x2, .slice A xb.length c, .slice B xs.length d] 26) = w1 := ⟨_, rfl⟩
  have hz1 := Aside0.mk (show w1.heap.size = w.heap.size + 1 from by rw [← hw1]; simp)
  rw [hw1] at hA1 hb1
  have hA2 := box_new w1 (.int .u8 0) (.int .u8 0) (.bool false) (.slice none 0 0) (.slice none 0 0)
  have hb2 := below_alloc (Below.refl w1.heap.size w1) (.cells #[.int .u8 0, .int .u8 0, .bool false, .slice none 0 0, .slice none 0 0] 26)
  obtain ⟨w2, hw2⟩ : ∃ w2, w1.alloc (.cells #[.int .u8 0, .int .u8 0, .bool false, .slice none 0 0, .slice none 0 0] 26) = w2 := ⟨_, rfl⟩
  have hz2 := Aside0.mk (show w2.heap.size = w.heap.size + 2 from by rw [← hw2]; simp; have := hz1.out; omega)
  rw [hw2] at hA2 hb2
  have hA12 := hA1.below hb2
  have hb12 := below_then hb1 hb1.size hb2
  have hcp : Calls Try.prog 33 #[.agg #[.int .u8 x0, .int .u8 x1, .bool x2, .slice A xb.length c, .slice B xs.length d]] w2 (fun e w' => (∃ A c B d, e = .returned (.agg #[.int .u8 x0, .int .u8 x1, .bool x2, .slice A xb.length c, .slice B xs.length d]) ∧ BvF w' (fun q => w2.heap.size ≤ q) (⟨x0, x1, x2, xb, xs⟩ : T) A c B d) ∧ Below w2.heap.size w2 w') :=
    copied_calls ⟨x0, x1, x2, xb, xs⟩ A c B d w2 (hv.below hb12) hx
  replace hcp := Aside0.mk hcp
  obtain ⟨p0, p1, p2, p3, p4⟩ := hA12.cells
  replace hb12 := Aside0.mk hb12
  replace hA12 := Aside0.mk hA12
  replace hA2 := Aside0.mk hA2
  clear hv hb1 hA1 hb2
  go_enter Try.func21, Try.ntmps21
  go_wp2_with fail
  refine hcp.out.mono ?_
  rintro e w3 ⟨⟨A2, c2, B2, d2, rfl, hG⟩, hb⟩
  have hX3 := hA12.out.below hb
  have hY3 := hA2.out.below hb
  obtain ⟨w4, hw4, hX4, hm4⟩ := put5 hX3 (.int .u8 x0) (.int .u8 x1) (.bool x2) (.slice A2 xb.length c2) (.slice B2 xs.length d2)
  have hX5 : Box ((w4.setCell ⟨w.heap.size, 0, none⟩ (.int .u8 cl)).setCell ⟨w.heap.size, 1, none⟩ (.int .u8 num)) w.heap.size (.int .u8 cl) (.int .u8 num) (.bool x2) (.slice A2 xb.length c2) (.slice B2 xs.length d2) := by
    have := blk_set (blk_set hX4 0 (.int .u8 cl)) 1 (.int .u8 num)
    simpa [Box] using this
  have hm5 : Mod (fun q => q = w.heap.size) w3 ((w4.setCell ⟨w.heap.size, 0, none⟩ (.int .u8 cl)).setCell ⟨w.heap.size, 1, none⟩ (.int .u8 num)) := (hm4.setCell (p := ⟨w.heap.size, 0, none⟩) (.inl rfl) _).setCell (p := ⟨w.heap.size, 1, none⟩) (.inl rfl) _
  obtain ⟨w5, hw5⟩ : ∃ w5, (w4.setCell ⟨w.heap.size, 0, none⟩ (.int .u8 cl)).setCell ⟨w.heap.size, 1, none⟩ (.int .u8 num) = w5 := ⟨_, rfl⟩
  rw [hw5] at hX5 hm5
  have hY5 := hY3.mod hm5 (by have := hz1.out; omega)
  obtain ⟨w6, hw6, hY6, hm6⟩ := put5 hY5 (.int .u8 cl) (.int .u8 num) (.bool x2) (.slice A2 xb.length c2) (.slice B2 xs.length d2)
  have hb5 := put5_mod hm5 (below_then hb12.out hb12.out.size hb) (Nat.le_refl _)
  have hb6 := Aside0.mk (put5_mod hm6 hb5 (by have := hz1.out; omega))
  have hG6 := BvF.mono (ok' := fun q => w.heap.size ≤ q) ((hG.mod hm5 (fun q hq h => by have := hz2.out; omega)).mod hm6 (fun q hq h => by have := hz2.out; have := hz1.out; omega)) (fun q hq => by have := hz2.out; omega)
  have hres := Aside0.mk (show BvF w6 (fun q => w.heap.size ≤ q) (⟨cl, num, x2, xb, xs⟩ : T) A2 c2 B2 d2 from ⟨hG6.lb, hG6.cb, hG6.li, hG6.ci⟩)
  obtain ⟨a0, a1, a2, a3, a4⟩ := hX3.cells
  obtain ⟨g0, g1, g2, g3, g4⟩ := hX3.free
  obtain ⟨k0, k1, k2, k3, k4⟩ := hX4.cells
  obtain ⟨l0, l1, l2, l3, l4⟩ := hX4.free
  obtain ⟨m0, m1, m2, m3, m4⟩ := hX5.cells
  obtain ⟨y0, y1, y2, y3, y4⟩ := hY5.cells
  obtain ⟨z0, z1, z2, z3, z4⟩ := hY5.free
  obtain ⟨s0, s1, s2, s3, s4⟩ := hY6.cells
  clear hcp hb12 hA12 hA2 hX3 hY3 hX4 hX5 hm4 hm5 hY5 hY6 hm6 hb5 hG hG6 hb
  go_wp2_with fail
  refine bodyPost_ret (v := .agg #[.int .u8 cl, .int .u8 num, .bool x2, .slice A2 xb.length c2, .slice B2 xs.length d2]) (by simp [results, Try.results21, go_sem, s0, s1, s2, s3, s4]) rfl ⟨⟨A2, c2, B2, d2, rfl, hres.out⟩, hb6.out⟩
end Go.Proofs.Ytlmelbnmfhpacaa

/- ber.right's closure. -/
set_option linter.unusedVariables false
set_option linter.unusedSimpArgs false
namespace Go.Proofs.Ytlmelbnmfhpacaa
open Go.RowKit Go.Shelf Go.Proofs.YtlmelbnmfhpacaaW.PrintWords Go.Proofs.YtlmelbnmfhpacaaW.PrintMore Go.Proofs.YtlmelbnmfhpacaaW.PrintLast

theorem kT_at {w : World} {A0 : Option Addr} {n : Nat} {xs : List T} (h : kT.C w A0 n xs) (k : Nat) (hk : k < xs.length) : ∃ ad A c B d, A0 = some ad ∧ w.cell? (ad.add (k * 5)) = some (.int .u8 xs[k].f0) ∧ w.cell? ⟨(ad.add (k * 5)).block, (ad.add (k * 5)).off + 1, none⟩ = some (.int .u8 xs[k].f1) ∧ w.cell? ⟨(ad.add (k * 5)).block, (ad.add (k * 5)).off + 2, none⟩ = some (.bool xs[k].f2) ∧ w.cell? ⟨(ad.add (k * 5)).block, (ad.add (k * 5)).off + 3, none⟩ = some (.slice A xs[k].f3.length c) ∧ w.cell? ⟨(ad.add (k * 5)).block, (ad.add (k * 5)).off + 4, none⟩ = some (.slice B xs[k].f4.length d) ∧ Bv w xs[k] A c B d := by
  have hn : xs.length = n := h.1
  obtain ⟨ad, A, c, B, d, e, h0, h1, h2, h3, h4, g1, g2, g3, g4⟩ := PBerEncodes.at_T26 h (k : Int) (by omega) (by omega)
  have hr : PBerEncodes.rd_T26 xs (k : Int) = xs[k] := by unfold PBerEncodes.rd_T26; simp [List.getD_eq_getElem?_getD, hk]
  rw [hr] at h0 h1 h2 h3 h4 g1 g2 g3 g4
  exact ⟨ad, A, c, B, d, e, h0, h1, h2, h3, h4, ⟨g1, g2, g3, g4⟩⟩
theorem take_arg {xs : List T} {k : Nat} (hk : k < xs.length) : argL (xs.take (k + 1)) = (argL (xs.take k) && argT xs[k]) := by
  rw [Bool.eq_iff_iff, Bool.and_eq_true, argL_iff, argL_iff, List.take_succ_eq_append_getElem hk]
  simp only [List.mem_append, List.mem_singleton]
  constructor
  · intro h; exact ⟨fun x hx => h x (.inl hx), h _ (.inr rfl)⟩
  · rintro ⟨h1, h2⟩ x (hx | rfl); exact h1 x hx; exact h2
theorem take_deep {xs : List T} {k n : Nat} (hk : k < xs.length) : deepL n (xs.take (k + 1)) = (deepL n (xs.take k) && deepT n xs[k]) := by
  rw [Bool.eq_iff_iff, Bool.and_eq_true, deepL_iff, deepL_iff, List.take_succ_eq_append_getElem hk]
  simp only [List.mem_append, List.mem_singleton]
  constructor
  · intro h; exact ⟨fun x hx => h x (.inl hx), h _ (.inr rfl)⟩
  · rintro ⟨h1, h2⟩ x (hx | rfl); exact h1 x hx; exact h2
theorem arg_no {xs : List T} {k : Nat} (hk : k < xs.length) (h : argT xs[k] = false) : argL xs = false := by
  rw [Bool.eq_false_iff]
  intro h2
  rw [argL_iff] at h2
  rw [h2 _ (List.getElem_mem hk)] at h
  cases h
/-- What the closure ends in. -/
def Asked (x : T) (n : Nat) (w : World) (e : Ending) (w' : World) : Prop := (e = if argT x = true then .returned (.bool (deepT n x)) else stopE 2) ∧ Below w.heap.size w w'
abbrev deepV (g : Nat) : Value := .func (.func 49) #[] #[.pointer (some ⟨g, 0, none⟩)]
set_option maxHeartbeats 1000000 in
set_option maxRecDepth 20000 in
theorem right1_calls (x : T) : ∀ (A : Option Addr) (c : Nat) (B : Option Addr) (d : Nat) (n g : Nat) (w : World), Bv w x A c B d → n + wT x ≤ 10000000 → w.cell? ⟨g, 0, none⟩ = some (deepV g) →
    Calls Try.prog 49 #[bv x A c B d, .int .i64 (n : Int), .pointer (some ⟨g, 0, none⟩)] w (Asked x n w) := by
  refine treeInd (P := fun x => ∀ (A : Option Addr) (c : Nat) (B : Option Addr) (d : Nat) (n g : Nat) (w : World), Bv w x A c B d → n + wT x ≤ 10000000 → w.cell? ⟨g, 0, none⟩ = some (deepV g) → Calls Try.prog 49 #[bv x A c B d, .int .i64 (n : Int), .pointer (some ⟨g, 0, none⟩)] w (Asked x n w)) (fun x0 x1 x2 xb xs ih => ?_) x
  intro A c B d n g w hv hw hg
  have he := enters_of (P := Try.prog) Try.func49 (by kernel_rfl) rfl
  have hw' : n + (1 + xb.length + wL xs) ≤ 10000000 := hw
  have hwn := wL_length xs
  have hA1 := box_new w (.int .u8 x0) (.int .u8 x1) (.bool x2) (.slice A xb.length c) (.slice B xs.length d)
  have hb1 := below_alloc (Below.refl w.heap.size w) (.cells #[.int .u8 x0, .int .u8 x1, .bool x2, .slice A xb.length c, .slice B xs.length d] 26)
  obtain ⟨w1, hw1⟩ : ∃ w1, w.alloc (.cells #[.int .u8 x0, .int .u8 x1, .bool x2, .slice A xb.length c, .slice B xs.length d] 26) = w1 := ⟨_, rfl⟩
  rw [hw1] at hA1 hb1
  have hci := Aside0.mk (show kT.C w B xs.length xs from hv.ci)
  have hg1 := Aside0.mk hg
  obtain ⟨p0, p1, p2, p3, p4⟩ := hA1.cells
  replace hb1 := Aside0.mk hb1
  have harg : argT ⟨x0, x1, x2, xb, xs⟩ = ((decide (x0 ≤ 3) && decide (x1 ≤ 30) && (!x2 || xb.isEmpty) && (x2 || xs.isEmpty)) && argL xs) := rfl
  have hdeep : deepT n ⟨x0, x1, x2, xb, xs⟩ = (decide (n ≤ 16) && deepL (n + 1) xs) := rfl
  replace ih := Aside0.mk ih
  clear hA1 hv hw hg
  unfold bv
  dsimp only
  have hno : argT ⟨x0, x1, x2, xb, xs⟩ = false → Aside0 (∀ w', Below w.heap.size w w' → Asked ⟨x0, x1, x2, xb, xs⟩ n w (stopE 2) w') := fun h => ⟨fun w' hb => ⟨by rw [h]; rfl, hb⟩⟩
  have hyes : argT ⟨x0, x1, x2, xb, xs⟩ = true → Aside0 (∀ w' r, r = deepT n ⟨x0, x1, x2, xb, xs⟩ → Below w.heap.size w w' → Asked ⟨x0, x1, x2, xb, xs⟩ n w (.returned (.bool r)) w') := fun h => ⟨fun w' r hr hb => ⟨by rw [h, hr]; rfl, hb⟩⟩
  rw [harg] at hno hyes
  rw [hdeep] at hyes
  clear harg hdeep
  by_cases c0 : x0 ≤ 3
  · have c0' : x0 ≤ 3 := c0
    by_cases c1 : x1 ≤ 30
    · cases x2 with
      | true =>
        by_cases c3 : xb = []
        · have c5 : xb.isEmpty = true := by rw [c3]; rfl
          have c6 : ((xb.length : Int) == 0) = true := by rw [c3]; rfl
          have hargs : Aside0 (argL xs = true → ∀ w' r, r = (decide (n ≤ 16) && deepL (n + 1) xs) → Below w.heap.size w w' → Asked _ n w (.returned (.bool r)) w') := ⟨fun h => (hyes (by simp [c0, c1, c5, h])).out⟩
          replace hno : Aside0 (argL xs = false → ∀ w', Below w.heap.size w w' → Asked _ n w (stopE 2) w') := ⟨fun h => (hno (by simp [h])).out⟩
          clear hyes
          obtain ⟨N, hN⟩ : ∃ N, xs.length = N := ⟨_, rfl⟩
          rw [hN] at p4 hci hwn hw1 ⊢
          clear c5 c3
          have hN' := Aside0.mk hN
          clear hN
          obtain ⟨r0, hr0⟩ : ∃ r0, decide (n ≤ 16) = r0 := ⟨_, rfl⟩
          have q0 : decide ((n : Int) ≤ 16) = r0 := by rw [← hr0]; congr 1; exact propext ⟨fun h => by omega, fun h => by omega⟩
          rw [hr0] at hargs
          have hw2 := Aside0.mk hw'
          have hn9 : (n : Int) ≤ 10000000 := by omega
          have hN9 : N ≤ 10000000 := by omega
          clear hw'
          go_enter Try.func49, Try.ntmps49
          go_wp2_with fail
          refine (must_yes _ _).mono ?_
          rintro e w' ⟨rfl, rfl⟩
          go_wp2_with fail
          go_loopw [6, 44] (fun s6 s44 wr => ∃ k : Nat, k ≤ N ∧ s44 = .int .i64 k ∧ s6 = .bool (r0 && deepL (n + 1) (xs.take k)) ∧ Aside0 (Below w.heap.size w wr) ∧ Aside0 (argL (xs.take k) = true)) (fun _ s44 _ => N - (intOf s44).toNat)
          case atStart => exact ⟨0, Nat.zero_le _, rfl, by simp [deepL], hb1, ⟨rfl⟩⟩
          case round =>
            obtain ⟨k, hk, rfl, rfl, hb, hal⟩ := hrel
            by_cases hlt : k < N
            · have hkx : k < xs.length := by rw [hN'.out]; exact hlt
              obtain ⟨ad, A6, c6, B6, d6, e, s0, s1, s2, s3, s4, hv6⟩ := kT_at (Kd.C_below hci.out hb.out) k hkx
              subst e
              have hmem : xs[k] ∈ xs := List.getElem_mem hkx
              have hwy := wT_mem hmem
              have hta := Aside0.mk (take_arg hkx)
              have htd := Aside0.mk (take_deep (n := n + 1) hkx)
              have hbad := Aside0.mk (fun h => hno.out (arg_no hkx h))
              obtain ⟨y, hy⟩ : ∃ y, xs[k] = y := ⟨_, rfl⟩
              rw [hy] at s0 s1 s2 s3 s4 hv6 hmem hwy hta htd hbad
              rw [hal.out, Bool.true_and] at hta
              have hb2 := below_alloc (Below.refl wr.heap.size wr) (.cells #[.int .u8 y.f0, .int .u8 y.f1, .bool y.f2, .slice A6 y.f3.length c6, .slice B6 y.f4.length d6] 26)
              have hX2 := box_new wr (.int .u8 y.f0) (.int .u8 y.f1) (.bool y.f2) (.slice A6 y.f3.length c6) (.slice B6 y.f4.length d6)
              obtain ⟨w2, hw2e⟩ : ∃ w2, wr.alloc (.cells #[.int .u8 y.f0, .int .u8 y.f1, .bool y.f2, .slice A6 y.f3.length c6, .slice B6 y.f4.length d6] 26) = w2 := ⟨_, rfl⟩
              rw [hw2e] at hb2 hX2
              have hgw := pw_cell_below hb2 (pw_cell_below hb.out hg1.out)
              obtain ⟨t0, t1, t2, t3, t4⟩ := hX2.cells
              have hcall : Calls Try.prog 49 #[.agg #[.int .u8 y.f0, .int .u8 y.f1, .bool y.f2, .slice A6 y.f3.length c6, .slice B6 y.f4.length d6], .int .i64 ((n : Int) + 1), .pointer (some ⟨g, 0, none⟩)] w2 (Asked y (n + 1) w2) := ih.out y hmem A6 c6 B6 d6 (n + 1) g w2 (hv6.below hb2) (by have := hw2.out; omega) hgw
              unfold Asked at hcall
              replace hb2 := Aside0.mk (below_then hb.out hb.out.size hb2)
              have i1 : (0 : Int) ≤ (k : Int) := by omega
              have i2 : (k : Int) < (N : Int) := by omega
              obtain ⟨f, hf⟩ : ∃ f, (r0 && deepL (n + 1) (xs.take k)) = f := ⟨_, rfl⟩
              have htd2 := Aside0.mk (show (r0 && deepL (n + 1) (xs.take (k + 1))) = (f && deepT (n + 1) y) from by rw [htd.out, ← Bool.and_assoc, hf])
              rw [hf]
              unfold deepV at hgw
              clear hy hmem hwy hv6 hkx htd hX2 hb hf q0
              cases hay : argT y with
              | false =>
                rw [hay, if_neg (by simp)] at hcall
                replace hcall := Aside0.mk hcall
                replace hbad := Aside0.mk (hbad.out hay)
                clear hay hta htd2
                go_wp2_with fail
                refine hcall.out.mono ?_
                rintro e w4 ⟨rfl, hb4⟩
                replace hb4 := Aside0.mk (below_then hb2.out hb2.out.size hb4)
                clear hb2 hcall
                go_wp2_with fail
                exact ⟨rfl, hbad.out _ hb4.out⟩
              | true =>
                rw [hay, if_pos rfl] at hcall
                rw [hay] at hta
                clear hay hbad
                cases hdy : deepT (n + 1) y
                all_goals
                  rw [hdy] at hcall htd2
                  replace hcall := Aside0.mk hcall
                  clear hdy
                  go_wp2_with fail
                  refine hcall.out.mono ?_
                  rintro e w4 ⟨rfl, hb4⟩
                  replace hb4 := Aside0.mk (below_then hb2.out hb2.out.size hb4)
                  clear hb2 hcall
                  go_wp2_with fail
                  go_roundw
                  case rel => exact ⟨k + 1, by omega, by go_num, by rw [htd2.out]; simp, hb4, hta⟩
                  case measure => simp [intOf]; omega
            · obtain rfl : k = N := by omega
              have ht : xs.take k = xs := List.take_of_length_le (by rw [hN'.out]; exact Nat.le_refl _)
              rw [ht] at hal ⊢
              obtain ⟨r, hr⟩ : ∃ r, (r0 && deepL (n + 1) xs) = r := ⟨_, rfl⟩
              have hfin := Aside0.mk (fun w' hb => hargs.out hal.out w' r hr.symm hb)
              rw [hr]
              clear hr ht
              go_wp2_with fail
              go_ret
              exact hfin.out _ hb.out
        · have c3' : 0 < xb.length := List.length_pos_iff.2 c3
          have c4 : xb.isEmpty = false := by simpa using c3
          have c5 : ((xb.length : Int) == 0) = false := by simp; omega
          replace hno := hno (by simp [c4])
          clear hyes hci ih hg1
          go_enter Try.func49, Try.ntmps49
          go_wp2_with fail
          refine (must_no _ _).mono ?_
          rintro e w' ⟨rfl, rfl⟩
          go_wp2_with fail
          exact ⟨rfl, hno.out _ hb1.out⟩
      | false =>
        by_cases c3 : xs = []
        · have c5 : xs.isEmpty = true := by rw [c3]; rfl
          have c6 : xs.length = 0 := by rw [c3]; rfl
          have hargs : Aside0 (argL xs = true → ∀ w' r, r = (decide (n ≤ 16) && deepL (n + 1) xs) → Below w.heap.size w w' → Asked _ n w (.returned (.bool r)) w') := ⟨fun h => (hyes (by simp [c0, c1, c5, h])).out⟩
          replace hno : Aside0 (argL xs = false → ∀ w', Below w.heap.size w w' → Asked _ n w (stopE 2) w') := ⟨fun h => (hno (by simp [h])).out⟩
          clear hyes
          obtain ⟨N, hN⟩ : ∃ N, xs.length = N := ⟨_, rfl⟩
          rw [hN] at p4 hci hwn hw1 ⊢
          have c7 : ((N : Int) == 0) = true := by simp; omega
          clear c6 c5 c3
          have hN' := Aside0.mk hN
          clear hN
          obtain ⟨r0, hr0⟩ : ∃ r0, decide (n ≤ 16) = r0 := ⟨_, rfl⟩
          have q0 : decide ((n : Int) ≤ 16) = r0 := by rw [← hr0]; congr 1; exact propext ⟨fun h => by omega, fun h => by omega⟩
          rw [hr0] at hargs
          have hw2 := Aside0.mk hw'
          have hn9 : (n : Int) ≤ 10000000 := by omega
          have hN9 : N ≤ 10000000 := by omega
          clear hw'
          go_enter Try.func49, Try.ntmps49
          go_wp2_with fail
          refine (must_yes _ _).mono ?_
          rintro e w' ⟨rfl, rfl⟩
          go_wp2_with fail
          go_loopw [6, 44] (fun s6 s44 wr => ∃ k : Nat, k ≤ N ∧ s44 = .int .i64 k ∧ s6 = .bool (r0 && deepL (n + 1) (xs.take k)) ∧ Aside0 (Below w.heap.size w wr) ∧ Aside0 (argL (xs.take k) = true)) (fun _ s44 _ => N - (intOf s44).toNat)
          case atStart => exact ⟨0, Nat.zero_le _, rfl, by simp [deepL], hb1, ⟨rfl⟩⟩
          case round =>
            obtain ⟨k, hk, rfl, rfl, hb, hal⟩ := hrel
            by_cases hlt : k < N
            · have hkx : k < xs.length := by rw [hN'.out]; exact hlt
              obtain ⟨ad, A6, c6, B6, d6, e, s0, s1, s2, s3, s4, hv6⟩ := kT_at (Kd.C_below hci.out hb.out) k hkx
              subst e
              have hmem : xs[k] ∈ xs := List.getElem_mem hkx
              have hwy := wT_mem hmem
              have hta := Aside0.mk (take_arg hkx)
              have htd := Aside0.mk (take_deep (n := n + 1) hkx)
              have hbad := Aside0.mk (fun h => hno.out (arg_no hkx h))
              obtain ⟨y, hy⟩ : ∃ y, xs[k] = y := ⟨_, rfl⟩
              rw [hy] at s0 s1 s2 s3 s4 hv6 hmem hwy hta htd hbad
              rw [hal.out, Bool.true_and] at hta
              have hb2 := below_alloc (Below.refl wr.heap.size wr) (.cells #[.int .u8 y.f0, .int .u8 y.f1, .bool y.f2, .slice A6 y.f3.length c6, .slice B6 y.f4.length d6] 26)
              have hX2 := box_new wr (.int .u8 y.f0) (.int .u8 y.f1) (.bool y.f2) (.slice A6 y.f3.length c6) (.slice B6 y.f4.length d6)
              obtain ⟨w2, hw2e⟩ : ∃ w2, wr.alloc (.cells #[.int .u8 y.f0, .int .u8 y.f1, .bool y.f2, .slice A6 y.f3.length c6, .slice B6 y.f4.length d6] 26) = w2 := ⟨_, rfl⟩
              rw [hw2e] at hb2 hX2
              have hgw := pw_cell_below hb2 (pw_cell_below hb.out hg1.out)
              obtain ⟨t0, t1, t2, t3, t4⟩ := hX2.cells
              have hcall : Calls Try.prog 49 #[.agg #[.int .u8 y.f0, .int .u8 y.f1, .bool y.f2, .slice A6 y.f3.length c6, .slice B6 y.f4.length d6], .int .i64 ((n : Int) + 1), .pointer (some ⟨g, 0, none⟩)] w2 (Asked y (n + 1) w2) := ih.out y hmem A6 c6 B6 d6 (n + 1) g w2 (hv6.below hb2) (by have := hw2.out; omega) hgw
              unfold Asked at hcall
              replace hb2 := Aside0.mk (below_then hb.out hb.out.size hb2)
              have i1 : (0 : Int) ≤ (k : Int) := by omega
              have i2 : (k : Int) < (N : Int) := by omega
              obtain ⟨f, hf⟩ : ∃ f, (r0 && deepL (n + 1) (xs.take k)) = f := ⟨_, rfl⟩
              have htd2 := Aside0.mk (show (r0 && deepL (n + 1) (xs.take (k + 1))) = (f && deepT (n + 1) y) from by rw [htd.out, ← Bool.and_assoc, hf])
              rw [hf]
              unfold deepV at hgw
              clear hy hmem hwy hv6 hkx htd hX2 hb hf q0
              cases hay : argT y with
              | false =>
                rw [hay, if_neg (by simp)] at hcall
                replace hcall := Aside0.mk hcall
                replace hbad := Aside0.mk (hbad.out hay)
                clear hay hta htd2
                go_wp2_with fail
                refine hcall.out.mono ?_
                rintro e w4 ⟨rfl, hb4⟩
                replace hb4 := Aside0.mk (below_then hb2.out hb2.out.size hb4)
                clear hb2 hcall
                go_wp2_with fail
                exact ⟨rfl, hbad.out _ hb4.out⟩
              | true =>
                rw [hay, if_pos rfl] at hcall
                rw [hay] at hta
                clear hay hbad
                cases hdy : deepT (n + 1) y
                all_goals
                  rw [hdy] at hcall htd2
                  replace hcall := Aside0.mk hcall
                  clear hdy
                  go_wp2_with fail
                  refine hcall.out.mono ?_
                  rintro e w4 ⟨rfl, hb4⟩
                  replace hb4 := Aside0.mk (below_then hb2.out hb2.out.size hb4)
                  clear hb2 hcall
                  go_wp2_with fail
                  go_roundw
                  case rel => exact ⟨k + 1, by omega, by go_num, by rw [htd2.out]; simp, hb4, hta⟩
                  case measure => simp [intOf]; omega
            · obtain rfl : k = N := by omega
              have ht : xs.take k = xs := List.take_of_length_le (by rw [hN'.out]; exact Nat.le_refl _)
              rw [ht] at hal ⊢
              obtain ⟨r, hr⟩ : ∃ r, (r0 && deepL (n + 1) xs) = r := ⟨_, rfl⟩
              have hfin := Aside0.mk (fun w' hb => hargs.out hal.out w' r hr.symm hb)
              rw [hr]
              clear hr ht
              go_wp2_with fail
              go_ret
              exact hfin.out _ hb.out
        · have c3' : 0 < xs.length := List.length_pos_iff.2 c3
          have c4 : xs.isEmpty = false := by simpa using c3
          have c5 : ((xs.length : Int) == 0) = false := by simp; omega
          replace hno := hno (by simp [c4])
          clear hyes hci ih hg1
          go_enter Try.func49, Try.ntmps49
          go_wp2_with fail
          refine (must_no _ _).mono ?_
          rintro e w' ⟨rfl, rfl⟩
          go_wp2_with fail
          exact ⟨rfl, hno.out _ hb1.out⟩
    · have c1' : 30 < x1 := by omega
      replace hno := hno (by simp [c1])
      clear hyes hci ih hg1
      go_enter Try.func49, Try.ntmps49
      go_wp2_with fail
      refine (must_no _ _).mono ?_
      rintro e w' ⟨rfl, rfl⟩
      go_wp2_with fail
      exact ⟨rfl, hno.out _ hb1.out⟩
  · have c0' : 3 < x0 := by omega
    replace hno := hno (by simp [c0])
    clear hyes hci ih hg1
    go_enter Try.func49, Try.ntmps49
    go_wp2_with fail
    refine (must_no _ _).mono ?_
    rintro e w' ⟨rfl, rfl⟩
    go_wp2_with fail
    exact ⟨rfl, hno.out _ hb1.out⟩
end Go.Proofs.Ytlmelbnmfhpacaa

/- ber.caught, ber.right, ber.Check. -/
set_option linter.unusedVariables false
set_option linter.unusedSimpArgs false
namespace Go.Proofs.Ytlmelbnmfhpacaa
open Go.RowKit Go.Shelf Go.Proofs.YtlmelbnmfhpacaaW.PrintWords Go.Proofs.YtlmelbnmfhpacaaW.PrintMore Go.Proofs.YtlmelbnmfhpacaaW.PrintLast

theorem catch_idle (pe : Addr) (w : World) :
    CallsD Try.prog 39 #[.pointer (some pe)] .returning w fun e u' w' => e = .returned (.tuple #[]) ∧ u' = .returning ∧ w' = w := by
  refine callsD_of_wpS Try.func39 rfl fun c₀ cs hu => ?_
  apply wpS_seq
  apply wpS_region
  simp [wpOpsS, go_sem, recoverD, hu, Try.ntmps39, Exit.thenS]
  refine wpS_of_wp ?_
  have hlit : (#[Value.pointer (some pe)] ++ (Array.replicate 14 undef).setIfInBounds 4 Value.nilIface) = #[.pointer (some pe), undef, undef, undef, undef, .nilIface, undef, undef, undef, undef, undef, undef, undef, undef, undef] := rfl
  rw [hlit]
  clear hlit
  go_wp2_with fail
  cases c₀
  simp_all [bodyPostS, results, Try.results39]
theorem catch_stop (E : Nat) (ev : Value) (n : Int) (w : World) (hE : w.heap[E]? = some (.cells #[ev] 29 (0, 0))) :
    CallsD Try.prog 39 #[.pointer (some ⟨E, 0, none⟩)] (.panicking [{ v := .iface 82 (.agg #[.int .i64 n]), recovered := false }]) w fun e u' w' => e = .returned (.tuple #[]) ∧ u' = .panicking [{ v := .iface 82 (.agg #[.int .i64 n]), recovered := true }] ∧
      (w'.heap[E]? = some (.cells #[.int .i64 n] 29 (0, 0)) ∧ Mod (fun q => q = E) w w') := by
  refine callsD_of_wpS Try.func39 rfl fun c₀ cs hu => ?_
  apply wpS_seq
  apply wpS_region
  simp [wpOpsS, go_sem, recoverD, hu, Try.ntmps39, Exit.thenS]
  refine wpS_of_wp ?_
  have hlit : (#[Value.pointer (some ⟨E, 0, none⟩)] ++ (Array.replicate 14 undef).setIfInBounds 4 (Value.iface 82 (.agg #[.int .i64 n]))) = #[.pointer (some ⟨E, 0, none⟩), undef, undef, undef, undef, .iface 82 (.agg #[.int .i64 n]), undef, undef, undef, undef, undef, undef, undef, undef, undef] := rfl
  rw [hlit]
  clear hlit
  have hta : ∀ W, (Instr.typeAssert (.iface 82 (.agg #[.int .i64 n])) 20 82 true).run Try.prog W = .ok (.tuple #[.agg #[.int .i64 n], .bool true]) W := fun W => rfl
  have hEl := blk_lt hE
  have hN := heap_alloc_new w (.cells #[.int .i64 n] 82)
  obtain ⟨w1, hw1⟩ : ∃ w1, w.alloc (.cells #[.int .i64 n] 82) = w1 := ⟨_, rfl⟩
  rw [hw1] at hN
  have hb1 := Aside0.mk (hw1 ▸ below_alloc (Below.refl w.heap.size w) (.cells #[.int .i64 n] 82))
  have hE1 := (hb1.out.block E hEl).trans hE
  have g1 : w1.cell? ⟨w.heap.size, 0, none⟩ = some (.int .i64 n) := (cell_of_row _ _ _ _ _ _ hN).trans rfl
  have f1 : w1.cell? ⟨E, 0, none⟩ = some ev := (blk_cell hE1 0).trans rfl
  have f2 : w1.frozen? ⟨E, 0, none⟩ = false := blk_frozen hE1 0
  replace hE := Aside0.mk hE
  replace hE1 := Aside0.mk hE1
  clear hN
  go_wp2_with fail
  have k3 : (w1.setCell ⟨E, 0, none⟩ (.int .i64 n)).heap[E]? = some (.cells #[.int .i64 n] 29 (0, 0)) := by simpa using blk_set hE1.out 0 (.int .i64 n)
  have k5 : Mod (fun q => q = E) w (w1.setCell ⟨E, 0, none⟩ (.int .i64 n)) := (Mod.of_below (S := fun q => q = E) hb1.out).setCell (p := ⟨E, 0, none⟩) (.inl rfl) _
  clear hE hE1 f1 f2 g1
  cases c₀
  simp_all [bodyPostS, results, Try.results39]
/-- Behind a give-up. -/
theorem gives_up (E : Nat) (ev : Value) (n : Int) (w : World) (tmps : Array Value) (R : Ending → World → Prop) (hE : w.heap[E]? = some (.cells #[ev] 29 (0, 0)))
    (h2 : tmps[2]? = some (.pointer (some ⟨E, 0, none⟩))) (hR : ∀ w', Mod (fun q => q = E) w w' → R (.returned (.int .i64 n)) w') :
    Leaves Try.prog Try.f34 tmps R [{ target := .fn (.func 39) #[], args := #[.pointer (some ⟨E, 0, none⟩)] }] (.panicking [{ v := .iface 82 (.agg #[.int .i64 n]), recovered := false }]) w := by
  refine leaves_cons (f := 39) (args := #[.pointer (some ⟨E, 0, none⟩)]) (by simp) (by simp [go_sem]) ?_
  refine (catch_stop E ev n w hE).mono ?_
  rintro e u' w'' ⟨rfl, rfl, hE', hm'⟩
  have c2 : w''.cell? ⟨E, 0, none⟩ = some (.int .i64 n) := (blk_cell hE' 0).trans rfl
  refine ⟨.int .i64 n, ?_, hR w'' hm'⟩
  simp [results, Try.results34, go_sem, h2, c2]
theorem gives_back (E : Nat) (n : Int) (w : World) (tmps : Array Value) (R : Ending → World → Prop) (hE : w.heap[E]? = some (.cells #[.int .i64 n] 29 (0, 0)))
    (h2 : tmps[2]? = some (.pointer (some ⟨E, 0, none⟩))) (hR : R (.returned (.int .i64 n)) w) :
    Leaves Try.prog Try.f34 tmps R [{ target := .fn (.func 39) #[], args := #[.pointer (some ⟨E, 0, none⟩)] }] .returning w := by
  refine leaves_cons (f := 39) (args := #[.pointer (some ⟨E, 0, none⟩)]) (by simp) (by simp [go_sem]) ?_
  refine (catch_idle _ w).mono ?_
  rintro e u' w'' ⟨rfl, rfl, rfl⟩
  have c2 : w''.cell? ⟨E, 0, none⟩ = some (.int .i64 n) := (blk_cell hE 0).trans rfl
  refine ⟨.int .i64 n, ?_, hR⟩
  simp [results, Try.results34, go_sem, h2, c2]
/-- Are the parts right, is it not too deep? -/
def rightN (x : T) : Int := if argT x = true then (if deepT 1 x = true then 0 else 150) else 2
set_option maxHeartbeats 2000000 in
theorem right_calls (x : T) (A : Option Addr) (c : Nat) (B : Option Addr) (d : Nat) (w : World) (hv : Bv w x A c B d) (hw : wT x ≤ 1000000) :
    Calls Try.prog 34 #[.agg #[.int .u8 x.f0, .int .u8 x.f1, .bool x.f2, .slice A x.f3.length c, .slice B x.f4.length d]] w fun e w' => e = .returned (.int .i64 (rightN x)) ∧ Below w.heap.size w w' := by
  have hmf : ∀ (fn : Fn) (first cap : Array Value) (w : World), (Instr.makeFunc fn first cap).run Try.prog w = .ok (.func fn first cap) w := fun _ _ _ _ => rfl
  have he := enters_of (P := Try.prog) Try.func49 (by kernel_rfl) rfl
  obtain ⟨w1, hw1⟩ : ∃ w1, w.alloc (.cells #[.int .u8 x.f0, .int .u8 x.f1, .bool x.f2, .slice A x.f3.length c, .slice B x.f4.length d] 26) = w1 := ⟨_, rfl⟩
  obtain ⟨w2, hw2⟩ : ∃ w2, w1.alloc (.cells #[.int .i64 0] 29) = w2 := ⟨_, rfl⟩
  obtain ⟨E, hEe⟩ : ∃ E, w1.heap.size = E := ⟨_, rfl⟩
  obtain ⟨D, hDe⟩ : ∃ D, w2.heap.size = D := ⟨_, rfl⟩
  have hE1 : E = w.heap.size + 1 := by rw [← hEe, ← hw1]; simp
  have hD1 : D = E + 1 := by rw [← hDe, ← hEe, ← hw2]; simp
  obtain ⟨w3, hw3⟩ : ∃ w3, w2.alloc (.cells #[.func (.func 49) #[] #[.pointer (some ⟨D, 0, none⟩)]] 78) = w3 := ⟨_, rfl⟩
  have hX1 : Box w1 w.heap.size (.int .u8 x.f0) (.int .u8 x.f1) (.bool x.f2) (.slice A x.f3.length c) (.slice B x.f4.length d) := hw1 ▸ box_new w _ _ _ _ _
  have b1 : Below w.heap.size w w1 := hw1 ▸ below_alloc (Below.refl w.heap.size w) _
  have b2 : Below w1.heap.size w1 w2 := hw2 ▸ below_alloc (Below.refl w1.heap.size w1) _
  have b3 : Below w2.heap.size w2 w3 := hw3 ▸ below_alloc (Below.refl w2.heap.size w2) _
  have hE2 : w2.heap[E]? = some (.cells #[.int .i64 0] 29 (0, 0)) := by rw [← hw2, ← hEe]; exact heap_alloc_new w1 _
  have hD3 : w3.heap[D]? = some (.cells #[.func (.func 49) #[] #[.pointer (some ⟨D, 0, none⟩)]] 78 (0, 0)) := by
    have h := heap_alloc_new w2 (.cells #[.func (.func 49) #[] #[.pointer (some ⟨D, 0, none⟩)]] 78)
    rw [hw3, hDe] at h
    exact h
  have hE3 := Aside0.mk ((b3.block E (by omega)).trans hE2)
  obtain ⟨p0, p1, p2, p3, p4⟩ := ((hX1.below b2).below b3).cells
  have g0 : w3.cell? ⟨D, 0, none⟩ = some (.func (.func 49) #[] #[.pointer (some ⟨D, 0, none⟩)]) := (blk_cell hD3 0).trans rfl
  have hb3 := Aside0.mk (below_then b1 b1.size (below_then b2 b2.size b3))
  have hcall := right1_calls x A c B d 1 D w3 (hv.below hb3.out) (by omega) g0
  unfold bv Asked at hcall
  have hc := Aside0.mk hcall
  have hE1' := Aside0.mk hE1
  have hD1' := Aside0.mk hD1
  clear hE1 hD1 hX1 b1 b2 b3 hE2 hD3 hcall hv hw
  have hgo : rightN x = if argT x = true then (if deepT 1 x = true then 0 else 150) else 2 := rfl
  obtain ⟨N, hN⟩ : ∃ N, rightN x = N := ⟨_, rfl⟩
  rw [hN] at hgo ⊢
  have hup := Aside0.mk (fun (w' w'' : World) (hb : Below w.heap.size w w') (hm : Mod (fun q => q = E) w' w'') => put5_mod hm hb (by have := hE1'.out; omega))
  cases ha : argT x with
  | false =>
    rw [ha, if_neg (by simp)] at hc hgo
    subst hgo
    clear ha hN
    go_enter_defers Try.func34, Try.ntmps34
    go_wp2_with fail
    refine hc.out.mono ?_
    rintro e w4 ⟨rfl, hb4⟩
    have hE4 := Aside0.mk ((hb4.block E (blk_lt hE3.out)).trans hE3.out)
    have hb4' := Aside0.mk (below_then hb3.out hb3.out.size hb4)
    clear hc hb4 p0 p1 p2 p3 p4 g0
    go_wp2_with fail
    refine gives_up E _ 2 w4 _ _ hE4.out rfl (fun w' hm => ⟨rfl, hup.out _ _ hb4'.out hm⟩)
  | true =>
    rw [ha, if_pos rfl] at hc hgo
    cases hd : deepT 1 x with
    | false =>
      rw [hd] at hc
      rw [hd, if_neg (by simp)] at hgo
      subst hgo
      clear ha hN hd
      go_enter_defers Try.func34, Try.ntmps34
      go_wp2_with fail
      refine hc.out.mono ?_
      rintro e w4 ⟨rfl, hb4⟩
      have hE4 := Aside0.mk ((hb4.block E (blk_lt hE3.out)).trans hE3.out)
      have hb4' := Aside0.mk (below_then hb3.out hb3.out.size hb4)
      clear hc hb4 p0 p1 p2 p3 p4 g0
      go_wp2_with fail
      refine (must_no _ _).mono ?_
      rintro e w' ⟨rfl, rfl⟩
      go_wp2_with fail
      refine gives_up E _ 150 _ _ _ hE4.out rfl (fun w' hm => ⟨rfl, hup.out _ _ hb4'.out hm⟩)
    | true =>
      rw [hd] at hc
      rw [hd, if_pos rfl] at hgo
      subst hgo
      clear ha hN hd
      go_enter_defers Try.func34, Try.ntmps34
      go_wp2_with fail
      refine hc.out.mono ?_
      rintro e w4 ⟨rfl, hb4⟩
      have hE4 := Aside0.mk ((hb4.block E (blk_lt hE3.out)).trans hE3.out)
      have hb4' := Aside0.mk (below_then hb3.out hb3.out.size hb4)
      clear hc hb4 p0 p1 p2 p3 p4 g0
      go_wp2_with fail
      refine (must_yes _ _).mono ?_
      rintro e w' ⟨rfl, rfl⟩
      have g1 : w'.cell? ⟨E, 0, none⟩ = some (.int .i64 0) := (blk_cell hE4.out 0).trans rfl
      have g2 : w'.frozen? ⟨E, 0, none⟩ = false := blk_frozen hE4.out 0
      have k1 := Aside0.mk (show (w'.setCell ⟨E, 0, none⟩ (.int .i64 0)).heap[E]? = some (.cells #[.int .i64 0] 29 (0, 0)) from by simpa using blk_set hE4.out 0 (.int .i64 0))
      have k2 := Aside0.mk ((Mod.refl (fun q => q = E) w').setCell (p := ⟨E, 0, none⟩) (.inl rfl) (.int .i64 0))
      go_wp2_with fail
      refine gives_back E 0 _ _ _ k1.out rfl ⟨rfl, hup.out _ _ hb4'.out k2.out⟩
set_option maxHeartbeats 1000000 in
/-- What Check tells: n is the size as size tells it. -/
theorem check_calls (x : T) (A : Option Addr) (c : Nat) (B : Option Addr) (d : Nat) (w : World) (r : Int) (K : Nat) (hv : Bv w x A c B d) (hw : wT x ≤ 1000000) (hr : PBerEncodes.ber_size.f K x.f0 x.f1 x.f2 x.f3 x.f4 = some r) :
    Calls Try.prog 13 #[.agg #[.int .u8 x.f0, .int .u8 x.f1, .bool x.f2, .slice A x.f3.length c, .slice B x.f4.length d]] w fun e w' => e = .returned (.int .i64 (if rightN x = 0 then (if 65536 < r then 3 else 0) else rightN x)) ∧ Below w.heap.size w w' := by
  have hX := box_new w (.int .u8 x.f0) (.int .u8 x.f1) (.bool x.f2) (.slice A x.f3.length c) (.slice B x.f4.length d)
  have hb1 := below_alloc (Below.refl w.heap.size w) (.cells #[.int .u8 x.f0, .int .u8 x.f1, .bool x.f2, .slice A x.f3.length c, .slice B x.f4.length d] 26)
  obtain ⟨w1, hw1⟩ : ∃ w1, w.alloc (.cells #[.int .u8 x.f0, .int .u8 x.f1, .bool x.f2, .slice A x.f3.length c, .slice B x.f4.length d] 26) = w1 := ⟨_, rfl⟩
  rw [hw1] at hX hb1
  have h1 := Aside0.mk (right_calls x A c B d w1 (hv.below hb1) hw)
  have h2 := Aside0.mk (fun W (hb : Below w1.heap.size w1 W) => PBerEncodes.ber_size.calls K x.f0 x.f1 x.f2 A c x.f3 B d x.f4 r W (((hv.below hb1).below hb).cb) hv.lb (((hv.below hb1).below hb).ci) hv.li hr)
  obtain ⟨p0, p1, p2, p3, p4⟩ := hX.cells
  replace hX := Aside0.mk hX
  replace hb1 := Aside0.mk hb1
  have hcases : rightN x = 0 ∨ rightN x = 2 ∨ rightN x = 150 := by unfold rightN; split; split; exact .inl rfl; exact .inr (.inr rfl); exact .inr (.inl rfl)
  generalize rightN x = N at *
  clear hv hw hr
  rcases hcases with rfl | rfl | rfl
  · rw [if_pos rfl]
    by_cases hc : 65536 < r
    · rw [if_pos hc]
      go_enter Try.func13, Try.ntmps13
      go_wp2_with fail
      refine h1.out.mono ?_
      rintro e w2 ⟨rfl, hb2⟩
      obtain ⟨q0, q1, q2, q3, q4⟩ := (hX.out.below hb2).cells
      have h3 := Aside0.mk (h2.out w2 hb2)
      replace hb2 := Aside0.mk (below_then hb1.out hb1.out.size hb2)
      clear p0 p1 p2 p3 p4 h1 h2
      go_wp2_with fail
      refine h3.out.mono ?_
      rintro e w3 ⟨rfl, hb3⟩
      replace hb3 := Aside0.mk (below_then hb2.out hb2.out.size hb3)
      go_wp2_with fail
      go_ret
      exact ⟨rfl, hb3.out⟩
    · rw [if_neg hc]
      go_enter Try.func13, Try.ntmps13
      go_wp2_with fail
      refine h1.out.mono ?_
      rintro e w2 ⟨rfl, hb2⟩
      obtain ⟨q0, q1, q2, q3, q4⟩ := (hX.out.below hb2).cells
      have h3 := Aside0.mk (h2.out w2 hb2)
      replace hb2 := Aside0.mk (below_then hb1.out hb1.out.size hb2)
      clear p0 p1 p2 p3 p4 h1 h2
      go_wp2_with fail
      refine h3.out.mono ?_
      rintro e w3 ⟨rfl, hb3⟩
      replace hb3 := Aside0.mk (below_then hb2.out hb2.out.size hb3)
      go_wp2_with fail
      go_ret
      exact ⟨rfl, hb3.out⟩
  all_goals
    go_enter Try.func13, Try.ntmps13
    go_wp2_with fail
    refine h1.out.mono ?_
    rintro e w2 ⟨rfl, hb2⟩
    replace hb2 := Aside0.mk (below_then hb1.out hb1.out.size hb2)
    go_wp2_with fail
    go_ret
    exact ⟨rfl, hb2.out⟩
end Go.Proofs.Ytlmelbnmfhpacaa
