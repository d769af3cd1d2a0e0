/- filter.joined, filter.text, filter.Text. -/
import Derived.Test.YtgnmkblaockghaaQGa
set_option linter.unusedVariables false
set_option linter.unusedSimpArgs false
namespace Go.Proofs.Ytgnmkblaockghaa
open Go.RowKit Go.Shelf Go.Proofs.YtgnmkblaockghaaW.PrintWords Go.Proofs.YtgnmkblaockghaaW.PrintMore Go.Proofs.YtgnmkblaockghaaW.PrintLast

/-- The sign of a kind that is of others. -/
def opS (k : Int) : ByteArray := ({ data := #[38, 124, 33] } : ByteArray).extract (k - 1).toNat k.toNat
mutual
/-- A filter's text. -/
def textT : Ft → ByteArray
  | ⟨k, l, n, v⟩ => if k ≤ 3 then ({ data := #[40] } ++ opS k ++ textL { data := #[] } l ++ { data := #[41] }) else if k = 4 then ({ data := #[40] } ++ small n ++ { data := #[61] } ++ valText v ++ { data := #[41] }) else if k = 5 then ({ data := #[40] } ++ small n ++ { data := #[61] } ++ valText v ++ { data := #[42, 41] }) else ({ data := #[40] } ++ small n ++ { data := #[61, 42, 41] })
/-- Texts one behind the other. -/
def textL (acc : ByteArray) : List Ft → ByteArray
  | [] => acc
  | x :: l => textL (acc ++ textT x) l
end
theorem textL_drop (acc : ByteArray) (l : List Ft) (k : Nat) (h : k < l.length) : textL acc (l.drop k) = textL (acc ++ textT l[k]) (l.drop (k + 1)) := by
  rw [List.drop_eq_getElem_cons h, textL]
theorem valText_size (s : ByteArray) : (valText s).size ≤ 3 * s.size := by
  unfold valText
  have h : ∀ l : List Int, (l.flatMap valB).length ≤ 3 * l.length := by
    intro l
    induction l with
    | nil => simp
    | cons x l ih => have := valB_length x; rw [List.flatMap_cons, List.length_append, List.length_cons]; omega
  have := h (bytesOf s)
  rw [bytesOf_length] at this
  have h2 : (strOfNums ((bytesOf s).flatMap valB)).size = ((bytesOf s).flatMap valB).length := by simp [strOfNums, ByteArray.size]
  omega
theorem textT_size (x : Ft) : (textT x).size ≤ 6 * wF x := by
  refine filtInd (P := fun x => (textT x).size ≤ 6 * wF x) (fun k l s v ih => ?_) x
  have hL : ∀ (l : List Ft), (∀ x ∈ l, (textT x).size ≤ 6 * wF x) → ∀ acc : ByteArray, (textL acc l).size ≤ acc.size + 6 * wFs l := by
    intro l
    induction l with
    | nil => intro _ acc; rw [textL]; omega
    | cons y ys ihy =>
      intro hy acc
      rw [textL, wFs_cons]
      have h1 := ihy (fun z hz => hy z (List.mem_cons_of_mem _ hz)) (acc ++ textT y)
      have h2 := hy y List.mem_cons_self
      rw [ByteArray.size_append] at h1
      omega
  have h1 := hL l ih { data := #[] }
  have h2 := valText_size v
  have h3 := small_size s
  have h4 : (opS k).size ≤ 3 := by unfold opS; rw [ByteArray.size_extract]; show min k.toNat 3 - _ ≤ 3; omega
  have e0 : ({ data := #[] } : ByteArray).size = 0 := rfl
  have e1 : ({ data := #[40] } : ByteArray).size = 1 := rfl
  have e2 : ({ data := #[41] } : ByteArray).size = 1 := rfl
  have e3 : ({ data := #[61] } : ByteArray).size = 1 := rfl
  have e4 : ({ data := #[42, 41] } : ByteArray).size = 2 := rfl
  have e5 : ({ data := #[61, 42, 41] } : ByteArray).size = 3 := rfl
  rw [textT, wF]
  split
  · simp only [ByteArray.size_append, e1, e2]; omega
  · split
    · simp only [ByteArray.size_append, e1, e2, e3]; omega
    · split
      · simp only [ByteArray.size_append, e1, e3, e4]; omega
      · simp only [ByteArray.size_append, e1, e5]; omega
/-- text tells a filter's text. -/
def TextP (x : Ft) : Prop := ∀ A c W, Fv W x A c → Calls Try.prog 50 #[fv x A c] W fun e W' => e = .returned (.string (textT x)) ∧ Below W.heap.size W W'
set_option maxRecDepth 8000 in
set_option maxHeartbeats 2000000 in
theorem joined_calls (l : List Ft) (A : Option Addr) (c : Nat) (w : World) (hl : l.length ≤ 100000) (hC : kF.C w A l.length l) (hp : ∀ x ∈ l, TextP x) (hz : ∀ x ∈ l, (textT x).size ≤ 100000) :
    Calls Try.prog 75 #[.slice A l.length c, .func (.func 50) #[] #[]] w fun e w' => e = .returned (.string (textL { data := #[] } l)) ∧ Below w.heap.size w w' := by
  have he := enters_of (P := Try.prog) Try.func50 (by kernel_rfl) rfl
  obtain ⟨M, hM⟩ : ∃ M, l.length = M := ⟨_, rfl⟩
  replace hC := Aside0.mk hC
  replace hp := Aside0.mk hp
  replace hz := Aside0.mk hz
  rw [hM] at hl ⊢
  replace hM := Aside0.mk hM
  have hb0 : Aside0 (Below w.heap.size w w) := Aside0.mk (Below.refl _ _)
  obtain ⟨r, hr⟩ : ∃ r, textL { data := #[] } l = r := ⟨_, rfl⟩
  rw [hr]
  replace hr := Aside0.mk hr
  go_enter Try.func75, Try.ntmps75
  go_wp2_with fail
  go_loopw [5, 10] (fun s5 s10 wr => ∃ (k : Nat) (acc : ByteArray), k ≤ M ∧ s10 = .int .i64 k ∧ s5 = .string acc ∧ acc.size ≤ 100000 * k ∧ Aside0 (Below w.heap.size w wr) ∧ Aside0 (textL acc (l.drop k) = r)) (fun _ s10 _ => M - (intOf s10).toNat)
  case atStart => exact ⟨0, _, Nat.zero_le _, rfl, rfl, by simp [ByteArray.size], hb0, by simpa using hr⟩
  case round =>
    clear hb0
    obtain ⟨k, acc, hk, rfl, rfl, hac, hb, ha⟩ := hrel
    by_cases hlt : k < M
    · have hkl : k < l.length := by rw [hM.out]; exact hlt
      obtain ⟨ad, A6, c6, e, p0, p1, p2, p3, hv6⟩ := kF_at (Kd.C_below hC.out hb.out) k hkl
      subst e
      have hnx := Aside0.mk ((textL_drop acc l k hkl).symm.trans ha.out)
      have hb2 := below_alloc (Below.refl wr.heap.size wr) (.cells #[.int .i64 l[k].f0, .slice A6 l[k].f1.length c6, .string l[k].f2, .string l[k].f3] 25)
      have hX := fbox_new wr 25 (.int .i64 l[k].f0) (.slice A6 l[k].f1.length c6) (.string l[k].f2) (.string l[k].f3)
      obtain ⟨w2, hw2⟩ : ∃ w2, wr.alloc (.cells #[.int .i64 l[k].f0, .slice A6 l[k].f1.length c6, .string l[k].f2, .string l[k].f3] 25) = w2 := ⟨_, rfl⟩
      rw [hw2] at hb2 hX
      have hzk := hz.out l[k] (List.getElem_mem hkl)
      have hv := hp.out l[k] (List.getElem_mem hkl) A6 c6 w2 (hv6.below hb2)
      obtain ⟨x, hx⟩ : ∃ x, l[k] = x := ⟨_, rfl⟩
      rw [hx] at p0 p1 p2 p3 hnx hv hX hw2 hzk
      obtain ⟨q0, q1, q2, q3⟩ := hX.cells
      unfold fv at hv
      replace hv := Aside0.mk hv
      replace hb2 := Aside0.mk (below_then hb.out hb.out.size hb2)
      generalize textT x = tx at *
      clear hx hkl hv6 hX ha
      have y1 : ¬ 9223372036854775807 < acc.size + tx.size := by omega
      have hac2 : (acc ++ tx).size ≤ 100000 * (k + 1) := by rw [ByteArray.size_append]; omega
      have hac2 := Aside0.mk hac2
      have i1 : (0 : Int) ≤ (k : Int) := by omega
      have i2 : (k : Int) < (M : Int) := by omega
      go_wp2_with fail
      refine hv.out.mono ?_
      rintro e w1 ⟨rfl, hb1⟩
      replace hb1 := Aside0.mk (below_then hb2.out hb2.out.size hb1)
      go_wp2_with fail
      go_roundw
      case rel => exact ⟨k + 1, _, by omega, by go_num, rfl, hac2.out, hb1, hnx⟩
      case measure => simp [intOf]; omega
    · have hkM : k = M := by omega
      subst hkM
      have h9 := ha.out
      rw [List.drop_eq_nil_of_le (by rw [hM.out]; exact Nat.le_refl _), textL] at h9
      subst h9
      go_wp2_with fail
      go_ret
      exact ⟨rfl, hb.out⟩
set_option maxRecDepth 8000 in
set_option maxHeartbeats 4000000 in
theorem text_calls (x : Ft) : goodT x → wF x ≤ 12000 → TextP x := by
  refine filtInd (P := fun x => goodT x → wF x ≤ 12000 → TextP x) (fun k l s v ih => ?_) x
  intro hgood hw A c w hv
  rw [goodT] at hgood
  rw [wF] at hw
  obtain ⟨⟨k1, k6⟩, k3, hgl⟩ := hgood
  have hch : ∀ y ∈ l, TextP y := fun y hy => ih y hy ((goodL_iff l).1 hgl y hy) (by have := wF_mem hy; omega)
  have hlen := wFs_length l
  have hb1 := below_alloc (Below.refl w.heap.size w) (.cells #[.int .i64 k, .slice A l.length c, .string s, .string v] 25)
  have hX := fbox_new w 25 (.int .i64 k) (.slice A l.length c) (.string s) (.string v)
  obtain ⟨w1, hw1⟩ : ∃ w1, w.alloc (.cells #[.int .i64 k, .slice A l.length c, .string s, .string v] 25) = w1 := ⟨_, rfl⟩
  rw [hw1] at hb1 hX
  obtain ⟨p0, p1, p2, p3⟩ := hX.cells
  have hsm := Aside0.mk (small_calls s w1 (by omega))
  have hva := Aside0.mk (fun W => value_calls v W (by omega))
  have hjo := Aside0.mk (fun W (hb : Below w.heap.size w W) => joined_calls l A c W (by omega) (Kd.C_below hv.co hb) hch (fun y hy => by have := textT_size y; have := wF_mem hy; omega))
  have hX' := Aside0.mk hX
  have hb1' := Aside0.mk hb1
  have hcases : k = 1 ∨ k = 2 ∨ k = 3 ∨ k = 4 ∨ k = 5 ∨ k = 6 := by omega
  have hm := textT.eq_1 k l s v
  have z1 : (small s).size ≤ 12000 := by rw [small_size]; omega
  have z2 : (valText v).size ≤ 36000 := by have := valText_size v; omega
  have z3 : (textL { data := #[] } l).size ≤ 1000000 := by
    have h1 := textT_size ⟨1, l, { data := #[] }, { data := #[] }⟩
    rw [textT, if_pos (by decide), wF] at h1
    simp only [ByteArray.size_append] at h1
    have : ({ data := #[] } : ByteArray).size = 0 := rfl
    omega
  obtain ⟨b, hb⟩ : ∃ b, textT ⟨k, l, s, v⟩ = b := ⟨_, rfl⟩
  rw [hb] at hm ⊢
  clear hX hb1 hv hch ih hgl hw k3 hb
  unfold fv
  dsimp only
  generalize l.length = M at *
  generalize textL { data := #[] } l = tl at *
  generalize small s = sm at *
  generalize valText v = vt at *
  have y1 : ¬ 9223372036854775807 < 1 + sm.size := by omega
  have y2 : ¬ 9223372036854775807 < 1 + sm.size + 1 := by omega
  have y3 : ¬ 9223372036854775807 < 1 + sm.size + 1 + vt.size := by omega
  have y4 : ¬ 9223372036854775807 < 1 + sm.size + 1 + vt.size + 1 := by omega
  have y5 : ¬ 9223372036854775807 < 1 + sm.size + 1 + vt.size + 2 := by omega
  have y6 : ¬ 9223372036854775807 < 1 + sm.size + 3 := by omega
  rcases hcases with rfl | rfl | rfl | rfl | rfl | rfl
  · rw [if_pos (by decide)] at hm
    replace hm := Aside0.mk hm
    go_enter Try.func50, Try.ntmps50
    go_wp2_with fail
    refine hsm.out.mono ?_
    rintro e w2 ⟨rfl, hb2⟩
    obtain ⟨q0, q1, q2, q3⟩ := (hX'.out.below hb2).cells
    replace hb2 := Aside0.mk (below_then hb1'.out hb1'.out.size hb2)
    clear p0 p1 p2 p3
    go_wp2_with fail
    have hj := Aside0.mk (hjo.out w2.drew (below_drew hb2.out))
    have q9 : w2.drew.cell? ⟨w.heap.size, 0, none⟩ = some (.int .i64 1) := q0
    have hsl : ∀ W, (Instr.slice 9 (.string { data := #[38, 124, 33] }) (some (.int .i64 (wrap64 0))) (some (.int .i64 1)) none).run Try.prog W = .ok (.string (opS 1)) W := fun W => by kernel_rfl
    have y0 : ¬ 9223372036854775807 < 1 + (opS 1).size := by unfold opS; decide
    have y7 : ¬ 9223372036854775807 < 1 + (opS 1).size + tl.size := by have : (opS 1).size = 1 := by unfold opS; decide
                                                                       omega
    have y8 : ¬ 9223372036854775807 < 1 + (opS 1).size + tl.size + 1 := by have : (opS 1).size = 1 := by unfold opS; decide
                                                                           omega
    refine start_ (n := 13) (S := fun w' => w'.cell? ⟨w.heap.size, 0, none⟩ = some (.int .i64 1) ∧ w'.cell? ⟨w.heap.size, 1, none⟩ = some (.slice A M c)) (ds := []) (B_ 13 0) (by kernel_rfl) rfl rfl ⟨q0, q1⟩ (fun hHeld => ?_)
    refine pn_ 0 13 (B_ 13 1) rfl rfl ?_
    refine pn_ 3 16 (B_ 13 9) rfl rfl ?_
    refine pn_ 7 20 (B_ 13 137) rfl rfl ?_
    refine tk_ 1 14 (B_ 13 139) rfl rfl hHeld (by rintro w' ⟨s0, s1⟩; go_simp; with_reducible rfl) ?_
    refine pn_ 2 15 (B_ 13 143) rfl rfl ?_
    refine tk_ 4 17 (B_ 13 159) rfl rfl hHeld (by rintro w' ⟨s0, s1⟩; go_simp; with_reducible rfl) ?_
    refine pn_ 5 18 (B_ 13 191) rfl rfl ?_
    refine pn_ 6 19 (B_ 13 255) rfl rfl ?_
    refine tk_ 8 21 (B_ 13 511) rfl rfl hHeld (by rintro w' ⟨s0, s1⟩; go_simp; with_reducible rfl) ?_
    refine one_ (i := 9) (N := some 22) (B_ 13 1023) rfl rfl (by kernel_rfl) (by decide) (fun K hK => ?_)
    refine goes_ Try.func75 (by kernel_rfl) rfl #[.slice A M c, .func (.func 50) #[] #[]] (by rfl) rfl rfl (by simp only [List.map_toArray, List.map_cons, List.map_nil]; rfl) ?_
    with_reducible refine (hj.out).mono ?_
    rintro e w4 ⟨rfl, hb4⟩
    refine ⟨_, rfl, ?_⟩
    have q0 := pw_cell_below hb4 q0
    have q1 := pw_cell_below hb4 q1
    have hb4 := Aside0.mk (below_then (below_drew hb2.out) hb2.out.size hb4)
    refine hK.out _ _ ⟨q0, q1⟩ (fun hHeld => ?_)
    clear hK K
    refine nm_ 22 ?_
    refine pn_ 10 23 (B_ 13 2047) rfl rfl ?_
    refine pn_ 11 24 (B_ 13 4095) rfl rfl ?_
    refine pn_ 12 2 (B_ 13 8191) rfl rfl ?_
    refine done_ (by kernel_rfl) ?_
    go_wp2_with fail
    go_ret
    exact ⟨by rw [hm.out]; rfl, hb4.out⟩
  · rw [if_pos (by decide)] at hm
    replace hm := Aside0.mk hm
    go_enter Try.func50, Try.ntmps50
    go_wp2_with fail
    refine hsm.out.mono ?_
    rintro e w2 ⟨rfl, hb2⟩
    obtain ⟨q0, q1, q2, q3⟩ := (hX'.out.below hb2).cells
    replace hb2 := Aside0.mk (below_then hb1'.out hb1'.out.size hb2)
    clear p0 p1 p2 p3
    go_wp2_with fail
    have hj := Aside0.mk (hjo.out w2.drew (below_drew hb2.out))
    have q9 : w2.drew.cell? ⟨w.heap.size, 0, none⟩ = some (.int .i64 2) := q0
    have hsl : ∀ W, (Instr.slice 9 (.string { data := #[38, 124, 33] }) (some (.int .i64 (wrap64 1))) (some (.int .i64 2)) none).run Try.prog W = .ok (.string (opS 2)) W := fun W => by kernel_rfl
    have y0 : ¬ 9223372036854775807 < 1 + (opS 2).size := by unfold opS; decide
    have y7 : ¬ 9223372036854775807 < 1 + (opS 2).size + tl.size := by have : (opS 2).size = 1 := by unfold opS; decide
                                                                       omega
    have y8 : ¬ 9223372036854775807 < 1 + (opS 2).size + tl.size + 1 := by have : (opS 2).size = 1 := by unfold opS; decide
                                                                           omega
    refine start_ (n := 13) (S := fun w' => w'.cell? ⟨w.heap.size, 0, none⟩ = some (.int .i64 2) ∧ w'.cell? ⟨w.heap.size, 1, none⟩ = some (.slice A M c)) (ds := []) (B_ 13 0) (by kernel_rfl) rfl rfl ⟨q0, q1⟩ (fun hHeld => ?_)
    refine pn_ 0 13 (B_ 13 1) rfl rfl ?_
    refine pn_ 3 16 (B_ 13 9) rfl rfl ?_
    refine pn_ 7 20 (B_ 13 137) rfl rfl ?_
    refine tk_ 1 14 (B_ 13 139) rfl rfl hHeld (by rintro w' ⟨s0, s1⟩; go_simp; with_reducible rfl) ?_
    refine pn_ 2 15 (B_ 13 143) rfl rfl ?_
    refine tk_ 4 17 (B_ 13 159) rfl rfl hHeld (by rintro w' ⟨s0, s1⟩; go_simp; with_reducible rfl) ?_
    refine pn_ 5 18 (B_ 13 191) rfl rfl ?_
    refine pn_ 6 19 (B_ 13 255) rfl rfl ?_
    refine tk_ 8 21 (B_ 13 511) rfl rfl hHeld (by rintro w' ⟨s0, s1⟩; go_simp; with_reducible rfl) ?_
    refine one_ (i := 9) (N := some 22) (B_ 13 1023) rfl rfl (by kernel_rfl) (by decide) (fun K hK => ?_)
    refine goes_ Try.func75 (by kernel_rfl) rfl #[.slice A M c, .func (.func 50) #[] #[]] (by rfl) rfl rfl (by simp only [List.map_toArray, List.map_cons, List.map_nil]; rfl) ?_
    with_reducible refine (hj.out).mono ?_
    rintro e w4 ⟨rfl, hb4⟩
    refine ⟨_, rfl, ?_⟩
    have q0 := pw_cell_below hb4 q0
    have q1 := pw_cell_below hb4 q1
    have hb4 := Aside0.mk (below_then (below_drew hb2.out) hb2.out.size hb4)
    refine hK.out _ _ ⟨q0, q1⟩ (fun hHeld => ?_)
    clear hK K
    refine nm_ 22 ?_
    refine pn_ 10 23 (B_ 13 2047) rfl rfl ?_
    refine pn_ 11 24 (B_ 13 4095) rfl rfl ?_
    refine pn_ 12 2 (B_ 13 8191) rfl rfl ?_
    refine done_ (by kernel_rfl) ?_
    go_wp2_with fail
    go_ret
    exact ⟨by rw [hm.out]; rfl, hb4.out⟩
  · rw [if_pos (by decide)] at hm
    replace hm := Aside0.mk hm
    go_enter Try.func50, Try.ntmps50
    go_wp2_with fail
    refine hsm.out.mono ?_
    rintro e w2 ⟨rfl, hb2⟩
    obtain ⟨q0, q1, q2, q3⟩ := (hX'.out.below hb2).cells
    replace hb2 := Aside0.mk (below_then hb1'.out hb1'.out.size hb2)
    clear p0 p1 p2 p3
    go_wp2_with fail
    have hj := Aside0.mk (hjo.out w2.drew (below_drew hb2.out))
    have q9 : w2.drew.cell? ⟨w.heap.size, 0, none⟩ = some (.int .i64 3) := q0
    have hsl : ∀ W, (Instr.slice 9 (.string { data := #[38, 124, 33] }) (some (.int .i64 (wrap64 2))) (some (.int .i64 3)) none).run Try.prog W = .ok (.string (opS 3)) W := fun W => by kernel_rfl
    have y0 : ¬ 9223372036854775807 < 1 + (opS 3).size := by unfold opS; decide
    have y7 : ¬ 9223372036854775807 < 1 + (opS 3).size + tl.size := by have : (opS 3).size = 1 := by unfold opS; decide
                                                                       omega
    have y8 : ¬ 9223372036854775807 < 1 + (opS 3).size + tl.size + 1 := by have : (opS 3).size = 1 := by unfold opS; decide
                                                                           omega
    refine start_ (n := 13) (S := fun w' => w'.cell? ⟨w.heap.size, 0, none⟩ = some (.int .i64 3) ∧ w'.cell? ⟨w.heap.size, 1, none⟩ = some (.slice A M c)) (ds := []) (B_ 13 0) (by kernel_rfl) rfl rfl ⟨q0, q1⟩ (fun hHeld => ?_)
    refine pn_ 0 13 (B_ 13 1) rfl rfl ?_
    refine pn_ 3 16 (B_ 13 9) rfl rfl ?_
    refine pn_ 7 20 (B_ 13 137) rfl rfl ?_
    refine tk_ 1 14 (B_ 13 139) rfl rfl hHeld (by rintro w' ⟨s0, s1⟩; go_simp; with_reducible rfl) ?_
    refine pn_ 2 15 (B_ 13 143) rfl rfl ?_
    refine tk_ 4 17 (B_ 13 159) rfl rfl hHeld (by rintro w' ⟨s0, s1⟩; go_simp; with_reducible rfl) ?_
    refine pn_ 5 18 (B_ 13 191) rfl rfl ?_
    refine pn_ 6 19 (B_ 13 255) rfl rfl ?_
    refine tk_ 8 21 (B_ 13 511) rfl rfl hHeld (by rintro w' ⟨s0, s1⟩; go_simp; with_reducible rfl) ?_
    refine one_ (i := 9) (N := some 22) (B_ 13 1023) rfl rfl (by kernel_rfl) (by decide) (fun K hK => ?_)
    refine goes_ Try.func75 (by kernel_rfl) rfl #[.slice A M c, .func (.func 50) #[] #[]] (by rfl) rfl rfl (by simp only [List.map_toArray, List.map_cons, List.map_nil]; rfl) ?_
    with_reducible refine (hj.out).mono ?_
    rintro e w4 ⟨rfl, hb4⟩
    refine ⟨_, rfl, ?_⟩
    have q0 := pw_cell_below hb4 q0
    have q1 := pw_cell_below hb4 q1
    have hb4 := Aside0.mk (below_then (below_drew hb2.out) hb2.out.size hb4)
    refine hK.out _ _ ⟨q0, q1⟩ (fun hHeld => ?_)
    clear hK K
    refine nm_ 22 ?_
    refine pn_ 10 23 (B_ 13 2047) rfl rfl ?_
    refine pn_ 11 24 (B_ 13 4095) rfl rfl ?_
    refine pn_ 12 2 (B_ 13 8191) rfl rfl ?_
    refine done_ (by kernel_rfl) ?_
    go_wp2_with fail
    go_ret
    exact ⟨by rw [hm.out]; rfl, hb4.out⟩
  · rw [if_neg (by decide), if_pos rfl] at hm
    replace hm := Aside0.mk hm
    go_enter Try.func50, Try.ntmps50
    go_wp2_with fail
    refine hsm.out.mono ?_
    rintro e w2 ⟨rfl, hb2⟩
    obtain ⟨q0, q1, q2, q3⟩ := (hX'.out.below hb2).cells
    replace hb2 := Aside0.mk (below_then hb1'.out hb1'.out.size hb2)
    clear p0 p1 p2 p3
    go_wp2_with fail
    refine (hva.out w2).mono ?_
    rintro e w3 ⟨rfl, hb3⟩
    replace hb3 := Aside0.mk (below_then hb2.out hb2.out.size hb3)
    go_wp2_with fail
    go_ret
    exact ⟨by rw [hm.out]; rfl, hb3.out⟩
  · rw [if_neg (by decide), if_neg (by decide), if_pos rfl] at hm
    replace hm := Aside0.mk hm
    go_enter Try.func50, Try.ntmps50
    go_wp2_with fail
    refine hsm.out.mono ?_
    rintro e w2 ⟨rfl, hb2⟩
    obtain ⟨q0, q1, q2, q3⟩ := (hX'.out.below hb2).cells
    replace hb2 := Aside0.mk (below_then hb1'.out hb1'.out.size hb2)
    clear p0 p1 p2 p3
    go_wp2_with fail
    refine (hva.out w2).mono ?_
    rintro e w3 ⟨rfl, hb3⟩
    replace hb3 := Aside0.mk (below_then hb2.out hb2.out.size hb3)
    go_wp2_with fail
    go_ret
    exact ⟨by rw [hm.out]; rfl, hb3.out⟩
  · rw [if_neg (by decide), if_neg (by decide), if_neg (by decide)] at hm
    replace hm := Aside0.mk hm
    go_enter Try.func50, Try.ntmps50
    go_wp2_with fail
    refine hsm.out.mono ?_
    rintro e w2 ⟨rfl, hb2⟩
    obtain ⟨q0, q1, q2, q3⟩ := (hX'.out.below hb2).cells
    replace hb2 := Aside0.mk (below_then hb1'.out hb1'.out.size hb2)
    clear p0 p1 p2 p3
    go_wp2_with fail
    go_ret
    exact ⟨by rw [hm.out]; rfl, hb2.out⟩
end Go.Proofs.Ytgnmkblaockghaa
