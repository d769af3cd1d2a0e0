/- The reference's Text of the filters that FilterBounds builds: a text of no great length. -/
import Derived.Test.YtgnmkblaockghaaQKd
import Derived.Laws.DeepStrings4
set_option linter.unusedVariables false
set_option linter.unusedSimpArgs false
namespace Go.Proofs.Ytgnmkblaockghaa
open Go.RowKit Go.Shelf Go.Proofs.YtgnmkblaockghaaW.PrintWords Go.Proofs.YtgnmkblaockghaaW.PrintMore Go.Proofs.YtgnmkblaockghaaW.PrintLast

/-- Has a? -/
def hasA : Ft := ⟨6, [], { data := #[97] }, { data := #[] }⟩
/-- The reference's Text tells a text of no more than so many bytes. -/
def TP (B : Nat) (x : Ft) : Prop := ∀ A c W, Fv W x A c → Calls Try.prog 24 #[fv x A c] W fun e W' => (∃ t : ByteArray, e = .returned (.string t) ∧ t.size ≤ B) ∧ Below W.heap.size W W'
set_option maxRecDepth 8000 in
set_option maxHeartbeats 4000000 in
theorem rtext_leaf : TP 5 hasA := by
  intro A c w hv
  have hX := fbox_new w 25 (.int .i64 6) (.slice A 0 c) (.string { data := #[97] }) (.string { data := #[] })
  have hb1 := below_alloc (Below.refl w.heap.size w) (.cells #[.int .i64 6, .slice A 0 c, .string { data := #[97] }, .string { data := #[] }] 25)
  obtain ⟨w1, hw1⟩ : ∃ w1, w.alloc (.cells #[.int .i64 6, .slice A 0 c, .string { data := #[97] }, .string { data := #[] }] 25) = w1 := ⟨_, rfl⟩
  rw [hw1] at hX hb1
  have hsm := Aside0.mk (PFilterBounds.rsmall_calls { data := #[97] } (by decide) w1)
  obtain ⟨p0, p1, p2, p3⟩ := hX.cells
  have hz := small_size { data := #[97] }
  have hz1 : ({ data := #[97] } : ByteArray).size = 1 := rfl
  rw [hz1] at hz
  replace hX := Aside0.mk hX
  replace hb1 := Aside0.mk hb1
  generalize small { data := #[97] } = sm at *
  have y1 : ¬ 9223372036854775807 < 1 + sm.size := by omega
  have y2 : ¬ 9223372036854775807 < 1 + sm.size + 1 := by omega
  have y3 : ¬ 9223372036854775807 < 1 + sm.size + 1 + 1 := by omega
  have y4 : ¬ 9223372036854775807 < 1 + sm.size + 1 + 1 + 1 := by omega
  clear hv hz1
  replace hz := Aside0.mk hz
  unfold fv hasA
  dsimp only [List.length_nil]
  go_enter Try.func24, Try.ntmps24
  go_wp2_with fail
  refine hsm.out.mono ?_
  rintro e w2 ⟨rfl, hb2⟩
  obtain ⟨q0, q1, q2, q3⟩ := (hX.out.below hb2).cells
  have hbb := Aside0.mk (below_then hb1.out hb1.out.size hb2)
  clear p0 p1 p2 p3 hb2
  go_wp2_with fail
  go_loopw [6, 7, 8] (fun s6 s7 s8 wr => wr = w2 ∧ s7 = .int .i64 0 ∧ s6 = .string ({ data := #[40] } ++ sm ++ { data := #[61] }) ∧ Aside0 (s8 = s8)) (fun _ _ _ _ => 0)
  case atStart => exact ⟨rfl, rfl, rfl, ⟨rfl⟩⟩
  case round =>
    obtain ⟨rfl, rfl, rfl, _⟩ := hrel
    go_wp2_with fail
    go_ret
    refine ⟨⟨_, rfl, ?_⟩, hbb.out⟩
    have := hz.out
    simp only [ByteArray.size_append]
    show 1 + sm.size + 1 + 1 + 1 ≤ 5
    omega
set_option maxRecDepth 8000 in
set_option maxHeartbeats 4000000 in
theorem rtext_node (k : Int) (hk : k = 2 ∨ k = 3) (l : List Ft) (B : Nat) (hB : B ≤ 10000) (hl : l.length ≤ 1000) (hch : ∀ y ∈ l, TP B y) : TP (3 + l.length * B) ⟨k, l, { data := #[] }, { data := #[] }⟩ := by
  intro A c w hv
  have hX := fbox_new w 25 (.int .i64 k) (.slice A l.length c) (.string { data := #[] }) (.string { data := #[] })
  have hb1 := below_alloc (Below.refl w.heap.size w) (.cells #[.int .i64 k, .slice A l.length c, .string { data := #[] }, .string { data := #[] }] 25)
  obtain ⟨w1, hw1⟩ : ∃ w1, w.alloc (.cells #[.int .i64 k, .slice A l.length c, .string { data := #[] }, .string { data := #[] }] 25) = w1 := ⟨_, rfl⟩
  rw [hw1] at hX hb1
  obtain ⟨X, hXe⟩ : ∃ X, w.heap.size = X := ⟨_, rfl⟩
  rw [hXe] at hX
  obtain ⟨p0, p1, p2, p3⟩ := hX.cells
  replace hX := Aside0.mk hX
  have hC := Aside0.mk (show kF.C w A l.length l from hv.co)
  replace hch := Aside0.mk hch
  clear hv
  unfold fv
  dsimp only
  obtain ⟨M, hM⟩ : ∃ M, l.length = M := ⟨_, rfl⟩
  rw [hM] at p1 hX hw1 hl ⊢
  replace hM := Aside0.mk hM
  have k3 : decide (k ≤ 3) = true := decide_eq_true (by omega)
  have kw : wrap64 (k - 1) = k - 1 := wrap_in _ (by omega)
  have k0 : (0 : Int) ≤ k - 1 := by omega
  have k1 : k - 1 < 3 := by omega
  have hb2 := below_alloc hb1 (.cells #[.string { data := #[38] }, .string { data := #[124] }, .string { data := #[33] }] 9)
  have hb3 := below_alloc (Below.refl w1.heap.size w1) (.cells #[.string { data := #[38] }, .string { data := #[124] }, .string { data := #[33] }] 9)
  obtain ⟨w2, hw2⟩ : ∃ w2, w1.alloc (.cells #[.string { data := #[38] }, .string { data := #[124] }, .string { data := #[33] }] 9) = w2 := ⟨_, rfl⟩
  rw [hw2] at hb2 hb3
  obtain ⟨q0, q1, q2, q3⟩ := (hX.out.below hb3).cells
  have hX2 := Aside0.mk (hX.out.below hb3)
  replace hb2 := Aside0.mk hb2
  clear hb3 hX
  have hsg : ∃ sg : ByteArray, sg.size = 1 ∧ w2.cell? ⟨w1.heap.size, k.toNat - 1, none⟩ = some (.string sg) := by
    have hn := heap_alloc_new w1 (.cells #[.string { data := #[38] }, .string { data := #[124] }, .string { data := #[33] }] 9)
    rw [hw2] at hn
    rcases hk with rfl | rfl
    · exact ⟨{ data := #[124] }, rfl, (cell_of_row _ _ _ _ _ _ hn).trans rfl⟩
    · exact ⟨{ data := #[33] }, rfl, (cell_of_row _ _ _ _ _ _ hn).trans rfl⟩
  obtain ⟨sg, hsz, hsg⟩ := hsg
  have y1 : ¬ 9223372036854775807 < 1 + sg.size := by omega
  replace hsz := Aside0.mk hsz
  replace hk := Aside0.mk hk
  replace hb1 := Aside0.mk hb1
  go_enter Try.func24, Try.ntmps24
  go_wp2_with fail
  clear hsg kw k0 k1 k3 p0 p1 p2 p3
  have hs1 : ({ data := #[40] } ++ sg : ByteArray).size ≤ 2 + 0 * B := by rw [ByteArray.size_append, hsz.out]; show 1 + 1 ≤ _; omega
  replace hs1 := Aside0.mk hs1
  clear y1
  go_loopw [4, 5] (fun s4 s5 wr => ∃ (i : Nat) (acc : ByteArray), i ≤ M ∧ s5 = .int .i64 (i : Int) ∧ s4 = .string acc ∧ Aside0 (acc.size ≤ 2 + i * B) ∧ Aside0 (FBox wr X 25 (.int .i64 k) (.slice A M c) (.string { data := #[] }) (.string { data := #[] })) ∧ Aside0 (Below w.heap.size w wr)) (fun _ s5 _ => M - (intOf s5).toNat)
  case atStart => exact ⟨0, _, Nat.zero_le _, rfl, rfl, hs1, hX2, hb2⟩
  case round =>
    clear hb2 hX2 hs1 q0 q1 q2 q3
    obtain ⟨i, acc, hi, rfl, rfl, hac, hX, hb⟩ := hrel
    obtain ⟨q0, q1, q2, q3⟩ := hX.out.cells
    obtain ⟨P, hP⟩ : ∃ P, i * B = P := ⟨_, rfl⟩
    have hP1 : P ≤ 1000 * 10000 := by rw [← hP]; exact Nat.mul_le_mul (by omega) hB
    have hP2 : (i + 1) * B = P + B := by rw [Nat.succ_mul, hP]
    have hac1 := hac.out
    rw [hP] at hac1
    by_cases hlt : i < M
    · have hil : i < l.length := by rw [hM.out]; exact hlt
      obtain ⟨ad, A6, c6, e, p0, p1, p2, p3, hv6⟩ := kF_at (Kd.C_below hC.out hb.out) i hil
      subst e
      have hcl := hch.out l[i] (List.getElem_mem hil) A6 c6 wr hv6
      obtain ⟨x, hx⟩ : ∃ x, l[i] = x := ⟨_, rfl⟩
      rw [hx] at p0 p1 p2 p3 hcl
      unfold fv at hcl
      replace hcl := Aside0.mk hcl
      clear hx hil hv6
      have i0 : (0 : Int) ≤ (i : Int) := by omega
      have i1 : (i : Int) < (M : Int) := by omega
      have z1 := Aside0.mk (show acc.size + B ≤ 20000000 by omega)
      have z2 := Aside0.mk (show acc.size + B ≤ 2 + (i + 1) * B by omega)
      replace hac := Aside0.mk hac1
      clear hP hP1 hP2 hac1
      go_wp2_with fail
      refine hcl.out.mono ?_
      rintro e w5 ⟨⟨t, rfl, ht⟩, hb5⟩
      have y1 : ¬ 9223372036854775807 < acc.size + t.size := by have := z1.out; omega
      have hac2 := Aside0.mk (show (acc ++ t).size ≤ 2 + (i + 1) * B by rw [ByteArray.size_append]; have := z2.out; omega)
      have hX5 := Aside0.mk (hX.out.below hb5)
      have hbb5 := Aside0.mk (below_then hb.out hb.out.size hb5)
      clear hb5 q0 q1 q2 q3 p0 p1 p2 p3
      go_wp2_with fail
      go_roundw
      case rel => exact ⟨i + 1, _, by omega, by go_num, rfl, hac2, hX5, hbb5⟩
      case measure => simp [intOf]; omega
    · obtain rfl : i = M := by omega
      have y1 : ¬ 9223372036854775807 < acc.size + 1 := by omega
      clear hP1 hP2
      replace hac1 := Aside0.mk hac1
      replace hP := Aside0.mk hP
      go_wp2_with fail
      go_ret
      refine ⟨⟨_, rfl, ?_⟩, hb.out⟩
      rw [ByteArray.size_append]
      show acc.size + 1 ≤ _
      have := hac1.out; have := hP.out
      omega
end Go.Proofs.Ytgnmkblaockghaa
