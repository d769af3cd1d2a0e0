/- A disk is read. -/
import Derived.Test.YtolighikimpbfaaDs
set_option linter.unusedVariables false
set_option linter.unusedSimpArgs false
namespace Go.Proofs.Ytolighikimpbfaa
open Go.RowKit Go.Shelf Go.Proofs.YtolighikimpbfaaW.PrintWords Go.Proofs.YtolighikimpbfaaW.PrintMore
attribute [local go_sem] max2_int min2_int max_two min_two

theorem read_not (p : Option Addr) (x y : Int) (w : World) (hn : NoneIs true p w) :
    Calls Try.prog 14 #[.pointer p, .int .i64 x, .int .i64 y] w fun e w' => e = .returned (.tuple #[.slice none 0 0, .int .i64 1]) ∧ w = w' := by
  have hn := Aside0.mk hn
  go_enter Try.func14, Try.ntmps14
  go_wp2_with (go_at_call 28; refine hn.out.mono ?_; rintro e w' ⟨rfl, rfl⟩)
  go_ret2
  exact ⟨rfl, rfl⟩
set_option maxHeartbeats 1000000 in
theorem read_yes (S RO : Nat → Prop) (g : Nat) (ds : DS) (w : World) (h : Dk w S RO g ds) (hl : ds.now.length ≤ 262144) (x m : Nat) (hx : x + m ≤ ds.now.length) :
    Calls Try.prog 14 #[.pointer (some ⟨g, 0, none⟩), .int .i64 (x : Int), .int .i64 (m : Int)] w fun e w' => ∃ v, e = .returned (.tuple #[v, .int .i64 0]) ∧
      u8.R 5 w' 0 (fun q => w.heap.size ≤ q) v (toI ((ds.now.drop x).take m)) ∧ Below w.heap.size w w' := by
  have hn := Aside0.mk h.none
  obtain ⟨n, capn, lv, wv, h⟩ := h
  obtain ⟨N, hN⟩ : ∃ N, ds.now.length = N := ⟨_, rfl⟩
  have c0 := h.cell.1
  have hc := (Kd.R_reads' h.now).2.1
  have hC := (Kd.R_reads' h.now).2.2
  have hmid := Kd.C_mid (c := capn) hC (lo := x) (hi := x + m) (by omega) (by rw [toI_length]; omega) (by rw [toI_length]; exact hc)
  have hl2 : ((toI ds.now).take (x + m)).drop x = toI ((ds.now.drop x).take m) := by
    rw [toI_take, toI_drop, List.drop_take, Nat.add_sub_cancel_left]
  rw [hl2, toI_length] at hmid
  have hm2 : ((ds.now.drop x).take m).length = m := by rw [List.length_take, List.length_drop]; omega
  rw [hN] at c0 hx hc hl
  have d1 : decide ((m : Int) < 0) = false := by simp
  have d2 : decide ((x : Int) < 0) = false := by simp
  have d3 : decide ((N : Int) < (x : Int)) = false := by simp; omega
  have d4 : decide ((N : Int) - (x : Int) < (m : Int)) = false := by simp; omega
  have H := Aside0.mk h
  have hN := Aside0.mk hN
  clear h
  by_cases hcx : capn = x
  · have hclone : ∀ c', Calls Try.prog 30 #[.slice (some ⟨n, 0, none⟩) m c'] w fun e w' => ∃ v, e = .returned v ∧ u8.R 5 w' 0 (fun q => w.heap.size ≤ q) v (toI ((ds.now.drop x).take m)) ∧ Below w.heap.size w w' := by
      intro c'
      have := clone8_calls (some ⟨n, 0, none⟩) c' ((ds.now.drop x).take m) w (by rw [if_pos hcx] at hmid; exact hmid) (by omega)
      rwa [hm2] at this
    have hclone := Aside0.mk hclone
    have hcx := Aside0.mk hcx
    clear hmid hl2 hm2 hC
    have hxx : x = capn := hcx.out.symm
    subst hxx
    go_enter Try.func14, Try.ntmps14
    go_wp2_with (first | (go_at_call 28; refine hn.out.mono ?_; rintro e w' ⟨rfl, rfl⟩) | (go_at_call 30; refine (hclone.out _).mono ?_; rintro e w1 ⟨v, rfl, hv, hb⟩; replace hv := Aside0.mk hv; replace hb := Aside0.mk hb))
    go_ret2
    exact ⟨v, rfl, hv.out, hb.out⟩
  · have hclone : ∀ c', Calls Try.prog 30 #[.slice (some ⟨n, x, none⟩) m c'] w fun e w' => ∃ v, e = .returned v ∧ u8.R 5 w' 0 (fun q => w.heap.size ≤ q) v (toI ((ds.now.drop x).take m)) ∧ Below w.heap.size w w' := by
      intro c'
      have ha : (some (⟨n, 0, none⟩ : Addr)).map (·.add (x * u8.sz)) = some ⟨n, x, none⟩ := by
        rw [show x * u8.sz = x from Nat.mul_one x]
        exact congrArg some (add_plain n x)
      have := clone8_calls (some ⟨n, x, none⟩) c' ((ds.now.drop x).take m) w (by rw [if_neg hcx, ha] at hmid; exact hmid) (by omega)
      rwa [hm2] at this
    have hclone := Aside0.mk hclone
    clear hmid hl2 hm2 hC
    go_enter Try.func14, Try.ntmps14
    go_wp2_with (first | (go_at_call 28; refine hn.out.mono ?_; rintro e w' ⟨rfl, rfl⟩) | (go_at_call 30; refine (hclone.out _).mono ?_; rintro e w1 ⟨v, rfl, hv, hb⟩; replace hv := Aside0.mk hv; replace hb := Aside0.mk hb))
    go_ret2
    exact ⟨v, rfl, hv.out, hb.out⟩
set_option maxHeartbeats 1000000 in
theorem read_neg (S RO : Nat → Prop) (g : Nat) (ds : DS) (w : World) (h : Dk w S RO g ds) (x m : Int) (hm : m < 0) :
    Calls Try.prog 14 #[.pointer (some ⟨g, 0, none⟩), .int .i64 x, .int .i64 m] w fun e w' => e = .returned (.tuple #[.slice none 0 0, .int .i64 2]) ∧ w = w' := by
  have hn := Aside0.mk h.none
  have d1 : decide (m < 0) = true := by simp; omega
  clear h
  go_enter Try.func14, Try.ntmps14
  go_wp2_with (go_at_call 28; refine hn.out.mono ?_; rintro e w' ⟨rfl, rfl⟩)
  go_ret2
  exact ⟨rfl, rfl⟩
set_option maxHeartbeats 1000000 in
theorem read_no (S RO : Nat → Prop) (g : Nat) (ds : DS) (w : World) (h : Dk w S RO g ds) (hl : ds.now.length ≤ 262144) (x m : Int) (hm : 0 ≤ m) (hx : x < 0 ∨ ds.now.length < x ∨ ds.now.length - x < m) :
    Calls Try.prog 14 #[.pointer (some ⟨g, 0, none⟩), .int .i64 x, .int .i64 m] w fun e w' => e = .returned (.tuple #[.slice none 0 0, .int .i64 4]) ∧ w = w' := by
  have hn := Aside0.mk h.none
  obtain ⟨n, capn, lv, wv, h⟩ := h
  have c0 := h.cell.1
  have d1 : decide (m < 0) = false := by simp; omega
  clear h
  by_cases h2 : x < 0
  · have d2 : decide (x < 0) = true := by simp; omega
    go_enter Try.func14, Try.ntmps14
    go_wp2_with (go_at_call 28; refine hn.out.mono ?_; rintro e w' ⟨rfl, rfl⟩)
    go_ret2
    exact ⟨rfl, rfl⟩
  · have d2 : decide (x < 0) = false := by simp; omega
    by_cases h3 : ds.now.length < x
    · have d3 : decide ((ds.now.length : Int) < x) = true := by simp; omega
      go_enter Try.func14, Try.ntmps14
      go_wp2_with (go_at_call 28; refine hn.out.mono ?_; rintro e w' ⟨rfl, rfl⟩)
      go_ret2
      exact ⟨rfl, rfl⟩
    · have d3 : decide ((ds.now.length : Int) < x) = false := by simp; omega
      have d4 : decide ((ds.now.length : Int) - x < m) = true := by simp; omega
      clear hx
      go_enter Try.func14, Try.ntmps14
      go_wp2_with (go_at_call 28; refine hn.out.mono ?_; rintro e w' ⟨rfl, rfl⟩)
      go_ret2
      exact ⟨rfl, rfl⟩
end Go.Proofs.Ytolighikimpbfaa
