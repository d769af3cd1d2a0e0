/- contact: is there a value that may not be? Do values rise? -/
import Derived.Test.YtbocbaakknkfiaaMb
set_option linter.unusedVariables false
set_option linter.unusedSimpArgs false
namespace Go.Proofs.Ytbocbaakknkfiaa
open Go.RowKit Go.Shelf Go.Proofs.YtbocbaakknkfiaaW.PrintWords Go.Proofs.YtbocbaakknkfiaaW.PrintMore Go.Proofs.YtbocbaakknkfiaaW.PrintLast

set_option maxHeartbeats 1000000 in
theorem not_calls (f : Int) (fb gb : Nat) (s : ByteArray) (w : World) (hs : s.size ≤ 1000) (hf : w.cell? ⟨fb, 0, none⟩ = some (.int .i64 f)) (hg : w.cell? ⟨gb, 0, none⟩ = some (.func (.func 45) #[] #[.pointer (some ⟨fb, 0, none⟩)])) :
    Calls Try.prog 42 #[.string s, .pointer (some ⟨gb, 0, none⟩)] w fun e w' => e = .returned (.bool (!valOk f s)) ∧ Below w.heap.size w w' := by
  have he := enters_of (P := Try.prog) Try.func45 (by kernel_rfl) rfl
  have hv := Aside0.mk (value_calls f fb s w hs hf)
  clear hf
  go_enter Try.func42, Try.ntmps42
  go_wp2_with fail
  refine hv.out.mono ?_
  rintro e w1 ⟨rfl, hb⟩
  replace hb := Aside0.mk hb
  go_wp2_with fail
  go_ret
  exact ⟨rfl, hb.out⟩
theorem any_take_snoc {α : Type} (p : α → Bool) (l : List α) (k : Nat) (h : k < l.length) (h1 : (l.take k).any p = false) (h2 : p l[k] = false) : (l.take (k + 1)).any p = false := by
  rw [List.take_succ_eq_append_getElem h, List.any_append, h1]; simp [h2]
theorem any_true_at {α : Type} (p : α → Bool) (l : List α) (k : Nat) (h : k < l.length) (h2 : p l[k] = true) : l.any p = true := by
  rw [List.any_eq_true]; exact ⟨l[k], List.getElem_mem h, h2⟩
set_option maxHeartbeats 1000000 in
theorem indexfunc_calls (f : Int) (fb gb : Nat) (A : Option Addr) (c : Nat) (l : Fld) (w : World) (hl : l.length ≤ 1000) (hs : ∀ s ∈ l, s.size ≤ 1000) (hC : st.C w A l.length l) (hf : w.cell? ⟨fb, 0, none⟩ = some (.int .i64 f)) (hg : w.cell? ⟨gb, 0, none⟩ = some (.func (.func 45) #[] #[.pointer (some ⟨fb, 0, none⟩)])) :
    Calls Try.prog 46 #[.slice A l.length c, .func (.func 42) #[] #[.pointer (some ⟨gb, 0, none⟩)]] w fun e w' => (∃ r : Int, e = .returned (.int .i64 r) ∧ decide (0 ≤ r) = l.any (fun s => !valOk f s)) ∧ Below w.heap.size w w' := by
  have he := enters_of (P := Try.prog) Try.func42 (by kernel_rfl) rfl
  obtain ⟨M, hM⟩ : ∃ M, l.length = M := ⟨_, rfl⟩
  replace hC := Aside0.mk hC
  replace hs := Aside0.mk hs
  replace hf := Aside0.mk hf
  replace hg := Aside0.mk hg
  rw [hM] at hl ⊢
  replace hM := Aside0.mk hM
  have hb0 : Aside0 (Below w.heap.size w w) := Aside0.mk (Below.refl _ _)
  go_enter Try.func46, Try.ntmps46
  go_wp2
  go_loopw [8] (fun s8 wr => ∃ k : Nat, k ≤ M ∧ s8 = .int .i64 k ∧ Aside0 (Below w.heap.size w wr) ∧ Aside0 ((l.take k).any (fun s => !valOk f s) = false)) (fun s8 _ => M - (intOf s8).toNat)
  case atStart => exact ⟨0, Nat.zero_le _, rfl, hb0, ⟨by simp⟩⟩
  case round =>
    clear hb0
    obtain ⟨k, hk, rfl, hb, ha⟩ := hrel
    by_cases hlt : k < M
    · have hkl : k < l.length := by rw [hM.out]; exact hlt
      obtain ⟨ad, e, p0⟩ := str_at hC.out k hkl
      subst e
      replace p0 := pw_cell_below hb.out p0
      have hsz := hs.out l[k] (List.getElem_mem hkl)
      have hnx := Aside0.mk (fun h => any_take_snoc (fun s => !valOk f s) l k hkl ha.out h)
      have hno := Aside0.mk (any_true_at (fun s => !valOk f s) l k hkl)
      obtain ⟨x, hx⟩ : ∃ x, l[k] = x := ⟨_, rfl⟩
      rw [hx] at p0 hnx hno hsz
      clear hx hkl
      have hv := Aside0.mk (not_calls f fb gb x wr hsz (pw_cell_below hb.out hf.out) (pw_cell_below hb.out hg.out))
      cases hvo : valOk f x with
      | true =>
        rw [hvo] at hv
        have hy := Aside0.mk (hnx.out (by simp [hvo]))
        clear hnx hno hvo
        go_wp2_with fail
        refine hv.out.mono ?_
        rintro e w1 ⟨rfl, hb1⟩
        replace hb1 := Aside0.mk (below_then hb.out hb.out.size hb1)
        go_wp2_with fail
        go_roundw
        case rel => exact ⟨k + 1, by omega, by go_num, hb1, hy⟩
        case measure => simp [intOf]; omega
      | false =>
        rw [hvo] at hv
        have hy := Aside0.mk (hno.out (by simp [hvo]))
        clear hnx hno hvo
        go_wp2_with fail
        refine hv.out.mono ?_
        rintro e w1 ⟨rfl, hb1⟩
        replace hb1 := Aside0.mk (below_then hb.out hb.out.size hb1)
        go_wp2_with fail
        go_ret
        exact ⟨⟨_, rfl, by rw [hy.out]; simp⟩, hb1.out⟩
    · have hkM : k = M := by omega
      subst hkM
      have h9 : l.any (fun s => !valOk f s) = false := by
        have h9 := ha.out
        rwa [List.take_of_length_le (by rw [hM.out]; exact Nat.le_refl _)] at h9
      replace h9 := Aside0.mk h9
      go_wp2_with fail
      go_ret
      exact ⟨⟨_, rfl, by rw [h9.out]; rfl⟩, hb.out⟩
set_option maxHeartbeats 1000000 in
theorem contains_calls (f : Int) (fb gb : Nat) (A : Option Addr) (c : Nat) (l : Fld) (w : World) (hl : l.length ≤ 1000) (hs : ∀ s ∈ l, s.size ≤ 1000) (hC : st.C w A l.length l) (hf : w.cell? ⟨fb, 0, none⟩ = some (.int .i64 f)) (hg : w.cell? ⟨gb, 0, none⟩ = some (.func (.func 45) #[] #[.pointer (some ⟨fb, 0, none⟩)])) :
    Calls Try.prog 41 #[.slice A l.length c, .func (.func 42) #[] #[.pointer (some ⟨gb, 0, none⟩)]] w fun e w' => e = .returned (.bool (l.any (fun s => !valOk f s))) ∧ Below w.heap.size w w' := by
  have hi := Aside0.mk (indexfunc_calls f fb gb A c l w hl hs hC hf hg)
  clear hC hf hg hs
  generalize l.any (fun s => !valOk f s) = b at *
  generalize l.length = M at *
  go_enter Try.func41, Try.ntmps41
  go_wp2_with fail
  refine hi.out.mono ?_
  rintro e w1 ⟨⟨r, rfl, hr⟩, hb⟩
  replace hb := Aside0.mk hb
  replace hr := Aside0.mk hr
  go_wp2_with fail
  go_ret
  exact ⟨by rw [← hr.out]; rfl, hb.out⟩
end Go.Proofs.Ytbocbaakknkfiaa
