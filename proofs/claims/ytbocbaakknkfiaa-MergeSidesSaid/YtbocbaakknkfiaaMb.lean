/- contact: may a value be, may values be? -/
import Derived.Test.YtbocbaakknkfiaaMa
import Derived.WalkSpells
import Derived.WalkKit
import Derived.Shelf.Abstract
import Derived.Shelf.RegionOpen
set_option linter.unusedVariables false
set_option linter.unusedSimpArgs false
namespace Go.Proofs.Ytbocbaakknkfiaa
open Go.RowKit Go.Shelf Go.Proofs.YtbocbaakknkfiaaW.PrintWords Go.Proofs.YtbocbaakknkfiaaW.PrintMore Go.Proofs.YtbocbaakknkfiaaW.PrintLast

/-- May a byte stand in field f? -/
def byteOk (f : Int) (x : Int) : Bool := !(decide (x < 32) && ((x != 10) || (f != 5)))
/-- May a value? -/
def valOk (f : Int) (s : ByteArray) : Bool := (bytesOf s).all (byteOk f) && (decide (1 ≤ (s.size : Int)) && decide ((s.size : Int) ≤ 200))
theorem all_take_snoc (p : Int → Bool) (l : List Int) (k : Nat) (h : k < l.length) (h1 : (l.take k).all p = true) (h2 : p l[k] = true) : (l.take (k + 1)).all p = true := by
  rw [List.take_succ_eq_append_getElem h, List.all_append, h1]; simp [h2]
theorem all_false_at (p : Int → Bool) (l : List Int) (k : Nat) (h : k < l.length) (h2 : p l[k] = false) : l.all p = false := by
  rw [List.all_eq_false]; exact ⟨l[k], List.getElem_mem h, by simp [h2]⟩
set_option maxHeartbeats 1000000 in
theorem value_calls (f : Int) (fb : Nat) (s : ByteArray) (w : World) (hs : s.size ≤ 1000) (hf : w.cell? ⟨fb, 0, none⟩ = some (.int .i64 f)) :
    Calls Try.prog 45 #[.string s, .pointer (some ⟨fb, 0, none⟩)] w fun e w' => e = .returned (.bool (valOk f s)) ∧ Below w.heap.size w w' := by
  have kb := fun W => print_bytes (P := Try.prog) 9 77 5 Try.underlying9 Try.underlying77 Try.underlying5 s W
  have hr := bytes_reads w 5 s (by omega)
  have hb := bytes_below (Below.refl w.heap.size w) (Nat.le_refl _) 5 s
  have hl := bytesOf_length s
  have hf1 := pw_cell_below hb hf
  obtain ⟨M, hM⟩ : ∃ M, s.size = M := ⟨_, rfl⟩
  obtain ⟨l, hL⟩ : ∃ l, bytesOf s = l := ⟨_, rfl⟩
  unfold valOk
  rw [hL, hM] at hr
  rw [hL, hM] at hl
  rw [hM] at hs
  rw [hL]
  simp only [hM] at kb ⊢
  have hr := Aside0.mk hr
  have hb := Aside0.mk hb
  have hl := Aside0.mk hl
  replace hM := Aside0.mk hM
  clear hf hL
  go_enter Try.func45, Try.ntmps45
  go_wp2_with fail
  clear kb
  obtain ⟨w1, hw1⟩ : ∃ w1, Lib.bytesWorld w 5 s = w1 := ⟨_, rfl⟩
  rw [hw1] at hr hb hf1 ⊢
  clear hw1
  go_loop [9] (fun s9 => ∃ k : Nat, k ≤ M ∧ s9 = .int .i64 k ∧ Aside0 ((l.take k).all (byteOk f) = true)) (fun s9 => M - (intOf s9).toNat)
  case atStart => exact ⟨0, Nat.zero_le _, rfl, ⟨by simp⟩⟩
  case round =>
    obtain ⟨k, hk, rfl, ha⟩ := hrel
    by_cases hlt : k < M
    · have hkl : k < l.length := by rw [hl.out]; exact hlt
      have hp : w1.cell? ⟨w.heap.size, k, none⟩ = some (.int .u8 l[k]) := by
        obtain ⟨ad, e, hc⟩ := hr.out.2.2 (by omega)
        injection e with e
        subst e
        have := hc k hlt
        rw [add_plain] at this
        rw [this]; simp [List.getD_eq_getElem?_getD, hkl]
      have hnx := Aside0.mk (fun h => all_take_snoc (byteOk f) l k hkl ha.out h)
      have hno := Aside0.mk (all_false_at (byteOk f) l k hkl)
      obtain ⟨x, hx⟩ : ∃ x, l[k] = x := ⟨_, rfl⟩
      rw [hx] at hp hnx hno
      clear hx hkl
      by_cases d1 : x < 32
      · have e1 : decide (x < 32) = true := decide_eq_true d1
        by_cases d2 : x = 10
        · have e2 : (x == 10) = true := by simpa using d2
          have n2 : (x != 10) = false := by simpa using d2
          by_cases d3 : f = 5
          · have e3 : (f == 5) = true := by simpa using d3
            have n3 : (f != 5) = false := by simpa using d3
            have hy := Aside0.mk (hnx.out (by subst d2; subst d3; rfl))
            clear d2 d3 hnx hno
            go_wp2_with fail
            go_round
            case rel => exact ⟨k + 1, by omega, by go_num, hy⟩
            case measure => simp [intOf]; omega
          · have e3 : (f == 5) = false := by simpa using d3
            have n3 : (f != 5) = true := by simpa using d3
            have hy := Aside0.mk (hno.out (by unfold byteOk; rw [e1, n3]; simp))
            clear d2 d3 hnx hno
            go_wp2_with fail
            go_ret
            exact ⟨by rw [hy.out]; rfl, hb.out⟩
        · have e2 : (x == 10) = false := by simpa using d2
          have n2 : (x != 10) = true := by simpa using d2
          have hy := Aside0.mk (hno.out (by unfold byteOk; rw [e1, n2]; rfl))
          clear d2 hnx hno
          go_wp2_with fail
          go_ret
          exact ⟨by rw [hy.out]; rfl, hb.out⟩
      · have e1 : decide (x < 32) = false := decide_eq_false d1
        have hy := Aside0.mk (hnx.out (by unfold byteOk; rw [e1]; rfl))
        clear hnx hno
        go_wp2_with fail
        go_round
        case rel => exact ⟨k + 1, by omega, by go_num, hy⟩
        case measure => simp [intOf]; omega
    · have hkM : k = M := by omega
      subst hkM
      have hal : l.all (byteOk f) = true := by
        have h9 := ha.out
        rwa [List.take_of_length_le (by rw [hl.out]; exact Nat.le_refl _)] at h9
      replace hal := Aside0.mk hal
      by_cases d1 : (1 : Int) ≤ (s.size : Int)
      · have e1 : decide ((1 : Int) ≤ (s.size : Int)) = true := decide_eq_true d1
        go_wp2_with fail
        go_ret
        exact ⟨by rw [hal.out]; rw [← hM.out, e1]; rfl, hb.out⟩
      · have e1 : decide ((1 : Int) ≤ (s.size : Int)) = false := decide_eq_false d1
        go_wp2_with fail
        go_ret
        exact ⟨by rw [hal.out]; rw [← hM.out, e1]; rfl, hb.out⟩
end Go.Proofs.Ytbocbaakknkfiaa
