/- all; EqualFunc over writes. -/
import Derived.Test.YtolighikimpbfaaTa
set_option linter.unusedVariables false
set_option linter.unusedSimpArgs false
namespace Go.Proofs.Ytolighikimpbfaa
open Go.RowKit Go.Shelf Go.Proofs.YtolighikimpbfaaW.PrintWords Go.Proofs.YtolighikimpbfaaW.PrintMore Go.Proofs.YtolighikimpbfaaW.PrintLast

/-- Where b is first, or below 0. -/
def Found (b : Bool) (l : List Bool) (w : World) (e : Ending) (w' : World) : Prop := ∃ r : Int, e = .returned (.int .i64 r) ∧ (0 ≤ r ↔ b ∈ l) ∧ w = w'
set_option maxHeartbeats 1000000 in
theorem index_calls (g c : Nat) (b : Bool) (l : List Bool) (w : World) (hC : ∀ k : Nat, (hk : k < l.length) → w.cell? ⟨g, k, none⟩ = some (.bool l[k])) (hl : l.length ≤ 1000000) :
    Calls Try.prog 51 #[.slice (some ⟨g, 0, none⟩) l.length c, .bool b] w (Found b l w) := by
  obtain ⟨M, hM⟩ : ∃ M, l.length = M := ⟨_, rfl⟩
  replace hC := Aside0.mk hC
  rw [hM] at hl ⊢
  replace hM := Aside0.mk hM
  go_enter Try.func51, Try.ntmps51
  go_wp2
  go_loop [8] (fun s8 => ∃ k : Nat, k ≤ M ∧ s8 = .int .i64 k ∧ Aside0 (∀ x ∈ l.take k, x ≠ b)) (fun s8 => M - (intOf s8).toNat)
  case atStart => exact ⟨0, Nat.zero_le _, rfl, ⟨by simp⟩⟩
  case round =>
    obtain ⟨k, hk, rfl, hall⟩ := hrel
    by_cases hlt : k < M
    · have hkw : k < l.length := by rw [hM.out]; exact hlt
      have p0 := hC.out k hkw
      have hnx := Aside0.mk (List.take_succ_eq_append_getElem hkw)
      have hmem := Aside0.mk (List.getElem_mem hkw)
      obtain ⟨x, hx⟩ : ∃ x, l[k] = x := ⟨_, rfl⟩
      rw [hx] at p0 hnx hmem
      clear hx hkw
      by_cases hxb : b = x
      · subst hxb
        go_wp2_with fail
        go_ret
        exact ⟨k, rfl, ⟨fun _ => hmem.out, fun _ => by omega⟩, rfl⟩
      · have d : (b == x) = false := by simpa using hxb
        have hxb := Aside0.mk hxb
        go_wp2_with fail
        go_round
        case rel => exact ⟨k + 1, by omega, by go_num, ⟨by rw [hnx.out]; intro y hy; rcases List.mem_append.1 hy with hy | hy; exact hall.out y hy; simp only [List.mem_singleton] at hy; subst hy; exact fun e => hxb.out e.symm⟩⟩
        case measure => simp [intOf]; omega
    · have hkM : k = M := by omega
      subst hkM
      go_wp2_with fail
      go_ret
      refine ⟨-1, rfl, ⟨fun h => by omega, fun h => ?_⟩, rfl⟩
      have h9 := hall.out
      rw [List.take_of_length_le (by rw [hM.out]; exact Nat.le_refl _)] at h9
      exact absurd rfl (h9 b h)
set_option maxHeartbeats 1000000 in
theorem all_calls (g c : Nat) (l : List Bool) (w : World) (hC : ∀ k : Nat, (hk : k < l.length) → w.cell? ⟨g, k, none⟩ = some (.bool l[k])) (hl : l.length ≤ 1000000) :
    Calls Try.prog 44 #[.slice (some ⟨g, 0, none⟩) l.length c] w fun e w' => e = .returned (.bool (l.all id)) ∧ w = w' := by
  have hi := Aside0.mk (index_calls g c false l w hC hl)
  have hc : Calls Try.prog 50 #[.slice (some ⟨g, 0, none⟩) l.length c, .bool false] w fun e w' => e = .returned (.bool (decide (false ∈ l))) ∧ w = w' := by
    clear hC
    generalize l.length = M at *
    by_cases h : false ∈ l
    · have hd : decide (false ∈ l) = true := by simpa using h
      rw [hd]
      replace h := Aside0.mk h
      clear hd
      go_enter Try.func50, Try.ntmps50
      go_wp2_with (go_at_call 51; refine hi.out.mono ?_; rintro e w' ⟨r, rfl, hr, rfl⟩; have h0 := hr.2 h.out; clear hr)
      go_ret
      exact ⟨rfl, rfl⟩
    · have hd : decide (false ∈ l) = false := by simpa using h
      rw [hd]
      replace h := Aside0.mk h
      clear hd
      go_enter Try.func50, Try.ntmps50
      go_wp2_with (go_at_call 51; refine hi.out.mono ?_; rintro e w' ⟨r, rfl, hr, rfl⟩; have h0 : ¬ 0 ≤ r := fun h9 => h.out (hr.1 h9); have h1 : decide (0 ≤ r) = false := decide_eq_false h0; clear hr h0)
      go_ret
      exact ⟨rfl, rfl⟩
  have hA : l.all id = !decide (false ∈ l) := by
    by_cases h : false ∈ l
    · have hd : decide (false ∈ l) = true := by simpa using h
      rw [hd]
      simp only [Bool.not_true, List.all_eq_false]
      exact ⟨false, h, by simp⟩
    · have hd : decide (false ∈ l) = false := by simpa using h
      rw [hd]
      simp only [Bool.not_false, List.all_eq_true]
      intro x hx
      cases x with
      | true => rfl
      | false => exact absurd hx h
  rw [hA]
  generalize decide (false ∈ l) = d at *
  replace hc := Aside0.mk hc
  clear hC hi hA
  generalize l.length = M at *
  go_enter Try.func44, Try.ntmps44
  go_wp2_with (go_at_call 50; refine hc.out.mono ?_; rintro e w' ⟨rfl, rfl⟩)
  go_ret
  exact ⟨rfl, rfl⟩
/-! ### EqualFunc over writes -/
theorem encs_take (l1 l2 : List Wr) (k : Nat) (h1 : k < l1.length) (h2 : k < l2.length) (h : (encWs l1).take k = (encWs l2).take k) : (encWs l1).take (k + 1) = (encWs l2).take (k + 1) ↔ encW l1[k] = encW l2[k] := by
  have e1 : (encWs l1).take (k + 1) = (encWs l1).take k ++ [encW l1[k]] := by
    rw [List.take_succ_eq_append_getElem (by rw [encWs_length]; exact h1)]; simp [encWs]
  have e2 : (encWs l2).take (k + 1) = (encWs l2).take k ++ [encW l2[k]] := by
    rw [List.take_succ_eq_append_getElem (by rw [encWs_length]; exact h2)]; simp [encWs]
  rw [e1, e2, h]
  constructor
  · intro e; simpa using e
  · intro e; rw [e]
set_option maxHeartbeats 2000000 in
theorem eqf_calls (A1 A2 : Option Addr) (c1 c2 : Nat) (l1 l2 : List Wr) (w : World) (h1 : wk.C w A1 l1.length (encWs l1)) (h2 : wk.C w A2 l2.length (encWs l2)) (hl : l1.length ≤ 1000000) :
    Calls Try.prog 45 #[.slice A1 l1.length c1, .slice A2 l2.length c2, .func (.func 42) #[] #[]] w fun e w' => e = .returned (.bool (decide (encWs l1 = encWs l2))) ∧ Below w.heap.size w w' := by
  have he := enters_of (P := Try.prog) Try.func42 (by kernel_rfl) rfl
  obtain ⟨M, hM⟩ : ∃ M, l1.length = M := ⟨_, rfl⟩
  obtain ⟨M2, hM2⟩ : ∃ M2, l2.length = M2 := ⟨_, rfl⟩
  replace h1 := Aside0.mk h1
  replace h2 := Aside0.mk h2
  rw [hM] at hl ⊢
  rw [hM2]
  replace hM := Aside0.mk hM
  replace hM2 := Aside0.mk hM2
  by_cases hne : M = M2
  · subst hne
    have hb0 : Aside0 (Below w.heap.size w w) := Aside0.mk (Below.refl _ _)
    have ht0 : Aside0 ((encWs l1).take 0 = (encWs l2).take 0) := Aside0.mk (by simp)
    go_enter Try.func45, Try.ntmps45
    go_wp2
    go_loopw [17] (fun s17 wr => ∃ (k : Nat), k ≤ M ∧ s17 = .int .i64 k ∧ Aside0 (Below w.heap.size w wr) ∧ Aside0 ((encWs l1).take k = (encWs l2).take k)) (fun s17 _ => M - (intOf s17).toNat)
    case atStart => exact ⟨0, Nat.zero_le _, rfl, hb0, ht0⟩
    case round =>
      clear hb0 ht0
      obtain ⟨k, hk, rfl, hb, ht⟩ := hrel
      by_cases hlt : k < M
      · have hk1 : k < l1.length := by rw [hM.out]; exact hlt
        have hk2 : k < l2.length := by rw [hM2.out]; exact hlt
        obtain ⟨ad, A3, c3, e, hlc, hC3, B, O, sp, hak, k0, k1⟩ := wr_at h1.out k hk1
        obtain ⟨ad2, A4, c4, e4, hlc4, hC4, B4, O4, sp4, hak4, m0, m1⟩ := wr_at h2.out k hk2
        subst e; subst e4
        have hnx := Aside0.mk (encs_take l1 l2 k hk1 hk2 ht.out)
        obtain ⟨x, hx⟩ : ∃ x, l1[k] = x := ⟨_, rfl⟩
        obtain ⟨y, hy⟩ : ∃ y, l2[k] = y := ⟨_, rfl⟩
        rw [hx] at hlc hC3 k0 k1 hnx
        rw [hy] at hlc4 hC4 m0 m1 hnx
        have k0 := pw_cell_below hb.out k0
        have k1 := pw_cell_below hb.out k1
        have m0 := pw_cell_below hb.out m0
        have m1 := pw_cell_below hb.out m1
        have m0' := pw_cell_below (below_alloc (Below.refl _ _) (.cells #[.int .i64 (x.at_ : Int), .slice A3 x.b.length c3] 69)) m0
        have m1' := pw_cell_below (below_alloc (Below.refl _ _) (.cells #[.int .i64 (x.at_ : Int), .slice A3 x.b.length c3] 69)) m1
        have hb2 := below_alloc (below_alloc (Below.refl wr.heap.size wr) (.cells #[.int .i64 (x.at_ : Int), .slice A3 x.b.length c3] 69)) (.cells #[.int .i64 (y.at_ : Int), .slice A4 y.b.length c4] 69)
        have hb3 := below_then hb.out hb.out.size hb2
        have hcall := Aside0.mk (wreq_calls A3 A4 c3 c4 x y _ (Kd.C_below hC3 hb3) (Kd.C_below hC4 hb3))
        simp only [wrV] at hcall
        have H1 := Mod.blk (S := fun _ => False) ((Mod.refl _ _).alloc (.cells #[.int .i64 (y.at_ : Int), .slice A4 y.b.length c4] 69)) (Go.heap_alloc_new wr (.cells #[.int .i64 (x.at_ : Int), .slice A3 x.b.length c3] 69)) (fun h => h)
        have H2 := last_new wr (.cells #[.int .i64 (x.at_ : Int), .slice A3 x.b.length c3] 69) (.cells #[.int .i64 (y.at_ : Int), .slice A4 y.b.length c4] 69)
        have n0 : ((wr.alloc (.cells #[.int .i64 (x.at_ : Int), .slice A3 x.b.length c3] 69)).alloc (.cells #[.int .i64 (y.at_ : Int), .slice A4 y.b.length c4] 69)).cell? ⟨wr.heap.size, 0, none⟩ = some (.int .i64 (x.at_ : Int)) := (cell_of_row _ _ _ _ _ _ H1).trans rfl
        have n1 : ((wr.alloc (.cells #[.int .i64 (x.at_ : Int), .slice A3 x.b.length c3] 69)).alloc (.cells #[.int .i64 (y.at_ : Int), .slice A4 y.b.length c4] 69)).cell? ⟨wr.heap.size, 1, none⟩ = some (.slice A3 x.b.length c3) := (cell_of_row _ _ _ _ _ _ H1).trans rfl
        have o0 : ((wr.alloc (.cells #[.int .i64 (x.at_ : Int), .slice A3 x.b.length c3] 69)).alloc (.cells #[.int .i64 (y.at_ : Int), .slice A4 y.b.length c4] 69)).cell? ⟨wr.heap.size + 1, 0, none⟩ = some (.int .i64 (y.at_ : Int)) := (cell_of_row _ _ _ _ _ _ H2).trans rfl
        have o1 : ((wr.alloc (.cells #[.int .i64 (x.at_ : Int), .slice A3 x.b.length c3] 69)).alloc (.cells #[.int .i64 (y.at_ : Int), .slice A4 y.b.length c4] 69)).cell? ⟨wr.heap.size + 1, 1, none⟩ = some (.slice A4 y.b.length c4) := (cell_of_row _ _ _ _ _ _ H2).trans rfl
        replace hb3 := Aside0.mk hb3
        clear hx hy hC3 hC4 H1 H2 hb2 hk1 hk2
        by_cases hxy : encW x = encW y
        · have hd : decide (encW x = encW y) = true := by simpa using hxy
          rw [hd] at hcall
          replace hxy := Aside0.mk hxy
          clear hd
          go_wp2_with fail
          refine hcall.out.mono ?_
          rintro e w3 ⟨rfl, hb4⟩
          have hb4 := Aside0.mk (below_then hb3.out hb3.out.size hb4)
          have ht2 := Aside0.mk (hnx.out.2 hxy.out)
          go_wp2_with fail
          go_roundw
          case rel => exact ⟨k + 1, by omega, by go_num, hb4, ht2⟩
          case measure => simp [intOf]; omega
        · have hd : decide (encW x = encW y) = false := by simpa using hxy
          rw [hd] at hcall
          have hno : Aside0 (decide (encWs l1 = encWs l2) = false) := Aside0.mk (decide_eq_false (fun e => hxy (hnx.out.1 (by rw [e]))))
          clear hd
          replace hxy := Aside0.mk hxy
          go_wp2_with fail
          refine hcall.out.mono ?_
          rintro e w3 ⟨rfl, hb4⟩
          have hb4 := Aside0.mk (below_then hb3.out hb3.out.size hb4)
          go_wp2_with fail
          go_ret
          exact ⟨by rw [hno.out]; rfl, hb4.out⟩
      · have hkM : k = M := by omega
        subst hkM
        have hyes : Aside0 (decide (encWs l1 = encWs l2) = true) := Aside0.mk (decide_eq_true (by
          have h9 := ht.out
          rwa [List.take_of_length_le (by rw [encWs_length, hM.out]; exact Nat.le_refl _), List.take_of_length_le (by rw [encWs_length, hM2.out]; exact Nat.le_refl _)] at h9))
        go_wp2_with fail
        go_ret
        exact ⟨by rw [hyes.out]; rfl, hb.out⟩
  · have hno : Aside0 (decide (encWs l1 = encWs l2) = false) := Aside0.mk (decide_eq_false (fun e => hne (by rw [← hM.out, ← hM2.out, ← encWs_length l1, e, encWs_length])))
    have hb : ((M : Int) == (M2 : Int)) = false := by rw [beq_eq_false_iff_ne]; omega
    have hb2 : ((M : Int) != (M2 : Int)) = true := by rw [bne_iff_ne]; omega
    go_enter Try.func45, Try.ntmps45
    go_wp2_with fail
    go_ret
    exact ⟨by rw [hno.out]; rfl, Below.refl _ _⟩
end Go.Proofs.Ytolighikimpbfaa
