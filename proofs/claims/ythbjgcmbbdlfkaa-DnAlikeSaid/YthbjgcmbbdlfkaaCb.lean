/- dn.within, dn.name. -/
import Derived.Test.YthbjgcmbbdlfkaaCa
set_option linter.unusedVariables false
set_option linter.unusedSimpArgs false
namespace Go.Proofs.Ythbjgcmbbdlfkaa
open Go.RowKit Go.Proofs.YthbjgcmbbdlfkaaW.PrintWords Go.Proofs.YthbjgcmbbdlfkaaW.PrintMore Go.Proofs.YthbjgcmbbdlfkaaW.PrintLast

theorem within_calls (x a b : Int) (w : World) : Calls Try.prog 49 #[.int .u8 x, .int .u8 a, .int .u8 b] w fun e w' => e = .returned (.bool (decide (a ≤ x) && decide (x ≤ b))) ∧ w = w' := by
  cases h1 : decide (a ≤ x) <;> cases h2 : decide (x ≤ b)
  all_goals
    go_enter Try.func49, Try.ntmps49
    go_wp2_with fail
    go_ret
    exact ⟨rfl, rfl⟩
def letterB (x : Int) : Bool := (decide (97 ≤ x) && decide (x ≤ 122)) || (decide (65 ≤ x) && decide (x ≤ 90))
/-- May a byte stand at a place of a name? -/
def nameB (i : Nat) (x : Int) : Bool := letterB x || (decide (1 ≤ i) && ((decide (48 ≤ x) && decide (x ≤ 57)) || (x == 45)))
def nameOk (s : ByteArray) : Bool := ((List.range s.size).all fun i => nameB i ((bytesOf s).getD i 0)) && (decide (1 ≤ (s.size : Int)) && decide ((s.size : Int) ≤ 64))
set_option maxHeartbeats 2000000 in
theorem name_calls (s : ByteArray) (w : World) (hs : s.size ≤ 12000) :
    Calls Try.prog 31 #[.string s] w fun e w' => e = .returned (.bool (nameOk s)) ∧ Below w.heap.size w w' := by
  have kb := fun W => print_bytes (P := Try.prog) 9 38 5 Try.underlying9 Try.underlying38 Try.underlying5 s W
  have hN := bytes_new w s
  have hb := bytes_below (Below.refl w.heap.size w) (Nat.le_refl _) 5 s
  unfold nameOk
  obtain ⟨M, hM⟩ : ∃ M, s.size = M := ⟨_, rfl⟩
  obtain ⟨f, hf⟩ : ∃ f : Nat → Int, (fun j => (bytesOf s).getD j 0) = f := ⟨_, rfl⟩
  have hf' : ∀ j, (bytesOf s).getD j 0 = f j := fun j => congrFun hf j
  rw [hf, hM] at hN
  rw [hM] at hs ⊢
  simp only [hM] at kb
  simp only [hf'] at ⊢
  replace hN := Aside0.mk hN
  replace hb := Aside0.mk hb
  replace hM := Aside0.mk hM
  clear hf hf'
  go_enter Try.func31, Try.ntmps31
  go_wp2_with fail
  clear kb
  obtain ⟨W, hw1⟩ : ∃ w1, Lib.bytesWorld w 5 s = w1 := ⟨_, rfl⟩
  rw [hw1] at hN hb ⊢
  clear hw1
  obtain ⟨cap, hcap⟩ : ∃ c, grownCap w M 0 5 = c := ⟨_, rfl⟩
  rw [hcap]
  clear hcap
  go_loop [8] (fun s8 => ∃ k : Nat, k ≤ M ∧ s8 = .int .i64 k ∧ Aside0 (((List.range k).all fun i => nameB i (f i)) = true)) (fun s8 => M - (intOf s8).toNat)
  case atStart => exact ⟨0, Nat.zero_le _, rfl, ⟨by simp⟩⟩
  case round =>
    obtain ⟨k, hk, rfl, hall⟩ := hrel
    by_cases hlt : k < M
    · obtain ⟨p0, p1⟩ := hN.out k hlt
      have i1 : (0 : Int) ≤ (k : Int) := by omega
      have i2 : (k : Int) < (M : Int) := by omega
      have hgo := Aside0.mk (fun (h : nameB k (f k) = true) => show ((List.range (k + 1)).all fun i => nameB i (f i)) = true by
        rw [List.range_succ, List.all_append, hall.out]; simp [h])
      have hstop := Aside0.mk (fun (h : nameB k (f k) = false) => show (((List.range M).all fun i => nameB i (f i)) && (decide (1 ≤ (M : Int)) && decide ((M : Int) ≤ 64))) = false by
        have : ((List.range M).all fun i => nameB i (f i)) = false := List.all_eq_false.2 ⟨k, List.mem_range.2 hlt, by simp [h]⟩
        rw [this]; rfl)
      obtain ⟨x, hxx⟩ : ∃ x, f k = x := ⟨_, rfl⟩
      rw [hxx] at p0 hgo hstop
      clear hxx
      obtain ⟨a, eA⟩ : ∃ a, (decide (97 ≤ x) && decide (x ≤ 122)) = a := ⟨_, rfl⟩
      obtain ⟨b, eB⟩ : ∃ b, (decide (65 ≤ x) && decide (x ≤ 90)) = b := ⟨_, rfl⟩
      obtain ⟨d, eD⟩ : ∃ d, (decide (48 ≤ x) && decide (x ≤ 57)) = d := ⟨_, rfl⟩
      replace eA := Aside0.mk eA
      replace eB := Aside0.mk eB
      replace eD := Aside0.mk eD
      cases a with
      | true =>
        have hnx := Aside0.mk (hgo.out (by unfold nameB letterB; rw [eA.out]; rfl))
        clear hgo hstop
        go_wp2_with fail
        refine (within_calls x 97 122 W).mono ?_
        rw [eA.out]
        rintro e w2 ⟨rfl, rfl⟩
        go_wp2_with fail
        go_roundw
        case rel => exact ⟨k + 1, by omega, by go_num, hnx⟩
        case measure => simp [intOf]; omega
      | false =>
        cases b with
        | true =>
          have hnx := Aside0.mk (hgo.out (by unfold nameB letterB; rw [eA.out, eB.out]; rfl))
          clear hgo hstop
          go_wp2_with fail
          refine (within_calls x 97 122 W).mono ?_
          rw [eA.out]
          rintro e w2 ⟨rfl, rfl⟩
          go_wp2_with fail
          refine (within_calls x 65 90 W).mono ?_
          rw [eB.out]
          rintro e w2 ⟨rfl, rfl⟩
          go_wp2_with fail
          go_roundw
          case rel => exact ⟨k + 1, by omega, by go_num, hnx⟩
          case measure => simp [intOf]; omega
        | false =>
          by_cases hz : k = 0
          · subst hz
            have hno := Aside0.mk (hstop.out (by unfold nameB letterB; rw [eA.out, eB.out]; rfl))
            clear hgo hstop
            go_wp2_with fail
            refine (within_calls x 97 122 W).mono ?_
            rw [eA.out]
            rintro e w2 ⟨rfl, rfl⟩
            go_wp2_with fail
            refine (within_calls x 65 90 W).mono ?_
            rw [eB.out]
            rintro e w2 ⟨rfl, rfl⟩
            go_wp2_with fail
            go_ret
            exact ⟨by rw [hno.out]; rfl, hb.out⟩
          · have z1 : ((k : Int) == 0) = false := by simpa using hz
            have z2 : (k == 0) = false := by simpa using hz
            cases d with
            | true =>
              have hnx := Aside0.mk (hgo.out (by unfold nameB letterB; rw [eA.out, eB.out, eD.out, decide_eq_true (show 1 ≤ k by omega)]; rfl))
              clear hgo hstop
              go_wp2_with fail
              refine (within_calls x 97 122 W).mono ?_
              rw [eA.out]
              rintro e w2 ⟨rfl, rfl⟩
              go_wp2_with fail
              refine (within_calls x 65 90 W).mono ?_
              rw [eB.out]
              rintro e w2 ⟨rfl, rfl⟩
              go_wp2_with fail
              refine (within_calls x 48 57 W).mono ?_
              rw [eD.out]
              rintro e w2 ⟨rfl, rfl⟩
              go_wp2_with fail
              go_roundw
              case rel => exact ⟨k + 1, by omega, by go_num, hnx⟩
              case measure => simp [intOf]; omega
            | false =>
              by_cases h45 : x = 45
              · have y1 : (x != 45) = false := by simpa using h45
                have y2 : (x == 45) = true := by simpa using h45
                have hnx := Aside0.mk (hgo.out (by unfold nameB letterB; rw [eA.out, eB.out, eD.out, y2, decide_eq_true (show 1 ≤ k by omega)]; rfl))
                clear hgo hstop h45
                go_wp2_with fail
                refine (within_calls x 97 122 W).mono ?_
                rw [eA.out]
                rintro e w2 ⟨rfl, rfl⟩
                go_wp2_with fail
                refine (within_calls x 65 90 W).mono ?_
                rw [eB.out]
                rintro e w2 ⟨rfl, rfl⟩
                go_wp2_with fail
                refine (within_calls x 48 57 W).mono ?_
                rw [eD.out]
                rintro e w2 ⟨rfl, rfl⟩
                go_wp2_with fail
                go_roundw
                case rel => exact ⟨k + 1, by omega, by go_num, hnx⟩
                case measure => simp [intOf]; omega
              · have y1 : (x != 45) = true := by simpa using h45
                have y2 : (x == 45) = false := by simpa using h45
                have hno := Aside0.mk (hstop.out (by unfold nameB letterB; rw [eA.out, eB.out, eD.out, y2]; simp))
                clear hgo hstop h45
                go_wp2_with fail
                refine (within_calls x 97 122 W).mono ?_
                rw [eA.out]
                rintro e w2 ⟨rfl, rfl⟩
                go_wp2_with fail
                refine (within_calls x 65 90 W).mono ?_
                rw [eB.out]
                rintro e w2 ⟨rfl, rfl⟩
                go_wp2_with fail
                refine (within_calls x 48 57 W).mono ?_
                rw [eD.out]
                rintro e w2 ⟨rfl, rfl⟩
                go_wp2_with fail
                go_ret
                exact ⟨by rw [hno.out]; rfl, hb.out⟩
    · obtain rfl : k = M := by omega
      have hr := Aside0.mk (show (((List.range k).all fun i => nameB i (f i)) && (decide (1 ≤ (k : Int)) && decide ((k : Int) ≤ 64))) = (decide (1 ≤ (k : Int)) && decide ((k : Int) ≤ 64)) by rw [hall.out]; rfl)
      cases h1 : decide (1 ≤ (k : Int)) <;> cases h2 : decide ((k : Int) ≤ 64)
      all_goals
        have h1n : decide (1 ≤ k) = decide (1 ≤ (k : Int)) := by congr 1; exact propext ⟨fun h => by omega, fun h => by omega⟩
        have h2n : decide (k ≤ 64) = decide ((k : Int) ≤ 64) := by congr 1; exact propext ⟨fun h => by omega, fun h => by omega⟩
        rw [h1] at h1n
        rw [h2] at h2n
        have h3 := hM.out
        have h4 : decide (1 ≤ (s.size : Int)) = decide (1 ≤ (k : Int)) := by rw [h3]
        have h5 : decide ((s.size : Int) ≤ 64) = decide ((k : Int) ≤ 64) := by rw [h3]
        rw [h1] at h4
        rw [h2] at h5
        rw [h1, h2] at hr
        clear h3
        go_wp2_with fail
        go_ret
        first
        | exact ⟨rfl, hb.out⟩
        | exact ⟨by rw [hr.out]; rfl, hb.out⟩
        | exact ⟨by rw [hall.out]; rfl, hb.out⟩
end Go.Proofs.Ythbjgcmbbdlfkaa
