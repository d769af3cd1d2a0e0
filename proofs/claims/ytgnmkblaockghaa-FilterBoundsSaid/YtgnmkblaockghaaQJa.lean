/- dn.Small: a text in small letters. -/
import Derived.Test.YtgnmkblaockghaaProg
import Derived.Test.YtgnmkblaockghaaQW
import Derived.WalkLawsBesides
import Derived.Test.YtgnmkblaockghaaQBt
set_option linter.unusedVariables false
set_option linter.unusedSimpArgs false
namespace Go.Proofs.Ytgnmkblaockghaa
open Go.RowKit Go.Proofs.YtgnmkblaockghaaW.PrintWords Go.Proofs.YtgnmkblaockghaaW.PrintMore Go.Proofs.YtgnmkblaockghaaW.PrintLast

/-- A byte made small. -/
def smallB (x : Int) : Int := if 65 ≤ x ∧ x ≤ 90 then x + 32 else x
/-- A text made small. -/
def small (s : ByteArray) : ByteArray := strOfNums ((bytesOf s).map smallB)
/-- Bytes in a block, that may be turned. -/
def Bytes (W : World) (B M : Nat) (f : Nat → Int) : Prop := ∀ j, j < M → W.cell? ⟨B, j, none⟩ = some (.int .u8 (f j)) ∧ W.frozen? ⟨B, j, none⟩ = false
theorem Bytes.set {W : World} {B M : Nat} {f : Nat → Int} (h : Bytes W B M f) (k : Nat) (hk : k < M) (x : Int) : Bytes (W.setCell ⟨B, k, none⟩ (.int .u8 x)) B M (fun j => if j = k then x else f j) := by
  intro j hj
  refine ⟨?_, by rw [World.frozen?_setCell]; exact (h j hj).2⟩
  by_cases c : j = k
  · subst c
    show _ = some (Value.int .u8 (if j = j then x else f j))
    rw [if_pos rfl]
    exact World.cell?_setCell_same' W _ _ (by rw [(h j hj).1]; rfl)
  · show _ = some (Value.int .u8 (if j = k then x else f j))
    rw [if_neg c, World.cell?_setCell_other _ _ _ _ (fun e => c (by simpa using e.symm))]
    exact (h j hj).1
theorem Bytes.reads {W : World} {B M : Nat} {f : Nat → Int} (h : Bytes W B M f) (hM : M ≤ 9223372036854775807) : ReadsInt W .u8 (some ⟨B, 0, none⟩) M ((List.range M).map f) := by
  refine ⟨by simp, hM, fun _ => ⟨_, rfl, fun j hj => ?_⟩⟩
  rw [add_plain, (h j hj).1]
  simp [List.getD_eq_getElem?_getD, hj]
theorem bytes_new (w : World) (s : ByteArray) : Bytes (Lib.bytesWorld w 5 s) w.heap.size s.size (fun j => (bytesOf s).getD j 0) := by
  intro j hj
  constructor
  · rw [Lib.bytesWorld_cell w 5 s j hj]
    have h' : j < s.data.toList.length := by rw [data_length]; exact hj
    simp [bytesOf, List.getD_eq_getElem?_getD, List.getElem?_eq_getElem h']
  · have := Lib.bytesWorld_at_new w 5 s
    simp [World.frozen?, this]
    intro h
    have : s.size ≤ (Lib.bytesCells w 5 s).size := by simp [Lib.bytesCells]
    omega
theorem bytesOf_bound {s : ByteArray} {x : Int} (h : x ∈ bytesOf s) : 0 ≤ x ∧ x < 256 := by
  unfold bytesOf at h
  obtain ⟨b, _, rfl⟩ := List.mem_map.1 h
  have := b.toNat_lt
  omega
set_option maxHeartbeats 1000000 in
theorem small_calls (s : ByteArray) (w : World) (hs : s.size ≤ 12000) :
    Calls Try.prog 32 #[.string s] w fun e w' => e = .returned (.string (small s)) ∧ Below w.heap.size w w' := by
  have kb := fun W => print_bytes (P := Try.prog) 9 52 5 Try.underlying9 Try.underlying52 Try.underlying5 s W
  have hN := bytes_new w s
  have hb := bytes_below (Below.refl w.heap.size w) (Nat.le_refl _) 5 s
  have hl := bytesOf_length s
  have hx : ∀ j, j < s.size → 0 ≤ (bytesOf s).getD j 0 ∧ (bytesOf s).getD j 0 < 256 := by
    intro j hj
    have h' : j < (bytesOf s).length := by rw [hl]; exact hj
    simp only [List.getD_eq_getElem?_getD, List.getElem?_eq_getElem h', Option.getD_some]
    exact bytesOf_bound (List.getElem_mem h')
  have he : small s = strOfNums ((List.range s.size).map fun j => smallB ((bytesOf s).getD j 0)) := by
    unfold small
    congr 1
    refine List.ext_getElem (by simp [hl]) fun j h1 h2 => ?_
    simp at h1
    simp [List.getD_eq_getElem?_getD, h1]
  rw [he]
  obtain ⟨M, hM⟩ : ∃ M, s.size = M := ⟨_, rfl⟩
  obtain ⟨f, hf⟩ : ∃ f : Nat → Int, (fun j => (bytesOf s).getD j 0) = f := ⟨_, rfl⟩
  have hf' : ∀ j, (bytesOf s).getD j 0 = f j := fun j => congrFun hf j
  rw [hf, hM] at hN
  rw [hM] at hs hx ⊢
  simp only [hM] at kb
  simp only [hf'] at hx ⊢
  replace hN := Aside0.mk hN
  replace hb := Aside0.mk hb
  replace hx := Aside0.mk hx
  clear hf hf' hl hM he
  go_enter Try.func32, Try.ntmps32
  go_wp2_with fail
  clear kb
  obtain ⟨w1, hw1⟩ : ∃ w1, Lib.bytesWorld w 5 s = w1 := ⟨_, rfl⟩
  rw [hw1] at hN hb ⊢
  clear hw1
  obtain ⟨cap, hcap⟩ : ∃ c, grownCap w M 0 5 = c := ⟨_, rfl⟩
  rw [hcap]
  clear hcap
  obtain ⟨B, hB⟩ : ∃ B, w.heap.size = B := ⟨_, rfl⟩
  rw [hB] at hN ⊢
  replace hB := Aside0.mk hB
  go_loopw [10] (fun s10 wr => ∃ k : Nat, k ≤ M ∧ s10 = .int .i64 k ∧ Aside0 (Bytes wr B M (fun j => if j < k then smallB (f j) else f j)) ∧ Aside0 (Below w.heap.size w wr)) (fun s10 _ => M - (intOf s10).toNat)
  case atStart => exact ⟨0, Nat.zero_le _, rfl, ⟨by simpa using hN.out⟩, hb⟩
  case round =>
    clear hN hb
    obtain ⟨k, hk, rfl, hN, hb⟩ := hrel
    by_cases hlt : k < M
    · obtain ⟨p0, p1⟩ := hN.out k hlt
      replace p0 : wr.cell? ⟨B, k, none⟩ = some (.int .u8 (if k < k then smallB (f k) else f k)) := p0
      rw [if_neg (Nat.lt_irrefl k)] at p0
      have hxk := hx.out k hlt
      have i1 : (0 : Int) ≤ (k : Int) := by omega
      have i2 : (k : Int) < (M : Int) := by omega
      obtain ⟨x, hxx⟩ : ∃ x, f k = x := ⟨_, rfl⟩
      rw [hxx] at p0 hxk
      obtain ⟨x1, x2⟩ := hxk
      by_cases c1 : 65 ≤ x
      · have d1 : decide (65 ≤ x) = true := decide_eq_true c1
        by_cases c2 : x ≤ 90
        · have d2 : decide (x ≤ 90) = true := decide_eq_true c2
          have e1 : IntKind.u8.wrap (IntKind.u8.wrap (x + 97) - 65) = x + 32 := by rw [IntKind.wrap_u8, IntKind.wrap_u8]; omega
          have hnx : Aside0 (Bytes (wr.setCell ⟨B, k, none⟩ (.int .u8 (x + 32))) B M (fun j => if j < k + 1 then smallB (f j) else f j)) := ⟨by
            have h9 := hN.out.set k hlt (x + 32)
            have e : (fun j => if j = k then x + 32 else if j < k then smallB (f j) else f j) = (fun j => if j < k + 1 then smallB (f j) else f j) := by
              funext j
              by_cases h1 : j = k
              · subst h1; rw [if_pos rfl, if_pos (by omega), hxx]; unfold smallB; rw [if_pos ⟨c1, c2⟩]
              · rw [if_neg h1]
                by_cases h2 : j < k
                · rw [if_pos h2, if_pos (by omega)]
                · rw [if_neg h2, if_neg (by omega)]
            rw [e] at h9; exact h9⟩
          have hbn := Aside0.mk (hb.out.setCell (p := ⟨B, k, none⟩) (by rw [← hB.out]; exact Nat.le_refl _) (.int .u8 (x + 32)))
          have hc12 := Aside0.mk (And.intro c1 c2)
          clear hN c1 c2
          go_wp2_with fail
          go_roundw
          case rel =>
            obtain ⟨c1, c2⟩ := hc12.out
            have e9 : (x + 97 - 65) % 256 = x + 32 := by omega
            rw [e9]
            exact ⟨k + 1, by omega, by go_num, hnx, hbn⟩
          case measure => simp [intOf]; omega
        · have d2 : decide (x ≤ 90) = false := decide_eq_false c2
          have hnx : Aside0 (Bytes wr B M (fun j => if j < k + 1 then smallB (f j) else f j)) := ⟨by
            have e : (fun j => if j < k then smallB (f j) else f j) = (fun j => if j < k + 1 then smallB (f j) else f j) := by
              funext j
              by_cases h1 : j = k
              · subst h1; rw [if_neg (by omega), if_pos (by omega), hxx]; unfold smallB; rw [if_neg (by omega)]
              · by_cases h2 : j < k
                · rw [if_pos h2, if_pos (by omega)]
                · rw [if_neg h2, if_neg (by omega)]
            rw [← e]; exact hN.out⟩
          clear hN c1 c2
          go_wp2_with fail
          go_roundw
          case rel => exact ⟨k + 1, by omega, by go_num, hnx, hb⟩
          case measure => simp [intOf]; omega
      · have d1 : decide (65 ≤ x) = false := decide_eq_false c1
        have hnx : Aside0 (Bytes wr B M (fun j => if j < k + 1 then smallB (f j) else f j)) := ⟨by
          have e : (fun j => if j < k then smallB (f j) else f j) = (fun j => if j < k + 1 then smallB (f j) else f j) := by
            funext j
            by_cases h1 : j = k
            · subst h1; rw [if_neg (by omega), if_pos (by omega), hxx]; unfold smallB; rw [if_neg (by omega)]
            · by_cases h2 : j < k
              · rw [if_pos h2, if_pos (by omega)]
              · rw [if_neg h2, if_neg (by omega)]
          rw [← e]; exact hN.out⟩
        clear hN c1
        go_wp2_with fail
        go_roundw
        case rel => exact ⟨k + 1, by omega, by go_num, hnx, hb⟩
        case measure => simp [intOf]; omega
    · obtain rfl : k = M := by omega
      have hr := hN.out.reads (by omega)
      have e : (List.range k).map (fun j => if j < k then smallB (f j) else f j) = (List.range k).map (fun j => smallB (f j)) :=
        List.map_congr_left fun j hj => if_pos (List.mem_range.1 hj)
      rw [e] at hr
      have hst := string_of_reads (P := Try.prog) (src := 52) (dst := 9) (c := cap) Try.underlying52 Try.underlying5 Try.underlying9 hr
      clear hr e hN
      go_wp2_with fail
      go_ret
      exact ⟨rfl, hb.out⟩
end Go.Proofs.Ytgnmkblaockghaa

/- dn.within, dn.name. -/
set_option linter.unusedVariables false
set_option linter.unusedSimpArgs false
namespace Go.Proofs.Ytgnmkblaockghaa
open Go.RowKit Go.Proofs.YtgnmkblaockghaaW.PrintWords Go.Proofs.YtgnmkblaockghaaW.PrintMore Go.Proofs.YtgnmkblaockghaaW.PrintLast

theorem within_calls (x a b : Int) (w : World) : Calls Try.prog 108 #[.int .u8 x, .int .u8 a, .int .u8 b] w fun e w' => e = .returned (.bool (decide (a ≤ x) && decide (x ≤ b))) ∧ w = w' := by
  cases h1 : decide (a ≤ x) <;> cases h2 : decide (x ≤ b)
  all_goals
    go_enter Try.func108, Try.ntmps108
    go_wp2_with fail
    go_ret
    exact ⟨rfl, rfl⟩
def letterB (x : Int) : Bool := (decide (97 ≤ x) && decide (x ≤ 122)) || (decide (65 ≤ x) && decide (x ≤ 90))
/-- May a byte stand at a place of a name? -/
def nameB (i : Nat) (x : Int) : Bool := letterB x || (decide (1 ≤ i) && ((decide (48 ≤ x) && decide (x ≤ 57)) || (x == 45)))
def nameOk (s : ByteArray) : Bool := ((List.range s.size).all fun i => nameB i ((bytesOf s).getD i 0)) && (decide (1 ≤ (s.size : Int)) && decide ((s.size : Int) ≤ 64))
set_option maxHeartbeats 2000000 in
theorem name_calls (s : ByteArray) (w : World) (hs : s.size ≤ 12000) :
    Calls Try.prog 96 #[.string s] w fun e w' => e = .returned (.bool (nameOk s)) ∧ Below w.heap.size w w' := by
  have kb := fun W => print_bytes (P := Try.prog) 9 52 5 Try.underlying9 Try.underlying52 Try.underlying5 s W
  have hN := bytes_new w s
  have hb := bytes_below (Below.refl w.heap.size w) (Nat.le_refl _) 5 s
  unfold nameOk
  obtain ⟨M, hM⟩ : ∃ M, s.size = M := ⟨_, rfl⟩
  obtain ⟨f, hf⟩ : ∃ f : Nat → Int, (fun j => (bytesOf s).getD j 0) = f := ⟨_, rfl⟩
  have hf' : ∀ j, (bytesOf s).getD j 0 = f j := fun j => congrFun hf j
  rw [hf, hM] at hN
  rw [hM] at hs ⊢
  simp only [hM] at kb
  simp only [hf'] at ⊢
  replace hN := Aside0.mk hN
  replace hb := Aside0.mk hb
  replace hM := Aside0.mk hM
  clear hf hf'
  go_enter Try.func96, Try.ntmps96
  go_wp2_with fail
  clear kb
  obtain ⟨W, hw1⟩ : ∃ w1, Lib.bytesWorld w 5 s = w1 := ⟨_, rfl⟩
  rw [hw1] at hN hb ⊢
  clear hw1
  obtain ⟨cap, hcap⟩ : ∃ c, grownCap w M 0 5 = c := ⟨_, rfl⟩
  rw [hcap]
  clear hcap
  go_loop [8] (fun s8 => ∃ k : Nat, k ≤ M ∧ s8 = .int .i64 k ∧ Aside0 (((List.range k).all fun i => nameB i (f i)) = true)) (fun s8 => M - (intOf s8).toNat)
  case atStart => exact ⟨0, Nat.zero_le _, rfl, ⟨by simp⟩⟩
  case round =>
    obtain ⟨k, hk, rfl, hall⟩ := hrel
    by_cases hlt : k < M
    · obtain ⟨p0, p1⟩ := hN.out k hlt
      have i1 : (0 : Int) ≤ (k : Int) := by omega
      have i2 : (k : Int) < (M : Int) := by omega
      have hgo := Aside0.mk (fun (h : nameB k (f k) = true) => show ((List.range (k + 1)).all fun i => nameB i (f i)) = true by
        rw [List.range_succ, List.all_append, hall.out]; simp [h])
      have hstop := Aside0.mk (fun (h : nameB k (f k) = false) => show (((List.range M).all fun i => nameB i (f i)) && (decide (1 ≤ (M : Int)) && decide ((M : Int) ≤ 64))) = false by
        have : ((List.range M).all fun i => nameB i (f i)) = false := List.all_eq_false.2 ⟨k, List.mem_range.2 hlt, by simp [h]⟩
        rw [this]; rfl)
      obtain ⟨x, hxx⟩ : ∃ x, f k = x := ⟨_, rfl⟩
      rw [hxx] at p0 hgo hstop
      clear hxx
      obtain ⟨a, eA⟩ : ∃ a, (decide (97 ≤ x) && decide (x ≤ 122)) = a := ⟨_, rfl⟩
      obtain ⟨b, eB⟩ : ∃ b, (decide (65 ≤ x) && decide (x ≤ 90)) = b := ⟨_, rfl⟩
      obtain ⟨d, eD⟩ : ∃ d, (decide (48 ≤ x) && decide (x ≤ 57)) = d := ⟨_, rfl⟩
      replace eA := Aside0.mk eA
      replace eB := Aside0.mk eB
      replace eD := Aside0.mk eD
      cases a with
      | true =>
        have hnx := Aside0.mk (hgo.out (by unfold nameB letterB; rw [eA.out]; rfl))
        clear hgo hstop
        go_wp2_with fail
        refine (within_calls x 97 122 W).mono ?_
        rw [eA.out]
        rintro e w2 ⟨rfl, rfl⟩
        go_wp2_with fail
        go_roundw
        case rel => exact ⟨k + 1, by omega, by go_num, hnx⟩
        case measure => simp [intOf]; omega
      | false =>
        cases b with
        | true =>
          have hnx := Aside0.mk (hgo.out (by unfold nameB letterB; rw [eA.out, eB.out]; rfl))
          clear hgo hstop
          go_wp2_with fail
          refine (within_calls x 97 122 W).mono ?_
          rw [eA.out]
          rintro e w2 ⟨rfl, rfl⟩
          go_wp2_with fail
          refine (within_calls x 65 90 W).mono ?_
          rw [eB.out]
          rintro e w2 ⟨rfl, rfl⟩
          go_wp2_with fail
          go_roundw
          case rel => exact ⟨k + 1, by omega, by go_num, hnx⟩
          case measure => simp [intOf]; omega
        | false =>
          by_cases hz : k = 0
          · subst hz
            have hno := Aside0.mk (hstop.out (by unfold nameB letterB; rw [eA.out, eB.out]; rfl))
            clear hgo hstop
            go_wp2_with fail
            refine (within_calls x 97 122 W).mono ?_
            rw [eA.out]
            rintro e w2 ⟨rfl, rfl⟩
            go_wp2_with fail
            refine (within_calls x 65 90 W).mono ?_
            rw [eB.out]
            rintro e w2 ⟨rfl, rfl⟩
            go_wp2_with fail
            go_ret
            exact ⟨by rw [hno.out]; rfl, hb.out⟩
          · have z1 : ((k : Int) == 0) = false := by simpa using hz
            have z2 : (k == 0) = false := by simpa using hz
            cases d with
            | true =>
              have hnx := Aside0.mk (hgo.out (by unfold nameB letterB; rw [eA.out, eB.out, eD.out, decide_eq_true (show 1 ≤ k by omega)]; rfl))
              clear hgo hstop
              go_wp2_with fail
              refine (within_calls x 97 122 W).mono ?_
              rw [eA.out]
              rintro e w2 ⟨rfl, rfl⟩
              go_wp2_with fail
              refine (within_calls x 65 90 W).mono ?_
              rw [eB.out]
              rintro e w2 ⟨rfl, rfl⟩
              go_wp2_with fail
              refine (within_calls x 48 57 W).mono ?_
              rw [eD.out]
              rintro e w2 ⟨rfl, rfl⟩
              go_wp2_with fail
              go_roundw
              case rel => exact ⟨k + 1, by omega, by go_num, hnx⟩
              case measure => simp [intOf]; omega
            | false =>
              by_cases h45 : x = 45
              · have y1 : (x != 45) = false := by simpa using h45
                have y2 : (x == 45) = true := by simpa using h45
                have hnx := Aside0.mk (hgo.out (by unfold nameB letterB; rw [eA.out, eB.out, eD.out, y2, decide_eq_true (show 1 ≤ k by omega)]; rfl))
                clear hgo hstop h45
                go_wp2_with fail
                refine (within_calls x 97 122 W).mono ?_
                rw [eA.out]
                rintro e w2 ⟨rfl, rfl⟩
                go_wp2_with fail
                refine (within_calls x 65 90 W).mono ?_
                rw [eB.out]
                rintro e w2 ⟨rfl, rfl⟩
                go_wp2_with fail
                refine (within_calls x 48 57 W).mono ?_
                rw [eD.out]
                rintro e w2 ⟨rfl, rfl⟩
                go_wp2_with fail
                go_roundw
                case rel => exact ⟨k + 1, by omega, by go_num, hnx⟩
                case measure => simp [intOf]; omega
              · have y1 : (x != 45) = true := by simpa using h45
                have y2 : (x == 45) = false := by simpa using h45
                have hno := Aside0.mk (hstop.out (by unfold nameB letterB; rw [eA.out, eB.out, eD.out, y2]; simp))
                clear hgo hstop h45
                go_wp2_with fail
                refine (within_calls x 97 122 W).mono ?_
                rw [eA.out]
                rintro e w2 ⟨rfl, rfl⟩
                go_wp2_with fail
                refine (within_calls x 65 90 W).mono ?_
                rw [eB.out]
                rintro e w2 ⟨rfl, rfl⟩
                go_wp2_with fail
                refine (within_calls x 48 57 W).mono ?_
                rw [eD.out]
                rintro e w2 ⟨rfl, rfl⟩
                go_wp2_with fail
                go_ret
                exact ⟨by rw [hno.out]; rfl, hb.out⟩
    · obtain rfl : k = M := by omega
      have hr := Aside0.mk (show (((List.range k).all fun i => nameB i (f i)) && (decide (1 ≤ (k : Int)) && decide ((k : Int) ≤ 64))) = (decide (1 ≤ (k : Int)) && decide ((k : Int) ≤ 64)) by rw [hall.out]; rfl)
      cases h1 : decide (1 ≤ (k : Int)) <;> cases h2 : decide ((k : Int) ≤ 64)
      all_goals
        have h1n : decide (1 ≤ k) = decide (1 ≤ (k : Int)) := by congr 1; exact propext ⟨fun h => by omega, fun h => by omega⟩
        have h2n : decide (k ≤ 64) = decide ((k : Int) ≤ 64) := by congr 1; exact propext ⟨fun h => by omega, fun h => by omega⟩
        rw [h1] at h1n
        rw [h2] at h2n
        have h3 := hM.out
        have h4 : decide (1 ≤ (s.size : Int)) = decide (1 ≤ (k : Int)) := by rw [h3]
        have h5 : decide ((s.size : Int) ≤ 64) = decide ((k : Int) ≤ 64) := by rw [h3]
        rw [h1] at h4
        rw [h2] at h5
        rw [h1, h2] at hr
        clear h3
        go_wp2_with fail
        go_ret
        first
        | exact ⟨rfl, hb.out⟩
        | exact ⟨by rw [hr.out]; rfl, hb.out⟩
        | exact ⟨by rw [hall.out]; rfl, hb.out⟩
end Go.Proofs.Ytgnmkblaockghaa
