/- Bytes and writes held against each other: bytes.Equal, Same's function, EqualFunc; all. -/
import Derived.Test.YtolighikimpbfaaSh
import Derived.Lib.Strings
set_option linter.unusedVariables false
set_option linter.unusedSimpArgs false
namespace Go.Proofs.Ytolighikimpbfaa
open Go.RowKit Go.Shelf Go.Proofs.YtolighikimpbfaaW.PrintWords Go.Proofs.YtolighikimpbfaaW.PrintMore Go.Proofs.YtolighikimpbfaaW.PrintLast

theorem str_toI (l : List UInt8) : strOfNums (toI l) = ⟨l.toArray⟩ := by
  unfold strOfNums toI
  congr 1
  rw [List.map_map]
  congr 1
  conv => rhs; rw [← List.map_id l]
  apply List.map_congr_left
  intro b _
  simp
theorem str_inj {l1 l2 : List UInt8} (h : strOfNums (toI l1) = strOfNums (toI l2)) : l1 = l2 := by
  rw [str_toI, str_toI] at h
  injection h with h
  simpa using congrArg Array.toList h
theorem str_ne {l1 l2 : List UInt8} (h : l1 ≠ l2) : ((strOfNums (toI l1)).toList == (strOfNums (toI l2)).toList) = false := by
  rw [beq_eq_false_iff_ne, str_toI, str_toI, ByteArray.toList_eq, ByteArray.toList_eq]
  exact fun e => h (by simpa using e)
set_option maxHeartbeats 1000000 in
theorem beq_calls (A1 A2 : Option Addr) (c1 c2 : Nat) (l1 l2 : List UInt8) (w : World) (h1 : u8.C w A1 l1.length (toI l1)) (h2 : u8.C w A2 l2.length (toI l2)) :
    Calls Try.prog 43 #[.slice A1 l1.length c1, .slice A2 l2.length c2] w fun e w' => e = .returned (.bool (decide (l1 = l2))) ∧ w = w' := by
  have s1 := Kd.C_string (P := Try.prog) (dst := 9) (c := c1) (n := l1.length) Try.underlying31 Try.underlying5 Try.underlying9 h1
  have s2 := Kd.C_string (P := Try.prog) (dst := 9) (c := c2) (n := l2.length) Try.underlying31 Try.underlying5 Try.underlying9 h2
  by_cases h : l1 = l2
  · have hd : decide (l1 = l2) = true := by simpa using h
    have e : strOfNums (toI l1) = strOfNums (toI l2) := by rw [h]
    rw [e] at s1
    rw [hd]
    clear h1 h2 h hd e
    generalize strOfNums (toI l2) = str at *
    generalize l1.length = n1 at *
    generalize l2.length = n2 at *
    go_enter Try.func43, Try.ntmps43
    go_wp2
    go_ret
    exact ⟨rfl, rfl⟩
  · have hd : decide (l1 = l2) = false := by simpa using h
    have e := str_ne h
    rw [hd]
    clear h1 h2 h hd
    generalize strOfNums (toI l2) = str at *
    generalize strOfNums (toI l1) = str1 at *
    generalize l1.length = n1 at *
    generalize l2.length = n2 at *
    go_enter Try.func43, Try.ntmps43
    go_wp2
    go_ret
    exact ⟨rfl, rfl⟩
/-- Two writes, by value. -/
abbrev wrV (x : Wr) (A : Option Addr) (c : Nat) : Value := .agg #[.int .i64 (x.at_ : Int), .slice A x.b.length c]
set_option maxHeartbeats 1000000 in
theorem wreq_calls (A1 A2 : Option Addr) (c1 c2 : Nat) (x y : Wr) (w : World) (h1 : u8.C w A1 x.b.length (toI x.b)) (h2 : u8.C w A2 y.b.length (toI y.b)) :
    Calls Try.prog 42 #[wrV x A1 c1, wrV y A2 c2] w fun e w' => e = .returned (.bool (decide (encW x = encW y))) ∧ Below w.heap.size w w' := by
  unfold wrV
  have hb := below_alloc (below_alloc (Below.refl w.heap.size w) (.cells #[.int .i64 (x.at_ : Int), .slice A1 x.b.length c1] 69)) (.cells #[.int .i64 (y.at_ : Int), .slice A2 y.b.length c2] 69)
  have hq := beq_calls A1 A2 c1 c2 x.b y.b _ (Kd.C_below h1 hb) (Kd.C_below h2 hb)
  have H1 := Mod.blk (S := fun _ => False) ((Mod.refl _ _).alloc (.cells #[.int .i64 (y.at_ : Int), .slice A2 y.b.length c2] 69)) (Go.heap_alloc_new w (.cells #[.int .i64 (x.at_ : Int), .slice A1 x.b.length c1] 69)) (fun h => h)
  have H2 := last_new w (.cells #[.int .i64 (x.at_ : Int), .slice A1 x.b.length c1] 69) (.cells #[.int .i64 (y.at_ : Int), .slice A2 y.b.length c2] 69)
  obtain ⟨w1, hw1⟩ : ∃ w1, (w.alloc (.cells #[.int .i64 (x.at_ : Int), .slice A1 x.b.length c1] 69)).alloc (.cells #[.int .i64 (y.at_ : Int), .slice A2 y.b.length c2] 69) = w1 := ⟨_, rfl⟩
  rw [hw1] at hb hq H1 H2
  have a0 : w1.cell? ⟨w.heap.size, 0, none⟩ = some (.int .i64 (x.at_ : Int)) := (cell_of_row _ _ _ _ _ _ H1).trans rfl
  have a1 : w1.cell? ⟨w.heap.size, 1, none⟩ = some (.slice A1 x.b.length c1) := (cell_of_row _ _ _ _ _ _ H1).trans rfl
  have b0 : w1.cell? ⟨w.heap.size + 1, 0, none⟩ = some (.int .i64 (y.at_ : Int)) := (cell_of_row _ _ _ _ _ _ H2).trans rfl
  have b1 : w1.cell? ⟨w.heap.size + 1, 1, none⟩ = some (.slice A2 y.b.length c2) := (cell_of_row _ _ _ _ _ _ H2).trans rfl
  have he : (x.at_ = y.at_ ∧ decide (encW x = encW y) = decide (x.b = y.b)) ∨ (x.at_ ≠ y.at_ ∧ decide (encW x = encW y) = false) := by
    by_cases h : x.at_ = y.at_
    · refine .inl ⟨h, ?_⟩
      apply decide_eq_decide.2
      unfold encW
      rw [h]
      constructor
      · intro e
        injection e with _ e
        exact str_inj (congrArg strOfNums e)
      · intro e; rw [e]
    · refine .inr ⟨h, decide_eq_false (fun e => h ?_)⟩
      unfold encW at e
      injection e with e _
      omega
  replace hb := Aside0.mk hb
  replace hq := Aside0.mk hq
  clear h1 h2 H1 H2
  generalize x.b.length = n1 at *
  generalize y.b.length = n2 at *
  rcases he with ⟨he, hd⟩ | ⟨he, hd⟩
  · rw [hd]
    have hz : (((x.at_ : Int)) == ((y.at_ : Int))) = true := by rw [beq_iff_eq]; omega
    clear he hd
    go_enter Try.func42, Try.ntmps42
    go_wp2_with (go_at_call 43; refine hq.out.mono ?_; rintro e w' ⟨rfl, rfl⟩)
    go_ret
    exact ⟨rfl, hb.out⟩
  · rw [hd]
    have hz : (((x.at_ : Int)) == ((y.at_ : Int))) = false := by rw [beq_eq_false_iff_ne]; omega
    clear he hd
    go_enter Try.func42, Try.ntmps42
    go_wp2_with (go_at_call 43; refine hq.out.mono ?_; rintro e w' ⟨rfl, rfl⟩)
    go_ret
    exact ⟨rfl, hb.out⟩
end Go.Proofs.Ytolighikimpbfaa
