/- What is known of sums; a sum that is there or not. -/
import Derived.Test.YtabejlldemhfaaaCw4
import Derived.Lib.SlBytesConst
set_option linter.unusedVariables false
set_option linter.unusedSimpArgs false
namespace Go.Proofs.Ytabejlldemhfaaa
open Go.RowKit Go.Shelf Go.Proofs.YtabejlldemhfaaaW.PrintWords

def nine : List UInt8 := [49, 50, 51, 52, 53, 54, 55, 56, 57]
theorem sum_nine : sumN nine = 3421780262 := by decide +kernel
theorem sum_none : sumN [] = 0 := by decide +kernel
theorem step_one : stepN 0 1 = 1996959894 := by decide +kernel

/-- The block of nine digits. -/
def nineB : Obj := .cells #[.int .u8 49, .int .u8 50, .int .u8 51, .int .u8 52, .int .u8 53, .int .u8 54, .int .u8 55, .int .u8 56, .int .u8 57] 5 (9, 10)
theorem sum_nine_calls (w : World) :
    Calls Try.prog 9 #[.slice (some ⟨w.heap.size + 1, 0, none⟩) 1 1] ((w.alloc nineB).alloc (.cells #[.slice (some ⟨w.heap.size, 0, none⟩) 9 9] 28)) fun e w' =>
      e = .returned (.int .u32 3421780262) ∧ Below (w.heap.size + 2) ((w.alloc nineB).alloc (.cells #[.slice (some ⟨w.heap.size, 0, none⟩) 9 9] 28)) w' := by
  have hP : Parts ((w.alloc nineB).alloc (.cells #[.slice (some ⟨w.heap.size, 0, none⟩) 9 9] 28)) (some ⟨w.heap.size + 1, 0, none⟩) [nine] := by
    refine parts_one (c0 := 9) nine ?_ (Nat.le_refl _) (bytes_of_block nine (heap_alloc2_old w _ _) (fun j h => ?_) (by decide))
    · rw [cell_of_row _ _ _ _ _ _ (heap_alloc2_new w _ _)]; rfl
    · have h' : j < 9 := h
      obtain rfl | rfl | rfl | rfl | rfl | rfl | rfl | rfl | rfl : j = 0 ∨ j = 1 ∨ j = 2 ∨ j = 3 ∨ j = 4 ∨ j = 5 ∨ j = 6 ∨ j = 7 ∨ j = 8 := by omega
      all_goals rfl
  refine (sum_calls (some ⟨w.heap.size + 1, 0, none⟩) 1 [nine] _ hP (by decide)).mono ?_
  rintro e w' ⟨rfl, hb⟩
  refine ⟨?_, hb.mono (by simp)⟩
  have : ([nine] : List (List UInt8)).flatten = nine := rfl
  rw [this, sum_nine]
  rfl

set_option maxHeartbeats 400000 in
theorem known_calls (w : World) :
    Calls Try.prog 8 #[] w fun e w' => e = .returned (.bool true) ∧ Below w.heap.size w w' := by
  have kc := fun (w : World) (C : Array Value) (n c : Nat) => Lib.run_convert_bytes_const (P := Try.prog) w 28 5 C n c Try.underlying28 Try.underlying5
  have h1 := Aside0.mk (sum_nine_calls w)
  have hw2 := (((Below.refl _ w).alloc (Nat.le_refl _) nineB).alloc (by simp) (.cells #[.slice (some ⟨w.heap.size, 0, none⟩) 9 9] 28))
  unfold nineB at h1 hw2
  have hw2 := Aside0.mk hw2
  go_enter Try.func8, Try.ntmps8
  go_wp2_with fail
  refine h1.out.mono ?_
  rintro e w1 ⟨rfl, hb1⟩
  have hb1 := Aside0.mk hb1
  go_wp2_with fail
  refine (sum_calls none 0 [] _ (parts_nil _) (by decide)).mono ?_
  rintro e w2 ⟨rfl, hb2⟩
  have hb2 := Aside0.mk hb2
  rw [show ((sumN ([] : List (List UInt8)).flatten : Nat) : Int) = 0 from by rw [List.flatten_nil, sum_none]; rfl]
  go_wp2_with fail
  refine (step_calls 0 1 _ (by decide)).mono ?_
  rintro e w3 ⟨rfl, hb3⟩
  have hb3 := Aside0.mk hb3
  rw [show ((stepN 0 (1 : UInt8).toNat : Nat) : Int) = 1996959894 from by rw [show (1 : UInt8).toNat = 1 from rfl, step_one]; rfl]
  go_wp2_with fail
  go_ret
  have hb12 := hw2.out.trans (hb1.out.mono (by omega))
  have hb13 := below_then hb12 hb12.size hb2.out
  exact ⟨rfl, below_then hb13 hb13.size hb3.out⟩

set_option maxHeartbeats 400000 in
theorem new_calls (w : World) :
    Calls Try.prog 18 #[] w fun e w' => e = .returned (.pointer (some ⟨w.heap.size, 0, none⟩)) ∧ w.alloc (.cells #[.int .u32 4294967295, .int .i64 0, .bool true] 37) = w' := by
  go_enter Try.func18, Try.ntmps18
  go_wp2
  go_ret
  exact ⟨rfl, rfl⟩
/-- A sum under way at block g: its word, how many bytes. -/
abbrev Adder (w : World) (g : Nat) (x m : Nat) : Prop := w.heap[g]? = some (.cells #[.int .u32 (x : Int), .int .i64 (m : Int), .bool true] 37 (0, 0))
set_option maxHeartbeats 400000 in
theorem none_calls (g : Nat) (b : Bool) (w : World) (h : w.cell? ⟨g, 2, none⟩ = some (.bool b)) :
    Calls Try.prog 20 #[.pointer (some ⟨g, 0, none⟩)] w fun e w' => e = .returned (.bool (!b)) ∧ w = w' := by
  go_enter Try.func20, Try.ntmps20
  go_wp2
  go_ret
  exact ⟨rfl, rfl⟩
set_option maxHeartbeats 400000 in
theorem none_nil (w : World) :
    Calls Try.prog 20 #[.pointer none] w fun e w' => e = .returned (.bool true) ∧ w = w' := by
  go_enter Try.func20, Try.ntmps20
  go_wp2
  go_ret
  exact ⟨rfl, rfl⟩
end Go.Proofs.Ytabejlldemhfaaa
