/- The methods of a sum under way: of one that is there, and of one that is not. -/
import Derived.Test.YtabejlldemhfaaaCw5
import Derived.ScopeJumps
set_option linter.unusedVariables false
set_option linter.unusedSimpArgs false
namespace Go.Proofs.Ytabejlldemhfaaa
open Go.RowKit Go.Shelf Go.Proofs.YtabejlldemhfaaaW.PrintWords

theorem jump_ret {l : Nat} {J : Act → World → Prop} {Q : Exit → Act → World → Prop} {a : Act} {w : World} : Exit.jump l J Q .ret a w = Q .ret a w := rfl

/-- What none answers of p. -/
def NoneIs (b : Bool) (p : Option Addr) (w : World) : Prop := Calls Try.prog 20 #[.pointer p] w fun e w' => e = .returned (.bool b) ∧ w = w'
theorem noneIs_nil (w : World) : NoneIs true none w := none_nil w
theorem noneIs_not (g : Nat) (w : World) (h : w.cell? ⟨g, 2, none⟩ = some (.bool false)) : NoneIs true (some ⟨g, 0, none⟩) w := none_calls g false w h
theorem noneIs_here (g : Nat) (w : World) (h : w.cell? ⟨g, 2, none⟩ = some (.bool true)) : NoneIs false (some ⟨g, 0, none⟩) w := none_calls g true w h

set_option maxHeartbeats 400000 in
theorem write_not (p : Option Addr) (A : Option Addr) (n c : Nat) (w : World) (hn : NoneIs true p w) :
    Calls Try.prog 14 #[.pointer p, .slice A n c] w fun e w' => e = .returned (.int .i64 1) ∧ w = w' := by
  have hn := Aside0.mk hn
  go_enter Try.func14, Try.ntmps14
  go_wp2
  refine wp_scope_jumps 0 (fun a' w' => a' = { tmps := #[.pointer p, .slice A n c, undef, undef, .int .i64 0, .pointer p, .bool true, undef, undef, undef, undef, undef, undef, undef, undef, undef, undef], defers := [] } ∧ w' = w) (fun _ _ => 0) rfl ?first ?pass
  case first =>
    go_wp2_with (go_at_call 20; refine hn.out.mono ?_; rintro e w' ⟨rfl, rfl⟩)
    go_step3
    exact ⟨rfl, rfl, rfl⟩
  case pass =>
    rintro a' w' ⟨rfl, rfl⟩
    go_wp2
    rw [jump_ret]
    go_ret
    exact ⟨rfl, rfl⟩
set_option maxHeartbeats 400000 in
theorem asum_not (p : Option Addr) (w : World) (hn : NoneIs true p w) :
    Calls Try.prog 15 #[.pointer p] w fun e w' => e = .returned (.int .u32 0) ∧ w = w' := by
  have hn := Aside0.mk hn
  go_enter Try.func15, Try.ntmps15
  go_wp2_with (go_at_call 20; refine hn.out.mono ?_; rintro e w' ⟨rfl, rfl⟩)
  go_ret
  exact ⟨rfl, rfl⟩
set_option maxHeartbeats 400000 in
theorem alen_not (p : Option Addr) (w : World) (hn : NoneIs true p w) :
    Calls Try.prog 16 #[.pointer p] w fun e w' => e = .returned (.int .i64 0) ∧ w = w' := by
  have hn := Aside0.mk hn
  go_enter Try.func16, Try.ntmps16
  go_wp2_with (go_at_call 20; refine hn.out.mono ?_; rintro e w' ⟨rfl, rfl⟩)
  go_ret
  exact ⟨rfl, rfl⟩
set_option maxHeartbeats 400000 in
theorem acopy_not (p : Option Addr) (w : World) (hn : NoneIs true p w) :
    Calls Try.prog 17 #[.pointer p] w fun e w' => e = .returned (.pointer none) ∧ w = w' := by
  have hn := Aside0.mk hn
  go_enter Try.func17, Try.ntmps17
  go_wp2_with (go_at_call 20; refine hn.out.mono ?_; rintro e w' ⟨rfl, rfl⟩)
  go_ret
  exact ⟨rfl, rfl⟩

/-! ### One that is there -/
theorem adder_c0 {w : World} {g x m : Nat} (h : Adder w g x m) : w.cell? ⟨g, 0, none⟩ = some (.int .u32 (x : Int)) := (cell_of_row _ _ _ _ _ _ h).trans rfl
theorem adder_c1 {w : World} {g x m : Nat} (h : Adder w g x m) : w.cell? ⟨g, 1, none⟩ = some (.int .i64 (m : Int)) := (cell_of_row _ _ _ _ _ _ h).trans rfl
theorem adder_c2 {w : World} {g x m : Nat} (h : Adder w g x m) : w.cell? ⟨g, 2, none⟩ = some (.bool true) := (cell_of_row _ _ _ _ _ _ h).trans rfl
theorem adder_f {w : World} {g x m : Nat} (h : Adder w g x m) (j : Nat) : w.frozen? ⟨g, j, none⟩ = false := frozen_of_row _ _ _ _ _ h
theorem adder_below {w w1 : World} {g x m : Nat} {o : Obj} (h : Adder w g x m) (hb : Below (w.heap.size + 1) (w.alloc o) w1) : Adder w1 g x m := by
  have hlt := (Array.getElem?_eq_some_iff.1 h).1
  exact (hb.block g (by omega)).trans ((Below.heap_alloc w o g hlt).trans h)
theorem grown_below {w w1 : World} {B : Nat} {row : Option Nat} (h : Below B w w1) (hB : w.heap.size ≤ B) : w.grownBy w1 row := ⟨h.os, h.tape, h.output, h.size, fun i hi _ => h.block i (by omega)⟩
theorem grownBy_setCell (W : World) (p : Addr) (v : Value) : W.grownBy (W.setCell p v) (some p.block) :=
  ⟨rfl, rfl, rfl, (KeepsWalks.setCell W _ v).size, fun k _ hk => Below.heap_setCell _ _ _ k (fun e => hk (by rw [e]))⟩
set_option maxHeartbeats 400000 in
theorem asum_here (g x m : Nat) (w : World) (h : Adder w g x m) (hx : x < 4294967296) :
    Calls Try.prog 15 #[.pointer (some ⟨g, 0, none⟩)] w fun e w' => e = .returned (.int .u32 ((4294967295 - x : Nat) : Int)) ∧ w = w' := by
  have hn := Aside0.mk (noneIs_here g w (adder_c2 h))
  have h0 := adder_c0 h
  have hx := Aside0.mk (not_word hx)
  clear h
  go_enter Try.func15, Try.ntmps15
  go_wp2_with (go_at_call 20; refine hn.out.mono ?_; rintro e w' ⟨rfl, rfl⟩)
  go_ret
  exact ⟨congrArg (fun n => Ending.returned (Value.int .u32 n)) hx.out, rfl⟩
set_option maxHeartbeats 400000 in
theorem alen_here (g x m : Nat) (w : World) (h : Adder w g x m) :
    Calls Try.prog 16 #[.pointer (some ⟨g, 0, none⟩)] w fun e w' => e = .returned (.int .i64 (m : Int)) ∧ w = w' := by
  have hn := Aside0.mk (noneIs_here g w (adder_c2 h))
  have h0 := adder_c1 h
  clear h
  go_enter Try.func16, Try.ntmps16
  go_wp2_with (go_at_call 20; refine hn.out.mono ?_; rintro e w' ⟨rfl, rfl⟩)
  go_ret
  exact ⟨rfl, rfl⟩
set_option maxHeartbeats 400000 in
theorem acopy_here (g x m : Nat) (w : World) (h : Adder w g x m) :
    Calls Try.prog 17 #[.pointer (some ⟨g, 0, none⟩)] w fun e w' => e = .returned (.pointer (some ⟨w.heap.size, 0, none⟩)) ∧ w.alloc (.cells #[.int .u32 (x : Int), .int .i64 (m : Int), .bool true] 37) = w' := by
  have hn := Aside0.mk (noneIs_here g w (adder_c2 h))
  have h0 := adder_c0 h
  have h1 := adder_c1 h
  have h2 := adder_c2 h
  clear h
  go_enter Try.func17, Try.ntmps17
  go_wp2_with (go_at_call 20; refine hn.out.mono ?_; rintro e w' ⟨rfl, rfl⟩)
  go_ret
  exact ⟨rfl, rfl⟩
set_option maxHeartbeats 400000 in
theorem write_here (g x m : Nat) (A : Option Addr) (c : Nat) (bs : List UInt8) (w : World) (h : Adder w g x m) (hx : x < 4294967296) (hm : m + flen bs < 9223372036854775808) (hb : (Kd.int .u8).C w A bs.length (toI bs)) (hc : bs.length ≤ c) :
    Calls Try.prog 14 #[.pointer (some ⟨g, 0, none⟩), .slice A bs.length c] w fun e w' => e = .returned (.int .i64 0) ∧ Adder w' g (foldN x bs) (m + flen bs) ∧ w.grownBy w' (some g) := by
  have hn := Aside0.mk (noneIs_here g w (adder_c2 h))
  have h0 := adder_c0 h
  have h1 := adder_c1 h
  have h2 := adder_c2 h
  have hP : Parts (w.alloc (.cells #[.slice A bs.length c] 28)) (some ⟨w.heap.size, 0, none⟩) [bs] :=
    parts_one bs ((cell_of_row _ _ _ _ _ _ (Go.heap_alloc_new w _)).trans rfl) hc (Kd.C_alloc hb _)
  have ha : Calls Try.prog 19 #[.agg #[.int .u32 (x : Int), .int .i64 (m : Int)], .slice (some ⟨w.heap.size, 0, none⟩) 1 1] (w.alloc (.cells #[.slice A bs.length c] 28)) fun e w' =>
      e = .returned (.agg #[.int .u32 ((foldN x bs : Nat) : Int), .int .i64 ((m + flen bs : Nat) : Int)]) ∧ Below (w.heap.size + 1) (w.alloc (.cells #[.slice A bs.length c] 28)) w' := by
    have hfl : ([bs] : List (List UInt8)).flatten = bs := by simp
    have := add_calls x m (some ⟨w.heap.size, 0, none⟩) 1 [bs] _ hP hx (by rw [hfl]; exact hm)
    rw [hfl] at this
    exact this.mono (fun e w' ⟨h1, h2⟩ => ⟨h1, h2.mono (by simp)⟩)
  have ha := Aside0.mk ha
  have Hh := Aside0.mk h
  clear h hP hb
  go_enter Try.func14, Try.ntmps14
  go_wp2
  refine wp_scope_jumps 0 (fun a' w' => False) (fun _ _ => 0) rfl ?first ?pass
  case first =>
    go_wp2_with (first | (go_at_call 20; refine hn.out.mono ?_; rintro e w' ⟨rfl, rfl⟩) | (go_at_call 19; refine ha.out.mono ?_; rintro e w1 ⟨rfl, hb1⟩; have hA1 := adder_below Hh.out hb1; have d0 := adder_c0 hA1; have d1 := adder_c1 hA1; have f0 := adder_f hA1 0; have f1 := adder_f hA1 1; replace hA1 := Aside0.mk hA1; replace hb1 := Aside0.mk hb1; clear h0 h1))
    (try rw [jump_ret])
    go_ret
    refine ⟨rfl, ?_, ?_⟩
    · have h1 := heap_setCell_same _ _ 0 _ _ (.int .u32 ((foldN x bs : Nat) : Int)) hA1.out
      have h2 := heap_setCell_same _ _ 1 _ _ (.int .i64 ((m : Int) + (flen bs : Int))) h1
      exact h2.trans rfl
    · have hg1 : w.grownBy w1 (some g) := (World.grownBy_alloc w _ _).trans (grown_below hb1.out (by simp))
      exact (hg1.trans (grownBy_setCell _ _ _)).trans (grownBy_setCell _ _ _)
  case pass =>
    exact fun _ _ h => h.elim
end Go.Proofs.Ytabejlldemhfaaa
