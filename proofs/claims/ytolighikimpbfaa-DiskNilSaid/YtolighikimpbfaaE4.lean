/- DiskNil: a disk that is not there. -/
import Derived.Test.YtolighikimpbfaaOa
import Derived.Test.YtolighikimpbfaaDo
set_option linter.unusedVariables false
set_option linter.unusedSimpArgs false
namespace Go.Proofs.Ytolighikimpbfaa
open Go.RowKit Go.Shelf Go.Proofs.YtolighikimpbfaaW.PrintWords Go.Proofs.YtolighikimpbfaaW.PrintMore

theorem Own.none {O : Nat → Prop} {w : World} {g : Nat} {ds : DS} (h : Own O w g ds) : NoneIs false (some ⟨g, 0, none⟩) w := by
  obtain ⟨S, RO, h1, h2⟩ := h
  exact h1.none
theorem copy_not (p : Option Addr) (w : World) (hn : NoneIs true p w) : Calls Try.prog 23 #[.pointer p] w fun e w' => e = .returned (.pointer none) ∧ w = w' := by
  have hn := Aside0.mk hn
  go_enter Try.func23, Try.ntmps23
  go_wp2_with (go_at_call 28; refine hn.out.mono ?_; rintro e w' ⟨rfl, rfl⟩)
  go_ret
  exact ⟨rfl, rfl⟩
set_option maxHeartbeats 1000000 in
theorem same_not (p q : Option Addr) (b c : Bool) (w : World) (hp : NoneIs b p w) (hq : NoneIs c q w) (h : (b || c) = true) : Calls Try.prog 24 #[.pointer p, .pointer q] w fun e w' => e = .returned (.bool (b && c)) ∧ w = w' := by
  have hp := Aside0.mk hp
  have hq := Aside0.mk hq
  cases b <;> cases c
  · cases h
  all_goals (
    go_enter Try.func24, Try.ntmps24
    go_wp2_with (first | (go_at_call_of 28 (Value.pointer p); refine hp.out.mono ?_; rintro e w' ⟨rfl, rfl⟩) | (go_at_call_of 28 (Value.pointer q); refine hq.out.mono ?_; rintro e w' ⟨rfl, rfl⟩))
    go_ret
    exact ⟨rfl, rfl⟩)
theorem size_not (p : Option Addr) (w : World) (hn : NoneIs true p (w.alloc (.cells #[.pointer p] 27))) : Calls Try.prog 26 #[.pointer p] w fun e w' => e = .returned (.int .i64 0) ∧ Below w.heap.size w w' := by
  have cb := boxed_cell w (.pointer p) 27
  have hnum := fun f => number_not p f _ hn
  have hnum := Aside0.mk hnum
  go_enter Try.func26, Try.ntmps26
  go_wp2_with (go_at_call 34; refine (hnum.out _).mono ?_; rintro e w' ⟨rfl, rfl⟩)
  go_ret
  exact ⟨rfl, below_alloc (Below.refl _ _) _⟩
theorem waits_not (p : Option Addr) (w : World) (hn : NoneIs true p (w.alloc (.cells #[.pointer p] 27))) : Calls Try.prog 18 #[.pointer p] w fun e w' => e = .returned (.int .i64 0) ∧ Below w.heap.size w w' := by
  have cb := boxed_cell w (.pointer p) 27
  have hnum := fun f => number_not p f _ hn
  have hnum := Aside0.mk hnum
  go_enter Try.func18, Try.ntmps18
  go_wp2_with (go_at_call 34; refine (hnum.out _).mono ?_; rintro e w' ⟨rfl, rfl⟩)
  go_ret
  exact ⟨rfl, below_alloc (Below.refl _ _) _⟩
theorem steps_not (p : Option Addr) (w : World) (hn : NoneIs true p (w.alloc (.cells #[.pointer p] 27))) : Calls Try.prog 27 #[.pointer p] w fun e w' => e = .returned (.int .i64 0) ∧ Below w.heap.size w w' := by
  have cb := boxed_cell w (.pointer p) 27
  have hnum := fun f => number_not p f _ hn
  have hnum := Aside0.mk hnum
  go_enter Try.func27, Try.ntmps27
  go_wp2_with (go_at_call 34; refine (hnum.out _).mono ?_; rintro e w' ⟨rfl, rfl⟩)
  go_ret
  exact ⟨rfl, below_alloc (Below.refl _ _) _⟩
set_option maxRecDepth 20000 in
set_option maxHeartbeats 4000000 in
theorem diskNil_long (n : Int) (A : Option Addr) (c m : Nat) (w : World) (hm : 100 < m) (hmm : m ≤ 9223372036854775807) : Calls Try.prog 8 #[.int .i64 n, .slice A m c] w fun e w' => e = .returned (.bool true) ∧ Below w.heap.size w w' := by
  have d1 : decide ((100 : Int) < (m : Int)) = true := by simp; omega
  have hk := Aside0.mk (known_calls w)
  go_enter Try.func8, Try.ntmps8
  go_wp2_with (go_at_call 10; refine hk.out.mono ?_; rintro e w' ⟨rfl, hb2⟩; replace hb2 := Aside0.mk hb2)
  go_ret
  exact ⟨rfl, hb2.out⟩
set_option maxRecDepth 20000 in
set_option maxHeartbeats 4000000 in
theorem diskNil_go (n : Int) (A : Option Addr) (c m : Nat) (w : World) (hm : ¬ 100 < m) : Calls Try.prog 8 #[.int .i64 n, .slice A m c] w fun e w' => e = .returned (.bool true) ∧ Below w.heap.size w w' := by
  have d1 : decide ((100 : Int) < (m : Int)) = false := by simp; omega
  have hN : Aside0 (∀ W, NoneIs true none W) := Aside0.mk noneIs_nil
  have H1 := Go.heap_alloc_new w (.cells #[.slice none 0 0, .slice none 0 0, .slice none 0 0, .int .i64 0, .int .i64 0, .int .i64 0] 65)
  have hb1 := below_alloc (Below.refl w.heap.size w) (.cells #[.slice none 0 0, .slice none 0 0, .slice none 0 0, .int .i64 0, .int .i64 0, .int .i64 0] 65)
  have hs1 : (w.alloc (.cells #[.slice none 0 0, .slice none 0 0, .slice none 0 0, .int .i64 0, .int .i64 0, .int .i64 0] 65)).heap.size = w.heap.size + 1 := by simp
  obtain ⟨w1, hw1⟩ : ∃ w1, w.alloc (.cells #[.slice none 0 0, .slice none 0 0, .slice none 0 0, .int .i64 0, .int .i64 0, .int .i64 0] 65) = w1 := ⟨_, rfl⟩
  obtain ⟨z, hz⟩ : ∃ z, w.heap.size = z := ⟨_, rfl⟩
  rw [hw1] at H1 hb1 hs1
  rw [hz] at H1 hs1
  have hZ : Aside0 (∀ W, Below w1.heap.size w1 W → NoneIs true (some ⟨z, 0, none⟩) W) := Aside0.mk (fun W hb => noneIs_zero z W ((cell_of_row _ _ _ _ _ _ ((hb.block z (by omega)).trans H1)).trans rfl))
  have t1 := Aside0.mk (read_not none n n w1 (hN.out _))
  have t2 := Aside0.mk (crash_not (some ⟨z, 0, none⟩) n 0 w1 (hZ.out _ (below_alloc (Below.refl _ _) _)))
  clear H1
  go_enter Try.func8, Try.ntmps8
  go_wp2_with fail
  refine t1.out.mono ?_
  rintro e w' ⟨rfl, rfl⟩
  go_wp2_with fail
  refine t2.out.mono ?_
  rintro e w2 ⟨rfl, b2⟩
  have z2 := b2.size
  have t3 := Aside0.mk (new_own 1 (by decide) (by decide) w2)
  have b2 := Aside0.mk b2
  clear t1 t2
  go_wp2_with fail
  refine t3.out.mono ?_
  rintro e w3 ⟨g, rfl, o3, b3⟩
  have z3 := b3.size
  have b3 := Aside0.mk (b2.out.trans (b3.mono z2))
  have f1 := Aside0.mk (write_not none n A m c w3 (hN.out _))
  have f2 := Aside0.mk (sync_not (some ⟨z, 0, none⟩) w3 (hZ.out _ b3.out))
  have f3 := Aside0.mk (arm_not none n w3 (hN.out _))
  have f4 := Aside0.mk (limit_not (some ⟨z, 0, none⟩) n w3 (hZ.out _ b3.out))
  have f5 := Aside0.mk (size_not none w3 (hN.out _))
  have o3 := Aside0.mk o3
  clear t3
  go_wp2_with (first
    | (go_at_call 12; refine f1.out.mono ?_; rintro e w' ⟨rfl, rfl⟩)
    | (go_at_call 13; refine f2.out.mono ?_; rintro e w' ⟨rfl, rfl⟩)
    | (go_at_call 15; refine f3.out.mono ?_; rintro e w' ⟨rfl, rfl⟩)
    | (go_at_call 16; refine f4.out.mono ?_; rintro e w' ⟨rfl, rfl⟩)
    | (go_at_call 26
       refine f5.out.mono ?_
       rintro e w4 ⟨rfl, b4⟩
       have z4 := b4.size
       have f6 := Aside0.mk (waits_not none w4 (hN.out _))
       have b4 := Aside0.mk b4)
    | (go_at_call 18
       refine f6.out.mono ?_
       rintro e w5 ⟨rfl, b5⟩
       have z5 := b5.size
       have b5 := Aside0.mk (b4.out.trans (b5.mono z4))
       have f7 := Aside0.mk (steps_not (some ⟨z, 0, none⟩) w5 (hZ.out _ ((b3.out.trans (b5.out.mono (by omega))).trans (below_alloc (Below.refl _ _) _ |>.mono (by omega))))))
    | (go_at_call 27
       refine f7.out.mono ?_
       rintro e w6 ⟨rfl, b6⟩
       have z6 := b6.size
       have b6 := Aside0.mk (b5.out.trans (b6.mono (by omega)))
       have hz6 := hZ.out w6 (b3.out.trans (b6.out.mono (by omega)))
       have ho6 := (o3.out.below b6.out).none
       have f8 := Aside0.mk (copy_not none w6 (hN.out _))
       have s1 := Aside0.mk (same_not none (some ⟨z, 0, none⟩) true true w6 (hN.out _) hz6 rfl)
       have s2 := Aside0.mk (same_not none (some ⟨g, 0, none⟩) true false w6 (hN.out _) ho6 rfl)
       have s3 := Aside0.mk (same_not (some ⟨g, 0, none⟩) (some ⟨z, 0, none⟩) false true w6 ho6 hz6 rfl)
       have f9 := Aside0.mk (known_calls w6)
       clear hz6 ho6)
    | (go_at_call 23; refine f8.out.mono ?_; rintro e w' ⟨rfl, rfl⟩)
    | (go_at_call_of 24 (Value.pointer none); go_at_call_of 24 (Value.pointer (some ⟨z, 0, none⟩)); refine s1.out.mono ?_; rintro e w' ⟨rfl, rfl⟩)
    | (go_at_call_of 24 (Value.pointer none); go_at_call_of 24 (Value.pointer (some ⟨g, 0, none⟩)); refine s2.out.mono ?_; rintro e w' ⟨rfl, rfl⟩)
    | (go_at_call_of 24 (Value.pointer (some ⟨g, 0, none⟩)); go_at_call_of 24 (Value.pointer (some ⟨z, 0, none⟩)); refine s3.out.mono ?_; rintro e w' ⟨rfl, rfl⟩)
    | (go_at_call 10
       refine f9.out.mono ?_
       rintro e w7 ⟨rfl, b7⟩
       have b7 := Aside0.mk b7))
  go_ret
  exact ⟨rfl, ((hb1.trans (b3.out.mono (by omega))).trans (b6.out.mono (by omega))).trans (b7.out.mono (by omega))⟩
end Go.Proofs.Ytolighikimpbfaa
