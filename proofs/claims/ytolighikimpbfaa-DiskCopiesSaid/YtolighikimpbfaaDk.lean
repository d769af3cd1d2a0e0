/- known: a write that a crash tears. -/
import Derived.Test.YtolighikimpbfaaDt
set_option linter.unusedVariables false
set_option linter.unusedSimpArgs false
namespace Go.Proofs.Ytolighikimpbfaa
open Go.RowKit Go.Shelf Go.Proofs.YtolighikimpbfaaW.PrintWords Go.Proofs.YtolighikimpbfaaW.PrintMore

/-- Two bytes, new. -/
theorem R_two (w : World) (x y : UInt8) : u8.R 5 (w.alloc (.cells #[.int .u8 (x.toNat : Int), .int .u8 (y.toNat : Int)] 5)) 0 (fun q => q = w.heap.size) (.slice (some ⟨w.heap.size, 0, none⟩) 2 2) (toI [x, y]) := by
  have h := own_lit w 0 5 .u8 (toI [x, y]) (Nat.zero_le _) (by simp [toI])
  exact Kd.R_of_own h (fun k hk => by simp [Value.ownBlock] at hk; exact hk.symm)
def d0 : DS := fresh 4
def d1 : DS := (d0.write 0 [1, 2]).1
def d2 : DS := d1.sync.1
def d3 : DS := (d2.write 1 [8, 9]).1
theorem fine0 : Fine d0 := fine_fresh 4 (by decide)
theorem fine1 : Fine d1 := fine_write fine0 (by decide) (by decide) _ _
theorem fine2 : Fine d2 := fine_sync fine1 (by decide)
theorem fine3 : Fine d3 := fine_write fine2 (by decide) (by decide) _ _
theorem now4 : ((d3.crashed 0 1).now.drop 0).take 4 = [1, 8, 0, 0] := by decide
theorem two_mine (w : World) (B C g : Nat) (ds : DS) (h : Mine B C w g ds) (hC : C ≤ w.heap.size) (hB : B ≤ w.heap.size) (hf : Fine ds) (x : Int) (p q : UInt8) :
    Calls Try.prog 12 #[.pointer (some ⟨g, 0, none⟩), .int .i64 x, .slice (some ⟨w.heap.size, 0, none⟩) 2 2] (w.alloc (.cells #[.int .u8 (p.toNat : Int), .int .u8 (q.toNat : Int)] 5)) fun e w' => e = .returned (.int .i64 (ds.write x [p, q]).2) ∧ Mine B w'.heap.size w' g (ds.write x [p, q]).1 ∧ Below B w w' := by
  have hb := below_alloc (Below.refl w.heap.size w) (.cells #[.int .u8 (p.toNat : Int), .int .u8 (q.toNat : Int)] 5)
  refine (write_mine (h.below hb) (by have := hb.size; omega) hf x (some ⟨w.heap.size, 0, none⟩) 2 [p, q] (by simp) (fun k => k = w.heap.size) (Kd.R_F (R_two w p q)) (fun k hk => by omega)).mono ?_
  rintro e w' ⟨h1, h2, h3⟩
  exact ⟨h1, h2, (hb.mono hB).trans h3⟩
set_option maxHeartbeats 4000000 in
theorem known_calls (w : World) : Calls Try.prog 10 #[] w fun e w' => e = .returned (.bool true) ∧ Below w.heap.size w w' := by
  go_enter Try.func10, Try.ntmps10
  go_wp2_with fail
  refine (new_mine 4 (by decide) (by decide) w).mono ?_
  rintro e w1 ⟨g, rfl, m1, b1⟩
  have t1 := two_mine w1 _ _ g d0 m1 (Nat.le_refl _) b1.size fine0 0 1 2
  rw [show (d0.write 0 [1, 2]).2 = 0 by decide] at t1
  have m1 := Aside0.mk m1
  have b1 := Aside0.mk b1
  have t1 := Aside0.mk t1
  go_wp2_with fail
  refine t1.out.mono ?_
  rintro e w2 ⟨rfl, m2, b2⟩
  have z2 : w.heap.size ≤ w2.heap.size := Nat.le_trans b1.out.size b2.size
  have t2 := sync_mine m2 z2 fine1
  rw [show (d0.write 0 [1, 2]).1.sync.2 = 0 by decide] at t2
  replace t2 := Aside0.mk t2
  have b2 := Aside0.mk (b1.out.trans b2)
  clear t1
  go_wp2_with fail
  refine t2.out.mono ?_
  rintro e w3 ⟨rfl, m3, b3⟩
  have z3 : w.heap.size ≤ w3.heap.size := Nat.le_trans z2 b3.size
  have t3 := two_mine w3 _ _ g d2 m3 (Nat.le_refl _) z3 fine2 1 8 9
  rw [show (d2.write 1 [8, 9]).2 = 0 by decide] at t3
  have t3 := Aside0.mk t3
  have b3 := Aside0.mk (b2.out.trans b3)
  clear t2
  go_wp2_with fail
  refine t3.out.mono ?_
  rintro e w4 ⟨rfl, m4, b4⟩
  have z4 : w.heap.size ≤ w4.heap.size := Nat.le_trans z3 b4.size
  have t4 := Aside0.mk (crash_mine m4 fine3 0 1 (by decide) (by decide))
  have b4 := Aside0.mk (b3.out.trans b4)
  clear t3
  go_wp2_with fail
  refine t4.out.mono ?_
  rintro e w5 ⟨g5, rfl, m5, b5⟩
  have t5 := Aside0.mk (read_mine m5 (by decide) 0 4 (by decide))
  have b5 := Aside0.mk (b4.out.trans (b5.mono z4))
  have z5 : w.heap.size ≤ w5.heap.size := b5.out.size
  clear t4
  go_wp2_with fail
  refine t5.out.mono ?_
  rintro e w6 ⟨v, rfl, r6, b6⟩
  rw [show List.take 4 (List.drop 0 ((d2.write 1 [8, 9]).fst.crashed 0 1).now) = [1, 8, 0, 0] from now4] at r6
  obtain ⟨A6, c6, rfl⟩ := Kd.R_slice r6
  have hstr := Kd.C_string (P := Try.prog) (dst := 9) (c := c6) Try.underlying31 Try.underlying5 Try.underlying9 (Kd.R_reads' r6).2.2
  rw [show strOfNums (toI [1, 8, 0, 0]) = ⟨#[1, 8, 0, 0]⟩ from rfl] at hstr
  have b6 := Aside0.mk (b5.out.trans (b6.mono z5))
  clear t5
  go_wp2_with fail
  go_ret
  exact ⟨rfl, b6.out⟩
end Go.Proofs.Ytolighikimpbfaa
