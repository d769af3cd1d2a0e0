/- The exported functions of sums. -/
import Derived.Test.YtabejlldemhfaaaCw3
set_option linter.unusedVariables false
set_option linter.unusedSimpArgs false
namespace Go.Proofs.Ytabejlldemhfaaa
open Go.RowKit Go.Shelf Go.Proofs.YtabejlldemhfaaaW.PrintWords

/-- The sum of bytes. -/
def sumN (l : List UInt8) : Nat := 4294967295 - foldN 4294967295 l
theorem xor_ones {x : Nat} (h : x < 4294967296) : 4294967295 ^^^ x = 4294967295 - x := by
  have h1 := congrArg BitVec.toNat (BitVec.allOnes_xor (x := BitVec.ofNat 32 x))
  simpa [Nat.mod_eq_of_lt h] using h1
theorem not_word {x : Nat} (h : x < 4294967296) : bits .xor .u32 IntKind.u32.max (x : Int) = ((4294967295 - x : Nat) : Int) := by
  have h1 := bits_xor_nat 4294967295 x (by decide) h
  rw [xor_ones h] at h1
  exact h1

theorem bytes_of_block {w : World} {g : Nat} {cs : Array Value} {t : TypeId} {fr : Nat × Nat} (bs : List UInt8) (hg : w.heap[g]? = some (.cells cs t fr)) (hcs : ∀ j (h : j < bs.length), cs[j]? = some (.int .u8 (bs[j].toNat : Int)))
    (hl : bs.length ≤ 9223372036854775807) : (Kd.int .u8).C w (some ⟨g, 0, none⟩) bs.length (toI bs) := by
  refine ⟨toI_length bs, hl, fun _ => ⟨_, rfl, fun j p hp => ?_⟩⟩
  have hj : j < bs.length := by rw [← toI_length]; exact (List.getElem?_eq_some_iff.1 hp).1
  have : p = (bs[j].toNat : Int) := by simpa [toI, hj] using hp.symm
  subst this
  refine ⟨[.int .u8 (bs[j].toNat : Int)], rfl, rfl, fun i u hu => ?_⟩
  have hi : i = 0 := by
    have := (List.getElem?_eq_some_iff.1 hu).1
    simp at this
    exact this
  subst hi
  have hu' : u = .int .u8 (bs[j].toNat : Int) := by simpa using hu.symm
  subst hu'
  rw [show (⟨g, 0, none⟩ : Addr).add (j * (Kd.int .u8).sz + 0) = ⟨g, j, none⟩ by rw [show j * (Kd.int .u8).sz + 0 = j from Nat.mul_one j]; exact add_plain g j]
  rw [cell_of_row _ _ _ _ _ _ hg]
  exact hcs j hj
theorem parts_one {w : World} {g : Nat} {A0 : Option Addr} {c0 : Nat} (bs : List UInt8) (hg : w.cell? ⟨g, 0, none⟩ = some (.slice A0 bs.length c0)) (hl : bs.length ≤ c0) (hb : (Kd.int .u8).C w A0 bs.length (toI bs)) :
    Parts w (some ⟨g, 0, none⟩) [bs] := by
  refine ⟨rfl, (by simp), fun _ => ⟨_, rfl, fun j p hp => ?_⟩⟩
  have hj : j = 0 := by
    have := (List.getElem?_eq_some_iff.1 hp).1
    simp [LL] at this
    exact this
  subst hj
  have : p = toI bs := by simpa [LL] using hp.symm
  subst this
  refine ⟨[.slice A0 (toI bs).length c0], rfl, ⟨A0, c0, rfl, by rw [toI_length]; exact hl, by rw [toI_length]; exact hb⟩, fun i u hu => ?_⟩
  have hi : i = 0 := by
    have := (List.getElem?_eq_some_iff.1 hu).1
    simp at this
    exact this
  subst hi
  have hu' : u = .slice A0 (toI bs).length c0 := by simpa using hu.symm
  subst hu'
  rw [toI_length, show (⟨g, 0, none⟩ : Addr).add (0 * (Kd.slice 5 (Kd.int .u8)).sz + 0) = ⟨g, 0, none⟩ from add_plain g 0]
  exact hg
theorem parts_nil (w : World) : Parts w none [] := ⟨rfl, by simp, fun h => absurd h (Nat.lt_irrefl 0)⟩
theorem foldN_nil (x : Nat) : foldN x [] = x := rfl

theorem field35_0 : ∀ (a b : Int) (w : World), (Instr.field 35 (.agg #[.int .u32 a, .int .i64 b]) 0).run Try.prog w = .ok (.int .u32 a) w := fun _ _ _ => by kernel_rfl

set_option maxHeartbeats 400000 in
theorem sum_calls (A : Option Addr) (c : Nat) (L : List (List UInt8)) (w : World) (hL : Parts w A L) (hm : flen L.flatten < 9223372036854775808) :
    Calls Try.prog 9 #[.slice A L.length c] w fun e w' => e = .returned (.int .u32 ((sumN L.flatten : Nat) : Int)) ∧ Below w.heap.size w w' := by
  have hc : Calls Try.prog 19 #[.agg #[.int .u32 4294967295, .int .i64 0], .slice A L.length c] w fun e w' =>
      e = .returned (.agg #[.int .u32 ((foldN 4294967295 L.flatten : Nat) : Int), .int .i64 ((0 + flen L.flatten : Nat) : Int)]) ∧ Below w.heap.size w w' :=
    add_calls 4294967295 0 A c L w hL (by decide) (by omega)
  have hn := Aside0.mk (not_word (foldN_lt L.flatten (x := 4294967295) (by decide)))
  obtain ⟨z, hz⟩ : ∃ z, foldN 4294967295 L.flatten = z := ⟨_, rfl⟩
  rw [hz] at hc hn
  have hc := Aside0.mk hc
  have hz := Aside0.mk hz
  have hf := field35_0
  go_enter Try.func9, Try.ntmps9
  go_wp2_with (go_at_call 19; refine hc.out.mono ?_; rintro e w' ⟨rfl, hb⟩)
  go_ret
  exact ⟨by rw [sumN, hz.out]; exact congrArg (fun n => Ending.returned (Value.int .u32 n)) hn.out, hb⟩

set_option maxHeartbeats 400000 in
theorem step_calls (x : Nat) (b : UInt8) (w : World) (hx : x < 4294967296) :
    Calls Try.prog 12 #[.int .u32 (x : Int), .int .u8 (b.toNat : Int)] w fun e w' => e = .returned (.int .u32 ((stepN x b.toNat : Nat) : Int)) ∧ Below w.heap.size w w' := by
  have hP : Parts ((w.alloc (.cells #[.int .u8 (b.toNat : Int)] 5)).alloc (.cells #[.slice (some ⟨w.heap.size, 0, none⟩) 1 1] 28)) (some ⟨w.heap.size + 1, 0, none⟩) [[b]] := by
    refine parts_one (c0 := 1) [b] ?_ (Nat.le_refl _) (bytes_of_block [b] (heap_alloc2_old w _ _) (fun j h => ?_) (by simp))
    · rw [cell_of_row _ _ _ _ _ _ (heap_alloc2_new w _ _)]; rfl
    · have : j = 0 := by simpa using h
      subst this; rfl
  have hc : Calls Try.prog 19 #[.agg #[.int .u32 (x : Int), .int .i64 0], .slice (some ⟨w.heap.size + 1, 0, none⟩) 1 1] ((w.alloc (.cells #[.int .u8 (b.toNat : Int)] 5)).alloc (.cells #[.slice (some ⟨w.heap.size, 0, none⟩) 1 1] 28)) fun e w' =>
      e = .returned (.agg #[.int .u32 ((stepN x b.toNat : Nat) : Int), .int .i64 1]) ∧ Below (w.heap.size + 2) ((w.alloc (.cells #[.int .u8 (b.toNat : Int)] 5)).alloc (.cells #[.slice (some ⟨w.heap.size, 0, none⟩) 1 1] 28)) w' :=
    (add_calls x 0 (some ⟨w.heap.size + 1, 0, none⟩) 1 [[b]] _ hP hx (by simp [flen])).mono (fun e w' ⟨h1, h2⟩ => ⟨h1, h2.mono (by simp)⟩)
  have hc := Aside0.mk hc
  clear hP
  have hf := field35_0
  go_enter Try.func12, Try.ntmps12
  go_wp2_with (go_at_call 19; refine hc.out.mono ?_; rintro e w' ⟨rfl, hb⟩)
  go_ret
  exact ⟨rfl, (((Below.refl _ w).alloc (Nat.le_refl _) _).alloc (by simp) _).trans (hb.mono (by omega))⟩
end Go.Proofs.Ytabejlldemhfaaa
