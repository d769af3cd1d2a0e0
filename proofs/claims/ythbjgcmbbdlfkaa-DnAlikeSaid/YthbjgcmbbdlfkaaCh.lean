/- What a call may turn; the reader, (*reader).next. -/
import Derived.Test.YthbjgcmbbdlfkaaCg
import Derived.BigQuiet
set_option linter.unusedVariables false
set_option linter.unusedSimpArgs false
namespace Go.Proofs.Ythbjgcmbbdlfkaa
open Go.RowKit Go.Shelf Go.Proofs.YthbjgcmbbdlfkaaW.PrintWords Go.Proofs.YthbjgcmbbdlfkaaW.PrintMore Go.Proofs.YthbjgcmbbdlfkaaW.PrintLast

/-! ### What a call may turn -/
/-- w' is w but for the blocks of S, and more. -/
structure Mod (S : Nat → Prop) (w w' : World) : Prop where
  os : w'.os = w.os
  tape : w'.tape = w.tape
  output : w'.output = w.output
  size : w.heap.size ≤ w'.heap.size
  block : ∀ k, k < w.heap.size → ¬ S k → w'.heap[k]? = w.heap[k]?
namespace Mod
variable {S S' : Nat → Prop} {a b c : World}
theorem refl (S : Nat → Prop) (w : World) : Mod S w w := ⟨rfl, rfl, rfl, Nat.le_refl _, fun _ _ _ => rfl⟩
theorem trans (h : Mod S a b) (k : Mod S' b c) (hs : ∀ q, S' q → S q ∨ a.heap.size ≤ q) : Mod S a c :=
  ⟨k.os.trans h.os, k.tape.trans h.tape, k.output.trans h.output, Nat.le_trans h.size k.size, fun q hq hn =>
    (k.block q (Nat.lt_of_lt_of_le hq h.size) (fun h' => by rcases hs q h' with h1 | h1; exact hn h1; omega)).trans (h.block q hq hn)⟩
theorem mono (h : Mod S a b) (hs : ∀ q, S q → S' q) : Mod S' a b := ⟨h.os, h.tape, h.output, h.size, fun q hq hn => h.block q hq (fun h' => hn (hs q h'))⟩
theorem of_below (h : Below a.heap.size a b) : Mod S a b := ⟨h.os, h.tape, h.output, h.size, fun q hq _ => h.block q hq⟩
theorem of_grown {row : Option Nat} (h : a.grownBy b row) (hr : ∀ q, row = some q → S q ∨ a.heap.size ≤ q) : Mod S a b :=
  ⟨h.os, h.tape, h.output, h.size, fun q hq hn => h.block q hq (fun e => by rcases hr q e.symm with h1 | h1; exact hn h1; omega)⟩
theorem setCell (h : Mod S a b) {p : Addr} (hp : S p.block ∨ a.heap.size ≤ p.block) (u : Value) : Mod S a (b.setCell p u) :=
  ⟨h.os, h.tape, h.output, by simp; exact h.size, fun q hq hn => (Below.heap_setCell b p u q (fun e => by subst e; rcases hp with h1 | h1; exact hn h1; omega)).trans (h.block q hq hn)⟩
theorem alloc (h : Mod S a b) (o : Obj) : Mod S a (b.alloc o) := h.trans (of_below (S := fun _ => False) (below_alloc (Below.refl _ _) o)) (fun _ h => h.elim)
theorem drew (h : Mod S a b) : Mod S a b.drew := ⟨h.os, h.tape, h.output, h.size, h.block⟩
theorem drewN (h : Mod S a b) (n : Nat) : Mod S a (b.drewN n) := ⟨h.os, h.tape, h.output, h.size, h.block⟩
theorem then_below (h : Mod S a b) (k : Below b.heap.size b c) : Mod S a c := h.trans (of_below (S := fun _ => False) k) (fun _ h => h.elim)
theorem below {B : Nat} (h : Mod S a b) (hs : ∀ q, S q → B ≤ q) (hB : B ≤ a.heap.size) : Below B a b := ⟨h.os, h.tape, h.output, h.size, fun q hq => h.block q (by omega) (fun h' => by have := hs q h'; omega)⟩
theorem blk {g : Nat} {o : Obj} (h : Mod S a b) (hg : a.heap[g]? = some o) (hn : ¬ S g) : b.heap[g]? = some o := (h.block g (Array.getElem?_eq_some_iff.1 hg).1 hn).trans hg
end Mod
section
variable {α : Type} {d : Kd α} {e base : Nat} {ok S : Nat → Prop} {w w' : World} {v : Value} {xs : List α} {A : Option Addr} {n : Nat}
theorem R_mod (h : d.R e w base ok v xs) (hm : Mod S w w') (hn : ∀ k, ok k → ¬ S k) : d.R e w' base ok v xs := Kd.R_step h (fun k ho hlt => hm.block k hlt (hn k ho))
theorem F_mod (h : d.F w ok A n xs) (hm : Mod S w w') (hn : ∀ k, ok k → ¬ S k) : d.F w' ok A n xs := Kd.F_step h (fun k ho hlt => hm.block k hlt (hn k ho))
end


/-! ### The reader -/
/-- A reader of s at a place lies at block B. -/
def RdAt (W : World) (B : Nat) (s : ByteArray) (p : Nat) : Prop := W.heap[B]? = some (.cells #[.string s, .int .i64 (p : Int)] 51 (0, 0))
/-- Only block B. -/
def Only (B : Nat) : Nat → Prop := fun q => q = B
namespace RdAt
variable {W W' : World} {B p : Nat} {s : ByteArray}
theorem c0 (h : RdAt W B s p) : W.cell? ⟨B, 0, none⟩ = some (.string s) := (blk_cell h 0).trans rfl
theorem c1 (h : RdAt W B s p) : W.cell? ⟨B, 1, none⟩ = some (.int .i64 (p : Int)) := (blk_cell h 1).trans rfl
theorem z1 (h : RdAt W B s p) : W.frozen? ⟨B, 1, none⟩ = false := blk_frozen h 1
theorem lt (h : RdAt W B s p) : B < W.heap.size := blk_lt h
theorem below (h : RdAt W B s p) (k : Below W.heap.size W W') : RdAt W' B s p := (k.block _ h.lt).trans h
theorem set (h : RdAt W B s p) (q : Nat) : RdAt (W.setCell ⟨B, 1, none⟩ (.int .i64 (q : Int))) B s q := by unfold RdAt; simpa using blk_set h 1 (.int .i64 (q : Int))
theorem mod (h : RdAt W B s p) {S : Nat → Prop} (k : Mod S W W') (hn : ¬ S B) : RdAt W' B s p := k.blk h hn
end RdAt
theorem bt_nat {s : ByteArray} {p : Nat} (h : p < s.size) : ((s[p]'h).toNat : Int) = bt s (p : Int) := bt_at s (p : Int) h
theorem next_calls (B p : Nat) (s : ByteArray) (w : World) (hs : s.size ≤ 12000) (h : RdAt w B s p) (hp : p ≤ s.size) :
    Calls Try.prog 38 #[.pointer (some ⟨B, 0, none⟩)] w fun e w' => e = .returned (.tuple (if p < s.size then #[.int .u8 (bt s p), .bool true] else #[.int .u8 0, .bool false])) ∧ Below w.heap.size w w' := by
  have c0 := h.c0
  have c1 := h.c1
  replace h := Aside0.mk h
  by_cases hlt : p < s.size
  · have hb := bt_nat hlt
    have i1 : (p : Int) < (s.size : Int) := by omega
    have i0 : (0 : Int) ≤ (p : Int) := by omega
    rw [if_pos hlt]
    replace hlt := Aside0.mk hlt
    go_enter Try.func38, Try.ntmps38
    go_wp2_with fail
    go_quiet (fail)
    go_wp2_with fail
    go_quiet (fail)
    go_wp2_with fail
    go_ret2
    exact ⟨rfl, ⟨rfl, rfl, rfl, Nat.le_refl _, fun _ _ => rfl⟩⟩
  · rw [if_neg hlt]
    have i1 : (s.size : Int) ≤ (p : Int) := by omega
    replace hlt := Aside0.mk hlt
    go_enter Try.func38, Try.ntmps38
    go_wp2_with fail
    go_quiet (fail)
    go_wp2_with fail
    go_ret2
    exact ⟨rfl, ⟨rfl, rfl, rfl, Nat.le_refl _, fun _ _ => rfl⟩⟩
end Go.Proofs.Ythbjgcmbbdlfkaa
