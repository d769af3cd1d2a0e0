/- What a call may turn; a contact as a plain value. -/
import Derived.Test.YtbocbaakknkfiaaProg
import Derived.Test.YtbocbaakknkfiaaWMore
import Derived.Test.YtbocbaakknkfiaaWKept
import Derived.Test.YtbocbaakknkfiaaWShare
import Derived.Test.YtbocbaakknkfiaaWLast
set_option linter.unusedVariables false
set_option linter.unusedSimpArgs false
namespace Go.Proofs.Ytbocbaakknkfiaa
open Go.RowKit Go.Proofs.YtbocbaakknkfiaaW.PrintWords Go.Proofs.YtbocbaakknkfiaaW.PrintMore Go.Proofs.YtbocbaakknkfiaaW.PrintLast

/-! ### What a call may turn -/
/-- w' is w but for the blocks of S, and more. -/
structure Mod (S : Nat → Prop) (w w' : World) : Prop where
  os : w'.os = w.os
  tape : w'.tape = w.tape
  output : w'.output = w.output
  size : w.heap.size ≤ w'.heap.size
  block : ∀ k, k < w.heap.size → ¬ S k → w'.heap[k]? = w.heap[k]?
namespace Mod
variable {S S' : Nat → Prop} {a b c : World}
theorem refl (S : Nat → Prop) (w : World) : Mod S w w := ⟨rfl, rfl, rfl, Nat.le_refl _, fun _ _ _ => rfl⟩
theorem trans (h : Mod S a b) (k : Mod S' b c) (hs : ∀ q, S' q → S q ∨ a.heap.size ≤ q) : Mod S a c :=
  ⟨k.os.trans h.os, k.tape.trans h.tape, k.output.trans h.output, Nat.le_trans h.size k.size, fun q hq hn =>
    (k.block q (Nat.lt_of_lt_of_le hq h.size) (fun h' => by rcases hs q h' with h1 | h1; exact hn h1; omega)).trans (h.block q hq hn)⟩
theorem mono (h : Mod S a b) (hs : ∀ q, S q → S' q) : Mod S' a b := ⟨h.os, h.tape, h.output, h.size, fun q hq hn => h.block q hq (fun h' => hn (hs q h'))⟩
theorem of_below (h : Below a.heap.size a b) : Mod S a b := ⟨h.os, h.tape, h.output, h.size, fun q hq _ => h.block q hq⟩
theorem of_grown {row : Option Nat} (h : a.grownBy b row) (hr : ∀ q, row = some q → S q ∨ a.heap.size ≤ q) : Mod S a b :=
  ⟨h.os, h.tape, h.output, h.size, fun q hq hn => h.block q hq (fun e => by rcases hr q e.symm with h1 | h1; exact hn h1; omega)⟩
theorem setCell (h : Mod S a b) {p : Addr} (hp : S p.block ∨ a.heap.size ≤ p.block) (u : Value) : Mod S a (b.setCell p u) :=
  ⟨h.os, h.tape, h.output, by simp; exact h.size, fun q hq hn => (Below.heap_setCell b p u q (fun e => by subst e; rcases hp with h1 | h1; exact hn h1; omega)).trans (h.block q hq hn)⟩
theorem alloc (h : Mod S a b) (o : Obj) : Mod S a (b.alloc o) := h.trans (of_below (S := fun _ => False) (below_alloc (Below.refl _ _) o)) (fun _ h => h.elim)
theorem drew (h : Mod S a b) : Mod S a b.drew := ⟨h.os, h.tape, h.output, h.size, h.block⟩
theorem drewN (h : Mod S a b) (n : Nat) : Mod S a (b.drewN n) := ⟨h.os, h.tape, h.output, h.size, h.block⟩
theorem then_below (h : Mod S a b) (k : Below b.heap.size b c) : Mod S a c := h.trans (of_below (S := fun _ => False) k) (fun _ h => h.elim)
theorem below {B : Nat} (h : Mod S a b) (hs : ∀ q, S q → B ≤ q) (hB : B ≤ a.heap.size) : Below B a b := ⟨h.os, h.tape, h.output, h.size, fun q hq => h.block q (by omega) (fun h' => by have := hs q h'; omega)⟩
theorem blk {g : Nat} {o : Obj} (h : Mod S a b) (hg : a.heap[g]? = some o) (hn : ¬ S g) : b.heap[g]? = some o := (h.block g (Array.getElem?_eq_some_iff.1 hg).1 hn).trans hg
end Mod
section
variable {α : Type} {d : Kd α} {e base : Nat} {ok S : Nat → Prop} {w w' : World} {v : Value} {xs : List α} {A : Option Addr} {n : Nat}
theorem R_mod (h : d.R e w base ok v xs) (hm : Mod S w w') (hn : ∀ k, ok k → ¬ S k) : d.R e w' base ok v xs := Kd.R_step h (fun k ho hlt => hm.block k hlt (hn k ho))
theorem F_mod (h : d.F w ok A n xs) (hm : Mod S w w') (hn : ∀ k, ok k → ¬ S k) : d.F w' ok A n xs := Kd.F_step h (fun k ho hlt => hm.block k hlt (hn k ho))
end

/-! ### A field, a contact -/
abbrev Fld := List ByteArray
abbrev st : Kd ByteArray := Kd.string
/-- Are two lists of texts the same? -/
def T (a b : Fld) : Bool := decide (a.map ByteArray.toList = b.map ByteArray.toList)
theorem T_self (a : Fld) : T a a = true := by simp [T]
theorem T_symm (a b : Fld) : T a b = T b a := by unfold T; congr 1; exact propext ⟨Eq.symm, Eq.symm⟩
theorem T_trans {a b c : Fld} (h : T a b = true) (k : T b c = true) : T a c = true := by simp only [T, decide_eq_true_eq] at *; exact h.trans k
theorem T_iff {a b : Fld} : T a b = true ↔ a.map ByteArray.toList = b.map ByteArray.toList := by simp [T]
theorem T_congr_left {a b c : Fld} (h : T a b = true) : T a c = T b c := by simp only [T, decide_eq_true_eq] at *; rw [h]
theorem T_congr_right {a b c : Fld} (h : T a b = true) : T c a = T c b := by simp only [T, decide_eq_true_eq] at *; rw [h]
/-- A text at a place. -/
theorem str_at {W : World} {A : Option Addr} {l : Fld} (h : st.C W A l.length l) (k : Nat) (hk : k < l.length) : ∃ ad, A = some ad ∧ W.cell? (ad.add k) = some (.string l[k]) := by
  obtain ⟨ad, c, e, _, hK, hc0⟩ := Kd.C_get h ByteArray.empty (k : Int) (by omega) (by omega)
  have hc : ∀ j u, c[j]? = some u → W.cell? (ad.add (k * 1 + j)) = some u := hc0
  have hg : l.getD (k : Int).toNat ByteArray.empty = l[k] := by simp [List.getD_eq_getElem?_getD, hk]
  rw [hg] at hK
  have : c = [.string l[k]] := hK
  subst this
  exact ⟨ad, e, by have hq := hc 0 _ rfl; rwa [Nat.mul_one, Nat.add_zero] at hq⟩
end Go.Proofs.Ytbocbaakknkfiaa
