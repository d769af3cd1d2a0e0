/- A disk as a plain value; what lies in memory of it, and what a call may turn. -/
import Derived.Test.YtolighikimpbfaaProg
import Derived.Test.YtolighikimpbfaaWMore
import Derived.Test.YtolighikimpbfaaWKept
set_option linter.unusedVariables false
set_option linter.unusedSimpArgs false
namespace Go.Proofs.Ytolighikimpbfaa
open Go.RowKit Go.Proofs.YtolighikimpbfaaW.PrintWords Go.Proofs.YtolighikimpbfaaW.PrintMore

/-! ### What a call may turn -/
/-- w' is w but for the blocks of S, and more. -/
structure Mod (S : Nat → Prop) (w w' : World) : Prop where
  os : w'.os = w.os
  tape : w'.tape = w.tape
  output : w'.output = w.output
  size : w.heap.size ≤ w'.heap.size
  block : ∀ k, k < w.heap.size → ¬ S k → w'.heap[k]? = w.heap[k]?
namespace Mod
variable {S S' : Nat → Prop} {a b c : World}
theorem refl (S : Nat → Prop) (w : World) : Mod S w w := ⟨rfl, rfl, rfl, Nat.le_refl _, fun _ _ _ => rfl⟩
theorem trans (h : Mod S a b) (k : Mod S' b c) (hs : ∀ q, S' q → S q ∨ a.heap.size ≤ q) : Mod S a c :=
  ⟨k.os.trans h.os, k.tape.trans h.tape, k.output.trans h.output, Nat.le_trans h.size k.size, fun q hq hn =>
    (k.block q (Nat.lt_of_lt_of_le hq h.size) (fun h' => by rcases hs q h' with h1 | h1; exact hn h1; omega)).trans (h.block q hq hn)⟩
theorem mono (h : Mod S a b) (hs : ∀ q, S q → S' q) : Mod S' a b := ⟨h.os, h.tape, h.output, h.size, fun q hq hn => h.block q hq (fun h' => hn (hs q h'))⟩
theorem of_below (h : Below a.heap.size a b) : Mod S a b := ⟨h.os, h.tape, h.output, h.size, fun q hq _ => h.block q hq⟩
theorem of_grown {row : Option Nat} (h : a.grownBy b row) (hr : ∀ q, row = some q → S q ∨ a.heap.size ≤ q) : Mod S a b :=
  ⟨h.os, h.tape, h.output, h.size, fun q hq hn => h.block q hq (fun e => by rcases hr q e.symm with h1 | h1; exact hn h1; omega)⟩
theorem setCell (h : Mod S a b) {p : Addr} (hp : S p.block ∨ a.heap.size ≤ p.block) (u : Value) : Mod S a (b.setCell p u) :=
  ⟨h.os, h.tape, h.output, by simp; exact h.size, fun q hq hn => (Below.heap_setCell b p u q (fun e => by subst e; rcases hp with h1 | h1; exact hn h1; omega)).trans (h.block q hq hn)⟩
theorem alloc (h : Mod S a b) (o : Obj) : Mod S a (b.alloc o) := h.trans (of_below (S := fun _ => False) (below_alloc (Below.refl _ _) o)) (fun _ h => h.elim)
theorem drew (h : Mod S a b) : Mod S a b.drew := ⟨h.os, h.tape, h.output, h.size, h.block⟩
theorem drewN (h : Mod S a b) (n : Nat) : Mod S a (b.drewN n) := ⟨h.os, h.tape, h.output, h.size, h.block⟩
theorem then_below (h : Mod S a b) (k : Below b.heap.size b c) : Mod S a c := h.trans (of_below (S := fun _ => False) k) (fun _ h => h.elim)
theorem below {B : Nat} (h : Mod S a b) (hs : ∀ q, S q → B ≤ q) (hB : B ≤ a.heap.size) : Below B a b := ⟨h.os, h.tape, h.output, h.size, fun q hq => h.block q (by omega) (fun h' => by have := hs q h'; omega)⟩
theorem blk {g : Nat} {o : Obj} (h : Mod S a b) (hg : a.heap[g]? = some o) (hn : ¬ S g) : b.heap[g]? = some o := (h.block g (Array.getElem?_eq_some_iff.1 hg).1 hn).trans hg
end Mod
section
variable {α : Type} {d : Kd α} {e base : Nat} {ok S : Nat → Prop} {w w' : World} {v : Value} {xs : List α} {A : Option Addr} {n : Nat}
theorem R_mod (h : d.R e w base ok v xs) (hm : Mod S w w') (hn : ∀ k, ok k → ¬ S k) : d.R e w' base ok v xs := Kd.R_step h (fun k ho hlt => hm.block k hlt (hn k ho))
theorem F_mod (h : d.F w ok A n xs) (hm : Mod S w w') (hn : ∀ k, ok k → ¬ S k) : d.F w' ok A n xs := Kd.F_step h (fun k ho hlt => hm.block k hlt (hn k ho))
end

/-! ### Bytes -/
def toI (bs : List UInt8) : List Int := bs.map fun b => (b.toNat : Int)
theorem toI_length (bs : List UInt8) : (toI bs).length = bs.length := by simp [toI]
theorem toI_append (a b : List UInt8) : toI (a ++ b) = toI a ++ toI b := by simp [toI]
theorem toI_take (a : List UInt8) (n : Nat) : (toI a).take n = toI (a.take n) := by simp [toI, List.map_take]
theorem toI_drop (a : List UInt8) (n : Nat) : (toI a).drop n = toI (a.drop n) := by simp [toI, List.map_drop]
abbrev u8 : Kd Int := Kd.int .u8

/-! ### A disk -/
/-- Bytes at a place. -/
structure Wr where
  at_ : Nat
  b : List UInt8
/-- What stands, what lasts, what waits; armed, the limit, the steps done. -/
structure DS where
  now : List UInt8
  lasts : List UInt8
  waits : List Wr
  armed : Int
  limit : Int
  done : Int
/-- A write that waits, in memory: its place, its bytes. -/
abbrev wk : Kd (Int × List Int) := Kd.pair (Kd.int .i64) (Kd.slice 5 u8)
def encW (x : Wr) : Int × List Int := ((x.at_ : Int), toI x.b)
def encWs (l : List Wr) : List (Int × List Int) := l.map encW
theorem encWs_length (l : List Wr) : (encWs l).length = l.length := by simp [encWs]
/-- Disk ds lies at block g; what its calls turn lies in S, what they only read in RO. -/
structure DkAt (W : World) (S RO : Nat → Prop) (g : Nat) (ds : DS) (n capn : Nat) (lv wv : Value) : Prop where
  blk : W.heap[g]? = some (.cells #[.slice (some ⟨n, 0, none⟩) ds.now.length capn, lv, wv, .int .i64 ds.armed, .int .i64 ds.limit, .int .i64 ds.done] 65 (0, 0))
  sg : S g
  sn : S n
  ng : n ≠ g
  pos : 0 < ds.now.length
  apart : ∀ q, RO q → ¬ S q
  now : Kd.R u8 5 W 0 (fun q => q = n) (.slice (some ⟨n, 0, none⟩) ds.now.length capn) (toI ds.now)
  lasts : Kd.R u8 5 W 0 RO lv (toI ds.lasts)
  wown : ∀ q, wv.ownBlock = some q → S q ∧ q ≠ n ∧ q ≠ g
  waits : Kd.R wk 69 W 0 (fun q => some q = wv.ownBlock ∨ RO q) wv (encWs ds.waits)
def Dk (W : World) (S RO : Nat → Prop) (g : Nat) (ds : DS) : Prop := ∃ n capn lv wv, DkAt W S RO g ds n capn lv wv
section
variable {W W' : World} {S RO S' RO' : Nat → Prop} {g n capn : Nat} {ds : DS} {lv wv : Value}
theorem DkAt.mod (h : DkAt W S RO g ds n capn lv wv) {M : Nat → Prop} (hm : Mod M W W') (hs : ∀ q, S q ∨ RO q → ¬ M q) : DkAt W' S RO g ds n capn lv wv :=
  ⟨hm.blk h.blk (hs g (.inl h.sg)), h.sg, h.sn, h.ng, h.pos, h.apart, R_mod h.now hm (fun q e => hs q (.inl (e ▸ h.sn))), R_mod h.lasts hm (fun q e => hs q (.inr e)), h.wown,
    R_mod h.waits hm (fun q e => e.elim (fun e => hs q (.inl (h.wown q e.symm).1)) (fun e => hs q (.inr e)))⟩
theorem Dk.mod (h : Dk W S RO g ds) {M : Nat → Prop} (hm : Mod M W W') (hs : ∀ q, S q ∨ RO q → ¬ M q) : Dk W' S RO g ds := by
  obtain ⟨n, capn, lv, wv, h⟩ := h
  exact ⟨n, capn, lv, wv, h.mod hm hs⟩
theorem Dk.below (h : Dk W S RO g ds) (hb : Below W.heap.size W W') : Dk W' S RO g ds := h.mod (Mod.of_below (S := fun _ => False) hb) (fun _ _ h => h)
/-- All that a disk has is there already. -/
theorem Dk.bound (h : Dk W S RO g ds) : Dk W (fun q => S q ∧ q < W.heap.size) (fun q => RO q ∧ q < W.heap.size) g ds := by
  obtain ⟨n, capn, lv, wv, h⟩ := h
  have hn := (Kd.R_lt h.now) n rfl
  refine ⟨n, capn, lv, wv, h.blk, ⟨h.sg, (Array.getElem?_eq_some_iff.1 h.blk).1⟩, ⟨h.sn, hn⟩, h.ng, h.pos, fun q hq hs => h.apart q hq.1 hs.1, h.now, Kd.R_mono (Kd.R_bound h.lasts) (fun q hq => ⟨hq.1, hq.2.2.1⟩),
    fun q hq => ⟨⟨(h.wown q hq).1, Kd.R_lt h.waits q hq⟩, (h.wown q hq).2⟩, Kd.R_mono (Kd.R_bound h.waits) (fun q hq => hq.1.imp id (fun e => ⟨e, hq.2.2.1⟩))⟩
theorem Dk.mono (h : Dk W S RO g ds) (hS : ∀ q, S q → S' q) (hR : ∀ q, RO q → RO' q) (ha : ∀ q, RO' q → ¬ S' q) : Dk W S' RO' g ds := by
  obtain ⟨n, capn, lv, wv, h⟩ := h
  exact ⟨n, capn, lv, wv, h.blk, hS g h.sg, hS n h.sn, h.ng, h.pos, ha, h.now, Kd.R_mono h.lasts hR, fun q hq => ⟨hS q (h.wown q hq).1, (h.wown q hq).2⟩, Kd.R_mono h.waits (fun q hq => hq.imp id (hR q))⟩
theorem DkAt.cell (h : DkAt W S RO g ds n capn lv wv) :
    W.cell? ⟨g, 0, none⟩ = some (.slice (some ⟨n, 0, none⟩) ds.now.length capn) ∧ W.cell? ⟨g, 1, none⟩ = some lv ∧ W.cell? ⟨g, 2, none⟩ = some wv ∧
    W.cell? ⟨g, 3, none⟩ = some (.int .i64 ds.armed) ∧ W.cell? ⟨g, 4, none⟩ = some (.int .i64 ds.limit) ∧ W.cell? ⟨g, 5, none⟩ = some (.int .i64 ds.done) :=
  ⟨(cell_of_row _ _ _ _ _ _ h.blk).trans rfl, (cell_of_row _ _ _ _ _ _ h.blk).trans rfl, (cell_of_row _ _ _ _ _ _ h.blk).trans rfl, (cell_of_row _ _ _ _ _ _ h.blk).trans rfl,
    (cell_of_row _ _ _ _ _ _ h.blk).trans rfl, (cell_of_row _ _ _ _ _ _ h.blk).trans rfl⟩
theorem DkAt.frozen (h : DkAt W S RO g ds n capn lv wv) (j : Nat) : W.frozen? ⟨g, j, none⟩ = false := frozen_of_row _ _ _ _ _ h.blk
end
end Go.Proofs.Ytolighikimpbfaa
