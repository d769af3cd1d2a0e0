/- What a call may turn; a value in memory; ber.must. -/
import Derived.Test.YtlmelbnmfhpacaaPBerEncodesx1
import Derived.Recover
import Derived.StillTailTactics
import Derived.Shelf.RegionOpen
import Derived.BigQuiet
import Derived.WalkLawsBesides
set_option linter.unusedVariables false
set_option linter.unusedSimpArgs false
namespace Go.Proofs.Ytlmelbnmfhpacaa
open Go.RowKit Go.Shelf Go.Proofs.YtlmelbnmfhpacaaW.PrintWords Go.Proofs.YtlmelbnmfhpacaaW.PrintMore Go.Proofs.YtlmelbnmfhpacaaW.PrintLast

/-! ### What a call may turn -/
/-- w' is w but for the blocks of S, and more. -/
structure Mod (S : Nat → Prop) (w w' : World) : Prop where
  os : w'.os = w.os
  tape : w'.tape = w.tape
  output : w'.output = w.output
  size : w.heap.size ≤ w'.heap.size
  block : ∀ k, k < w.heap.size → ¬ S k → w'.heap[k]? = w.heap[k]?
namespace Mod
variable {S S' : Nat → Prop} {a b c : World}
theorem refl (S : Nat → Prop) (w : World) : Mod S w w := ⟨rfl, rfl, rfl, Nat.le_refl _, fun _ _ _ => rfl⟩
theorem trans (h : Mod S a b) (k : Mod S' b c) (hs : ∀ q, S' q → S q ∨ a.heap.size ≤ q) : Mod S a c :=
  ⟨k.os.trans h.os, k.tape.trans h.tape, k.output.trans h.output, Nat.le_trans h.size k.size, fun q hq hn =>
    (k.block q (Nat.lt_of_lt_of_le hq h.size) (fun h' => by rcases hs q h' with h1 | h1; exact hn h1; omega)).trans (h.block q hq hn)⟩
theorem mono (h : Mod S a b) (hs : ∀ q, S q → S' q) : Mod S' a b := ⟨h.os, h.tape, h.output, h.size, fun q hq hn => h.block q hq (fun h' => hn (hs q h'))⟩
theorem of_below (h : Below a.heap.size a b) : Mod S a b := ⟨h.os, h.tape, h.output, h.size, fun q hq _ => h.block q hq⟩
theorem of_grown {row : Option Nat} (h : a.grownBy b row) (hr : ∀ q, row = some q → S q ∨ a.heap.size ≤ q) : Mod S a b :=
  ⟨h.os, h.tape, h.output, h.size, fun q hq hn => h.block q hq (fun e => by rcases hr q e.symm with h1 | h1; exact hn h1; omega)⟩
theorem setCell (h : Mod S a b) {p : Addr} (hp : S p.block ∨ a.heap.size ≤ p.block) (u : Value) : Mod S a (b.setCell p u) :=
  ⟨h.os, h.tape, h.output, by simp; exact h.size, fun q hq hn => (Below.heap_setCell b p u q (fun e => by subst e; rcases hp with h1 | h1; exact hn h1; omega)).trans (h.block q hq hn)⟩
theorem alloc (h : Mod S a b) (o : Obj) : Mod S a (b.alloc o) := h.trans (of_below (S := fun _ => False) (below_alloc (Below.refl _ _) o)) (fun _ h => h.elim)
theorem drew (h : Mod S a b) : Mod S a b.drew := ⟨h.os, h.tape, h.output, h.size, h.block⟩
theorem drewN (h : Mod S a b) (n : Nat) : Mod S a (b.drewN n) := ⟨h.os, h.tape, h.output, h.size, h.block⟩
theorem then_below (h : Mod S a b) (k : Below b.heap.size b c) : Mod S a c := h.trans (of_below (S := fun _ => False) k) (fun _ h => h.elim)
theorem below {B : Nat} (h : Mod S a b) (hs : ∀ q, S q → B ≤ q) (hB : B ≤ a.heap.size) : Below B a b := ⟨h.os, h.tape, h.output, h.size, fun q hq => h.block q (by omega) (fun h' => by have := hs q h'; omega)⟩
theorem blk {g : Nat} {o : Obj} (h : Mod S a b) (hg : a.heap[g]? = some o) (hn : ¬ S g) : b.heap[g]? = some o := (h.block g (Array.getElem?_eq_some_iff.1 hg).1 hn).trans hg
end Mod
section
variable {α : Type} {d : Kd α} {e base : Nat} {ok S : Nat → Prop} {w w' : World} {v : Value} {xs : List α} {A : Option Addr} {n : Nat}
theorem R_mod (h : d.R e w base ok v xs) (hm : Mod S w w') (hn : ∀ k, ok k → ¬ S k) : d.R e w' base ok v xs := Kd.R_step h (fun k ho hlt => hm.block k hlt (hn k ho))
theorem F_mod (h : d.F w ok A n xs) (hm : Mod S w w') (hn : ∀ k, ok k → ¬ S k) : d.F w' ok A n xs := Kd.F_step h (fun k ho hlt => hm.block k hlt (hn k ho))
end


/-! ### Values -/
/-- A value. -/
abbrev T := PBerEncodes.S26
abbrev kT : Kd T := PBerEncodes.k26
abbrev kU : Kd Int := Kd.int .u8
theorem heapT : Kd.Heap kT := Kd.heap_fix (fun _ hd => Kd.heap_iso _ (Kd.heap_pair (Kd.heap_int _) (Kd.heap_pair (Kd.heap_int _) (Kd.heap_pair Kd.heap_bool (Kd.heap_pair (Kd.heap_slice 5 (Kd.heap_int _)) (Kd.heap_slice 26 hd))))))
/-- A value by value, in a world. -/
structure Bv (w : World) (x : T) (A : Option Addr) (c : Nat) (B : Option Addr) (d : Nat) : Prop where
  lb : x.f3.length ≤ c
  cb : kU.C w A x.f3.length x.f3
  li : x.f4.length ≤ d
  ci : kT.C w B x.f4.length x.f4
/-- The value as the machine holds it. -/
def bv (x : T) (A : Option Addr) (c : Nat) (B : Option Addr) (d : Nat) : Value := .agg #[.int .u8 x.f0, .int .u8 x.f1, .bool x.f2, .slice A x.f3.length c, .slice B x.f4.length d]
def bvs (x : T) (A : Option Addr) (c : Nat) (B : Option Addr) (d : Nat) : Array Value := #[.int .u8 x.f0, .int .u8 x.f1, .bool x.f2, .slice A x.f3.length c, .slice B x.f4.length d]
/-- A value by value, in a world; what it leads to lies in ok. -/
structure BvF (w : World) (ok : Nat → Prop) (x : T) (A : Option Addr) (c : Nat) (B : Option Addr) (d : Nat) : Prop where
  lb : x.f3.length ≤ c
  cb : kU.F w ok A x.f3.length x.f3
  li : x.f4.length ≤ d
  ci : kT.F w ok B x.f4.length x.f4
theorem BvF.now {w : World} {ok : Nat → Prop} {x : T} {A : Option Addr} {c : Nat} {B : Option Addr} {d : Nat} (h : BvF w ok x A c B d) : Bv w x A c B d := ⟨h.lb, Kd.F_now h.cb, h.li, Kd.F_now h.ci⟩
theorem BvF.mono {w : World} {ok ok' : Nat → Prop} {x : T} {A : Option Addr} {c : Nat} {B : Option Addr} {d : Nat} (h : BvF w ok x A c B d) (hk : ∀ q, ok q → ok' q) : BvF w ok' x A c B d := ⟨h.lb, Kd.F_mono h.cb hk, h.li, Kd.F_mono h.ci hk⟩
theorem BvF.mod {w w' : World} {ok S : Nat → Prop} {x : T} {A : Option Addr} {c : Nat} {B : Option Addr} {d : Nat} (h : BvF w ok x A c B d) (hm : Mod S w w') (hn : ∀ q, ok q → ¬ S q) : BvF w' ok x A c B d := ⟨h.lb, F_mod h.cb hm hn, h.li, F_mod h.ci hm hn⟩
theorem BvF.below {w w' : World} {ok : Nat → Prop} {x : T} {A : Option Addr} {c : Nat} {B : Option Addr} {d : Nat} (h : BvF w ok x A c B d) (hb : Below w.heap.size w w') : BvF w' ok x A c B d := ⟨h.lb, Kd.F_below h.cb hb, h.li, Kd.F_below h.ci hb⟩
/-- A call answers a value, in memory of its own. -/
def Gives (x : T) (w : World) (e : Ending) (w' : World) : Prop := (∃ A c B d, e = .returned (bv x A c B d) ∧ BvF w' (fun q => w.heap.size ≤ q) x A c B d) ∧ Below w.heap.size w w'
theorem Bv.below {w w' : World} {x : T} {A : Option Addr} {c : Nat} {B : Option Addr} {d : Nat} (h : Bv w x A c B d) (hb : Below w.heap.size w w') : Bv w' x A c B d := ⟨h.lb, Kd.C_below h.cb hb, h.li, Kd.C_below h.ci hb⟩
theorem Bv.cells {w : World} {x : T} {cs : List Value} (h : kT.K w x cs) : ∃ A c B d, cs = (bvs x A c B d).toList ∧ Bv w x A c B d := by
  obtain ⟨A, c, B, d, e, h1, h2, h3, h4⟩ := PBerEncodes.k26_open h
  exact ⟨A, c, B, d, e, ⟨h1, h2, h3, h4⟩⟩
theorem Bv.K {w : World} {x : T} {A : Option Addr} {c : Nat} {B : Option Addr} {d : Nat} (h : Bv w x A c B d) : kT.K w x (bvs x A c B d).toList := PBerEncodes.k26_mk w x h.lb h.cb h.li h.ci

/-! ### must -/
abbrev stopE (n : Int) : Ending := .panicked [{ v := .iface 82 (.agg #[.int .i64 n]), recovered := false }]
theorem must_yes (n : Int) (w : World) : Calls Try.prog 41 #[.bool true, .int .i64 n] w fun e w' => e = .returned (.tuple #[]) ∧ w' = w := by
  go_enter Try.func41, Try.ntmps41
  go_wp2_with fail
  go_end0
  exact ⟨rfl, rfl⟩
theorem must_no (n : Int) (w : World) : Calls Try.prog 41 #[.bool false, .int .i64 n] w fun e w' => e = stopE n ∧ w' = w := by
  go_enter Try.func41, Try.ntmps41
  go_wp2_with fail
  exact ⟨rfl, rfl, rfl⟩
/-! ### Boxes of values -/
/-- Block b holds these five cells. -/
def Box (w : World) (b : Nat) (v0 v1 v2 v3 v4 : Value) : Prop := w.heap[b]? = some (.cells #[v0, v1, v2, v3, v4] 26 (0, 0))
theorem Box.lt {w : World} {b : Nat} {v0 v1 v2 v3 v4 : Value} (h : Box w b v0 v1 v2 v3 v4) : b < w.heap.size := blk_lt h
theorem Box.below {w w' : World} {b : Nat} {v0 v1 v2 v3 v4 : Value} (h : Box w b v0 v1 v2 v3 v4) (hb : Below w.heap.size w w') : Box w' b v0 v1 v2 v3 v4 := (hb.block _ h.lt).trans h
theorem Box.mod {w w' : World} {S : Nat → Prop} {b : Nat} {v0 v1 v2 v3 v4 : Value} (h : Box w b v0 v1 v2 v3 v4) (hm : Mod S w w') (hn : ¬ S b) : Box w' b v0 v1 v2 v3 v4 := hm.blk h hn
theorem Box.cells {w : World} {b : Nat} {v0 v1 v2 v3 v4 : Value} (h : Box w b v0 v1 v2 v3 v4) : w.cell? ⟨b, 0, none⟩ = some v0 ∧ w.cell? ⟨b, 1, none⟩ = some v1 ∧ w.cell? ⟨b, 2, none⟩ = some v2 ∧ w.cell? ⟨b, 3, none⟩ = some v3 ∧ w.cell? ⟨b, 4, none⟩ = some v4 :=
  ⟨(blk_cell h 0).trans rfl, (blk_cell h 1).trans rfl, (blk_cell h 2).trans rfl, (blk_cell h 3).trans rfl, (blk_cell h 4).trans rfl⟩
theorem Box.free {w : World} {b : Nat} {v0 v1 v2 v3 v4 : Value} (h : Box w b v0 v1 v2 v3 v4) : w.frozen? ⟨b, 0, none⟩ = false ∧ w.frozen? ⟨b, 1, none⟩ = false ∧ w.frozen? ⟨b, 2, none⟩ = false ∧ w.frozen? ⟨b, 3, none⟩ = false ∧ w.frozen? ⟨b, 4, none⟩ = false :=
  ⟨blk_frozen h 0, blk_frozen h 1, blk_frozen h 2, blk_frozen h 3, blk_frozen h 4⟩
theorem box_new (w : World) (v0 v1 v2 v3 v4 : Value) : Box (w.alloc (.cells #[v0, v1, v2, v3, v4] 26)) w.heap.size v0 v1 v2 v3 v4 := heap_alloc_new w _
theorem put5 {w : World} {b : Nat} {u0 u1 u2 u3 u4 : Value} (h : Box w b u0 u1 u2 u3 u4) (v0 v1 v2 v3 v4 : Value) :
    ∃ w', (((((w.setCell ⟨b, 0, none⟩ v0).setCell ⟨b, 1, none⟩ v1).setCell ⟨b, 2, none⟩ v2).setCell ⟨b, 3, none⟩ v3).setCell ⟨b, 4, none⟩ v4) = w' ∧ Box w' b v0 v1 v2 v3 v4 ∧ Mod (fun q => q = b) w w' := by
  refine ⟨_, rfl, ?_, ?_⟩
  · have h0 := blk_set h 0 v0
    have h1 := blk_set h0 1 v1
    have h2 := blk_set h1 2 v2
    have h3 := blk_set h2 3 v3
    have h4 := blk_set h3 4 v4
    simpa [Box] using h4
  · exact ((((((Mod.refl (fun q => q = b) w).setCell (p := ⟨b, 0, none⟩) (.inl rfl) v0).setCell (p := ⟨b, 1, none⟩) (.inl rfl) v1).setCell (p := ⟨b, 2, none⟩) (.inl rfl) v2).setCell (p := ⟨b, 3, none⟩) (.inl rfl) v3).setCell (p := ⟨b, 4, none⟩) (.inl rfl) v4)
theorem put5_mod {a w w' : World} {b : Nat} (h : Mod (fun q => q = b) w w') (ha : Below a.heap.size a w) (hb : a.heap.size ≤ b) : Below a.heap.size a w' :=
  Mod.below (S := fun q => a.heap.size ≤ q) ((Mod.of_below ha).trans h (fun q hq => .inl (by rw [hq]; exact hb))) (fun q hq => hq) (Nat.le_refl _)
theorem cell_at {w w' : World} {a : Addr} (h : w'.heap[a.block]? = w.heap[a.block]?) : w'.cell? a = w.cell? a := by simp [World.cell?, h]
theorem add_block (a : Addr) (i : Nat) : (a.add i).block = a.block := by unfold Addr.add; split <;> rfl
theorem kU_F {w : World} {ok : Nat → Prop} {A : Option Addr} {n : Nat} {xs : List Int} (h : kU.C w A n xs) (hf : ∀ ad, A = some ad → 0 < n → ok ad.block) : kU.F w ok A n xs := by
  intro W' hW
  refine ⟨h.1, h.2.1, fun hn => ?_⟩
  obtain ⟨ad, e, hc⟩ := h.2.2 hn
  refine ⟨ad, e, fun j p hj => ?_⟩
  obtain ⟨cs, h1, h2, h3⟩ := hc j p hj
  refine ⟨cs, h1, h2, fun i u hu => ?_⟩
  have h4 := h3 i u hu
  rw [cell_at, h4]
  rw [add_block]
  have hlt := World.block_lt_of_cell? w _ h4
  rw [add_block] at hlt
  exact hW _ (hf ad e hn) hlt
theorem u8_mod {w w' : World} {S : Nat → Prop} {A : Option Addr} {n : Nat} {xs : List Int} (h : kU.C w A n xs) (hm : Mod S w w') (hf : ∀ ad, A = some ad → 0 < n → ¬ S ad.block) : kU.C w' A n xs :=
  Kd.C_foot_neS (S := S) (fun hk => hk) h hf w' ⟨hm.size, fun k hk hn => hm.block k hk hn⟩
theorem bytes_C (w : World) (s : ByteArray) (hs : s.size ≤ 9223372036854775807) : kU.C (Lib.bytesWorld w 5 s) (some ⟨w.heap.size, 0, none⟩) (bytesOf s).length (bytesOf s) := by
  refine ⟨rfl, by rw [bytesOf_length]; exact hs, fun _ => ⟨_, rfl, fun j p hj => ?_⟩⟩
  have hj' := (List.getElem?_eq_some_iff.1 hj).1
  rw [bytesOf_length] at hj'
  refine ⟨[.int .u8 p], rfl, rfl, fun i u hu => ?_⟩
  have hi : i = 0 := by have := (List.getElem?_eq_some_iff.1 hu).1; simp at this; omega
  subst hi
  obtain rfl := Option.some.inj hu
  have h2 : (⟨w.heap.size, 0, none⟩ : Addr).add (j * kU.sz + 0) = ⟨w.heap.size, j, none⟩ := by rw [add_plain]; show (⟨_, j * 1 + 0, none⟩ : Addr) = _; rw [Nat.mul_one]; rfl
  rw [h2, Lib.bytesWorld_cell w 5 s j hj']
  have hd : j < s.data.toList.length := by rw [data_length]; exact hj'
  have : p = (s.data.toList[j].toNat : Int) := by
    have := hj
    unfold bytesOf at this
    rw [List.getElem?_map, List.getElem?_eq_getElem hd] at this
    exact (Option.some.inj this).symm
  rw [this]
  simp [List.getD_eq_getElem?_getD, List.getElem?_eq_getElem hd]
set_option maxHeartbeats 1000000 in
theorem text_calls (s : ByteArray) (w : World) (hs : s.size ≤ 1000000) : Calls Try.prog 11 #[.string s] w (Gives ⟨0, 4, false, bytesOf s, []⟩ w) := by
  have kb := fun W => print_bytes (P := Try.prog) 9 23 5 Try.underlying9 Try.underlying23 Try.underlying5 s W
  have hB := box_new w (.int .u8 0) (.int .u8 0) (.bool false) (.slice none 0 0) (.slice none 0 0)
  have hb1 := below_alloc (Below.refl w.heap.size w) (.cells #[.int .u8 0, .int .u8 0, .bool false, .slice none 0 0, .slice none 0 0] 26)
  obtain ⟨w1, hw1⟩ : ∃ w1, w.alloc (.cells #[.int .u8 0, .int .u8 0, .bool false, .slice none 0 0, .slice none 0 0] 26) = w1 := ⟨_, rfl⟩
  rw [hw1] at hB hb1
  have hb2 := bytes_below hb1 hb1.size 5 s
  have hb2' := bytes_below (Below.refl w1.heap.size w1) (Nat.le_refl _) 5 s
  have kb1 := kb w1
  have hC := bytes_C w1 s (by omega)
  have hcap' : s.size ≤ grownCap w1 s.size 0 5 := grownCap_ge w1 _ _ _
  clear kb
  obtain ⟨w2, hw2⟩ : ∃ w2, Lib.bytesWorld w1 5 s = w2 := ⟨_, rfl⟩
  obtain ⟨cap, hcap⟩ : ∃ cap, grownCap w1 s.size 0 5 = cap := ⟨_, rfl⟩
  rw [hw2] at hb2 hb2' kb1 hC
  rw [hcap] at kb1 hcap'
  have hB2 := hB.below hb2'
  clear hw2 hcap hb2' hb1 hB
  obtain ⟨w3, hw3, hB3, hm3⟩ := put5 hB2 (.int .u8 0) (.int .u8 4) (.bool false) (.slice (some ⟨w1.heap.size, 0, none⟩) s.size cap) (.slice none 0 0)
  have hz : w1.heap.size = w.heap.size + 1 := by rw [← hw1]; simp
  have hb3 := put5_mod hm3 hb2 (Nat.le_refl _)
  have hC3 := Kd.F_mono (ok' := fun q => w.heap.size ≤ q) (F_mod (kU_F (ok := fun q => w1.heap.size ≤ q) hC (fun ad e _ => by injection e with e; subst e; exact Nat.le_refl _)) hm3 (fun q hq h => by subst h; omega)) (fun q hq => by omega)
  obtain ⟨c0, c1, c2, c3, c4⟩ := hB2.cells
  obtain ⟨f0, f1, f2, f3, f4⟩ := hB2.free
  obtain ⟨d0, d1, d2, d3, d4⟩ := hB3.cells
  replace hB2 := Aside0.mk hB2
  clear hz
  go_enter Try.func11, Try.ntmps11
  go_wp2_with fail
  refine bodyPost_ret (v := .agg #[.int .u8 0, .int .u8 4, .bool false, .slice (some ⟨w1.heap.size, 0, none⟩) s.size cap, .slice none 0 0]) (by simp [results, Try.results11, go_sem, d0, d1, d2, d3, d4]) rfl ⟨⟨some ⟨w1.heap.size, 0, none⟩, cap, none, 0, by unfold bv; rw [bytesOf_length]; rfl, ⟨by rw [bytesOf_length]; exact hcap', hC3, Nat.le_refl _, Kd.F_nil _ _ _⟩⟩, hb3⟩
end Go.Proofs.Ytlmelbnmfhpacaa
