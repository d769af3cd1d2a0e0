/- What a call may turn; texts in a row; entry.rises: do texts rise? -/
import Derived.Test.YtgnmkblaockghaaQJb
import Derived.BigQuiet
import Derived.Laws.Cover1
set_option linter.unusedVariables false
set_option linter.unusedSimpArgs false
namespace Go.Proofs.Ytgnmkblaockghaa
open Go.RowKit Go.Shelf Go.Proofs.YtgnmkblaockghaaW.PrintWords Go.Proofs.YtgnmkblaockghaaW.PrintMore Go.Proofs.YtgnmkblaockghaaW.PrintLast

/-! ### What a call may turn -/
/-- w' is w but for the blocks of S, and more. -/
structure Mod (S : Nat → Prop) (w w' : World) : Prop where
  os : w'.os = w.os
  tape : w'.tape = w.tape
  output : w'.output = w.output
  size : w.heap.size ≤ w'.heap.size
  block : ∀ k, k < w.heap.size → ¬ S k → w'.heap[k]? = w.heap[k]?
namespace Mod
variable {S S' : Nat → Prop} {a b c : World}
theorem refl (S : Nat → Prop) (w : World) : Mod S w w := ⟨rfl, rfl, rfl, Nat.le_refl _, fun _ _ _ => rfl⟩
theorem trans (h : Mod S a b) (k : Mod S' b c) (hs : ∀ q, S' q → S q ∨ a.heap.size ≤ q) : Mod S a c :=
  ⟨k.os.trans h.os, k.tape.trans h.tape, k.output.trans h.output, Nat.le_trans h.size k.size, fun q hq hn =>
    (k.block q (Nat.lt_of_lt_of_le hq h.size) (fun h' => by rcases hs q h' with h1 | h1; exact hn h1; omega)).trans (h.block q hq hn)⟩
theorem mono (h : Mod S a b) (hs : ∀ q, S q → S' q) : Mod S' a b := ⟨h.os, h.tape, h.output, h.size, fun q hq hn => h.block q hq (fun h' => hn (hs q h'))⟩
theorem of_below (h : Below a.heap.size a b) : Mod S a b := ⟨h.os, h.tape, h.output, h.size, fun q hq _ => h.block q hq⟩
theorem of_grown {row : Option Nat} (h : a.grownBy b row) (hr : ∀ q, row = some q → S q ∨ a.heap.size ≤ q) : Mod S a b :=
  ⟨h.os, h.tape, h.output, h.size, fun q hq hn => h.block q hq (fun e => by rcases hr q e.symm with h1 | h1; exact hn h1; omega)⟩
theorem setCell (h : Mod S a b) {p : Addr} (hp : S p.block ∨ a.heap.size ≤ p.block) (u : Value) : Mod S a (b.setCell p u) :=
  ⟨h.os, h.tape, h.output, by simp; exact h.size, fun q hq hn => (Below.heap_setCell b p u q (fun e => by subst e; rcases hp with h1 | h1; exact hn h1; omega)).trans (h.block q hq hn)⟩
theorem alloc (h : Mod S a b) (o : Obj) : Mod S a (b.alloc o) := h.trans (of_below (S := fun _ => False) (below_alloc (Below.refl _ _) o)) (fun _ h => h.elim)
theorem drew (h : Mod S a b) : Mod S a b.drew := ⟨h.os, h.tape, h.output, h.size, h.block⟩
theorem drewN (h : Mod S a b) (n : Nat) : Mod S a (b.drewN n) := ⟨h.os, h.tape, h.output, h.size, h.block⟩
theorem then_below (h : Mod S a b) (k : Below b.heap.size b c) : Mod S a c := h.trans (of_below (S := fun _ => False) k) (fun _ h => h.elim)
theorem below {B : Nat} (h : Mod S a b) (hs : ∀ q, S q → B ≤ q) (hB : B ≤ a.heap.size) : Below B a b := ⟨h.os, h.tape, h.output, h.size, fun q hq => h.block q (by omega) (fun h' => by have := hs q h'; omega)⟩
theorem blk {g : Nat} {o : Obj} (h : Mod S a b) (hg : a.heap[g]? = some o) (hn : ¬ S g) : b.heap[g]? = some o := (h.block g (Array.getElem?_eq_some_iff.1 hg).1 hn).trans hg
end Mod
section
variable {α : Type} {d : Kd α} {e base : Nat} {ok S : Nat → Prop} {w w' : World} {v : Value} {xs : List α} {A : Option Addr} {n : Nat}
theorem R_mod (h : d.R e w base ok v xs) (hm : Mod S w w') (hn : ∀ k, ok k → ¬ S k) : d.R e w' base ok v xs := Kd.R_step h (fun k ho hlt => hm.block k hlt (hn k ho))
theorem F_mod (h : d.F w ok A n xs) (hm : Mod S w w') (hn : ∀ k, ok k → ¬ S k) : d.F w' ok A n xs := Kd.F_step h (fun k ho hlt => hm.block k hlt (hn k ho))
end

abbrev Fld := List ByteArray
abbrev st : Kd ByteArray := Kd.string
/-- A text at a place. -/
theorem str_at {W : World} {A : Option Addr} {l : Fld} (h : st.C W A l.length l) (k : Nat) (hk : k < l.length) : ∃ ad, A = some ad ∧ W.cell? (ad.add k) = some (.string l[k]) := by
  obtain ⟨ad, c, e, _, hK, hc0⟩ := Kd.C_get h ByteArray.empty (k : Int) (by omega) (by omega)
  have hc : ∀ j u, c[j]? = some u → W.cell? (ad.add (k * 1 + j)) = some u := hc0
  have hg : l.getD (k : Int).toNat ByteArray.empty = l[k] := by simp [List.getD_eq_getElem?_getD, hk]
  rw [hg] at hK
  have : c = [.string l[k]] := hK
  subst this
  exact ⟨ad, e, by have hq := hc 0 _ rfl; rwa [Nat.mul_one, Nat.add_zero] at hq⟩
/-- Do the first k texts rise? -/
def RiseTo (l : Fld) (k : Nat) : Prop := ∀ i, (h : i + 1 < l.length) → i + 1 < k → Op.bytesLess l[i].toList l[i + 1].toList = true
noncomputable instance (l : Fld) (k : Nat) : Decidable (RiseTo l k) := Classical.propDecidable _
noncomputable def rise (l : Fld) : Bool := decide (RiseTo l l.length)
theorem rise_next {l : Fld} {k : Nat} (h : RiseTo l k) (hk : k < l.length) (h0 : 1 ≤ k) (e : Op.bytesLess l[k - 1].toList l[k].toList = true) : RiseTo l (k + 1) := by
  intro i hi hik
  by_cases he : i + 1 = k
  · subst he; exact e
  · exact h i hi (by omega)
theorem rise_no {l : Fld} {k : Nat} (hk : k < l.length) (h0 : 1 ≤ k) (e : Op.bytesLess l[k - 1].toList l[k].toList = false) : rise l = false := by
  unfold rise
  refine decide_eq_false (fun h => ?_)
  have := h (k - 1) (by omega) (by omega)
  rw [show l[k - 1 + 1]'(by omega) = l[k] by congr 1; omega, e] at this
  cases this
theorem rise_yes {l : Fld} {k : Nat} (h : RiseTo l k) (hk : l.length ≤ k) : rise l = true := decide_eq_true (fun i hi hik => h i hi (by omega))
theorem rise_start (l : Fld) : RiseTo l 1 := fun i _ h => by omega
set_option maxRecDepth 8000 in
set_option maxHeartbeats 1000000 in
theorem rises_calls (A : Option Addr) (c : Nat) (l : Fld) (w : World) (hl : l.length ≤ 1000) (hC : st.C w A l.length l) :
    Calls Try.prog 54 #[.slice A l.length c] w fun e w' => e = .returned (.bool (rise l)) ∧ Below w.heap.size w w' := by
  obtain ⟨M, hM⟩ : ∃ M, l.length = M := ⟨_, rfl⟩
  replace hC := Aside0.mk hC
  rw [hM] at hl ⊢
  replace hM := Aside0.mk hM
  have hb0 : Aside0 (Below w.heap.size w w) := Aside0.mk (Below.refl _ _)
  go_enter Try.func54, Try.ntmps54
  go_wp2
  go_loopw [3] (fun s3 wr => ∃ k : Nat, 1 ≤ k ∧ k ≤ M + 1 ∧ s3 = .int .i64 k ∧ Aside0 (Below w.heap.size w wr) ∧ Aside0 (RiseTo l k)) (fun s3 _ => M - (intOf s3).toNat)
  case atStart => exact ⟨1, by omega, by omega, rfl, hb0, ⟨rise_start l⟩⟩
  case round =>
    clear hb0
    obtain ⟨k, hk1, hk, rfl, hb, ha⟩ := hrel
    by_cases hlt : k < M
    · have hkl : k < l.length := by rw [hM.out]; exact hlt
      obtain ⟨ad, e, p0⟩ := str_at hC.out k hkl
      obtain ⟨ad2, e2, p1⟩ := str_at hC.out (k - 1) (by omega)
      rw [e] at e2
      injection e2 with e2
      subst e2
      subst e
      replace p0 := pw_cell_below hb.out p0
      replace p1 := pw_cell_below hb.out p1
      have hnx := Aside0.mk (rise_next ha.out hkl hk1)
      have hno := Aside0.mk (rise_no hkl hk1)
      obtain ⟨x, hx⟩ : ∃ x, l[k] = x := ⟨_, rfl⟩
      obtain ⟨y, hy⟩ : ∃ y, l[k - 1] = y := ⟨_, rfl⟩
      rw [hx] at p0 hnx hno
      rw [hy] at p1 hnx hno
      have i0 : wrap64 ((k : Int) - 1) = (k : Int) - 1 := by unfold wrap64; omega
      have i1 : (0 : Int) ≤ (k : Int) - 1 := by omega
      have i4 : (1 : Int) ≤ (k : Int) := by omega
      have i2 : (k : Int) - 1 < (M : Int) := by omega
      have i3 : ((k : Int) - 1).toNat = k - 1 := by omega
      clear hx hy hkl
      cases hv : Op.bytesLess y.toList x.toList with
      | true =>
        have hz := Aside0.mk (hnx.out hv)
        clear hnx hno
        go_wp2_with fail
        refine start_ (n := 10) (S := fun w' => w'.cell? (ad.add (k - 1)) = some (.string y) ∧ w'.cell? (ad.add k) = some (.string x)) (ds := []) #[false, false, false, false, false, false, false, false, false, false] (by kernel_rfl) rfl rfl ⟨(And.intro p1 p0).1, (And.intro p1 p0).2⟩ (fun hHeld => ?_)
        refine pn_ 0 10 #[true, false, false, false, false, false, false, false, false, false] rfl rfl ?_
        refine pn_ 1 11 #[true, true, false, false, false, false, false, false, false, false] rfl rfl ?_
        refine pn_ 2 12 #[true, true, true, false, false, false, false, false, false, false] rfl rfl ?_
        refine pn_ 3 13 #[true, true, true, true, false, false, false, false, false, false] rfl rfl ?_
        refine pn_ 5 15 #[true, true, true, true, false, true, false, false, false, false] rfl rfl ?_
        refine pn_ 6 16 #[true, true, true, true, false, true, true, false, false, false] rfl rfl ?_
        refine pn_ 7 17 #[true, true, true, true, false, true, true, true, false, false] rfl rfl ?_
        refine tk_ 4 14 #[true, true, true, true, true, true, true, true, false, false] rfl rfl hHeld (by rintro w' ⟨s0, s1⟩; go_simp; with_reducible rfl) ?_
        refine tk_ 8 18 #[true, true, true, true, true, true, true, true, true, false] rfl rfl hHeld (by rintro w' ⟨s0, s1⟩; go_simp; with_reducible rfl) ?_
        refine pn_ 9 19 #[true, true, true, true, true, true, true, true, true, true] rfl rfl ?_
        refine done_ (by kernel_rfl) ?_
        go_wp2_with fail
        go_roundw
        case rel => exact ⟨k + 1, by omega, by omega, by go_num, ⟨hb.out.trans (below_drew (Below.refl _ _))⟩, hz⟩
        case measure => simp [intOf]; omega
      | false =>
        have hz := Aside0.mk (hno.out hv)
        clear hnx hno
        go_wp2_with fail
        refine start_ (n := 10) (S := fun w' => w'.cell? (ad.add (k - 1)) = some (.string y) ∧ w'.cell? (ad.add k) = some (.string x)) (ds := []) #[false, false, false, false, false, false, false, false, false, false] (by kernel_rfl) rfl rfl ⟨(And.intro p1 p0).1, (And.intro p1 p0).2⟩ (fun hHeld => ?_)
        refine pn_ 0 10 #[true, false, false, false, false, false, false, false, false, false] rfl rfl ?_
        refine pn_ 1 11 #[true, true, false, false, false, false, false, false, false, false] rfl rfl ?_
        refine pn_ 2 12 #[true, true, true, false, false, false, false, false, false, false] rfl rfl ?_
        refine pn_ 3 13 #[true, true, true, true, false, false, false, false, false, false] rfl rfl ?_
        refine pn_ 5 15 #[true, true, true, true, false, true, false, false, false, false] rfl rfl ?_
        refine pn_ 6 16 #[true, true, true, true, false, true, true, false, false, false] rfl rfl ?_
        refine pn_ 7 17 #[true, true, true, true, false, true, true, true, false, false] rfl rfl ?_
        refine tk_ 4 14 #[true, true, true, true, true, true, true, true, false, false] rfl rfl hHeld (by rintro w' ⟨s0, s1⟩; go_simp; with_reducible rfl) ?_
        refine tk_ 8 18 #[true, true, true, true, true, true, true, true, true, false] rfl rfl hHeld (by rintro w' ⟨s0, s1⟩; go_simp; with_reducible rfl) ?_
        refine pn_ 9 19 #[true, true, true, true, true, true, true, true, true, true] rfl rfl ?_
        refine done_ (by kernel_rfl) ?_
        go_wp2_with fail
        go_ret
        exact ⟨by rw [hz.out]; rfl, hb.out.trans (below_drew (Below.refl _ _))⟩
    · have h9 := Aside0.mk (rise_yes ha.out (by rw [hM.out]; omega))
      go_wp2_with fail
      go_ret
      exact ⟨by rw [h9.out]; rfl, hb.out⟩
end Go.Proofs.Ytgnmkblaockghaa
