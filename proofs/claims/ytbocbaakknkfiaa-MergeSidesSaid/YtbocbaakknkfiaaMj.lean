/- slices.Clone of texts; a field in dispute. -/
import Derived.Test.YtbocbaakknkfiaaMi
import Derived.Test.YtbocbaakknkfiaaWMore
set_option linter.unusedVariables false
set_option linter.unusedSimpArgs false
namespace Go.Proofs.Ytbocbaakknkfiaa
open Go.RowKit Go.Shelf Go.Proofs.YtbocbaakknkfiaaW.PrintWords Go.Proofs.YtbocbaakknkfiaaW.PrintMore Go.Proofs.YtbocbaakknkfiaaW.PrintLast

theorem info9 : (Try.prog.info? 9).map (fun i => (i.zero, i.size, i.bytes)) = some (some (.string ByteArray.empty), 1, 16) := by kernel_rfl
theorem info3 : (Try.prog.info? 3).map (fun i => (i.zero, i.size, i.bytes)) = some (some (.int .i64 0), 1, 8) := by kernel_rfl
/-- A literal of no elements. -/
theorem R_empty {α : Type} {d : Kd α} {e g : Nat} {w : World} {ok : Nat → Prop} (hg : w.heap[g]? = some (.cells #[] e (0, 0))) (hok : ok g) : d.R e w 0 ok (.slice (some ⟨g, 0, none⟩) 0 0) [] :=
  ⟨fun k hk => by simp [Value.ownBlock] at hk; rw [← hk]; exact hok, [], ⟨by simp, .inr ⟨g, 0, #[], rfl, Nat.zero_le _, hg, Nat.le_refl _, Nat.zero_le _, by simp, by simp⟩⟩, Reps.none _ _⟩
set_option maxHeartbeats 1000000 in
theorem clone_calls (A : Option Addr) (c : Nat) (l : Fld) (w : World) (hC : st.C w A l.length l) (hl : l.length ≤ 1000) :
    Calls Try.prog 23 #[.slice A l.length c] w fun e w' => ∃ A' c', e = .returned (.slice A' l.length c') ∧ st.R 9 w' 0 (fun q => w.heap.size ≤ q) (.slice A' l.length c') l ∧ Below w.heap.size w w' := by
  have hC := Aside0.mk hC
  cases A with
  | none =>
    have h0 : l = [] := by
      rcases Nat.eq_zero_or_pos l.length with h | h
      · exact List.length_eq_zero_iff.1 h
      · obtain ⟨_, h, _⟩ := hC.out.2.2 h; cases h
    subst h0
    have hr := fun (w : World) => Lib.run_eql_slice_nil (P := Try.prog) w 22 9 none 0 c 0 0 Try.underlying22
    go_enter Try.func23, Try.ntmps23
    go_wp2
    go_ret
    exact ⟨_, _, rfl, Kd.R_nil _ _ _ _ _, Below.refl _ _⟩
  | some a =>
    obtain ⟨N, hN⟩ : ∃ N, l.length = N := ⟨_, rfl⟩
    rw [hN] at hC hl ⊢
    have hN := Aside0.mk hN
    have hr := fun (w : World) => Lib.run_eql_slice_nil (P := Try.prog) w 22 9 (some a) N c 0 0 Try.underlying22
    have hE : st.R 9 (w.alloc (.cells #[] 9)) 0 (fun q => w.heap.size ≤ q) (.slice (some ⟨w.heap.size, 0, none⟩) 0 0) [] := R_empty (Go.heap_alloc_new w _) (Nat.le_refl _)
    have hE := Aside0.mk hE
    go_enter Try.func23, Try.ntmps23
    go_wp2_with ((with_reducible refine gate_builtin (b := .append) (xs := #[.tmp 5, .tmp 6]) rfl ?_); at_builtin; refine Kd.R_append_rows st (w0 := w.alloc (.cells #[] 9)) 0 rfl (.tmp 5) (.tmp 6) 22 9 (.string ByteArray.empty) 16 rfl Try.underlying22 info9 rfl (by decide) (by omega) (.slice (some ⟨w.heap.size, 0, none⟩) 0 0) [] l _ _ _ (fun q => w.heap.size ≤ q) (fun _ => False) rfl rfl hE.out (Kd.C_alloc hC.out _) (fun _ _ h => h) (fun _ h => h.elim) (fun k hk => by simp at hk; omega) (Below.refl _ _) (Nat.zero_le _) (by simp; omega) ?_; intro v1 w1 ho _ hg _; replace ho := Aside0.mk ho; replace hg := Aside0.mk hg)
    go_ret
    obtain ⟨A', c', e⟩ := Kd.R_slice ho.out
    rw [List.nil_append, hN.out] at e
    refine ⟨A', c', congrArg _ e, ?_, ?_⟩
    · rw [← e]; exact ho.out
    · exact Mod.below (S := fun q => w.heap.size ≤ q) (Mod.trans (Mod.of_below (below_alloc (Below.refl _ _) _)) (Mod.of_grown (S := fun q => w.heap.size ≤ q) hg.out (fun q hq => by simp [Value.ownBlock] at hq; omega)) (fun q hq => .inl hq)) (fun q hq => hq) (Nat.le_refl _)
/-- The fields in dispute, in memory: box B holds v, a row of the call's own. -/
structure Disp (w : World) (B : Nat) (v : Value) (xs : List Int) : Prop where
  box : w.heap[B]? = some (.cells #[v] 28 (0, 0))
  row : (Kd.int .i64).R 3 w 0 (fun q => some q = v.ownBlock) v xs
  ne : some B ≠ v.ownBlock
  len : xs.length ≤ 1000
theorem Disp.below {w w' : World} {B : Nat} {v : Value} {xs : List Int} (h : Disp w B v xs) (hb : Below w.heap.size w w') : Disp w' B v xs :=
  ⟨(hb.block _ (Array.getElem?_eq_some_iff.1 h.box).1).trans h.box, Kd.R_below h.row hb, h.ne, h.len⟩
set_option maxHeartbeats 1000000 in
theorem disp_calls (B fb : Nat) (f : Int) (v : Value) (xs : List Int) (w : World) (h : Disp w B v xs) (hf : w.cell? ⟨fb, 0, none⟩ = some (.int .i64 f)) (hx : xs.length ≤ 900) :
    Calls Try.prog 26 #[.pointer (some ⟨B, 0, none⟩), .pointer (some ⟨fb, 0, none⟩)] w fun e w' => e = .returned (.tuple #[]) ∧ ∃ v', Disp w' B v' (xs ++ [f]) ∧ (v'.ownBlock = v.ownBlock ∨ ∃ b, v'.ownBlock = some b ∧ w.heap.size ≤ b) ∧ Mod (fun q => q = B ∨ some q = v.ownBlock) w w' := by
  obtain ⟨A, c, rfl⟩ := Kd.R_slice h.row
  have c0 : w.cell? ⟨B, 0, none⟩ = some (.slice A xs.length c) := (cell_of_row _ _ _ _ _ _ h.box).trans rfl
  have hR : (Kd.int .i64).R 3 w 0 (fun q => some q = (Value.slice A xs.length c).ownBlock ∨ w.heap.size ≤ q) (.slice A xs.length c) xs := Kd.R_mono h.row (fun q hq => .inl hq)
  have hBlt := (Array.getElem?_eq_some_iff.1 h.box).1
  obtain ⟨v, hv⟩ : ∃ v, Value.slice A xs.length c = v := ⟨_, rfl⟩
  rw [hv] at c0 hR h ⊢
  have hv := Aside0.mk hv
  have hR := Aside0.mk hR
  have h := Aside0.mk h
  go_enter Try.func26, Try.ntmps26
  go_wp2_with ((with_reducible refine gate_builtin (b := .append) (xs := #[.tmp 2, .tmp 4]) rfl ?_); at_builtin; refine Kd.R_append (Kd.int .i64) (w0 := w) 0 rfl (.tmp 2) (.tmp 4) 28 3 (.int .i64 0) 8 rfl Try.underlying28 info3 rfl (by decide) (by omega) v xs f [.int .i64 f] (fun q => some q = v.ownBlock ∨ w.heap.size ≤ q) (fun _ => False) rfl rfl rfl (fun _ h => h.elim) (fun k hk => .inr hk) hR.out (Below.refl _ _) (Nat.zero_le _) (by omega) ?_)
  intro v1 w1 ho _ hg hat
  obtain ⟨A', c', e1⟩ := Kd.R_slice ho
  rw [List.length_append, List.length_singleton] at e1
  have hb1 : w1.heap[B]? = some (.cells #[v] 28 (0, 0)) := (hg.block B hBlt h.out.ne).trans h.out.box
  have k0 : w1.cell? ⟨B, 0, none⟩ = some v := (cell_of_row _ _ _ _ _ _ hb1).trans rfl
  have kf : w1.frozen? ⟨B, 0, none⟩ = false := frozen_of_row _ _ _ _ _ hb1
  have hne : some B ≠ v1.ownBlock := fun e => by
    rcases hat with h9 | ⟨b, h9, hb⟩
    · exact h.out.ne (e.trans h9)
    · rw [h9] at e; injection e with e; omega
  have hm : Mod (fun q => q = B ∨ some q = v.ownBlock) w (w1.setCell ⟨B, 0, none⟩ v1) := (Mod.of_grown (S := fun q => q = B ∨ some q = v.ownBlock) hg (fun q hq => .inl (.inr hq.symm))).setCell (p := ⟨B, 0, none⟩) (.inl (.inl rfl)) v1
  have hrow : (Kd.int .i64).R 3 w1 0 (fun q => some q = v1.ownBlock) v1 (xs ++ [f]) := ⟨fun q hq => hq.symm, ho.2⟩
  have hd : Disp (w1.setCell ⟨B, 0, none⟩ v1) B v1 (xs ++ [f]) := ⟨(heap_setCell_same _ _ 0 _ _ _ hb1).trans rfl, Kd.R_far (p := ⟨B, 0, none⟩) hrow (fun q hq e => hne (by rw [← hq, e])) v1, hne, by simp; omega⟩
  replace hd := Aside0.mk hd
  replace hm := Aside0.mk hm
  replace hat := Aside0.mk hat
  rw [e1] at hd hm hat ⊢
  clear ho hg hb1 hrow hne
  go_wp2_with fail
  go_end0
  exact ⟨rfl, _, hd.out, hat.out, hm.out⟩
end Go.Proofs.Ytbocbaakknkfiaa
