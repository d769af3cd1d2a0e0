/- Small functions of a disk: none, step, Clone. -/
import Derived.Test.YtolighikimpbfaaDm
import Derived.WalkSpells
set_option linter.unusedVariables false
set_option linter.unusedSimpArgs false
namespace Go.Proofs.Ytolighikimpbfaa
open Go.RowKit Go.Proofs.YtolighikimpbfaaW.PrintWords Go.Proofs.YtolighikimpbfaaW.PrintMore

/-- What none answers of p. -/
def NoneIs (b : Bool) (p : Option Addr) (w : World) : Prop := Calls Try.prog 28 #[.pointer p] w fun e w' => e = .returned (.bool b) ∧ w = w'
set_option maxHeartbeats 400000 in
theorem noneIs_nil (w : World) : NoneIs true none w := by
  unfold NoneIs
  go_enter Try.func28, Try.ntmps28
  go_wp2
  go_ret
  exact ⟨rfl, rfl⟩
set_option maxHeartbeats 400000 in
theorem noneIs_some (g : Nat) (a : Addr) (n c : Nat) (w : World) (h : w.cell? ⟨g, 0, none⟩ = some (.slice (some a) n c)) : NoneIs false (some ⟨g, 0, none⟩) w := by
  unfold NoneIs
  have hr := fun (w : World) => Lib.run_eql_slice_nil (P := Try.prog) w 31 5 (some a) n c 0 0 Try.underlying31
  go_enter Try.func28, Try.ntmps28
  go_wp2
  go_ret
  exact ⟨rfl, rfl⟩
set_option maxHeartbeats 400000 in
theorem noneIs_zero (g : Nat) (w : World) (h : w.cell? ⟨g, 0, none⟩ = some (.slice none 0 0)) : NoneIs true (some ⟨g, 0, none⟩) w := by
  unfold NoneIs
  have hr := fun (w : World) => Lib.run_eql_slice_nil (P := Try.prog) w 31 5 none 0 0 0 0 Try.underlying31
  go_enter Try.func28, Try.ntmps28
  go_wp2
  go_ret
  exact ⟨rfl, rfl⟩
theorem Dk.none {w : World} {S RO : Nat → Prop} {g : Nat} {ds : DS} (h : Dk w S RO g ds) : NoneIs false (some ⟨g, 0, none⟩) w := by
  obtain ⟨n, capn, lv, wv, h⟩ := h
  exact noneIs_some g _ _ _ w h.cell.1

theorem info5 : (Try.prog.info? 5).map (fun i => (i.zero, i.size, i.bytes)) = some (some (.int .u8 0), 1, 1) := by kernel_rfl
theorem info69 : (Try.prog.info? 69).map (fun i => (i.zero, i.size, i.bytes)) = some (some (.agg #[.int .i64 0, .slice none 0 0]), 2, 32) := by kernel_rfl
/-- A literal of no elements. -/
theorem R_empty {α : Type} {d : Kd α} {e g : Nat} {w : World} {ok : Nat → Prop} (hg : w.heap[g]? = some (.cells #[] e (0, 0))) (hok : ok g) : d.R e w 0 ok (.slice (some ⟨g, 0, none⟩) 0 0) [] :=
  ⟨fun k hk => by simp [Value.ownBlock] at hk; rw [← hk]; exact hok, [], ⟨by simp, .inr ⟨g, 0, #[], rfl, Nat.zero_le _, hg, Nat.le_refl _, Nat.zero_le _, by simp, by simp⟩⟩, Reps.none _ _⟩
set_option maxHeartbeats 1000000 in
theorem clone8_calls (A : Option Addr) (c : Nat) (l : List UInt8) (w : World) (hC : u8.C w A l.length (toI l)) (hl : l.length ≤ 140737488355328) :
    Calls Try.prog 30 #[.slice A l.length c] w fun e w' => ∃ v, e = .returned v ∧ u8.R 5 w' 0 (fun q => w.heap.size ≤ q) v (toI l) ∧ Below w.heap.size w w' := by
  have hC := Aside0.mk hC
  cases A with
  | none =>
    have h0 : l = [] := by
      rcases Nat.eq_zero_or_pos l.length with h | h
      · exact List.length_eq_zero_iff.1 h
      · obtain ⟨_, h, _⟩ := hC.out.2.2 h; cases h
    subst h0
    have hr := fun (w : World) => Lib.run_eql_slice_nil (P := Try.prog) w 31 5 none 0 c 0 0 Try.underlying31
    go_enter Try.func30, Try.ntmps30
    go_wp2
    go_ret
    exact ⟨_, rfl, Kd.R_nil _ _ _ _ _, Below.refl _ _⟩
  | some a =>
    obtain ⟨N, hN⟩ : ∃ N, l.length = N := ⟨_, rfl⟩
    rw [hN] at hC hl ⊢
    have hN := Aside0.mk hN
    have hr := fun (w : World) => Lib.run_eql_slice_nil (P := Try.prog) w 31 5 (some a) N c 0 0 Try.underlying31
    have hE : u8.R 5 (w.alloc (.cells #[] 5)) 0 (fun q => w.heap.size ≤ q) (.slice (some ⟨w.heap.size, 0, none⟩) 0 0) [] := R_empty (Go.heap_alloc_new w _) (Nat.le_refl _)
    have hE := Aside0.mk hE
    go_enter Try.func30, Try.ntmps30
    go_wp2_with ((with_reducible refine gate_builtin (b := .append) (xs := #[.tmp 5, .tmp 6]) rfl ?_); at_builtin; refine Kd.R_append_rows u8 (w0 := w.alloc (.cells #[] 5)) 0 rfl (.tmp 5) (.tmp 6) 31 5 (.int .u8 0) 1 rfl Try.underlying31 info5 rfl (by decide) (by omega) (.slice (some ⟨w.heap.size, 0, none⟩) 0 0) [] (toI l) _ _ _ (fun q => w.heap.size ≤ q) (fun _ => False) rfl rfl hE.out (Kd.C_alloc hC.out _) (fun _ _ h => h) (fun _ h => h.elim) (fun k hk => by simp at hk; omega) (Below.refl _ _) (Nat.zero_le _) (by simp; omega) ?_; intro v1 w1 ho _ hg _; replace ho := Aside0.mk ho; replace hg := Aside0.mk hg)
    go_ret
    refine ⟨_, rfl, ho.out, ?_⟩
    exact Mod.below (S := fun q => w.heap.size ≤ q) (Mod.trans (Mod.of_below (below_alloc (Below.refl _ _) _)) (Mod.of_grown (S := fun q => w.heap.size ≤ q) hg.out (fun q hq => by simp [Value.ownBlock] at hq; omega)) (fun q hq => .inl hq)) (fun q hq => hq) (Nat.le_refl _)
/-- A disk's list of writes, told anew; what the writes' bytes lie in is shared. -/
theorem wk_M_move {w w' : World} {ok : Nat → Prop} {x : Int × List Int} {cs : List Value} (h : wk.M w 0 ok x cs) (hm : ∀ k, ok k → k < w.heap.size → w'.heap[k]? = w.heap[k]?) : wk.M w' 0 (fun q => ok q ∧ q < w.heap.size) x cs :=
  wk.M_move (fun k hk => hm k hk.1 hk.2) (wk.M_mono (fun k hk => ⟨hk.1, hk.2.2.1⟩) (wk.M_bound h))
set_option maxHeartbeats 1000000 in
theorem clonew_calls (A : Option Addr) (c : Nat) (RO : Nat → Prop) (l : List (Int × List Int)) (w : World) (hR : Kd.R wk 69 w 0 (fun q => some q = (Value.slice A l.length c).ownBlock ∨ RO q) (.slice A l.length c) l) (hl : l.length ≤ 1000000000000) :
    Calls Try.prog 41 #[.slice A l.length c] w fun e w' => ∃ v, e = .returned v ∧ Kd.R wk 69 w' 0 (fun q => some q = v.ownBlock ∨ ((w.heap.size ≤ q ∨ (RO q ∧ q < w.heap.size)) ∧ some q ≠ v.ownBlock)) v l ∧ (∀ q, v.ownBlock = some q → w.heap.size ≤ q) ∧ Below w.heap.size w w' := by
  have hR := Aside0.mk hR
  cases A with
  | none =>
    have h0 : l = [] := by
      obtain ⟨_, _, h⟩ := Kd.R_reads' hR.out
      rcases Nat.eq_zero_or_pos l.length with h1 | h1
      · exact List.length_eq_zero_iff.1 h1
      · obtain ⟨_, h, _⟩ := h.2.2 h1; cases h
    subst h0
    have hr := fun (w : World) => Lib.run_eql_slice_nil (P := Try.prog) w 63 69 none 0 c 0 0 Try.underlying63
    go_enter Try.func41, Try.ntmps41
    go_wp2
    go_ret
    exact ⟨_, rfl, Kd.R_nil _ _ _ _ _, fun q hq => by simp [Value.ownBlock] at hq, Below.refl _ _⟩
  | some a =>
    have hrd : ReadsRow (wk.M w 0 (fun k => (some k = (Value.slice (some a) l.length c).ownBlock ∨ RO k) ∧ some k ≠ (Value.slice (some a) l.length c).ownBlock)) 2 w (some a) l.length l := by
      obtain ⟨A', c', e, _, h⟩ := OwnRow.reads hR.out.2
      injection e with e1 _ _
      subst e1; exact h
    have hrd2 : ReadsRow (fun x cs => wk.M (w.alloc (.cells #[] 69)) 0 (fun q => RO q ∧ q < w.heap.size) x cs) 2 (w.alloc (.cells #[] 69)) (some a) l.length l :=
      ReadsRow.imp_ hrd (below_alloc (Below.refl _ _) _) (fun x cs h => wk.M_mono (fun q hq => ⟨hq.1.1.elim (fun e => absurd e hq.1.2) id, hq.2⟩) (wk_M_move h (fun k _ hk => Below.heap_alloc w _ k hk)))
    obtain ⟨N, hN⟩ : ∃ N, l.length = N := ⟨_, rfl⟩
    rw [hN] at hrd2 hl ⊢
    have hr := fun (w : World) => Lib.run_eql_slice_nil (P := Try.prog) w 63 69 (some a) N c 0 0 Try.underlying63
    have hE : wk.R 69 (w.alloc (.cells #[] 69)) 0 (fun q => w.heap.size ≤ q ∨ (RO q ∧ q < w.heap.size)) (.slice (some ⟨w.heap.size, 0, none⟩) 0 0) [] := R_empty (Go.heap_alloc_new w _) (.inl (Nat.le_refl _))
    have hE := Aside0.mk hE
    have hrd2 := Aside0.mk hrd2
    clear hrd hN
    go_enter Try.func41, Try.ntmps41
    go_wp2_with ((with_reducible refine gate_builtin (b := .append) (xs := #[.tmp 5, .tmp 6]) rfl ?_); at_builtin; refine Kd.R_append_rows wk (w0 := w.alloc (.cells #[] 69)) 0 rfl (.tmp 5) (.tmp 6) 63 69 (.agg #[.int .i64 0, .slice none 0 0]) 32 rfl Try.underlying63 info69 rfl (by decide) (by omega) (.slice (some ⟨w.heap.size, 0, none⟩) 0 0) [] l _ _ _ (fun q => w.heap.size ≤ q ∨ (RO q ∧ q < w.heap.size)) (fun q => RO q ∧ q < w.heap.size) rfl rfl hE.out hrd2.out (fun _ _ h => h) (fun k hk => ⟨.inr hk, by simp [Value.ownBlock]; omega⟩) (fun k hk => .inl (by simp at hk; omega)) (Below.refl _ _) (Nat.zero_le _) (by simp; omega) ?_; intro v1 w1 ho _ hg hat; replace ho := Aside0.mk ho; replace hg := Aside0.mk hg; replace hat := Aside0.mk hat)
    go_ret
    have hv : ∀ q, v1.ownBlock = some q → w.heap.size ≤ q := by
      intro q hq
      rcases hat.out with h | ⟨b, h, hb⟩
      · rw [h] at hq; simp [Value.ownBlock] at hq; omega
      · rw [h] at hq; cases hq; simp at hb; omega
    refine ⟨_, rfl, ?_, hv, ?_⟩
    · exact ⟨fun q hq => .inl hq.symm, ho.out.2.imp_ (fun x cs h => wk.M_mono (fun q hq => ⟨.inr ⟨hq.1, hq.2⟩, hq.2⟩) h)⟩
    · exact Mod.below (S := fun q => w.heap.size ≤ q) (Mod.trans (Mod.of_below (below_alloc (Below.refl _ _) _)) (Mod.of_grown (S := fun q => w.heap.size ≤ q) hg.out (fun q hq => by simp [Value.ownBlock] at hq; omega)) (fun q hq => .inl hq)) (fun q hq => hq) (Nat.le_refl _)
end Go.Proofs.Ytolighikimpbfaa
