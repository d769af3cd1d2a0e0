/- A disk is synced. -/
import Derived.Test.YtolighikimpbfaaDx
set_option linter.unusedVariables false
set_option linter.unusedSimpArgs false
namespace Go.Proofs.Ytolighikimpbfaa
open Go.RowKit Go.Shelf Go.Proofs.YtolighikimpbfaaW.PrintWords Go.Proofs.YtolighikimpbfaaW.PrintMore

/-- Behind a sync. -/
def DS.synced (ds : DS) : DS := { ds.stepped with lasts := ds.now, waits := [] }
theorem sync_not (p : Option Addr) (w : World) (hn : NoneIs true p w) : Calls Try.prog 13 #[.pointer p] w fun e w' => e = .returned (.int .i64 1) ∧ w = w' := by
  have hn := Aside0.mk hn
  go_enter Try.func13, Try.ntmps13
  go_wp2_with (go_at_call 28; refine hn.out.mono ?_; rintro e w' ⟨rfl, rfl⟩)
  go_ret
  exact ⟨rfl, rfl⟩
set_option maxHeartbeats 1000000 in
theorem sync_stop (S RO : Nat → Prop) (g : Nat) (ds : DS) (w : World) (h : Dk w S RO g ds) (h0 : ds.armed = 0) : Calls Try.prog 13 #[.pointer (some ⟨g, 0, none⟩)] w fun e w' => e = .returned (.int .i64 111) ∧ w = w' := by
  have hn := Aside0.mk h.none
  have hst := Aside0.mk (step_no S RO g ds w h h0)
  clear h
  go_enter Try.func13, Try.ntmps13
  go_wp2_with (first | (go_at_call 28; refine hn.out.mono ?_; rintro e w' ⟨rfl, rfl⟩) | (go_at_call 29; refine hst.out.mono ?_; rintro e w' ⟨rfl, rfl⟩))
  go_ret
  exact ⟨rfl, rfl⟩
theorem synced_mem {w1 w3 : World} {S RO : Nat → Prop} {g n capn B : Nat} {ds : DS} {lv wv v : Value} (h : DkAt w1 S RO g ds n capn lv wv) (hS : ∀ q, S q → q < B) (hB : B ≤ w1.heap.size)
    (h3 : Below w1.heap.size w1 w3) (hv : u8.R 5 w3 0 (fun q => w1.heap.size ≤ q) v (toI ds.now)) :
    ∃ RO', Dk ((w3.setCell ⟨g, 1, none⟩ v).setCell ⟨g, 2, none⟩ (.slice none 0 0)) S RO' g { ds with lasts := ds.now, waits := [] } ∧ (∀ q, RO' q → (S q ∨ RO q) ∨ B ≤ q) ∧ Mod S w1 ((w3.setCell ⟨g, 1, none⟩ v).setCell ⟨g, 2, none⟩ (.slice none 0 0)) := by
  have hgl : g < w1.heap.size := (Array.getElem?_eq_some_iff.1 h.blk).1
  have hm3 : Mod (fun _ => False) w1 w3 := Mod.of_below h3
  have hm4 : Mod (fun q => q = g) w3 ((w3.setCell ⟨g, 1, none⟩ v).setCell ⟨g, 2, none⟩ (.slice none 0 0)) := ((Mod.refl (fun q => q = g) w3).setCell (p := ⟨g, 1, none⟩) (.inl rfl) v).setCell (p := ⟨g, 2, none⟩) (.inl rfl) _
  have hb3 := hm3.blk h.blk (fun h => h)
  refine ⟨fun q => w1.heap.size ≤ q, ⟨n, capn, v, .slice none 0 0, ?_, h.sg, h.sn, h.ng, h.pos, ?_, ?_, ?_, ?_, Kd.R_nil _ _ _ _ _⟩, ?_, ?_⟩
  · have := heap_setCell_same _ _ 1 _ _ v hb3
    exact (heap_setCell_same _ _ 2 _ _ (.slice none 0 0) this).trans rfl
  · intro q hq hs; have := hS q hs; omega
  · exact R_mod (R_mod h.now hm3 (fun _ _ h => h)) hm4 (fun q e => by rw [e]; exact h.ng)
  · exact R_mod hv hm4 (fun q hq e => by subst e; omega)
  · intro q hq; simp [Value.ownBlock] at hq
  · intro q hq; right; omega
  · exact (hm3.mono (fun _ h => h.elim)).trans hm4 (fun q hq => .inl (hq ▸ h.sg))
set_option maxHeartbeats 2000000 in
theorem sync_yes (S RO : Nat → Prop) (g : Nat) (ds : DS) (w : World) (h : Dk w S RO g ds) (hS : ∀ q, S q → q < w.heap.size) (hf : Fine ds) (h0 : ds.armed ≠ 0) :
    Calls Try.prog 13 #[.pointer (some ⟨g, 0, none⟩)] w fun e w' => e = .returned (.int .i64 0) ∧ ∃ S' RO', Dk w' S' RO' g ds.synced ∧
      (∀ q, S' q → S q ∨ w.heap.size ≤ q) ∧ (∀ q, RO' q → (S q ∨ RO q) ∨ w.heap.size ≤ q) ∧ Mod S w w' := by
  have hn := Aside0.mk h.none
  obtain ⟨n, capn, lv, wv, h⟩ := h
  obtain ⟨N, hN⟩ : ∃ N, ds.now.length = N := ⟨_, rfl⟩
  have hlen := hf.len
  have H := Aside0.mk h
  have hN' := Aside0.mk hN
  have hf := Aside0.mk hf
  have h0 := Aside0.mk h0
  clear h hN
  go_enter Try.func13, Try.ntmps13
  have hcl0 : Aside0 (∀ w1, DkAt w1 S RO g ds.stepped n capn lv wv → Calls Try.prog 30 #[.slice (some ⟨n, 0, none⟩) N capn] w1 fun e w' => ∃ v, e = .returned v ∧ u8.R 5 w' 0 (fun q => w1.heap.size ≤ q) v (toI ds.now) ∧ Below w1.heap.size w1 w') := Aside0.mk (fun w1 h1 => by
    have := clone8_calls (some ⟨n, 0, none⟩) capn ds.now w1 (by have := (Kd.R_reads' h1.now).2.2; rw [toI_length] at this; exact this) (by omega)
    rwa [hN'.out] at this)
  go_wp2_with (first
    | (go_at_call 28; refine hn.out.mono ?_; rintro e w' ⟨rfl, rfl⟩)
    | (go_at_call 29
       refine (step_yes S RO g ds n _ lv wv w H.out hf.out h0.out).mono ?_
       rintro e w1 ⟨rfl, h1, hm1⟩
       have c0 : w1.cell? ⟨g, 0, none⟩ = some (.slice (some ⟨n, 0, none⟩) N capn) := hN'.out ▸ h1.cell.1
       have hcl := Aside0.mk (hcl0.out w1 h1)
       replace h1 := Aside0.mk h1
       replace hm1 := Aside0.mk hm1)
    | (go_at_call 30
       refine hcl.out.mono ?_
       rintro e w3 ⟨v, rfl, hv, hb3⟩
       obtain ⟨A3, c03, rfl⟩ := Kd.R_slice hv
       generalize (toI ds.now).length = M3 at hv ⊢
       have H3 : w3.heap[g]? = _ := (Mod.of_below (S := fun _ => False) hb3).blk h1.out.blk (fun h => h)
       have b3 : w3.cell? ⟨g, 1, none⟩ = some lv := (cell_of_row _ _ _ _ _ _ H3).trans rfl
       have f3 : w3.frozen? ⟨g, 1, none⟩ = false := frozen_of_row _ _ _ _ _ H3
       have H4 := heap_setCell_same _ _ 1 _ _ (.slice A3 M3 c03) H3
       have b4 : (w3.setCell ⟨g, 1, none⟩ (.slice A3 M3 c03)).cell? ⟨g, 2, none⟩ = some wv := (cell_of_row _ _ _ _ _ _ H4).trans rfl
       have f4 : (w3.setCell ⟨g, 1, none⟩ (.slice A3 M3 c03)).frozen? ⟨g, 2, none⟩ = false := frozen_of_row _ _ _ _ _ H4
       clear H3 H4
       replace hv := Aside0.mk hv
       replace hb3 := Aside0.mk hb3))
  all_goals go_ret
  all_goals (
    obtain ⟨RO', k1, k3, k4⟩ := synced_mem (B := w.heap.size) h1.out hS hm1.out.size hb3.out hv.out
    exact ⟨rfl, S, RO', k1, fun q hq => .inl hq, k3, hm1.out.trans k4 (fun q hq => .inl hq)⟩)
end Go.Proofs.Ytolighikimpbfaa
