/- A disk is written. -/
import Derived.Test.YtolighikimpbfaaDl
import Derived.Deep.RegionLaw
set_option linter.unusedVariables false
set_option linter.unusedSimpArgs false
namespace Go.Proofs.Ytolighikimpbfaa
open Go.RowKit Go.Shelf Go.Proofs.YtolighikimpbfaaW.PrintWords Go.Proofs.YtolighikimpbfaaW.PrintMore

theorem jump_ret {l : Nat} {J : Act → World → Prop} {Q : Exit → Act → World → Prop} {a : Act} {w : World} : Exit.jump l J Q .ret a w = Q .ret a w := rfl
theorem info5s : (Try.prog.info? 5).map (·.size) = some 1 := by kernel_rfl
/-- Behind a write. -/
def DS.wrote (ds : DS) (i : Nat) (b : List UInt8) : DS := { ds.stepped with now := over ds.now i b, waits := ds.waits ++ [⟨i, b⟩] }
theorem DkAt.copied {w1 w2 : World} {S RO : Nat → Prop} {g n capn : Nat} {ds : DS} {lv wv : Value} (h : DkAt w1 S RO g ds n capn lv wv) (hg : w1.grownBy w2 (some n)) (x : List UInt8)
    (hr : u8.R 5 w2 0 (fun q => q = n) (.slice (some ⟨n, 0, none⟩) ds.now.length capn) (toI x)) (hl : x.length = ds.now.length) : DkAt w2 S RO g { ds with now := x } n capn lv wv := by
  have hm : Mod (fun q => q = n) w1 w2 := Mod.of_grown hg (fun q hq => .inl (by injection hq with hq; exact hq.symm))
  refine ⟨?_, h.sg, h.sn, h.ng, by rw [hl]; exact h.pos, h.apart, by rw [hl]; exact hr, R_mod h.lasts hm (fun q hq e => h.apart q hq (e ▸ h.sn)), h.wown,
    R_mod h.waits hm (fun q hq e => hq.elim (fun hq => (h.wown q hq.symm).2.1 e) (fun hq => h.apart q hq (e ▸ h.sn)))⟩
  rw [hl]
  exact hm.blk h.blk (fun e => h.ng e.symm)
theorem wrote_mem {w2 w3 w5 : World} {S RO : Nat → Prop} {g n capn B : Nat} {ds : DS} {lv wv v1 : Value} (x : Wr) (h : DkAt w2 S RO g ds n capn lv wv) (hS : ∀ q, S q → q < B) (hB : B ≤ w2.heap.size)
    (h3 : Below w2.heap.size w2 w3) (h5 : w3.grownBy w5 wv.ownBlock) (hat : v1.ownBlock = wv.ownBlock ∨ ∃ b, v1.ownBlock = some b ∧ w3.heap.size ≤ b)
    (hv : wk.R 69 w5 0 (fun q => (some q = wv.ownBlock ∨ RO q) ∨ w2.heap.size ≤ q) v1 (encWs ds.waits ++ [encW x])) :
    ∃ S' RO', Dk (w5.setCell ⟨g, 2, none⟩ v1) S' RO' g { ds with waits := ds.waits ++ [x] } ∧ (∀ q, S' q → S q ∨ B ≤ q) ∧ (∀ q, RO' q → (S q ∨ RO q) ∨ B ≤ q) ∧ Mod S w2 (w5.setCell ⟨g, 2, none⟩ v1) := by
  have hz3 := h3.size
  have hm5 : Mod S w2 w5 := (Mod.of_below (S := S) h3).trans (Mod.of_grown (S := S) h5 (fun q hq => .inl (h.wown q hq).1)) (fun q hq => .inl hq)
  have hmw : Mod (fun q => some q = wv.ownBlock) w2 w5 := (Mod.of_below (S := fun q => some q = wv.ownBlock) h3).trans (Mod.of_grown (S := fun q => some q = wv.ownBlock) h5 (fun q hq => .inl hq.symm)) (fun q hq => .inl hq)
  have hmg : Mod (fun q => some q = wv.ownBlock ∨ q = g) w2 (w5.setCell ⟨g, 2, none⟩ v1) := (hmw.mono (fun q hq => .inl hq)).setCell (p := ⟨g, 2, none⟩) (.inl (.inr rfl)) _
  have hgl : g < w2.heap.size := (Array.getElem?_eq_some_iff.1 h.blk).1
  have hnl : n < w2.heap.size := Kd.R_lt h.now n rfl
  have hgw : ¬ some g = wv.ownBlock := fun e => (h.wown g e.symm).2.2 rfl
  have hnw : ¬ some n = wv.ownBlock := fun e => (h.wown n e.symm).2.1 rfl
  have hv1g : v1.ownBlock ≠ some g := by
    intro e
    rcases hat with h1 | ⟨b, h1, h2⟩
    · exact hgw (e ▸ h1)
    · rw [e] at h1; injection h1 with h1; omega
  have hv1n : v1.ownBlock ≠ some n := by
    intro e
    rcases hat with h1 | ⟨b, h1, h2⟩
    · exact hnw (e ▸ h1)
    · rw [e] at h1; injection h1 with h1; omega
  have hv1 : ∀ q, v1.ownBlock = some q → S q ∨ B ≤ q := by
    intro q e
    rcases hat with h1 | ⟨b, h1, h2⟩
    · exact .inl (h.wown q (h1 ▸ e)).1
    · rw [e] at h1; injection h1 with h1; right; omega
  have hro : ∀ q, RO q → q < w2.heap.size → ¬ some q = v1.ownBlock := by
    intro q hq hql e
    rcases hat with h1 | ⟨b, h1, h2⟩
    · exact h.apart q hq (h.wown q (h1 ▸ e.symm)).1
    · rw [h1] at e; injection e with e; omega
  refine ⟨fun q => (S q ∧ ¬ some q = wv.ownBlock) ∨ v1.ownBlock = some q, fun q => ((some q = wv.ownBlock ∨ RO q) ∨ w2.heap.size ≤ q) ∧ ¬ some q = v1.ownBlock,
    ⟨n, capn, lv, v1, ?_, .inl ⟨h.sg, hgw⟩, .inl ⟨h.sn, hnw⟩, h.ng, h.pos, ?_, ?_, ?_, ?_, ?_⟩, ?_, ?_, ?_⟩
  · have hb5 := hmw.blk h.blk hgw
    exact (heap_setCell_same _ _ _ _ _ _ hb5).trans rfl
  · rintro q ⟨hq, hq1⟩ (⟨hs, hs2⟩ | hs)
    · rcases hq with (hq | hq) | hq
      · exact hs2 hq
      · exact h.apart q hq hs
      · have := hS q hs; omega
    · exact hq1 hs.symm
  · exact R_mod h.now hmg (fun q e => by rw [e]; rintro (h1 | h1); exact hnw h1; exact h.ng h1)
  · have := Kd.R_bound h.lasts
    exact Kd.R_mono (R_mod this hmg (fun q hq => by rintro (h1 | h1); exact h.apart q hq.1 (h.wown q h1.symm).1; exact h.apart q hq.1 (h1 ▸ h.sg))) (fun q hq => ⟨.inl (.inr hq.1), hro q hq.1 hq.2.2.1⟩)
  · exact fun q hq => ⟨.inr hq, fun e => hv1n (e ▸ hq), fun e => hv1g (e ▸ hq)⟩
  · have := Kd.R_mono hv (ok' := fun q => some q = v1.ownBlock ∨ (((some q = wv.ownBlock ∨ RO q) ∨ w2.heap.size ≤ q) ∧ ¬ some q = v1.ownBlock)) (fun q hq => by by_cases e : some q = v1.ownBlock; exact .inl e; exact .inr ⟨hq, e⟩)
    have := R_mod this ((Mod.refl (fun q => q = g) w5).setCell (p := ⟨g, 2, none⟩) (.inl rfl) v1) (fun q hq e => by
      subst e
      rcases hq with hq | ⟨(hq | hq) | hq, _⟩
      · exact hv1g hq.symm
      · exact hgw hq
      · exact h.apart _ hq h.sg
      · omega)
    simpa [encWs] using this
  · rintro q (hq | hq)
    · exact .inl hq.1
    · exact hv1 q hq
  · rintro q ⟨(hq | hq) | hq, _⟩
    · exact .inl (.inl (h.wown q hq.symm).1)
    · exact .inl (.inr hq)
    · right; omega
  · exact hm5.setCell (p := ⟨g, 2, none⟩) (.inl h.sg) _
set_option maxHeartbeats 2000000 in
theorem write_yes (S RO okb : Nat → Prop) (g : Nat) (ds : DS) (w : World) (h : Dk w S RO g ds) (hS : ∀ q, S q → q < w.heap.size) (hf : Fine ds) (h0 : ds.armed ≠ 0) (i : Nat) (A : Option Addr) (c : Nat) (b : List UInt8)
    (hb : u8.F w okb A b.length (toI b)) (hap : ∀ q, okb q → ¬ S q) (hi : i + b.length ≤ ds.now.length) (hlim : b.length = 0 ∨ i + b.length ≤ ds.limit) :
    Calls Try.prog 12 #[.pointer (some ⟨g, 0, none⟩), .int .i64 (i : Int), .slice A b.length c] w fun e w' => e = .returned (.int .i64 0) ∧ ∃ S' RO', Dk w' S' RO' g (ds.wrote i b) ∧
      (∀ q, S' q → S q ∨ w.heap.size ≤ q) ∧ (∀ q, RO' q → (S q ∨ RO q) ∨ w.heap.size ≤ q) ∧ Mod S w w' := by
  have hn := Aside0.mk h.none
  obtain ⟨n, capn, lv, wv, h⟩ := h
  have hc := (Kd.R_reads' h.now).2.1
  obtain ⟨N, hN⟩ : ∃ N, ds.now.length = N := ⟨_, rfl⟩
  obtain ⟨M, hM⟩ : ∃ M, b.length = M := ⟨_, rfl⟩
  have hlen := hf.len
  have hl1 := hf.lim1
  have c0 := h.cell.1
  have c4 := h.cell.2.2.2.2.1
  rw [hN] at hc hlen hl1 c0 hi
  rw [hM] at hi hlim hb
  have d1 : decide ((i : Int) < 0) = false := by simp
  have d2 : decide ((N : Int) < (i : Int)) = false := by simp; omega
  have d3 : decide ((N : Int) - (i : Int) < (M : Int)) = false := by simp; omega
  have dd : (i = capn ∧ M = 0) ∨ (¬ capn = i ∧ M = 0) ∨ (¬ capn = i ∧ 0 < M ∧ decide (ds.limit < (i : Int) + (M : Int)) = false) := by
    by_cases hz : M = 0
    · by_cases hne : capn = i
      · exact .inl ⟨hne.symm, hz⟩
      · exact .inr (.inl ⟨hne, hz⟩)
    · exact .inr (.inr ⟨by omega, by omega, by simp; omega⟩)
  have H := Aside0.mk h
  have hN' := Aside0.mk hN
  have hM' := Aside0.mk hM
  have hf := Aside0.mk hf
  have h0 := Aside0.mk h0
  have hb := Aside0.mk hb
  clear h hN hM
  rw [hM'.out]
  have wC : Aside0 (∀ w1, Mod S w w1 → u8.C w1 A M (toI b)) := Aside0.mk (fun w1 hm => Kd.F_now (F_mod hb.out hm hap))
  have hcl0 : Aside0 (∀ w2, Mod S w w2 → Calls Try.prog 30 #[.slice A M c] w2.drew fun e w' => ∃ v, e = .returned v ∧ u8.R 5 w' 0 (fun q => w2.heap.size ≤ q) v (toI b) ∧ Below w2.heap.size w2 w') := Aside0.mk (fun w2 hm => by
    have := clone8_calls A c b w2.drew (by rw [hM'.out]; exact wC.out _ hm.drew) (by rw [hM'.out]; omega)
    rw [hM'.out] at this
    exact this.mono (fun e w' ⟨v, h1, h2, h3⟩ => ⟨v, h1, h2, ⟨h3.os, h3.tape, h3.output, h3.size, h3.block⟩⟩))
  clear hlim
  rcases dd with ⟨rfl, rfl⟩ | ⟨hne, rfl⟩ | ⟨hne, hz, d5⟩
  all_goals (
    go_enter Try.func12, Try.ntmps12
    go_wp2
    refine wp_scope_jumps 0 (fun _ _ => False) (fun _ _ => 0) rfl ?first ?pass
    case first =>
      go_wp2_with (first | (go_at_call 28; refine hn.out.mono ?_; rintro e w' ⟨rfl, rfl⟩) | (go_at_call 29; refine (step_yes S RO g ds n _ lv wv w H.out hf.out h0.out).mono ?_; rintro e w1 ⟨rfl, h1, hm1⟩; have c1 := h1.cell.1; rw [show ds.stepped.now.length = N from hN'.out] at c1; replace h1 := Aside0.mk h1; replace hm1 := Aside0.mk hm1; clear c0 c4) | ((with_reducible refine gate_builtin (b := .copy) (xs := #[.tmp 57, .tmp 58]) rfl ?_); refine wp_copy_at rfl (.tmp 57) (.tmp 58) 31 31 rfl Try.underlying31 info5s n N _ _ _ c _ _ A _ (toI ds.now) (toI b) rfl (by first | exact (fun _ => rfl) | exact (fun h => absurd rfl h)) rfl (by first | rfl | omega) (hN'.out ▸ h1.out.now) (wC.out _ hm1.out) hi ?_; intro w2 hr2 hg2))
      have D2 := h1.out.copied hg2 (over ds.now i b) (by rw [over_toI]; rw [show ds.stepped.now.length = N from hN'.out]; exact hr2) (over_length _ _ _ (by rw [hM'.out, hN'.out]; exact hi))
      have hm2 : Mod S w w2 := hm1.out.trans (Mod.of_grown (S := S) hg2 (fun q hq => .inl (by injection hq with hq; exact hq ▸ h1.out.sn))) (fun q hq => .inl hq)
      have c2 : w2.drew.cell? ⟨g, 2, none⟩ = some wv := D2.cell.2.2.1
      have hcl := Aside0.mk (hcl0.out w2 hm2)
      have hok : Aside0 (∀ k, w2.heap.size ≤ k → ((some k = wv.ownBlock ∨ RO k) ∨ w2.heap.size ≤ k) ∧ some k ≠ wv.ownBlock) := Aside0.mk (fun k hk => ⟨.inr hk, fun e => by have := Kd.R_lt D2.waits k e.symm; omega⟩)
      have hO3 : Aside0 (∀ w3, Below w2.heap.size w2 w3 → wk.R 69 w3 0 (fun q => (some q = wv.ownBlock ∨ RO q) ∨ w2.heap.size ≤ q) wv (encWs ds.waits)) :=
        Aside0.mk (fun w3 hb3 => Kd.R_mono (R_mod D2.waits (Mod.of_below (S := fun _ => False) hb3) (fun _ _ h => h)) (fun q hq => .inl hq))
      have hln : Aside0 (((encWs ds.waits).length + 1) * 32 ≤ 140737488355328) := Aside0.mk (by rw [encWs_length]; have := hf.out.wai; omega)
      have D2 := Aside0.mk D2
      have hm2 := Aside0.mk hm2
      clear c1 h1 hm1 hr2 hg2
      go_region_law (first
        | (refine Kd.R_append_step wk (w0 := w3) 0 (by rfl) (.tmp 64) (.tmp 69) 63 69 (.agg #[.int .i64 0, .slice none 0 0]) 32 rfl Try.underlying63 info69 rfl (by decide) (by omega) wv (encWs ds.waits) (encW ⟨i, b⟩) [.int .i64 (i : Int), .slice A3 M3 c03] (fun q => (some q = wv.ownBlock ∨ RO q) ∨ w2.heap.size ≤ q) (fun q => w2.heap.size ≤ q) rfl rfl hM.out hok.out hfr.out hO.out (Below.refl _ _) (Nat.zero_le _) hln.out ?_
           intro v1 w5 hv1 _ hg5 hat
           obtain ⟨A5, c05, rfl⟩ := Kd.R_slice hv1
           generalize (encWs ds.waits ++ [encW ⟨i, b⟩]).length = M5 at hv1 hat ⊢
           have H5 : w5.heap[g]? = _ := (Mod.of_grown (S := fun q => some q = wv.ownBlock) hg5 (fun q hq => .inl hq.symm)).blk ((Mod.of_below (S := fun _ => False) hb3.out).blk D2.out.blk (fun h => h)) (fun e => (D2.out.wown g e.symm).2.2 rfl)
           have b5 : w5.cell? ⟨g, 2, none⟩ = some wv := (cell_of_row _ _ _ _ _ _ H5).trans rfl
           have f5 : w5.frozen? ⟨g, 2, none⟩ = false := frozen_of_row _ _ _ _ _ H5
           clear H5
           replace hv1 := Aside0.mk hv1
           replace hg5 := Aside0.mk hg5
           replace hat := Aside0.mk hat)
        | (go_simp
           go_at_call 30
           refine hcl.out.mono ?_
           rintro e w3 ⟨v, rfl, hv, hb3⟩
           obtain ⟨A3, c03, rfl⟩ := Kd.R_slice hv
           generalize (toI b).length = M3 at hv ⊢
           have hM : Aside0 (wk.M w3 0 (fun q => w2.heap.size ≤ q) (encW ⟨i, b⟩) [.int .i64 (i : Int), .slice A3 M3 c03]) := Aside0.mk ⟨[.int .i64 (i : Int)], [.slice A3 M3 c03], rfl, rfl, _, rfl, hv⟩
           have hO := Aside0.mk (hO3.out w3 hb3)
           have hfr : Aside0 (∀ k, w3.heap.size ≤ k → (some k = wv.ownBlock ∨ RO k) ∨ w2.heap.size ≤ k) := Aside0.mk (fun k hk => .inr (Nat.le_trans hb3.size hk))
           have c3 : w3.cell? ⟨g, 2, none⟩ = some wv := pw_cell_below hb3 c2
           have c4 : (w3.alloc (.cells #[.int .i64 (i : Int), .slice A3 M3 c03] 69)).cell? ⟨g, 2, none⟩ = some wv := pw_cell_below (below_alloc (Below.refl _ _) _) c3
           replace hv := Aside0.mk hv
           replace hb3 := Aside0.mk hb3))
      all_goals go_wp2
      all_goals (try rw [jump_ret])
      all_goals go_ret
      all_goals (
        obtain ⟨S', RO', k1, k2, k3, k4⟩ := wrote_mem (B := w.heap.size) ⟨i, b⟩ D2.out hS hm2.out.size hb3.out hg5.out hat.out hv1.out
        exact ⟨rfl, S', RO', k1, k2, k3, hm2.out.trans k4 (fun q hq => .inl hq)⟩)
    case pass => exact fun _ _ h => h.elim)
end Go.Proofs.Ytolighikimpbfaa
