/- The reference: a write that is done. -/
import Derived.Test.YtolighikimpbfaaRx
set_option linter.unusedVariables false
set_option linter.unusedSimpArgs false
namespace Go.Proofs.Ytolighikimpbfaa
open Go.RowKit Go.Shelf Go.Proofs.YtolighikimpbfaaW.PrintWords Go.Proofs.YtolighikimpbfaaW.PrintMore

theorem info85 : (Try.prog.info? 85).map (fun i => (i.zero, i.size, i.bytes)) = some (some (.agg #[.int .i64 0, .slice none 0 0]), 2, 32) := by kernel_rfl
set_option maxHeartbeats 2000000 in
theorem rwrite_yes0 (O okb : Nat → Prop) (v : Value) (ds : DS) (w : World) (h : Ref w O v ds) (hO : ∀ q, O q → q < w.heap.size) (hf : Fine ds) (h0 : ds.armed ≠ 0) (i : Nat) (A' : Option Addr) (c' : Nat) (b : List UInt8) (hbF : u8.F w okb A' b.length (toI b)) (hx : i + b.length ≤ ds.now.length) (hl : b.length = 0 ∨ i + b.length ≤ ds.limit) :
    Calls Try.prog 36 #[v, .int .i64 i, .slice A' b.length c'] w fun e w' => ∃ u, e = .returned (.tuple #[u, .int .i64 0]) ∧ Ref w' (fun q => O q ∨ w.heap.size ≤ q) u (ds.wrote i b) ∧ Below w.heap.size w w' := by
  have hr := h
  rw [← hf.las] at hx
  have hll : ds.lasts.length ≤ 262144 := by have := hf.las; have := hf.len; omega
  obtain ⟨A, c, A2, c2, rfl, h1, h2, h3, h4⟩ := h
  have hb := below_alloc (below_alloc (Below.refl w.heap.size w) (.cells #[.slice A ds.lasts.length c, .slice A2 ds.waits.length c2, .int .i64 ds.armed, .int .i64 ds.limit, .int .i64 ds.done] 45)) (.cells #[.slice none 0 0, .slice none 0 0, .int .i64 0, .int .i64 0, .int .i64 0] 45)
  have hs := Aside0.mk (rstep_yes O _ ds _ (hr.below hb) hf h0)
  have H1 := Mod.blk (S := fun _ => False) ((Mod.refl _ _).alloc (.cells #[.slice none 0 0, .slice none 0 0, .int .i64 0, .int .i64 0, .int .i64 0] 45)) (Go.heap_alloc_new w (.cells #[.slice A ds.lasts.length c, .slice A2 ds.waits.length c2, .int .i64 ds.armed, .int .i64 ds.limit, .int .i64 ds.done] 45)) (fun h => h)
  have H2 := last_new w (.cells #[.slice A ds.lasts.length c, .slice A2 ds.waits.length c2, .int .i64 ds.armed, .int .i64 ds.limit, .int .i64 ds.done] 45) (.cells #[.slice none 0 0, .slice none 0 0, .int .i64 0, .int .i64 0, .int .i64 0] 45)
  have hz1 : ((w.alloc (.cells #[.slice A ds.lasts.length c, .slice A2 ds.waits.length c2, .int .i64 ds.armed, .int .i64 ds.limit, .int .i64 ds.done] 45)).alloc (.cells #[.slice none 0 0, .slice none 0 0, .int .i64 0, .int .i64 0, .int .i64 0] 45)).heap.size = w.heap.size + 2 := by simp
  replace hb := Aside0.mk hb
  replace H1 := Aside0.mk H1
  replace H2 := Aside0.mk H2
  replace hr := Aside0.mk hr
  replace hf := Aside0.mk hf
  replace h4 := Aside0.mk h4
  replace hbF := Aside0.mk hbF
  clear h3 h0
  have d1 : decide ((i : Int) < 0) = false := by simp
  have d2 : decide ((ds.lasts.length : Int) < (i : Int)) = false := by simp; omega
  have d3 : decide ((ds.lasts.length : Int) - (i : Int) < (b.length : Int)) = false := by simp; omega
  have dd : b.length = 0 ∨ (0 < b.length ∧ decide (ds.limit < (i : Int) + (b.length : Int)) = false) := by
    by_cases hz : b.length = 0
    · exact .inl hz
    · exact .inr ⟨by omega, by simp; omega⟩
  clear hl
  obtain ⟨m, hm⟩ : ∃ m, b.length = m := ⟨_, rfl⟩
  rw [hm] at hbF hx d3 dd ⊢
  replace hm := Aside0.mk hm
  rcases dd with rfl | ⟨_, d5⟩
  all_goals (
    go_enter Try.func36, Try.ntmps36
    go_wp2_with fail
    refine hs.out.mono ?_
    rintro e w2 ⟨u, rfl, hu, hb2⟩
    obtain ⟨A5, c5, A6, c6, rfl, k1, k2, k3, k4⟩ := hu
    obtain ⟨w1, hw1⟩ : ∃ w1, (w.alloc (.cells #[.slice A ds.lasts.length c, .slice A2 ds.waits.length c2, .int .i64 ds.armed, .int .i64 ds.limit, .int .i64 ds.done] 45)).alloc (.cells #[.slice none 0 0, .slice none 0 0, .int .i64 0, .int .i64 0, .int .i64 0] 45) = w1 := ⟨_, rfl⟩
    rw [hw1] at hb2 hb H1 H2 hz1
    have hz2 := hb2.size
    have G1 := (hb2.block w.heap.size (by omega)).trans H1.out
    have G2 := (hb2.block (w.heap.size + 1) (by omega)).trans H2.out
    have G3 := Go.heap_alloc_new w2 (.cells #[.slice A5 ds.stepped.lasts.length c5, .slice A6 ds.stepped.waits.length c6, .int .i64 ds.stepped.armed, .int .i64 ds.stepped.limit, .int .i64 ds.stepped.done] 45)
    have hb3 := below_alloc (Below.refl w2.heap.size w2) (.cells #[.slice A5 ds.stepped.lasts.length c5, .slice A6 ds.stepped.waits.length c6, .int .i64 ds.stepped.armed, .int .i64 ds.stepped.limit, .int .i64 ds.stepped.done] 45)
    obtain ⟨w3, hw3⟩ : ∃ w3, w2.alloc (.cells #[.slice A5 ds.stepped.lasts.length c5, .slice A6 ds.stepped.waits.length c6, .int .i64 ds.stepped.armed, .int .i64 ds.stepped.limit, .int .i64 ds.stepped.done] 45) = w3 := ⟨_, rfl⟩
    rw [hw3] at G3 hb3
    replace G1 := (hb3.block w.heap.size (by omega)).trans G1
    replace G2 := (hb3.block (w.heap.size + 1) (by omega)).trans G2
    obtain ⟨a0, a1, a2, a3, a4, a5⟩ := blk5 G1
    have hz3 := hb3.size
    have hl3 := (Array.getElem?_eq_some_iff.1 G3).1
    have k3' := Kd.F_below k3 hb3
    have hb3 := Aside0.mk (below_then hb.out hb.out.size (below_then hb2 hb2.size hb3))
    obtain ⟨B3, hB3⟩ : ∃ B3, w2.heap.size = B3 := ⟨_, rfl⟩
    rw [hB3] at G3 hz2 hz3 hl3
    replace G2 := Aside0.mk G2
    replace G3 := Aside0.mk G3
    have hk3 := Aside0.mk k3'
    have hF4 := Aside0.mk (Kd.F_below h4.out hb3.out)
    have hFb := Aside0.mk (Kd.F_below hbF.out hb3.out)
    clear G1 hs k3 k3' k4 hb2 hw1
    have hN0 : Aside0 (Kd.N wk 85 w3 0 (fun q => O q ∨ w3.heap.size ≤ q) (.slice none 0 0) []) := Aside0.mk (Kd.N_nil _ _ _ _ _)
    have hE0 : Aside0 (∀ W : World, u8.R 5 W 0 (fun q => W.heap.size ≤ q) (.slice none 0 0) []) := Aside0.mk (fun W => Kd.R_nil _ _ _ _ _)
    have hwn : Aside0 ((0 + ds.waits.length) * 32 ≤ 140737488355328) := Aside0.mk (by have := hf.out.wai; omega)
    have hwn2 : Aside0 (((encWs ds.waits).length + 1) * 32 ≤ 140737488355328) := Aside0.mk (by rw [encWs_length]; have := hf.out.wai; omega)
    have hzw : w.heap.size ≤ w3.heap.size := by omega
    go_wp2_with (first
      | ((with_reducible refine gate_builtin (b := .append) (xs := #[.const (.slice none 0 0), .tmp 52]) rfl ?_)
         at_builtin
         refine Kd.N_append_rows wk (w0 := w3) 0 rfl (.const (.slice none 0 0)) (.tmp 52) 43 85 (.agg #[.int .i64 0, .slice none 0 0]) 32 rfl Try.underlying43 info85 rfl (by decide) (by omega) (.slice none 0 0) [] (encWs ds.waits) _ _ _ (fun q => O q ∨ w3.heap.size ≤ q) O rfl rfl hN0.out hF4.out (fun k hk => ⟨.inl hk, by simp [Value.ownBlock]⟩) (fun k hk => .inr (by omega)) (Below.refl _ _) (Nat.zero_le _) hwn.out ?_
         intro v1 w4 hN1 _ hg4 hat4
         have hb4 : Below w3.heap.size w3 w4 := ⟨hg4.os, hg4.tape, hg4.output, hg4.size, fun k hk => hg4.block k hk (by simp [Value.ownBlock])⟩
         have hz4 := hb4.size
         obtain ⟨A7, c7, rfl⟩ := Kd.N_slice hN1
         rw [List.nil_append] at hN1 hat4 ⊢
         generalize (encWs ds.waits).length = n7 at hN1 hat4 ⊢
         have hC4 := Aside0.mk (Kd.C_below (Kd.F_now hFb.out) hb4)
         have hE4 := Aside0.mk (hE0.out w4)
         replace hN1 := Aside0.mk hN1
         replace hb4 := Aside0.mk hb4
         replace hat4 := Aside0.mk hat4
         clear hg4)
      | ((with_reducible refine gate_builtin (b := .append) (xs := #[.const (.slice none 0 0), .tmp 55]) rfl ?_)
         at_builtin
         refine Kd.R_append_rows u8 (w0 := w4) 0 rfl (.const (.slice none 0 0)) (.tmp 55) 31 5 (.int .u8 0) 1 rfl Try.underlying31 info5 rfl (by decide) (by omega) (.slice none 0 0) [] (toI b) _ _ _ (fun q => w4.heap.size ≤ q) (fun _ => False) rfl rfl hE4.out hC4.out (fun _ _ h => h) (fun _ h => h.elim) (fun k hk => hk) (Below.refl _ _) (Nat.zero_le _) (by simp <;> omega) ?_
         intro v2 w5 hv2 _ hg5 _
         rw [List.nil_append] at hv2
         have hb5 : Below w4.heap.size w4 w5 := ⟨hg5.os, hg5.tape, hg5.output, hg5.size, fun k hk => hg5.block k hk (by simp [Value.ownBlock])⟩
         obtain ⟨A8, c8, rfl⟩ := Kd.R_slice hv2
         have hN5 := Aside0.mk (Kd.N_below hN1.out hb5)
         have hc8 := (Kd.R_reads' hv2).2.1
         have hF8 := Kd.R_F hv2
         obtain ⟨n8, hn8⟩ : ∃ n8, (toI b).length = n8 := ⟨_, rfl⟩
         have hp : Aside0 (Kd.FK wk w5 (fun q => w4.heap.size ≤ q) (encW ⟨i, b⟩) [.int .i64 (i : Int), .slice A8 (toI b).length c8]) := Aside0.mk (fun W' hW => ⟨[.int .i64 (i : Int)], [.slice A8 (toI b).length c8], rfl, rfl, A8, c8, rfl, hc8, hF8 W' hW⟩)
         rw [hn8] at hp ⊢
         have hv1l := Kd.N_lt hN1.out
         have hokp : Aside0 (∀ k, w4.heap.size ≤ k → (O k ∨ w3.heap.size ≤ k) ∧ some k ≠ (Value.slice A7 n7 c7).ownBlock) := Aside0.mk (fun k hk => ⟨.inr (by omega), fun e => by have := hv1l k e.symm; omega⟩)
         replace hb5 := Aside0.mk hb5
         have hz5 := hb5.out.size
         clear hg5 hv2 hF8 hv1l hc8 hn8)
      | ((with_reducible refine gate_builtin (b := .append) (xs := #[.tmp 53, .tmp 58]) rfl ?_)
         at_builtin
         refine Kd.N_append wk (w0 := w5) 0 rfl (.tmp 53) (.tmp 58) 43 85 (.agg #[.int .i64 0, .slice none 0 0]) 32 rfl Try.underlying43 info85 rfl (by decide) (by omega) (.slice A7 n7 c7) (encWs ds.waits) (encW ⟨i, b⟩) [.int .i64 (i : Int), .slice A8 n8 c8] (fun q => O q ∨ w3.heap.size ≤ q) (fun q => w4.heap.size ≤ q) rfl rfl hp.out hokp.out (fun k hk => .inr (by omega)) hN5.out (Below.refl _ _) (Nat.zero_le _) hwn2.out ?_
         intro v3 w6 hN6 _ hg6 hat6
         obtain ⟨A9, c9, rfl⟩ := Kd.N_slice hN6
         obtain ⟨n9, hn9⟩ : ∃ n9, (encWs ds.waits ++ [encW ⟨i, b⟩]).length = n9 := ⟨_, rfl⟩
         have hl9 := Aside0.mk (show n9 = (ds.waits ++ [(⟨i, b⟩ : Wr)]).length by rw [← hn9]; simp [encWs])
         rw [hn9] at hN6 hat6 ⊢
         clear hn9
         have h73 : ∀ q, (Value.slice A7 n7 c7).ownBlock = some q → w3.heap.size ≤ q := fun q e => by
           rcases hat4.out with h | ⟨b0, h, hb0⟩
           · rw [e] at h; simp [Value.ownBlock] at h
           · rw [e] at h; injection h with h; omega
         have K2 := (hg6.block (w.heap.size + 1) (by omega) (fun e => by have := h73 _ e.symm; omega)).trans ((hb5.out.block (w.heap.size + 1) (by omega)).trans ((hb4.out.block (w.heap.size + 1) (by omega)).trans G2.out))
         have K3 := (hg6.block B3 (by omega) (fun e => by have := h73 _ e.symm; omega)).trans ((hb5.out.block B3 (by omega)).trans ((hb4.out.block B3 (by omega)).trans G3.out))
         obtain ⟨x0, x1, x2, x3, x4, x5⟩ := blk5 K3
         have K3b := (heap_setCell_same _ _ 1 _ _ (.slice A9 n9 c9) K3).trans (show _ = some (Obj.cells #[.slice A5 ds.stepped.lasts.length c5, .slice A9 n9 c9, .int .i64 ds.stepped.armed, .int .i64 ds.stepped.limit, .int .i64 ds.stepped.done] 45 (0, 0)) from rfl)
         have hm7 : Mod (fun q => q = B3) w6 (w6.setCell ⟨B3, 1, none⟩ (.slice A9 n9 c9)) := (Mod.refl (fun q => q = B3) w6).setCell (p := ⟨B3, 1, none⟩) (.inl rfl) _
         obtain ⟨w7, hw7⟩ : ∃ w7, w6.setCell ⟨B3, 1, none⟩ (.slice A9 n9 c9) = w7 := ⟨_, rfl⟩
         rw [hw7] at K3b hm7
         have K2b := hm7.blk K2 (by omega)
         obtain ⟨y0, y1, y2, y3, y4, y5⟩ := blk5 K3b
         obtain ⟨z0, z1, z2, z3, z4, z5⟩ := blk5 K2b
         replace K2b := Aside0.mk K2b
         replace hN6 := Aside0.mk hN6
         replace hg6 := Aside0.mk hg6
         replace hm7 := Aside0.mk hm7
         replace h73 := Aside0.mk h73
         clear K2 K3 K3b))
    have hf6 : Below w.heap.size w3 w6 := ((hb4.out.mono (by omega)).trans (hb5.out.mono (by omega))).grown hg6.out (by omega) (fun q hq => by have := h73.out q hq; omega)
    have hf7 : Below w.heap.size w3 w7 := hf6.trans (hm7.out.below (B := w.heap.size) (fun q hq => by omega) (by have := hf6.size; omega))
    have hff := fun a b c d e => below5 hf7 (show w.heap.size ≤ w.heap.size + 1 by omega) a b c d e
    have hfin := fun a b c d e => hb3.out.trans (hff a b c d e)
    refine bodyPost_ret (results_ct rfl _ _ (w.heap.size + 1) 45 #[.slice A5 ds.stepped.lasts.length c5, .slice A9 n9 c9, .int .i64 ds.stepped.armed, .int .i64 ds.stepped.limit, .int .i64 ds.stepped.done] (0, 0) _ rfl (set5 K2b.out _ _ _ _ _) Try.underlying45 rfl size45) rfl ⟨_, rfl, ⟨A5, c5, A9, c9, ?_, k1, ?_, ?_, ?_⟩, hfin _ _ _ _ _⟩
    · show _ = Value.agg #[_, .slice A9 (ds.waits ++ [(⟨i, b⟩ : Wr)]).length c9, _, _, _]
      rw [← hl9.out]; rfl
    · show (ds.waits ++ [(⟨i, b⟩ : Wr)]).length ≤ c9
      rw [← hl9.out]; exact (Kd.N_reads' hN6.out).2.1
    · have hmf := hff (.slice A5 ds.stepped.lasts.length c5) (.slice A9 n9 c9) (.int .i64 ds.stepped.armed) (.int .i64 ds.stepped.limit) (.int .i64 ds.stepped.done)
      exact Kd.F_mono (F_mod hk3.out (S := fun q => w.heap.size ≤ q) ⟨hmf.os, hmf.tape, hmf.output, hmf.size, fun k _ hn => hmf.block k (Nat.lt_of_not_le hn)⟩ (fun q hq hn => by have := hO q hq; omega)) (fun q hq => .inl hq)
    · have h9 := Kd.F_mono (F_mod (F_mod (Kd.N_F hN6.out) hm7.out (fun q hq e => by rcases hq with hq | hq; have := hO q hq; omega; omega)) (mod5 w7 (w.heap.size + 1) (.slice A5 ds.stepped.lasts.length c5) (.slice A9 n9 c9) (.int .i64 ds.stepped.armed) (.int .i64 ds.stepped.limit) (.int .i64 ds.stepped.done)) (fun q hq e => by rcases hq with hq | hq; have := hO q hq; omega; omega)) (ok' := fun q => O q ∨ w.heap.size ≤ q) (fun q hq => hq.imp id (fun h => by omega))
      have e9 : encWs ds.waits ++ [encW ⟨i, b⟩] = encWs (ds.waits ++ [(⟨i, b⟩ : Wr)]) := by simp [encWs]
      rw [e9, hl9.out] at h9
      rw [hl9.out]
      exact h9)
theorem rwrite_yes (O okb : Nat → Prop) (v : Value) (ds : DS) (w : World) (h : Ref w O v ds) (hf : Fine ds) (h0 : ds.armed ≠ 0) (i : Nat) (A' : Option Addr) (c' : Nat) (b : List UInt8) (hbF : u8.F w okb A' b.length (toI b)) (hx : i + b.length ≤ ds.now.length) (hl : b.length = 0 ∨ i + b.length ≤ ds.limit) :
    Calls Try.prog 36 #[v, .int .i64 i, .slice A' b.length c'] w fun e w' => ∃ u, e = .returned (.tuple #[u, .int .i64 0]) ∧ Ref w' (fun q => O q ∨ w.heap.size ≤ q) u (ds.wrote i b) ∧ Below w.heap.size w w' :=
  (rwrite_yes0 (fun q => O q ∧ q < w.heap.size) okb v ds w h.bound (fun q hq => hq.2) hf h0 i A' c' b hbF hx hl).mono (fun e w' ⟨u, h1, h2, h3⟩ => ⟨u, h1, h2.mono (fun q hq => hq.imp (fun h => h.1) id), h3⟩)
end Go.Proofs.Ytolighikimpbfaa
