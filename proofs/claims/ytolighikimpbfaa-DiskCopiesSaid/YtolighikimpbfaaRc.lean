/- The reference: Crash. -/
import Derived.Test.YtolighikimpbfaaRz
import Derived.Deep.RegionHeld3
set_option linter.unusedVariables false
set_option linter.unusedSimpArgs false
namespace Go.Proofs.Ytolighikimpbfaa
open Go.RowKit Go.Shelf Go.Proofs.YtolighikimpbfaaW.PrintWords Go.Proofs.YtolighikimpbfaaW.PrintMore

/-- A write in a row that is read, and what it leads to. -/
theorem wr_atF {W : World} {O : Nat → Prop} {A : Option Addr} {l : List Wr} (h : wk.F W O A l.length (encWs l)) (k : Nat) (hk : k < l.length) :
    ∃ ad Ax cx, A = some ad ∧ l[k].b.length ≤ cx ∧ u8.F W O Ax l[k].b.length (toI l[k].b) ∧ ∃ B Of sp, ad.add (k * 2) = ⟨B, Of, sp⟩ ∧ W.cell? ⟨B, Of, sp⟩ = some (.int .i64 (l[k].at_ : Int)) ∧ W.cell? ⟨B, Of + 1, none⟩ = some (.slice Ax l[k].b.length cx) := by
  obtain ⟨ad, c, e, hl, hK, hc, _⟩ := Kd.F_get h (0, []) (k : Int) (by omega) (by omega)
  rw [show ((k : Int)).toNat = k from rfl] at hK hc
  rw [encWs_get l k hk] at hK
  obtain ⟨a0, a1, rfl, h0, A2, c2, h1, hlc, hC⟩ := Kd.FK_now hK
  have e0 : a0 = [.int .i64 (l[k].at_ : Int)] := h0
  subst e0; subst h1
  rw [show (encW l[k]).2 = toI l[k].b from rfl, toI_length] at hlc hC hc
  have hF : u8.F W O A2 l[k].b.length (toI l[k].b) := Foot.imp hK (fun W' hK' => by
    obtain ⟨b0, b1, e1, g0, A3, c3, g1, glc, gC⟩ := hK'
    have e0 : b0 = [.int .i64 (l[k].at_ : Int)] := g0
    subst e0; subst g1
    rw [show (encW l[k]).2 = toI l[k].b from rfl, toI_length] at e1 glc gC
    simp only [List.cons_append, List.nil_append, List.cons.injEq, Value.slice.injEq, true_and, and_true] at e1
    obtain ⟨e1, _⟩ := e1
    subst e1
    exact gC)
  refine ⟨ad, A2, c2, e, hlc, hF, (ad.add (k * 2)).block, (ad.add (k * 2)).off, (ad.add (k * 2)).spot, rfl, hc 0 _ rfl, ?_⟩
  have h9 := hc 1 (.slice A2 l[k].b.length c2) rfl
  have e9 : ad.add (k * 2 + 1) = ⟨(ad.add (k * 2)).block, (ad.add (k * 2)).off + 1, none⟩ := by
    rw [← addr_add_add']; simp [Addr.add]
  rw [← e9]; exact h9
/-- A part of it. -/
theorem FK_part {W : World} {O : Nat → Prop} {Ax : Option Addr} {x cx T : Nat} {b : List UInt8} (h : u8.F W O Ax b.length (toI b)) (hT : T ≤ b.length) (hc : b.length ≤ cx) : Kd.FK wk W O (encW ⟨x, b.take T⟩) [.int .i64 (x : Int), .slice Ax T cx] := by
  have h1 : u8.F W O Ax (toI b).length (toI b) := by rw [toI_length]; exact h
  have h2 := Kd.F_take (m := T) h1 (by rw [toI_length]; exact hT)
  rw [toI_take, toI_length, List.length_take, Nat.min_eq_left hT] at h2
  refine Foot.imp h2 (fun W' hC => ⟨[.int .i64 (x : Int)], [.slice Ax T cx], rfl, rfl, Ax, cx, ?_, ?_, ?_⟩)
  · show _ = [Value.slice Ax (toI (b.take T)).length cx]
    rw [toI_length, List.length_take, Nat.min_eq_left hT]
  · show (toI (b.take T)).length ≤ cx
    rw [toI_length, List.length_take]; omega
  · show u8.C W' Ax (toI (b.take T)).length (toI (b.take T))
    rw [toI_length, List.length_take, Nat.min_eq_left hT]; exact hC

set_option maxHeartbeats 4000000 in
theorem rcrash0 (O : Nat → Prop) (v : Value) (ds : DS) (w : World) (h : Ref w O v ds) (hO : ∀ q, O q → q < w.heap.size) (hf : Fine ds) (x y : Int) (hx : -9223372036854775808 ≤ x ∧ x ≤ 9223372036854775807) (hy : -9223372036854775808 ≤ y ∧ y ≤ 9223372036854775807) :
    Calls Try.prog 39 #[v, .int .i64 x, .int .i64 y] w fun e w' => ∃ u, e = .returned u ∧ Ref w' (fun q => w.heap.size ≤ q) u (ds.crashed x y) ∧ Below w.heap.size w w' := by
  obtain ⟨A, c, A2, c2, rfl, h1, h2, h3, h4⟩ := h
  have hb := below_alloc (below_alloc (Below.refl w.heap.size w) (.cells #[.slice A ds.lasts.length c, .slice A2 ds.waits.length c2, .int .i64 ds.armed, .int .i64 ds.limit, .int .i64 ds.done] 45)) (.cells #[.slice none 0 0, .slice none 0 0, .int .i64 0, .int .i64 0, .int .i64 0] 45)
  have H1 := Mod.blk (S := fun _ => False) ((Mod.refl _ _).alloc (.cells #[.slice none 0 0, .slice none 0 0, .int .i64 0, .int .i64 0, .int .i64 0] 45)) (Go.heap_alloc_new w (.cells #[.slice A ds.lasts.length c, .slice A2 ds.waits.length c2, .int .i64 ds.armed, .int .i64 ds.limit, .int .i64 ds.done] 45)) (fun h => h)
  have H2 := last_new w (.cells #[.slice A ds.lasts.length c, .slice A2 ds.waits.length c2, .int .i64 ds.armed, .int .i64 ds.limit, .int .i64 ds.done] 45) (.cells #[.slice none 0 0, .slice none 0 0, .int .i64 0, .int .i64 0, .int .i64 0] 45)
  have hz1 : ((w.alloc (.cells #[.slice A ds.lasts.length c, .slice A2 ds.waits.length c2, .int .i64 ds.armed, .int .i64 ds.limit, .int .i64 ds.done] 45)).alloc (.cells #[.slice none 0 0, .slice none 0 0, .int .i64 0, .int .i64 0, .int .i64 0] 45)).heap.size = w.heap.size + 2 := by simp
  obtain ⟨M, hM⟩ : ∃ M, ds.waits.length = M := ⟨_, rfl⟩
  obtain ⟨N, hN⟩ : ∃ N, ds.lasts.length = N := ⟨_, rfl⟩
  have hwai := hf.wai
  have hlen := hf.len
  rw [← hf.las] at hlen
  rw [hM] at hb H1 H2 hz1 h2 h4 hwai ⊢
  rw [hN] at hb H1 H2 hz1 h1 h3 hlen ⊢
  have hk := pickN_le x M
  obtain ⟨K, hK⟩ : ∃ K, pickN x M = K := ⟨_, rfl⟩
  rw [hK] at hk
  have hp1 : Aside0 (∀ W, Calls Try.prog 49 #[.int .i64 x, .int .i64 (M : Int)] W fun e w' => e = .returned (.int .i64 (K : Int)) ∧ W = w') := Aside0.mk (fun W => by
    have := rpick_calls x M hx.1 hx.2 hwai W
    rwa [hK] at this)
  replace hM := Aside0.mk hM
  replace hN := Aside0.mk hN
  replace hK := Aside0.mk hK
  replace hf := Aside0.mk hf
  obtain ⟨w1, hw1⟩ : ∃ w1, (w.alloc (.cells #[.slice A N c, .slice A2 M c2, .int .i64 ds.armed, .int .i64 ds.limit, .int .i64 ds.done] 45)).alloc (.cells #[.slice none 0 0, .slice none 0 0, .int .i64 0, .int .i64 0, .int .i64 0] 45) = w1 := ⟨_, rfl⟩
  rw [hw1] at hb H1 H2 hz1
  obtain ⟨a0, a1, a2, a3, a4, a5⟩ := blk5 H1
  have hkc : K ≤ c2 := by omega
  have hF4 := Aside0.mk (Kd.F_below h4 hb)
  have hF3 := Aside0.mk (Kd.F_below h3 hb)
  replace hb := Aside0.mk hb
  replace H1 := Aside0.mk H1
  replace H2 := Aside0.mk H2
  clear h3 h4
  have hFt : Aside0 (wk.F w1 O A2 K ((encWs ds.waits).take K)) := Aside0.mk (by
    have h9 := Kd.F_take (m := K) (by rw [encWs_length, hM.out]; exact hF4.out) (by rw [encWs_length, hM.out]; exact hk)
    rwa [List.length_take, encWs_length, hM.out, Nat.min_eq_left hk] at h9)
  have hN0 : Aside0 (Kd.N wk 85 w1 0 (fun q => O q ∨ w1.heap.size ≤ q) (.slice none 0 0) []) := Aside0.mk (Kd.N_nil _ _ _ _ _)
  have he7 : Aside0 (((encWs ds.waits).take K).length = K) := Aside0.mk (by rw [List.length_take, encWs_length, hM.out]; omega)
  have hwn : Aside0 ((0 + K) * 32 ≤ 140737488355328) := Aside0.mk (by omega)
  have dK : (K < M ∧ decide ((K : Int) < (M : Int)) = true) ∨ (K = M ∧ decide ((K : Int) < (M : Int)) = false) := by
    by_cases h : K < M
    · exact .inl ⟨h, by simp; omega⟩
    · exact .inr ⟨by omega, by simp; omega⟩
  rcases dK with ⟨hKM, dK⟩ | ⟨hKM, dK⟩
  · have hkw : K < ds.waits.length := by rw [hM.out]; exact hKM
    obtain ⟨ad, Ax, cx, e, hlc, hCx, P0, O0, sp, hak, p0, p1⟩ := wr_atF (hM.out.symm ▸ hF4.out) K (by rw [hM.out]; exact hKM)
    subst e
    have hfit := hf.out.fit ds.waits[K] (List.getElem_mem hkw)
    have hkept : ds.kept x y = ds.waits.take K ++ [⟨(ds.waits[K]'hkw).at_, (ds.waits[K]'hkw).b.take (pickN y (ds.waits[K]'hkw).b.length)⟩] := by
      unfold DS.kept
      have e2 : pickN x ds.waits.length = K := by rw [hM.out]; exact hK.out
      rw [e2, List.getElem?_eq_getElem hkw]
    obtain ⟨X, hX⟩ : ∃ X, ds.waits[K]'hkw = X := ⟨_, rfl⟩
    rw [hX] at hlc hCx p0 p1 hfit hkept
    replace hkept := Aside0.mk hkept
    replace hCx := Aside0.mk hCx
    replace p0 := Aside0.mk p0
    replace p1 := Aside0.mk p1
    clear hX hkw
    go_enter Try.func39, Try.ntmps39
    go_wp2_with (first
      | (go_at_call 49; refine (hp1.out _).mono ?_; rintro e w' ⟨rfl, rfl⟩)
      | ((with_reducible refine gate_builtin (b := .append) (xs := #[.const (.slice none 0 0), .tmp 18]) rfl ?_)
         at_builtin
         refine Kd.N_append_rows wk (w0 := w1) 0 rfl (.const (.slice none 0 0)) (.tmp 18) 43 85 (.agg #[.int .i64 0, .slice none 0 0]) 32 rfl Try.underlying43 info85 rfl (by decide) (by omega) (.slice none 0 0) [] ((encWs ds.waits).take K) _ _ _ (fun q => O q ∨ w1.heap.size ≤ q) O rfl rfl hN0.out hFt.out (fun k hk => ⟨.inl hk, by simp [Value.ownBlock]⟩) (fun k hk => .inr hk) (Below.refl _ _) (Nat.zero_le _) hwn.out ?_
         intro v2 w2 hN2 _ hg2 hat2
         have hb2 : Below w1.heap.size w1 w2 := ⟨hg2.os, hg2.tape, hg2.output, hg2.size, fun k hk => hg2.block k hk (by simp [Value.ownBlock])⟩
         rw [List.nil_append] at hN2
         obtain ⟨A7, c7, rfl⟩ := Kd.N_slice hN2
         rw [he7.out] at hN2 ⊢
         obtain ⟨a0, a1, a2, a3, a4, a5⟩ := blk5 ((hb2.block w.heap.size (by omega)).trans H1.out)
         replace hN2 := Aside0.mk hN2
         replace hb2 := Aside0.mk hb2
         replace hat2 := Aside0.mk hat2
         have q0 := pw_cell_below hb2.out p0.out
         have q1 := pw_cell_below hb2.out p1.out
         clear hg2))
    have H9 := Go.heap_alloc_new w2 (.cells #[.int .i64 (X.at_ : Int), .slice Ax X.b.length cx] 85)
    have hb9 := below_alloc (Below.refl w2.heap.size w2) (.cells #[.int .i64 (X.at_ : Int), .slice Ax X.b.length cx] 85)
    obtain ⟨w9, hw9⟩ : ∃ w9, w2.alloc (.cells #[.int .i64 (X.at_ : Int), .slice Ax X.b.length cx] 85) = w9 := ⟨_, rfl⟩
    obtain ⟨B9, hB9⟩ : ∃ B9, w2.heap.size = B9 := ⟨_, rfl⟩
    rw [hw9] at H9 hb9 ⊢
    rw [hB9] at H9 hb9 ⊢
    have t0 : w9.cell? ⟨B9, 0, none⟩ = some (.int .i64 (X.at_ : Int)) := (cell_of_row _ _ _ _ _ _ H9).trans rfl
    have t1 : w9.cell? ⟨B9, 1, none⟩ = some (.slice Ax X.b.length cx) := (cell_of_row _ _ _ _ _ _ H9).trans rfl
    have hT := pickN_le y X.b.length
    obtain ⟨T, hTT⟩ : ∃ T, pickN y X.b.length = T := ⟨_, rfl⟩
    have hXl : X.b.length ≤ 262144 := by have := hf.out.len; omega
    have hp2 : Aside0 (∀ W, Calls Try.prog 49 #[.int .i64 y, .int .i64 (X.b.length : Int)] W fun e w' => e = .returned (.int .i64 (T : Int)) ∧ W = w') := Aside0.mk (fun W => by
      have := rpick_calls y X.b.length hy.1 hy.2 (by omega) W
      rwa [hTT] at this)
    rw [hTT] at hT hkept
    have hTc : T ≤ cx := by omega
    have hz9 := hb9.size
    have hN9 := Aside0.mk (Kd.N_below hN2.out (hB9 ▸ hb9))
    have hN9d : Aside0 (Kd.N wk 85 w9.drew 0 (fun q => O q ∨ w1.heap.size ≤ q) (.slice A7 K c7) ((encWs ds.waits).take K)) := Aside0.mk (Kd.N_below hN9.out (below_drew (Below.refl _ _)))
    have hln9 : Aside0 ((((encWs ds.waits).take K).length + 1) * 32 ≤ 140737488355328) := Aside0.mk (by rw [he7.out]; omega)
    have hfrX : Aside0 (∀ k, w9.drew.heap.size ≤ k → O k ∨ w1.heap.size ≤ k) := Aside0.mk (fun k hk => .inr (by have : w9.heap.size ≤ k := hk; have := hb2.out.size; omega))
    have hokX : Aside0 (∀ k, O k → (O k ∨ w1.heap.size ≤ k) ∧ some k ≠ (Value.slice A7 K c7).ownBlock) := Aside0.mk (fun k hk => ⟨.inl hk, fun e => by
      have := hO k hk
      have := hb.out.size
      have hat2 := hat2.out
      rw [he7.out] at hat2
      rcases hat2 with h8 | ⟨b, h8, h9⟩
      · rw [h8] at e; simp [Value.ownBlock] at e
      · rw [h8] at e; injection e with e; omega⟩)
    have hpX : Aside0 (Kd.FK wk w9.drew O (encW ⟨X.at_, X.b.take T⟩) [.int .i64 (X.at_ : Int), .slice Ax T cx]) := Aside0.mk (FK_part (Kd.F_step hCx.out (fun k hk hlt => by
      have h7 : w9.drew.heap[k]? = w9.heap[k]? := rfl
      have := hb2.out.size
      rw [h7, hb9.block k (by omega), hb2.out.block k hlt])) hT hlc)
    have hnB : Aside0 (some B9 ≠ (Value.slice A7 K c7).ownBlock) := Aside0.mk (fun e => by
      have := Kd.N_lt hN2.out B9 e.symm
      omega)
    go_region_held3 (fun W' => W'.cell? ⟨B9, 0, none⟩ = some (.int .i64 (X.at_ : Int)) ∧ W'.cell? ⟨B9, 1, none⟩ = some (.slice Ax X.b.length cx))
      (first | exact ⟨t0, t1⟩ | exact ⟨t0', t1'⟩ | exact ⟨pw_cell_below (below_alloc (Below.refl _ _) _) t0, pw_cell_below (below_alloc (Below.refl _ _) _) t1⟩)
      (first
        | (go_at_call 49; refine (hp2.out _).mono ?_; rintro e w' ⟨rfl, rfl⟩)
        | (refine Kd.N_append_step wk (w0 := w9.drew) 0 (by rfl) (.tmp 30) (.tmp 42) 43 85 (.agg #[.int .i64 0, .slice none 0 0]) 32 rfl Try.underlying43 info85 rfl (by decide) (by omega) (.slice A7 K c7) ((encWs ds.waits).take K) (encW ⟨X.at_, X.b.take T⟩) [.int .i64 (X.at_ : Int), .slice Ax T cx] (fun q => O q ∨ w1.heap.size ≤ q) O rfl rfl hpX.out hokX.out hfrX.out hN9d.out (Below.refl _ _) (Nat.zero_le _) hln9.out ?_
           intro v6 w6 hN6 _ hg6 hat6
           have t0' : w6.cell? ⟨B9, 0, none⟩ = some (.int .i64 (X.at_ : Int)) := cell_grown hg6 t0 hnB.out
           have t1' : w6.cell? ⟨B9, 1, none⟩ = some (.slice Ax X.b.length cx) := cell_grown hg6 t1 hnB.out
           obtain ⟨A10, c10, rfl⟩ := Kd.N_slice hN6
           rw [List.length_append, List.length_singleton, he7.out]
           replace hN6 := Aside0.mk hN6
           replace hg6 := Aside0.mk hg6
           replace hat6 := Aside0.mk hat6))
    have hb6 : Below w1.heap.size w9 w6 := ⟨hg6.out.os, hg6.out.tape, hg6.out.output, hg6.out.size, fun k hk => hg6.out.block k (by have := hb2.out.size; show k < w9.heap.size; omega) (fun e => by
      have hat2 := hat2.out
      rw [he7.out] at hat2
      rcases hat2 with h8 | ⟨b, h8, h9⟩
      · rw [h8] at e; simp [Value.ownBlock] at e
      · rw [h8] at e; injection e with e; omega)⟩
    have hbA : Below w1.heap.size w1 w6 := (hb2.out.trans ((hB9 ▸ hb9 : Below w2.heap.size w2 w9).mono hb2.out.size)).trans hb6
    have hzA := hbA.size
    have hkl : (ds.kept x y).length = K + 1 := by
      rw [hkept.out, List.length_append, List.length_take, hM.out]; simp; omega
    have hke : encWs (ds.kept x y) = (encWs ds.waits).take K ++ [encW ⟨X.at_, X.b.take T⟩] := by
      rw [hkept.out]; simp [encWs, List.map_take]
    have hl : Aside0 (Calls Try.prog 40 #[.slice A N c, .slice A10 (K + 1) c10] w6.drew fun e w' => ∃ u, e = .returned u ∧ u8.R 5 w' 0 (fun q => w6.heap.size ≤ q) u (toI (laid ds.lasts (ds.kept x y))) ∧ Below w6.heap.size w6 w') := Aside0.mk (by
      have h9 := laid_calls A A10 c c10 ds.lasts (ds.kept x y) w6.drew (Kd.C_drew (Kd.C_below (hN.out.symm ▸ Kd.F_now hF3.out) hbA)) (Kd.C_drew (by rw [hke, hkl]; have h9 := (Kd.N_reads' hN6.out).2.2; rw [List.length_append, List.length_singleton, he7.out] at h9; exact h9)) (fun z hz => by rw [hf.out.las]; exact kept_fit hf.out x y z hz) (by rw [hN.out]; exact hlen) (by rw [hkl]; omega)
      rw [hN.out, hkl] at h9
      exact h9.mono (fun e w' ⟨u, k1, k2, k3⟩ => ⟨u, k1, k2, ⟨k3.os, k3.tape, k3.output, k3.size, k3.block⟩⟩))
    obtain ⟨a0, a1, a2, a3, a4, a5⟩ := blk5 ((hbA.block w.heap.size (by omega)).trans H1.out)
    replace hbA := Aside0.mk hbA
    clear hb6 hkl hke t0 t1 t0' t1' hb9
    go_wp2_with fail
    go_region_law (first
      | (go_simp
         go_at_call 40
         refine hl.out.mono ?_
         rintro e w3 ⟨u, rfl, hu, hb3⟩
         obtain ⟨A8, c8, rfl⟩ := Kd.R_slice hu
         obtain ⟨n8, hn8⟩ : ∃ n8, (toI (laid ds.lasts (ds.kept x y))).length = n8 := ⟨_, rfl⟩
         rw [hn8] at hu ⊢
         have G1 := (hb3.block w.heap.size (by omega)).trans ((hbA.out.block w.heap.size (by omega)).trans H1.out)
         have G2 := (hb3.block (w.heap.size + 1) (by omega)).trans ((hbA.out.block (w.heap.size + 1) (by omega)).trans H2.out)
         obtain ⟨g0, g1, g2, g3, g4, g5⟩ := blk5 G1
         obtain ⟨e0, e1, e2, e3, e4, e5⟩ := blk5 G2
         replace hu := Aside0.mk hu
         replace hb3 := Aside0.mk hb3
         replace G2 := Aside0.mk G2
         replace hn8 := Aside0.mk hn8
         clear G1))
    all_goals go_wp2
    all_goals (
      have hq3 := hb3.out.size
      have hbf := below5 (below_then hb.out hb.out.size (below_then hbA.out hbA.out.size hb3.out)) (show w.heap.size ≤ w.heap.size + 1 by omega) (.slice A8 n8 c8) (.slice none 0 0) (.int .i64 (-1)) (.int .i64 ds.limit) (.int .i64 0)
      refine bodyPost_ret (results_cell_row rfl _ _ (w.heap.size + 1) 45 #[.slice A8 n8 c8, .slice none 0 0, .int .i64 (-1), .int .i64 ds.limit, .int .i64 0] (0, 0) _ rfl (set5 G2.out _ _ _ _ _) Try.underlying45 rfl size45) rfl ⟨_, rfl, ⟨A8, c8, none, 0, ?_, ?_, Nat.le_refl _, ?_, Kd.F_nil _ _ _⟩, hbf⟩
      · show _ = Value.agg #[.slice A8 (laid ds.lasts (ds.kept x y)).length c8, _, _, _, _]
        rw [← toI_length, hn8.out]; rfl
      · show (laid ds.lasts (ds.kept x y)).length ≤ c8
        rw [← toI_length, hn8.out]
        exact (Kd.R_reads' hu.out).2.1
      · show u8.F _ _ _ (laid ds.lasts (ds.kept x y)).length _
        rw [← toI_length, hn8.out]
        exact Kd.F_mono (Kd.R_F (R_mod hu.out (mod5 w3 (w.heap.size + 1) _ _ _ _ _) (fun q hq => by omega))) (fun q hq => by omega))
  · subst hKM
    go_enter Try.func39, Try.ntmps39
    go_wp2_with (first
      | (go_at_call 49; refine (hp1.out _).mono ?_; rintro e w' ⟨rfl, rfl⟩)
      | ((with_reducible refine gate_builtin (b := .append) (xs := #[.const (.slice none 0 0), .tmp 18]) rfl ?_)
         at_builtin
         refine Kd.N_append_rows wk (w0 := w1) 0 rfl (.const (.slice none 0 0)) (.tmp 18) 43 85 (.agg #[.int .i64 0, .slice none 0 0]) 32 rfl Try.underlying43 info85 rfl (by decide) (by omega) (.slice none 0 0) [] ((encWs ds.waits).take K) _ _ _ (fun q => O q ∨ w1.heap.size ≤ q) O rfl rfl hN0.out hFt.out (fun k hk => ⟨.inl hk, by simp [Value.ownBlock]⟩) (fun k hk => .inr hk) (Below.refl _ _) (Nat.zero_le _) hwn.out ?_
         intro v2 w2 hN2 _ hg2 hat2
         have hb2 : Below w1.heap.size w1 w2 := ⟨hg2.os, hg2.tape, hg2.output, hg2.size, fun k hk => hg2.block k hk (by simp [Value.ownBlock])⟩
         rw [List.nil_append] at hN2
         obtain ⟨A7, c7, rfl⟩ := Kd.N_slice hN2
         rw [he7.out] at hN2 ⊢
         obtain ⟨a0, a1, a2, a3, a4, a5⟩ := blk5 ((hb2.block w.heap.size (by omega)).trans H1.out)
         replace hN2 := Aside0.mk hN2
         replace hb2 := Aside0.mk hb2
         replace hat2 := Aside0.mk hat2
         clear hg2))
    have hkept : ds.kept x y = ds.waits := by
      unfold DS.kept
      rw [hM.out, hK.out, List.getElem?_eq_none (by rw [hM.out]; exact Nat.le_refl _), List.append_nil, List.take_of_length_le (by rw [hM.out]; exact Nat.le_refl _)]
    have e1 : (encWs ds.waits).take K = encWs ds.waits := List.take_of_length_le (by rw [encWs_length, hM.out]; exact Nat.le_refl _)
    rw [e1] at hN2
    have hl : Aside0 (Calls Try.prog 40 #[.slice A N c, .slice A7 K c7] w2.drew fun e w' => ∃ u, e = .returned u ∧ u8.R 5 w' 0 (fun q => w2.heap.size ≤ q) u (toI (laid ds.lasts (ds.kept x y))) ∧ Below w2.heap.size w2 w') := Aside0.mk (by
      rw [hkept]
      have h9 := laid_calls A A7 c c7 ds.lasts ds.waits w2.drew (Kd.C_drew (Kd.C_below (hN.out.symm ▸ Kd.F_now hF3.out) hb2.out)) (Kd.C_drew (by have h9 := (Kd.N_reads' hN2.out).2.2; rw [encWs_length] at h9; exact h9)) (fun z hz => by rw [hf.out.las]; exact hf.out.fit z hz) (by rw [hN.out]; exact hlen) hf.out.wai
      rw [hN.out, hM.out] at h9
      exact h9.mono (fun e w' ⟨u, k1, k2, k3⟩ => ⟨u, k1, k2, ⟨k3.os, k3.tape, k3.output, k3.size, k3.block⟩⟩))
    replace hl := Aside0.mk hl.out
    have hzz := hb2.out.size
    clear hkept e1
    go_region_law (first
      | (go_simp
         go_at_call 40
         refine hl.out.mono ?_
         rintro e w3 ⟨u, rfl, hu, hb3⟩
         obtain ⟨A8, c8, rfl⟩ := Kd.R_slice hu
         obtain ⟨n8, hn8⟩ : ∃ n8, (toI (laid ds.lasts (ds.kept x y))).length = n8 := ⟨_, rfl⟩
         rw [hn8] at hu ⊢
         have G1 := (hb3.block w.heap.size (by omega)).trans ((hb2.out.block w.heap.size (by omega)).trans H1.out)
         have G2 := (hb3.block (w.heap.size + 1) (by omega)).trans ((hb2.out.block (w.heap.size + 1) (by omega)).trans H2.out)
         obtain ⟨g0, g1, g2, g3, g4, g5⟩ := blk5 G1
         obtain ⟨e0, e1, e2, e3, e4, e5⟩ := blk5 G2
         replace hu := Aside0.mk hu
         replace hb3 := Aside0.mk hb3
         replace G2 := Aside0.mk G2
         replace hn8 := Aside0.mk hn8
         clear G1))
    all_goals go_wp2
    all_goals (
      have hq3 := hb3.out.size
      have hbf := below5 (below_then hb.out hb.out.size (below_then hb2.out hb2.out.size hb3.out)) (show w.heap.size ≤ w.heap.size + 1 by omega) (.slice A8 n8 c8) (.slice none 0 0) (.int .i64 (-1)) (.int .i64 ds.limit) (.int .i64 0)
      refine bodyPost_ret (results_cell_row rfl _ _ (w.heap.size + 1) 45 #[.slice A8 n8 c8, .slice none 0 0, .int .i64 (-1), .int .i64 ds.limit, .int .i64 0] (0, 0) _ rfl (set5 G2.out _ _ _ _ _) Try.underlying45 rfl size45) rfl ⟨_, rfl, ⟨A8, c8, none, 0, ?_, ?_, Nat.le_refl _, ?_, Kd.F_nil _ _ _⟩, hbf⟩
      · show _ = Value.agg #[.slice A8 (laid ds.lasts (ds.kept x y)).length c8, _, _, _, _]
        rw [← toI_length, hn8.out]; rfl
      · show (laid ds.lasts (ds.kept x y)).length ≤ c8
        rw [← toI_length, hn8.out]
        exact (Kd.R_reads' hu.out).2.1
      · show u8.F _ _ _ (laid ds.lasts (ds.kept x y)).length _
        rw [← toI_length, hn8.out]
        exact Kd.F_mono (Kd.R_F (R_mod hu.out (mod5 w3 (w.heap.size + 1) _ _ _ _ _) (fun q hq => by omega))) (fun q hq => by omega))
end Go.Proofs.Ytolighikimpbfaa
