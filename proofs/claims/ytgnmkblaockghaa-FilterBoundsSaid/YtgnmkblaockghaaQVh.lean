/- filter.Of of the value of an or of many. -/
import Derived.Test.YtgnmkblaockghaaQVg
set_option linter.unusedVariables false
set_option linter.unusedSimpArgs false
namespace Go.Proofs.Ytgnmkblaockghaa
open Go.RowKit Go.Shelf Go.Proofs.YtgnmkblaockghaaW.PrintWords Go.Proofs.YtgnmkblaockghaaW.PrintMore Go.Proofs.YtgnmkblaockghaaW.PrintLast
open B (kT kU bv Bv BvF Gives Box box_new put5)

set_option maxRecDepth 8000 in
theorem wipe_noO (E V : Nat) (u : FrameMode) (w : World) (h : w.cell? ⟨E, 0, none⟩ = some (.int .i64 0)) : CallsD Try.prog 70 #[.pointer (some ⟨E, 0, none⟩), .pointer (some ⟨V, 0, none⟩)] u w fun e u' w' => u' = u ∧ (e = .returned (.tuple #[]) ∧ w' = w) := by
  go_enter_d Try.func70, Try.ntmps70
  go_wp2_with fail
  go_end0
  exact ⟨rfl, rfl⟩
set_option maxRecDepth 8000 in
theorem wipe_yesO (E V : Nat) (u : FrameMode) (n : Int) (w : World) (hn : n ≠ 0) (h : w.cell? ⟨E, 0, none⟩ = some (.int .i64 n)) {v0 v1 v2 v3 : Value} (hb : FBox w V 25 v0 v1 v2 v3) :
    CallsD Try.prog 70 #[.pointer (some ⟨E, 0, none⟩), .pointer (some ⟨V, 0, none⟩)] u w fun e u' w' => u' = u ∧ (e = .returned (.tuple #[]) ∧ FBox w' V 25 (.int .i64 0) (.slice none 0 0) (.string ⟨#[]⟩) (.string ⟨#[]⟩) ∧ Mod (fun q => q = V) w w') := by
  obtain ⟨w3, hw3, hB3, hm3⟩ := put4 hb (.int .i64 0) (.slice none 0 0) (.string ⟨#[]⟩) (.string ⟨#[]⟩)
  obtain ⟨f0, f1, f2, f3⟩ := hb.free
  obtain ⟨c0, c1, c2, c3⟩ := hb.cells
  replace hB3 := Aside0.mk hB3
  replace hm3 := Aside0.mk hm3
  have d1 : (n == 0) = false := by simpa using hn
  clear hb hn
  go_enter_d Try.func70, Try.ntmps70
  go_wp2_with fail
  go_end0
  exact ⟨rfl, hB3.out, hm3.out⟩
/-- Behind a give-up: what is deferred, and the end. -/
theorem gives_upO (V E : Nat) (ev : Value) (w : World) (tmps : Array Value) (R : Ending → World → Prop) {v0 v1 v2 v3 : Value} (hE : w.heap[E]? = some (.cells #[ev] 31 (0, 0))) (hV : FBox w V 25 v0 v1 v2 v3) (hne : V ≠ E)
    (h2 : tmps[2]? = some (.pointer (some ⟨V, 0, none⟩))) (h3 : tmps[3]? = some (.pointer (some ⟨E, 0, none⟩)))
    (hR : ∀ w', Mod (fun q => q = V ∨ q = E) w w' → R (.returned (.tuple #[noF, .int .i64 180])) w') :
    Leaves Try.prog Try.f47 tmps R [{ target := .fn (.func 38) #[], args := #[.pointer (some ⟨E, 0, none⟩), .int .i64 180] }, { target := .fn (.func 70) #[.pointer (some ⟨E, 0, none⟩), .pointer (some ⟨V, 0, none⟩)], args := #[] }] (.panicking [{ v := .iface 90 (.agg #[]), recovered := false }]) w := by
  refine leaves_cons (f := 38) (args := #[.pointer (some ⟨E, 0, none⟩), .int .i64 180]) (by simp) (by simp [go_sem]) ?_
  refine (catch_stop E ev 180 w hE).mono ?_
  rintro e u' w1 ⟨rfl, rfl, hE1, hm1⟩
  have c1 : w1.cell? ⟨E, 0, none⟩ = some (.int .i64 180) := (blk_cell hE1 0).trans rfl
  have hV1 := hV.mod hm1 hne
  refine leaves_cons (f := 70) (args := #[.pointer (some ⟨E, 0, none⟩), .pointer (some ⟨V, 0, none⟩)]) (by simp [settle]) (by simp [go_sem]) ?_
  refine (wipe_yesO E V _ 180 w1 (by decide) c1 hV1).mono ?_
  rintro e u' w2 ⟨rfl, rfl, hB2, hm2⟩
  have c2 : w2.cell? ⟨E, 0, none⟩ = some (.int .i64 180) := (blk_cell (hm2.blk hE1 (fun e => hne e.symm)) 0).trans rfl
  obtain ⟨q0, q1, q2, q3⟩ := hB2.cells
  refine ⟨.tuple #[noF, .int .i64 180], ?_, hR w2 ((hm1.mono (fun q hq => .inr hq)).trans hm2 (fun q hq => .inl (.inl hq)))⟩
  simp [results, Try.results47, go_sem, h2, h3, c2, q0, q1, q2, q3]
theorem gives_backO (V E : Nat) (w : World) (tmps : Array Value) (R : Ending → World → Prop) {v0 v1 v2 v3 : Value} (hE : w.heap[E]? = some (.cells #[.int .i64 0] 31 (0, 0))) (hV : FBox w V 25 v0 v1 v2 v3)
    (h2 : tmps[2]? = some (.pointer (some ⟨V, 0, none⟩))) (h3 : tmps[3]? = some (.pointer (some ⟨E, 0, none⟩)))
    (hR : R (.returned (.tuple #[.agg #[v0, v1, v2, v3], .int .i64 0])) w) :
    Leaves Try.prog Try.f47 tmps R [{ target := .fn (.func 38) #[], args := #[.pointer (some ⟨E, 0, none⟩), .int .i64 180] }, { target := .fn (.func 70) #[.pointer (some ⟨E, 0, none⟩), .pointer (some ⟨V, 0, none⟩)], args := #[] }] .returning w := by
  have c1 : w.cell? ⟨E, 0, none⟩ = some (.int .i64 0) := (blk_cell hE 0).trans rfl
  refine leaves_cons (f := 38) (args := #[.pointer (some ⟨E, 0, none⟩), .int .i64 180]) (by simp) (by simp [go_sem]) ?_
  refine (catch_idle _ 180 w).mono ?_
  rintro e u' w1 ⟨rfl, rfl, rfl⟩
  refine leaves_cons (f := 70) (args := #[.pointer (some ⟨E, 0, none⟩), .pointer (some ⟨V, 0, none⟩)]) (by simp [settle]) (by simp [go_sem]) ?_
  refine (wipe_noO E V _ w1 c1).mono ?_
  rintro e u' w2 ⟨rfl, rfl, rfl⟩
  obtain ⟨q0, q1, q2, q3⟩ := hV.cells
  refine ⟨.tuple #[.agg #[v0, v1, v2, v3], .int .i64 0], ?_, hR⟩
  simp [results, Try.results47, go_sem, h2, h3, c1, q0, q1, q2, q3]
theorem or_fv (n : Nat) (A : Option Addr) (c : Nat) : fv (orN n) A c = .agg #[.int .i64 2, .slice A n c, .string ⟨#[]⟩, .string ⟨#[]⟩] := by unfold fv orN; dsimp only; rw [List.length_replicate]
theorem or_Fv {n : Nat} {A : Option Addr} {c : Nat} {W : World} (hlo : n ≤ c) (hC : kF.C W A n (List.replicate n hasA)) : Fv W (orN n) A c := ⟨by unfold orN; dsimp only; rw [List.length_replicate]; exact hlo, by unfold orN; dsimp only; rw [List.length_replicate]; exact hC⟩
theorem ocheck_calls (n : Nat) (hn : n ≤ 1000) (A : Option Addr) (c : Nat) (W : World) (hlo : n ≤ c) (hC : kF.C W A n (List.replicate n hasA)) :
    Calls Try.prog 16 #[.agg #[.int .i64 2, .slice A n c, .string ⟨#[]⟩, .string ⟨#[]⟩]] W fun e w' => e = .returned (.int .i64 (if n ≤ 199 then 0 else 2)) ∧ Below W.heap.size W w' := by
  have h := fcheck_calls (orN n) A c W (or_Fv hlo hC) (by rw [wF_or]; omega)
  rw [or_fv] at h
  unfold checkN at h
  rw [right_or] at h
  by_cases c1 : n ≤ 199
  · rw [decide_eq_true c1, if_pos rfl] at h; rw [if_pos c1]; exact h
  · rw [decide_eq_false c1, if_neg (by decide)] at h; rw [if_neg c1]; exact h
theorem oright_calls (n : Nat) (hn : n ≤ 1000) (A : Option Addr) (c : Nat) (W : World) (hlo : n ≤ c) (hC : kF.C W A n (List.replicate n hasA)) :
    Calls Try.prog 14 #[.agg #[.int .i64 2, .slice A n c, .string ⟨#[]⟩, .string ⟨#[]⟩]] W fun e w' => e = .returned (.bool (decide (n ≤ 199))) ∧ Below W.heap.size W w' := by
  have h := rright_calls (orN n) A c W (or_Fv hlo hC) (by rw [wF_or]; omega)
  rw [or_fv, right_or] at h
  exact h
/-- What Of ends in. -/
def OfEnds (n : Nat) (w : World) (e : Ending) (w' : World) : Prop :=
  (if n ≤ 199 then ∃ A c, e = .returned (.tuple #[.agg #[.int .i64 2, .slice A n c, .string ⟨#[]⟩, .string ⟨#[]⟩], .int .i64 0]) ∧ GivesOr n A c w w' else e = .returned (.tuple #[noF, .int .i64 180])) ∧ Below w.heap.size w w'
set_option maxRecDepth 8000 in
set_option maxHeartbeats 4000000 in
theorem ofV_calls (n : Nat) (hn : n ≤ 1000) (A : Option Addr) (c : Nat) (B' : Option Addr) (d : Nat) (w : World) (hv : Bv w (valN n) A c B' d) :
    Calls Try.prog 47 #[.agg #[.int .u8 2, .int .u8 1, .bool true, .slice A 0 c, .slice B' n d]] w (OfEnds n w) := by
  have hmf : ∀ (fn : Fn) (first cap : Array Value) (w : World), (Instr.makeFunc fn first cap).run Try.prog w = .ok (.func fn first cap) w := fun _ _ _ _ => rfl
  obtain ⟨X, hXe⟩ : ∃ X, w.heap.size = X := ⟨_, rfl⟩
  obtain ⟨w1, hw1⟩ : ∃ w1, w.alloc (.cells #[.int .u8 2, .int .u8 1, .bool true, .slice A 0 c, .slice B' n d] 55) = w1 := ⟨_, rfl⟩
  obtain ⟨V, hV⟩ : ∃ V, w1.heap.size = V := ⟨_, rfl⟩
  obtain ⟨w2, hw2⟩ : ∃ w2, w1.alloc (.cells #[.int .i64 0, .slice none 0 0, .string ⟨#[]⟩, .string ⟨#[]⟩] 25) = w2 := ⟨_, rfl⟩
  obtain ⟨E, hE⟩ : ∃ E, w2.heap.size = E := ⟨_, rfl⟩
  obtain ⟨w3, hw3⟩ : ∃ w3, w2.alloc (.cells #[.int .i64 0] 31) = w3 := ⟨_, rfl⟩
  have hXV : V = X + 1 := by rw [← hV, ← hw1, ← hXe]; simp
  have hVE : E = V + 1 := by rw [← hE, ← hw2, ← hV]; simp
  have b1 : Below w.heap.size w w1 := by rw [← hw1]; exact below_alloc (Below.refl _ w) _
  have b2 : Below w1.heap.size w1 w2 := by rw [← hw2]; exact below_alloc (Below.refl _ w1) _
  have b3 : Below w2.heap.size w2 w3 := by rw [← hw3]; exact below_alloc (Below.refl _ w2) _
  have b12 := below_then b1 b1.size b2
  have b13 := below_then b12 b12.size b3
  have hX1 : Box w1 X (.int .u8 2) (.int .u8 1) (.bool true) (.slice A 0 c) (.slice B' n d) := by rw [← hw1, ← hXe]; exact box_new w _ _ _ _ _
  have hX3 := Aside0.mk ((hX1.below b2).below b3)
  have hV2 : FBox w2 V 25 (.int .i64 0) (.slice none 0 0) (.string ⟨#[]⟩) (.string ⟨#[]⟩) := by rw [← hw2, ← hV]; exact fbox_new w1 _ _ _ _ _
  have hV3 := Aside0.mk (hV2.below b3)
  have hE3 : w3.heap[E]? = some (.cells #[.int .i64 0] 31 (0, 0)) := by rw [← hw3, ← hE]; exact heap_alloc_new w2 _
  have hEl := Aside0.mk (blk_lt hE3)
  replace hE3 := Aside0.mk hE3
  have hbw := Aside0.mk b13
  have hck := B.check_ours (valN n) A c B' d w3 (hv.below b13) (by rw [wT_val]; omega)
  rw [check_val n hn] at hck
  have hck : Calls Try.prog 71 #[.agg #[.int .u8 2, .int .u8 1, .bool true, .slice A 0 c, .slice B' n d]] w3 fun e w' => e = .returned (.int .i64 0) ∧ Below w3.heap.size w3 w' := by
    unfold valN at hck
    dsimp only at hck
    rw [List.length_replicate] at hck
    exact hck
  replace hck := Aside0.mk hck
  have hv3 := Aside0.mk (hv.below b13)
  have hmy := Aside0.mk must_yes
  have hmn := Aside0.mk must_no
  obtain ⟨x0, x1, x2, x3, x4⟩ := hX3.out.cells
  replace hXV := Aside0.mk hXV
  replace hVE := Aside0.mk hVE
  have hVX := Aside0.mk (show w.heap.size ≤ V by have := hXV.out; omega)
  have hEX := Aside0.mk (show w.heap.size ≤ E by have := hXV.out; have := hVE.out; omega)
  clear b1 b2 b3 b12 b13 hX1 hV2 hv
  go_enter_defers Try.func47, Try.ntmps47
  go_wp2_with fail
  refine hck.out.mono ?_
  rintro e w4 ⟨rfl, hb4⟩
  have hE4 := Aside0.mk ((hb4.block E hEl.out).trans hE3.out)
  have hV4 := Aside0.mk (hV3.out.below hb4)
  have hX4 := Aside0.mk (hX3.out.below hb4)
  have hv4 := hv3.out.below hb4
  have hbb4 := Aside0.mk (below_then hbw.out hbw.out.size hb4)
  obtain ⟨y0, y1, y2, y3, y4⟩ := hX4.out.cells
  clear hb4 x0 x1 x2 x3 x4
  by_cases h200 : n ≤ 200
  · have hcl := Aside0.mk (of_or n h200 A c B' d w4 hv4)
    replace hv4 := Aside0.mk hv4
    go_wp2_with fail
    refine (hmy.out _).mono ?_
    rintro e wy ⟨rfl, rfl⟩
    go_wp2_with fail
    refine hcl.out.mono ?_
    rintro e w5 ⟨⟨A5, c5, rfl, hc5, hF5⟩, hb5⟩
    have hE5 := (hb5.block E (blk_lt hE4.out)).trans hE4.out
    have hV5 := hV4.out.below hb5
    have hbb5 := below_then hbb4.out hbb4.out.size hb5
    have hlt := Aside0.mk (show V < wy.heap.size ∧ E < wy.heap.size from ⟨hV4.out.lt, blk_lt hE4.out⟩)
    obtain ⟨v0, v1, v2, v3⟩ := hV5.cells
    obtain ⟨f0, f1, f2, f3⟩ := hV5.free
    obtain ⟨w6, hw6, hV6, hm6⟩ := put4 hV5 (.int .i64 2) (.slice A5 n c5) (.string ⟨#[]⟩) (.string ⟨#[]⟩)
    have hE6 := Aside0.mk (hm6.blk hE5 (show ¬ E = V by have := hVE.out; omega))
    have hbb6 := Aside0.mk (mod_below hm6 hbb5 hVX.out)
    have hF6 := Aside0.mk (F_mod hF5 hm6 (fun q hq e => by have hq : wy.heap.size ≤ q := hq; have e : q = V := e; have := hlt.out.1; omega))
    have hkk := Aside0.mk (ocheck_calls n (by omega) A5 c5 w6 hc5 (Kd.F_now hF6.out))
    obtain ⟨z0, z1, z2, z3⟩ := hV6.cells
    replace hV6 := Aside0.mk hV6
    replace hc5 := Aside0.mk hc5
    have hyz := Aside0.mk (show w.heap.size ≤ wy.heap.size from hbb4.out.size)
    clear hE5 hV5 hbb5 hm6 hF5 hb5 hcl
    by_cases h199 : n ≤ 199
    · rw [if_pos h199] at hkk
      replace h199 := Aside0.mk h199
      replace h200 := Aside0.mk h200
      replace hn := Aside0.mk hn
      go_wp2_with fail
      refine hkk.out.mono ?_
      rintro e w7 ⟨rfl, hb7⟩
      have hE7 := (hb7.block E (blk_lt hE6.out)).trans hE6.out
      have hV7 := hV6.out.below hb7
      have hF7 := Kd.F_below hF6.out hb7
      have hbb7 := below_then hbb6.out hbb6.out.size hb7
      obtain ⟨k0, k1, k2, k3⟩ := hV7.cells
      obtain ⟨l0, l1, l2, l3⟩ := hV7.free
      obtain ⟨w8, hw8, hV8, hm8⟩ := put4 hV7 (.int .i64 2) (.slice A5 n c5) (.string ⟨#[]⟩) (.string ⟨#[]⟩)
      have hE8 := hm8.blk hE7 (show ¬ E = V by have := hVE.out; omega)
      have hbb8 := mod_below hm8 hbb7 hVX.out
      have hF8 := F_mod hF7 hm8 (fun q hq e => by have hq : wy.heap.size ≤ q := hq; have e : q = V := e; have := hlt.out.1; omega)
      have e1 : w8.cell? ⟨E, 0, none⟩ = some (.int .i64 0) := (blk_cell hE8 0).trans rfl
      have e2 : w8.frozen? ⟨E, 0, none⟩ = false := blk_frozen hE8 0
      have hm9 := set_mod w8 E 0 (.int .i64 0)
      have hE9 : (w8.setCell ⟨E, 0, none⟩ (.int .i64 0)).heap[E]? = some (.cells #[.int .i64 0] 31 (0, 0)) := by simpa using blk_set hE8 0 (.int .i64 0)
      obtain ⟨w9, hw9⟩ : ∃ w9, w8.setCell ⟨E, 0, none⟩ (.int .i64 0) = w9 := ⟨_, rfl⟩
      rw [hw9] at hm9 hE9
      have hV9 := Aside0.mk (hV8.mod hm9 (show ¬ V = E by have := hVE.out; omega))
      have hF9 := Aside0.mk (F_mod hF8 hm9 (fun q hq e => by have hq : wy.heap.size ≤ q := hq; have e : q = E := e; have := hlt.out.2; omega))
      have hbb9 := Aside0.mk (mod_below hm9 hbb8 hEX.out)
      replace hE9 := Aside0.mk hE9
      clear hE7 hV7 hF7 hbb7 hV8 hm8 hE8 hbb8 hF8 hm9 hb7 v0 v1 v2 v3 f0 f1 f2 f3 z0 z1 z2 z3
      go_wp2_with fail
      refine (hmy.out _).mono ?_
      rintro e wq ⟨rfl, rfl⟩
      go_wp2_with fail
      refine gives_backO V E _ _ _ hE9.out hV9.out rfl rfl ?_
      unfold OfEnds
      rw [if_pos h199.out]
      exact ⟨⟨A5, c5, rfl, hc5.out, Kd.F_mono hF9.out (fun q hq => Nat.le_trans hyz.out hq)⟩, hbb9.out⟩
    · rw [if_neg h199] at hkk
      replace h199 := Aside0.mk h199
      replace h200 := Aside0.mk h200
      replace hn := Aside0.mk hn
      go_wp2_with fail
      refine hkk.out.mono ?_
      rintro e w7 ⟨rfl, hb7⟩
      have hE7 := Aside0.mk ((hb7.block E (blk_lt hE6.out)).trans hE6.out)
      have hV7 := Aside0.mk (hV6.out.below hb7)
      have hbb7 := Aside0.mk (below_then hbb6.out hbb6.out.size hb7)
      clear hb7 v0 v1 v2 v3 f0 f1 f2 f3 z0 z1 z2 z3
      go_wp2_with fail
      refine (hmn.out _).mono ?_
      rintro e wq ⟨rfl, rfl⟩
      go_wp2_with fail
      refine gives_upO V E _ _ _ _ hE7.out hV7.out (by have := hVE.out; omega) rfl rfl (fun w' hm => ?_)
      unfold OfEnds
      rw [if_neg h199.out]
      exact ⟨rfl, Mod.below (S := fun q => w.heap.size ≤ q) ((Mod.of_below hbb7.out).trans hm (fun q hq => .inl (by have := hVX.out; have := hEX.out; rcases hq with hq | hq <;> subst hq <;> assumption))) (fun q hq => hq) (Nat.le_refl _)⟩
  · have hcl := Aside0.mk (of_or_no n (by omega) A c B' d w4)
    replace hv4 := Aside0.mk hv4
    replace h200 := Aside0.mk h200
    replace hn := Aside0.mk hn
    go_wp2_with fail
    refine (hmy.out _).mono ?_
    rintro e wy ⟨rfl, rfl⟩
    go_wp2_with fail
    refine hcl.out.mono ?_
    rintro e w5 ⟨rfl, hb5⟩
    have hE5 := Aside0.mk ((hb5.block E (blk_lt hE4.out)).trans hE4.out)
    have hV5 := Aside0.mk (hV4.out.below hb5)
    have hbb5 := Aside0.mk (below_then hbb4.out hbb4.out.size hb5)
    clear hb5 hcl
    go_wp2_with fail
    refine gives_upO V E _ _ _ _ hE5.out hV5.out (by have := hVE.out; omega) rfl rfl (fun w' hm => ?_)
    unfold OfEnds
    rw [if_neg (by have := h200.out; omega)]
    exact ⟨rfl, Mod.below (S := fun q => w.heap.size ≤ q) ((Mod.of_below hbb5.out).trans hm (fun q hq => .inl (by have := hVX.out; have := hEX.out; rcases hq with hq | hq <;> subst hq <;> assumption))) (fun q hq => hq) (Nat.le_refl _)⟩
end Go.Proofs.Ytgnmkblaockghaa
