/- ber.Decode. -/
import Derived.Test.YtlmelbnmfhpacaaAz
set_option linter.unusedVariables false
set_option linter.unusedSimpArgs false
namespace Go.Proofs.Ytlmelbnmfhpacaa
open Go.RowKit Go.Shelf Go.Proofs.YtlmelbnmfhpacaaW.PrintWords Go.Proofs.YtlmelbnmfhpacaaW.PrintMore Go.Proofs.YtlmelbnmfhpacaaW.PrintLast

theorem wipe_noD (E V : Nat) (u : FrameMode) (w : World) (h : w.cell? ⟨E, 0, none⟩ = some (.int .i64 0)) : CallsD Try.prog 38 #[.pointer (some ⟨E, 0, none⟩), .pointer (some ⟨V, 0, none⟩)] u w fun e u' w' => u' = u ∧ (e = .returned (.tuple #[]) ∧ w' = w) := by
  go_enter_d Try.func38, Try.ntmps38
  go_wp2_with fail
  go_end0
  exact ⟨rfl, rfl⟩
theorem wipe_yesD (E V : Nat) (u : FrameMode) (n : Int) (w : World) (hn : n ≠ 0) (h : w.cell? ⟨E, 0, none⟩ = some (.int .i64 n)) {v0 v1 v2 v3 v4 : Value} (hb : Box w V v0 v1 v2 v3 v4) :
    CallsD Try.prog 38 #[.pointer (some ⟨E, 0, none⟩), .pointer (some ⟨V, 0, none⟩)] u w fun e u' w' => u' = u ∧ (e = .returned (.tuple #[]) ∧ Box w' V (.int .u8 0) (.int .u8 0) (.bool false) (.slice none 0 0) (.slice none 0 0) ∧ Mod (fun q => q = V) w w') := by
  obtain ⟨w3, hw3, hB3, hm3⟩ := put5 hb (.int .u8 0) (.int .u8 0) (.bool false) (.slice none 0 0) (.slice none 0 0)
  obtain ⟨f0, f1, f2, f3, f4⟩ := hb.free
  obtain ⟨c0, c1, c2, c3, c4⟩ := hb.cells
  replace hB3 := Aside0.mk hB3
  replace hm3 := Aside0.mk hm3
  have d1 : (n == 0) = false := by simpa using hn
  clear hb hn
  go_enter_d Try.func38, Try.ntmps38
  go_wp2_with fail
  go_end0
  exact ⟨rfl, hB3.out, hm3.out⟩
/-- No value. -/
abbrev noV : Value := .agg #[.int .u8 0, .int .u8 0, .bool false, .slice none 0 0, .slice none 0 0]
/-- Behind a give-up: what is deferred, and the end. -/
theorem gives_upD (V E : Nat) (ev : Value) (n : Int) (w : World) (tmps : Array Value) (R : Ending → World → Prop) {v0 v1 v2 v3 v4 : Value} (hE : w.heap[E]? = some (.cells #[ev] 29 (0, 0))) (hV : Box w V v0 v1 v2 v3 v4) (hne : V ≠ E) (hn : n ≠ 0)
    (h2 : tmps[2]? = some (.pointer (some ⟨V, 0, none⟩))) (h3 : tmps[3]? = some (.pointer (some ⟨E, 0, none⟩)))
    (hR : ∀ w', Mod (fun q => q = V ∨ q = E) w w' → R (.returned (.tuple #[noV, .int .i64 n])) w') :
    Leaves Try.prog Try.f16 tmps R [{ target := .fn (.func 39) #[], args := #[.pointer (some ⟨E, 0, none⟩)] }, { target := .fn (.func 38) #[.pointer (some ⟨E, 0, none⟩), .pointer (some ⟨V, 0, none⟩)], args := #[] }] (.panicking [{ v := .iface 82 (.agg #[.int .i64 n]), recovered := false }]) w := by
  refine leaves_cons (f := 39) (args := #[.pointer (some ⟨E, 0, none⟩)]) (by simp) (by simp [go_sem]) ?_
  refine (catch_stop E ev n w hE).mono ?_
  rintro e u' w1 ⟨rfl, rfl, hE1, hm1⟩
  have c1 : w1.cell? ⟨E, 0, none⟩ = some (.int .i64 n) := (blk_cell hE1 0).trans rfl
  have hV1 := hV.mod hm1 hne
  refine leaves_cons (f := 38) (args := #[.pointer (some ⟨E, 0, none⟩), .pointer (some ⟨V, 0, none⟩)]) (by simp [settle]) (by simp [go_sem]) ?_
  refine (wipe_yesD E V _ n w1 hn c1 hV1).mono ?_
  rintro e u' w2 ⟨rfl, rfl, hB2, hm2⟩
  have c2 : w2.cell? ⟨E, 0, none⟩ = some (.int .i64 n) := (blk_cell (hm2.blk hE1 (fun e => hne e.symm)) 0).trans rfl
  obtain ⟨q0, q1, q2, q3, q4⟩ := hB2.cells
  refine ⟨.tuple #[noV, .int .i64 n], ?_, hR w2 ((hm1.mono (fun q hq => .inr hq)).trans hm2 (fun q hq => .inl (.inl hq)))⟩
  simp [results, Try.results16, go_sem, h2, h3, c2, q0, q1, q2, q3, q4]
theorem gives_backD (V E : Nat) (w : World) (tmps : Array Value) (R : Ending → World → Prop) {v0 v1 v2 v3 v4 : Value} (hE : w.heap[E]? = some (.cells #[.int .i64 0] 29 (0, 0))) (hV : Box w V v0 v1 v2 v3 v4)
    (h2 : tmps[2]? = some (.pointer (some ⟨V, 0, none⟩))) (h3 : tmps[3]? = some (.pointer (some ⟨E, 0, none⟩)))
    (hR : R (.returned (.tuple #[.agg #[v0, v1, v2, v3, v4], .int .i64 0])) w) :
    Leaves Try.prog Try.f16 tmps R [{ target := .fn (.func 39) #[], args := #[.pointer (some ⟨E, 0, none⟩)] }, { target := .fn (.func 38) #[.pointer (some ⟨E, 0, none⟩), .pointer (some ⟨V, 0, none⟩)], args := #[] }] .returning w := by
  have c1 : w.cell? ⟨E, 0, none⟩ = some (.int .i64 0) := (blk_cell hE 0).trans rfl
  refine leaves_cons (f := 39) (args := #[.pointer (some ⟨E, 0, none⟩)]) (by simp) (by simp [go_sem]) ?_
  refine (catch_idle _ w).mono ?_
  rintro e u' w1 ⟨rfl, rfl, rfl⟩
  refine leaves_cons (f := 38) (args := #[.pointer (some ⟨E, 0, none⟩), .pointer (some ⟨V, 0, none⟩)]) (by simp [settle]) (by simp [go_sem]) ?_
  refine (wipe_noD E V _ w1 c1).mono ?_
  rintro e u' w2 ⟨rfl, rfl, rfl⟩
  obtain ⟨q0, q1, q2, q3, q4⟩ := hV.cells
  refine ⟨.tuple #[.agg #[v0, v1, v2, v3, v4], .int .i64 0], ?_, hR⟩
  simp [results, Try.results16, go_sem, h2, h3, c1, q0, q1, q2, q3, q4]
/-- The value of bytes, or why there is none. -/
def decF (l : List Int) : Except Int T := if 65536 < l.length then .error 3 else
  match valF 16 l with
  | .error k => .error k
  | .ok r => if r.2 = [] then .ok r.1 else .error 151
/-- What Decode ends in. -/
def Decoded (o : Except Int T) (w : World) (e : Ending) (w' : World) : Prop :=
  (match o with
   | .error k => e = .returned (.tuple #[noV, .int .i64 k])
   | .ok x => ∃ A c B d, e = .returned (.tuple #[bv x A c B d, .int .i64 0]) ∧ BvF w' (fun q => w.heap.size ≤ q) x A c B d) ∧ Below w.heap.size w w'
theorem items_zero {v : List Int → Except Int (T × List Int)} (hv : ∀ l k, v l = .error k → k = 150 ∨ k = 151) : ∀ (n : Nat) (l : List Int) (k : Int), itemsF v n l = .error k → k = 150 ∨ k = 151
  | 0, l, k, h => by simp [itemsF] at h
  | n + 1, [], k, h => by simp [itemsF] at h
  | n + 1, x :: l, k, h => by
    rw [itemsF] at h
    split at h
    · injection h with h; subst h; exact hv _ _ ‹_›
    · split at h
      · injection h with h; subst h; exact items_zero hv n _ _ ‹_›
      · cases h
theorem val_zero : ∀ (n : Nat) (l : List Int) (k : Int), valF n l = .error k → k = 150 ∨ k = 151
  | 0, l, k, h => by simp [valF] at h; exact .inl h.symm
  | n + 1, [], k, h => by simp [valF] at h; exact .inr h.symm
  | n + 1, t :: l, k, h => by
    rw [valF] at h
    split at h
    · injection h with h; exact .inr h.symm
    · split at h
      · injection h with h; exact .inr h.symm
      · split at h
        · injection h with h; exact .inr h.symm
        · split at h
          · cases h
          · split at h
            · injection h with h; subst h; exact items_zero (fun l k h => val_zero n l k h) _ _ _ ‹_›
            · cases h
set_option maxHeartbeats 2000000 in
theorem decode_calls (A : Option Addr) (c : Nat) (l : List Int) (w : World) (hC : kU.C w A l.length l) (hc : l.length ≤ c) (hl : l.length ≤ 1000000) (hy : ∀ x ∈ l, 0 ≤ x ∧ x < 256) :
    Calls Try.prog 16 #[.slice A l.length c] w (Decoded (decF l) w) := by
  have hmf : ∀ (fn : Fn) (first cap : Array Value) (w : World), (Instr.makeFunc fn first cap).run Try.prog w = .ok (.func fn first cap) w := fun _ _ _ _ => rfl
  obtain ⟨V, hV⟩ : ∃ V, w.heap.size = V := ⟨_, rfl⟩
  obtain ⟨w1, hw1⟩ : ∃ w1, w.alloc (.cells #[.int .u8 0, .int .u8 0, .bool false, .slice none 0 0, .slice none 0 0] 26) = w1 := ⟨_, rfl⟩
  obtain ⟨E, hE⟩ : ∃ E, w1.heap.size = E := ⟨_, rfl⟩
  obtain ⟨w2, hw2⟩ : ∃ w2, w1.alloc (.cells #[.int .i64 0] 29) = w2 := ⟨_, rfl⟩
  have hVE : E = V + 1 := by rw [← hE, ← hw1, ← hV]; simp
  have b1 : Below V w w1 := by rw [← hw1, ← hV]; exact below_alloc (Below.refl _ w) _
  have b2 : Below E w1 w2 := by rw [← hw2, ← hE]; exact below_alloc (Below.refl _ w1) _
  have hX1 : Box w1 V (.int .u8 0) (.int .u8 0) (.bool false) (.slice none 0 0) (.slice none 0 0) := by rw [← hw1, ← hV]; exact box_new w _ _ _ _ _
  have hX2 := Aside0.mk (hX1.below (hE ▸ b2))
  have hE2 := Aside0.mk (show w2.heap[E]? = some (.cells #[.int .i64 0] 29 (0, 0)) from by rw [← hw2, ← hE]; exact heap_alloc_new w1 _)
  have hb2 := Aside0.mk (b1.trans (b2.mono (by omega)))
  clear hX1 b1 b2
  replace hVE := Aside0.mk hVE
  replace hy := Aside0.mk hy
  replace hC := Aside0.mk hC
  by_cases h0 : 65536 < l.length
  · have hd : decF l = .error 3 := by unfold decF; rw [if_pos h0]
    rw [hd]
    obtain ⟨c0, c1, c2, c3, c4⟩ := hX2.out.cells
    obtain ⟨f0, f1, f2, f3, f4⟩ := hX2.out.free
    obtain ⟨w3, hw3, hX3, hm3⟩ := put5 hX2.out (.int .u8 0) (.int .u8 0) (.bool false) (.slice none 0 0) (.slice none 0 0)
    have hE3 := hm3.blk hE2.out (by have := hVE.out; omega)
    have e1 : w3.cell? ⟨E, 0, none⟩ = some (.int .i64 0) := (blk_cell hE3 0).trans rfl
    have e2 : w3.frozen? ⟨E, 0, none⟩ = false := blk_frozen hE3 0
    have hm4 := (Mod.refl (fun q => q = E) w3).setCell (p := ⟨E, 0, none⟩) (.inl rfl) (.int .i64 3)
    have hE4 : (w3.setCell ⟨E, 0, none⟩ (.int .i64 3)).heap[E]? = some (.cells #[.int .i64 3] 29 (0, 0)) := by simpa using blk_set hE3 0 (.int .i64 3)
    obtain ⟨w4, hw4⟩ : ∃ w4, w3.setCell ⟨E, 0, none⟩ (.int .i64 3) = w4 := ⟨_, rfl⟩
    rw [hw4] at hm4 hE4
    have hX4 := hX3.mod hm4 (by have := hVE.out; omega)
    obtain ⟨q0, q1, q2, q3, q4⟩ := hX4.cells
    have q5 : w4.cell? ⟨E, 0, none⟩ = some (.int .i64 3) := (blk_cell hE4 0).trans rfl
    have hfin := Aside0.mk (show Below w.heap.size w w4 from hV ▸ Mod.below (S := fun q => V ≤ q) (((Mod.of_below (S := fun q => V ≤ q) (hV ▸ hb2.out)).trans hm3 (fun q hq => .inl (by show V ≤ q; omega))).trans hm4 (fun q hq => .inl (by have := hVE.out; show V ≤ q; omega))) (fun q hq => hq) (by omega))
    have i1 : (65536 : Int) < (l.length : Int) := by omega
    obtain ⟨N, hN⟩ : ∃ N, l.length = N := ⟨_, rfl⟩
    rw [hN] at i1 hc ⊢
    replace hX3 := Aside0.mk hX3
    replace hX4 := Aside0.mk hX4
    clear hm3 hm4 hE3 hE4 h0 hd hl hN
    go_enter_defers Try.func16, Try.ntmps16
    go_wp2_with fail
    refine ⟨.tuple #[noV, .int .i64 3], ?_, rfl, hfin.out⟩
    simp [results, Try.results16, go_sem, q0, q1, q2, q3, q4, q5]
  · have hC2 := hC.out
    have hFw := Kd.F_below (kU_F (ok := fun q => q < w.heap.size) hC2 (fun ad e hp => by
      obtain ⟨ad2, e2, h⟩ := u8_at hC2 0 hp
      rw [e] at e2
      injection e2 with e2
      subst e2
      have := World.block_lt_of_cell? w _ h
      rwa [add_block] at this)) (hV ▸ hb2.out)
    have hb3 := below_alloc (Below.refl w2.heap.size w2) (.cells #[.slice A l.length c] 66)
    have hR3 := heap_alloc_new w2 (.cells #[.slice A l.length c] 66)
    obtain ⟨w3, hw3⟩ : ∃ w3, w2.alloc (.cells #[.slice A l.length c] 66) = w3 := ⟨_, rfl⟩
    obtain ⟨R, hR⟩ : ∃ R, w2.heap.size = R := ⟨_, rfl⟩
    rw [hw3] at hb3 hR3
    rw [hR] at hR3
    have hRE : E < R := by have := blk_lt hE2.out; omega
    have hrd : Rd w3 R (fun q => q < w.heap.size) l A c := ⟨hR3, hc, Kd.F_below hFw hb3, fun q hq => by have := hVE.out; have hq' : q < w.heap.size := hq; rw [hV] at hq'; omega⟩
    have hval := value_calls 16 1 rfl R _ l A c w3 hrd (fun q hq => by have := blk_lt hR3; have := hVE.out; have hq' : q < w.heap.size := hq; rw [hV] at hq'; omega) hl hy.out
    have hdec : decF l = match valF 16 l with | .error k => .error k | .ok r => if r.2 = [] then .ok r.1 else .error 151 := by unfold decF; rw [if_neg h0]
    have hX3 := Aside0.mk (hX2.out.below hb3)
    have hE3 := Aside0.mk ((hb3.block E (blk_lt hE2.out)).trans hE2.out)
    have hbw := Aside0.mk (show Below V w w3 from hb2.out.trans (hb3.mono (by have := hVE.out; omega)))
    have i1 : decide ((65536 : Int) < (l.length : Int)) = false := by simp; omega
    obtain ⟨N, hN⟩ : ∃ N, l.length = N := ⟨_, rfl⟩
    rw [hN] at i1 hw3 hc ⊢
    replace hrd := Aside0.mk hrd
    have hzv := Aside0.mk (fun k h => val_zero 16 l k h)
    have hVw := Aside0.mk hV
    clear hFw hC2 hb3 hR3 h0 hN
    rcases hvv : valF 16 l with k | r
    · rw [hvv] at hval hdec
      rw [show decF l = .error k from hdec]
      have hk := hzv.out k hvv
      replace hk : k ≠ 0 := by omega
      replace hk := Aside0.mk hk
      replace hval := Aside0.mk hval
      clear hdec hvv hzv
      go_enter_defers Try.func16, Try.ntmps16
      go_wp2_with fail
      refine hval.out.mono ?_
      rintro e w4 ⟨he, hm4⟩
      replace he : e = stopE k := he
      subst he
      have hE4 := Aside0.mk (hm4.blk hE3.out (by omega))
      have hX4 := Aside0.mk (hX3.out.mod hm4 (by have := hVE.out; omega))
      have hmw := Aside0.mk (show Mod (fun q => V ≤ q) w w4 from (Mod.of_below (S := fun q => V ≤ q) (hV ▸ hbw.out)).trans hm4 (fun q hq => .inl (by have := hVE.out; show V ≤ q; omega)))
      go_wp2_with fail
      refine gives_upD V E _ k w4 _ _ hE4.out hX4.out (by have := hVE.out; omega) hk.out rfl rfl (fun w' hm => ⟨rfl, ?_⟩)
      exact hV ▸ Mod.below (S := fun q => V ≤ q) (hmw.out.trans hm (fun q hq => .inl (by have := hVE.out; show V ≤ q; omega))) (fun q hq => hq) (by omega)
    · rw [hvv] at hval hdec
      dsimp only at hdec
      replace hval := Aside0.mk hval
      by_cases hr2 : r.2 = []
      · rw [if_pos hr2] at hdec
        rw [hdec]
        clear hdec hvv hzv
        go_enter_defers Try.func16, Try.ntmps16
        go_wp2_with fail
        refine hval.out.mono ?_
        rintro e w4 ⟨⟨A4, c4, B4, d4, A5, c5, rfl, hv4, hr4⟩, hm4⟩
        rw [hr2] at hr4
        have g0 : w4.cell? ⟨R, 0, none⟩ = some (.slice A5 0 c5) := hr4.c0
        have hE4 := hm4.blk hE3.out (by omega)
        have hX4 := hX3.out.mod hm4 (by have := hVE.out; omega)
        obtain ⟨k0, k1, k2, k3, k4⟩ := hX4.cells
        obtain ⟨f0, f1, f2, f3, f4⟩ := hX4.free
        obtain ⟨w5, hw5, hX5, hm5⟩ := put5 hX4 (.int .u8 r.1.f0) (.int .u8 r.1.f1) (.bool r.1.f2) (.slice A4 r.1.f3.length c4) (.slice B4 r.1.f4.length d4)
        have hE5 := hm5.blk hE4 (by have := hVE.out; omega)
        have g1 : w5.cell? ⟨R, 0, none⟩ = some (.slice A5 0 c5) := (blk_cell (hm5.blk hr4.blk (by have := hVE.out; omega)) 0).trans rfl
        obtain ⟨m0, m1, m2, m3, m4⟩ := hX5.cells
        obtain ⟨n0, n1, n2, n3, n4⟩ := hX5.free
        obtain ⟨w6, hw6, hX6, hm6⟩ := put5 hX5 (.int .u8 r.1.f0) (.int .u8 r.1.f1) (.bool r.1.f2) (.slice A4 r.1.f3.length c4) (.slice B4 r.1.f4.length d4)
        have hE6 := hm6.blk hE5 (by have := hVE.out; omega)
        have e1 : w6.cell? ⟨E, 0, none⟩ = some (.int .i64 0) := (blk_cell hE6 0).trans rfl
        have e2 : w6.frozen? ⟨E, 0, none⟩ = false := blk_frozen hE6 0
        have hm7 := (Mod.refl (fun q => q = E) w6).setCell (p := ⟨E, 0, none⟩) (.inl rfl) (.int .i64 0)
        have hE7 : (w6.setCell ⟨E, 0, none⟩ (.int .i64 0)).heap[E]? = some (.cells #[.int .i64 0] 29 (0, 0)) := by simpa using blk_set hE6 0 (.int .i64 0)
        obtain ⟨w7, hw7⟩ : ∃ w7, w6.setCell ⟨E, 0, none⟩ (.int .i64 0) = w7 := ⟨_, rfl⟩
        rw [hw7] at hm7 hE7
        have hX7 := Aside0.mk (hX6.mod hm7 (by have := hVE.out; omega))
        have hw3s : R < w3.heap.size := hrd.out.lt
        have hv7 := Aside0.mk (((hv4.mod hm5 (fun q hq e => by have : w3.heap.size ≤ q := hq; have := hVE.out; omega)).mod hm6 (fun q hq e => by have : w3.heap.size ≤ q := hq; have := hVE.out; omega)).mod hm7 (fun q hq e => by have : w3.heap.size ≤ q := hq; have := hVE.out; omega))
        have hmw := Aside0.mk (show Below w.heap.size w w7 from hV ▸ Mod.below (S := fun q => V ≤ q) (((((Mod.of_below (S := fun q => V ≤ q) (hV ▸ hbw.out)).trans hm4 (fun q hq => .inl (by have := hVE.out; show V ≤ q; omega))).trans hm5 (fun q hq => .inl (by show V ≤ q; omega))).trans hm6 (fun q hq => .inl (by show V ≤ q; omega))).trans hm7 (fun q hq => .inl (by have := hVE.out; show V ≤ q; omega))) (fun q hq => hq) (by omega))
        have hsz := Aside0.mk (show w.heap.size ≤ w3.heap.size from by have := hVE.out; omega)
        replace hX4 := Aside0.mk hX4
        replace hX5 := Aside0.mk hX5
        replace hX6 := Aside0.mk hX6
        replace hE7 := Aside0.mk hE7
        clear hm4 hm5 hm6 hm7 hE4 hE5 hE6 hv4 hr4 hw3s hval
        unfold bv
        go_wp2_with fail
        refine (must_yes _ _).mono ?_
        rintro e w9 ⟨rfl, rfl⟩
        go_wp2_with fail
        refine gives_backD V E _ _ _ hE7.out hX7.out rfl rfl ?_
        exact ⟨⟨A4, c4, B4, d4, rfl, hv7.out.mono (fun q hq => Nat.le_trans hsz.out hq)⟩, hmw.out⟩
      · rw [if_neg hr2] at hdec
        rw [hdec]
        clear hdec hvv hzv
        obtain ⟨L2, hL2⟩ : ∃ L2, r.2.length = L2 := ⟨_, rfl⟩
        have i3 : ((L2 : Int) == 0) = false := by
          have : r.2.length ≠ 0 := fun h => hr2 (List.length_eq_zero_iff.1 h)
          simp; omega
        clear hr2
        go_enter_defers Try.func16, Try.ntmps16
        go_wp2_with fail
        refine hval.out.mono ?_
        rintro e w4 ⟨⟨A4, c4, B4, d4, A5, c5, rfl, hv4, hr4⟩, hm4⟩
        have g0 : w4.cell? ⟨R, 0, none⟩ = some (.slice A5 L2 c5) := hL2 ▸ hr4.c0
        have hE4 := hm4.blk hE3.out (by omega)
        have hX4 := hX3.out.mod hm4 (by have := hVE.out; omega)
        obtain ⟨k0, k1, k2, k3, k4⟩ := hX4.cells
        obtain ⟨f0, f1, f2, f3, f4⟩ := hX4.free
        obtain ⟨w5, hw5, hX5, hm5⟩ := put5 hX4 (.int .u8 r.1.f0) (.int .u8 r.1.f1) (.bool r.1.f2) (.slice A4 r.1.f3.length c4) (.slice B4 r.1.f4.length d4)
        have hE5 := Aside0.mk (hm5.blk hE4 (by have := hVE.out; omega))
        have g1 : w5.cell? ⟨R, 0, none⟩ = some (.slice A5 L2 c5) := hL2 ▸ (blk_cell (hm5.blk hr4.blk (by have := hVE.out; omega)) 0).trans rfl
        have hmw := Aside0.mk (show Mod (fun q => V ≤ q) w w5 from ((Mod.of_below (S := fun q => V ≤ q) (hV ▸ hbw.out)).trans hm4 (fun q hq => .inl (by have := hVE.out; show V ≤ q; omega))).trans hm5 (fun q hq => .inl (by show V ≤ q; omega)))
        replace hX4 := Aside0.mk hX4
        replace hX5 := Aside0.mk hX5
        clear hm4 hm5 hE4 hv4 hr4 hval hL2
        unfold bv
        go_wp2_with fail
        refine (must_no _ _).mono ?_
        rintro e w9 ⟨rfl, rfl⟩
        go_wp2_with fail
        refine gives_upD V E _ 151 _ _ _ hE5.out hX5.out (by have := hVE.out; omega) (by decide) rfl rfl (fun w' hm => ⟨rfl, ?_⟩)
        exact hV ▸ Mod.below (S := fun q => V ≤ q) (hmw.out.trans hm (fun q hq => .inl (by have := hVE.out; show V ≤ q; omega))) (fun q hq => hq) (by omega)
end Go.Proofs.Ytlmelbnmfhpacaa
