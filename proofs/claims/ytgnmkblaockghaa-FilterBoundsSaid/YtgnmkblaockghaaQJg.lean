/- filter.Parse. -/
import Derived.Test.YtgnmkblaockghaaQGg
set_option linter.unusedVariables false
set_option linter.unusedSimpArgs false
namespace Go.Proofs.Ytgnmkblaockghaa
open Go.RowKit Go.Shelf Go.Proofs.YtgnmkblaockghaaW.PrintWords Go.Proofs.YtgnmkblaockghaaW.PrintMore Go.Proofs.YtgnmkblaockghaaW.PrintLast

/-- No filter. -/
abbrev noF : Value := .agg #[.int .i64 0, .slice none 0 0, .string ⟨#[]⟩, .string ⟨#[]⟩]
set_option maxRecDepth 8000 in
theorem wipe_noD (E V : Nat) (u : FrameMode) (w : World) (h : w.cell? ⟨E, 0, none⟩ = some (.int .i64 0)) : CallsD Try.prog 42 #[.pointer (some ⟨E, 0, none⟩), .pointer (some ⟨V, 0, none⟩)] u w fun e u' w' => u' = u ∧ (e = .returned (.tuple #[]) ∧ w' = w) := by
  go_enter_d Try.func42, Try.ntmps42
  go_wp2_with fail
  go_end0
  exact ⟨rfl, rfl⟩
set_option maxRecDepth 8000 in
theorem wipe_yesD (E V : Nat) (u : FrameMode) (n : Int) (w : World) (hn : n ≠ 0) (h : w.cell? ⟨E, 0, none⟩ = some (.int .i64 n)) {v0 v1 v2 v3 : Value} (hb : FBox w V 25 v0 v1 v2 v3) :
    CallsD Try.prog 42 #[.pointer (some ⟨E, 0, none⟩), .pointer (some ⟨V, 0, none⟩)] u w fun e u' w' => u' = u ∧ (e = .returned (.tuple #[]) ∧ FBox w' V 25 (.int .i64 0) (.slice none 0 0) (.string ⟨#[]⟩) (.string ⟨#[]⟩) ∧ Mod (fun q => q = V) w w') := by
  obtain ⟨w3, hw3, hB3, hm3⟩ := put4 hb (.int .i64 0) (.slice none 0 0) (.string ⟨#[]⟩) (.string ⟨#[]⟩)
  obtain ⟨f0, f1, f2, f3⟩ := hb.free
  obtain ⟨c0, c1, c2, c3⟩ := hb.cells
  replace hB3 := Aside0.mk hB3
  replace hm3 := Aside0.mk hm3
  have d1 : (n == 0) = false := by simpa using hn
  clear hb hn
  go_enter_d Try.func42, Try.ntmps42
  go_wp2_with fail
  go_end0
  exact ⟨rfl, hB3.out, hm3.out⟩
/-- Behind a give-up: what is deferred, and the end. -/
theorem gives_upD (V E : Nat) (ev : Value) (w : World) (tmps : Array Value) (R : Ending → World → Prop) {v0 v1 v2 v3 : Value} (hE : w.heap[E]? = some (.cells #[ev] 31 (0, 0))) (hV : FBox w V 25 v0 v1 v2 v3) (hne : V ≠ E)
    (h2 : tmps[2]? = some (.pointer (some ⟨V, 0, none⟩))) (h3 : tmps[3]? = some (.pointer (some ⟨E, 0, none⟩)))
    (hR : ∀ w', Mod (fun q => q = V ∨ q = E) w w' → R (.returned (.tuple #[noF, .int .i64 180])) w') :
    Leaves Try.prog Try.f18 tmps R [{ target := .fn (.func 38) #[], args := #[.pointer (some ⟨E, 0, none⟩), .int .i64 180] }, { target := .fn (.func 42) #[.pointer (some ⟨E, 0, none⟩), .pointer (some ⟨V, 0, none⟩)], args := #[] }] (.panicking [{ v := .iface 90 (.agg #[]), recovered := false }]) w := by
  refine leaves_cons (f := 38) (args := #[.pointer (some ⟨E, 0, none⟩), .int .i64 180]) (by simp) (by simp [go_sem]) ?_
  refine (catch_stop E ev 180 w hE).mono ?_
  rintro e u' w1 ⟨rfl, rfl, hE1, hm1⟩
  have c1 : w1.cell? ⟨E, 0, none⟩ = some (.int .i64 180) := (blk_cell hE1 0).trans rfl
  have hV1 := hV.mod hm1 hne
  refine leaves_cons (f := 42) (args := #[.pointer (some ⟨E, 0, none⟩), .pointer (some ⟨V, 0, none⟩)]) (by simp [settle]) (by simp [go_sem]) ?_
  refine (wipe_yesD E V _ 180 w1 (by decide) c1 hV1).mono ?_
  rintro e u' w2 ⟨rfl, rfl, hB2, hm2⟩
  have c2 : w2.cell? ⟨E, 0, none⟩ = some (.int .i64 180) := (blk_cell (hm2.blk hE1 (fun e => hne e.symm)) 0).trans rfl
  obtain ⟨q0, q1, q2, q3⟩ := hB2.cells
  refine ⟨.tuple #[noF, .int .i64 180], ?_, hR w2 ((hm1.mono (fun q hq => .inr hq)).trans hm2 (fun q hq => .inl (.inl hq)))⟩
  simp [results, Try.results18, go_sem, h2, h3, c2, q0, q1, q2, q3]
theorem gives_backD (V E : Nat) (w : World) (tmps : Array Value) (R : Ending → World → Prop) {v0 v1 v2 v3 : Value} (hE : w.heap[E]? = some (.cells #[.int .i64 0] 31 (0, 0))) (hV : FBox w V 25 v0 v1 v2 v3)
    (h2 : tmps[2]? = some (.pointer (some ⟨V, 0, none⟩))) (h3 : tmps[3]? = some (.pointer (some ⟨E, 0, none⟩)))
    (hR : R (.returned (.tuple #[.agg #[v0, v1, v2, v3], .int .i64 0])) w) :
    Leaves Try.prog Try.f18 tmps R [{ target := .fn (.func 38) #[], args := #[.pointer (some ⟨E, 0, none⟩), .int .i64 180] }, { target := .fn (.func 42) #[.pointer (some ⟨E, 0, none⟩), .pointer (some ⟨V, 0, none⟩)], args := #[] }] .returning w := by
  have c1 : w.cell? ⟨E, 0, none⟩ = some (.int .i64 0) := (blk_cell hE 0).trans rfl
  refine leaves_cons (f := 38) (args := #[.pointer (some ⟨E, 0, none⟩), .int .i64 180]) (by simp) (by simp [go_sem]) ?_
  refine (catch_idle _ 180 w).mono ?_
  rintro e u' w1 ⟨rfl, rfl, rfl⟩
  refine leaves_cons (f := 42) (args := #[.pointer (some ⟨E, 0, none⟩), .pointer (some ⟨V, 0, none⟩)]) (by simp [settle]) (by simp [go_sem]) ?_
  refine (wipe_noD E V _ w1 c1).mono ?_
  rintro e u' w2 ⟨rfl, rfl, rfl⟩
  obtain ⟨q0, q1, q2, q3⟩ := hV.cells
  refine ⟨.tuple #[.agg #[v0, v1, v2, v3], .int .i64 0], ?_, hR⟩
  simp [results, Try.results18, go_sem, h2, h3, c1, q0, q1, q2, q3]
/-- The filter of a text. -/
def parseF (s : ByteArray) : Option Ft := (filtF 16 s 0 0).bind fun r => if r.2.1 = s.size then some r.1 else none
/-- What Parse ends in. -/
def Parsed (o : Option Ft) (w : World) (e : Ending) (w' : World) : Prop :=
  (match o with
    | some x => ∃ A c, e = .returned (.tuple #[fv x A c, .int .i64 0]) ∧ x.f1.length ≤ c ∧ kF.F w' (fun q => w.heap.size ≤ q) A x.f1.length x.f1
    | none => e = .returned (.tuple #[noF, .int .i64 180])) ∧ Below w.heap.size w w'
set_option maxRecDepth 8000 in
set_option maxHeartbeats 4000000 in
theorem parse_calls (s : ByteArray) (hs : s.size ≤ 12000) (w : World) : Calls Try.prog 18 #[.string s] w (Parsed (parseF s) w) := by
  have hmf : ∀ (fn : Fn) (first cap : Array Value) (w : World), (Instr.makeFunc fn first cap).run Try.prog w = .ok (.func fn first cap) w := fun _ _ _ _ => rfl
  obtain ⟨V, hV⟩ : ∃ V, w.heap.size = V := ⟨_, rfl⟩
  obtain ⟨w1, hw1⟩ : ∃ w1, w.alloc (.cells #[.int .i64 0, .slice none 0 0, .string ⟨#[]⟩, .string ⟨#[]⟩] 25) = w1 := ⟨_, rfl⟩
  obtain ⟨E, hE⟩ : ∃ E, w1.heap.size = E := ⟨_, rfl⟩
  obtain ⟨w2, hw2⟩ : ∃ w2, w1.alloc (.cells #[.int .i64 0] 31) = w2 := ⟨_, rfl⟩
  obtain ⟨R, hR⟩ : ∃ R, w2.heap.size = R := ⟨_, rfl⟩
  obtain ⟨w3, hw3⟩ : ∃ w3, w2.alloc (.cells #[.string s, .int .i64 0, .int .i64 0] 73) = w3 := ⟨_, rfl⟩
  have hVE : E = V + 1 := by rw [← hE, ← hw1, ← hV]; simp
  have hER : R = E + 1 := by rw [← hR, ← hw2, ← hE]; simp
  have b1 : Below V w w1 := by rw [← hw1, ← hV]; exact below_alloc (Below.refl _ w) _
  have b2 : Below E w1 w2 := by rw [← hw2, ← hE]; exact below_alloc (Below.refl _ w1) _
  have b3 : Below R w2 w3 := by rw [← hw3, ← hR]; exact below_alloc (Below.refl _ w2) _
  have hX1 : FBox w1 V 25 (.int .i64 0) (.slice none 0 0) (.string ⟨#[]⟩) (.string ⟨#[]⟩) := by rw [← hw1, ← hV]; exact fbox_new w _ _ _ _ _
  have hX3 := Aside0.mk ((hX1.below (hE ▸ b2)).below (hR ▸ b3))
  have hE2 : w2.heap[E]? = some (.cells #[.int .i64 0] 31 (0, 0)) := by rw [← hw2, ← hE]; exact heap_alloc_new w1 _
  have hE3 := Aside0.mk ((b3.block E (by omega)).trans hE2)
  have hR3 : RdAt w3 R s 0 0 := by unfold RdAt; rw [← hw3, ← hR]; exact heap_alloc_new w2 _
  have hbw := Aside0.mk (show Below V w w3 from (b1.trans (b2.mono (by omega))).trans (b3.mono (by omega)))
  have hcl := filter_calls s hs 16 1 rfl R 0 0 w3 hR3 (by omega)
  have hsz3 : R < w3.heap.size := hR3.lt
  have hpf : parseF s = (filtF 16 s 0 0).bind fun r => if r.2.1 = s.size then some r.1 else none := rfl
  obtain ⟨o, ho⟩ : ∃ o, parseF s = o := ⟨_, rfl⟩
  rw [ho] at hpf ⊢
  clear hX1 b1 b2 b3 hE2 hR3 ho
  replace hVE := Aside0.mk hVE
  replace hER := Aside0.mk hER
  cases hvv : filtF 16 s 0 0 with
  | none =>
    rw [hvv] at hcl hpf
    obtain rfl : o = none := hpf
    replace hcl := Aside0.mk hcl
    clear hvv
    go_enter_defers Try.func18, Try.ntmps18
    go_wp2_with fail
    refine hcl.out.mono ?_
    rintro e w4 ⟨he, hm4⟩
    have he : e = stopE := he
    subst he
    have hE4 := Aside0.mk (hm4.blk hE3.out (show ¬ E = R by have := hER.out; omega))
    have hX4 := Aside0.mk (hX3.out.mod hm4 (show ¬ V = R by have := hVE.out; have := hER.out; omega))
    have hmw := Aside0.mk (show Mod (fun q => V ≤ q) w w4 from (Mod.of_below (S := fun q => V ≤ q) (hV ▸ hbw.out)).trans hm4 (fun q hq => .inl (by have := hVE.out; have := hER.out; have hz : q = R := hq; show V ≤ q; omega)))
    clear hm4 hcl
    go_wp2_with fail
    refine gives_upD V E _ w4 _ _ hE4.out hX4.out (by have := hVE.out; omega) rfl rfl (fun w' hm => ⟨rfl, ?_⟩)
    exact hV ▸ Mod.below (S := fun q => V ≤ q) (hmw.out.trans hm (fun q hq => .inl (by have := hVE.out; show V ≤ q; omega))) (fun q hq => hq) (by omega)
  | some r =>
    obtain ⟨x, k, n⟩ := r
    rw [hvv] at hcl hpf
    replace hpf : o = if k = s.size then some x else none := hpf
    replace hcl := Aside0.mk hcl
    clear hvv
    by_cases hk : k = s.size
    · rw [if_pos hk] at hpf
      subst hpf
      have d1 : ((k : Int) == (s.size : Int)) = true := by rw [hk]; simp
      replace hk := Aside0.mk hk
      go_enter_defers Try.func18, Try.ntmps18
      go_wp2_with fail
      refine hcl.out.mono ?_
      rintro e w4 ⟨⟨⟨A4, c4, rfl, hc4, hF4⟩, hr4⟩, hm4⟩
      have hr4 : RdAt w4 R s k n := hr4
      have hE4 := hm4.blk hE3.out (show ¬ E = R by have := hER.out; omega)
      have hX4 := hX3.out.mod hm4 (show ¬ V = R by have := hVE.out; have := hER.out; omega)
      obtain ⟨k0, k1, k2, k3⟩ := hX4.cells
      obtain ⟨f0, f1, f2, f3⟩ := hX4.free
      obtain ⟨w5, hw5, hX5, hm5⟩ := put4 hX4 (.int .i64 x.f0) (.slice A4 x.f1.length c4) (.string x.f2) (.string x.f3)
      have hE5 := hm5.blk hE4 (show ¬ E = V by have := hVE.out; omega)
      have hr5 := hr4.mod hm5 (show ¬ R = V by have := hVE.out; have := hER.out; omega)
      have g1 : w5.cell? ⟨R, 1, none⟩ = some (.int .i64 (k : Int)) := hr5.c1
      obtain ⟨m0, m1, m2, m3⟩ := hX5.cells
      obtain ⟨n0, n1, n2, n3⟩ := hX5.free
      obtain ⟨w6, hw6, hX6, hm6⟩ := put4 hX5 (.int .i64 x.f0) (.slice A4 x.f1.length c4) (.string x.f2) (.string x.f3)
      have hE6 := hm6.blk hE5 (show ¬ E = V by have := hVE.out; omega)
      have e1 : w6.cell? ⟨E, 0, none⟩ = some (.int .i64 0) := (blk_cell hE6 0).trans rfl
      have e2 : w6.frozen? ⟨E, 0, none⟩ = false := blk_frozen hE6 0
      have hm7 := set_mod w6 E 0 (.int .i64 0)
      have hE7 : (w6.setCell ⟨E, 0, none⟩ (.int .i64 0)).heap[E]? = some (.cells #[.int .i64 0] 31 (0, 0)) := by simpa using blk_set hE6 0 (.int .i64 0)
      obtain ⟨w7, hw7⟩ : ∃ w7, w6.setCell ⟨E, 0, none⟩ (.int .i64 0) = w7 := ⟨_, rfl⟩
      rw [hw7] at hm7 hE7
      have hX7 := Aside0.mk (hX6.mod hm7 (show ¬ V = E by have := hVE.out; omega))
      have hF7 := Aside0.mk (F_mod (F_mod (F_mod hF4 hm5 (fun q hq e => by have hq : w3.heap.size ≤ q := hq; have e : q = V := e; have := hVE.out; have := hER.out; omega)) hm6 (fun q hq e => by have hq : w3.heap.size ≤ q := hq; have e : q = V := e; have := hVE.out; have := hER.out; omega)) hm7 (fun q hq e => by have hq : w3.heap.size ≤ q := hq; have e : q = E := e; have := hVE.out; have := hER.out; omega))
      have hmw := Aside0.mk (show Below w.heap.size w w7 from hV ▸ Mod.below (S := fun q => V ≤ q) (((((Mod.of_below (S := fun q => V ≤ q) (hV ▸ hbw.out)).trans hm4 (fun q hq => .inl (by have := hVE.out; have := hER.out; have hz : q = R := hq; show V ≤ q; omega))).trans hm5 (fun q hq => .inl (by have hz : q = V := hq; show V ≤ q; omega))).trans hm6 (fun q hq => .inl (by have hz : q = V := hq; show V ≤ q; omega))).trans hm7 (fun q hq => .inl (by have := hVE.out; have hz : q = E := hq; show V ≤ q; omega))) (fun q hq => hq) (by omega))
      have hsz := Aside0.mk (show w.heap.size ≤ w3.heap.size from by have := hVE.out; have := hER.out; omega)
      replace hE7 := Aside0.mk hE7
      replace hc4 := Aside0.mk hc4
      clear hm4 hm5 hm6 hm7 hE4 hE5 hE6 hF4 hr4 hr5 hcl hX4 hX5 hX6
      unfold fv
      go_wp2_with fail
      refine (must_yes _).mono ?_
      rintro e w9 ⟨rfl, rfl⟩
      go_wp2_with fail
      refine gives_backD V E _ _ _ hE7.out hX7.out rfl rfl ?_
      exact ⟨⟨A4, c4, rfl, hc4.out, Kd.F_mono hF7.out (fun q hq => Nat.le_trans hsz.out hq)⟩, hmw.out⟩
    · rw [if_neg hk] at hpf
      subst hpf
      have d1 : ((k : Int) == (s.size : Int)) = false := by simp; omega
      replace hk := Aside0.mk hk
      go_enter_defers Try.func18, Try.ntmps18
      go_wp2_with fail
      refine hcl.out.mono ?_
      rintro e w4 ⟨⟨⟨A4, c4, rfl, hc4, hF4⟩, hr4⟩, hm4⟩
      have hr4 : RdAt w4 R s k n := hr4
      have hE4 := hm4.blk hE3.out (show ¬ E = R by have := hER.out; omega)
      have hX4 := hX3.out.mod hm4 (show ¬ V = R by have := hVE.out; have := hER.out; omega)
      obtain ⟨k0, k1, k2, k3⟩ := hX4.cells
      obtain ⟨f0, f1, f2, f3⟩ := hX4.free
      obtain ⟨w5, hw5, hX5, hm5⟩ := put4 hX4 (.int .i64 x.f0) (.slice A4 x.f1.length c4) (.string x.f2) (.string x.f3)
      have hE5 := Aside0.mk (hm5.blk hE4 (show ¬ E = V by have := hVE.out; omega))
      have hr5 := hr4.mod hm5 (show ¬ R = V by have := hVE.out; have := hER.out; omega)
      have g1 : w5.cell? ⟨R, 1, none⟩ = some (.int .i64 (k : Int)) := hr5.c1
      have hmw := Aside0.mk (show Mod (fun q => V ≤ q) w w5 from ((Mod.of_below (S := fun q => V ≤ q) (hV ▸ hbw.out)).trans hm4 (fun q hq => .inl (by have := hVE.out; have := hER.out; have hz : q = R := hq; show V ≤ q; omega))).trans hm5 (fun q hq => .inl (by have hz : q = V := hq; show V ≤ q; omega)))
      replace hX5 := Aside0.mk hX5
      clear hm4 hm5 hE4 hF4 hr4 hr5 hcl hX4
      unfold fv
      go_wp2_with fail
      refine (must_no _).mono ?_
      rintro e w9 ⟨rfl, rfl⟩
      go_wp2_with fail
      refine gives_upD V E _ _ _ _ hE5.out hX5.out (by have := hVE.out; omega) rfl rfl (fun w' hm => ⟨rfl, ?_⟩)
      exact hV ▸ Mod.below (S := fun q => V ≤ q) (hmw.out.trans hm (fun q hq => .inl (by have := hVE.out; show V ≤ q; omega))) (fun q hq => hq) (by omega)
end Go.Proofs.Ytgnmkblaockghaa

/- What known is about, plain. -/
set_option linter.unusedVariables false
set_option linter.unusedSimpArgs false
namespace Go.Proofs.Ytgnmkblaockghaa
open Go.RowKit Go.Shelf Go.Proofs.YtgnmkblaockghaaW.PrintWords Go.Proofs.YtgnmkblaockghaaW.PrintMore Go.Proofs.YtgnmkblaockghaaW.PrintLast

def s0 : ByteArray := { data := #[40, 38, 40, 99, 110, 61, 65, 42, 41, 40, 33, 40, 109, 97, 105, 108, 61, 42, 41, 41, 41] }
def cnS : ByteArray := { data := #[99, 110] }
def mailS : ByteArray := { data := #[109, 97, 105, 108] }
def annaS : ByteArray := { data := #[97, 110, 110, 97] }
def xS : ByteArray := { data := #[120] }
def nilS : ByteArray := { data := #[] }
def fa : Ft := ⟨5, [], cnS, { data := #[65] }⟩
def fb : Ft := ⟨6, [], mailS, nilS⟩
def fc : Ft := ⟨3, [fb], nilS, nilS⟩
def f0 : Ft := ⟨1, [fa, fc], nilS, nilS⟩
theorem alone_list (x : Ft) : aloneOk x = aloneB x.f0 (enameOk x.f2) ((x.f1.length : Int) == 0) ((x.f1.length : Int) == 1) (x.f2.data.toList == []) (x.f3.data.toList == []) (decide (1 ≤ (x.f3.size : Int))) (decide ((x.f3.size : Int) ≤ 2048)) := by
  unfold aloneOk; rw [ByteArray.toList_eq, ByteArray.toList_eq]
theorem ename_list (s : ByteArray) : enameOk s = (nameOk (small s) && ((small (small s)).data.toList == (small s).data.toList)) := by
  unfold enameOk dnErr dnOk
  simp only [List.all_cons, List.all_nil, Bool.and_true, partOk, ByteArray.toList_eq]
  have h1 : decide ((([⟨small s, { data := #[120] }⟩] : List Rdn).length : Int) ≤ 16) = true := rfl
  have h2 : (decide (1 ≤ (({ data := #[120] } : ByteArray).size : Int)) && decide ((({ data := #[120] } : ByteArray).size : Int) ≤ 200)) = true := rfl
  rw [h1, h2, Bool.true_and, Bool.and_true]
  cases (nameOk (small s) && ((small (small s)).data.toList == (small s).data.toList)) <;> rfl
theorem name_cn : enameOk cnS = true := by rw [ename_list]; decide +kernel
theorem name_mail : enameOk mailS = true := by rw [ename_list]; decide +kernel
theorem alone_a : aloneOk fa = true := by rw [alone_list, show enameOk fa.f2 = true from name_cn]; decide +kernel
theorem alone_b : aloneOk fb = true := by rw [alone_list, show enameOk fb.f2 = true from name_mail]; decide +kernel
theorem alone_c : aloneOk fc = true := by
  rw [alone_list]
  generalize enameOk fc.f2 = q
  cases q <;> decide +kernel
theorem alone_0 : aloneOk f0 = true := by
  rw [alone_list]
  generalize enameOk f0.f2 = q
  cases q <;> decide +kernel
theorem plain_a : plainF s0 3 = some (fa, 8) := by
  have e1 : eqAt s0 3 = 5 := by
    rw [← eqAt_step (s := s0) (k := 3) (by decide) (by decide +kernel), ← eqAt_step (s := s0) (k := 4) (by decide) (by decide +kernel), eqAt_stop (by decide +kernel)]
  have e2 : valF s0 6 [] = some ([65], 7) := by
    rw [valF_next (by decide) (by decide +kernel) (by decide +kernel) (by decide +kernel), valF_stop (by decide) (by decide +kernel)]
    rfl
  unfold plainF
  rw [e1, if_pos (by decide), e2]
  show some (if bt s0 ((7 : Nat) : Int) = 42 then _ else _) = _
  rw [if_pos (by decide +kernel)]
  have e3 : small (s0.extract 3 5) = cnS := by decide +kernel
  rw [e3]
  rfl
theorem plain_b : plainF s0 12 = some (fb, 18) := by
  have e1 : eqAt s0 12 = 16 := by
    rw [← eqAt_step (s := s0) (k := 12) (by decide) (by decide +kernel), ← eqAt_step (s := s0) (k := 13) (by decide) (by decide +kernel), ← eqAt_step (s := s0) (k := 14) (by decide) (by decide +kernel), ← eqAt_step (s := s0) (k := 15) (by decide) (by decide +kernel), eqAt_stop (by decide +kernel)]
  have e2 : valF s0 17 [] = some ([], 17) := by
    rw [valF_stop (by decide) (by decide +kernel)]
  unfold plainF
  rw [e1, if_pos (by decide), e2]
  show some (if bt s0 ((17 : Nat) : Int) = 42 then _ else _) = _
  rw [if_pos (by decide +kernel)]
  have e3 : small (s0.extract 12 16) = mailS := by decide +kernel
  rw [e3]
  rfl
theorem filt_a : filtF 15 s0 2 1 = some (fa, 9, 2) := by
  rw [filtF, if_pos (by decide), if_pos (by decide +kernel), if_pos (by decide), if_neg (by decide +kernel), plain_a]
  show endF s0 (fa, 8, 2) = _
  unfold endF
  rw [if_pos ⟨by decide, by decide +kernel, alone_a⟩]
theorem filt_b : filtF 14 s0 11 3 = some (fb, 19, 4) := by
  rw [filtF, if_pos (by decide), if_pos (by decide +kernel), if_pos (by decide), if_neg (by decide +kernel), plain_b]
  show endF s0 (fb, 18, 4) = _
  unfold endF
  rw [if_pos ⟨by decide, by decide +kernel, alone_b⟩]
theorem filt_c : filtF 15 s0 9 2 = some (fc, 20, 4) := by
  rw [filtF, if_pos (by decide), if_pos (by decide +kernel), if_pos (by decide), if_pos (by decide +kernel)]
  have hl : loopF (filtF 14 s0) s0 (s0.size + 1) (9 + 2) (2 + 1) [] = some ([fb], 19, 4) := by
    show loopF (filtF 14 s0) s0 22 11 3 [] = _
    rw [loopF, if_pos (by decide), if_pos (by decide +kernel), filt_b]
    show loopF (filtF 14 s0) s0 21 19 4 [fb] = _
    rw [loopF, if_pos (by decide), if_neg (by decide +kernel)]
  rw [hl]
  show endF s0 (⟨1 + opN (bt s0 ((9 + 1 : Nat) : Int)), [fb], nilS, nilS⟩, 19, 4) = _
  rw [show 1 + opN (bt s0 ((9 + 1 : Nat) : Int)) = 3 by decide +kernel]
  show endF s0 (fc, 19, 4) = _
  unfold endF
  rw [if_pos ⟨by decide, by decide +kernel, alone_c⟩]
theorem filt_0 : filtF 16 s0 0 0 = some (f0, 21, 4) := by
  rw [filtF, if_pos (by decide), if_pos (by decide +kernel), if_pos (by decide), if_pos (by decide +kernel)]
  have hl : loopF (filtF 15 s0) s0 (s0.size + 1) (0 + 2) (0 + 1) [] = some ([fa, fc], 20, 4) := by
    show loopF (filtF 15 s0) s0 22 2 1 [] = _
    rw [loopF, if_pos (by decide), if_pos (by decide +kernel), filt_a]
    show loopF (filtF 15 s0) s0 21 9 2 [fa] = _
    rw [loopF, if_pos (by decide), if_pos (by decide +kernel), filt_c]
    show loopF (filtF 15 s0) s0 20 20 4 [fa, fc] = _
    rw [loopF, if_pos (by decide), if_neg (by decide +kernel)]
  rw [hl]
  show endF s0 (⟨1 + opN (bt s0 ((0 + 1 : Nat) : Int)), [fa, fc], nilS, nilS⟩, 20, 4) = _
  rw [show 1 + opN (bt s0 ((0 + 1 : Nat) : Int)) = 1 by decide +kernel]
  show endF s0 (f0, 20, 4) = _
  unfold endF
  rw [if_pos ⟨by decide, by decide +kernel, alone_0⟩]
theorem parse_0 : parseF s0 = some f0 := by
  unfold parseF
  rw [filt_0]
  rfl
theorem right_0 : rightF f0 = true := by
  unfold rightF
  have ha : ∀ n d, n + 1 ≤ 200 → d ≤ 16 → cntT n d fa = some (n + 1) := fun n d h1 h2 => by rw [cntT_of, if_pos h1, if_pos h2, if_pos alone_a]; rfl
  have hb : ∀ n d, n + 1 ≤ 200 → d ≤ 16 → cntT n d fb = some (n + 1) := fun n d h1 h2 => by rw [cntT_of, if_pos h1, if_pos h2, if_pos alone_b]; rfl
  have hc : cntT 2 2 fc = some 4 := by
    rw [cntT_of, if_pos (by decide), if_pos (by decide), if_pos alone_c]
    show cntL 3 3 [fb] = _
    rw [cntL, hb 3 3 (by decide) (by decide)]
    rfl
  have h0 : cntT 0 1 f0 = some 4 := by
    rw [cntT_of, if_pos (by decide), if_pos (by decide), if_pos alone_0]
    show cntL 1 2 [fa, fc] = _
    rw [cntL, ha 1 2 (by decide) (by decide)]
    show cntL 2 2 [fc] = _
    rw [cntL, hc]
    rfl
  rw [h0]
  rfl
theorem text_0 : textT f0 = s0 := by
  have hfa : textT fa = { data := #[40, 99, 110, 61, 65, 42, 41] } := by
    rw [fa, textT, if_neg (by decide), if_neg (by decide), if_pos rfl]
    decide +kernel
  have hfb : textT fb = { data := #[40, 109, 97, 105, 108, 61, 42, 41] } := by
    rw [fb, textT, if_neg (by decide), if_neg (by decide), if_neg (by decide)]
    decide +kernel
  have hfc : textT fc = { data := #[40, 33, 40, 109, 97, 105, 108, 61, 42, 41, 41] } := by
    rw [fc, textT, if_pos (by decide), textL, hfb, textL]
    decide +kernel
  rw [f0, textT, if_pos (by decide), textL, hfa, textL, hfc, textL]
  decide +kernel
def ea : At := ⟨cnS, [annaS]⟩
def em : At := ⟨mailS, [xS]⟩
theorem rise_one (s : ByteArray) : rise [s] = true := rise_yes (rise_start [s]) (by simp)
theorem rise_two (a b : ByteArray) (h : Op.bytesLess a.toList b.toList = true) : rise [a, b] = true := decide_eq_true (fun i hi hik => by
  obtain rfl : i = 0 := by simp at hi; omega
  exact h)
theorem attr_ok (n v : ByteArray) (hn : enameOk n = true) (hs : ((small n).toList == n.toList) = true) (hv : valOk v = true) : attrOk ⟨n, [v]⟩ = true := by
  unfold attrOk
  show attrB (enameOk n) ((small n).toList == n.toList) (decide (((([v] : Fld).length : Nat) : Int) < 1)) (decide (16 < (([v] : Fld).length : Int))) ([v].all valOk) (rise [v]) = true
  rw [hn, hs, rise_one]
  simp [attrB, hv]
theorem ok_a : attrOk ea = true := attr_ok cnS annaS name_cn (by rw [ByteArray.toList_eq, ByteArray.toList_eq]; decide +kernel) (by decide +kernel)
theorem ok_m : attrOk em = true := attr_ok mailS xS name_mail (by rw [ByteArray.toList_eq, ByteArray.toList_eq]; decide +kernel) (by decide +kernel)
theorem ent_1 : entOk [ea] = true := by
  unfold entOk
  rw [List.all_cons, List.all_nil, ok_a]
  show (true && (!decide _ && rise [cnS])) = true
  rw [rise_one]
  decide
theorem ent_2 : entOk [ea, em] = true := by
  unfold entOk
  rw [List.all_cons, List.all_cons, List.all_nil, ok_a, ok_m]
  show (true && (!decide _ && rise [cnS, mailS])) = true
  rw [rise_two cnS mailS (by rw [ByteArray.toList_eq, ByteArray.toList_eq]; decide +kernel)]
  decide
theorem more_0 : moreOk [] [] = some [] := by rw [moreOk]
theorem get_cn (l : List At) : getF [] [] (ea :: l) cnS = [annaS] := by
  unfold getF
  rw [show amongS [] (small cnS) = false from rfl, if_neg (by decide), getE, if_pos]
  · rfl
  · rw [ByteArray.toList_eq, ByteArray.toList_eq]; decide +kernel
theorem get_mail1 : getF [] [] [ea] mailS = [] := by
  unfold getF
  rw [show amongS [] (small mailS) = false from rfl, if_neg (by decide), getE, if_neg, getE]
  rw [ByteArray.toList_eq, ByteArray.toList_eq]; decide +kernel
theorem get_mail2 : getF [] [] [ea, em] mailS = [xS] := by
  unfold getF
  rw [show amongS [] (small mailS) = false from rfl, if_neg (by decide), getE, if_neg, getE, if_pos]
  · rfl
  · rw [ByteArray.toList_eq, ByteArray.toList_eq]; decide +kernel
  · rw [ByteArray.toList_eq, ByteArray.toList_eq]; decide +kernel
theorem means_a (l : List At) : meansT (getF [] [] (ea :: l)) fa = true := by
  rw [fa, meansT, if_neg (by decide), if_neg (by decide), if_neg (by decide), if_neg (by decide), if_pos rfl, get_cn]
  show (prefB (small annaS) (small { data := #[65] }) || false) = true
  unfold prefB
  rw [ByteArray.toList_eq, ByteArray.toList_eq]; decide +kernel
theorem means_1 : meansR f0 [ea] [] = (true, 0) := by
  unfold meansR
  rw [more_0]
  show (if (rightF f0 && entOk [ea]) = true then _ else _) = _
  rw [right_0, ent_1, if_pos (show (true && true) = true from rfl)]
  have hb : meansT (getF [] [] [ea]) fb = false := by
    rw [fb, meansT, if_neg (by decide), if_neg (by decide), if_neg (by decide), if_neg (by decide), if_neg (by decide), get_mail1]
    rfl
  have hc : meansT (getF [] [] [ea]) fc = true := by
    rw [fc, meansT, if_neg (by decide), if_neg (by decide), if_pos rfl, meansHd, hb]
    rfl
  have h0 : meansT (getF [] [] [ea]) f0 = true := by
    rw [f0, meansT, if_pos rfl, meansAll, means_a [], meansAll, hc, meansAll]
    rfl
  rw [h0]
theorem means_2 : meansR f0 [ea, em] [] = (false, 0) := by
  unfold meansR
  rw [more_0]
  show (if (rightF f0 && entOk [ea, em]) = true then _ else _) = _
  rw [right_0, ent_2, if_pos (show (true && true) = true from rfl)]
  have hb : meansT (getF [] [] [ea, em]) fb = true := by
    rw [fb, meansT, if_neg (by decide), if_neg (by decide), if_neg (by decide), if_neg (by decide), if_neg (by decide), get_mail2]
    rfl
  have hc : meansT (getF [] [] [ea, em]) fc = false := by
    rw [fc, meansT, if_neg (by decide), if_neg (by decide), if_pos rfl, meansHd, hb]
    rfl
  have h0 : meansT (getF [] [] [ea, em]) f0 = false := by
    rw [f0, meansT, if_pos rfl, meansAll, means_a [em], meansAll, hc]
    rfl
  rw [h0]
theorem textR_0 : textR f0 = (s0, 0) := by unfold textR; rw [right_0, if_pos rfl, text_0]
end Go.Proofs.Ytgnmkblaockghaa

/- known. -/
set_option linter.unusedVariables false
set_option linter.unusedSimpArgs false
namespace Go.Proofs.Ytgnmkblaockghaa
open Go.RowKit Go.Shelf Go.Proofs.YtgnmkblaockghaaW.PrintWords Go.Proofs.YtgnmkblaockghaaW.PrintMore Go.Proofs.YtgnmkblaockghaaW.PrintLast

theorem st_one {w : World} {g : Nat} {s : ByteArray} (h : w.heap[g]? = some (.cells #[.string s] 9 (0, 0))) : st.C w (some ⟨g, 0, none⟩) 1 [s] :=
  C_block (d := st) h [s] (by simp) (fun j hj => by
    obtain rfl : j = 0 := by simp at hj; omega
    exact ⟨[.string s], rfl, rfl, fun i u hi => by
      match i, hi with
      | 0, hi => exact hi⟩)
theorem kA_two {w : World} {g : Nat} {a b : At} {A B : Option Addr} {c d : Nat} (h : w.heap[g]? = some (.cells #[.string a.f0, .slice A a.f1.length c, .string b.f0, .slice B b.f1.length d] 47 (0, 0))) (hc : a.f1.length ≤ c) (hC : st.C w A a.f1.length a.f1) (hd : b.f1.length ≤ d) (hD : st.C w B b.f1.length b.f1) : kA.C w (some ⟨g, 0, none⟩) 2 [a, b] :=
  C_block (d := kA) h [a, b] (by simp) (fun j hj => by
    have hj2 : j = 0 ∨ j = 1 := by simp at hj; omega
    rcases hj2 with rfl | rfl
    · exact ⟨[.string a.f0, .slice A a.f1.length c], rfl, PFilterBounds.k47_mk w a hc hC, fun i u hi => by
        match i, hi with
        | 0, hi => exact hi
        | 1, hi => exact hi⟩
    · exact ⟨[.string b.f0, .slice B b.f1.length d], rfl, PFilterBounds.k47_mk w b hd hD, fun i u hi => by
        match i, hi with
        | 0, hi => exact hi
        | 1, hi => exact hi⟩)
theorem mild_1 : MildE [ea] := ⟨by simp, fun a ha => by
  obtain rfl : a = ea := by simpa using ha
  exact ⟨by decide, by decide, fun s hs => by obtain rfl : s = annaS := by simpa [ea] using hs
                                              decide⟩⟩
theorem mild_2 : MildE [ea, em] := ⟨by simp, fun a ha => by
  have ha' : a = ea ∨ a = em := by simpa using ha
  rcases ha' with rfl | rfl
  · exact ⟨by decide, by decide, fun s hs => by obtain rfl : s = annaS := by simpa [ea] using hs
                                                decide⟩
  · exact ⟨by decide, by decide, fun s hs => by obtain rfl : s = xS := by simpa [em] using hs
                                                decide⟩⟩
theorem mild_nil : MildE [] := ⟨by simp, fun a ha => by cases ha⟩
theorem w_0 : wF f0 ≤ 12000 := by
  simp only [f0, fa, fc, fb, wF, wFs]
  decide
set_option maxRecDepth 8000 in
set_option maxHeartbeats 4000000 in
theorem known_calls (w : World) : Calls Try.prog 12 #[] w fun e w' => e = .returned (.bool true) ∧ Below w.heap.size w w' := by
  have hp := parse_calls s0 (by decide) w
  rw [parse_0] at hp
  unfold Parsed fv s0 at hp
  replace hp := Aside0.mk hp
  go_enter Try.func12, Try.ntmps12
  go_wp2_with fail
  refine hp.out.mono ?_
  rintro e w1 ⟨⟨A, c, rfl, hc, hF⟩, hb1⟩
  have hv1 : Fv w1 f0 A c := ⟨hc, Kd.F_now hF⟩
  have hb2 := below_alloc (Below.refl w1.heap.size w1) (.cells #[.int .i64 f0.f0, .slice A f0.f1.length c, .string f0.f2, .string f0.f3] 25)
  have hX := fbox_new w1 25 (.int .i64 f0.f0) (.slice A f0.f1.length c) (.string f0.f2) (.string f0.f3)
  obtain ⟨w2, hw2⟩ : ∃ w2, w1.alloc (.cells #[.int .i64 f0.f0, .slice A f0.f1.length c, .string f0.f2, .string f0.f3] 25) = w2 := ⟨_, rfl⟩
  rw [hw2] at hb2 hX
  have hv2 := hv1.below hb2
  have hbw2 := below_then hb1 hb1.size hb2
  clear hF hc hv1 hb1 hb2 hp
  -- the first entry
  have hA3 := heap_alloc_new w2 (.cells #[.string annaS] 9)
  have hb3 := below_alloc (Below.refl w2.heap.size w2) (.cells #[.string annaS] 9)
  obtain ⟨w3, hw3⟩ : ∃ w3, w2.alloc (.cells #[.string annaS] 9) = w3 := ⟨_, rfl⟩
  rw [hw3] at hA3 hb3
  have hE4 := heap_alloc_new w3 (.cells #[.string cnS, .slice (some ⟨w2.heap.size, 0, none⟩) 1 1] 47)
  have hb4 := below_alloc (Below.refl w3.heap.size w3) (.cells #[.string cnS, .slice (some ⟨w2.heap.size, 0, none⟩) 1 1] 47)
  obtain ⟨w4, hw4⟩ : ∃ w4, w3.alloc (.cells #[.string cnS, .slice (some ⟨w2.heap.size, 0, none⟩) 1 1] 47) = w4 := ⟨_, rfl⟩
  rw [hw4] at hE4 hb4
  have hC4 := kA_one (a := ea) hE4 (Nat.le_refl _) (Kd.C_below (st_one hA3) hb4)
  have hb24 := below_then hb3 hb3.size hb4
  have hv4 := hv2.below hb24
  have hm1 := Means_calls f0 A c [ea] [] (some ⟨w3.heap.size, 0, none⟩) none 1 0 w4 hv4 w_0 mild_1 mild_nil hC4 (Kd.C_nil _ _)
  rw [means_1] at hm1
  obtain ⟨p0, p1, p2, p3⟩ := hX.cells
  unfold fv at hm1
  replace hm1 := Aside0.mk hm1
  have hX2 := Aside0.mk hX
  have hv2' := Aside0.mk hv2
  have hb24' := Aside0.mk hb24
  have hbw2' := Aside0.mk hbw2
  clear hX hv2 hb24 hbw2 hA3 hb3 hE4 hb4 hC4 hv4
  unfold annaS at hw3
  unfold cnS at hw4
  go_wp2_with fail
  refine hm1.out.mono ?_
  rintro e w5 ⟨rfl, hb5⟩
  have hb45 := below_then hb24'.out hb24'.out.size hb5
  have hX5 := hX2.out.below hb45
  have hv5 := hv2'.out.below hb45
  have hbw5 := below_then hbw2'.out hbw2'.out.size hb45
  clear hb5 hb45 hm1 hX2 hv2' hb24' hbw2' p0 p1 p2 p3 hw2 hw3 hw4
  have hA6 := heap_alloc_new w5 (.cells #[.string annaS] 9)
  have hb6 := below_alloc (Below.refl w5.heap.size w5) (.cells #[.string annaS] 9)
  obtain ⟨w6, hw6⟩ : ∃ w6, w5.alloc (.cells #[.string annaS] 9) = w6 := ⟨_, rfl⟩
  rw [hw6] at hA6 hb6
  have hB7 := heap_alloc_new w6 (.cells #[.string xS] 9)
  have hb7 := below_alloc (Below.refl w6.heap.size w6) (.cells #[.string xS] 9)
  obtain ⟨w7, hw7⟩ : ∃ w7, w6.alloc (.cells #[.string xS] 9) = w7 := ⟨_, rfl⟩
  rw [hw7] at hB7 hb7
  have hE8 := heap_alloc_new w7 (.cells #[.string cnS, .slice (some ⟨w5.heap.size, 0, none⟩) 1 1, .string mailS, .slice (some ⟨w6.heap.size, 0, none⟩) 1 1] 47)
  have hb8 := below_alloc (Below.refl w7.heap.size w7) (.cells #[.string cnS, .slice (some ⟨w5.heap.size, 0, none⟩) 1 1, .string mailS, .slice (some ⟨w6.heap.size, 0, none⟩) 1 1] 47)
  obtain ⟨w8, hw8⟩ : ∃ w8, w7.alloc (.cells #[.string cnS, .slice (some ⟨w5.heap.size, 0, none⟩) 1 1, .string mailS, .slice (some ⟨w6.heap.size, 0, none⟩) 1 1] 47) = w8 := ⟨_, rfl⟩
  rw [hw8] at hE8 hb8
  have hC8 := kA_two (a := ea) (b := em) hE8 (Nat.le_refl _) (Kd.C_below (Kd.C_below (st_one hA6) hb7) hb8) (Nat.le_refl _) (Kd.C_below (st_one hB7) hb8)
  have hb58 := below_then hb6 hb6.size (below_then hb7 hb7.size hb8)
  have hv8 := hv5.below hb58
  have hm2 := Means_calls f0 A c [ea, em] [] (some ⟨w7.heap.size, 0, none⟩) none 2 0 w8 hv8 w_0 mild_2 mild_nil hC8 (Kd.C_nil _ _)
  rw [means_2] at hm2
  obtain ⟨p0, p1, p2, p3⟩ := hX5.cells
  unfold fv at hm2
  replace hm2 := Aside0.mk hm2
  have hX5' := Aside0.mk hX5
  have hv5' := Aside0.mk hv5
  have hb58' := Aside0.mk hb58
  have hbw5' := Aside0.mk hbw5
  clear hX5 hv5 hb58 hbw5 hA6 hb6 hB7 hb7 hE8 hb8 hC8 hv8
  unfold annaS at hw6
  unfold xS at hw7
  unfold cnS mailS at hw8
  go_wp2_with fail
  refine hm2.out.mono ?_
  rintro e w9 ⟨rfl, hb9⟩
  have hb59 := below_then hb58'.out hb58'.out.size hb9
  have hX9 := hX5'.out.below hb59
  have hv9 := hv5'.out.below hb59
  have hbw9 := Aside0.mk (below_then hbw5'.out hbw5'.out.size hb59)
  obtain ⟨r0, r1, r2, r3⟩ := hX9.cells
  have ht := Text_calls f0 A c w9 hv9 w_0
  rw [textR_0] at ht
  unfold fv at ht
  replace ht := Aside0.mk ht
  clear hm2 hb9 hb59 hX5' hv5' hb58' hbw5' p0 p1 p2 p3 hw6 hw7 hw8 hX9 hv9
  go_wp2_with fail
  refine ht.out.mono ?_
  rintro e wt ⟨rfl, hbt⟩
  have hbf := Aside0.mk (below_then hbw9.out hbw9.out.size hbt)
  clear hbt ht
  unfold s0
  have heq : (({ data := #[40, 38, 40, 99, 110, 61, 65, 42, 41, 40, 33, 40, 109, 97, 105, 108, 61, 42, 41, 41, 41] } : ByteArray).toList == ({ data := #[40, 38, 40, 99, 110, 61, 65, 42, 41, 40, 33, 40, 109, 97, 105, 108, 61, 42, 41, 41, 41] } : ByteArray).toList) = true := by simp
  go_wp2_with fail
  go_ret
  exact ⟨rfl, hbf.out⟩
end Go.Proofs.Ytgnmkblaockghaa
