/- What a crash leaves. -/
import Derived.Test.YtolighikimpbfaaDz
import Derived.BigQuiet
import Derived.Deep.QuietTactic
import Derived.Deep.RegionHeld3
set_option linter.unusedVariables false
set_option linter.unusedSimpArgs false
namespace Go.Proofs.Ytolighikimpbfaa
open Go.RowKit Go.Shelf Go.Proofs.YtolighikimpbfaaW.PrintWords Go.Proofs.YtolighikimpbfaaW.PrintMore

/-- What a crash keeps of what waits. -/
def DS.kept (ds : DS) (keep torn : Int) : List Wr :=
  ds.waits.take (pickN keep ds.waits.length) ++ (match ds.waits[pickN keep ds.waits.length]? with | some x => [⟨x.at_, x.b.take (pickN torn x.b.length)⟩] | none => [])
def DS.crashed (ds : DS) (keep torn : Int) : DS := ⟨laid ds.lasts (ds.kept keep torn), laid ds.lasts (ds.kept keep torn), [], -1, ds.limit, 0⟩
theorem R_form {w : World} {ok : Nat → Prop} {v : Value} {xs : List Int} (h : u8.R 5 w 0 ok v xs) (hn : 0 < xs.length) : ∃ g cap, v = .slice (some ⟨g, 0, none⟩) xs.length cap ∧ ok g ∧ xs.length ≤ cap ∧ u8.R 5 w 0 (fun q => q = g) v xs := by
  have hown := Kd.own_of_R h
  have hok := h.1
  have hle := hown
  rcases hown.2 with ⟨_, hx0⟩ | ⟨g, cap, cur, hv, hb, hh, hnc, hcm, hcs, htake⟩
  · omega
  · refine ⟨g, cap, hv, hok g (by rw [hv]; rfl), by omega, Kd.R_of_own hle (fun k hk => by rw [hv] at hk; simp [Value.ownBlock] at hk; exact hk.symm)⟩
theorem boxed_mem {w w2 : World} {B C a L capa : Nat} {v : Value} {X : List UInt8} (lim : Int) (hX : X.length = L) (hL : 0 < L) (ha : u8.R 5 w2 0 (fun q => q = a) (.slice (some ⟨a, 0, none⟩) L capa) (toI X)) (hv : u8.R 5 w2 0 (fun q => C ≤ q) v (toI X))
    (hac : a < C) (hB : B ≤ a) (hBs : B ≤ w2.heap.size) (h2 : Below B w w2) (g : Nat) (hg : w2.heap.size = g) :
    ∃ S RO, Dk (w2.alloc (.cells #[.slice (some ⟨a, 0, none⟩) L capa, v, .slice none 0 0, .int .i64 (-1), .int .i64 lim, .int .i64 0] 65 (0, 0))) S RO g ⟨X, X, [], -1, lim, 0⟩ ∧ (∀ q, S q ∨ RO q → B ≤ q) ∧
      Below B w (w2.alloc (.cells #[.slice (some ⟨a, 0, none⟩) L capa, v, .slice none 0 0, .int .i64 (-1), .int .i64 lim, .int .i64 0] 65 (0, 0))) := by
  subst hg
  subst hX
  have hal := Kd.R_lt ha a rfl
  have hm : Mod (fun _ => False) w2 (w2.alloc (.cells #[.slice (some ⟨a, 0, none⟩) X.length capa, v, .slice none 0 0, .int .i64 (-1), .int .i64 lim, .int .i64 0] 65 (0, 0))) := (Mod.refl _ _).alloc _
  refine ⟨fun q => q = a ∨ q = w2.heap.size, fun q => C ≤ q ∧ q < w2.heap.size, ⟨a, capa, v, .slice none 0 0, Go.heap_alloc_new _ _, .inr rfl, .inl rfl, by omega, hL, ?_, R_mod ha hm (fun _ _ h => h), ?_, ?_, Kd.R_nil _ _ _ _ _⟩, ?_, h2.alloc hBs _⟩
  · rintro q ⟨h1, h2⟩ (h3 | h3) <;> omega
  · exact R_mod (Kd.R_mono (Kd.R_bound hv) (fun q hq => ⟨hq.1, hq.2.2.1⟩)) hm (fun _ _ h => h)
  · intro q hq; simp [Value.ownBlock] at hq
  · rintro q ((h | h) | ⟨h1, h2⟩) <;> omega
theorem crash_not (p : Option Addr) (x y : Int) (w : World) (hn : NoneIs true p (w.alloc (.cells #[.int .i64 x, .int .i64 y] 24))) :
    Calls Try.prog 17 #[.pointer p, .agg #[.int .i64 x, .int .i64 y]] w fun e w' => e = .returned (.tuple #[.pointer none, .int .i64 1]) ∧ Below w.heap.size w w' := by
  have hn := Aside0.mk hn
  go_enter Try.func17, Try.ntmps17
  go_wp2_with (go_at_call 28; refine hn.out.mono ?_; rintro e w' ⟨rfl, rfl⟩)
  go_ret2
  exact ⟨rfl, below_alloc (Below.refl _ _) _⟩
set_option maxHeartbeats 4000000 in
theorem crash_yes (S RO : Nat → Prop) (g : Nat) (ds : DS) (w : World) (h : Dk w S RO g ds) (hf : Fine ds) (x y : Int) (hx : -9223372036854775808 ≤ x ∧ x ≤ 9223372036854775807) (hy : -9223372036854775808 ≤ y ∧ y ≤ 9223372036854775807) :
    Calls Try.prog 17 #[.pointer (some ⟨g, 0, none⟩), .agg #[.int .i64 x, .int .i64 y]] w fun e w' => ∃ g2 S2 RO2, e = .returned (.tuple #[.pointer (some ⟨g2, 0, none⟩), .int .i64 0]) ∧ Dk w' S2 RO2 g2 (ds.crashed x y) ∧ (∀ q, S2 q ∨ RO2 q → w.heap.size ≤ q) ∧ Below w.heap.size w w' := by
  obtain ⟨n, capn, lv, wv, h⟩ := h
  have hD : ∀ W', Below w.heap.size w W' → DkAt W' S RO g ds n capn lv wv := fun W' hb => h.mod (Mod.of_below (S := fun _ => False) hb) (fun _ _ h => h)
  have hnn : ∀ W', Below w.heap.size w W' → NoneIs false (some ⟨g, 0, none⟩) W' := fun W' hb => Dk.none ⟨n, capn, lv, wv, hD W' hb⟩
  obtain ⟨Al, cl, rfl⟩ := Kd.R_slice h.lasts
  obtain ⟨Aw, cw, rfl⟩ := Kd.R_slice h.waits
  have hcw := (Kd.R_reads' h.waits).2.1
  rw [toI_length, encWs_length] at *
  obtain ⟨N, hN⟩ : ∃ N, ds.now.length = N := ⟨_, rfl⟩
  obtain ⟨M, hM⟩ : ∃ M, ds.waits.length = M := ⟨_, rfl⟩
  have hlen := hf.len
  have hlas := hf.las
  have hwai := hf.wai
  have hpos := h.pos
  rw [hN] at hlen hlas hpos
  rw [hM] at hwai hcw
  have hk := pickN_le x M
  obtain ⟨K, hK⟩ : ∃ K, pickN x M = K := ⟨_, rfl⟩
  rw [hK] at hk
  have hb1 := below_alloc (Below.refl w.heap.size w) (.cells #[.int .i64 x, .int .i64 y] 24)
  have H1 := Go.heap_alloc_new w (.cells #[.int .i64 x, .int .i64 y] 24)
  obtain ⟨pc, hpc⟩ : ∃ pc, w.heap.size = pc := ⟨_, rfl⟩
  have hs1 : (w.alloc (.cells #[.int .i64 x, .int .i64 y] 24)).heap.size = pc + 1 := by rw [← hpc]; simp
  rw [hpc] at H1
  have hF : Aside0 (∀ W', Below (pc + 1) (w.alloc (.cells #[.int .i64 x, .int .i64 y] 24)) W' → Below pc w W' ∧ W'.cell? ⟨g, 1, none⟩ = some (.slice Al N cl) ∧ W'.cell? ⟨g, 2, none⟩ = some (.slice Aw M cw) ∧ W'.cell? ⟨g, 4, none⟩ = some (.int .i64 ds.limit) ∧
      W'.cell? ⟨pc, 0, none⟩ = some (.int .i64 x) ∧ W'.cell? ⟨pc, 1, none⟩ = some (.int .i64 y)) := Aside0.mk (by
    intro W' hb
    have hbw : Below w.heap.size w W' := hb1.trans (hb.mono (by omega))
    have D := (hD W' hbw).cell
    have H2 := (hb.block pc (by omega)).trans H1
    refine ⟨hpc ▸ hbw, ?_, ?_, D.2.2.2.2.1, (cell_of_row _ _ _ _ _ _ H2).trans rfl, (cell_of_row _ _ _ _ _ _ H2).trans rfl⟩
    · rw [← hlas]; exact D.2.1
    · rw [← hM]; exact D.2.2.1)
  have hcl : Aside0 (∀ W', Below (pc + 1) (w.alloc (.cells #[.int .i64 x, .int .i64 y] 24)) W' → Calls Try.prog 30 #[.slice Al N cl] W' fun e w' => ∃ v, e = .returned v ∧ u8.R 5 w' 0 (fun q => W'.heap.size ≤ q) v (toI ds.lasts) ∧ Below W'.heap.size W' w') := Aside0.mk (by
    intro W' hb
    have hbw : Below w.heap.size w W' := hb1.trans (hb.mono (by omega))
    have := clone8_calls Al cl ds.lasts W' (by have := (Kd.R_reads' (hD W' hbw).lasts).2.2; rw [toI_length] at this; exact this) (by omega)
    rwa [hlas] at this)
  have hn1 := Aside0.mk (hnn _ hb1)
  have hF1 := hF.out _ (Below.refl _ _)
  have H := Aside0.mk h
  have hf := Aside0.mk hf
  have hK := Aside0.mk hK
  have hN := Aside0.mk hN
  have hM := Aside0.mk hM
  have hlas := Aside0.mk hlas
  have hD := Aside0.mk hD
  have hb1 := Aside0.mk hb1
  have hkk := Aside0.mk hk
  obtain ⟨_, g1, g2, g4, k0, k1⟩ := hF1
  clear h hnn H1
  go_enter Try.func17, Try.ntmps17
  rw [hpc]
  go_wp2_with (go_at_call 28; refine hn1.out.mono ?_; rintro e w' ⟨rfl, rfl⟩)
  refine (hcl.out _ (Below.refl _ _)).mono ?_
  rintro e w2 ⟨v, rfl, hv, hb2⟩
  obtain ⟨nb, capb, rfl, hnb, hcapb, hv⟩ := R_form hv (by rw [toI_length, hlas.out]; exact hpos)
  rw [toI_length, hlas.out] at hv hcapb
  rw [toI_length, hlas.out]
  have hbl := Aside0.mk hlas.out
  have hb3 : Below (pc + 1) (w.alloc (.cells #[.int .i64 x, .int .i64 y] 24)) (w2.alloc (.cells #[.slice (some ⟨nb, 0, none⟩) N capb] 31)) := below_then (hs1 ▸ hb2) (hs1 ▸ hb2.size) (below_alloc (Below.refl _ _) _)
  have hv3 := R_mod hv ((Mod.refl (fun _ => False) w2).alloc (.cells #[.slice (some ⟨nb, 0, none⟩) N capb] 31)) (fun _ _ h => h)
  have hnl := Kd.R_lt hv nb rfl
  have hcb := boxed_cell w2 (.slice (some ⟨nb, 0, none⟩) N capb) 31
  have hz2 := hb2.size
  have hpk : Aside0 (∀ W, Calls Try.prog 32 #[.int .i64 x, .int .i64 (M : Int)] W fun e w' => e = .returned (.int .i64 (K : Int)) ∧ W = w') := Aside0.mk (fun W => by
    have := pick_calls x M hx.1 hx.2 hwai W
    rwa [hK.out] at this)
  have hb3 := Aside0.mk hb3
  have hv3 := Aside0.mk hv3
  clear hv hb2 hn1 g1 g2 g4 k0 k1
  go_wp2_with fail
  rw [hs1] at hnb hz2
  generalize w2.alloc (.cells #[.slice (some ⟨nb, 0, none⟩) N capb] 31) = W3 at *
  generalize w2.heap.size = pb at *
  obtain ⟨_, g1, g2, g4, k0, k1⟩ := hF.out W3 hb3.out
  go_quiet ((go_at_call 32; exact Calls.quiet_of_same ((hpk.out _).mono (fun _ _ ⟨h1, h2⟩ => ⟨h1, h2.symm⟩))))
  have hb4 : Below (pc + 1) (w.alloc (.cells #[.int .i64 x, .int .i64 y] 24)) (W3.drewN nq) := pw_below_drewN hb3.out nq
  have hv4 := R_mod hv3.out ((Mod.refl (fun _ => False) W3).drewN nq) (fun _ _ h => h)
  have hc4 : (W3.drewN nq).cell? ⟨pb, 0, none⟩ = some (.slice (some ⟨nb, 0, none⟩) N capb) := hcb
  have hz4 : nb < (W3.drewN nq).heap.size := Kd.R_lt hv4 nb rfl
  clear g1 g2 g4 k0 k1 hcb hv3 hb3
  generalize W3.drewN nq = W4 at *
  obtain ⟨_, g1, g2, g4, k0, k1⟩ := hF.out W4 hb4
  have hkcw : K ≤ cw := by omega
  have hlt1 : pc + 1 ≤ W4.heap.size := by omega
  have hwC : Aside0 (∀ w', W4.grownBy w' (some nb) → Below pc w w' ∧ Below (pc + 1) (w.alloc (.cells #[.int .i64 x, .int .i64 y] 24)) w' ∧ wk.C w' Aw ds.waits.length (encWs ds.waits)) := Aside0.mk (fun w' hg => by
    have h1 : Below (pc + 1) (w.alloc (.cells #[.int .i64 x, .int .i64 y] 24)) w' := hb4.grown hg hlt1 (fun q hq => by injection hq with hq; omega)
    have h2 := (hF.out w' h1).1
    have h3 := (Kd.R_reads' (hD.out w' (hpc ▸ h2)).waits).2.2
    rw [encWs_length] at h3
    exact ⟨h2, h1, h3⟩)
  have hE : Aside0 (Calls Try.prog 33 #[.slice Aw K cw, .func (.func 31) #[] #[.pointer (some ⟨pb, 0, none⟩)]] W4 fun e w' => e = .returned (.tuple #[]) ∧ u8.R 5 w' 0 (fun q => q = nb) (.slice (some ⟨nb, 0, none⟩) N capb) (toI (laid ds.lasts (ds.waits.take K))) ∧ W4.grownBy w' (some nb)) := by
    have hlt : (ds.waits.take K).length = K := by rw [List.length_take, hM.out]; omega
    have := each_calls pb nb N capb cw ds.lasts (ds.waits.take K) Aw W4 hc4 hv4 (by omega) (fun w' hg => by
      have h3 := (hwC.out w' hg).2.2
      have h4 := Kd.C_take (m := K) (by rw [encWs_length]; exact h3) (by rw [encWs_length, hM.out]; omega)
      rw [show (encWs ds.waits).take K = encWs (ds.waits.take K) by simp [encWs, List.map_take], encWs_length] at h4
      exact h4) (fun z hz => hN.out ▸ hf.out.fit z (List.mem_of_mem_take hz)) hbl.out hlen hcapb (by omega)
    rw [hlt] at this
    exact Aside0.mk this
  have hc4' := Aside0.mk hc4
  clear hv4 hc4
  go_wp2_with fail
  refine hE.out.mono ?_
  rintro e w5 ⟨rfl, hv5, hg5⟩
  obtain ⟨_, hb5, hC5⟩ := hwC.out w5 hg5
  clear g1 g2 g4 k0 k1
  obtain ⟨_, g1, g2, g4, k0, k1⟩ := hF.out w5 hb5
  have hc5 : w5.cell? ⟨pb, 0, none⟩ = some (.slice (some ⟨nb, 0, none⟩) N capb) := cell_grown hg5 hc4'.out (fun e => absurd (Option.some.inj e) (show ¬ pb = nb by omega))
  have hz5 : nb < w5.heap.size := Kd.R_lt hv5 nb rfl
  have hs5 := hg5.size
  have hv5 := Aside0.mk hv5
  have hb5 := Aside0.mk hb5
  clear hg5
  by_cases hKM : K < M
  · have hdk : decide ((K : Int) < (M : Int)) = true := by simp; omega
    have hkw : K < ds.waits.length := by rw [hM.out]; exact hKM
    obtain ⟨ad, A2, c2, e, hlc, hC2, B, O, sp, hak, p0, p1⟩ := wr_at hC5 K hkw
    subst e
    have hfit := hf.out.fit ds.waits[K] (List.getElem_mem hkw)
    rw [hN.out] at hfit
    have hkept : ds.kept x y = ds.waits.take K ++ [⟨ds.waits[K].at_, ds.waits[K].b.take (pickN y ds.waits[K].b.length)⟩] := by
      unfold DS.kept
      rw [hM.out, hK.out, List.getElem?_eq_getElem hkw]
    obtain ⟨X, hX⟩ : ∃ X, ds.waits[K] = X := ⟨_, rfl⟩
    rw [hX] at hkept hfit hlc hC2 p0 p1
    clear hX hkw hC5
    replace hkept := Aside0.mk hkept
    have hC2 := Aside0.mk hC2
    have H6 := Go.heap_alloc_new w5 (.cells #[.int .i64 (X.at_ : Int), .slice A2 X.b.length c2] 69)
    have hb56 := below_alloc (Below.refl w5.heap.size w5) (.cells #[.int .i64 (X.at_ : Int), .slice A2 X.b.length c2] 69)
    go_wp2_with fail
    obtain ⟨W6, hW6⟩ : ∃ W6, w5.alloc (.cells #[.int .i64 (X.at_ : Int), .slice A2 X.b.length c2] 69) = W6 := ⟨_, rfl⟩
    obtain ⟨pw, hpw⟩ : ∃ pw, w5.heap.size = pw := ⟨_, rfl⟩
    rw [hW6] at H6 hb56 ⊢
    rw [hpw] at H6 hb56 ⊢
    have q0 : W6.cell? ⟨pw, 0, none⟩ = some (.int .i64 (X.at_ : Int)) := (cell_of_row _ _ _ _ _ _ H6).trans rfl
    have q1 : W6.cell? ⟨pw, 1, none⟩ = some (.slice A2 X.b.length c2) := (cell_of_row _ _ _ _ _ _ H6).trans rfl
    have hb6 : Below (pc + 1) (w.alloc (.cells #[.int .i64 x, .int .i64 y] 24)) W6 := below_then hb5.out (by omega) (hpw ▸ hb56)
    have r1 := (hF.out W6 hb6).2.2.2.2.2
    have hc6 : W6.cell? ⟨pb, 0, none⟩ = some (.slice (some ⟨nb, 0, none⟩) N capb) := pw_cell_below (hpw ▸ hb56) hc5
    have hv6 := R_mod hv5.out (Mod.of_below (S := fun _ => False) (hpw ▸ hb56)) (fun _ _ h => h)
    have hT := pickN_le y X.b.length
    obtain ⟨T, hTT⟩ : ∃ T, pickN y X.b.length = T := ⟨_, rfl⟩
    have hpk2 : Aside0 (Calls Try.prog 32 #[.int .i64 y, .int .i64 (X.b.length : Int)] W6.drew fun e w' => e = .returned (.int .i64 (T : Int)) ∧ W6.drew = w') := Aside0.mk (by
      have := pick_calls y X.b.length hy.1 hy.2 (by omega) W6.drew
      rwa [hTT] at this)
    rw [hTT] at hT hkept
    have htl : (X.b.take T).length = T := by rw [List.length_take]; omega
    have hL6 : Aside0 (Calls Try.prog 31 #[.agg #[.int .i64 (X.at_ : Int), .slice A2 T c2], .pointer (some ⟨pb, 0, none⟩)] W6.drew fun e w' => e = .returned (.tuple #[]) ∧ u8.R 5 w' 0 (fun q => q = nb) (.slice (some ⟨nb, 0, none⟩) N capb) (toI (laid ds.lasts (ds.kept x y))) ∧ W6.drew.grownBy w' (some nb)) := by
      have hCt := Kd.C_take (m := T) (by rw [toI_length]; exact Kd.C_drew (Kd.C_below hC2.out (hpw ▸ hb56))) (by rw [toI_length]; exact hT)
      rw [toI_take, toI_length, htl] at hCt
      have := lay_calls pb nb N capb X.at_ T c2 (laid ds.lasts (ds.waits.take K)) (X.b.take T) A2 W6.drew hc6 (R_mod hv6 (Mod.refl (fun _ => False) W6).drew (fun _ _ h => h)) hCt (by omega) hlen hcapb
      rw [hkept.out, laid_append]
      exact Aside0.mk this
    have hb6 := Aside0.mk hb6
    have hc6' := Aside0.mk hc6
    have hTc : T ≤ c2 := by omega
    have he31 := enters_of (P := Try.prog) Try.func31 (by kernel_rfl) rfl
    clear H6 hb56 hv6 hC2 hkept p0 p1 hak hW6 hc6 hTT htl hc5 g1 g2 g4 k0 k1
    go_region_held3 (fun W' => W'.cell? ⟨pw, 0, none⟩ = some (.int .i64 (X.at_ : Int)) ∧ W'.cell? ⟨pw, 1, none⟩ = some (.slice A2 X.b.length c2) ∧ W'.cell? ⟨pc, 1, none⟩ = some (.int .i64 y))
      (first | exact ⟨q0, q1, r1⟩ | exact ⟨q0', q1', r1'⟩)
      (first
        | (go_at_call 32; refine hpk2.out.mono ?_; rintro e w' ⟨rfl, rfl⟩)
        | (refine hL6.out.mono ?_
           rintro e w7 ⟨rfl, hv7, hg7⟩
           have q0' : w7.cell? ⟨pw, 0, none⟩ = some (.int .i64 (X.at_ : Int)) := cell_grown hg7 q0 (fun e => absurd (Option.some.inj e) (show ¬ pw = nb by omega))
           have q1' : w7.cell? ⟨pw, 1, none⟩ = some (.slice A2 X.b.length c2) := cell_grown hg7 q1 (fun e => absurd (Option.some.inj e) (show ¬ pw = nb by omega))
           have r1' : w7.cell? ⟨pc, 1, none⟩ = some (.int .i64 y) := cell_grown hg7 r1 (fun e => absurd (Option.some.inj e) (show ¬ pc = nb by omega))
           replace hv7 := Aside0.mk hv7
           replace hg7 := Aside0.mk hg7))
    have hbz := Aside0.mk (below_drew hb6.out |>.grown hg7.out (by have := hb6.out.size; show _ ≤ W6.heap.size; omega) (fun q hq => by injection hq with hq; omega))
    have hcz : w7.cell? ⟨pb, 0, none⟩ = some (.slice (some ⟨nb, 0, none⟩) N capb) := cell_grown hg7.out hc6'.out (fun e => absurd (Option.some.inj e) (show ¬ pb = nb by omega))
    clear hg7 q0 q1 r1 q0' q1' r1' hL6 hpk2
    generalize w7 = wz at *
    have hzl : N = (laid ds.lasts (ds.kept x y)).length := by
      have := (Kd.R_reads' hv7.out).1
      rwa [toI_length] at this
    have hclz : Aside0 (Calls Try.prog 30 #[.slice (some ⟨nb, 0, none⟩) N capb] wz.drew fun e w' => ∃ v, e = .returned v ∧ u8.R 5 w' 0 (fun q => wz.heap.size ≤ q) v (toI (laid ds.lasts (ds.kept x y))) ∧ Below wz.heap.size wz w') := Aside0.mk (by
      have := clone8_calls (some ⟨nb, 0, none⟩) capb (laid ds.lasts (ds.kept x y)) wz.drew (by have h9 := (Kd.R_reads' hv7.out).2.2; rw [toI_length] at h9; exact Kd.C_drew h9) (by omega)
      rw [← hzl] at this
      exact this.mono (fun e w' ⟨v, h1, h2, h3⟩ => ⟨v, h1, h2, ⟨h3.os, h3.tape, h3.output, h3.size, h3.block⟩⟩))
    have g4 := (hF.out wz hbz.out).2.2.2.1
    have hnz : nb < wz.heap.size := Kd.R_lt hv7.out nb rfl
    replace hzl := Aside0.mk hzl
    go_wp2_with fail
    go_region_held3 (fun W' => W'.cell? ⟨pb, 0, none⟩ = some (.slice (some ⟨nb, 0, none⟩) N capb) ∧ W'.cell? ⟨g, 4, none⟩ = some (.int .i64 ds.limit))
      (first | exact ⟨hcz, g4⟩ | exact ⟨c8, g8⟩ | exact ⟨pw_cell_below (below_alloc (Below.refl _ _) _) c8, pw_cell_below (below_alloc (Below.refl _ _) _) g8⟩)
      (first
        | (go_at_call 30
           refine hclz.out.mono ?_
           rintro e w8 ⟨v, rfl, hv8, hb8⟩
           have c8 : w8.cell? ⟨pb, 0, none⟩ = some (.slice (some ⟨nb, 0, none⟩) N capb) := pw_cell_below hb8 hcz
           have g8 : w8.cell? ⟨g, 4, none⟩ = some (.int .i64 ds.limit) := pw_cell_below hb8 g4
           obtain ⟨A8, c08, rfl⟩ := Kd.R_slice hv8
           generalize (toI (laid ds.lasts (ds.kept x y))).length = N8 at hv8 ⊢
           replace hv8 := Aside0.mk hv8
           replace hb8 := Aside0.mk hb8))
    all_goals go_wp2_with fail
    all_goals go_ret2
    all_goals (
      obtain ⟨S2, RO2, k1, k2, k3⟩ := boxed_mem (w := w) (B := pc) ds.limit hzl.out.symm hpos (R_mod hv7.out (Mod.of_below (S := fun _ => False) hb8.out) (fun _ _ h => h)) hv8.out hnz (by omega) (by have := hb8.out.size; omega)
        (below_then (hF.out wz hbz.out).1 (by omega) hb8.out) _ rfl
      exact ⟨_, S2, RO2, rfl, k1, k2, hpc ▸ k3⟩)
  · have hkM : K = M := by omega
    subst hkM
    have hdk : decide ((K : Int) < (K : Int)) = false := by simp
    have hkept : ds.kept x y = ds.waits.take K := by
      unfold DS.kept
      rw [hM.out, hK.out, List.getElem?_eq_none (by rw [hM.out]; exact Nat.le_refl _), List.append_nil]
    rw [← hkept] at hv5
    have hbz := hb5
    have hcz := hc5
    have hv7 := hv5
    clear hv5 hb5 hc5 hkept
    generalize w5 = wz at *
    clear k0 k1
    have hzl : N = (laid ds.lasts (ds.kept x y)).length := by
      have := (Kd.R_reads' hv7.out).1
      rwa [toI_length] at this
    have hclz : Aside0 (Calls Try.prog 30 #[.slice (some ⟨nb, 0, none⟩) N capb] wz.drew fun e w' => ∃ v, e = .returned v ∧ u8.R 5 w' 0 (fun q => wz.heap.size ≤ q) v (toI (laid ds.lasts (ds.kept x y))) ∧ Below wz.heap.size wz w') := Aside0.mk (by
      have := clone8_calls (some ⟨nb, 0, none⟩) capb (laid ds.lasts (ds.kept x y)) wz.drew (by have h9 := (Kd.R_reads' hv7.out).2.2; rw [toI_length] at h9; exact Kd.C_drew h9) (by omega)
      rw [← hzl] at this
      exact this.mono (fun e w' ⟨v, h1, h2, h3⟩ => ⟨v, h1, h2, ⟨h3.os, h3.tape, h3.output, h3.size, h3.block⟩⟩))
    have g4 := (hF.out wz hbz.out).2.2.2.1
    have hnz : nb < wz.heap.size := Kd.R_lt hv7.out nb rfl
    replace hzl := Aside0.mk hzl
    go_wp2_with fail
    go_region_held3 (fun W' => W'.cell? ⟨pb, 0, none⟩ = some (.slice (some ⟨nb, 0, none⟩) N capb) ∧ W'.cell? ⟨g, 4, none⟩ = some (.int .i64 ds.limit))
      (first | exact ⟨hcz, g4⟩ | exact ⟨c8, g8⟩ | exact ⟨pw_cell_below (below_alloc (Below.refl _ _) _) c8, pw_cell_below (below_alloc (Below.refl _ _) _) g8⟩)
      (first
        | (go_at_call 30
           refine hclz.out.mono ?_
           rintro e w8 ⟨v, rfl, hv8, hb8⟩
           have c8 : w8.cell? ⟨pb, 0, none⟩ = some (.slice (some ⟨nb, 0, none⟩) N capb) := pw_cell_below hb8 hcz
           have g8 : w8.cell? ⟨g, 4, none⟩ = some (.int .i64 ds.limit) := pw_cell_below hb8 g4
           obtain ⟨A8, c08, rfl⟩ := Kd.R_slice hv8
           generalize (toI (laid ds.lasts (ds.kept x y))).length = N8 at hv8 ⊢
           replace hv8 := Aside0.mk hv8
           replace hb8 := Aside0.mk hb8))
    all_goals go_wp2_with fail
    all_goals go_ret2
    all_goals (
      obtain ⟨S2, RO2, k1, k2, k3⟩ := boxed_mem (w := w) (B := pc) ds.limit hzl.out.symm hpos (R_mod hv7.out (Mod.of_below (S := fun _ => False) hb8.out) (fun _ _ h => h)) hv8.out hnz (by omega) (by have := hb8.out.size; omega)
        (below_then (hF.out wz hbz.out).1 (by omega) hb8.out) _ rfl
      exact ⟨_, S2, RO2, rfl, k1, k2, hpc ▸ k3⟩)
end Go.Proofs.Ytolighikimpbfaa
