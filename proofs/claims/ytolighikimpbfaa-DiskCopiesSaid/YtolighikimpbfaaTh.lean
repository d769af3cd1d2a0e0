/- DiskCopies, walked. -/
import Derived.Test.YtolighikimpbfaaTg
set_option linter.unusedVariables false
set_option linter.unusedSimpArgs false
namespace Go.Proofs.Ytolighikimpbfaa
open Go.RowKit Go.Shelf Go.Proofs.YtolighikimpbfaaW.PrintWords Go.Proofs.YtolighikimpbfaaW.PrintMore Go.Proofs.YtolighikimpbfaaW.PrintLast

section
variable {w0 wr w w' w3 w4 w5 : World} {B m g g2 gold gc B7 B12 k : Nat} {A A2 A5 A6 : Option Addr} {c c2 c5 c6 : Nat} {ds ds2 : DS} {O O2 Oe Q : Nat → Prop}
/-- What stays as it is while the copy goes on: the first disk, its other copy, the reference. -/
structure Kept (Q : Nat → Prop) (w : World) (g gold B12 : Nat) (A : Option Addr) (c : Nat) (A2 : Option Addr) (c2 : Nat) (ds : DS) : Prop where
  d : ∃ S RO, Dk w S RO g ds ∧ ∀ q, S q ∨ RO q → Q q
  old : ∃ S RO, Dk w S RO gold ds ∧ ∀ q, S q ∨ RO q → Q q
  was : ∃ Ow, Ref w Ow (.agg (refV A c A2 c2 ds)) ds ∧ ∀ q, Ow q → Q q
  box : w.heap[B12]? = some (.cells (refV A c A2 c2 ds) 45 (0, 0))
  q12 : Q B12
theorem Kept.stays (h : Kept Q w g gold B12 A c A2 c2 ds) (hm : Stays Q w w') : Kept Q w' g gold B12 A c A2 c2 ds := by
  obtain ⟨⟨S, RO, h1, h2⟩, ⟨S2, RO2, h3, h4⟩, ⟨Ow, h5, h6⟩, h7, h8⟩ := h
  exact ⟨⟨S, RO, h1.mod hm (fun q hq hn => hn (h2 q hq)), h2⟩, ⟨S2, RO2, h3.mod hm (fun q hq hn => hn (h4 q hq)), h4⟩, ⟨Ow, h5.mod hm (fun q hq hn => hn (h6 q hq)), h6⟩, Mod.blk hm h7 (fun hn => hn h8), h8⟩
/-- Where both copies are made. -/
theorem kept_start {S RO S2 RO2 S3 RO3 : Nat → Prop} (h : PL w0 B m wr g B7 k A c A2 c2 ds O Oe) (h1 : Dk wr S RO g ds) (hS : ∀ q, S q → ¬ O q) (hR : ∀ q, RO q → ¬ q = B7) (hb3 : Below wr.heap.size wr w3) (h12 : w3.heap[wr.heap.size]? = some (.cells (refV A c A2 c2 ds) 45 (0, 0)))
    (k1 : Dk w4 S2 RO2 gold ds) (k2 : ∀ q, S2 q → w3.heap.size ≤ q) (k3 : ∀ q, RO2 q → (RO q ∧ q < wr.heap.size) ∨ w3.heap.size ≤ q) (k4 : Below w3.heap.size w3 w4)
    (j1 : Dk w5 S3 RO3 gc ds) (j2 : ∀ q, S3 q → w4.heap.size ≤ q) (j3 : ∀ q, RO3 q → (RO q ∧ q < wr.heap.size) ∨ w4.heap.size ≤ q) (j4 : Below w4.heap.size w4 w5) :
    PL w0 B m w5 gc B7 k A c A2 c2 ds (fun q => q < w4.heap.size) Oe ∧ Kept (fun q => q < w4.heap.size ∧ q ≠ B7) w5 g gold wr.heap.size A c A2 c2 ds := by
  have z3 := hb3.size
  have z4 := k4.size
  have z5 := j4.size
  have z7 := h.bd _ h.ob
  have z12 := (Array.getElem?_eq_some_iff.1 h12).1
  have b5 : Below wr.heap.size wr w5 := below_then hb3 z3 (below_then k4 z4 j4)
  have b4 : Below w3.heap.size w3 w5 := below_then k4 z4 j4
  refine ⟨⟨⟨S3, RO3, j1, fun q hq hn => ?_, fun q hq hn => ?_⟩, h.ref.below b5, (b5.block _ z7).trans h.box, fun q hq => ⟨?_, (h.oe q hq).2⟩, ?_, fun q hq => ?_, fun q hq => ?_, h.hB, h.hw, PM.below.below_then' h.bel b5 ?_, h.upto, h.len⟩, ⟨_, _, h1.bound.below b5, fun q hq => ?_⟩, ⟨_, _, k1.bound.below j4, fun q hq => ?_⟩, ⟨_, (h.ref.bound).below b5, fun q hq => ?_⟩, (b4.block _ z12).trans h12, ?_⟩
  · have := j2 q hq; omega
  · rcases j3 q hq with h9 | h9
    · exact hR q h9.1 hn
    · omega
  · have := h.bd _ (h.oe q hq).1; omega
  · show B7 < w4.heap.size; omega
  · have := h.bd _ (h.lo q hq); omega
  · have : q < w4.heap.size := hq; omega
  · have := h.bel.size; have := h.hw; omega
  · rcases hq with hq | hq
    · exact ⟨by have := hq.2; omega, fun e => hS q hq.1 (by rw [e]; exact h.ob)⟩
    · exact ⟨by have := hq.2; omega, hR q hq.1⟩
  · rcases hq with hq | hq
    · have := hq.2; have := k2 q hq.1; exact ⟨by omega, by omega⟩
    · refine ⟨hq.2, fun e => ?_⟩
      rcases k3 q hq.1 with h9 | h9
      · exact hR q h9.1 e
      · omega
  · have := hq.2; exact ⟨by omega, (h.oe q hq.1).2⟩
  · exact ⟨by omega, by omega⟩
/-- A call on the copy. -/
theorem PL.goes2 (h : PL w0 B m wr gc B7 k A c A2 c2 ds O Oe) (hq : ∀ q, Q q → O q ∧ q ≠ B7) (x : Act) (hx : x.n ≤ 9223372036854775807) (hk : k < 1000000) (hkp : Kept Q wr g gold B12 A5 c5 A6 c6 ds2)
    {r : Ending} (hp : DoesPost wr O (fun q => q = B7) (ds.does x) r w) : ∃ g2 A5' c5' A6' c6' O' Oe', r = .returned (.tuple #[.pointer (some ⟨g2, 0, none⟩), .agg (refV A5' c5' A6' c6' (ds.does x)), .bool true]) ∧
      (PL w0 B m (((((w.setCell ⟨B7, 0, none⟩ (.slice A5' (ds.does x).lasts.length c5')).setCell ⟨B7, 1, none⟩ (.slice A6' (ds.does x).waits.length c6')).setCell ⟨B7, 2, none⟩ (.int .i64 (ds.does x).armed)).setCell ⟨B7, 3, none⟩ (.int .i64 (ds.does x).limit)).setCell ⟨B7, 4, none⟩ (.int .i64 (ds.does x).done)) g2 B7 (k + 1) A5' c5' A6' c6' (ds.does x) O' Oe') ∧
      Kept Q (((((w.setCell ⟨B7, 0, none⟩ (.slice A5' (ds.does x).lasts.length c5')).setCell ⟨B7, 1, none⟩ (.slice A6' (ds.does x).waits.length c6')).setCell ⟨B7, 2, none⟩ (.int .i64 (ds.does x).armed)).setCell ⟨B7, 3, none⟩ (.int .i64 (ds.does x).limit)).setCell ⟨B7, 4, none⟩ (.int .i64 (ds.does x).done)) g gold B12 A5 c5 A6 c6 ds2 ∧ (∀ q, Q q → O' q ∧ q ≠ B7) ∧
      Stays O wr w ∧ (∃ a b d e f, w.heap[B7]? = some (.cells #[a, b, d, e, f] 45 (0, 0))) := by
  obtain ⟨g2, u, O', Oe', rfl, h1, h2, h3, h4, h5, h6⟩ := hp
  obtain ⟨A5', c5', A6', c6', rfl⟩ := h2.form
  have hm := mod5 w B7 (.slice A5' (ds.does x).lasts.length c5') (.slice A6' (ds.does x).waits.length c6') (.int .i64 (ds.does x).armed) (.int .i64 (ds.does x).limit) (.int .i64 (ds.does x).done)
  have h7 : w.heap[B7]? = wr.heap[B7]? := h6.blk h.ob (h.bd _ h.ob)
  refine ⟨g2, A5', c5', A6', c6', O', Oe', rfl, ⟨h1.mod hm (fun q hq => by subst hq; exact ⟨h3 _ h.ob, rfl⟩), h2.mod hm (fun q hq => (h5 q hq).2), set5 (h7.trans h.box) _ _ _ _ _, h5, h3 _ h.ob, fun q hq => h3 _ (h.lo q hq), fun q hq => Nat.lt_of_lt_of_le (h4 q hq) hm.size, h.hB, h.hw, below5 ?_ h.hB _ _ _ _ _, upto_does h.upto hk x hx, ?_⟩,
    (hkp.stays (h6.mono (fun q hn hh => hn (hq q hh).1))).stays (hm.mono (fun q e hn => (hq q hn).2 e)), fun q hh => ⟨h3 _ (hq q hh).1, (hq q hh).2⟩, h6, ⟨_, _, _, _, _, h7.trans h.box⟩⟩
  · exact h.bel.trans (h6.below h.lo (by have := h.bel.size; have := h.hw; omega))
  · rw [does_length h.upto.fine, h.len]
end
theorem two_sum (a b : Nat) (ha : a ≤ 40) (hb : b ≤ 40) : wrap64 ((a : Int) + (b : Int)) = (a : Int) + (b : Int) := by unfold wrap64; omega
set_option maxRecDepth 20000 in
set_option maxHeartbeats 4000000 in
theorem diskCopies_few (size : Int) (A A2 : Option Addr) (c c2 : Nat) (l l2 : List Act) (w : World) (hC : ak.C w A l.length (encAs l)) (hlc : l.length ≤ c) (hC2 : ak.C w A2 l2.length (encAs l2)) (hlc2 : l2.length ≤ c2)
    (hno : decide (Few size l) = false ∨ (decide (Few size l) = true ∧ decide (Few size l2) = false) ∨ (decide (Few size l) = true ∧ decide (Few size l2) = true ∧ 40 < l.length + l2.length)) :
    Calls Try.prog 7 #[.int .i64 size, .slice A l.length c, .slice A2 l2.length c2] w fun e w' => e = .returned (.bool true) ∧ Below w.heap.size w w' := by
  have hf := few_calls size A c l w hC hlc
  have hf2 := few_calls size A2 c2 l2 w hC2 hlc2
  have hk := Aside0.mk (known_calls w)
  have hs : decide (Few size l) = true → decide (Few size l2) = true → wrap64 ((l.length : Int) + (l2.length : Int)) = (l.length : Int) + (l2.length : Int) := fun h1 h2 => two_sum _ _ (of_decide_eq_true h1).2.1 (of_decide_eq_true h2).2.1
  clear hC hlc hC2 hlc2
  rcases hno with h1 | ⟨h1, h2⟩ | ⟨h1, h2, h3⟩
  · rw [h1] at hf
    replace hf := Aside0.mk hf
    clear hf2 hs h1
    generalize l.length = M at *
    generalize l2.length = M2 at *
    go_enter Try.func7, Try.ntmps7
    go_wp2_with fail
    refine hf.out.mono ?_
    rintro e w' ⟨rfl, rfl⟩
    go_wp2_with fail
    refine hk.out.mono ?_
    rintro e w' ⟨rfl, hb2⟩
    replace hb2 := Aside0.mk hb2
    go_wp2_with fail
    go_ret
    exact ⟨rfl, hb2.out⟩
  · rw [h1] at hf
    rw [h2] at hf2
    replace hf := Aside0.mk hf
    replace hf2 := Aside0.mk hf2
    clear hs h1 h2
    generalize l.length = M at *
    generalize l2.length = M2 at *
    go_enter Try.func7, Try.ntmps7
    go_wp2_with fail
    refine hf.out.mono ?_
    rintro e w' ⟨rfl, rfl⟩
    go_wp2_with fail
    refine hf2.out.mono ?_
    rintro e w' ⟨rfl, rfl⟩
    go_wp2_with fail
    refine hk.out.mono ?_
    rintro e w' ⟨rfl, hb2⟩
    replace hb2 := Aside0.mk hb2
    go_wp2_with fail
    go_ret
    exact ⟨rfl, hb2.out⟩
  · have hs := hs h1 h2
    rw [h1] at hf
    rw [h2] at hf2
    replace hf := Aside0.mk hf
    replace hf2 := Aside0.mk hf2
    clear h1 h2
    generalize l.length = M at *
    generalize l2.length = M2 at *
    have hd : decide ((40 : Int) < (M : Int) + (M2 : Int)) = true := by simp; omega
    go_enter Try.func7, Try.ntmps7
    go_wp2_with fail
    refine hf.out.mono ?_
    rintro e w' ⟨rfl, rfl⟩
    go_wp2_with fail
    refine hf2.out.mono ?_
    rintro e w' ⟨rfl, rfl⟩
    go_wp2_with fail
    refine hk.out.mono ?_
    rintro e w' ⟨rfl, hb2⟩
    replace hb2 := Aside0.mk hb2
    go_wp2_with fail
    go_ret
    exact ⟨rfl, hb2.out⟩
set_option maxRecDepth 20000 in
set_option maxHeartbeats 4000000 in
theorem diskCopies_none (size : Int) (A A2 : Option Addr) (c c2 : Nat) (l l2 : List Act) (w : World) (hC : ak.C w A l.length (encAs l)) (hlc : l.length ≤ c) (hC2 : ak.C w A2 l2.length (encAs l2)) (hlc2 : l2.length ≤ c2)
    (h1 : decide (Few size l) = true) (h2 : decide (Few size l2) = true) (h3 : l.length + l2.length ≤ 40) (hsz : size < 1) :
    Calls Try.prog 7 #[.int .i64 size, .slice A l.length c, .slice A2 l2.length c2] w fun e w' => e = .returned (.bool true) ∧ Below w.heap.size w w' := by
  have hf := few_calls size A c l w hC hlc
  have hf2 := few_calls size A2 c2 l2 w hC2 hlc2
  have hk := Aside0.mk (known_calls w)
  have hn := Aside0.mk (new_no size (.inl hsz) w)
  have hs := two_sum _ _ (of_decide_eq_true h1).2.1 (of_decide_eq_true h2).2.1
  rw [h1] at hf
  rw [h2] at hf2
  replace hf := Aside0.mk hf
  replace hf2 := Aside0.mk hf2
  clear hC hlc hC2 hlc2 h1 h2 hsz
  generalize l.length = M at *
  generalize l2.length = M2 at *
  have hd : decide ((40 : Int) < (M : Int) + (M2 : Int)) = false := by simp; omega
  go_enter Try.func7, Try.ntmps7
  go_wp2_with fail
  refine hf.out.mono ?_
  rintro e w' ⟨rfl, rfl⟩
  go_wp2_with fail
  refine hf2.out.mono ?_
  rintro e w' ⟨rfl, rfl⟩
  go_wp2_with fail
  refine hn.out.mono ?_
  rintro e w' ⟨rfl, rfl⟩
  go_wp2_with fail
  refine hk.out.mono ?_
  rintro e w' ⟨rfl, hb2⟩
  replace hb2 := Aside0.mk hb2
  go_wp2_with fail
  go_ret
  exact ⟨rfl, hb2.out⟩
set_option maxRecDepth 20000 in
set_option maxHeartbeats 8000000 in
theorem diskCopies_go (m : Nat) (A A2 : Option Addr) (c c2 : Nat) (l l2 : List Act) (w : World) (hC : ak.C w A l.length (encAs l)) (hlc : l.length ≤ c) (hC2 : ak.C w A2 l2.length (encAs l2)) (hlc2 : l2.length ≤ c2)
    (hyes : decide (Few (m : Int) l) = true) (hyes2 : decide (Few (m : Int) l2) = true) (h40 : l.length + l2.length ≤ 40) (hm : 1 ≤ m) (hok : ∀ a ∈ l, a.Ok) (hok2 : ∀ a ∈ l2, a.Ok) :
    Calls Try.prog 7 #[.int .i64 (m : Int), .slice A l.length c, .slice A2 l2.length c2] w fun e w' => e = .returned (.bool true) ∧ Below w.heap.size w w' := by
  have hf := few_calls m A c l w hC hlc
  have hf2 := few_calls m A2 c2 l2 w hC2 hlc2
  rw [hyes] at hf
  rw [hyes2] at hf2
  have hfew := of_decide_eq_true hyes
  have hfew2 := of_decide_eq_true hyes2
  have hm3 : m ≤ 300 := by have := hfew.1; omega
  have hs := two_sum _ _ hfew.2.1 hfew2.2.1
  have hb100 := Aside0.mk hfew.2.2
  have hb1002 := Aside0.mk hfew2.2.2
  have hn := new_own m hm (by omega) w
  obtain ⟨M, hM⟩ : ∃ M, l.length = M := ⟨_, rfl⟩
  obtain ⟨M2, hM2⟩ : ∃ M2, l2.length = M2 := ⟨_, rfl⟩
  rw [hM] at hf hlc hs h40 ⊢
  rw [hM2] at hf2 hlc2 hs h40 ⊢
  have hd : decide ((40 : Int) < (M : Int) + (M2 : Int)) = false := by simp; omega
  replace hC := Aside0.mk hC
  replace hC2 := Aside0.mk hC2
  replace hf := Aside0.mk hf
  replace hf2 := Aside0.mk hf2
  replace hok := Aside0.mk hok
  replace hok2 := Aside0.mk hok2
  replace hn := Aside0.mk hn
  replace hM := Aside0.mk hM
  replace hM2 := Aside0.mk hM2
  clear hfew hfew2 hyes hyes2
  go_enter Try.func7, Try.ntmps7
  go_wp2_with fail
  refine hf.out.mono ?_
  rintro e w' ⟨rfl, rfl⟩
  go_wp2_with fail
  refine hf2.out.mono ?_
  rintro e w' ⟨rfl, rfl⟩
  go_wp2_with fail
  refine hn.out.mono ?_
  rintro e w1 ⟨g0, rfl, ho1, hb1⟩
  have hrn := Aside0.mk (rnew_yes m hm (by omega) w1)
  replace ho1 := Aside0.mk ho1
  replace hb1 := Aside0.mk hb1
  clear hf hf2 hn
  go_wp2_with fail
  refine hrn.out.mono ?_
  rintro e w2 ⟨u, rfl, hu2, hb2⟩
  obtain ⟨A3, c3, A4, c4, rfl⟩ := hu2.form
  have hb3 := below_alloc (Below.refl w2.heap.size w2) (.cells (refV A3 c3 A4 c4 (fresh m)) 45)
  obtain ⟨O0, Oe0, hpl0⟩ := pl_start (by omega) ho1.out hb1.out hu2 hb2 hb3 (Go.heap_alloc_new w2 _)
  replace hpl0 := Aside0.mk hpl0
  clear hu2 hb2 hb3 hb1 ho1 hrn
  go_wp2_with fail
  obtain ⟨w3, hw3⟩ : ∃ w3, w2.alloc (.cells (refV A3 c3 A4 c4 (fresh m)) 45) = w3 := ⟨_, rfl⟩
  rw [hw3] at hpl0
  obtain ⟨B7, hB7⟩ : ∃ B7, w2.heap.size = B7 := ⟨_, rfl⟩
  simp only [hB7, hw3] at hpl0 ⊢
  clear hB7 hs hd
  simp only [refV]
  go_loopw [7, 11] (fun s7 s11 wr => ∃ (k g : Nat) (A5 : Option Addr) (c5 : Nat) (A6 : Option Addr) (c6 : Nat) (ds : DS), k ≤ M ∧ s7 = .pointer (some ⟨g, 0, none⟩) ∧ s11 = .int .i64 k ∧ Aside0 (∃ O Oe, PL w w.heap.size m wr g B7 k A5 c5 A6 c6 ds O Oe)) (fun _ s11 _ => M - (intOf s11).toNat)
  case atStart => exact ⟨0, g0, _, _, _, _, _, Nat.zero_le _, rfl, rfl, ⟨_, _, hpl0.out⟩⟩
  case round =>
    clear hpl0
    obtain ⟨k, g, A5, c5, A6, c6, ds, hk, rfl, rfl, hpl⟩ := hrel
    obtain ⟨O, Oe, hpl⟩ := hpl.out
    have hbwr : Below w.heap.size w wr := hpl.bel
    by_cases hlt : k < M
    · clear hok2 hC2 hb1002 hM2
      have hkw : k < l.length := by rw [hM.out]; exact hlt
      obtain ⟨ad, A9, c9, e, hlc9, hC9, P0, O0, sp, hak, p0, p1, p2, p3, p4, p5⟩ := act_at hC.out k hkw
      subst e
      have htok := hok.out l[k] (List.getElem_mem hkw)
      have htb := hb100.out l[k] (List.getElem_mem hkw)
      obtain ⟨t, hx⟩ : ∃ t, l[k] = t := ⟨_, rfl⟩
      rw [hx] at hlc9 hC9 p0 p1 p2 p3 p4 p5 htok htb
      clear hx hkw
      have hplD := hpl.drew
      have hbD : Below w.heap.size w wr.drew := hbwr.trans (below_drew (Below.refl _ _))
      have hdo := does_calls O (fun q => q = B7) Oe g _ ds k wr.drew t A9 c9 hplD.own (fun q hq => by subst hq; exact hpl.ob) hplD.ref hpl.oe hplD.bd hpl.upto (by omega) (by omega) (Kd.F_mono (F_came hC9 hbD) (fun q hq => hpl.lo q (by omega))) htok
      simp only [actV, refV] at hdo
      have hX : ∀ W, Stays O wr.drew W → W.cell? ⟨B7, 0, none⟩ = some (.slice A5 ds.lasts.length c5) ∧ W.cell? ⟨B7, 1, none⟩ = some (.slice A6 ds.waits.length c6) ∧ W.cell? ⟨B7, 2, none⟩ = some (.int .i64 ds.armed) ∧ W.cell? ⟨B7, 3, none⟩ = some (.int .i64 ds.limit) ∧ W.cell? ⟨B7, 4, none⟩ = some (.int .i64 ds.done) ∧
          W.cell? ⟨P0, O0, sp⟩ = some (.int .i64 t.kind) ∧ W.cell? ⟨P0, O0 + 1, none⟩ = some (.int .i64 t.at_) ∧ W.cell? ⟨P0, O0 + 2, none⟩ = some (.int .i64 t.n) ∧ W.cell? ⟨P0, O0 + 3, none⟩ = some (.slice A9 t.b.length c9) ∧ W.cell? ⟨P0, O0 + 4, none⟩ = some (.int .i64 t.keep) ∧ W.cell? ⟨P0, O0 + 5, none⟩ = some (.int .i64 t.torn) := fun W hW => by
        have g9 := blk5 ((hW.blk (k := B7) hpl.ob (hplD.bd _ hpl.ob)).trans hplD.box)
        have h9 : Below w.heap.size w W := hbD.trans (hW.below (fun q hq => hpl.lo q (by omega)) (by have := hbD.size; omega))
        exact ⟨g9.1, g9.2.1, g9.2.2.1, g9.2.2.2.1, g9.2.2.2.2.1, pw_cell_below h9 p0, pw_cell_below h9 p1, pw_cell_below h9 p2, pw_cell_below h9 p3, pw_cell_below h9 p4, pw_cell_below h9 p5⟩
      have hn9 := htok.n.2
      replace hX := Aside0.mk hX
      replace hdo := Aside0.mk hdo
      replace hplD := Aside0.mk hplD
      have i1 : (0 : Int) ≤ (k : Int) := by omega
      have i2 : (k : Int) < (M : Int) := by omega
      clear hpl hbwr hbD htok htb hC9 p0 p1 p2 p3 p4 p5
      go_wp2_with fail
      refine start_ (n := 13) (S := fun w' => w'.cell? ⟨B7, 0, none⟩ = some (.slice A5 ds.lasts.length c5) ∧ w'.cell? ⟨B7, 1, none⟩ = some (.slice A6 ds.waits.length c6) ∧ w'.cell? ⟨B7, 2, none⟩ = some (.int .i64 ds.armed) ∧ w'.cell? ⟨B7, 3, none⟩ = some (.int .i64 ds.limit) ∧ w'.cell? ⟨B7, 4, none⟩ = some (.int .i64 ds.done) ∧ w'.cell? ⟨P0, O0, sp⟩ = some (.int .i64 t.kind) ∧ w'.cell? ⟨P0, O0 + 1, none⟩ = some (.int .i64 t.at_) ∧ w'.cell? ⟨P0, O0 + 2, none⟩ = some (.int .i64 t.n) ∧ w'.cell? ⟨P0, O0 + 3, none⟩ = some (.slice A9 t.b.length c9) ∧ w'.cell? ⟨P0, O0 + 4, none⟩ = some (.int .i64 t.keep) ∧ w'.cell? ⟨P0, O0 + 5, none⟩ = some (.int .i64 t.torn)) (ds := [12]) #[false, false, false, false, false, false, false, false, false, false, false, false, false] (by kernel_rfl) rfl rfl ⟨(hX.out _ (Stays.refl _ _)).1, (hX.out _ (Stays.refl _ _)).2.1, (hX.out _ (Stays.refl _ _)).2.2.1, (hX.out _ (Stays.refl _ _)).2.2.2.1, (hX.out _ (Stays.refl _ _)).2.2.2.2.1, (hX.out _ (Stays.refl _ _)).2.2.2.2.2.1, (hX.out _ (Stays.refl _ _)).2.2.2.2.2.2.1, (hX.out _ (Stays.refl _ _)).2.2.2.2.2.2.2.1, (hX.out _ (Stays.refl _ _)).2.2.2.2.2.2.2.2.1, (hX.out _ (Stays.refl _ _)).2.2.2.2.2.2.2.2.2.1, (hX.out _ (Stays.refl _ _)).2.2.2.2.2.2.2.2.2.2⟩ (fun hHeld => ?_)
      refine pure_ (i := 0) (N := some 55) (v := ?_) (a' := ?_) #[true, false, false, false, false, false, false, false, false, false, false, false, false] rfl rfl (by kernel_rfl) (fun _ _ _ h => h) (Or.inl ⟨by rfl, ?_⟩) ?_ ?_
      rotate_left
      · intro w'
        go_simp
        with_reducible rfl
      rotate_left
      · simp only [Act.put, List.setIfInBounds_toArray, List.set_cons_zero, List.set_cons_succ, i64_w, i32_w]
        rfl
      refine pure_ (i := 2) (N := some 57) (v := ?_) (a' := ?_) #[true, false, true, false, false, false, false, false, false, false, false, false, false] rfl rfl (by kernel_rfl) (fun _ _ _ h => h) (Or.inl ⟨by rfl, ?_⟩) ?_ ?_
      rotate_left
      · intro w'
        go_simp
        with_reducible rfl
      rotate_left
      · simp only [Act.put, List.setIfInBounds_toArray, List.set_cons_zero, List.set_cons_succ, i64_w, i32_w]
        rfl
      refine pure_ (i := 3) (N := some 58) (v := ?_) (a' := ?_) #[true, false, true, true, false, false, false, false, false, false, false, false, false] rfl rfl (by kernel_rfl) (fun _ _ _ h => h) (Or.inl ⟨by rfl, ?_⟩) ?_ ?_
      rotate_left
      · intro w'
        go_simp
        with_reducible rfl
      rotate_left
      · simp only [Act.put, List.setIfInBounds_toArray, List.set_cons_zero, List.set_cons_succ, i64_w, i32_w]
        rfl
      refine pure_ (i := 4) (N := some 59) (v := ?_) (a' := ?_) #[true, false, true, true, true, false, false, false, false, false, false, false, false] rfl rfl (by kernel_rfl) (fun _ _ _ h => h) (Or.inl ⟨by rfl, ?_⟩) ?_ ?_
      rotate_left
      · intro w'
        go_simp
        with_reducible rfl
      rotate_left
      · simp only [Act.put, List.setIfInBounds_toArray, List.set_cons_zero, List.set_cons_succ, i64_w, i32_w]
        rfl
      refine take_ (i := 1) (N := some 56) (v := ?_) (a' := ?_) #[true, true, true, true, true, false, false, false, false, false, false, false, false] rfl rfl (by kernel_rfl) (fun _ _ _ h => h) (Or.inl ⟨by rfl, ?_⟩) hHeld ?_ ?_
      rotate_left
      · rintro w' ⟨s0, s1, s2, s3, s4, s5, s6, s7, s8, s9, s10⟩
        go_simp
        with_reducible rfl
      rotate_left
      · simp only [Act.put, List.setIfInBounds_toArray, List.set_cons_zero, List.set_cons_succ, i64_w, i32_w]
        rfl
      refine take_ (i := 5) (N := some 60) (v := ?_) (a' := ?_) #[true, true, true, true, true, true, false, false, false, false, false, false, false] rfl rfl (by kernel_rfl) (fun _ _ _ h => h) (Or.inl ⟨by rfl, ?_⟩) hHeld ?_ ?_
      rotate_left
      · rintro w' ⟨s0, s1, s2, s3, s4, s5, s6, s7, s8, s9, s10⟩
        go_simp
        with_reducible rfl
      rotate_left
      · simp only [Act.put, List.setIfInBounds_toArray, List.set_cons_zero, List.set_cons_succ, i64_w, i32_w]
        rfl
      refine one_ (i := 6) (N := some 61) #[true, true, true, true, true, true, true, false, false, false, false, false, false] rfl rfl (by kernel_rfl) (by decide) (fun K hK => ?_)
      refine goes_ Try.func20 (by kernel_rfl) rfl #[.pointer (some ⟨g, 0, none⟩), .agg #[.slice A5 ds.lasts.length c5, .slice A6 ds.waits.length c6, .int .i64 ds.armed, .int .i64 ds.limit, .int .i64 ds.done], .agg #[.int .i64 t.kind, .int .i64 t.at_, .int .i64 t.n, .slice A9 t.b.length c9, .int .i64 t.keep, .int .i64 t.torn]] (by rfl) rfl rfl (by simp only [List.map_toArray, List.map_cons, List.map_nil]; rfl) ?_
      with_reducible refine (hdo.out).mono ?_
      rintro e w4 hp; obtain ⟨g2, A7, c7, A8, c8, O2, Oe2, rfl, hpl2, hs4, a7, b7, d7, e7, f7, hbx⟩ := hplD.out.goes t hn9 (by omega) hp
      refine ⟨_, rfl, ?_⟩
      simp only [refV]
      obtain ⟨e0, e1, e2, e3, e4, e5⟩ := blk5 hbx
      replace hpl2 := Aside0.mk hpl2
      replace hs4 := Aside0.mk hs4
      refine hK.out _ _ ⟨(hX.out _ hs4.out).1, (hX.out _ hs4.out).2.1, (hX.out _ hs4.out).2.2.1, (hX.out _ hs4.out).2.2.2.1, (hX.out _ hs4.out).2.2.2.2.1, (hX.out _ hs4.out).2.2.2.2.2.1, (hX.out _ hs4.out).2.2.2.2.2.2.1, (hX.out _ hs4.out).2.2.2.2.2.2.2.1, (hX.out _ hs4.out).2.2.2.2.2.2.2.2.1, (hX.out _ hs4.out).2.2.2.2.2.2.2.2.2.1, (hX.out _ hs4.out).2.2.2.2.2.2.2.2.2.2⟩ (fun hHeld => ?_)
      clear hK K
      refine norm_ (a' := ?_) ?_ ?_
      rotate_left
      · show Act.put _ (some 61) _ = _
        simp only [Act.put, List.setIfInBounds_toArray, List.set_cons_zero, List.set_cons_succ, i64_w, i32_w]
        rfl
      refine pure_ (i := 7) (N := some 54) (v := ?_) (a' := ?_) #[true, true, true, true, true, true, true, true, false, false, false, false, false] rfl rfl (by kernel_rfl) (fun _ _ _ h => h) (Or.inl ⟨by rfl, ?_⟩) ?_ ?_
      rotate_left
      · intro w'
        go_simp
        with_reducible rfl
      rotate_left
      · simp only [Act.put, List.setIfInBounds_toArray, List.set_cons_zero, List.set_cons_succ, i64_w, i32_w]
        rfl
      refine pure_ (i := 8) (N := some 62) (v := ?_) (a' := ?_) #[true, true, true, true, true, true, true, true, true, false, false, false, false] rfl rfl (by kernel_rfl) (fun _ _ _ h => h) (Or.inl ⟨by rfl, ?_⟩) ?_ ?_
      rotate_left
      · intro w'
        go_simp
        with_reducible rfl
      rotate_left
      · simp only [Act.put, List.setIfInBounds_toArray, List.set_cons_zero, List.set_cons_succ, i64_w, i32_w]
        rfl
      refine pure_ (i := 9) (N := some 63) (v := ?_) (a' := ?_) #[true, true, true, true, true, true, true, true, true, true, false, false, false] rfl rfl (by kernel_rfl) (fun _ _ _ h => h) (Or.inl ⟨by rfl, ?_⟩) ?_ ?_
      rotate_left
      · intro w'
        go_simp
        with_reducible rfl
      rotate_left
      · simp only [Act.put, List.setIfInBounds_toArray, List.set_cons_zero, List.set_cons_succ, i64_w, i32_w]
        rfl
      refine pure_ (i := 10) (N := some 64) (v := ?_) (a' := ?_) #[true, true, true, true, true, true, true, true, true, true, true, false, false] rfl rfl (by kernel_rfl) (fun _ _ _ h => h) (Or.inl ⟨by rfl, ?_⟩) ?_ ?_
      rotate_left
      · intro w'
        go_simp
        with_reducible rfl
      rotate_left
      · simp only [Act.put, List.setIfInBounds_toArray, List.set_cons_zero, List.set_cons_succ, i64_w, i32_w]
        rfl
      refine pure_ (i := 11) (N := some 7) (v := ?_) (a' := ?_) #[true, true, true, true, true, true, true, true, true, true, true, true, false] rfl rfl (by kernel_rfl) (fun _ _ _ h => h) (Or.inl ⟨by rfl, ?_⟩) ?_ ?_
      rotate_left
      · intro w'
        go_simp
        with_reducible rfl
      rotate_left
      · simp only [Act.put, List.setIfInBounds_toArray, List.set_cons_zero, List.set_cons_succ, i64_w, i32_w]
        rfl
      refine last_ (i := 12) (N := none) #[true, true, true, true, true, true, true, true, true, true, true, true, true] rfl rfl (by kernel_rfl) (by decide) (fun K hK => ?_)
      refine skip_ (w1 := ?_) (by rfl) rfl ?_ ?_
      rotate_left
      · go_simp
        rfl
      refine hK.out _ _ ?_
      clear hK K
      refine done_ (by kernel_rfl) ?_
      go_wp2_with fail
      go_roundw
      case rel => exact ⟨k + 1, g2, _, _, _, _, _, by omega, rfl, by go_num, ⟨_, _, hpl2.out⟩⟩
      case measure => simp [intOf]; omega
    · have hkM : k = M := by omega
      subst hkM
      obtain ⟨S, RO, hdk, hS, hR⟩ := hpl.own
      have hb3 := below_alloc (Below.refl wr.heap.size wr) (.cells (refV A5 c5 A6 c6 ds) 45)
      have h12 := Go.heap_alloc_new wr (.cells (refV A5 c5 A6 c6 ds) 45)
      obtain ⟨e0, e1, e2, e3, e4, _⟩ := blk5 hpl.box
      obtain ⟨w3', hw3'⟩ : ∃ w3', wr.alloc (.cells (refV A5 c5 A6 c6 ds) 45) = w3' := ⟨_, rfl⟩
      rw [hw3'] at hb3 h12
      have hfi := hpl.upto.fine
      have hup := Aside0.mk hpl.upto
      have hc1 := copy_calls _ _ g ds w3' (hdk.bound.below hb3) hfi
      have hc2 := fun (W : World) (hW : Below w3'.heap.size w3' W) => copy_calls _ _ g ds W (hdk.bound.below (below_then hb3 hb3.size hW)) hfi
      replace hc1 := Aside0.mk hc1
      replace hc2 := Aside0.mk hc2
      replace hS := Aside0.mk hS
      replace hR := Aside0.mk hR
      replace hdk := Aside0.mk hdk
      replace hb3 := Aside0.mk hb3
      replace h12 := Aside0.mk h12
      replace hpl := Aside0.mk hpl
      clear hbwr hfi hlt hk hC hok hb100 hM
      go_wp2_with fail
      refine hc1.out.mono ?_
      rintro e w4 ⟨gold, S2, RO2, rfl, k1, k2, k3, k4⟩
      have hc2 := Aside0.mk (hc2.out w4 k4)
      replace k1 := Aside0.mk k1
      replace k2 := Aside0.mk k2
      replace k3 := Aside0.mk k3
      replace k4 := Aside0.mk k4
      clear hc1 e0 e1 e2 e3 e4
      go_wp2_with fail
      refine hc2.out.mono ?_
      rintro e w5 ⟨gc, S3, RO3, rfl, j1, j2, j3, j4⟩
      have hst := kept_start hpl.out hdk.out hS.out hR.out hb3.out h12.out k1.out k2.out k3.out k4.out j1 j2 j3 j4
      obtain ⟨Q, hQ⟩ : ∃ Q : Nat → Prop, (fun q => q < w4.heap.size ∧ q ≠ B7) = Q := ⟨_, rfl⟩
      have hqo0 : ∀ q, Q q → (fun q => q < w4.heap.size) q ∧ q ≠ B7 := fun q hq => by rw [← hQ] at hq; exact ⟨hq.1, hq.2⟩
      rw [hQ] at hst
      obtain ⟨hpl5, hkp5⟩ := hst
      replace hpl5 := Aside0.mk hpl5
      replace hkp5 := Aside0.mk hkp5
      replace hqo0 := Aside0.mk hqo0
      clear hQ hc2 j1 j2 j3 j4 k1 k2 k3 k4 hpl hdk hS hR hb3 h12 hw3'
      obtain ⟨B12, hB12⟩ : ∃ B12, wr.heap.size = B12 := ⟨_, rfl⟩
      simp only [hB12] at hkp5 ⊢
      clear hB12
      obtain ⟨gd, hgd⟩ : ∃ gd, g = gd := ⟨_, rfl⟩
      obtain ⟨Aw, hAw⟩ : ∃ Aw, A5 = Aw := ⟨_, rfl⟩
      obtain ⟨cw, hcw⟩ : ∃ cw, c5 = cw := ⟨_, rfl⟩
      obtain ⟨Aw2, hAw2⟩ : ∃ Aw2, A6 = Aw2 := ⟨_, rfl⟩
      obtain ⟨cw2, hcw2⟩ : ∃ cw2, c6 = cw2 := ⟨_, rfl⟩
      obtain ⟨dsw, hdsw⟩ : ∃ dsw, ds = dsw := ⟨_, rfl⟩
      subst hgd hAw hcw hAw2 hcw2 hdsw
      go_wp2_with fail
      go_loopw [14, 15] (fun s14 s15 W => ∃ (k2 g3 : Nat) (A7 : Option Addr) (c7 : Nat) (A8 : Option Addr) (c8 : Nat) (ds2 : DS), k2 ≤ M2 ∧ s14 = .pointer (some ⟨g3, 0, none⟩) ∧ s15 = .int .i64 k2 ∧ Aside0 (∃ O Oe, PL w w.heap.size m W g3 B7 (k + k2) A7 c7 A8 c8 ds2 O Oe ∧ Kept Q W g gold B12 A5 c5 A6 c6 ds ∧ ∀ q, Q q → O q ∧ q ≠ B7)) (fun _ s15 _ => M2 - (intOf s15).toNat)
      case atStart => exact ⟨0, gc, _, _, _, _, _, Nat.zero_le _, rfl, rfl, ⟨_, _, hpl5.out, hkp5.out, hqo0.out⟩⟩
      case round =>
        clear hpl5 hkp5 hqo0
        obtain ⟨j, g3, A7, c7, A8, c8, ds2, hj, rfl, rfl, hpl⟩ := hrel
        obtain ⟨O, Oe, hpl, hkp, hqo⟩ := hpl.out
        have hbwr : Below w.heap.size w wr := hpl.bel
        by_cases hlt : j < M2
        · clear hup
          have hkw : j < l2.length := by rw [hM2.out]; exact hlt
          obtain ⟨ad, A9, c9, e, hlc9, hC9, P0, O0, sp, hak, p0, p1, p2, p3, p4, p5⟩ := act_at hC2.out j hkw
          subst e
          have htok := hok2.out l2[j] (List.getElem_mem hkw)
          have htb := hb1002.out l2[j] (List.getElem_mem hkw)
          obtain ⟨t, hx⟩ : ∃ t, l2[j] = t := ⟨_, rfl⟩
          rw [hx] at hlc9 hC9 p0 p1 p2 p3 p4 p5 htok htb
          clear hx hkw
          have hplD := hpl.drew
          have hkpD : Kept Q wr.drew g gold B12 A5 c5 A6 c6 ds := hkp.stays (Mod.drew (S := fun q => ¬ Q q) (Mod.refl _ _))
          have hbD : Below w.heap.size w wr.drew := hbwr.trans (below_drew (Below.refl _ _))
          have hdo := does_calls O (fun q => q = B7) Oe g3 _ ds2 (k + j) wr.drew t A9 c9 hplD.own (fun q hq => by subst hq; exact hpl.ob) hplD.ref hpl.oe hplD.bd hpl.upto (by omega) (by omega) (Kd.F_mono (F_came hC9 hbD) (fun q hq => hpl.lo q (by omega))) htok
          simp only [actV, refV] at hdo
          have hX : ∀ W, Stays O wr.drew W → W.cell? ⟨B7, 0, none⟩ = some (.slice A7 ds2.lasts.length c7) ∧ W.cell? ⟨B7, 1, none⟩ = some (.slice A8 ds2.waits.length c8) ∧ W.cell? ⟨B7, 2, none⟩ = some (.int .i64 ds2.armed) ∧ W.cell? ⟨B7, 3, none⟩ = some (.int .i64 ds2.limit) ∧ W.cell? ⟨B7, 4, none⟩ = some (.int .i64 ds2.done) ∧
              W.cell? ⟨P0, O0, sp⟩ = some (.int .i64 t.kind) ∧ W.cell? ⟨P0, O0 + 1, none⟩ = some (.int .i64 t.at_) ∧ W.cell? ⟨P0, O0 + 2, none⟩ = some (.int .i64 t.n) ∧ W.cell? ⟨P0, O0 + 3, none⟩ = some (.slice A9 t.b.length c9) ∧ W.cell? ⟨P0, O0 + 4, none⟩ = some (.int .i64 t.keep) ∧ W.cell? ⟨P0, O0 + 5, none⟩ = some (.int .i64 t.torn) := fun W hW => by
            have g9 := blk5 ((hW.blk (k := B7) hpl.ob (hplD.bd _ hpl.ob)).trans hplD.box)
            have h9 : Below w.heap.size w W := hbD.trans (hW.below (fun q hq => hpl.lo q (by omega)) (by have := hbD.size; omega))
            exact ⟨g9.1, g9.2.1, g9.2.2.1, g9.2.2.2.1, g9.2.2.2.2.1, pw_cell_below h9 p0, pw_cell_below h9 p1, pw_cell_below h9 p2, pw_cell_below h9 p3, pw_cell_below h9 p4, pw_cell_below h9 p5⟩
          have hn9 := htok.n.2
          replace hX := Aside0.mk hX
          replace hdo := Aside0.mk hdo
          replace hplD := Aside0.mk hplD
          replace hkp := Aside0.mk hkpD
          replace hqo := Aside0.mk hqo
          have i1 : (0 : Int) ≤ (j : Int) := by omega
          have i2 : (j : Int) < (M2 : Int) := by omega
          clear hpl hbwr hbD htok htb hC9 p0 p1 p2 p3 p4 p5
          go_wp2_with fail
          refine start_ (n := 13) (S := fun w' => w'.cell? ⟨B7, 0, none⟩ = some (.slice A7 ds2.lasts.length c7) ∧ w'.cell? ⟨B7, 1, none⟩ = some (.slice A8 ds2.waits.length c8) ∧ w'.cell? ⟨B7, 2, none⟩ = some (.int .i64 ds2.armed) ∧ w'.cell? ⟨B7, 3, none⟩ = some (.int .i64 ds2.limit) ∧ w'.cell? ⟨B7, 4, none⟩ = some (.int .i64 ds2.done) ∧ w'.cell? ⟨P0, O0, sp⟩ = some (.int .i64 t.kind) ∧ w'.cell? ⟨P0, O0 + 1, none⟩ = some (.int .i64 t.at_) ∧ w'.cell? ⟨P0, O0 + 2, none⟩ = some (.int .i64 t.n) ∧ w'.cell? ⟨P0, O0 + 3, none⟩ = some (.slice A9 t.b.length c9) ∧ w'.cell? ⟨P0, O0 + 4, none⟩ = some (.int .i64 t.keep) ∧ w'.cell? ⟨P0, O0 + 5, none⟩ = some (.int .i64 t.torn)) (ds := [12]) #[false, false, false, false, false, false, false, false, false, false, false, false, false] (by kernel_rfl) rfl rfl ⟨(hX.out _ (Stays.refl _ _)).1, (hX.out _ (Stays.refl _ _)).2.1, (hX.out _ (Stays.refl _ _)).2.2.1, (hX.out _ (Stays.refl _ _)).2.2.2.1, (hX.out _ (Stays.refl _ _)).2.2.2.2.1, (hX.out _ (Stays.refl _ _)).2.2.2.2.2.1, (hX.out _ (Stays.refl _ _)).2.2.2.2.2.2.1, (hX.out _ (Stays.refl _ _)).2.2.2.2.2.2.2.1, (hX.out _ (Stays.refl _ _)).2.2.2.2.2.2.2.2.1, (hX.out _ (Stays.refl _ _)).2.2.2.2.2.2.2.2.2.1, (hX.out _ (Stays.refl _ _)).2.2.2.2.2.2.2.2.2.2⟩ (fun hHeld => ?_)
          refine pure_ (i := 0) (N := some 77) (v := ?_) (a' := ?_) #[true, false, false, false, false, false, false, false, false, false, false, false, false] rfl rfl (by kernel_rfl) (fun _ _ _ h => h) (Or.inl ⟨by rfl, ?_⟩) ?_ ?_
          rotate_left
          · intro w'
            go_simp
            with_reducible rfl
          rotate_left
          · simp only [Act.put, List.setIfInBounds_toArray, List.set_cons_zero, List.set_cons_succ, i64_w, i32_w]
            rfl
          refine pure_ (i := 2) (N := some 79) (v := ?_) (a' := ?_) #[true, false, true, false, false, false, false, false, false, false, false, false, false] rfl rfl (by kernel_rfl) (fun _ _ _ h => h) (Or.inl ⟨by rfl, ?_⟩) ?_ ?_
          rotate_left
          · intro w'
            go_simp
            with_reducible rfl
          rotate_left
          · simp only [Act.put, List.setIfInBounds_toArray, List.set_cons_zero, List.set_cons_succ, i64_w, i32_w]
            rfl
          refine pure_ (i := 3) (N := some 80) (v := ?_) (a' := ?_) #[true, false, true, true, false, false, false, false, false, false, false, false, false] rfl rfl (by kernel_rfl) (fun _ _ _ h => h) (Or.inl ⟨by rfl, ?_⟩) ?_ ?_
          rotate_left
          · intro w'
            go_simp
            with_reducible rfl
          rotate_left
          · simp only [Act.put, List.setIfInBounds_toArray, List.set_cons_zero, List.set_cons_succ, i64_w, i32_w]
            rfl
          refine pure_ (i := 4) (N := some 81) (v := ?_) (a' := ?_) #[true, false, true, true, true, false, false, false, false, false, false, false, false] rfl rfl (by kernel_rfl) (fun _ _ _ h => h) (Or.inl ⟨by rfl, ?_⟩) ?_ ?_
          rotate_left
          · intro w'
            go_simp
            with_reducible rfl
          rotate_left
          · simp only [Act.put, List.setIfInBounds_toArray, List.set_cons_zero, List.set_cons_succ, i64_w, i32_w]
            rfl
          refine take_ (i := 1) (N := some 78) (v := ?_) (a' := ?_) #[true, true, true, true, true, false, false, false, false, false, false, false, false] rfl rfl (by kernel_rfl) (fun _ _ _ h => h) (Or.inl ⟨by rfl, ?_⟩) hHeld ?_ ?_
          rotate_left
          · rintro w' ⟨s0, s1, s2, s3, s4, s5, s6, s7, s8, s9, s10⟩
            go_simp
            with_reducible rfl
          rotate_left
          · simp only [Act.put, List.setIfInBounds_toArray, List.set_cons_zero, List.set_cons_succ, i64_w, i32_w]
            rfl
          refine take_ (i := 5) (N := some 82) (v := ?_) (a' := ?_) #[true, true, true, true, true, true, false, false, false, false, false, false, false] rfl rfl (by kernel_rfl) (fun _ _ _ h => h) (Or.inl ⟨by rfl, ?_⟩) hHeld ?_ ?_
          rotate_left
          · rintro w' ⟨s0, s1, s2, s3, s4, s5, s6, s7, s8, s9, s10⟩
            go_simp
            with_reducible rfl
          rotate_left
          · simp only [Act.put, List.setIfInBounds_toArray, List.set_cons_zero, List.set_cons_succ, i64_w, i32_w]
            rfl
          refine one_ (i := 6) (N := some 83) #[true, true, true, true, true, true, true, false, false, false, false, false, false] rfl rfl (by kernel_rfl) (by decide) (fun K hK => ?_)
          refine goes_ Try.func20 (by kernel_rfl) rfl #[.pointer (some ⟨g3, 0, none⟩), .agg #[.slice A7 ds2.lasts.length c7, .slice A8 ds2.waits.length c8, .int .i64 ds2.armed, .int .i64 ds2.limit, .int .i64 ds2.done], .agg #[.int .i64 t.kind, .int .i64 t.at_, .int .i64 t.n, .slice A9 t.b.length c9, .int .i64 t.keep, .int .i64 t.torn]] (by rfl) rfl rfl (by simp only [List.map_toArray, List.map_cons, List.map_nil]; rfl) ?_
          with_reducible refine (hdo.out).mono ?_
          rintro e w4 hp; obtain ⟨g5, A9', c9', A10, c10, O2, Oe2, rfl, hpl2, hkp2, hqo2, hs4, a7, b7, d7, e7, f7, hbx⟩ := hplD.out.goes2 hqo.out t hn9 (by omega) hkp.out hp
          refine ⟨_, rfl, ?_⟩
          simp only [refV]
          obtain ⟨e0, e1, e2, e3, e4, e5⟩ := blk5 hbx
          replace hpl2 := Aside0.mk hpl2
          replace hs4 := Aside0.mk hs4
          refine hK.out _ _ ⟨(hX.out _ hs4.out).1, (hX.out _ hs4.out).2.1, (hX.out _ hs4.out).2.2.1, (hX.out _ hs4.out).2.2.2.1, (hX.out _ hs4.out).2.2.2.2.1, (hX.out _ hs4.out).2.2.2.2.2.1, (hX.out _ hs4.out).2.2.2.2.2.2.1, (hX.out _ hs4.out).2.2.2.2.2.2.2.1, (hX.out _ hs4.out).2.2.2.2.2.2.2.2.1, (hX.out _ hs4.out).2.2.2.2.2.2.2.2.2.1, (hX.out _ hs4.out).2.2.2.2.2.2.2.2.2.2⟩ (fun hHeld => ?_)
          clear hK K
          refine norm_ (a' := ?_) ?_ ?_
          rotate_left
          · show Act.put _ (some 83) _ = _
            simp only [Act.put, List.setIfInBounds_toArray, List.set_cons_zero, List.set_cons_succ, i64_w, i32_w]
            rfl
          refine pure_ (i := 7) (N := some 76) (v := ?_) (a' := ?_) #[true, true, true, true, true, true, true, true, false, false, false, false, false] rfl rfl (by kernel_rfl) (fun _ _ _ h => h) (Or.inl ⟨by rfl, ?_⟩) ?_ ?_
          rotate_left
          · intro w'
            go_simp
            with_reducible rfl
          rotate_left
          · simp only [Act.put, List.setIfInBounds_toArray, List.set_cons_zero, List.set_cons_succ, i64_w, i32_w]
            rfl
          refine pure_ (i := 8) (N := some 84) (v := ?_) (a' := ?_) #[true, true, true, true, true, true, true, true, true, false, false, false, false] rfl rfl (by kernel_rfl) (fun _ _ _ h => h) (Or.inl ⟨by rfl, ?_⟩) ?_ ?_
          rotate_left
          · intro w'
            go_simp
            with_reducible rfl
          rotate_left
          · simp only [Act.put, List.setIfInBounds_toArray, List.set_cons_zero, List.set_cons_succ, i64_w, i32_w]
            rfl
          refine pure_ (i := 9) (N := some 85) (v := ?_) (a' := ?_) #[true, true, true, true, true, true, true, true, true, true, false, false, false] rfl rfl (by kernel_rfl) (fun _ _ _ h => h) (Or.inl ⟨by rfl, ?_⟩) ?_ ?_
          rotate_left
          · intro w'
            go_simp
            with_reducible rfl
          rotate_left
          · simp only [Act.put, List.setIfInBounds_toArray, List.set_cons_zero, List.set_cons_succ, i64_w, i32_w]
            rfl
          refine pure_ (i := 10) (N := some 86) (v := ?_) (a' := ?_) #[true, true, true, true, true, true, true, true, true, true, true, false, false] rfl rfl (by kernel_rfl) (fun _ _ _ h => h) (Or.inl ⟨by rfl, ?_⟩) ?_ ?_
          rotate_left
          · intro w'
            go_simp
            with_reducible rfl
          rotate_left
          · simp only [Act.put, List.setIfInBounds_toArray, List.set_cons_zero, List.set_cons_succ, i64_w, i32_w]
            rfl
          refine pure_ (i := 11) (N := some 14) (v := ?_) (a' := ?_) #[true, true, true, true, true, true, true, true, true, true, true, true, false] rfl rfl (by kernel_rfl) (fun _ _ _ h => h) (Or.inl ⟨by rfl, ?_⟩) ?_ ?_
          rotate_left
          · intro w'
            go_simp
            with_reducible rfl
          rotate_left
          · simp only [Act.put, List.setIfInBounds_toArray, List.set_cons_zero, List.set_cons_succ, i64_w, i32_w]
            rfl
          refine last_ (i := 12) (N := none) #[true, true, true, true, true, true, true, true, true, true, true, true, true] rfl rfl (by kernel_rfl) (by decide) (fun K hK => ?_)
          refine skip_ (w1 := ?_) (by rfl) rfl ?_ ?_
          rotate_left
          · go_simp
            rfl
          refine hK.out _ _ ?_
          clear hK K
          refine done_ (by kernel_rfl) ?_
          go_wp2_with fail
          go_roundw
          case rel => exact ⟨j + 1, g5, _, _, _, _, _, by omega, rfl, by go_num, ⟨_, _, hpl2.out, hkp2, hqo2⟩⟩
          case measure => simp [intOf]; omega
        · have hjM : j = M2 := by omega
          subst hjM
          obtain ⟨⟨S, RO, kd, _⟩, ⟨S2, RO2, ko, _⟩, ⟨Ow, kw, _⟩, kb, k12⟩ := hkp
          obtain ⟨S3, RO3, kc, _, _⟩ := hpl.own
          have hu2 := hpl.upto
          have z7 := hpl.bd _ hpl.ob
          have z12 := (Array.getElem?_eq_some_iff.1 kb).1
          have hkr := hpl.ref
          have hw1 : ds.waits.length ≤ 1000000 := by have := hup.out.waits; omega
          have hw2 : ds2.waits.length ≤ 1000000 := by have := hu2.waits; omega
          have f1 := fun (W : World) (hW : Below wr.heap.size wr W) => same_calls (fun _ => False) _ g _ ds W ⟨S, RO, kd.below hW, fun _ _ hn => hn⟩ (kw.below hW) hup.out.fine hup.out.std
          have f2 := fun (W : World) (hW : Below wr.heap.size wr W) => same_calls (fun _ => False) _ g3 _ ds2 W ⟨S3, RO3, kc.below hW, fun _ _ hn => hn⟩ (hkr.below hW) hu2.fine hu2.std
          have f3 := fun (W : World) (hW : Below wr.heap.size wr W) => same_disks S RO S2 RO2 g gold ds ds W (kd.below hW) (ko.below hW) hw1
          have f4 := fun (W : World) (hW : Below wr.heap.size wr W) => same_disks S RO S3 RO3 g g3 ds ds2 W (kd.below hW) (kc.below hW) hw1
          have f5 := fun (W : World) (hW : Below wr.heap.size wr W) => rsame_calls _ _ _ _ _ _ _ _ _ _ ds ds2 W (kw.below hW) (hkr.below hW) hup.out.std hu2.std hw1
          have f6 := fun (W : World) (hW : Below wr.heap.size wr W) => same_disks S3 RO3 S3 RO3 g3 g3 ds2 ds2 W (kc.below hW) (kc.below hW) hw2
          simp only [dsame_self] at f3 f6
          generalize DSame ds ds2 = bb at f4 f5
          simp only [refV] at f1 f2 f5
          have hX : ∀ W : World, Below wr.heap.size wr W → W.cell? ⟨B12, 0, none⟩ = some (.slice A5 ds.lasts.length c5) ∧ W.cell? ⟨B12, 1, none⟩ = some (.slice A6 ds.waits.length c6) ∧ W.cell? ⟨B12, 2, none⟩ = some (.int .i64 ds.armed) ∧ W.cell? ⟨B12, 3, none⟩ = some (.int .i64 ds.limit) ∧ W.cell? ⟨B12, 4, none⟩ = some (.int .i64 ds.done) ∧ W.cell? ⟨B7, 0, none⟩ = some (.slice A7 ds2.lasts.length c7) ∧ W.cell? ⟨B7, 1, none⟩ = some (.slice A8 ds2.waits.length c8) ∧ W.cell? ⟨B7, 2, none⟩ = some (.int .i64 ds2.armed) ∧ W.cell? ⟨B7, 3, none⟩ = some (.int .i64 ds2.limit) ∧ W.cell? ⟨B7, 4, none⟩ = some (.int .i64 ds2.done) := fun W hW => by
            have g9 := blk5 ((hW.block B12 z12).trans kb)
            have g8 := blk5 ((hW.block B7 z7).trans hpl.box)
            exact ⟨g9.1, g9.2.1, g9.2.2.1, g9.2.2.2.1, g9.2.2.2.2.1, g8.1, g8.2.1, g8.2.2.1, g8.2.2.2.1, g8.2.2.2.2.1⟩
          have hs0 : Below wr.heap.size wr wr.drew := below_drew (Below.refl _ _)
          replace hX := Aside0.mk hX
          replace f1 := Aside0.mk f1
          replace f2 := Aside0.mk f2
          replace f3 := Aside0.mk f3
          replace f4 := Aside0.mk f4
          replace f5 := Aside0.mk f5
          replace f6 := Aside0.mk f6
          replace hs0 := Aside0.mk hs0
          replace hbwr := Aside0.mk hbwr
          clear hpl hkr kd ko kw kb k12 kc hu2 z7 z12 hw1 hw2 hup hqo hC2 hok2 hM2 hb1002
          go_wp2_with fail
          refine start_ (n := 31) (S := fun w' => w'.cell? ⟨B12, 0, none⟩ = some (.slice A5 ds.lasts.length c5) ∧ w'.cell? ⟨B12, 1, none⟩ = some (.slice A6 ds.waits.length c6) ∧ w'.cell? ⟨B12, 2, none⟩ = some (.int .i64 ds.armed) ∧ w'.cell? ⟨B12, 3, none⟩ = some (.int .i64 ds.limit) ∧ w'.cell? ⟨B12, 4, none⟩ = some (.int .i64 ds.done) ∧ w'.cell? ⟨B7, 0, none⟩ = some (.slice A7 ds2.lasts.length c7) ∧ w'.cell? ⟨B7, 1, none⟩ = some (.slice A8 ds2.waits.length c8) ∧ w'.cell? ⟨B7, 2, none⟩ = some (.int .i64 ds2.armed) ∧ w'.cell? ⟨B7, 3, none⟩ = some (.int .i64 ds2.limit) ∧ w'.cell? ⟨B7, 4, none⟩ = some (.int .i64 ds2.done)) (ds := []) #[false, false, false, false, false, false, false, false, false, false, false, false, false, false, false, false, false, false, false, false, false, false, false, false, false, false, false, false, false, false, false] (by kernel_rfl) rfl rfl ⟨(hX.out _ hs0.out).1, (hX.out _ hs0.out).2.1, (hX.out _ hs0.out).2.2.1, (hX.out _ hs0.out).2.2.2.1, (hX.out _ hs0.out).2.2.2.2.1, (hX.out _ hs0.out).2.2.2.2.2.1, (hX.out _ hs0.out).2.2.2.2.2.2.1, (hX.out _ hs0.out).2.2.2.2.2.2.2.1, (hX.out _ hs0.out).2.2.2.2.2.2.2.2.1, (hX.out _ hs0.out).2.2.2.2.2.2.2.2.2⟩ (fun hHeld => ?_)
          refine pure_ (i := 0) (N := some 87) (v := ?_) (a' := ?_) #[true, false, false, false, false, false, false, false, false, false, false, false, false, false, false, false, false, false, false, false, false, false, false, false, false, false, false, false, false, false, false] rfl rfl (by kernel_rfl) (fun _ _ _ h => h) (Or.inl ⟨by rfl, ?_⟩) ?_ ?_
          rotate_left
          · intro w'
            go_simp
            with_reducible rfl
          rotate_left
          · simp only [Act.put, List.setIfInBounds_toArray, List.set_cons_zero, List.set_cons_succ, i64_w, i32_w]
            rfl
          refine take_ (i := 1) (N := some 88) (v := ?_) (a' := ?_) #[true, true, false, false, false, false, false, false, false, false, false, false, false, false, false, false, false, false, false, false, false, false, false, false, false, false, false, false, false, false, false] rfl rfl (by kernel_rfl) (fun _ _ _ h => h) (Or.inl ⟨by rfl, ?_⟩) hHeld ?_ ?_
          rotate_left
          · rintro w' ⟨s0, s1, s2, s3, s4, s5, s6, s7, s8, s9⟩
            go_simp
            with_reducible rfl
          rotate_left
          · simp only [Act.put, List.setIfInBounds_toArray, List.set_cons_zero, List.set_cons_succ, i64_w, i32_w]
            rfl
          refine one_ (i := 2) (N := some 89) #[true, true, true, false, false, false, false, false, false, false, false, false, false, false, false, false, false, false, false, false, false, false, false, false, false, false, false, false, false, false, false] rfl rfl (by kernel_rfl) (by decide) (fun K hK => ?_)
          refine goes_ Try.func21 (by kernel_rfl) rfl #[.pointer (some ⟨g, 0, none⟩), .agg #[.slice A5 ds.lasts.length c5, .slice A6 ds.waits.length c6, .int .i64 ds.armed, .int .i64 ds.limit, .int .i64 ds.done]] (by rfl) rfl rfl (by simp only [List.map_toArray, List.map_cons, List.map_nil]; rfl) ?_
          with_reducible refine (f1.out _ hs0.out).mono ?_
          rintro e v0 ⟨rfl, hv0⟩
          refine ⟨_, rfl, ?_⟩
          replace hv0 := Aside0.mk (below_then hs0.out hs0.out.size hv0)
          refine hK.out _ _ ⟨(hX.out _ hv0.out).1, (hX.out _ hv0.out).2.1, (hX.out _ hv0.out).2.2.1, (hX.out _ hv0.out).2.2.2.1, (hX.out _ hv0.out).2.2.2.2.1, (hX.out _ hv0.out).2.2.2.2.2.1, (hX.out _ hv0.out).2.2.2.2.2.2.1, (hX.out _ hv0.out).2.2.2.2.2.2.2.1, (hX.out _ hv0.out).2.2.2.2.2.2.2.2.1, (hX.out _ hv0.out).2.2.2.2.2.2.2.2.2⟩ (fun hHeld => ?_)
          clear hK K
          refine norm_ (a' := ?_) ?_ ?_
          rotate_left
          · show Act.put _ (some 89) _ = _
            simp only [Act.put, List.setIfInBounds_toArray, List.set_cons_zero, List.set_cons_succ, i64_w, i32_w]
            rfl
          refine pure_ (i := 3) (N := some 90) (v := ?_) (a' := ?_) #[true, true, true, true, false, false, false, false, false, false, false, false, false, false, false, false, false, false, false, false, false, false, false, false, false, false, false, false, false, false, false] rfl rfl (by kernel_rfl) (fun _ _ _ h => h) (Or.inl ⟨by rfl, ?_⟩) ?_ ?_
          rotate_left
          · intro w'
            go_simp
            with_reducible rfl
          rotate_left
          · simp only [Act.put, List.setIfInBounds_toArray, List.set_cons_zero, List.set_cons_succ, i64_w, i32_w]
            rfl
          refine pure_ (i := 4) (N := some 91) (v := ?_) (a' := ?_) #[true, true, true, true, true, false, false, false, false, false, false, false, false, false, false, false, false, false, false, false, false, false, false, false, false, false, false, false, false, false, false] rfl rfl (by kernel_rfl) (fun _ _ _ h => h) (Or.inl ⟨by rfl, ?_⟩) ?_ ?_
          rotate_left
          · intro w'
            go_simp
            with_reducible rfl
          rotate_left
          · simp only [Act.put, List.setIfInBounds_toArray, List.set_cons_zero, List.set_cons_succ, i64_w, i32_w]
            rfl
          refine take_ (i := 5) (N := some 92) (v := ?_) (a' := ?_) #[true, true, true, true, true, true, false, false, false, false, false, false, false, false, false, false, false, false, false, false, false, false, false, false, false, false, false, false, false, false, false] rfl rfl (by kernel_rfl) (fun _ _ _ h => h) (Or.inl ⟨by rfl, ?_⟩) hHeld ?_ ?_
          rotate_left
          · rintro w' ⟨s0, s1, s2, s3, s4, s5, s6, s7, s8, s9⟩
            go_simp
            with_reducible rfl
          rotate_left
          · simp only [Act.put, List.setIfInBounds_toArray, List.set_cons_zero, List.set_cons_succ, i64_w, i32_w]
            rfl
          refine one_ (i := 6) (N := some 93) #[true, true, true, true, true, true, true, false, false, false, false, false, false, false, false, false, false, false, false, false, false, false, false, false, false, false, false, false, false, false, false] rfl rfl (by kernel_rfl) (by decide) (fun K hK => ?_)
          refine goes_ Try.func21 (by kernel_rfl) rfl #[.pointer (some ⟨g3, 0, none⟩), .agg #[.slice A7 ds2.lasts.length c7, .slice A8 ds2.waits.length c8, .int .i64 ds2.armed, .int .i64 ds2.limit, .int .i64 ds2.done]] (by rfl) rfl rfl (by simp only [List.map_toArray, List.map_cons, List.map_nil]; rfl) ?_
          with_reducible refine (f2.out _ hv0.out).mono ?_
          rintro e v1 ⟨rfl, hv1⟩
          refine ⟨_, rfl, ?_⟩
          replace hv1 := Aside0.mk (below_then hv0.out hv0.out.size hv1)
          refine hK.out _ _ ⟨(hX.out _ hv1.out).1, (hX.out _ hv1.out).2.1, (hX.out _ hv1.out).2.2.1, (hX.out _ hv1.out).2.2.2.1, (hX.out _ hv1.out).2.2.2.2.1, (hX.out _ hv1.out).2.2.2.2.2.1, (hX.out _ hv1.out).2.2.2.2.2.2.1, (hX.out _ hv1.out).2.2.2.2.2.2.2.1, (hX.out _ hv1.out).2.2.2.2.2.2.2.2.1, (hX.out _ hv1.out).2.2.2.2.2.2.2.2.2⟩ (fun hHeld => ?_)
          clear hK K
          refine norm_ (a' := ?_) ?_ ?_
          rotate_left
          · show Act.put _ (some 93) _ = _
            simp only [Act.put, List.setIfInBounds_toArray, List.set_cons_zero, List.set_cons_succ, i64_w, i32_w]
            rfl
          refine pure_ (i := 7) (N := some 94) (v := ?_) (a' := ?_) #[true, true, true, true, true, true, true, true, false, false, false, false, false, false, false, false, false, false, false, false, false, false, false, false, false, false, false, false, false, false, false] rfl rfl (by kernel_rfl) (fun _ _ _ h => h) (Or.inl ⟨by rfl, ?_⟩) ?_ ?_
          rotate_left
          · intro w'
            go_simp
            with_reducible rfl
          rotate_left
          · simp only [Act.put, List.setIfInBounds_toArray, List.set_cons_zero, List.set_cons_succ, i64_w, i32_w]
            rfl
          refine pure_ (i := 8) (N := some 95) (v := ?_) (a' := ?_) #[true, true, true, true, true, true, true, true, true, false, false, false, false, false, false, false, false, false, false, false, false, false, false, false, false, false, false, false, false, false, false] rfl rfl (by kernel_rfl) (fun _ _ _ h => h) (Or.inl ⟨by rfl, ?_⟩) ?_ ?_
          rotate_left
          · intro w'
            go_simp
            with_reducible rfl
          rotate_left
          · simp only [Act.put, List.setIfInBounds_toArray, List.set_cons_zero, List.set_cons_succ, i64_w, i32_w]
            rfl
          refine pure_ (i := 9) (N := some 96) (v := ?_) (a' := ?_) #[true, true, true, true, true, true, true, true, true, true, false, false, false, false, false, false, false, false, false, false, false, false, false, false, false, false, false, false, false, false, false] rfl rfl (by kernel_rfl) (fun _ _ _ h => h) (Or.inl ⟨by rfl, ?_⟩) ?_ ?_
          rotate_left
          · intro w'
            go_simp
            with_reducible rfl
          rotate_left
          · simp only [Act.put, List.setIfInBounds_toArray, List.set_cons_zero, List.set_cons_succ, i64_w, i32_w]
            rfl
          refine pure_ (i := 10) (N := some 97) (v := ?_) (a' := ?_) #[true, true, true, true, true, true, true, true, true, true, true, false, false, false, false, false, false, false, false, false, false, false, false, false, false, false, false, false, false, false, false] rfl rfl (by kernel_rfl) (fun _ _ _ h => h) (Or.inl ⟨by rfl, ?_⟩) ?_ ?_
          rotate_left
          · intro w'
            go_simp
            with_reducible rfl
          rotate_left
          · simp only [Act.put, List.setIfInBounds_toArray, List.set_cons_zero, List.set_cons_succ, i64_w, i32_w]
            rfl
          refine one_ (i := 11) (N := some 98) #[true, true, true, true, true, true, true, true, true, true, true, true, false, false, false, false, false, false, false, false, false, false, false, false, false, false, false, false, false, false, false] rfl rfl (by kernel_rfl) (by decide) (fun K hK => ?_)
          refine goes_ Try.func24 (by kernel_rfl) rfl #[.pointer (some ⟨g, 0, none⟩), .pointer (some ⟨gold, 0, none⟩)] (by rfl) rfl rfl (by simp only [List.map_toArray, List.map_cons, List.map_nil]; rfl) ?_
          with_reducible refine (f3.out _ hv1.out).mono ?_
          rintro e v2 ⟨rfl, hv2⟩
          refine ⟨_, rfl, ?_⟩
          replace hv2 := Aside0.mk (below_then hv1.out hv1.out.size hv2)
          refine hK.out _ _ ⟨(hX.out _ hv2.out).1, (hX.out _ hv2.out).2.1, (hX.out _ hv2.out).2.2.1, (hX.out _ hv2.out).2.2.2.1, (hX.out _ hv2.out).2.2.2.2.1, (hX.out _ hv2.out).2.2.2.2.2.1, (hX.out _ hv2.out).2.2.2.2.2.2.1, (hX.out _ hv2.out).2.2.2.2.2.2.2.1, (hX.out _ hv2.out).2.2.2.2.2.2.2.2.1, (hX.out _ hv2.out).2.2.2.2.2.2.2.2.2⟩ (fun hHeld => ?_)
          clear hK K
          refine norm_ (a' := ?_) ?_ ?_
          rotate_left
          · show Act.put _ (some 98) _ = _
            simp only [Act.put, List.setIfInBounds_toArray, List.set_cons_zero, List.set_cons_succ, i64_w, i32_w]
            rfl
          refine pure_ (i := 12) (N := some 99) (v := ?_) (a' := ?_) #[true, true, true, true, true, true, true, true, true, true, true, true, true, false, false, false, false, false, false, false, false, false, false, false, false, false, false, false, false, false, false] rfl rfl (by kernel_rfl) (fun _ _ _ h => h) (Or.inl ⟨by rfl, ?_⟩) ?_ ?_
          rotate_left
          · intro w'
            go_simp
            with_reducible rfl
          rotate_left
          · simp only [Act.put, List.setIfInBounds_toArray, List.set_cons_zero, List.set_cons_succ, i64_w, i32_w]
            rfl
          refine pure_ (i := 13) (N := some 100) (v := ?_) (a' := ?_) #[true, true, true, true, true, true, true, true, true, true, true, true, true, true, false, false, false, false, false, false, false, false, false, false, false, false, false, false, false, false, false] rfl rfl (by kernel_rfl) (fun _ _ _ h => h) (Or.inl ⟨by rfl, ?_⟩) ?_ ?_
          rotate_left
          · intro w'
            go_simp
            with_reducible rfl
          rotate_left
          · simp only [Act.put, List.setIfInBounds_toArray, List.set_cons_zero, List.set_cons_succ, i64_w, i32_w]
            rfl
          refine pure_ (i := 14) (N := some 101) (v := ?_) (a' := ?_) #[true, true, true, true, true, true, true, true, true, true, true, true, true, true, true, false, false, false, false, false, false, false, false, false, false, false, false, false, false, false, false] rfl rfl (by kernel_rfl) (fun _ _ _ h => h) (Or.inl ⟨by rfl, ?_⟩) ?_ ?_
          rotate_left
          · intro w'
            go_simp
            with_reducible rfl
          rotate_left
          · simp only [Act.put, List.setIfInBounds_toArray, List.set_cons_zero, List.set_cons_succ, i64_w, i32_w]
            rfl
          refine pure_ (i := 15) (N := some 102) (v := ?_) (a' := ?_) #[true, true, true, true, true, true, true, true, true, true, true, true, true, true, true, true, false, false, false, false, false, false, false, false, false, false, false, false, false, false, false] rfl rfl (by kernel_rfl) (fun _ _ _ h => h) (Or.inl ⟨by rfl, ?_⟩) ?_ ?_
          rotate_left
          · intro w'
            go_simp
            with_reducible rfl
          rotate_left
          · simp only [Act.put, List.setIfInBounds_toArray, List.set_cons_zero, List.set_cons_succ, i64_w, i32_w]
            rfl
          refine take_ (i := 17) (N := some 104) (v := ?_) (a' := ?_) #[true, true, true, true, true, true, true, true, true, true, true, true, true, true, true, true, false, true, false, false, false, false, false, false, false, false, false, false, false, false, false] rfl rfl (by kernel_rfl) (fun _ _ _ h => h) (Or.inl ⟨by rfl, ?_⟩) hHeld ?_ ?_
          rotate_left
          · rintro w' ⟨s0, s1, s2, s3, s4, s5, s6, s7, s8, s9⟩
            go_simp
            with_reducible rfl
          rotate_left
          · simp only [Act.put, List.setIfInBounds_toArray, List.set_cons_zero, List.set_cons_succ, i64_w, i32_w]
            rfl
          refine take_ (i := 18) (N := some 105) (v := ?_) (a' := ?_) #[true, true, true, true, true, true, true, true, true, true, true, true, true, true, true, true, false, true, true, false, false, false, false, false, false, false, false, false, false, false, false] rfl rfl (by kernel_rfl) (fun _ _ _ h => h) (Or.inl ⟨by rfl, ?_⟩) hHeld ?_ ?_
          rotate_left
          · rintro w' ⟨s0, s1, s2, s3, s4, s5, s6, s7, s8, s9⟩
            go_simp
            with_reducible rfl
          rotate_left
          · simp only [Act.put, List.setIfInBounds_toArray, List.set_cons_zero, List.set_cons_succ, i64_w, i32_w]
            rfl
          refine one_ (i := 16) (N := some 103) #[true, true, true, true, true, true, true, true, true, true, true, true, true, true, true, true, true, true, true, false, false, false, false, false, false, false, false, false, false, false, false] rfl rfl (by kernel_rfl) (by decide) (fun K hK => ?_)
          refine goes_ Try.func24 (by kernel_rfl) rfl #[.pointer (some ⟨g, 0, none⟩), .pointer (some ⟨g3, 0, none⟩)] (by rfl) rfl rfl (by simp only [List.map_toArray, List.map_cons, List.map_nil]; rfl) ?_
          with_reducible refine (f4.out _ hv2.out).mono ?_
          rintro e v3 ⟨rfl, hv3⟩
          refine ⟨_, rfl, ?_⟩
          replace hv3 := Aside0.mk (below_then hv2.out hv2.out.size hv3)
          refine hK.out _ _ ⟨(hX.out _ hv3.out).1, (hX.out _ hv3.out).2.1, (hX.out _ hv3.out).2.2.1, (hX.out _ hv3.out).2.2.2.1, (hX.out _ hv3.out).2.2.2.2.1, (hX.out _ hv3.out).2.2.2.2.2.1, (hX.out _ hv3.out).2.2.2.2.2.2.1, (hX.out _ hv3.out).2.2.2.2.2.2.2.1, (hX.out _ hv3.out).2.2.2.2.2.2.2.2.1, (hX.out _ hv3.out).2.2.2.2.2.2.2.2.2⟩ (fun hHeld => ?_)
          clear hK K
          refine norm_ (a' := ?_) ?_ ?_
          rotate_left
          · show Act.put _ (some 103) _ = _
            simp only [Act.put, List.setIfInBounds_toArray, List.set_cons_zero, List.set_cons_succ, i64_w, i32_w]
            rfl
          refine one_ (i := 19) (N := some 106) #[true, true, true, true, true, true, true, true, true, true, true, true, true, true, true, true, true, true, true, true, false, false, false, false, false, false, false, false, false, false, false] rfl rfl (by kernel_rfl) (by decide) (fun K hK => ?_)
          refine goes_ Try.func25 (by kernel_rfl) rfl #[.agg #[.slice A5 ds.lasts.length c5, .slice A6 ds.waits.length c6, .int .i64 ds.armed, .int .i64 ds.limit, .int .i64 ds.done], .agg #[.slice A7 ds2.lasts.length c7, .slice A8 ds2.waits.length c8, .int .i64 ds2.armed, .int .i64 ds2.limit, .int .i64 ds2.done]] (by rfl) rfl rfl (by simp only [List.map_toArray, List.map_cons, List.map_nil]; rfl) ?_
          with_reducible refine (f5.out _ hv3.out).mono ?_
          rintro e v4 ⟨rfl, hv4⟩
          refine ⟨_, rfl, ?_⟩
          replace hv4 := Aside0.mk (below_then hv3.out hv3.out.size hv4)
          refine hK.out _ _ ⟨(hX.out _ hv4.out).1, (hX.out _ hv4.out).2.1, (hX.out _ hv4.out).2.2.1, (hX.out _ hv4.out).2.2.2.1, (hX.out _ hv4.out).2.2.2.2.1, (hX.out _ hv4.out).2.2.2.2.2.1, (hX.out _ hv4.out).2.2.2.2.2.2.1, (hX.out _ hv4.out).2.2.2.2.2.2.2.1, (hX.out _ hv4.out).2.2.2.2.2.2.2.2.1, (hX.out _ hv4.out).2.2.2.2.2.2.2.2.2⟩ (fun hHeld => ?_)
          clear hK K
          refine norm_ (a' := ?_) ?_ ?_
          rotate_left
          · show Act.put _ (some 106) _ = _
            simp only [Act.put, List.setIfInBounds_toArray, List.set_cons_zero, List.set_cons_succ, i64_w, i32_w]
            rfl
          refine pure_ (i := 20) (N := some 107) (v := ?_) (a' := ?_) #[true, true, true, true, true, true, true, true, true, true, true, true, true, true, true, true, true, true, true, true, true, false, false, false, false, false, false, false, false, false, false] rfl rfl (by kernel_rfl) (fun _ _ _ h => h) (Or.inl ⟨by rfl, ?_⟩) ?_ ?_
          rotate_left
          · intro w'
            go_simp
            with_reducible rfl
          rotate_left
          · simp only [Act.put, List.setIfInBounds_toArray, List.set_cons_zero, List.set_cons_succ, i64_w, i32_w]
            rfl
          refine pure_ (i := 21) (N := some 108) (v := ?_) (a' := ?_) #[true, true, true, true, true, true, true, true, true, true, true, true, true, true, true, true, true, true, true, true, true, true, false, false, false, false, false, false, false, false, false] rfl rfl (by kernel_rfl) (fun _ _ _ h => h) (Or.inl ⟨by rfl, ?_⟩) ?_ ?_
          rotate_left
          · intro w'
            go_simp
            with_reducible rfl
          rotate_left
          · simp only [Act.put, List.setIfInBounds_toArray, List.set_cons_zero, List.set_cons_succ, i64_w, i32_w]
            rfl
          refine pure_ (i := 22) (N := some 109) (v := ?_) (a' := ?_) #[true, true, true, true, true, true, true, true, true, true, true, true, true, true, true, true, true, true, true, true, true, true, true, false, false, false, false, false, false, false, false] rfl rfl (by kernel_rfl) (fun _ _ _ h => h) (Or.inl ⟨by rfl, ?_⟩) ?_ ?_
          rotate_left
          · intro w'
            go_simp
            with_reducible rfl
          rotate_left
          · simp only [Act.put, List.setIfInBounds_toArray, List.set_cons_zero, List.set_cons_succ, i64_w, i32_w]
            rfl
          refine pure_ (i := 23) (N := some 110) (v := ?_) (a' := ?_) #[true, true, true, true, true, true, true, true, true, true, true, true, true, true, true, true, true, true, true, true, true, true, true, true, false, false, false, false, false, false, false] rfl rfl (by kernel_rfl) (fun _ _ _ h => h) (Or.inl ⟨by rfl, ?_⟩) ?_ ?_
          rotate_left
          · intro w'
            go_simp
            with_reducible rfl
          rotate_left
          · simp only [Act.put, List.setIfInBounds_toArray, List.set_cons_zero, List.set_cons_succ, i64_w, i32_w]
            rfl
          refine pure_ (i := 24) (N := some 111) (v := ?_) (a' := ?_) #[true, true, true, true, true, true, true, true, true, true, true, true, true, true, true, true, true, true, true, true, true, true, true, true, true, false, false, false, false, false, false] rfl rfl (by kernel_rfl) (fun _ _ _ h => h) (Or.inl ⟨by rfl, ?_⟩) ?_ ?_
          rotate_left
          · intro w'
            go_simp
            with_reducible rfl
          rotate_left
          · simp only [Act.put, List.setIfInBounds_toArray, List.set_cons_zero, List.set_cons_succ, i64_w, i32_w]
            rfl
          refine one_ (i := 25) (N := some 112) #[true, true, true, true, true, true, true, true, true, true, true, true, true, true, true, true, true, true, true, true, true, true, true, true, true, true, false, false, false, false, false] rfl rfl (by kernel_rfl) (by decide) (fun K hK => ?_)
          refine goes_ Try.func24 (by kernel_rfl) rfl #[.pointer (some ⟨g3, 0, none⟩), .pointer (some ⟨g3, 0, none⟩)] (by rfl) rfl rfl (by simp only [List.map_toArray, List.map_cons, List.map_nil]; rfl) ?_
          with_reducible refine (f6.out _ hv4.out).mono ?_
          rintro e v5 ⟨rfl, hv5⟩
          refine ⟨_, rfl, ?_⟩
          replace hv5 := Aside0.mk (below_then hv4.out hv4.out.size hv5)
          refine hK.out _ _ ⟨(hX.out _ hv5.out).1, (hX.out _ hv5.out).2.1, (hX.out _ hv5.out).2.2.1, (hX.out _ hv5.out).2.2.2.1, (hX.out _ hv5.out).2.2.2.2.1, (hX.out _ hv5.out).2.2.2.2.2.1, (hX.out _ hv5.out).2.2.2.2.2.2.1, (hX.out _ hv5.out).2.2.2.2.2.2.2.1, (hX.out _ hv5.out).2.2.2.2.2.2.2.2.1, (hX.out _ hv5.out).2.2.2.2.2.2.2.2.2⟩ (fun hHeld => ?_)
          clear hK K
          refine norm_ (a' := ?_) ?_ ?_
          rotate_left
          · show Act.put _ (some 112) _ = _
            simp only [Act.put, List.setIfInBounds_toArray, List.set_cons_zero, List.set_cons_succ, i64_w, i32_w]
            rfl
          refine pure_ (i := 26) (N := some 113) (v := ?_) (a' := ?_) #[true, true, true, true, true, true, true, true, true, true, true, true, true, true, true, true, true, true, true, true, true, true, true, true, true, true, true, false, false, false, false] rfl rfl (by kernel_rfl) (fun _ _ _ h => h) (Or.inl ⟨by rfl, ?_⟩) ?_ ?_
          rotate_left
          · intro w'
            go_simp
            with_reducible rfl
          rotate_left
          · simp only [Act.put, List.setIfInBounds_toArray, List.set_cons_zero, List.set_cons_succ, i64_w, i32_w]
            rfl
          refine pure_ (i := 27) (N := some 114) (v := ?_) (a' := ?_) #[true, true, true, true, true, true, true, true, true, true, true, true, true, true, true, true, true, true, true, true, true, true, true, true, true, true, true, true, false, false, false] rfl rfl (by kernel_rfl) (fun _ _ _ h => h) (Or.inl ⟨by rfl, ?_⟩) ?_ ?_
          rotate_left
          · intro w'
            go_simp
            with_reducible rfl
          rotate_left
          · simp only [Act.put, List.setIfInBounds_toArray, List.set_cons_zero, List.set_cons_succ, i64_w, i32_w]
            rfl
          refine one_ (i := 28) (N := some 115) #[true, true, true, true, true, true, true, true, true, true, true, true, true, true, true, true, true, true, true, true, true, true, true, true, true, true, true, true, true, false, false] rfl rfl (by kernel_rfl) (by decide) (fun K hK => ?_)
          refine goes_ Try.func10 (by kernel_rfl) rfl #[] (by rfl) rfl rfl (by simp only [List.map_toArray, List.map_nil]) ?_
          with_reducible refine (known_calls _).mono ?_
          rintro e v6 ⟨rfl, hv6⟩
          refine ⟨_, rfl, ?_⟩
          replace hv6 := Aside0.mk (below_then hv5.out hv5.out.size hv6)
          refine hK.out _ _ ⟨(hX.out _ hv6.out).1, (hX.out _ hv6.out).2.1, (hX.out _ hv6.out).2.2.1, (hX.out _ hv6.out).2.2.2.1, (hX.out _ hv6.out).2.2.2.2.1, (hX.out _ hv6.out).2.2.2.2.2.1, (hX.out _ hv6.out).2.2.2.2.2.2.1, (hX.out _ hv6.out).2.2.2.2.2.2.2.1, (hX.out _ hv6.out).2.2.2.2.2.2.2.2.1, (hX.out _ hv6.out).2.2.2.2.2.2.2.2.2⟩ (fun hHeld => ?_)
          clear hK K
          refine norm_ (a' := ?_) ?_ ?_
          rotate_left
          · show Act.put _ (some 115) _ = _
            simp only [Act.put, List.setIfInBounds_toArray, List.set_cons_zero, List.set_cons_succ, i64_w, i32_w]
            rfl
          refine pure_ (i := 29) (N := some 116) (v := ?_) (a' := ?_) #[true, true, true, true, true, true, true, true, true, true, true, true, true, true, true, true, true, true, true, true, true, true, true, true, true, true, true, true, true, true, false] rfl rfl (by kernel_rfl) (fun _ _ _ h => h) (Or.inl ⟨by rfl, ?_⟩) ?_ ?_
          rotate_left
          · intro w'
            go_simp
            with_reducible rfl
          rotate_left
          · simp only [Act.put, List.setIfInBounds_toArray, List.set_cons_zero, List.set_cons_succ, i64_w, i32_w]
            rfl
          refine pure_ (i := 30) (N := some 6) (v := ?_) (a' := ?_) #[true, true, true, true, true, true, true, true, true, true, true, true, true, true, true, true, true, true, true, true, true, true, true, true, true, true, true, true, true, true, true] rfl rfl (by kernel_rfl) (fun _ _ _ h => h) (Or.inl ⟨by rfl, ?_⟩) ?_ ?_
          rotate_left
          · intro w'
            go_simp
            with_reducible rfl
          rotate_left
          · simp only [Act.put, List.setIfInBounds_toArray, List.set_cons_zero, List.set_cons_succ, i64_w, i32_w]
            rfl
          refine done_ (by kernel_rfl) ?_
          all_goals go_wp2_with fail
          all_goals (
            go_ret
            exact ⟨rfl, below_then hbwr.out hbwr.out.size hv6.out⟩)
end Go.Proofs.Ytolighikimpbfaa
