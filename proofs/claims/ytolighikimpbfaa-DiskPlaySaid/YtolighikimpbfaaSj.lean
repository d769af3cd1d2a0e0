/- DiskPlay, walked. -/
import Derived.Test.YtolighikimpbfaaSh
set_option linter.unusedVariables false
set_option linter.unusedSimpArgs false
namespace Go.Proofs.Ytolighikimpbfaa
open Go.RowKit Go.Shelf Go.Proofs.YtolighikimpbfaaW.PrintWords Go.Proofs.YtolighikimpbfaaW.PrintMore Go.Proofs.YtolighikimpbfaaW.PrintLast

/-- The same by its parts. -/
theorem PL.makes2 {w0 wr w w' : World} {B m g g2 B7 k : Nat} {A A2 A5 A6 : Option Addr} {c c2 c5 c6 : Nat} {ds : DS} {O Oe O' Oe' : Nat → Prop} (h : PL w0 B m wr g B7 k A c A2 c2 ds O Oe) (x : Act) (hx : x.n ≤ 9223372036854775807) (hk : k < 1000000)
    (h1 : Own2 O' (fun q => q = B7) w g2 (ds.does x)) (h2 : Ref w Oe' (.agg (refV A5 c5 A6 c6 (ds.does x))) (ds.does x)) (h3 : ∀ q, O q → O' q) (h4 : ∀ q, O' q → q < w.heap.size) (h5 : ∀ q, Oe' q → O' q ∧ ¬ q = B7) (h6 : Stays O wr w)
    {a b d e f : Value} (hb : Below w.heap.size w w') (hA : w'.heap[w.heap.size]? = some (.cells #[a, b, d, e, f] 45 (0, 0))) : (∃ O2 Oe2, PM w0 B m w' g2 B7 w.heap.size (k + 1) A5 c5 A6 c6 (ds.does x) O2 Oe2) ∧ Stays O wr w' := by
  have hlt := h.bd _ h.ob
  have hz := (Array.getElem?_eq_some_iff.1 hA).1
  have h7 : w.heap[B7]? = wr.heap[B7]? := h6.blk h.ob hlt
  have h7' := h4 _ (h3 _ h.ob)
  have hst : Stays O wr w' := h6.trans (Stays.of_below (O := O) hb) (fun q hq => hq)
  refine ⟨⟨fun q => O' q ∨ (w.heap.size ≤ q ∧ q < w'.heap.size), Oe', (h1.fresh hb).weaken (fun q hq => hq.imp id (fun h => h.1)) (fun q hq => hq.imp id (fun h => by omega)), h2.below hb, ⟨_, _, _, _, _, (hb.block _ h7').trans (h7.trans h.box)⟩, ⟨_, _, _, _, _, hA⟩, fun q hq => ⟨.inl (h5 q hq).1, (h5 q hq).2, fun e => ?_⟩, .inl (h3 _ h.ob), .inr ⟨Nat.le_refl _, hz⟩, ?_, fun q hq => .inl (h3 _ (h.lo q hq)), ?_, h.hB, ?_, h.hw, ?_, upto_does h.upto hk x hx, ?_⟩, hst⟩
  · have := h4 q (h5 q hq).1; omega
  · omega
  · rintro q (hq | hq)
    · exact Nat.lt_of_lt_of_le (h4 q hq) hb.size
    · exact hq.2
  · have := h.bel.size; have := h.hw; have := h6.size; omega
  · exact h.bel.trans (hst.below h.lo (by have := h.bel.size; have := h.hw; omega))
  · rw [does_length h.upto.fine, h.len]
set_option maxRecDepth 20000 in
set_option maxHeartbeats 4000000 in
theorem diskPlay_few (size : Int) (A : Option Addr) (c : Nat) (l : List Act) (w : World) (hC : ak.C w A l.length (encAs l)) (hlc : l.length ≤ c) (hno : decide (Few size l) = false) :
    Calls Try.prog 4 #[.int .i64 size, .slice A l.length c] w fun e w' => e = .returned (.bool true) ∧ Below w.heap.size w w' := by
  have hf := few_calls size A c l _ hC hlc
  rw [hno] at hf
  have hf := Aside0.mk hf
  have hk := Aside0.mk (known_calls w)
  clear hC hlc
  generalize l.length = M at *
  go_enter Try.func4, Try.ntmps4
  go_wp2_with (first | (go_at_call 9; refine hf.out.mono ?_; rintro e w' ⟨rfl, rfl⟩) | (go_at_call 10; refine hk.out.mono ?_; rintro e w' ⟨rfl, hb2⟩; replace hb2 := Aside0.mk hb2))
  go_ret
  exact ⟨rfl, hb2.out⟩
set_option maxRecDepth 20000 in
set_option maxHeartbeats 4000000 in
theorem diskPlay_none (size : Int) (A : Option Addr) (c : Nat) (l : List Act) (w : World) (hC : ak.C w A l.length (encAs l)) (hlc : l.length ≤ c) (hyes : decide (Few size l) = true) (hs : size < 1) :
    Calls Try.prog 4 #[.int .i64 size, .slice A l.length c] w fun e w' => e = .returned (.bool true) ∧ Below w.heap.size w w' := by
  have hf := few_calls size A c l _ hC hlc
  rw [hyes] at hf
  have hf := Aside0.mk hf
  have hn := Aside0.mk (new_no size (.inl hs) w)
  have hr := Aside0.mk (rnew_none size hs w)
  clear hC hlc hs
  generalize l.length = M at *
  go_enter Try.func4, Try.ntmps4
  go_wp2_with (first | (go_at_call 9; refine hf.out.mono ?_; rintro e w' ⟨rfl, rfl⟩) | (go_at_call 11; refine hn.out.mono ?_; rintro e w' ⟨rfl, rfl⟩) | (go_at_call 19; refine hr.out.mono ?_; rintro e w1 ⟨rfl, hb1⟩; replace hb1 := Aside0.mk hb1) | (go_at_call 10; refine (known_calls _).mono ?_; rintro e w2 ⟨rfl, hb2⟩; replace hb2 := Aside0.mk hb2))
  go_ret
  have h9 := below_alloc hb1.out (.cells #[.slice none 0 0, .slice none 0 0, .int .i64 0, .int .i64 0, .int .i64 0] 45)
  exact ⟨rfl, below_then h9 h9.size hb2.out⟩
set_option maxRecDepth 20000 in
set_option maxHeartbeats 4000000 in
theorem diskPlay_go (m : Nat) (A : Option Addr) (c : Nat) (l : List Act) (w : World) (hC : ak.C w A l.length (encAs l)) (hlc : l.length ≤ c) (hyes : decide (Few (m : Int) l) = true) (hm : 1 ≤ m)
    (hok : ∀ a ∈ l, a.Ok) :
    Calls Try.prog 4 #[.int .i64 (m : Int), .slice A l.length c] w fun e w' => e = .returned (.bool true) ∧ Below w.heap.size w w' := by
  have hf := few_calls m A c l w hC hlc
  rw [hyes] at hf
  have hfew := of_decide_eq_true hyes
  have hm3 : m ≤ 300 := by have := hfew.1; omega
  have hM40 := hfew.2.1
  have hb100 := Aside0.mk hfew.2.2
  have hn := new_own m hm (by omega) w
  obtain ⟨M, hM⟩ : ∃ M, l.length = M := ⟨_, rfl⟩
  rw [hM] at hf hM40 hlc ⊢
  replace hC := Aside0.mk hC
  replace hf := Aside0.mk hf
  replace hok := Aside0.mk hok
  replace hn := Aside0.mk hn
  replace hM := Aside0.mk hM
  go_enter Try.func4, Try.ntmps4
  go_wp2_with (go_at_call 9; refine hf.out.mono ?_; rintro e w' ⟨rfl, rfl⟩)
  refine hn.out.mono ?_
  rintro e w1 ⟨g0, rfl, ho1, hb1⟩
  have hrn := Aside0.mk (rnew_yes m hm (by omega) w1)
  replace ho1 := Aside0.mk ho1
  replace hb1 := Aside0.mk hb1
  clear hf hn
  go_wp2_with fail
  refine hrn.out.mono ?_
  rintro e w2 ⟨u, rfl, hu2, hb2⟩
  obtain ⟨A3, c3, A4, c4, rfl⟩ := hu2.form
  have hb3 := below_alloc (Below.refl w2.heap.size w2) (.cells (refV A3 c3 A4 c4 (fresh m)) 45)
  obtain ⟨O0, Oe0, hpl0⟩ := pl_start (by omega) ho1.out hb1.out hu2 hb2 hb3 (Go.heap_alloc_new w2 _)
  replace hpl0 := Aside0.mk hpl0
  clear hu2 hb2 hb3 hb1 ho1 hrn
  go_wp2_with fail
  obtain ⟨w3, hw3⟩ : ∃ w3, w2.alloc (.cells (refV A3 c3 A4 c4 (fresh m)) 45) = w3 := ⟨_, rfl⟩
  rw [hw3] at hpl0
  obtain ⟨B7, hB7⟩ : ∃ B7, w2.heap.size = B7 := ⟨_, rfl⟩
  simp only [hB7, hw3] at hpl0 ⊢
  clear hB7
  simp only [refV]
  go_loopw [5, 9] (fun s7 s11 wr => ∃ (k g : Nat) (A5 : Option Addr) (c5 : Nat) (A6 : Option Addr) (c6 : Nat) (ds : DS), k ≤ M ∧ s7 = .pointer (some ⟨g, 0, none⟩) ∧ s11 = .int .i64 k ∧ Aside0 (∃ O Oe, PL w w.heap.size m wr g B7 k A5 c5 A6 c6 ds O Oe)) (fun _ s11 _ => M - (intOf s11).toNat)
  case atStart => exact ⟨0, g0, _, _, _, _, _, Nat.zero_le _, rfl, rfl, ⟨_, _, hpl0.out⟩⟩
  case round =>
    clear hpl0
    obtain ⟨k, g, A5, c5, A6, c6, ds, hk, rfl, rfl, hpl⟩ := hrel
    obtain ⟨O, Oe, hpl⟩ := hpl.out
    have hbwr : Below w.heap.size w wr := hpl.bel
    by_cases hlt : k < M
    · have hkw : k < l.length := by rw [hM.out]; exact hlt
      obtain ⟨ad, A9, c9, e, hlc9, hC9, P0, O0, sp, hak, p0, p1, p2, p3, p4, p5⟩ := act_at hC.out k hkw
      subst e
      have htok := hok.out l[k] (List.getElem_mem hkw)
      have htb := hb100.out l[k] (List.getElem_mem hkw)
      obtain ⟨t, hx⟩ : ∃ t, l[k] = t := ⟨_, rfl⟩
      rw [hx] at hlc9 hC9 p0 p1 p2 p3 p4 p5 htok htb
      clear hx hkw
      have hplD := hpl.drew
      have hbD : Below w.heap.size w wr.drew := hbwr.trans (below_drew (Below.refl _ _))
      have hdB := does_calls O (fun q => q = B7) Oe g _ ds k wr.drew t A9 c9 hplD.own (fun q hq => by subst hq; exact hpl.ob) hplD.ref hpl.oe hplD.bd hpl.upto (by omega) (by omega) (Kd.F_mono (F_came hC9 hbD) (fun q hq => hpl.lo q (by omega))) htok
      have hbA : Below wr.heap.size wr (wr.alloc (.cells #[.slice none 0 0, .slice none 0 0, .int .i64 0, .int .i64 0, .int .i64 0] 45)).drew := below_drew (below_alloc (Below.refl _ _) _)
      have hA : (wr.alloc (.cells #[.slice none 0 0, .slice none 0 0, .int .i64 0, .int .i64 0, .int .i64 0] 45)).drew.heap[wr.heap.size]? = some (.cells #[.slice none 0 0, .slice none 0 0, .int .i64 0, .int .i64 0, .int .i64 0] 45) := Go.heap_alloc_new wr _
      have hbA2 := below_then hbwr hbwr.size hbA
      have hsA : (wr.alloc (.cells #[.slice none 0 0, .slice none 0 0, .int .i64 0, .int .i64 0, .int .i64 0] 45)).drew.heap.size = wr.heap.size + 1 := by show (wr.alloc _).heap.size = _; simp
      have hdA := does_calls (fun q => O q ∨ q = wr.heap.size) (fun q => q = B7 ∨ q = wr.heap.size) Oe g _ ds k (wr.alloc (.cells #[.slice none 0 0, .slice none 0 0, .int .i64 0, .int .i64 0, .int .i64 0] 45)).drew t A9 c9 ((hpl.own.fresh hbA).weaken (fun q hq => hq.imp id (fun h => Nat.le_of_eq h.symm)) (fun q hq => hq.imp id (fun h => Nat.le_of_eq h.symm)))
        (fun q hq => hq.imp (fun h => by subst h; exact hpl.ob) id) (hpl.ref.below hbA) (fun q hq => ⟨.inl (hpl.oe q hq).1, fun hn => by rcases hn with hn | hn; exact (hpl.oe q hq).2 hn; have := hpl.bd q (hpl.oe q hq).1; omega⟩) (fun q hq => by rcases hq with hq | hq; have := hpl.bd q hq; omega; omega) hpl.upto (by omega) (by omega) (Kd.F_mono (F_came hC9 hbA2) (fun q hq => .inl (hpl.lo q (by omega)))) htok
      simp only [actV, refV] at hdA hdB
      have hstA : Stays O wr.drew (wr.alloc (.cells #[.slice none 0 0, .slice none 0 0, .int .i64 0, .int .i64 0, .int .i64 0] 45)).drew := Stays.of_below (show Below wr.drew.heap.size wr.drew (wr.alloc (.cells #[.slice none 0 0, .slice none 0 0, .int .i64 0, .int .i64 0, .int .i64 0] 45)).drew from ⟨hbA.os, hbA.tape, hbA.output, hbA.size, hbA.block⟩)
      have hX : ∀ W, Stays O wr.drew W → W.cell? ⟨B7, 0, none⟩ = some (.slice A5 ds.lasts.length c5) ∧ W.cell? ⟨B7, 1, none⟩ = some (.slice A6 ds.waits.length c6) ∧ W.cell? ⟨B7, 2, none⟩ = some (.int .i64 ds.armed) ∧ W.cell? ⟨B7, 3, none⟩ = some (.int .i64 ds.limit) ∧ W.cell? ⟨B7, 4, none⟩ = some (.int .i64 ds.done) ∧
          W.cell? ⟨P0, O0, sp⟩ = some (.int .i64 t.kind) ∧ W.cell? ⟨P0, O0 + 1, none⟩ = some (.int .i64 t.at_) ∧ W.cell? ⟨P0, O0 + 2, none⟩ = some (.int .i64 t.n) ∧ W.cell? ⟨P0, O0 + 3, none⟩ = some (.slice A9 t.b.length c9) ∧ W.cell? ⟨P0, O0 + 4, none⟩ = some (.int .i64 t.keep) ∧ W.cell? ⟨P0, O0 + 5, none⟩ = some (.int .i64 t.torn) := fun W hW => by
        have g9 := blk5 ((hW.blk (k := B7) hpl.ob (hplD.bd _ hpl.ob)).trans hplD.box)
        have h9 : Below w.heap.size w W := hbD.trans (hW.below (fun q hq => hpl.lo q (by omega)) (by have := hbD.size; omega))
        exact ⟨g9.1, g9.2.1, g9.2.2.1, g9.2.2.2.1, g9.2.2.2.2.1, pw_cell_below h9 p0, pw_cell_below h9 p1, pw_cell_below h9 p2, pw_cell_below h9 p3, pw_cell_below h9 p4, pw_cell_below h9 p5⟩
      have hn9 := htok.n.2
      replace hX := Aside0.mk hX
      replace hdA := Aside0.mk hdA
      replace hdB := Aside0.mk hdB
      replace hA := Aside0.mk hA
      replace hbA := Aside0.mk hbA
      replace hstA := Aside0.mk hstA
      replace hpl := Aside0.mk hpl
      replace hplD := Aside0.mk hplD
      have i1 : (0 : Int) ≤ (k : Int) := by omega
      have i2 : (k : Int) < (M : Int) := by omega
      clear hsA hbA2 hbwr hbD htok htb hC9 p0 p1 p2 p3 p4 p5
      go_wp2_with fail
      refine start_ (n := 15) (S := fun w' => w'.cell? ⟨B7, 0, none⟩ = some (.slice A5 ds.lasts.length c5) ∧ w'.cell? ⟨B7, 1, none⟩ = some (.slice A6 ds.waits.length c6) ∧ w'.cell? ⟨B7, 2, none⟩ = some (.int .i64 ds.armed) ∧ w'.cell? ⟨B7, 3, none⟩ = some (.int .i64 ds.limit) ∧ w'.cell? ⟨B7, 4, none⟩ = some (.int .i64 ds.done) ∧ w'.cell? ⟨P0, O0, sp⟩ = some (.int .i64 t.kind) ∧ w'.cell? ⟨P0, O0 + 1, none⟩ = some (.int .i64 t.at_) ∧ w'.cell? ⟨P0, O0 + 2, none⟩ = some (.int .i64 t.n) ∧ w'.cell? ⟨P0, O0 + 3, none⟩ = some (.slice A9 t.b.length c9) ∧ w'.cell? ⟨P0, O0 + 4, none⟩ = some (.int .i64 t.keep) ∧ w'.cell? ⟨P0, O0 + 5, none⟩ = some (.int .i64 t.torn)) (ds := [13]) #[false, false, false, false, false, false, false, false, false, false, false, false, false, false, false] (by kernel_rfl) rfl rfl ⟨(hX.out _ (Stays.refl _ _)).1, (hX.out _ (Stays.refl _ _)).2.1, (hX.out _ (Stays.refl _ _)).2.2.1, (hX.out _ (Stays.refl _ _)).2.2.2.1, (hX.out _ (Stays.refl _ _)).2.2.2.2.1, (hX.out _ (Stays.refl _ _)).2.2.2.2.2.1, (hX.out _ (Stays.refl _ _)).2.2.2.2.2.2.1, (hX.out _ (Stays.refl _ _)).2.2.2.2.2.2.2.1, (hX.out _ (Stays.refl _ _)).2.2.2.2.2.2.2.2.1, (hX.out _ (Stays.refl _ _)).2.2.2.2.2.2.2.2.2.1, (hX.out _ (Stays.refl _ _)).2.2.2.2.2.2.2.2.2.2⟩ (fun hHeld => ?_)
      refine pure_ (i := 0) (N := some 48) (v := ?_) (a' := ?_) #[true, false, false, false, false, false, false, false, false, false, false, false, false, false, false] rfl rfl (by kernel_rfl) (fun _ _ _ h => h) (Or.inl ⟨by rfl, ?_⟩) ?_ ?_
      rotate_left
      · intro w'
        go_simp
        with_reducible rfl
      rotate_left
      · simp only [Act.put, List.setIfInBounds_toArray, List.set_cons_zero, List.set_cons_succ, i64_w, i32_w]
        rfl
      refine pure_ (i := 2) (N := some 50) (v := ?_) (a' := ?_) #[true, false, true, false, false, false, false, false, false, false, false, false, false, false, false] rfl rfl (by kernel_rfl) (fun _ _ _ h => h) (Or.inl ⟨by rfl, ?_⟩) ?_ ?_
      rotate_left
      · intro w'
        go_simp
        with_reducible rfl
      rotate_left
      · simp only [Act.put, List.setIfInBounds_toArray, List.set_cons_zero, List.set_cons_succ, i64_w, i32_w]
        rfl
      refine pure_ (i := 3) (N := some 51) (v := ?_) (a' := ?_) #[true, false, true, true, false, false, false, false, false, false, false, false, false, false, false] rfl rfl (by kernel_rfl) (fun _ _ _ h => h) (Or.inl ⟨by rfl, ?_⟩) ?_ ?_
      rotate_left
      · intro w'
        go_simp
        with_reducible rfl
      rotate_left
      · simp only [Act.put, List.setIfInBounds_toArray, List.set_cons_zero, List.set_cons_succ, i64_w, i32_w]
        rfl
      refine pure_ (i := 4) (N := some 52) (v := ?_) (a' := ?_) #[true, false, true, true, true, false, false, false, false, false, false, false, false, false, false] rfl rfl (by kernel_rfl) (fun _ _ _ h => h) (Or.inl ⟨by rfl, ?_⟩) ?_ ?_
      rotate_left
      · intro w'
        go_simp
        with_reducible rfl
      rotate_left
      · simp only [Act.put, List.setIfInBounds_toArray, List.set_cons_zero, List.set_cons_succ, i64_w, i32_w]
        rfl
      refine take_ (i := 1) (N := some 49) (v := ?_) (a' := ?_) #[true, true, true, true, true, false, false, false, false, false, false, false, false, false, false] rfl rfl (by kernel_rfl) (fun _ _ _ h => h) (Or.inl ⟨by rfl, ?_⟩) hHeld ?_ ?_
      rotate_left
      · rintro w' ⟨s0, s1, s2, s3, s4, s5, s6, s7, s8, s9, s10⟩
        go_simp
        with_reducible rfl
      rotate_left
      · simp only [Act.put, List.setIfInBounds_toArray, List.set_cons_zero, List.set_cons_succ, i64_w, i32_w]
        rfl
      refine take_ (i := 5) (N := some 53) (v := ?_) (a' := ?_) #[true, true, true, true, true, true, false, false, false, false, false, false, false, false, false] rfl rfl (by kernel_rfl) (fun _ _ _ h => h) (Or.inl ⟨by rfl, ?_⟩) hHeld ?_ ?_
      rotate_left
      · rintro w' ⟨s0, s1, s2, s3, s4, s5, s6, s7, s8, s9, s10⟩
        go_simp
        with_reducible rfl
      rotate_left
      · simp only [Act.put, List.setIfInBounds_toArray, List.set_cons_zero, List.set_cons_succ, i64_w, i32_w]
        rfl
      refine join_ (σ := Nat × Nat × Option Addr × Nat × Option Addr × Nat) 3 #[true, true, true, true, true, true, true, true, true, true, true, true, false, false, false] (fun s => [(54, .tuple #[.pointer (some ⟨s.1, 0, none⟩), .agg #[.slice s.2.2.1 (ds.does t).lasts.length s.2.2.2.1, .slice s.2.2.2.2.1 (ds.does t).waits.length s.2.2.2.2.2, .int .i64 (ds.does t).armed, .int .i64 (ds.does t).limit, .int .i64 (ds.does t).done], .bool true]), (47, .tuple #[.pointer (some ⟨s.1, 0, none⟩), .agg #[.slice s.2.2.1 (ds.does t).lasts.length s.2.2.2.1, .slice s.2.2.2.2.1 (ds.does t).waits.length s.2.2.2.2.2, .int .i64 (ds.does t).armed, .int .i64 (ds.does t).limit, .int .i64 (ds.does t).done], .bool true]), (55, .pointer (some ⟨s.1, 0, none⟩)), (56, .agg #[.slice s.2.2.1 (ds.does t).lasts.length s.2.2.2.1, .slice s.2.2.2.2.1 (ds.does t).waits.length s.2.2.2.2.2, .int .i64 (ds.does t).armed, .int .i64 (ds.does t).limit, .int .i64 (ds.does t).done]), (57, .bool true), (11, .pointer (some ⟨s.2.1, 0, none⟩))]) (fun s w' => (∃ O2 Oe2, PM w w.heap.size m w' s.1 B7 s.2.1 (k + 1) s.2.2.1 s.2.2.2.1 s.2.2.2.2.1 s.2.2.2.2.2 (ds.does t) O2 Oe2) ∧ Stays O wr.drew w') ?_ ?_
      rotate_left
      · intro hCont
        refine two_ (i := 6) (j := 11) (Ni := some 54) (Nj := some 11) #[true, true, true, true, true, true, true, false, false, false, false, false, false, false, false] #[true, true, true, true, true, true, false, false, false, false, false, true, false, false, false] rfl rfl rfl rfl (by kernel_rfl) (by decide) (by decide) (fun K hK => ?_) (fun K hK => ?_)
        · skip
          refine goes_ Try.func20 (by kernel_rfl) rfl #[.pointer (some ⟨g, 0, none⟩), .agg #[.slice A5 ds.lasts.length c5, .slice A6 ds.waits.length c6, .int .i64 ds.armed, .int .i64 ds.limit, .int .i64 ds.done], .agg #[.int .i64 t.kind, .int .i64 t.at_, .int .i64 t.n, .slice A9 t.b.length c9, .int .i64 t.keep, .int .i64 t.torn]] (by rfl) rfl rfl (by simp only [List.map_toArray, List.map_cons, List.map_nil]; rfl) ?_
          with_reducible refine (hdB.out).mono ?_
          rintro e w4 hp; obtain ⟨g2, u, O2, Oe2, rfl, k1, k2, k3, k4, k5, k6⟩ := hp; obtain ⟨A7, c7, A8, c8, rfl⟩ := k2.form
          refine ⟨_, rfl, ?_⟩
          have hpm := Aside0.mk (hplD.out.makes2 (w' := w4.alloc (.cells #[.slice none 0 0, .slice none 0 0, .int .i64 0, .int .i64 0, .int .i64 0] 45)) t hn9 (by omega) k1 k2 k3 k4 k5 k6 (below_alloc (Below.refl _ _) _) (Go.heap_alloc_new w4 _))
          replace k6 := Aside0.mk k6
          clear k1 k2 k3 k4 k5
          refine hK.out _ _ ⟨(hX.out _ k6.out).1, (hX.out _ k6.out).2.1, (hX.out _ k6.out).2.2.1, (hX.out _ k6.out).2.2.2.1, (hX.out _ k6.out).2.2.2.2.1, (hX.out _ k6.out).2.2.2.2.2.1, (hX.out _ k6.out).2.2.2.2.2.2.1, (hX.out _ k6.out).2.2.2.2.2.2.2.1, (hX.out _ k6.out).2.2.2.2.2.2.2.2.1, (hX.out _ k6.out).2.2.2.2.2.2.2.2.2.1, (hX.out _ k6.out).2.2.2.2.2.2.2.2.2.2⟩ (fun hHeld => ?_)
          clear hK K
          refine norm_ (a' := ?_) ?_ ?_
          rotate_left
          · show Act.put _ (some 54) _ = _
            simp only [Act.put, List.setIfInBounds_toArray, List.set_cons_zero, List.set_cons_succ, i64_w, i32_w]
            rfl
          refine pure_ (i := 7) (N := some 47) (v := ?_) (a' := ?_) #[true, true, true, true, true, true, true, true, false, false, false, false, false, false, false] rfl rfl (by kernel_rfl) (fun _ _ _ h => h) (Or.inl ⟨by rfl, ?_⟩) ?_ ?_
          rotate_left
          · intro w'
            go_simp
            with_reducible rfl
          rotate_left
          · simp only [Act.put, List.setIfInBounds_toArray, List.set_cons_zero, List.set_cons_succ, i64_w, i32_w]
            rfl
          refine pure_ (i := 8) (N := some 55) (v := ?_) (a' := ?_) #[true, true, true, true, true, true, true, true, true, false, false, false, false, false, false] rfl rfl (by kernel_rfl) (fun _ _ _ h => h) (Or.inl ⟨by rfl, ?_⟩) ?_ ?_
          rotate_left
          · intro w'
            go_simp
            with_reducible rfl
          rotate_left
          · simp only [Act.put, List.setIfInBounds_toArray, List.set_cons_zero, List.set_cons_succ, i64_w, i32_w]
            rfl
          refine pure_ (i := 9) (N := some 56) (v := ?_) (a' := ?_) #[true, true, true, true, true, true, true, true, true, true, false, false, false, false, false] rfl rfl (by kernel_rfl) (fun _ _ _ h => h) (Or.inl ⟨by rfl, ?_⟩) ?_ ?_
          rotate_left
          · intro w'
            go_simp
            with_reducible rfl
          rotate_left
          · simp only [Act.put, List.setIfInBounds_toArray, List.set_cons_zero, List.set_cons_succ, i64_w, i32_w]
            rfl
          refine pure_ (i := 10) (N := some 57) (v := ?_) (a' := ?_) #[true, true, true, true, true, true, true, true, true, true, true, false, false, false, false] rfl rfl (by kernel_rfl) (fun _ _ _ h => h) (Or.inl ⟨by rfl, ?_⟩) ?_ ?_
          rotate_left
          · intro w'
            go_simp
            with_reducible rfl
          rotate_left
          · simp only [Act.put, List.setIfInBounds_toArray, List.set_cons_zero, List.set_cons_succ, i64_w, i32_w]
            rfl
          refine one_ (i := 11) (N := some 11) #[true, true, true, true, true, true, true, true, true, true, true, true, false, false, false] rfl rfl (by kernel_rfl) (by decide) (fun K hK => ?_)
          refine value_ (w1 := ?_) (v := ?_) (by rfl) rfl ?_ ?_
          rotate_left 2
          · go_simp
            constructor
            · rfl
            · rfl
          refine hK.out _ _ ⟨(hX.out _ hpm.out.2).1, (hX.out _ hpm.out.2).2.1, (hX.out _ hpm.out.2).2.2.1, (hX.out _ hpm.out.2).2.2.2.1, (hX.out _ hpm.out.2).2.2.2.2.1, (hX.out _ hpm.out.2).2.2.2.2.2.1, (hX.out _ hpm.out.2).2.2.2.2.2.2.1, (hX.out _ hpm.out.2).2.2.2.2.2.2.2.1, (hX.out _ hpm.out.2).2.2.2.2.2.2.2.2.1, (hX.out _ hpm.out.2).2.2.2.2.2.2.2.2.2.1, (hX.out _ hpm.out.2).2.2.2.2.2.2.2.2.2.2⟩ (fun hHeld => ?_)
          clear hK K
          refine norm_ (a' := ?_) ?_ ?_
          rotate_left
          · show Act.put _ (some 11) _ = _
            simp only [Act.put, List.setIfInBounds_toArray, List.set_cons_zero, List.set_cons_succ, i64_w, i32_w]
            rfl
          exact norm_ (by simp only [putAll, Act.put, List.setIfInBounds_toArray, List.set_cons_zero, List.set_cons_succ]) (hCont (g2, w4.heap.size, A7, c7, A8, c8) _ hpm.out)
        · skip
          refine value_ (w1 := ?_) (v := ?_) (by rfl) rfl ?_ ?_
          rotate_left 2
          · go_simp
            constructor
            · rfl
            · rfl
          refine hK.out _ _ ⟨(hX.out _ hstA.out).1, (hX.out _ hstA.out).2.1, (hX.out _ hstA.out).2.2.1, (hX.out _ hstA.out).2.2.2.1, (hX.out _ hstA.out).2.2.2.2.1, (hX.out _ hstA.out).2.2.2.2.2.1, (hX.out _ hstA.out).2.2.2.2.2.2.1, (hX.out _ hstA.out).2.2.2.2.2.2.2.1, (hX.out _ hstA.out).2.2.2.2.2.2.2.2.1, (hX.out _ hstA.out).2.2.2.2.2.2.2.2.2.1, (hX.out _ hstA.out).2.2.2.2.2.2.2.2.2.2⟩ (fun hHeld => ?_)
          clear hK K
          refine norm_ (a' := ?_) ?_ ?_
          rotate_left
          · show Act.put _ (some 11) _ = _
            simp only [Act.put, List.setIfInBounds_toArray, List.set_cons_zero, List.set_cons_succ, i64_w, i32_w]
            rfl
          refine one_ (i := 6) (N := some 54) #[true, true, true, true, true, true, true, false, false, false, false, true, false, false, false] rfl rfl (by kernel_rfl) (by decide) (fun K hK => ?_)
          refine goes_ Try.func20 (by kernel_rfl) rfl #[.pointer (some ⟨g, 0, none⟩), .agg #[.slice A5 ds.lasts.length c5, .slice A6 ds.waits.length c6, .int .i64 ds.armed, .int .i64 ds.limit, .int .i64 ds.done], .agg #[.int .i64 t.kind, .int .i64 t.at_, .int .i64 t.n, .slice A9 t.b.length c9, .int .i64 t.keep, .int .i64 t.torn]] (by rfl) rfl rfl (by simp only [List.map_toArray, List.map_cons, List.map_nil]; rfl) ?_
          with_reducible refine (hdA.out).mono ?_
          rintro e w4 hp; obtain ⟨g2, A7, c7, A8, c8, O2, Oe2, rfl, hpm, hs4⟩ := hpl.out.made (v := .bool true) t hn9 (by omega) hA.out hbA.out hp
          refine ⟨_, rfl, ?_⟩
          replace hpm := Aside0.mk hpm
          replace hs4 : Aside0 (Stays O wr.drew w4) := Aside0.mk ⟨hs4.os, hs4.tape, hs4.output, hs4.size, hs4.block⟩
          refine hK.out _ _ ⟨(hX.out _ hs4.out).1, (hX.out _ hs4.out).2.1, (hX.out _ hs4.out).2.2.1, (hX.out _ hs4.out).2.2.2.1, (hX.out _ hs4.out).2.2.2.2.1, (hX.out _ hs4.out).2.2.2.2.2.1, (hX.out _ hs4.out).2.2.2.2.2.2.1, (hX.out _ hs4.out).2.2.2.2.2.2.2.1, (hX.out _ hs4.out).2.2.2.2.2.2.2.2.1, (hX.out _ hs4.out).2.2.2.2.2.2.2.2.2.1, (hX.out _ hs4.out).2.2.2.2.2.2.2.2.2.2⟩ (fun hHeld => ?_)
          clear hK K
          refine norm_ (a' := ?_) ?_ ?_
          rotate_left
          · show Act.put _ (some 54) _ = _
            simp only [Act.put, List.setIfInBounds_toArray, List.set_cons_zero, List.set_cons_succ, i64_w, i32_w]
            rfl
          refine pure_ (i := 7) (N := some 47) (v := ?_) (a' := ?_) #[true, true, true, true, true, true, true, true, false, false, false, true, false, false, false] rfl rfl (by kernel_rfl) (fun _ _ _ h => h) (Or.inl ⟨by rfl, ?_⟩) ?_ ?_
          rotate_left
          · intro w'
            go_simp
            with_reducible rfl
          rotate_left
          · simp only [Act.put, List.setIfInBounds_toArray, List.set_cons_zero, List.set_cons_succ, i64_w, i32_w]
            rfl
          refine pure_ (i := 8) (N := some 55) (v := ?_) (a' := ?_) #[true, true, true, true, true, true, true, true, true, false, false, true, false, false, false] rfl rfl (by kernel_rfl) (fun _ _ _ h => h) (Or.inl ⟨by rfl, ?_⟩) ?_ ?_
          rotate_left
          · intro w'
            go_simp
            with_reducible rfl
          rotate_left
          · simp only [Act.put, List.setIfInBounds_toArray, List.set_cons_zero, List.set_cons_succ, i64_w, i32_w]
            rfl
          refine pure_ (i := 9) (N := some 56) (v := ?_) (a' := ?_) #[true, true, true, true, true, true, true, true, true, true, false, true, false, false, false] rfl rfl (by kernel_rfl) (fun _ _ _ h => h) (Or.inl ⟨by rfl, ?_⟩) ?_ ?_
          rotate_left
          · intro w'
            go_simp
            with_reducible rfl
          rotate_left
          · simp only [Act.put, List.setIfInBounds_toArray, List.set_cons_zero, List.set_cons_succ, i64_w, i32_w]
            rfl
          refine pure_ (i := 10) (N := some 57) (v := ?_) (a' := ?_) #[true, true, true, true, true, true, true, true, true, true, true, true, false, false, false] rfl rfl (by kernel_rfl) (fun _ _ _ h => h) (Or.inl ⟨by rfl, ?_⟩) ?_ ?_
          rotate_left
          · intro w'
            go_simp
            with_reducible rfl
          rotate_left
          · simp only [Act.put, List.setIfInBounds_toArray, List.set_cons_zero, List.set_cons_succ, i64_w, i32_w]
            rfl
          exact norm_ (by simp only [putAll, Act.put, List.setIfInBounds_toArray, List.set_cons_zero, List.set_cons_succ]) (hCont (g2, wr.heap.size, A7, c7, A8, c8) _ ⟨⟨_, _, hpm.out⟩, hs4.out⟩)
      rintro ⟨g2, B11, A7, c7, A8, c8⟩ w4 ⟨⟨O2, Oe2, hpm⟩, hs4⟩
      have hHeld := hX.out _ hs4
      obtain ⟨a1, b1, d1, f1, h1, hbx⟩ := hpm.box2
      obtain ⟨e0, e1, e2, e3, e4, e5⟩ := blk5 hbx
      replace hpm := Aside0.mk hpm
      replace hbx := Aside0.mk hbx
      clear hdA hdB hplD hpl hA hbA hstA hs4
      refine norm_ (a' := ?_) ?_ ?_
      rotate_left
      · simp only [putAll, Act.put, List.setIfInBounds_toArray, List.set_cons_zero, List.set_cons_succ]
        rfl
      refine pure_ (i := 12) (N := some 10) (v := ?_) (a' := ?_) #[true, true, true, true, true, true, true, true, true, true, true, true, true, false, false] rfl rfl (by kernel_rfl) (fun _ _ _ h => h) (Or.inl ⟨by rfl, ?_⟩) ?_ ?_
      rotate_left
      · intro w'
        go_simp
        with_reducible rfl
      rotate_left
      · simp only [Act.put, List.setIfInBounds_toArray, List.set_cons_zero, List.set_cons_succ, i64_w, i32_w]
        rfl
      refine last_ (i := 13) (N := none) #[true, true, true, true, true, true, true, true, true, true, true, true, true, true, false] rfl rfl (by kernel_rfl) (by decide) (fun K hK => ?_)
      refine skip_ (w1 := ?_) (by rfl) rfl ?_ ?_
      rotate_left
      · go_simp
        rfl
      refine hK.out _ _ ?_
      clear hK K
      refine pure_ (i := 14) (N := some 12) (v := ?_) (a' := ?_) #[true, true, true, true, true, true, true, true, true, true, true, true, true, true, true] rfl rfl (by kernel_rfl) (fun _ _ _ h => h) (Or.inl ⟨by rfl, ?_⟩) ?_ ?_
      rotate_left
      · intro w'
        go_simp
        with_reducible rfl
      rotate_left
      · simp only [Act.put, List.setIfInBounds_toArray, List.set_cons_zero, List.set_cons_succ, i64_w, i32_w]
        rfl
      refine done_ (by kernel_rfl) ?_
      have hpm5 := hpm.out.fill (.slice A7 (ds.does t).lasts.length c7) (.slice A8 (ds.does t).waits.length c8) (.int .i64 (ds.does t).armed) (.int .i64 (ds.does t).limit) (.int .i64 (ds.does t).done)
      have hbx5 := set5 hbx.out (.slice A7 (ds.does t).lasts.length c7) (.slice A8 (ds.does t).waits.length c8) (.int .i64 (ds.does t).armed) (.int .i64 (ds.does t).limit) (.int .i64 (ds.does t).done)
      clear e0 e1 e2 e3 e4 e5 hX hpm hbx
      obtain ⟨w5, hw5⟩ : ∃ w5, (((((w4.setCell ⟨B11, 0, none⟩ (.slice A7 (ds.does t).lasts.length c7)).setCell ⟨B11, 1, none⟩ (.slice A8 (ds.does t).waits.length c8)).setCell ⟨B11, 2, none⟩ (.int .i64 (ds.does t).armed)).setCell ⟨B11, 3, none⟩ (.int .i64 (ds.does t).limit)).setCell ⟨B11, 4, none⟩ (.int .i64 (ds.does t).done)) = w5 := ⟨_, rfl⟩
      rw [hw5] at hpm5 hbx5 ⊢
      have hsm := same_calls _ _ g2 _ (ds.does t) w5 hpm5.own.bare hpm5.ref hpm5.upto.fine hpm5.upto.std
      simp only [refV] at hsm
      obtain ⟨f0, f1, f2, f3, f4, _⟩ := blk5 hbx5
      replace hpm5 := Aside0.mk hpm5
      replace hbx5 := Aside0.mk hbx5
      replace hsm := Aside0.mk hsm
      clear hw5
      go_wp2_with fail
      refine hsm.out.mono ?_
      rintro e w6 ⟨rfl, hb6⟩
      have hpm6 := hpm5.out.below hb6
      have hbx6 := (hb6.block B11 (hpm5.out.bd _ hpm5.out.o11)).trans hbx5.out
      obtain ⟨a1, b1, d1, k1, h1, hb7⟩ := hpm6.box
      obtain ⟨e0, e1, e2, e3, e4, e5⟩ := blk5 hb7
      have hY : ∀ W, Below w6.heap.size w6 W → W.cell? ⟨B11, 0, none⟩ = some (.slice A7 (ds.does t).lasts.length c7) ∧ W.cell? ⟨B11, 1, none⟩ = some (.slice A8 (ds.does t).waits.length c8) ∧ W.cell? ⟨B11, 2, none⟩ = some (.int .i64 (ds.does t).armed) ∧ W.cell? ⟨B11, 3, none⟩ = some (.int .i64 (ds.does t).limit) ∧ W.cell? ⟨B11, 4, none⟩ = some (.int .i64 (ds.does t).done) := fun W hW => by
        have g9 := blk5 ((hW.block B11 (hpm6.bd _ hpm6.o11)).trans hbx6)
        exact ⟨g9.1, g9.2.1, g9.2.2.1, g9.2.2.2.1, g9.2.2.2.2.1⟩
      have hs0 : Below w6.heap.size w6 w6.drew := below_drew (Below.refl _ _)
      replace hY := Aside0.mk hY
      replace hs0 := Aside0.mk hs0
      replace hpm6 := Aside0.mk hpm6
      clear f0 f1 f2 f3 f4 hpm5 hbx5 hsm hb6 hbx6 hb7
      go_wp2_with fail
      refine start_ (n := 4) (S := fun w' => w'.cell? ⟨B11, 0, none⟩ = some (.slice A7 (ds.does t).lasts.length c7) ∧ w'.cell? ⟨B11, 1, none⟩ = some (.slice A8 (ds.does t).waits.length c8) ∧ w'.cell? ⟨B11, 2, none⟩ = some (.int .i64 (ds.does t).armed) ∧ w'.cell? ⟨B11, 3, none⟩ = some (.int .i64 (ds.does t).limit) ∧ w'.cell? ⟨B11, 4, none⟩ = some (.int .i64 (ds.does t).done)) (ds := [3]) #[false, false, false, false] (by kernel_rfl) rfl rfl ⟨(hY.out _ hs0.out).1, (hY.out _ hs0.out).2.1, (hY.out _ hs0.out).2.2.1, (hY.out _ hs0.out).2.2.2.1, (hY.out _ hs0.out).2.2.2.2⟩ (fun hHeld => ?_)
      refine pure_ (i := 0) (N := some 66) (v := ?_) (a' := ?_) #[true, false, false, false] rfl rfl (by kernel_rfl) (fun _ _ _ h => h) (Or.inl ⟨by rfl, ?_⟩) ?_ ?_
      rotate_left
      · intro w'
        go_simp
        with_reducible rfl
      rotate_left
      · simp only [Act.put, List.setIfInBounds_toArray, List.set_cons_zero, List.set_cons_succ, i64_w, i32_w]
        rfl
      refine pure_ (i := 2) (N := some 5) (v := ?_) (a' := ?_) #[true, false, true, false] rfl rfl (by kernel_rfl) (fun _ _ _ h => h) (Or.inl ⟨by rfl, ?_⟩) ?_ ?_
      rotate_left
      · intro w'
        go_simp
        with_reducible rfl
      rotate_left
      · simp only [Act.put, List.setIfInBounds_toArray, List.set_cons_zero, List.set_cons_succ, i64_w, i32_w]
        rfl
      refine take_ (i := 1) (N := some 67) (v := ?_) (a' := ?_) #[true, true, true, false] rfl rfl (by kernel_rfl) (fun _ _ _ h => h) (Or.inl ⟨by rfl, ?_⟩) hHeld ?_ ?_
      rotate_left
      · rintro w' ⟨s0, s1, s2, s3, s4⟩
        go_simp
        with_reducible rfl
      rotate_left
      · simp only [Act.put, List.setIfInBounds_toArray, List.set_cons_zero, List.set_cons_succ, i64_w, i32_w]
        rfl
      refine last_ (i := 3) (N := none) #[true, true, true, true] rfl rfl (by kernel_rfl) (by decide) (fun K hK => ?_)
      refine skip_ (w1 := ?_) (by rfl) rfl ?_ ?_
      rotate_left
      · go_simp
        rfl
      refine hK.out _ _ ?_
      clear hK K
      refine done_ (by kernel_rfl) ?_
      have hpl7 := hpm6.out.next.drew
      clear e0 e1 e2 e3 e4 e5 hY hs0
      replace hpl7 := Aside0.mk hpl7
      go_wp2_with fail
      go_roundw
      case rel => exact ⟨k + 1, g2, _, _, _, _, _, by omega, rfl, by go_num, ⟨_, _, hpl7.out⟩⟩
      case measure => simp [intOf]; omega
    · have hkM : k = M := by omega
      subst hkM
      replace hbwr := Aside0.mk hbwr
      clear hpl
      go_wp2_with (go_at_call 10; refine (known_calls _).mono ?_; rintro e wz ⟨rfl, hbz⟩; replace hbz := Aside0.mk hbz)
      go_ret
      exact ⟨rfl, below_then hbwr.out hbwr.out.size hbz.out⟩
end Go.Proofs.Ytolighikimpbfaa
