/- DiskReads, walked. -/
import Derived.Test.YtolighikimpbfaaSh
import Derived.Test.YtolighikimpbfaaE1
set_option linter.unusedVariables false
set_option linter.unusedSimpArgs false
namespace Go.Proofs.Ytolighikimpbfaa
open Go.RowKit Go.Shelf Go.Proofs.YtolighikimpbfaaW.PrintWords Go.Proofs.YtolighikimpbfaaW.PrintMore Go.Proofs.YtolighikimpbfaaW.PrintLast

set_option maxRecDepth 20000 in
set_option maxHeartbeats 4000000 in
theorem diskReads_few (size x y : Int) (A : Option Addr) (c : Nat) (l : List Act) (w : World) (hC : ak.C w A l.length (encAs l)) (hlc : l.length ≤ c) (hno : decide (Few size l) = false) :
    Calls Try.prog 5 #[.int .i64 size, .slice A l.length c, .agg #[.int .i64 x, .int .i64 y]] w fun e w' => e = .returned (.bool true) ∧ Below w.heap.size w w' := by
  have hb := below_alloc (Below.refl w.heap.size w) (.cells #[.int .i64 x, .int .i64 y] 51)
  have hf := few_calls size A c l _ (Kd.C_below hC hb) hlc
  rw [hno] at hf
  have hf := Aside0.mk hf
  have hb := Aside0.mk hb
  have hk := Aside0.mk (known_calls (w.alloc (.cells #[.int .i64 x, .int .i64 y] 51)))
  clear hC hlc
  generalize l.length = M at *
  go_enter Try.func5, Try.ntmps5
  go_wp2_with (first | (go_at_call 9; refine hf.out.mono ?_; rintro e w' ⟨rfl, rfl⟩) | (go_at_call 10; refine hk.out.mono ?_; rintro e w' ⟨rfl, hb2⟩; replace hb2 := Aside0.mk hb2))
  go_ret
  exact ⟨rfl, hb.out.trans (hb2.out.mono hb.out.size)⟩
set_option maxRecDepth 20000 in
set_option maxHeartbeats 4000000 in
theorem diskReads_none (size x y : Int) (A : Option Addr) (c : Nat) (l : List Act) (w : World) (hC : ak.C w A l.length (encAs l)) (hlc : l.length ≤ c) (hyes : decide (Few size l) = true) (hs : size < 1) :
    Calls Try.prog 5 #[.int .i64 size, .slice A l.length c, .agg #[.int .i64 x, .int .i64 y]] w fun e w' => e = .returned (.bool true) ∧ Below w.heap.size w w' := by
  have hb := below_alloc (Below.refl w.heap.size w) (.cells #[.int .i64 x, .int .i64 y] 51)
  have hf := few_calls size A c l _ (Kd.C_below hC hb) hlc
  rw [hyes] at hf
  have hf := Aside0.mk hf
  have hb := Aside0.mk hb
  have hk := Aside0.mk (known_calls (w.alloc (.cells #[.int .i64 x, .int .i64 y] 51)))
  have hn := Aside0.mk (new_no size (.inl hs) (w.alloc (.cells #[.int .i64 x, .int .i64 y] 51)))
  clear hC hlc hs
  generalize l.length = M at *
  go_enter Try.func5, Try.ntmps5
  go_wp2_with (first | (go_at_call 9; refine hf.out.mono ?_; rintro e w' ⟨rfl, rfl⟩) | (go_at_call 11; refine hn.out.mono ?_; rintro e w' ⟨rfl, rfl⟩) | (go_at_call 10; refine hk.out.mono ?_; rintro e w' ⟨rfl, hb2⟩; replace hb2 := Aside0.mk hb2))
  go_ret
  exact ⟨rfl, hb.out.trans (hb2.out.mono hb.out.size)⟩
/-- A part of bytes as a string. -/
theorem part_string {W : World} {ok : Nat → Prop} {A : Option Addr} {n c a b : Nat} {l : List UInt8} (h : u8.R 5 W 0 ok (.slice A n c) (toI l)) (hab : a + b ≤ n) : (convert 31 9 (.slice (if c = a then A else Option.map (fun x => x.add a) A) b (c - a))).run Try.prog W = .ok (.string (strOfNums (toI ((l.drop a).take b)))) W ∧ a + b ≤ c ∧ ((a : Int) + (b : Int)).toNat - a = b := by
  obtain ⟨h1, h2, h3⟩ := Kd.R_reads' h
  have hmid := Kd.C_mid (c := c) h3 (lo := a) (hi := a + b) (by omega) (by omega) (by omega)
  have hl2 : ((toI l).take (a + b)).drop a = toI ((l.drop a).take b) := by
    rw [toI_take, toI_drop, List.drop_take, Nat.add_sub_cancel_left]
  have hm2 : ((l.drop a).take b).length = b := by rw [toI_length] at h1; rw [List.length_take, List.length_drop]; omega
  rw [hl2, toI_length, hm2, show a * u8.sz = a from Nat.mul_one a] at hmid
  refine ⟨Kd.C_string (P := Try.prog) (dst := 9) (c := c - a) Try.underlying31 Try.underlying5 Try.underlying9 hmid, by omega, by omega⟩
theorem sum_facts (a b m : Nat) (h : a + b ≤ m) (hm : m ≤ 300) : wrap64 ((a : Int) + (b : Int)) = (a : Int) + (b : Int) ∧ (0 : Int) ≤ (a : Int) ∧ (a : Int) ≤ (a : Int) + (b : Int) ∧ (0 : Int) ≤ (a : Int) + (b : Int) ∧ (a : Int) + (b : Int) ≤ (m : Int) := by
  refine ⟨?_, by omega, by omega, by omega, by omega⟩
  unfold wrap64; omega
set_option maxRecDepth 20000 in
set_option maxHeartbeats 4000000 in
theorem diskReads_go (m : Nat) (x y : Int) (A : Option Addr) (c : Nat) (l : List Act) (w : World) (hC : ak.C w A l.length (encAs l)) (hlc : l.length ≤ c) (hyes : decide (Few (m : Int) l) = true) (hm : 1 ≤ m)
    (hx : -9223372036854775808 ≤ x ∧ x ≤ 9223372036854775807) (hy : -9223372036854775808 ≤ y ∧ y ≤ 9223372036854775807) (hok : ∀ a ∈ l, a.Ok) :
    Calls Try.prog 5 #[.int .i64 (m : Int), .slice A l.length c, .agg #[.int .i64 x, .int .i64 y]] w fun e w' => e = .returned (.bool true) ∧ Below w.heap.size w w' := by
  have hb := below_alloc (Below.refl w.heap.size w) (.cells #[.int .i64 x, .int .i64 y] 51)
  have H1 := Go.heap_alloc_new w (.cells #[.int .i64 x, .int .i64 y] 51)
  have hf := few_calls m A c l _ (Kd.C_below hC hb) hlc
  rw [hyes] at hf
  have hfew := of_decide_eq_true hyes
  have hm3 : m ≤ 300 := by have := hfew.1; omega
  have hM40 := hfew.2.1
  have hb100 := Aside0.mk hfew.2.2
  obtain ⟨wb, hwb⟩ : ∃ wb, w.alloc (.cells #[.int .i64 x, .int .i64 y] 51) = wb := ⟨_, rfl⟩
  have hsb : wb.heap.size = w.heap.size + 1 := by rw [← hwb]; simp
  rw [hwb] at hf hb H1
  have hn := new_own m hm (by omega) wb
  obtain ⟨M, hM⟩ : ∃ M, l.length = M := ⟨_, rfl⟩
  rw [hM] at hf hM40 hlc ⊢
  replace hC := Aside0.mk hC
  replace hf := Aside0.mk hf
  replace hb := Aside0.mk hb
  replace H1 := Aside0.mk H1
  replace hok := Aside0.mk hok
  replace hn := Aside0.mk hn
  replace hM := Aside0.mk hM
  go_enter Try.func5, Try.ntmps5
  go_wp2_with (go_at_call 9; refine hf.out.mono ?_; rintro e w' ⟨rfl, rfl⟩)
  refine hn.out.mono ?_
  rintro e w1 ⟨g0, rfl, ho1, hb1⟩
  have hrn := Aside0.mk (rnew_yes m hm (by omega) w1)
  replace ho1 := Aside0.mk ho1
  replace hb1 := Aside0.mk hb1
  clear hf hn
  go_wp2_with fail
  refine hrn.out.mono ?_
  rintro e w2 ⟨u, rfl, hu2, hb2⟩
  obtain ⟨A3, c3, A4, c4, rfl⟩ := hu2.form
  have hb3 := below_alloc (Below.refl w2.heap.size w2) (.cells (refV A3 c3 A4 c4 (fresh m)) 45)
  obtain ⟨O0, Oe0, hpl0⟩ := pl_start (by omega) ho1.out hb1.out hu2 hb2 hb3 (Go.heap_alloc_new w2 _)
  replace hpl0 := Aside0.mk hpl0
  clear hu2 hb2 hb3 hb1 ho1 hrn
  go_wp2_with fail
  obtain ⟨w3, hw3⟩ : ∃ w3, w2.alloc (.cells (refV A3 c3 A4 c4 (fresh m)) 45) = w3 := ⟨_, rfl⟩
  rw [hw3] at hpl0
  obtain ⟨B7, hB7⟩ : ∃ B7, w2.heap.size = B7 := ⟨_, rfl⟩
  simp only [hB7, hw3] at hpl0 ⊢
  clear hB7
  simp only [refV]
  go_loopw [7, 11] (fun s7 s11 wr => ∃ (k g : Nat) (A5 : Option Addr) (c5 : Nat) (A6 : Option Addr) (c6 : Nat) (ds : DS), k ≤ M ∧ s7 = .pointer (some ⟨g, 0, none⟩) ∧ s11 = .int .i64 k ∧ Aside0 (∃ O Oe, PL wb wb.heap.size m wr g B7 k A5 c5 A6 c6 ds O Oe)) (fun _ s11 _ => M - (intOf s11).toNat)
  case atStart => exact ⟨0, g0, _, _, _, _, _, Nat.zero_le _, rfl, rfl, ⟨_, _, hpl0.out⟩⟩
  case round =>
    clear hpl0
    obtain ⟨k, g, A5, c5, A6, c6, ds, hk, rfl, rfl, hpl⟩ := hrel
    obtain ⟨O, Oe, hpl⟩ := hpl.out
    have hbwr : Below w.heap.size w wr := hb.out.trans (hpl.bel.mono (by omega))
    by_cases hlt : k < M
    · have hkw : k < l.length := by rw [hM.out]; exact hlt
      obtain ⟨ad, A9, c9, e, hlc9, hC9, P0, O0, sp, hak, p0, p1, p2, p3, p4, p5⟩ := act_at hC.out k hkw
      subst e
      have htok := hok.out l[k] (List.getElem_mem hkw)
      have htb := hb100.out l[k] (List.getElem_mem hkw)
      obtain ⟨t, hx⟩ : ∃ t, l[k] = t := ⟨_, rfl⟩
      rw [hx] at hlc9 hC9 p0 p1 p2 p3 p4 p5 htok htb
      clear hx hkw
      have hplD := hpl.drew
      have hbD : Below w.heap.size w wr.drew := hbwr.trans (below_drew (Below.refl _ _))
      have hdo := does_calls O (fun q => q = B7) Oe g _ ds k wr.drew t A9 c9 hplD.own (fun q hq => by subst hq; exact hpl.ob) hplD.ref hpl.oe hplD.bd hpl.upto (by omega) (by omega) (Kd.F_mono (F_came hC9 hbD) (fun q hq => hpl.lo q (by omega))) htok
      simp only [actV, refV] at hdo
      have hX : ∀ W, Stays O wr.drew W → W.cell? ⟨B7, 0, none⟩ = some (.slice A5 ds.lasts.length c5) ∧ W.cell? ⟨B7, 1, none⟩ = some (.slice A6 ds.waits.length c6) ∧ W.cell? ⟨B7, 2, none⟩ = some (.int .i64 ds.armed) ∧ W.cell? ⟨B7, 3, none⟩ = some (.int .i64 ds.limit) ∧ W.cell? ⟨B7, 4, none⟩ = some (.int .i64 ds.done) ∧
          W.cell? ⟨P0, O0, sp⟩ = some (.int .i64 t.kind) ∧ W.cell? ⟨P0, O0 + 1, none⟩ = some (.int .i64 t.at_) ∧ W.cell? ⟨P0, O0 + 2, none⟩ = some (.int .i64 t.n) ∧ W.cell? ⟨P0, O0 + 3, none⟩ = some (.slice A9 t.b.length c9) ∧ W.cell? ⟨P0, O0 + 4, none⟩ = some (.int .i64 t.keep) ∧ W.cell? ⟨P0, O0 + 5, none⟩ = some (.int .i64 t.torn) := fun W hW => by
        have g9 := blk5 ((hW.blk (k := B7) hpl.ob (hplD.bd _ hpl.ob)).trans hplD.box)
        have h9 : Below w.heap.size w W := hbD.trans (hW.below (fun q hq => hpl.lo q (by omega)) (by have := hbD.size; omega))
        exact ⟨g9.1, g9.2.1, g9.2.2.1, g9.2.2.2.1, g9.2.2.2.2.1, pw_cell_below h9 p0, pw_cell_below h9 p1, pw_cell_below h9 p2, pw_cell_below h9 p3, pw_cell_below h9 p4, pw_cell_below h9 p5⟩
      have hn9 := htok.n.2
      replace hX := Aside0.mk hX
      replace hdo := Aside0.mk hdo
      replace hplD := Aside0.mk hplD
      have i1 : (0 : Int) ≤ (k : Int) := by omega
      have i2 : (k : Int) < (M : Int) := by omega
      clear hpl hbwr hbD htok htb hC9 p0 p1 p2 p3 p4 p5
      go_wp2_with fail
      refine start_ (n := 13) (S := fun w' => w'.cell? ⟨B7, 0, none⟩ = some (.slice A5 ds.lasts.length c5) ∧ w'.cell? ⟨B7, 1, none⟩ = some (.slice A6 ds.waits.length c6) ∧ w'.cell? ⟨B7, 2, none⟩ = some (.int .i64 ds.armed) ∧ w'.cell? ⟨B7, 3, none⟩ = some (.int .i64 ds.limit) ∧ w'.cell? ⟨B7, 4, none⟩ = some (.int .i64 ds.done) ∧ w'.cell? ⟨P0, O0, sp⟩ = some (.int .i64 t.kind) ∧ w'.cell? ⟨P0, O0 + 1, none⟩ = some (.int .i64 t.at_) ∧ w'.cell? ⟨P0, O0 + 2, none⟩ = some (.int .i64 t.n) ∧ w'.cell? ⟨P0, O0 + 3, none⟩ = some (.slice A9 t.b.length c9) ∧ w'.cell? ⟨P0, O0 + 4, none⟩ = some (.int .i64 t.keep) ∧ w'.cell? ⟨P0, O0 + 5, none⟩ = some (.int .i64 t.torn)) (ds := [12]) #[false, false, false, false, false, false, false, false, false, false, false, false, false] (by kernel_rfl) rfl rfl ⟨(hX.out _ (Stays.refl _ _)).1, (hX.out _ (Stays.refl _ _)).2.1, (hX.out _ (Stays.refl _ _)).2.2.1, (hX.out _ (Stays.refl _ _)).2.2.2.1, (hX.out _ (Stays.refl _ _)).2.2.2.2.1, (hX.out _ (Stays.refl _ _)).2.2.2.2.2.1, (hX.out _ (Stays.refl _ _)).2.2.2.2.2.2.1, (hX.out _ (Stays.refl _ _)).2.2.2.2.2.2.2.1, (hX.out _ (Stays.refl _ _)).2.2.2.2.2.2.2.2.1, (hX.out _ (Stays.refl _ _)).2.2.2.2.2.2.2.2.2.1, (hX.out _ (Stays.refl _ _)).2.2.2.2.2.2.2.2.2.2⟩ (fun hHeld => ?_)
      refine pure_ (i := 0) (N := some 39) (v := ?_) (a' := ?_) #[true, false, false, false, false, false, false, false, false, false, false, false, false] rfl rfl (by kernel_rfl) (fun _ _ _ h => h) (Or.inl ⟨by rfl, ?_⟩) ?_ ?_
      rotate_left
      · intro w'
        go_simp
        with_reducible rfl
      rotate_left
      · simp only [Act.put, List.setIfInBounds_toArray, List.set_cons_zero, List.set_cons_succ, i64_w, i32_w]
        rfl
      refine pure_ (i := 2) (N := some 41) (v := ?_) (a' := ?_) #[true, false, true, false, false, false, false, false, false, false, false, false, false] rfl rfl (by kernel_rfl) (fun _ _ _ h => h) (Or.inl ⟨by rfl, ?_⟩) ?_ ?_
      rotate_left
      · intro w'
        go_simp
        with_reducible rfl
      rotate_left
      · simp only [Act.put, List.setIfInBounds_toArray, List.set_cons_zero, List.set_cons_succ, i64_w, i32_w]
        rfl
      refine pure_ (i := 3) (N := some 42) (v := ?_) (a' := ?_) #[true, false, true, true, false, false, false, false, false, false, false, false, false] rfl rfl (by kernel_rfl) (fun _ _ _ h => h) (Or.inl ⟨by rfl, ?_⟩) ?_ ?_
      rotate_left
      · intro w'
        go_simp
        with_reducible rfl
      rotate_left
      · simp only [Act.put, List.setIfInBounds_toArray, List.set_cons_zero, List.set_cons_succ, i64_w, i32_w]
        rfl
      refine pure_ (i := 4) (N := some 43) (v := ?_) (a' := ?_) #[true, false, true, true, true, false, false, false, false, false, false, false, false] rfl rfl (by kernel_rfl) (fun _ _ _ h => h) (Or.inl ⟨by rfl, ?_⟩) ?_ ?_
      rotate_left
      · intro w'
        go_simp
        with_reducible rfl
      rotate_left
      · simp only [Act.put, List.setIfInBounds_toArray, List.set_cons_zero, List.set_cons_succ, i64_w, i32_w]
        rfl
      refine take_ (i := 1) (N := some 40) (v := ?_) (a' := ?_) #[true, true, true, true, true, false, false, false, false, false, false, false, false] rfl rfl (by kernel_rfl) (fun _ _ _ h => h) (Or.inl ⟨by rfl, ?_⟩) hHeld ?_ ?_
      rotate_left
      · rintro w' ⟨s0, s1, s2, s3, s4, s5, s6, s7, s8, s9, s10⟩
        go_simp
        with_reducible rfl
      rotate_left
      · simp only [Act.put, List.setIfInBounds_toArray, List.set_cons_zero, List.set_cons_succ, i64_w, i32_w]
        rfl
      refine take_ (i := 5) (N := some 44) (v := ?_) (a' := ?_) #[true, true, true, true, true, true, false, false, false, false, false, false, false] rfl rfl (by kernel_rfl) (fun _ _ _ h => h) (Or.inl ⟨by rfl, ?_⟩) hHeld ?_ ?_
      rotate_left
      · rintro w' ⟨s0, s1, s2, s3, s4, s5, s6, s7, s8, s9, s10⟩
        go_simp
        with_reducible rfl
      rotate_left
      · simp only [Act.put, List.setIfInBounds_toArray, List.set_cons_zero, List.set_cons_succ, i64_w, i32_w]
        rfl
      refine one_ (i := 6) (N := some 45) #[true, true, true, true, true, true, true, false, false, false, false, false, false] rfl rfl (by kernel_rfl) (by decide) (fun K hK => ?_)
      refine goes_ Try.func20 (by kernel_rfl) rfl #[.pointer (some ⟨g, 0, none⟩), .agg #[.slice A5 ds.lasts.length c5, .slice A6 ds.waits.length c6, .int .i64 ds.armed, .int .i64 ds.limit, .int .i64 ds.done], .agg #[.int .i64 t.kind, .int .i64 t.at_, .int .i64 t.n, .slice A9 t.b.length c9, .int .i64 t.keep, .int .i64 t.torn]] (by rfl) rfl rfl (by simp only [List.map_toArray, List.map_cons, List.map_nil]; rfl) ?_
      with_reducible refine (hdo.out).mono ?_
      rintro e w4 hp; obtain ⟨g2, A7, c7, A8, c8, O2, Oe2, rfl, hpl2, hs4, a7, b7, d7, e7, f7, hbx⟩ := hplD.out.goes t hn9 (by omega) hp
      refine ⟨_, rfl, ?_⟩
      simp only [refV]
      obtain ⟨e0, e1, e2, e3, e4, e5⟩ := blk5 hbx
      replace hpl2 := Aside0.mk hpl2
      replace hs4 := Aside0.mk hs4
      refine hK.out _ _ ⟨(hX.out _ hs4.out).1, (hX.out _ hs4.out).2.1, (hX.out _ hs4.out).2.2.1, (hX.out _ hs4.out).2.2.2.1, (hX.out _ hs4.out).2.2.2.2.1, (hX.out _ hs4.out).2.2.2.2.2.1, (hX.out _ hs4.out).2.2.2.2.2.2.1, (hX.out _ hs4.out).2.2.2.2.2.2.2.1, (hX.out _ hs4.out).2.2.2.2.2.2.2.2.1, (hX.out _ hs4.out).2.2.2.2.2.2.2.2.2.1, (hX.out _ hs4.out).2.2.2.2.2.2.2.2.2.2⟩ (fun hHeld => ?_)
      clear hK K
      refine norm_ (a' := ?_) ?_ ?_
      rotate_left
      · show Act.put _ (some 45) _ = _
        simp only [Act.put, List.setIfInBounds_toArray, List.set_cons_zero, List.set_cons_succ, i64_w, i32_w]
        rfl
      refine pure_ (i := 7) (N := some 38) (v := ?_) (a' := ?_) #[true, true, true, true, true, true, true, true, false, false, false, false, false] rfl rfl (by kernel_rfl) (fun _ _ _ h => h) (Or.inl ⟨by rfl, ?_⟩) ?_ ?_
      rotate_left
      · intro w'
        go_simp
        with_reducible rfl
      rotate_left
      · simp only [Act.put, List.setIfInBounds_toArray, List.set_cons_zero, List.set_cons_succ, i64_w, i32_w]
        rfl
      refine pure_ (i := 8) (N := some 46) (v := ?_) (a' := ?_) #[true, true, true, true, true, true, true, true, true, false, false, false, false] rfl rfl (by kernel_rfl) (fun _ _ _ h => h) (Or.inl ⟨by rfl, ?_⟩) ?_ ?_
      rotate_left
      · intro w'
        go_simp
        with_reducible rfl
      rotate_left
      · simp only [Act.put, List.setIfInBounds_toArray, List.set_cons_zero, List.set_cons_succ, i64_w, i32_w]
        rfl
      refine pure_ (i := 9) (N := some 47) (v := ?_) (a' := ?_) #[true, true, true, true, true, true, true, true, true, true, false, false, false] rfl rfl (by kernel_rfl) (fun _ _ _ h => h) (Or.inl ⟨by rfl, ?_⟩) ?_ ?_
      rotate_left
      · intro w'
        go_simp
        with_reducible rfl
      rotate_left
      · simp only [Act.put, List.setIfInBounds_toArray, List.set_cons_zero, List.set_cons_succ, i64_w, i32_w]
        rfl
      refine pure_ (i := 10) (N := some 48) (v := ?_) (a' := ?_) #[true, true, true, true, true, true, true, true, true, true, true, false, false] rfl rfl (by kernel_rfl) (fun _ _ _ h => h) (Or.inl ⟨by rfl, ?_⟩) ?_ ?_
      rotate_left
      · intro w'
        go_simp
        with_reducible rfl
      rotate_left
      · simp only [Act.put, List.setIfInBounds_toArray, List.set_cons_zero, List.set_cons_succ, i64_w, i32_w]
        rfl
      refine pure_ (i := 11) (N := some 7) (v := ?_) (a' := ?_) #[true, true, true, true, true, true, true, true, true, true, true, true, false] rfl rfl (by kernel_rfl) (fun _ _ _ h => h) (Or.inl ⟨by rfl, ?_⟩) ?_ ?_
      rotate_left
      · intro w'
        go_simp
        with_reducible rfl
      rotate_left
      · simp only [Act.put, List.setIfInBounds_toArray, List.set_cons_zero, List.set_cons_succ, i64_w, i32_w]
        rfl
      refine last_ (i := 12) (N := none) #[true, true, true, true, true, true, true, true, true, true, true, true, true] rfl rfl (by kernel_rfl) (by decide) (fun K hK => ?_)
      refine skip_ (w1 := ?_) (by rfl) rfl ?_ ?_
      rotate_left
      · go_simp
        rfl
      refine hK.out _ _ ?_
      clear hK K
      refine done_ (by kernel_rfl) ?_
      go_wp2_with fail
      go_roundw
      case rel => exact ⟨k + 1, g2, _, _, _, _, _, by omega, rfl, by go_num, ⟨_, _, hpl2.out⟩⟩
      case measure => simp [intOf]; omega
    · have hkM : k = M := by omega
      subst hkM
      have H2 := (hpl.bel.block w.heap.size (by omega)).trans H1.out
      have q0 : wr.cell? ⟨w.heap.size, 0, none⟩ = some (.int .i64 x) := (cell_of_row _ _ _ _ _ _ H2).trans rfl
      have q1 : wr.cell? ⟨w.heap.size, 1, none⟩ = some (.int .i64 y) := (cell_of_row _ _ _ _ _ _ H2).trans rfl
      have hln := hpl.len
      have hfi := hpl.upto.fine
      obtain ⟨S, RO, hdk, _, _⟩ := hpl.own
      by_cases h1 : y < 0
      · have d1 : decide (y < 0) = true := by simpa using h1
        have hrd := Aside0.mk (read_neg S RO g ds wr hdk x y h1)
        replace hbwr := Aside0.mk hbwr
        clear hpl hdk H2 h1 hln hfi
        go_wp2_with (first | (go_at_call 14; refine hrd.out.mono ?_; rintro e w' ⟨rfl, rfl⟩) | (go_at_call 10; refine (known_calls _).mono ?_; rintro e wz ⟨rfl, hbz⟩; replace hbz := Aside0.mk hbz))
        go_ret
        exact ⟨rfl, below_then hbwr.out hbwr.out.size hbz.out⟩
      have d1 : decide (y < 0) = false := by simpa using h1
      by_cases h2 : x < 0 ∨ (m : Int) < x ∨ (m : Int) - x < y
      · have hrd := Aside0.mk (read_no S RO g ds wr hdk hfi.len x y (by omega) (by rw [hln]; exact h2))
        have hD : decide (x < 0) = true ∨ (decide (x < 0) = false ∧ 0 ≤ x ∧ decide ((m : Int) < x) = true) ∨ (decide (x < 0) = false ∧ decide ((m : Int) < x) = false ∧ 0 ≤ x ∧ x ≤ m ∧ decide ((m : Int) - x < y) = true) := by
          by_cases c1 : x < 0
          · exact .inl (by simpa using c1)
          · by_cases c2 : (m : Int) < x
            · exact .inr (.inl ⟨by simpa using c1, by omega, by simpa using c2⟩)
            · exact .inr (.inr ⟨by simpa using c1, by simpa using c2, by omega, by omega, by simp; omega⟩)
        replace hbwr := Aside0.mk hbwr
        clear hpl hdk H2 h1 h2 hln hfi
        rcases hD with d2 | ⟨d2, _, d3⟩ | ⟨d2, d3, _, _, d4⟩
        all_goals
          go_wp2_with (first | (go_at_call 14; refine hrd.out.mono ?_; rintro e w' ⟨rfl, rfl⟩) | (go_at_call 10; refine (known_calls _).mono ?_; rintro e wz ⟨rfl, hbz⟩; replace hbz := Aside0.mk hbz))
          go_ret
          exact ⟨rfl, below_then hbwr.out hbwr.out.size hbz.out⟩
      obtain ⟨a, rfl⟩ := Int.eq_ofNat_of_zero_le (show 0 ≤ x by omega)
      obtain ⟨b, rfl⟩ := Int.eq_ofNat_of_zero_le (show 0 ≤ y by omega)
      have hrd := read_yes S RO g ds wr hdk hfi.len a b (by omega)
      have d2 : decide ((a : Int) < 0) = false := by simp
      have d3 : decide ((m : Int) < (a : Int)) = false := by simp; omega
      have d4 : decide ((m : Int) - (a : Int) < (b : Int)) = false := by simp; omega
      have hab : a + b ≤ m := by omega
      replace hrd := Aside0.mk hrd
      replace hpl := Aside0.mk hpl
      replace hbwr := Aside0.mk hbwr
      replace H2 := Aside0.mk H2
      replace hln := Aside0.mk hln
      replace hfi := Aside0.mk hfi
      clear hdk h1 h2
      go_wp2_with fail
      refine hrd.out.mono ?_
      rintro e w4 ⟨v, rfl, hv, hb4⟩
      obtain ⟨A7, c7, rfl⟩ := Kd.R_slice hv
      have hlb : (toI ((ds.now.drop a).take b)).length = b := by rw [toI_length, List.length_take, List.length_drop, hln.out]; omega
      rw [hlb] at hv ⊢
      have hz4 := hb4.size
      have q0 := pw_cell_below hb4 q0
      have q1 := pw_cell_below hb4 q1
      have hpl4 := hpl.out.below hb4
      have hX : ∀ W, Below w4.heap.size w4 W → W.cell? ⟨B7, 0, none⟩ = some (.slice A5 ds.lasts.length c5) ∧ W.cell? ⟨B7, 1, none⟩ = some (.slice A6 ds.waits.length c6) ∧ W.cell? ⟨B7, 2, none⟩ = some (.int .i64 ds.armed) ∧ W.cell? ⟨B7, 3, none⟩ = some (.int .i64 ds.limit) ∧ W.cell? ⟨B7, 4, none⟩ = some (.int .i64 ds.done) ∧
          W.cell? ⟨w.heap.size, 0, none⟩ = some (.int .i64 (a : Int)) ∧ W.cell? ⟨w.heap.size, 1, none⟩ = some (.int .i64 (b : Int)) ∧ (convert 31 9 (.slice A7 b c7)).run Try.prog W = .ok (.string (strOfNums (toI ((ds.now.drop a).take b)))) W := fun W hW => by
        have g9 := blk5 ((hW.block B7 (hpl4.bd _ hpl4.ob)).trans hpl4.box)
        have hs := Kd.C_string (P := Try.prog) (dst := 9) (c := c7) Try.underlying31 Try.underlying5 Try.underlying9 (Kd.C_below (Kd.R_reads' hv).2.2 hW)
        rw [hlb] at hs
        exact ⟨g9.1, g9.2.1, g9.2.2.1, g9.2.2.2.1, g9.2.2.2.2.1, pw_cell_below hW q0, pw_cell_below hW q1, hs⟩
      have hnow : ∀ W, Below w4.heap.size w4 W → Calls Try.prog 22 #[.agg #[.slice A5 ds.lasts.length c5, .slice A6 ds.waits.length c6, .int .i64 ds.armed, .int .i64 ds.limit, .int .i64 ds.done]] W fun e w' => ∃ u, e = .returned u ∧ u8.R 5 w' 0 (fun q => W.heap.size ≤ q) u (toI ds.now) ∧ Below W.heap.size W w' :=
        fun W hW => now_calls Oe _ ds W (hpl4.ref.below hW) hpl.out.upto.fine hpl.out.upto.std
      have hs0 : Below w4.heap.size w4 w4.drew := below_drew (Below.refl _ _)
      replace hX := Aside0.mk hX
      replace hnow := Aside0.mk hnow
      replace hs0 := Aside0.mk hs0
      replace hb4 := Aside0.mk (below_then hbwr.out hbwr.out.size hb4)
      replace hlb := Aside0.mk hlb
      replace hv := Aside0.mk hv
      clear hrd hpl4
      obtain ⟨str, hstr⟩ : ∃ str, strOfNums (toI ((ds.now.drop a).take b)) = str := ⟨_, rfl⟩
      rw [hstr] at hX
      replace hstr := Aside0.mk hstr
      obtain ⟨hw1, e1, e2, e3, e4⟩ := sum_facts a b m hab hm3
      go_wp2_with fail
      refine start_ (n := 22) (S := fun w' => w'.cell? ⟨B7, 0, none⟩ = some (.slice A5 ds.lasts.length c5) ∧ w'.cell? ⟨B7, 1, none⟩ = some (.slice A6 ds.waits.length c6) ∧ w'.cell? ⟨B7, 2, none⟩ = some (.int .i64 ds.armed) ∧ w'.cell? ⟨B7, 3, none⟩ = some (.int .i64 ds.limit) ∧ w'.cell? ⟨B7, 4, none⟩ = some (.int .i64 ds.done) ∧ w'.cell? ⟨w.heap.size, 0, none⟩ = some (.int .i64 (a : Int)) ∧ w'.cell? ⟨w.heap.size, 1, none⟩ = some (.int .i64 (b : Int)) ∧ (convert 31 9 (.slice A7 b c7)).run Try.prog w' = .ok (.string str) w') (ds := []) #[false, false, false, false, false, false, false, false, false, false, false, false, false, false, false, false, false, false, false, false, false, false] (by kernel_rfl) rfl rfl ⟨(hX.out _ hs0.out).1, (hX.out _ hs0.out).2.1, (hX.out _ hs0.out).2.2.1, (hX.out _ hs0.out).2.2.2.1, (hX.out _ hs0.out).2.2.2.2.1, (hX.out _ hs0.out).2.2.2.2.2.1, (hX.out _ hs0.out).2.2.2.2.2.2.1, (hX.out _ hs0.out).2.2.2.2.2.2.2⟩ (fun hHeld => ?_)
      refine pure_ (i := 0) (N := some 101) (v := ?_) (a' := ?_) #[true, false, false, false, false, false, false, false, false, false, false, false, false, false, false, false, false, false, false, false, false, false] rfl rfl (by kernel_rfl) (fun _ _ _ h => h) (Or.inl ⟨by rfl, ?_⟩) ?_ ?_
      rotate_left
      · intro w'
        go_simp
        with_reducible rfl
      rotate_left
      · simp only [Act.put, List.setIfInBounds_toArray, List.set_cons_zero, List.set_cons_succ, i64_w, i32_w]
        rfl
      refine pure_ (i := 1) (N := some 102) (v := ?_) (a' := ?_) #[true, true, false, false, false, false, false, false, false, false, false, false, false, false, false, false, false, false, false, false, false, false] rfl rfl (by kernel_rfl) (fun _ _ _ h => h) (Or.inl ⟨by rfl, ?_⟩) ?_ ?_
      rotate_left
      · intro w'
        go_simp
        with_reducible rfl
      rotate_left
      · simp only [Act.put, List.setIfInBounds_toArray, List.set_cons_zero, List.set_cons_succ, i64_w, i32_w]
        rfl
      refine pure_ (i := 2) (N := some 103) (v := ?_) (a' := ?_) #[true, true, true, false, false, false, false, false, false, false, false, false, false, false, false, false, false, false, false, false, false, false] rfl rfl (by kernel_rfl) (fun _ _ _ h => h) (Or.inl ⟨by rfl, ?_⟩) ?_ ?_
      rotate_left
      · intro w'
        go_simp
        with_reducible rfl
      rotate_left
      · simp only [Act.put, List.setIfInBounds_toArray, List.set_cons_zero, List.set_cons_succ, i64_w, i32_w]
        rfl
      refine pure_ (i := 3) (N := some 104) (v := ?_) (a' := ?_) #[true, true, true, true, false, false, false, false, false, false, false, false, false, false, false, false, false, false, false, false, false, false] rfl rfl (by kernel_rfl) (fun _ _ _ h => h) (Or.inl ⟨by rfl, ?_⟩) ?_ ?_
      rotate_left
      · intro w'
        go_simp
        with_reducible rfl
      rotate_left
      · simp only [Act.put, List.setIfInBounds_toArray, List.set_cons_zero, List.set_cons_succ, i64_w, i32_w]
        rfl
      refine pure_ (i := 7) (N := some 108) (v := ?_) (a' := ?_) #[true, true, true, true, false, false, false, true, false, false, false, false, false, false, false, false, false, false, false, false, false, false] rfl rfl (by kernel_rfl) (fun _ _ _ h => h) (Or.inl ⟨by rfl, ?_⟩) ?_ ?_
      rotate_left
      · intro w'
        go_simp
        with_reducible rfl
      rotate_left
      · simp only [Act.put, List.setIfInBounds_toArray, List.set_cons_zero, List.set_cons_succ, i64_w, i32_w]
        rfl
      refine pure_ (i := 9) (N := some 110) (v := ?_) (a' := ?_) #[true, true, true, true, false, false, false, true, false, true, false, false, false, false, false, false, false, false, false, false, false, false] rfl rfl (by kernel_rfl) (fun _ _ _ h => h) (Or.inl ⟨by rfl, ?_⟩) ?_ ?_
      rotate_left
      · intro w'
        go_simp
        with_reducible rfl
      rotate_left
      · simp only [Act.put, List.setIfInBounds_toArray, List.set_cons_zero, List.set_cons_succ, i64_w, i32_w]
        rfl
      refine pure_ (i := 11) (N := some 112) (v := ?_) (a' := ?_) #[true, true, true, true, false, false, false, true, false, true, false, true, false, false, false, false, false, false, false, false, false, false] rfl rfl (by kernel_rfl) (fun _ _ _ h => h) (Or.inl ⟨by rfl, ?_⟩) ?_ ?_
      rotate_left
      · intro w'
        go_simp
        with_reducible rfl
      rotate_left
      · simp only [Act.put, List.setIfInBounds_toArray, List.set_cons_zero, List.set_cons_succ, i64_w, i32_w]
        rfl
      refine take_ (i := 4) (N := some 105) (v := ?_) (a' := ?_) #[true, true, true, true, true, false, false, true, false, true, false, true, false, false, false, false, false, false, false, false, false, false] rfl rfl (by kernel_rfl) (fun _ _ _ h => h) (Or.inl ⟨by rfl, ?_⟩) hHeld ?_ ?_
      rotate_left
      · rintro w' ⟨s0, s1, s2, s3, s4, s5, s6, s7⟩
        go_simp
        with_reducible rfl
      rotate_left
      · simp only [Act.put, List.setIfInBounds_toArray, List.set_cons_zero, List.set_cons_succ, i64_w, i32_w]
        rfl
      refine take_ (i := 5) (N := some 106) (v := ?_) (a' := ?_) #[true, true, true, true, true, true, false, true, false, true, false, true, false, false, false, false, false, false, false, false, false, false] rfl rfl (by kernel_rfl) (fun _ _ _ h => h) (Or.inl ⟨by rfl, ?_⟩) hHeld ?_ ?_
      rotate_left
      · rintro w' ⟨s0, s1, s2, s3, s4, s5, s6, s7⟩
        go_simp
        with_reducible rfl
      rotate_left
      · simp only [Act.put, List.setIfInBounds_toArray, List.set_cons_zero, List.set_cons_succ, i64_w, i32_w]
        rfl
      refine take_ (i := 8) (N := some 109) (v := ?_) (a' := ?_) #[true, true, true, true, true, true, false, true, true, true, false, true, false, false, false, false, false, false, false, false, false, false] rfl rfl (by kernel_rfl) (fun _ _ _ h => h) (Or.inl ⟨by rfl, ?_⟩) hHeld ?_ ?_
      rotate_left
      · rintro w' ⟨s0, s1, s2, s3, s4, s5, s6, s7⟩
        go_simp
        with_reducible rfl
      rotate_left
      · simp only [Act.put, List.setIfInBounds_toArray, List.set_cons_zero, List.set_cons_succ, i64_w, i32_w]
        rfl
      refine take_ (i := 10) (N := some 111) (v := ?_) (a' := ?_) #[true, true, true, true, true, true, false, true, true, true, true, true, false, false, false, false, false, false, false, false, false, false] rfl rfl (by kernel_rfl) (fun _ _ _ h => h) (Or.inl ⟨by rfl, ?_⟩) hHeld ?_ ?_
      rotate_left
      · rintro w' ⟨s0, s1, s2, s3, s4, s5, s6, s7⟩
        go_simp
        with_reducible rfl
      rotate_left
      · simp only [Act.put, List.setIfInBounds_toArray, List.set_cons_zero, List.set_cons_succ, i64_w, i32_w]
        rfl
      refine take_ (i := 12) (N := some 113) (v := ?_) (a' := ?_) #[true, true, true, true, true, true, false, true, true, true, true, true, true, false, false, false, false, false, false, false, false, false] rfl rfl (by kernel_rfl) (fun _ _ _ h => h) (Or.inl ⟨by rfl, ?_⟩) hHeld ?_ ?_
      rotate_left
      · rintro w' ⟨s0, s1, s2, s3, s4, s5, s6, s7⟩
        go_simp
        with_reducible rfl
      rotate_left
      · simp only [Act.put, List.setIfInBounds_toArray, List.set_cons_zero, List.set_cons_succ, i64_w, i32_w]
        rfl
      refine pure_ (i := 13) (N := some 114) (v := ?_) (a' := ?_) #[true, true, true, true, true, true, false, true, true, true, true, true, true, true, false, false, false, false, false, false, false, false] rfl rfl (by kernel_rfl) (fun _ _ _ h => h) (Or.inl ⟨by rfl, ?_⟩) ?_ ?_
      rotate_left
      · intro w'
        go_simp
        with_reducible rfl
      rotate_left
      · simp only [Act.put, List.setIfInBounds_toArray, List.set_cons_zero, List.set_cons_succ, i64_w, i32_w]
        rfl
      refine one_ (i := 6) (N := some 107) #[true, true, true, true, true, true, true, true, true, true, true, true, true, true, false, false, false, false, false, false, false, false] rfl rfl (by kernel_rfl) (by decide) (fun K hK => ?_)
      refine goes_ Try.func22 (by kernel_rfl) rfl #[.agg #[.slice A5 ds.lasts.length c5, .slice A6 ds.waits.length c6, .int .i64 ds.armed, .int .i64 ds.limit, .int .i64 ds.done]] (by rfl) rfl rfl (by simp only [List.map_toArray, List.map_cons, List.map_nil]; rfl) ?_
      with_reducible refine (hnow.out _ hs0.out).mono ?_
      rintro e w5 ⟨u, rfl, hu, hb5⟩
      refine ⟨_, rfl, ?_⟩
      obtain ⟨A8, c8, rfl⟩ := Kd.R_slice hu
      rw [toI_length, hln.out] at hu ⊢
      obtain ⟨hps, hac, e6⟩ := part_string hu hab
      have e5 : (a : Int) + (b : Int) ≤ (c8 : Int) := by omega
      rw [hstr.out] at hps
      replace hu := Aside0.mk hu
      replace hb5 := Aside0.mk (hs0.out.trans hb5)
      refine hK.out _ _ ⟨(hX.out _ hb5.out).1, (hX.out _ hb5.out).2.1, (hX.out _ hb5.out).2.2.1, (hX.out _ hb5.out).2.2.2.1, (hX.out _ hb5.out).2.2.2.2.1, (hX.out _ hb5.out).2.2.2.2.2.1, (hX.out _ hb5.out).2.2.2.2.2.2.1, (hX.out _ hb5.out).2.2.2.2.2.2.2⟩ (fun hHeld => ?_)
      clear hK K
      refine norm_ (a' := ?_) ?_ ?_
      rotate_left
      · show Act.put _ (some 107) _ = _
        simp only [Act.put, List.setIfInBounds_toArray, List.set_cons_zero, List.set_cons_succ, i64_w, i32_w]
        rfl
      refine pure_ (i := 14) (N := some 115) (v := ?_) (a' := ?_) #[true, true, true, true, true, true, true, true, true, true, true, true, true, true, true, false, false, false, false, false, false, false] rfl rfl (by kernel_rfl) (fun _ _ _ h => h) (Or.inl ⟨by rfl, ?_⟩) ?_ ?_
      rotate_left
      · intro w'
        go_simp
        with_reducible rfl
      rotate_left
      · simp only [Act.put, List.setIfInBounds_toArray, List.set_cons_zero, List.set_cons_succ, i64_w, i32_w]
        rfl
      refine one_ (i := 15) (N := some 116) #[true, true, true, true, true, true, true, true, true, true, true, true, true, true, true, true, false, false, false, false, false, false] rfl rfl (by kernel_rfl) (by decide) (fun K hK => ?_)
      refine value_ (w1 := ?_) (v := ?_) (by rfl) rfl ?_ ?_
      rotate_left 2
      · go_simp
        constructor
        · rfl
        · rfl
      refine hK.out _ _ ⟨(hX.out _ hb5.out).1, (hX.out _ hb5.out).2.1, (hX.out _ hb5.out).2.2.1, (hX.out _ hb5.out).2.2.2.1, (hX.out _ hb5.out).2.2.2.2.1, (hX.out _ hb5.out).2.2.2.2.2.1, (hX.out _ hb5.out).2.2.2.2.2.2.1, (hX.out _ hb5.out).2.2.2.2.2.2.2⟩ (fun hHeld => ?_)
      clear hK K
      refine norm_ (a' := ?_) ?_ ?_
      rotate_left
      · show Act.put _ (some 116) _ = _
        simp only [Act.put, List.setIfInBounds_toArray, List.set_cons_zero, List.set_cons_succ, i64_w, i32_w]
        rfl
      refine pure_ (i := 16) (N := some 117) (v := ?_) (a' := ?_) #[true, true, true, true, true, true, true, true, true, true, true, true, true, true, true, true, true, false, false, false, false, false] rfl rfl (by kernel_rfl) (fun _ _ _ h => h) (Or.inl ⟨by rfl, ?_⟩) ?_ ?_
      rotate_left
      · intro w'
        go_simp
        with_reducible rfl
      rotate_left
      · simp only [Act.put, List.setIfInBounds_toArray, List.set_cons_zero, List.set_cons_succ, i64_w, i32_w]
        rfl
      refine pure_ (i := 17) (N := some 118) (v := ?_) (a' := ?_) #[true, true, true, true, true, true, true, true, true, true, true, true, true, true, true, true, true, true, false, false, false, false] rfl rfl (by kernel_rfl) (fun _ _ _ h => h) (Or.inl ⟨by rfl, ?_⟩) ?_ ?_
      rotate_left
      · intro w'
        go_simp
        with_reducible rfl
      rotate_left
      · simp only [Act.put, List.setIfInBounds_toArray, List.set_cons_zero, List.set_cons_succ, i64_w, i32_w]
        rfl
      refine pure_ (i := 18) (N := some 119) (v := ?_) (a' := ?_) #[true, true, true, true, true, true, true, true, true, true, true, true, true, true, true, true, true, true, true, false, false, false] rfl rfl (by kernel_rfl) (fun _ _ _ h => h) (Or.inl ⟨by rfl, ?_⟩) ?_ ?_
      rotate_left
      · intro w'
        go_simp
        with_reducible rfl
      rotate_left
      · simp only [Act.put, List.setIfInBounds_toArray, List.set_cons_zero, List.set_cons_succ, i64_w, i32_w]
        rfl
      refine one_ (i := 19) (N := some 120) #[true, true, true, true, true, true, true, true, true, true, true, true, true, true, true, true, true, true, true, true, false, false] rfl rfl (by kernel_rfl) (by decide) (fun K hK => ?_)
      refine goes_ Try.func10 (by kernel_rfl) rfl #[] (by rfl) rfl rfl (by simp only [List.map_toArray, List.map_nil]) ?_
      with_reducible refine (known_calls _).mono ?_
      rintro e w6 ⟨rfl, hb6⟩
      refine ⟨_, rfl, ?_⟩
      replace hb6 := Aside0.mk (below_then hb5.out hb5.out.size hb6)
      refine hK.out _ _ ⟨(hX.out _ hb6.out).1, (hX.out _ hb6.out).2.1, (hX.out _ hb6.out).2.2.1, (hX.out _ hb6.out).2.2.2.1, (hX.out _ hb6.out).2.2.2.2.1, (hX.out _ hb6.out).2.2.2.2.2.1, (hX.out _ hb6.out).2.2.2.2.2.2.1, (hX.out _ hb6.out).2.2.2.2.2.2.2⟩ (fun hHeld => ?_)
      clear hK K
      refine norm_ (a' := ?_) ?_ ?_
      rotate_left
      · show Act.put _ (some 120) _ = _
        simp only [Act.put, List.setIfInBounds_toArray, List.set_cons_zero, List.set_cons_succ, i64_w, i32_w]
        rfl
      refine pure_ (i := 20) (N := some 121) (v := ?_) (a' := ?_) #[true, true, true, true, true, true, true, true, true, true, true, true, true, true, true, true, true, true, true, true, true, false] rfl rfl (by kernel_rfl) (fun _ _ _ h => h) (Or.inl ⟨by rfl, ?_⟩) ?_ ?_
      rotate_left
      · intro w'
        go_simp
        with_reducible rfl
      rotate_left
      · simp only [Act.put, List.setIfInBounds_toArray, List.set_cons_zero, List.set_cons_succ, i64_w, i32_w]
        rfl
      refine pure_ (i := 21) (N := some 6) (v := ?_) (a' := ?_) #[true, true, true, true, true, true, true, true, true, true, true, true, true, true, true, true, true, true, true, true, true, true] rfl rfl (by kernel_rfl) (fun _ _ _ h => h) (Or.inl ⟨by rfl, ?_⟩) ?_ ?_
      rotate_left
      · intro w'
        go_simp
        with_reducible rfl
      rotate_left
      · simp only [Act.put, List.setIfInBounds_toArray, List.set_cons_zero, List.set_cons_succ, i64_w, i32_w]
        rfl
      refine done_ (by kernel_rfl) ?_
      all_goals go_wp2_with fail
      all_goals (
        go_ret
        exact ⟨rfl, below_then hb4.out hb4.out.size hb6.out⟩)
end Go.Proofs.Ytolighikimpbfaa
