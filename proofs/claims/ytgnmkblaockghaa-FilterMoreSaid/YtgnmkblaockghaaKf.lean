/- The reference's Right of an entry. -/
import Derived.Test.YtgnmkblaockghaaKd
import Derived.Test.YtgnmkblaockghaaPL2
set_option linter.unusedVariables false
set_option linter.unusedSimpArgs false
namespace Go.Proofs.Ytgnmkblaockghaa
open Go.RowKit Go.Shelf Go.Proofs.YtgnmkblaockghaaW.PrintWords Go.Proofs.YtgnmkblaockghaaW.PrintMore Go.Proofs.YtgnmkblaockghaaW.PrintLast

open PFilterBounds in
theorem values_l0 (l : List ByteArray) (hl : l.length ≤ 1000) : ∀ q j, j + q = l.length → cardcaseref07_values.l0 (q + 1) l (j : Int) = some ((l.drop j).all valOk) := by
  intro q
  induction q with
  | zero =>
    intro j hj
    rw [cardcaseref07_values.l0, if_neg (by omega), List.drop_eq_nil_of_le (by omega)]
    rfl
  | succ q ih =>
    intro j hj
    have hjl : j < l.length := by omega
    have hr : rdOf ByteArray.empty l (j : Int) = l[j] := by unfold rdOf; simp [List.getD_eq_getElem?_getD, hjl]
    have e4 : wrap64 ((j : Int) + 1) = ((j + 1 : Nat) : Int) := by rw [wrap_in _ (by omega)]; omega
    rw [cardcaseref07_values.l0, if_pos (by omega), if_pos (by omega), hr, e4, ih (j + 1) (by omega), List.drop_eq_getElem_cons hjl, List.all_cons]
    unfold valOk
    by_cases c1 : (l[j].size : Int) < 1
    · rw [if_pos c1, decide_eq_false (show ¬ (1 ≤ (l[j].size : Int)) by omega)]; rfl
    · rw [if_neg c1, decide_eq_true (show (1 ≤ (l[j].size : Int)) by omega)]
      by_cases c2 : (l[j].size : Int) > 2048
      · rw [if_pos c2, decide_eq_false (show ¬ ((l[j].size : Int) ≤ 2048) by omega)]; rfl
      · rw [if_neg c2, decide_eq_true (show ((l[j].size : Int) ≤ 2048) by omega)]; rfl
theorem rvalues_calls (A : Option Addr) (c : Nat) (l : Fld) (w : World) (hl : l.length ≤ 1000) (hc : l.length ≤ c) (hC : st.C w A l.length l) : Calls Try.prog 37 #[.slice A l.length c] w fun e w' => e = .returned (.bool (l.all valOk)) ∧ Below w.heap.size w w' := by
  refine (PFilterBounds.cardcaseref07_values.calls (l.length + 1) A c l (l.all valOk) w hC hc ?_).mono ?_
  · have := values_l0 l hl l.length 0 (by omega)
    rw [List.drop_zero] at this
    exact this
  · rintro e w' ⟨rfl, hd⟩
    exact ⟨rfl, hd.below⟩
theorem rname_calls' (s : ByteArray) (w : World) (hs : s.size ≤ 12000) : Calls Try.prog 35 #[.string s] w fun e w' => e = .returned (.bool (enameOk s)) ∧ Below w.heap.size w w' := by
  rw [ename_eq]
  refine (PFilterBounds.rname_calls s hs w).mono ?_
  rintro e w' ⟨rfl, hd⟩
  exact ⟨rfl, hd.below⟩
set_option maxRecDepth 20000 in
set_option maxHeartbeats 16000000 in
theorem rentry_calls (A : Option Addr) (c : Nat) (l : List At) (w : World) (hl : MildE l) (hc : l.length ≤ c) (hC : kA.C w A l.length l) :
    Calls Try.prog 15 #[.slice A l.length c] w fun e w' => e = .returned (.bool (entOk l)) ∧ Below w.heap.size w w' := by
  obtain ⟨M, hM⟩ : ∃ M, l.length = M := ⟨_, rfl⟩
  have hl1 := hl.1
  have hl2 := Aside0.mk hl.2
  replace hC := Aside0.mk hC
  have hbad : l.all attrOk = false → entOk l = false := fun h => by unfold entOk; rw [h]; rfl
  have hbadR : rise (l.map fun a => a.f0) = false → entOk l = false := fun h => by unfold entOk; rw [h]; simp
  have hlong : 24 < l.length → entOk l = false := fun h => by unfold entOk; rw [decide_eq_true (show (24 : Int) < (l.length : Int) by omega)]; simp
  have hend : l.length ≤ 24 → l.all attrOk = true → rise (l.map fun a => a.f0) = true → entOk l = true := fun h h1 h2 => by unfold entOk; rw [h1, h2, decide_eq_false (show ¬ (24 : Int) < (l.length : Int) by omega)]; rfl
  have hall0 : (l.take 0).all attrOk = true := rfl
  have hris0 := rise_start (l.map fun a => a.f0)
  have hsn := all_take_snoc attrOk l
  have hsf := all_false_at attrOk l
  have hrn := fun (k : Nat) (h : RiseTo (l.map fun a => a.f0) k) (hk : k < l.length) (h1 : 1 ≤ k) (e : Op.bytesLess (l[k - 1]'(by omega)).f0.toList l[k].f0.toList = true) => rise_next h (by simpa using hk) h1 (by simpa using e)
  have hro := fun (k : Nat) (hk : k < l.length) (h1 : 1 ≤ k) (e : Op.bytesLess (l[k - 1]'(by omega)).f0.toList l[k].f0.toList = false) => rise_no (l := l.map fun a => a.f0) (k := k) (by simpa using hk) h1 (by simpa using e)
  have hry := fun (k : Nat) (h : RiseTo (l.map fun a => a.f0) k) (hk : l.length ≤ k) => rise_yes h (by simpa using hk)
  generalize hNM : (l.map fun a => a.f0) = names at *
  obtain ⟨r, hr⟩ : ∃ r, entOk l = r := ⟨_, rfl⟩
  rw [hr] at hbad hbadR hlong hend ⊢
  rw [hM] at hl1 hend hlong hc ⊢
  replace hM := Aside0.mk hM
  replace hbad := Aside0.mk hbad
  replace hbadR := Aside0.mk hbadR
  replace hend := Aside0.mk hend
  replace hsn := Aside0.mk hsn
  replace hsf := Aside0.mk hsf
  replace hrn := Aside0.mk hrn
  replace hro := Aside0.mk hro
  replace hry := Aside0.mk hry
  clear hl hr hNM
  have HB : Aside0 (Below w.heap.size w w) := Aside0.mk (Below.refl _ _)
  by_cases h24 : M ≤ 24
  · have d24 : decide ((M : Int) > 24) = false := decide_eq_false (by omega)
    replace h24 := Aside0.mk h24
    clear hlong
    go_enter Try.func15, Try.ntmps15
    go_wp2_with fail
    go_loopw [3, 5] (fun s3 s5 wr => ∃ k : Nat, k ≤ M ∧ s3 = .int .i64 k ∧ Aside0 (Below w.heap.size w wr) ∧ Aside0 ((l.take k).all attrOk = true) ∧ Aside0 (RiseTo names (max k 1))) (fun s3 _ _ => M - (intOf s3).toNat)
    case atStart => exact ⟨0, Nat.zero_le _, rfl, HB, ⟨hall0⟩, ⟨hris0⟩⟩
    case round =>
      clear HB hall0 hris0
      obtain ⟨k, hk, rfl, HB, hal, hri⟩ := hrel
      by_cases hlt : k < M
      · have hkl : k < l.length := by rw [hM.out]; exact hlt
        obtain ⟨ad, A6, c6, e, p0, p1, hc6, hC6⟩ := kA_at hC.out k hkl
        subst e
        replace p0 := pw_cell_below HB.out p0
        replace p1 := pw_cell_below HB.out p1
        have hnx := Aside0.mk (hsn.out k hkl hal.out)
        have hst := Aside0.mk (hsf.out k hkl)
        obtain ⟨hs0, hs1, hs2⟩ := hl2.out l[k] (List.getElem_mem hkl)
        have hat : attrOk l[k] = attrB (enameOk l[k].f0) ((small l[k].f0).toList == l[k].f0.toList) (decide ((l[k].f1.length : Int) < 1)) (decide (16 < (l[k].f1.length : Int))) (l[k].f1.all valOk) (rise l[k].f1) := rfl
        rw [hat] at hnx hst
        clear hat
        have hpre : Aside0 (k ≠ 0 → ∃ y : ByteArray, (∀ W, Below w.heap.size w W → W.cell? (ad.add ((k - 1) * 2)) = some (.string y)) ∧ (Op.bytesLess y.toList l[k].f0.toList = true → RiseTo names (max (k + 1) 1)) ∧ (Op.bytesLess y.toList l[k].f0.toList = false → rise names = false)) := ⟨fun h0 => by
          obtain ⟨ad', A7, c7, e7, z0, z1, _, _⟩ := kA_at hC.out (k - 1) (by omega)
          injection e7 with e7
          subst e7
          refine ⟨l[k - 1].f0, fun W hW => pw_cell_below hW z0, fun e => ?_, fun e => hro.out k hkl (by omega) e⟩
          have h1 := hri.out
          rw [show max k 1 = k by omega] at h1
          rw [show max (k + 1) 1 = k + 1 by omega]
          exact hrn.out k h1 hkl (by omega) e⟩
        obtain ⟨y, hy⟩ : ∃ y, l[k] = y := ⟨_, rfl⟩
        rw [hy] at p0 p1 hc6 hC6 hs0 hs1 hs2 hnx hst hpre
        clear hy hal
        obtain ⟨s, vs⟩ := y
        dsimp only at p0 p1 hc6 hC6 hs0 hs1 hs2 hnx hst hpre
        have hb2 := below_alloc (Below.refl wr.heap.size wr) (.cells #[.string s, .slice A6 vs.length c6] 47)
        have hX := heap_alloc_new wr (.cells #[.string s, .slice A6 vs.length c6] 47)
        obtain ⟨w2, hw2⟩ : ∃ w2, wr.alloc (.cells #[.string s, .slice A6 vs.length c6] 47) = w2 := ⟨_, rfl⟩
        rw [hw2] at hb2 hX
        have hbw2 := Aside0.mk (below_then HB.out HB.out.size hb2)
        have hX2 := Aside0.mk hX
        have z0 : w2.cell? ⟨wr.heap.size, 0, none⟩ = some (.string s) := (blk_cell hX 0).trans rfl
        have z1 : w2.cell? ⟨wr.heap.size, 1, none⟩ = some (.slice A6 vs.length c6) := (blk_cell hX 1).trans rfl
        have z0 := pw_cell_below (below_drew (Below.refl w2.heap.size w2)) z0
        have z1 := pw_cell_below (below_drew (Below.refl w2.heap.size w2)) z1
        have hn := Aside0.mk (fun W => (rname_calls' s W hs0))
        have hsm := Aside0.mk (fun W => PFilterBounds.rsmall_calls s hs0 W)
        have hC6' := Aside0.mk (Kd.C_below hC6 HB.out)
        have hC6w := Aside0.mk hC6
        have hva := Aside0.mk (fun W (h : Below w.heap.size w W) => rvalues_calls A6 c6 vs W hs1 hc6 (Kd.C_below hC6 h))
        have hbd := Aside0.mk (below_drew hbw2.out)
        have i1 : (0 : Int) ≤ (k : Int) := by omega
        have i2 : (k : Int) < (M : Int) := by omega
        have hris := Aside0.mk (fun (q : Nat) (h : RiseTo vs q) (hq : q < vs.length) (h1 : 1 ≤ q) => And.intro (fun e => rise_next h hq h1 e) (fun e => rise_no (l := vs) hq h1 e))
        have hris0 := Aside0.mk (rise_start vs)
        have hrisy := Aside0.mk (fun (q : Nat) (h : RiseTo vs q) (hq : vs.length ≤ q) => rise_yes h hq)
        clear hb2 hX hs2 hkl hC6
        obtain ⟨N, hN⟩ : ∃ N, vs.length = N := ⟨_, rfl⟩
        rw [hN] at p1 z1 hst hnx hva hc6 hs1 hrisy hw2 hX2
        replace hN := Aside0.mk hN
        generalize enameOk s = a at *
        generalize small s = t at *
        generalize hbq : (t.toList == s.toList) = b at *
        generalize hcq : decide ((N : Int) < 1) = cq at *
        generalize hdq : decide (16 < (N : Int)) = dq at *
        generalize vs.all valOk = eq at *
        generalize hfq : rise vs = fq at *
        replace hfq := Aside0.mk hfq
        cases a with
        | false =>
          have hr := hbad.out (hst.out rfl)
          subst hr
          go_wp2_with fail
          refine start_ (n := 45) (S := fun w' => w'.cell? ⟨wr.heap.size, 0, none⟩ = some (.string s) ∧ w'.cell? ⟨wr.heap.size, 1, none⟩ = some (.slice A6 N c6)) (ds := []) (B_ 45 0) (by kernel_rfl) rfl rfl ⟨z0, z1⟩ (fun hHeld => ?_)
          refine pn_ 0 19 (B_ 45 1) rfl rfl ?_
          refine tk_ 1 20 (B_ 45 3) rfl rfl hHeld (by rintro w' ⟨s0, s1⟩; go_simp; with_reducible rfl) ?_
          refine one_ (i := 2) (N := some 21) (B_ 45 7) rfl rfl (by kernel_rfl) (by decide) (fun K hK => ?_)
          refine goes_ Try.func35 (by kernel_rfl) rfl #[.string s] (by rfl) rfl rfl (by simp only [List.map_toArray, List.map_cons, List.map_nil]; rfl) ?_
          with_reducible refine ((hn.out _)).mono ?_
          rintro e x1 ⟨rfl, hb1⟩
          refine ⟨_, rfl, ?_⟩
          have hb1 := Aside0.mk hb1
          have z0 := pw_cell_below hb1.out z0
          have z1 := pw_cell_below hb1.out z1
          have hwb1 := Aside0.mk (below_then hbd.out hbd.out.size hb1.out)
          refine hK.out _ _ ⟨(And.intro z0 z1).1, (And.intro z0 z1).2⟩ (fun hHeld => ?_)
          clear hK K
          refine nm_ 21 ?_
          refine pn_ 3 22 (B_ 45 15) rfl rfl ?_
          refine pn_ 4 23 (B_ 45 31) rfl rfl ?_
          refine po_ 5 24 (B_ 45 63) rfl rfl ?_
          refine po_ 6 25 (B_ 45 127) rfl rfl ?_
          refine po_ 7 26 (B_ 45 255) rfl rfl ?_
          refine po_ 8 27 (B_ 45 511) rfl rfl ?_
          refine po_ 9 28 (B_ 45 1023) rfl rfl ?_
          refine po_ 10 29 (B_ 45 2047) rfl rfl ?_
          refine pn_ 11 30 (B_ 45 4095) rfl rfl ?_
          refine pn_ 12 31 (B_ 45 8191) rfl rfl ?_
          refine po_ 13 32 (B_ 45 16383) rfl rfl ?_
          refine po_ 14 33 (B_ 45 32767) rfl rfl ?_
          refine po_ 15 34 (B_ 45 65535) rfl rfl ?_
          refine po_ 16 35 (B_ 45 131071) rfl rfl ?_
          refine pn_ 17 36 (B_ 45 262143) rfl rfl ?_
          refine pn_ 18 37 (B_ 45 524287) rfl rfl ?_
          refine po_ 19 38 (B_ 45 1048575) rfl rfl ?_
          refine po_ 20 39 (B_ 45 2097151) rfl rfl ?_
          refine po_ 21 40 (B_ 45 4194303) rfl rfl ?_
          refine po_ 22 41 (B_ 45 8388607) rfl rfl ?_
          refine pn_ 23 42 (B_ 45 16777215) rfl rfl ?_
          refine pn_ 24 43 (B_ 45 33554431) rfl rfl ?_
          refine po_ 25 44 (B_ 45 67108863) rfl rfl ?_
          refine po_ 26 45 (B_ 45 134217727) rfl rfl ?_
          refine po_ 27 46 (B_ 45 268435455) rfl rfl ?_
          refine po_ 28 47 (B_ 45 536870911) rfl rfl ?_
          refine pn_ 29 48 (B_ 45 1073741823) rfl rfl ?_
          refine pn_ 30 49 (B_ 45 2147483647) rfl rfl ?_
          refine po_ 31 50 (B_ 45 4294967295) rfl rfl ?_
          refine po_ 32 51 (B_ 45 8589934591) rfl rfl ?_
          refine po_ 33 52 (B_ 45 17179869183) rfl rfl ?_
          refine po_ 34 53 (B_ 45 34359738367) rfl rfl ?_
          refine po_ 35 54 (B_ 45 68719476735) rfl rfl ?_
          refine po_ 36 55 (B_ 45 137438953471) rfl rfl ?_
          refine po_ 37 56 (B_ 45 274877906943) rfl rfl ?_
          refine po_ 38 57 (B_ 45 549755813887) rfl rfl ?_
          refine po_ 39 58 (B_ 45 1099511627775) rfl rfl ?_
          refine po_ 40 59 (B_ 45 2199023255551) rfl rfl ?_
          refine po_ 41 60 (B_ 45 4398046511103) rfl rfl ?_
          refine po_ 42 61 (B_ 45 8796093022207) rfl rfl ?_
          refine po_ 43 62 (B_ 45 17592186044415) rfl rfl ?_
          refine pn_ 44 63 (B_ 45 35184372088831) rfl rfl ?_
          refine done_ (by kernel_rfl) ?_
          go_wp2_with fail
          go_ret
          exact ⟨rfl, hwb1.out⟩
        | true =>
          cases b with
          | false =>
            have hbq2 : (!(t.toList == s.toList)) = true := by rw [hbq]; rfl
            have hr := hbad.out (hst.out rfl)
            subst hr
            go_wp2_with fail
            refine start_ (n := 45) (S := fun w' => w'.cell? ⟨wr.heap.size, 0, none⟩ = some (.string s) ∧ w'.cell? ⟨wr.heap.size, 1, none⟩ = some (.slice A6 N c6)) (ds := []) (B_ 45 0) (by kernel_rfl) rfl rfl ⟨z0, z1⟩ (fun hHeld => ?_)
            refine pn_ 0 19 (B_ 45 1) rfl rfl ?_
            refine tk_ 1 20 (B_ 45 3) rfl rfl hHeld (by rintro w' ⟨s0, s1⟩; go_simp; with_reducible rfl) ?_
            refine one_ (i := 2) (N := some 21) (B_ 45 7) rfl rfl (by kernel_rfl) (by decide) (fun K hK => ?_)
            refine goes_ Try.func35 (by kernel_rfl) rfl #[.string s] (by rfl) rfl rfl (by simp only [List.map_toArray, List.map_cons, List.map_nil]; rfl) ?_
            with_reducible refine ((hn.out _)).mono ?_
            rintro e x1 ⟨rfl, hb1⟩
            refine ⟨_, rfl, ?_⟩
            have hb1 := Aside0.mk hb1
            have z0 := pw_cell_below hb1.out z0
            have z1 := pw_cell_below hb1.out z1
            have hwb1 := Aside0.mk (below_then hbd.out hbd.out.size hb1.out)
            refine hK.out _ _ ⟨(And.intro z0 z1).1, (And.intro z0 z1).2⟩ (fun hHeld => ?_)
            clear hK K
            refine nm_ 21 ?_
            refine pn_ 3 22 (B_ 45 15) rfl rfl ?_
            refine pn_ 4 23 (B_ 45 31) rfl rfl ?_
            refine pn_ 5 24 (B_ 45 63) rfl rfl ?_
            refine pn_ 8 27 (B_ 45 319) rfl rfl ?_
            refine tk_ 6 25 (B_ 45 383) rfl rfl hHeld (by rintro w' ⟨s0, s1⟩; go_simp; with_reducible rfl) ?_
            refine tk_ 9 28 (B_ 45 895) rfl rfl hHeld (by rintro w' ⟨s0, s1⟩; go_simp; with_reducible rfl) ?_
            refine one_ (i := 7) (N := some 26) (B_ 45 1023) rfl rfl (by kernel_rfl) (by decide) (fun K hK => ?_)
            refine goes_ Try.func36 (by kernel_rfl) rfl #[.string s] (by rfl) rfl rfl (by simp only [List.map_toArray, List.map_cons, List.map_nil]; rfl) ?_
            with_reducible refine ((hsm.out x1)).mono ?_
            rintro e x2 ⟨rfl, hb2⟩
            refine ⟨_, rfl, ?_⟩
            have hb2 := Aside0.mk hb2
            have z0 := pw_cell_below hb2.out z0
            have z1 := pw_cell_below hb2.out z1
            have hwb2 := Aside0.mk (below_then hwb1.out hwb1.out.size hb2.out)
            refine hK.out _ _ ⟨(And.intro z0 z1).1, (And.intro z0 z1).2⟩ (fun hHeld => ?_)
            clear hK K
            refine nm_ 26 ?_
            refine pn_ 10 29 (B_ 45 2047) rfl rfl ?_
            refine pn_ 11 30 (B_ 45 4095) rfl rfl ?_
            refine pn_ 12 31 (B_ 45 8191) rfl rfl ?_
            refine po_ 13 32 (B_ 45 16383) rfl rfl ?_
            refine po_ 14 33 (B_ 45 32767) rfl rfl ?_
            refine po_ 15 34 (B_ 45 65535) rfl rfl ?_
            refine po_ 16 35 (B_ 45 131071) rfl rfl ?_
            refine pn_ 17 36 (B_ 45 262143) rfl rfl ?_
            refine pn_ 18 37 (B_ 45 524287) rfl rfl ?_
            refine po_ 19 38 (B_ 45 1048575) rfl rfl ?_
            refine po_ 20 39 (B_ 45 2097151) rfl rfl ?_
            refine po_ 21 40 (B_ 45 4194303) rfl rfl ?_
            refine po_ 22 41 (B_ 45 8388607) rfl rfl ?_
            refine pn_ 23 42 (B_ 45 16777215) rfl rfl ?_
            refine pn_ 24 43 (B_ 45 33554431) rfl rfl ?_
            refine po_ 25 44 (B_ 45 67108863) rfl rfl ?_
            refine po_ 26 45 (B_ 45 134217727) rfl rfl ?_
            refine po_ 27 46 (B_ 45 268435455) rfl rfl ?_
            refine po_ 28 47 (B_ 45 536870911) rfl rfl ?_
            refine pn_ 29 48 (B_ 45 1073741823) rfl rfl ?_
            refine pn_ 30 49 (B_ 45 2147483647) rfl rfl ?_
            refine po_ 31 50 (B_ 45 4294967295) rfl rfl ?_
            refine po_ 32 51 (B_ 45 8589934591) rfl rfl ?_
            refine po_ 33 52 (B_ 45 17179869183) rfl rfl ?_
            refine po_ 34 53 (B_ 45 34359738367) rfl rfl ?_
            refine po_ 35 54 (B_ 45 68719476735) rfl rfl ?_
            refine po_ 36 55 (B_ 45 137438953471) rfl rfl ?_
            refine po_ 37 56 (B_ 45 274877906943) rfl rfl ?_
            refine po_ 38 57 (B_ 45 549755813887) rfl rfl ?_
            refine po_ 39 58 (B_ 45 1099511627775) rfl rfl ?_
            refine po_ 40 59 (B_ 45 2199023255551) rfl rfl ?_
            refine po_ 41 60 (B_ 45 4398046511103) rfl rfl ?_
            refine po_ 42 61 (B_ 45 8796093022207) rfl rfl ?_
            refine po_ 43 62 (B_ 45 17592186044415) rfl rfl ?_
            refine pn_ 44 63 (B_ 45 35184372088831) rfl rfl ?_
            refine done_ (by kernel_rfl) ?_
            go_wp2_with fail
            go_ret
            exact ⟨rfl, hwb2.out⟩
          | true =>
            have hbq2 : (!(t.toList == s.toList)) = false := by rw [hbq]; rfl
            cases cq with
            | true =>
              have hr := hbad.out (hst.out rfl)
              subst hr
              go_wp2_with fail
              refine start_ (n := 45) (S := fun w' => w'.cell? ⟨wr.heap.size, 0, none⟩ = some (.string s) ∧ w'.cell? ⟨wr.heap.size, 1, none⟩ = some (.slice A6 N c6)) (ds := []) (B_ 45 0) (by kernel_rfl) rfl rfl ⟨z0, z1⟩ (fun hHeld => ?_)
              refine pn_ 0 19 (B_ 45 1) rfl rfl ?_
              refine tk_ 1 20 (B_ 45 3) rfl rfl hHeld (by rintro w' ⟨s0, s1⟩; go_simp; with_reducible rfl) ?_
              refine one_ (i := 2) (N := some 21) (B_ 45 7) rfl rfl (by kernel_rfl) (by decide) (fun K hK => ?_)
              refine goes_ Try.func35 (by kernel_rfl) rfl #[.string s] (by rfl) rfl rfl (by simp only [List.map_toArray, List.map_cons, List.map_nil]; rfl) ?_
              with_reducible refine ((hn.out _)).mono ?_
              rintro e x1 ⟨rfl, hb1⟩
              refine ⟨_, rfl, ?_⟩
              have hb1 := Aside0.mk hb1
              have z0 := pw_cell_below hb1.out z0
              have z1 := pw_cell_below hb1.out z1
              have hwb1 := Aside0.mk (below_then hbd.out hbd.out.size hb1.out)
              refine hK.out _ _ ⟨(And.intro z0 z1).1, (And.intro z0 z1).2⟩ (fun hHeld => ?_)
              clear hK K
              refine nm_ 21 ?_
              refine pn_ 3 22 (B_ 45 15) rfl rfl ?_
              refine pn_ 4 23 (B_ 45 31) rfl rfl ?_
              refine pn_ 5 24 (B_ 45 63) rfl rfl ?_
              refine pn_ 8 27 (B_ 45 319) rfl rfl ?_
              refine tk_ 6 25 (B_ 45 383) rfl rfl hHeld (by rintro w' ⟨s0, s1⟩; go_simp; with_reducible rfl) ?_
              refine tk_ 9 28 (B_ 45 895) rfl rfl hHeld (by rintro w' ⟨s0, s1⟩; go_simp; with_reducible rfl) ?_
              refine one_ (i := 7) (N := some 26) (B_ 45 1023) rfl rfl (by kernel_rfl) (by decide) (fun K hK => ?_)
              refine goes_ Try.func36 (by kernel_rfl) rfl #[.string s] (by rfl) rfl rfl (by simp only [List.map_toArray, List.map_cons, List.map_nil]; rfl) ?_
              with_reducible refine ((hsm.out x1)).mono ?_
              rintro e x2 ⟨rfl, hb2⟩
              refine ⟨_, rfl, ?_⟩
              have hb2 := Aside0.mk hb2
              have z0 := pw_cell_below hb2.out z0
              have z1 := pw_cell_below hb2.out z1
              have hwb2 := Aside0.mk (below_then hwb1.out hwb1.out.size hb2.out)
              refine hK.out _ _ ⟨(And.intro z0 z1).1, (And.intro z0 z1).2⟩ (fun hHeld => ?_)
              clear hK K
              refine nm_ 26 ?_
              refine pn_ 10 29 (B_ 45 2047) rfl rfl ?_
              refine pn_ 11 30 (B_ 45 4095) rfl rfl ?_
              refine pn_ 12 31 (B_ 45 8191) rfl rfl ?_
              refine pn_ 13 32 (B_ 45 16383) rfl rfl ?_
              refine tk_ 14 33 (B_ 45 32767) rfl rfl hHeld (by rintro w' ⟨s0, s1⟩; go_simp; with_reducible rfl) ?_
              refine pn_ 15 34 (B_ 45 65535) rfl rfl ?_
              refine pn_ 16 35 (B_ 45 131071) rfl rfl ?_
              refine pn_ 17 36 (B_ 45 262143) rfl rfl ?_
              refine pn_ 18 37 (B_ 45 524287) rfl rfl ?_
              refine po_ 19 38 (B_ 45 1048575) rfl rfl ?_
              refine po_ 20 39 (B_ 45 2097151) rfl rfl ?_
              refine po_ 21 40 (B_ 45 4194303) rfl rfl ?_
              refine po_ 22 41 (B_ 45 8388607) rfl rfl ?_
              refine pn_ 23 42 (B_ 45 16777215) rfl rfl ?_
              refine pn_ 24 43 (B_ 45 33554431) rfl rfl ?_
              refine po_ 25 44 (B_ 45 67108863) rfl rfl ?_
              refine po_ 26 45 (B_ 45 134217727) rfl rfl ?_
              refine po_ 27 46 (B_ 45 268435455) rfl rfl ?_
              refine po_ 28 47 (B_ 45 536870911) rfl rfl ?_
              refine pn_ 29 48 (B_ 45 1073741823) rfl rfl ?_
              refine pn_ 30 49 (B_ 45 2147483647) rfl rfl ?_
              refine po_ 31 50 (B_ 45 4294967295) rfl rfl ?_
              refine po_ 32 51 (B_ 45 8589934591) rfl rfl ?_
              refine po_ 33 52 (B_ 45 17179869183) rfl rfl ?_
              refine po_ 34 53 (B_ 45 34359738367) rfl rfl ?_
              refine po_ 35 54 (B_ 45 68719476735) rfl rfl ?_
              refine po_ 36 55 (B_ 45 137438953471) rfl rfl ?_
              refine po_ 37 56 (B_ 45 274877906943) rfl rfl ?_
              refine po_ 38 57 (B_ 45 549755813887) rfl rfl ?_
              refine po_ 39 58 (B_ 45 1099511627775) rfl rfl ?_
              refine po_ 40 59 (B_ 45 2199023255551) rfl rfl ?_
              refine po_ 41 60 (B_ 45 4398046511103) rfl rfl ?_
              refine po_ 42 61 (B_ 45 8796093022207) rfl rfl ?_
              refine po_ 43 62 (B_ 45 17592186044415) rfl rfl ?_
              refine pn_ 44 63 (B_ 45 35184372088831) rfl rfl ?_
              refine done_ (by kernel_rfl) ?_
              go_wp2_with fail
              go_ret
              exact ⟨rfl, hwb2.out⟩
            | false =>
              cases dq with
              | true =>
                have hr := hbad.out (hst.out rfl)
                subst hr
                go_wp2_with fail
                refine start_ (n := 45) (S := fun w' => w'.cell? ⟨wr.heap.size, 0, none⟩ = some (.string s) ∧ w'.cell? ⟨wr.heap.size, 1, none⟩ = some (.slice A6 N c6)) (ds := []) (B_ 45 0) (by kernel_rfl) rfl rfl ⟨z0, z1⟩ (fun hHeld => ?_)
                refine pn_ 0 19 (B_ 45 1) rfl rfl ?_
                refine tk_ 1 20 (B_ 45 3) rfl rfl hHeld (by rintro w' ⟨s0, s1⟩; go_simp; with_reducible rfl) ?_
                refine one_ (i := 2) (N := some 21) (B_ 45 7) rfl rfl (by kernel_rfl) (by decide) (fun K hK => ?_)
                refine goes_ Try.func35 (by kernel_rfl) rfl #[.string s] (by rfl) rfl rfl (by simp only [List.map_toArray, List.map_cons, List.map_nil]; rfl) ?_
                with_reducible refine ((hn.out _)).mono ?_
                rintro e x1 ⟨rfl, hb1⟩
                refine ⟨_, rfl, ?_⟩
                have hb1 := Aside0.mk hb1
                have z0 := pw_cell_below hb1.out z0
                have z1 := pw_cell_below hb1.out z1
                have hwb1 := Aside0.mk (below_then hbd.out hbd.out.size hb1.out)
                refine hK.out _ _ ⟨(And.intro z0 z1).1, (And.intro z0 z1).2⟩ (fun hHeld => ?_)
                clear hK K
                refine nm_ 21 ?_
                refine pn_ 3 22 (B_ 45 15) rfl rfl ?_
                refine pn_ 4 23 (B_ 45 31) rfl rfl ?_
                refine pn_ 5 24 (B_ 45 63) rfl rfl ?_
                refine pn_ 8 27 (B_ 45 319) rfl rfl ?_
                refine tk_ 6 25 (B_ 45 383) rfl rfl hHeld (by rintro w' ⟨s0, s1⟩; go_simp; with_reducible rfl) ?_
                refine tk_ 9 28 (B_ 45 895) rfl rfl hHeld (by rintro w' ⟨s0, s1⟩; go_simp; with_reducible rfl) ?_
                refine one_ (i := 7) (N := some 26) (B_ 45 1023) rfl rfl (by kernel_rfl) (by decide) (fun K hK => ?_)
                refine goes_ Try.func36 (by kernel_rfl) rfl #[.string s] (by rfl) rfl rfl (by simp only [List.map_toArray, List.map_cons, List.map_nil]; rfl) ?_
                with_reducible refine ((hsm.out x1)).mono ?_
                rintro e x2 ⟨rfl, hb2⟩
                refine ⟨_, rfl, ?_⟩
                have hb2 := Aside0.mk hb2
                have z0 := pw_cell_below hb2.out z0
                have z1 := pw_cell_below hb2.out z1
                have hwb2 := Aside0.mk (below_then hwb1.out hwb1.out.size hb2.out)
                refine hK.out _ _ ⟨(And.intro z0 z1).1, (And.intro z0 z1).2⟩ (fun hHeld => ?_)
                clear hK K
                refine nm_ 26 ?_
                refine pn_ 10 29 (B_ 45 2047) rfl rfl ?_
                refine pn_ 11 30 (B_ 45 4095) rfl rfl ?_
                refine pn_ 12 31 (B_ 45 8191) rfl rfl ?_
                refine pn_ 13 32 (B_ 45 16383) rfl rfl ?_
                refine tk_ 14 33 (B_ 45 32767) rfl rfl hHeld (by rintro w' ⟨s0, s1⟩; go_simp; with_reducible rfl) ?_
                refine pn_ 15 34 (B_ 45 65535) rfl rfl ?_
                refine pn_ 16 35 (B_ 45 131071) rfl rfl ?_
                refine pn_ 17 36 (B_ 45 262143) rfl rfl ?_
                refine pn_ 18 37 (B_ 45 524287) rfl rfl ?_
                refine pn_ 19 38 (B_ 45 1048575) rfl rfl ?_
                refine tk_ 20 39 (B_ 45 2097151) rfl rfl hHeld (by rintro w' ⟨s0, s1⟩; go_simp; with_reducible rfl) ?_
                refine pn_ 21 40 (B_ 45 4194303) rfl rfl ?_
                refine pn_ 22 41 (B_ 45 8388607) rfl rfl ?_
                refine pn_ 23 42 (B_ 45 16777215) rfl rfl ?_
                refine pn_ 24 43 (B_ 45 33554431) rfl rfl ?_
                refine po_ 25 44 (B_ 45 67108863) rfl rfl ?_
                refine po_ 26 45 (B_ 45 134217727) rfl rfl ?_
                refine po_ 27 46 (B_ 45 268435455) rfl rfl ?_
                refine po_ 28 47 (B_ 45 536870911) rfl rfl ?_
                refine pn_ 29 48 (B_ 45 1073741823) rfl rfl ?_
                refine pn_ 30 49 (B_ 45 2147483647) rfl rfl ?_
                refine po_ 31 50 (B_ 45 4294967295) rfl rfl ?_
                refine po_ 32 51 (B_ 45 8589934591) rfl rfl ?_
                refine po_ 33 52 (B_ 45 17179869183) rfl rfl ?_
                refine po_ 34 53 (B_ 45 34359738367) rfl rfl ?_
                refine po_ 35 54 (B_ 45 68719476735) rfl rfl ?_
                refine po_ 36 55 (B_ 45 137438953471) rfl rfl ?_
                refine po_ 37 56 (B_ 45 274877906943) rfl rfl ?_
                refine po_ 38 57 (B_ 45 549755813887) rfl rfl ?_
                refine po_ 39 58 (B_ 45 1099511627775) rfl rfl ?_
                refine po_ 40 59 (B_ 45 2199023255551) rfl rfl ?_
                refine po_ 41 60 (B_ 45 4398046511103) rfl rfl ?_
                refine po_ 42 61 (B_ 45 8796093022207) rfl rfl ?_
                refine po_ 43 62 (B_ 45 17592186044415) rfl rfl ?_
                refine pn_ 44 63 (B_ 45 35184372088831) rfl rfl ?_
                refine done_ (by kernel_rfl) ?_
                go_wp2_with fail
                go_ret
                exact ⟨rfl, hwb2.out⟩
              | false =>
                cases eq with
                | false =>
                  have hr := hbad.out (hst.out rfl)
                  subst hr
                  go_wp2_with fail
                  refine start_ (n := 45) (S := fun w' => w'.cell? ⟨wr.heap.size, 0, none⟩ = some (.string s) ∧ w'.cell? ⟨wr.heap.size, 1, none⟩ = some (.slice A6 N c6)) (ds := []) (B_ 45 0) (by kernel_rfl) rfl rfl ⟨z0, z1⟩ (fun hHeld => ?_)
                  refine pn_ 0 19 (B_ 45 1) rfl rfl ?_
                  refine tk_ 1 20 (B_ 45 3) rfl rfl hHeld (by rintro w' ⟨s0, s1⟩; go_simp; with_reducible rfl) ?_
                  refine one_ (i := 2) (N := some 21) (B_ 45 7) rfl rfl (by kernel_rfl) (by decide) (fun K hK => ?_)
                  refine goes_ Try.func35 (by kernel_rfl) rfl #[.string s] (by rfl) rfl rfl (by simp only [List.map_toArray, List.map_cons, List.map_nil]; rfl) ?_
                  with_reducible refine ((hn.out _)).mono ?_
                  rintro e x1 ⟨rfl, hb1⟩
                  refine ⟨_, rfl, ?_⟩
                  have hb1 := Aside0.mk hb1
                  have z0 := pw_cell_below hb1.out z0
                  have z1 := pw_cell_below hb1.out z1
                  have hwb1 := Aside0.mk (below_then hbd.out hbd.out.size hb1.out)
                  refine hK.out _ _ ⟨(And.intro z0 z1).1, (And.intro z0 z1).2⟩ (fun hHeld => ?_)
                  clear hK K
                  refine nm_ 21 ?_
                  refine pn_ 3 22 (B_ 45 15) rfl rfl ?_
                  refine pn_ 4 23 (B_ 45 31) rfl rfl ?_
                  refine pn_ 5 24 (B_ 45 63) rfl rfl ?_
                  refine pn_ 8 27 (B_ 45 319) rfl rfl ?_
                  refine tk_ 6 25 (B_ 45 383) rfl rfl hHeld (by rintro w' ⟨s0, s1⟩; go_simp; with_reducible rfl) ?_
                  refine tk_ 9 28 (B_ 45 895) rfl rfl hHeld (by rintro w' ⟨s0, s1⟩; go_simp; with_reducible rfl) ?_
                  refine one_ (i := 7) (N := some 26) (B_ 45 1023) rfl rfl (by kernel_rfl) (by decide) (fun K hK => ?_)
                  refine goes_ Try.func36 (by kernel_rfl) rfl #[.string s] (by rfl) rfl rfl (by simp only [List.map_toArray, List.map_cons, List.map_nil]; rfl) ?_
                  with_reducible refine ((hsm.out x1)).mono ?_
                  rintro e x2 ⟨rfl, hb2⟩
                  refine ⟨_, rfl, ?_⟩
                  have hb2 := Aside0.mk hb2
                  have z0 := pw_cell_below hb2.out z0
                  have z1 := pw_cell_below hb2.out z1
                  have hwb2 := Aside0.mk (below_then hwb1.out hwb1.out.size hb2.out)
                  refine hK.out _ _ ⟨(And.intro z0 z1).1, (And.intro z0 z1).2⟩ (fun hHeld => ?_)
                  clear hK K
                  refine nm_ 26 ?_
                  refine pn_ 10 29 (B_ 45 2047) rfl rfl ?_
                  refine pn_ 11 30 (B_ 45 4095) rfl rfl ?_
                  refine pn_ 12 31 (B_ 45 8191) rfl rfl ?_
                  refine pn_ 13 32 (B_ 45 16383) rfl rfl ?_
                  refine tk_ 14 33 (B_ 45 32767) rfl rfl hHeld (by rintro w' ⟨s0, s1⟩; go_simp; with_reducible rfl) ?_
                  refine pn_ 15 34 (B_ 45 65535) rfl rfl ?_
                  refine pn_ 16 35 (B_ 45 131071) rfl rfl ?_
                  refine pn_ 17 36 (B_ 45 262143) rfl rfl ?_
                  refine pn_ 18 37 (B_ 45 524287) rfl rfl ?_
                  refine pn_ 19 38 (B_ 45 1048575) rfl rfl ?_
                  refine tk_ 20 39 (B_ 45 2097151) rfl rfl hHeld (by rintro w' ⟨s0, s1⟩; go_simp; with_reducible rfl) ?_
                  refine pn_ 21 40 (B_ 45 4194303) rfl rfl ?_
                  refine pn_ 22 41 (B_ 45 8388607) rfl rfl ?_
                  refine pn_ 23 42 (B_ 45 16777215) rfl rfl ?_
                  refine pn_ 24 43 (B_ 45 33554431) rfl rfl ?_
                  refine pn_ 25 44 (B_ 45 67108863) rfl rfl ?_
                  refine tk_ 26 45 (B_ 45 134217727) rfl rfl hHeld (by rintro w' ⟨s0, s1⟩; go_simp; with_reducible rfl) ?_
                  refine one_ (i := 27) (N := some 46) (B_ 45 268435455) rfl rfl (by kernel_rfl) (by decide) (fun K hK => ?_)
                  refine goes_ Try.func37 (by kernel_rfl) rfl #[.slice A6 N c6] (by rfl) rfl rfl (by simp only [List.map_toArray, List.map_cons, List.map_nil]; rfl) ?_
                  with_reducible refine ((hva.out x2 hwb2.out)).mono ?_
                  rintro e x3 ⟨rfl, hb3⟩
                  refine ⟨_, rfl, ?_⟩
                  have hb3 := Aside0.mk hb3
                  have z0 := pw_cell_below hb3.out z0
                  have z1 := pw_cell_below hb3.out z1
                  have hwb3 := Aside0.mk (below_then hwb2.out hwb2.out.size hb3.out)
                  refine hK.out _ _ ⟨(And.intro z0 z1).1, (And.intro z0 z1).2⟩ (fun hHeld => ?_)
                  clear hK K
                  refine nm_ 46 ?_
                  refine pn_ 28 47 (B_ 45 536870911) rfl rfl ?_
                  refine pn_ 29 48 (B_ 45 1073741823) rfl rfl ?_
                  refine pn_ 30 49 (B_ 45 2147483647) rfl rfl ?_
                  refine po_ 31 50 (B_ 45 4294967295) rfl rfl ?_
                  refine po_ 32 51 (B_ 45 8589934591) rfl rfl ?_
                  refine po_ 33 52 (B_ 45 17179869183) rfl rfl ?_
                  refine po_ 34 53 (B_ 45 34359738367) rfl rfl ?_
                  refine po_ 35 54 (B_ 45 68719476735) rfl rfl ?_
                  refine po_ 36 55 (B_ 45 137438953471) rfl rfl ?_
                  refine po_ 37 56 (B_ 45 274877906943) rfl rfl ?_
                  refine po_ 38 57 (B_ 45 549755813887) rfl rfl ?_
                  refine po_ 39 58 (B_ 45 1099511627775) rfl rfl ?_
                  refine po_ 40 59 (B_ 45 2199023255551) rfl rfl ?_
                  refine po_ 41 60 (B_ 45 4398046511103) rfl rfl ?_
                  refine po_ 42 61 (B_ 45 8796093022207) rfl rfl ?_
                  refine po_ 43 62 (B_ 45 17592186044415) rfl rfl ?_
                  refine pn_ 44 63 (B_ 45 35184372088831) rfl rfl ?_
                  refine done_ (by kernel_rfl) ?_
                  go_wp2_with fail
                  go_ret
                  exact ⟨rfl, hwb3.out⟩
                | true =>
                  by_cases k0 : k = 0
                  · have k1 : decide (0 < (k : Int)) = false := decide_eq_false (by omega)
                    have k2 : decide (0 < k) = false := decide_eq_false (by omega)
                    have hnr := Aside0.mk (show RiseTo names (max (k + 1) 1) by have h := hri.out; rw [show max k 1 = max (k + 1) 1 by omega] at h; exact h)
                    clear k0
                    go_wp2_with fail
                    refine start_ (n := 45) (S := fun w' => w'.cell? ⟨wr.heap.size, 0, none⟩ = some (.string s) ∧ w'.cell? ⟨wr.heap.size, 1, none⟩ = some (.slice A6 N c6)) (ds := []) (B_ 45 0) (by kernel_rfl) rfl rfl ⟨z0, z1⟩ (fun hHeld => ?_)
                    refine pn_ 0 19 (B_ 45 1) rfl rfl ?_
                    refine tk_ 1 20 (B_ 45 3) rfl rfl hHeld (by rintro w' ⟨s0, s1⟩; go_simp; with_reducible rfl) ?_
                    refine one_ (i := 2) (N := some 21) (B_ 45 7) rfl rfl (by kernel_rfl) (by decide) (fun K hK => ?_)
                    refine goes_ Try.func35 (by kernel_rfl) rfl #[.string s] (by rfl) rfl rfl (by simp only [List.map_toArray, List.map_cons, List.map_nil]; rfl) ?_
                    with_reducible refine ((hn.out _)).mono ?_
                    rintro e x1 ⟨rfl, hb1⟩
                    refine ⟨_, rfl, ?_⟩
                    have hb1 := Aside0.mk hb1
                    have z0 := pw_cell_below hb1.out z0
                    have z1 := pw_cell_below hb1.out z1
                    have hwb1 := Aside0.mk (below_then hbd.out hbd.out.size hb1.out)
                    refine hK.out _ _ ⟨(And.intro z0 z1).1, (And.intro z0 z1).2⟩ (fun hHeld => ?_)
                    clear hK K
                    refine nm_ 21 ?_
                    refine pn_ 3 22 (B_ 45 15) rfl rfl ?_
                    refine pn_ 4 23 (B_ 45 31) rfl rfl ?_
                    refine pn_ 5 24 (B_ 45 63) rfl rfl ?_
                    refine pn_ 8 27 (B_ 45 319) rfl rfl ?_
                    refine tk_ 6 25 (B_ 45 383) rfl rfl hHeld (by rintro w' ⟨s0, s1⟩; go_simp; with_reducible rfl) ?_
                    refine tk_ 9 28 (B_ 45 895) rfl rfl hHeld (by rintro w' ⟨s0, s1⟩; go_simp; with_reducible rfl) ?_
                    refine one_ (i := 7) (N := some 26) (B_ 45 1023) rfl rfl (by kernel_rfl) (by decide) (fun K hK => ?_)
                    refine goes_ Try.func36 (by kernel_rfl) rfl #[.string s] (by rfl) rfl rfl (by simp only [List.map_toArray, List.map_cons, List.map_nil]; rfl) ?_
                    with_reducible refine ((hsm.out x1)).mono ?_
                    rintro e x2 ⟨rfl, hb2⟩
                    refine ⟨_, rfl, ?_⟩
                    have hb2 := Aside0.mk hb2
                    have z0 := pw_cell_below hb2.out z0
                    have z1 := pw_cell_below hb2.out z1
                    have hwb2 := Aside0.mk (below_then hwb1.out hwb1.out.size hb2.out)
                    refine hK.out _ _ ⟨(And.intro z0 z1).1, (And.intro z0 z1).2⟩ (fun hHeld => ?_)
                    clear hK K
                    refine nm_ 26 ?_
                    refine pn_ 10 29 (B_ 45 2047) rfl rfl ?_
                    refine pn_ 11 30 (B_ 45 4095) rfl rfl ?_
                    refine pn_ 12 31 (B_ 45 8191) rfl rfl ?_
                    refine pn_ 13 32 (B_ 45 16383) rfl rfl ?_
                    refine tk_ 14 33 (B_ 45 32767) rfl rfl hHeld (by rintro w' ⟨s0, s1⟩; go_simp; with_reducible rfl) ?_
                    refine pn_ 15 34 (B_ 45 65535) rfl rfl ?_
                    refine pn_ 16 35 (B_ 45 131071) rfl rfl ?_
                    refine pn_ 17 36 (B_ 45 262143) rfl rfl ?_
                    refine pn_ 18 37 (B_ 45 524287) rfl rfl ?_
                    refine pn_ 19 38 (B_ 45 1048575) rfl rfl ?_
                    refine tk_ 20 39 (B_ 45 2097151) rfl rfl hHeld (by rintro w' ⟨s0, s1⟩; go_simp; with_reducible rfl) ?_
                    refine pn_ 21 40 (B_ 45 4194303) rfl rfl ?_
                    refine pn_ 22 41 (B_ 45 8388607) rfl rfl ?_
                    refine pn_ 23 42 (B_ 45 16777215) rfl rfl ?_
                    refine pn_ 24 43 (B_ 45 33554431) rfl rfl ?_
                    refine pn_ 25 44 (B_ 45 67108863) rfl rfl ?_
                    refine tk_ 26 45 (B_ 45 134217727) rfl rfl hHeld (by rintro w' ⟨s0, s1⟩; go_simp; with_reducible rfl) ?_
                    refine one_ (i := 27) (N := some 46) (B_ 45 268435455) rfl rfl (by kernel_rfl) (by decide) (fun K hK => ?_)
                    refine goes_ Try.func37 (by kernel_rfl) rfl #[.slice A6 N c6] (by rfl) rfl rfl (by simp only [List.map_toArray, List.map_cons, List.map_nil]; rfl) ?_
                    with_reducible refine ((hva.out x2 hwb2.out)).mono ?_
                    rintro e x3 ⟨rfl, hb3⟩
                    refine ⟨_, rfl, ?_⟩
                    have hb3 := Aside0.mk hb3
                    have z0 := pw_cell_below hb3.out z0
                    have z1 := pw_cell_below hb3.out z1
                    have hwb3 := Aside0.mk (below_then hwb2.out hwb2.out.size hb3.out)
                    refine hK.out _ _ ⟨(And.intro z0 z1).1, (And.intro z0 z1).2⟩ (fun hHeld => ?_)
                    clear hK K
                    refine nm_ 46 ?_
                    refine pn_ 28 47 (B_ 45 536870911) rfl rfl ?_
                    refine pn_ 29 48 (B_ 45 1073741823) rfl rfl ?_
                    refine pn_ 30 49 (B_ 45 2147483647) rfl rfl ?_
                    refine pn_ 31 50 (B_ 45 4294967295) rfl rfl ?_
                    refine pn_ 32 51 (B_ 45 8589934591) rfl rfl ?_
                    refine pn_ 33 52 (B_ 45 17179869183) rfl rfl ?_
                    refine po_ 34 53 (B_ 45 34359738367) rfl rfl ?_
                    refine po_ 35 54 (B_ 45 68719476735) rfl rfl ?_
                    refine po_ 36 55 (B_ 45 137438953471) rfl rfl ?_
                    refine po_ 37 56 (B_ 45 274877906943) rfl rfl ?_
                    refine po_ 38 57 (B_ 45 549755813887) rfl rfl ?_
                    refine po_ 39 58 (B_ 45 1099511627775) rfl rfl ?_
                    refine po_ 40 59 (B_ 45 2199023255551) rfl rfl ?_
                    refine po_ 41 60 (B_ 45 4398046511103) rfl rfl ?_
                    refine po_ 42 61 (B_ 45 8796093022207) rfl rfl ?_
                    refine pn_ 43 62 (B_ 45 17592186044415) rfl rfl ?_
                    refine pn_ 44 63 (B_ 45 35184372088831) rfl rfl ?_
                    refine done_ (by kernel_rfl) ?_
                    have hXx := Aside0.mk (fun W (h : Below x3.heap.size x3 W) => And.intro (pw_cell_below h z0) (pw_cell_below h z1))
                    clear z0 z1 p0 p1 hw2
                    have hx3 := Aside0.mk (Below.refl x3.heap.size x3)
                    have hCx := Aside0.mk (fun W (h : Below x3.heap.size x3 W) => Kd.C_below hC6w.out (below_then hwb3.out hwb3.out.size h))
                    obtain ⟨XB, hXB⟩ : ∃ XB, wr.heap.size = XB := ⟨_, rfl⟩
                    simp only [hXB] at hXx ⊢
                    clear hXB hX2
                    obtain ⟨z0, z1⟩ := hXx.out x3 hx3.out
                    go_wp2_with fail
                    go_loopw [5] (fun s5 wr => ∃ q : Nat, 1 ≤ q ∧ q ≤ N + 1 ∧ s5 = .int .i64 q ∧ Aside0 (Below x3.heap.size x3 wr) ∧ Aside0 (RiseTo vs q)) (fun s5 _ => N - (intOf s5).toNat)
                    case atStart => exact ⟨1, by omega, by omega, rfl, hx3, hris0⟩
                    case round =>
                      clear z0 z1
                      obtain ⟨q, hq1, hq, rfl, hb, ha⟩ := hrel
                      obtain ⟨z0, z1⟩ := hXx.out wr hb.out
                      by_cases hltq : q < N
                      · have hql : q < vs.length := by rw [hN.out]; exact hltq
                        have hCq := hCx.out wr hb.out
                        obtain ⟨ad3, e3, p0⟩ := str_at hCq q hql
                        obtain ⟨ad4, e4, p1⟩ := str_at hCq (q - 1) (by omega)
                        rw [e3] at e4
                        injection e4 with e4
                        subst e4
                        subst e3
                        obtain ⟨hnq, hnoq⟩ := hris.out q ha.out hql hq1
                        replace hnq := Aside0.mk hnq
                        replace hnoq := Aside0.mk hnoq
                        obtain ⟨x, hx⟩ : ∃ x, vs[q] = x := ⟨_, rfl⟩
                        obtain ⟨y2, hy2⟩ : ∃ y2, vs[q - 1] = y2 := ⟨_, rfl⟩
                        rw [hx] at p0 hnq hnoq
                        rw [hy2] at p1 hnq hnoq
                        have j0 : wrap64 ((q : Int) - 1) = (q : Int) - 1 := by unfold wrap64; omega
                        have j1 : (0 : Int) ≤ (q : Int) - 1 := by omega
                        have j4 : (1 : Int) ≤ (q : Int) := by omega
                        have j2 : (q : Int) - 1 < (N : Int) := by omega
                        have j3 : ((q : Int) - 1).toNat = q - 1 := by omega
                        clear hx hy2 hCq
                        cases hv : Op.bytesLess y2.toList x.toList with
                        | true =>
                          have hz := Aside0.mk (hnq.out hv)
                          clear hnq hnoq
                          go_wp2_with fail
                          refine start_ (n := 12) (S := fun w' => w'.cell? ⟨XB, 1, none⟩ = some (.slice (some ad3) N c6) ∧ w'.cell? (ad3.add (q - 1)) = some (.string y2) ∧ w'.cell? (ad3.add q) = some (.string x)) (ds := []) (B_ 12 0) (by kernel_rfl) rfl rfl ⟨(And.intro z1 (And.intro p1 p0)).1, (And.intro z1 (And.intro p1 p0)).2.1, (And.intro z1 (And.intro p1 p0)).2.2⟩ (fun hHeld => ?_)
                          refine pn_ 0 71 (B_ 12 1) rfl rfl ?_
                          refine pn_ 2 73 (B_ 12 5) rfl rfl ?_
                          refine pn_ 3 74 (B_ 12 13) rfl rfl ?_
                          refine pn_ 6 77 (B_ 12 77) rfl rfl ?_
                          refine pn_ 8 79 (B_ 12 333) rfl rfl ?_
                          refine tk_ 1 72 (B_ 12 335) rfl rfl hHeld (by rintro w' ⟨s0, s1, s2⟩; go_simp; with_reducible rfl) ?_
                          refine pn_ 4 75 (B_ 12 351) rfl rfl ?_
                          refine tk_ 5 76 (B_ 12 383) rfl rfl hHeld (by rintro w' ⟨s0, s1, s2⟩; go_simp; with_reducible rfl) ?_
                          refine tk_ 7 78 (B_ 12 511) rfl rfl hHeld (by rintro w' ⟨s0, s1, s2⟩; go_simp; with_reducible rfl) ?_
                          refine pn_ 9 80 (B_ 12 1023) rfl rfl ?_
                          refine tk_ 10 81 (B_ 12 2047) rfl rfl hHeld (by rintro w' ⟨s0, s1, s2⟩; go_simp; with_reducible rfl) ?_
                          refine pn_ 11 82 (B_ 12 4095) rfl rfl ?_
                          refine done_ (by kernel_rfl) ?_
                          go_wp2_with fail
                          go_roundw
                          case rel => exact ⟨q + 1, by omega, by omega, by go_num, ⟨hb.out.trans (below_drew (Below.refl _ _))⟩, hz⟩
                          case measure => simp [intOf]; omega
                        | false =>
                          have hz := hnoq.out hv
                          subst hz
                          have hr := hbad.out (hst.out rfl)
                          subst hr
                          clear hnq hnoq
                          go_wp2_with fail
                          refine start_ (n := 12) (S := fun w' => w'.cell? ⟨XB, 1, none⟩ = some (.slice (some ad3) N c6) ∧ w'.cell? (ad3.add (q - 1)) = some (.string y2) ∧ w'.cell? (ad3.add q) = some (.string x)) (ds := []) (B_ 12 0) (by kernel_rfl) rfl rfl ⟨(And.intro z1 (And.intro p1 p0)).1, (And.intro z1 (And.intro p1 p0)).2.1, (And.intro z1 (And.intro p1 p0)).2.2⟩ (fun hHeld => ?_)
                          refine pn_ 0 71 (B_ 12 1) rfl rfl ?_
                          refine pn_ 2 73 (B_ 12 5) rfl rfl ?_
                          refine pn_ 3 74 (B_ 12 13) rfl rfl ?_
                          refine pn_ 6 77 (B_ 12 77) rfl rfl ?_
                          refine pn_ 8 79 (B_ 12 333) rfl rfl ?_
                          refine tk_ 1 72 (B_ 12 335) rfl rfl hHeld (by rintro w' ⟨s0, s1, s2⟩; go_simp; with_reducible rfl) ?_
                          refine pn_ 4 75 (B_ 12 351) rfl rfl ?_
                          refine tk_ 5 76 (B_ 12 383) rfl rfl hHeld (by rintro w' ⟨s0, s1, s2⟩; go_simp; with_reducible rfl) ?_
                          refine tk_ 7 78 (B_ 12 511) rfl rfl hHeld (by rintro w' ⟨s0, s1, s2⟩; go_simp; with_reducible rfl) ?_
                          refine pn_ 9 80 (B_ 12 1023) rfl rfl ?_
                          refine tk_ 10 81 (B_ 12 2047) rfl rfl hHeld (by rintro w' ⟨s0, s1, s2⟩; go_simp; with_reducible rfl) ?_
                          refine pn_ 11 82 (B_ 12 4095) rfl rfl ?_
                          refine done_ (by kernel_rfl) ?_
                          go_wp2_with fail
                          go_ret
                          exact ⟨rfl, below_drew (below_then hwb3.out hwb3.out.size hb.out)⟩
                      · have hz := hrisy.out q ha.out (by omega)
                        subst hz
                        have hfin := Aside0.mk (hnx.out rfl)
                        have hbf := Aside0.mk (below_then hwb3.out hwb3.out.size hb.out)
                        go_wp2_with fail
                        go_roundw
                        case rel => exact ⟨k + 1, by omega, by go_num, hbf, hfin, hnr⟩
                        case measure => simp [intOf]; omega
                  · have k1 : decide (0 < (k : Int)) = true := decide_eq_true (by omega)
                    have k2 : decide (0 < k) = true := decide_eq_true (by omega)
                    obtain ⟨y, hpy, hyes, hno⟩ := hpre.out k0
                    replace hpy := Aside0.mk hpy
                    have z2 := hpy.out _ hbd.out
                    have m0 : wrap64 ((k : Int) - 1) = (k : Int) - 1 := by unfold wrap64; omega
                    have m1 : (0 : Int) ≤ (k : Int) - 1 := by omega
                    have m4 : (1 : Int) ≤ (k : Int) := by omega
                    have m2 : (k : Int) - 1 < (M : Int) := by omega
                    have m3 : ((k : Int) - 1).toNat = k - 1 := by omega
                    cases hv0 : Op.bytesLess y.toList s.toList with
                    | false =>
                      have hr := hbadR.out (hno hv0)
                      subst hr
                      clear hyes hno
                      go_wp2_with fail
                      refine start_ (n := 45) (S := fun w' => w'.cell? ⟨wr.heap.size, 0, none⟩ = some (.string s) ∧ w'.cell? ⟨wr.heap.size, 1, none⟩ = some (.slice A6 N c6) ∧ w'.cell? (ad.add ((k - 1) * 2)) = some (.string y)) (ds := []) (B_ 45 0) (by kernel_rfl) rfl rfl ⟨z0, z1, z2⟩ (fun hHeld => ?_)
                      refine pn_ 0 19 (B_ 45 1) rfl rfl ?_
                      refine tk_ 1 20 (B_ 45 3) rfl rfl hHeld (by rintro w' ⟨s0, s1, s2⟩; go_simp; with_reducible rfl) ?_
                      refine one_ (i := 2) (N := some 21) (B_ 45 7) rfl rfl (by kernel_rfl) (by decide) (fun K hK => ?_)
                      refine goes_ Try.func35 (by kernel_rfl) rfl #[.string s] (by rfl) rfl rfl (by simp only [List.map_toArray, List.map_cons, List.map_nil]; rfl) ?_
                      with_reducible refine ((hn.out _)).mono ?_
                      rintro e x1 ⟨rfl, hb1⟩
                      refine ⟨_, rfl, ?_⟩
                      have hb1 := Aside0.mk hb1
                      have z0 := pw_cell_below hb1.out z0
                      have z1 := pw_cell_below hb1.out z1
                      have hwb1 := Aside0.mk (below_then hbd.out hbd.out.size hb1.out)
                      have z2 := hpy.out x1 hwb1.out
                      refine hK.out _ _ ⟨(And.intro z0 (And.intro z1 z2)).1, (And.intro z0 (And.intro z1 z2)).2.1, (And.intro z0 (And.intro z1 z2)).2.2⟩ (fun hHeld => ?_)
                      clear hK K
                      refine nm_ 21 ?_
                      refine pn_ 3 22 (B_ 45 15) rfl rfl ?_
                      refine pn_ 4 23 (B_ 45 31) rfl rfl ?_
                      refine pn_ 5 24 (B_ 45 63) rfl rfl ?_
                      refine pn_ 8 27 (B_ 45 319) rfl rfl ?_
                      refine tk_ 6 25 (B_ 45 383) rfl rfl hHeld (by rintro w' ⟨s0, s1, s2⟩; go_simp; with_reducible rfl) ?_
                      refine tk_ 9 28 (B_ 45 895) rfl rfl hHeld (by rintro w' ⟨s0, s1, s2⟩; go_simp; with_reducible rfl) ?_
                      refine one_ (i := 7) (N := some 26) (B_ 45 1023) rfl rfl (by kernel_rfl) (by decide) (fun K hK => ?_)
                      refine goes_ Try.func36 (by kernel_rfl) rfl #[.string s] (by rfl) rfl rfl (by simp only [List.map_toArray, List.map_cons, List.map_nil]; rfl) ?_
                      with_reducible refine ((hsm.out x1)).mono ?_
                      rintro e x2 ⟨rfl, hb2⟩
                      refine ⟨_, rfl, ?_⟩
                      have hb2 := Aside0.mk hb2
                      have z0 := pw_cell_below hb2.out z0
                      have z1 := pw_cell_below hb2.out z1
                      have hwb2 := Aside0.mk (below_then hwb1.out hwb1.out.size hb2.out)
                      have z2 := hpy.out x2 hwb2.out
                      refine hK.out _ _ ⟨(And.intro z0 (And.intro z1 z2)).1, (And.intro z0 (And.intro z1 z2)).2.1, (And.intro z0 (And.intro z1 z2)).2.2⟩ (fun hHeld => ?_)
                      clear hK K
                      refine nm_ 26 ?_
                      refine pn_ 10 29 (B_ 45 2047) rfl rfl ?_
                      refine pn_ 11 30 (B_ 45 4095) rfl rfl ?_
                      refine pn_ 12 31 (B_ 45 8191) rfl rfl ?_
                      refine pn_ 13 32 (B_ 45 16383) rfl rfl ?_
                      refine tk_ 14 33 (B_ 45 32767) rfl rfl hHeld (by rintro w' ⟨s0, s1, s2⟩; go_simp; with_reducible rfl) ?_
                      refine pn_ 15 34 (B_ 45 65535) rfl rfl ?_
                      refine pn_ 16 35 (B_ 45 131071) rfl rfl ?_
                      refine pn_ 17 36 (B_ 45 262143) rfl rfl ?_
                      refine pn_ 18 37 (B_ 45 524287) rfl rfl ?_
                      refine pn_ 19 38 (B_ 45 1048575) rfl rfl ?_
                      refine tk_ 20 39 (B_ 45 2097151) rfl rfl hHeld (by rintro w' ⟨s0, s1, s2⟩; go_simp; with_reducible rfl) ?_
                      refine pn_ 21 40 (B_ 45 4194303) rfl rfl ?_
                      refine pn_ 22 41 (B_ 45 8388607) rfl rfl ?_
                      refine pn_ 23 42 (B_ 45 16777215) rfl rfl ?_
                      refine pn_ 24 43 (B_ 45 33554431) rfl rfl ?_
                      refine pn_ 25 44 (B_ 45 67108863) rfl rfl ?_
                      refine tk_ 26 45 (B_ 45 134217727) rfl rfl hHeld (by rintro w' ⟨s0, s1, s2⟩; go_simp; with_reducible rfl) ?_
                      refine one_ (i := 27) (N := some 46) (B_ 45 268435455) rfl rfl (by kernel_rfl) (by decide) (fun K hK => ?_)
                      refine goes_ Try.func37 (by kernel_rfl) rfl #[.slice A6 N c6] (by rfl) rfl rfl (by simp only [List.map_toArray, List.map_cons, List.map_nil]; rfl) ?_
                      with_reducible refine ((hva.out x2 hwb2.out)).mono ?_
                      rintro e x3 ⟨rfl, hb3⟩
                      refine ⟨_, rfl, ?_⟩
                      have hb3 := Aside0.mk hb3
                      have z0 := pw_cell_below hb3.out z0
                      have z1 := pw_cell_below hb3.out z1
                      have hwb3 := Aside0.mk (below_then hwb2.out hwb2.out.size hb3.out)
                      have z2 := hpy.out x3 hwb3.out
                      refine hK.out _ _ ⟨(And.intro z0 (And.intro z1 z2)).1, (And.intro z0 (And.intro z1 z2)).2.1, (And.intro z0 (And.intro z1 z2)).2.2⟩ (fun hHeld => ?_)
                      clear hK K
                      refine nm_ 46 ?_
                      refine pn_ 28 47 (B_ 45 536870911) rfl rfl ?_
                      refine pn_ 29 48 (B_ 45 1073741823) rfl rfl ?_
                      refine pn_ 30 49 (B_ 45 2147483647) rfl rfl ?_
                      refine pn_ 31 50 (B_ 45 4294967295) rfl rfl ?_
                      refine pn_ 32 51 (B_ 45 8589934591) rfl rfl ?_
                      refine pn_ 33 52 (B_ 45 17179869183) rfl rfl ?_
                      refine pn_ 34 53 (B_ 45 34359738367) rfl rfl ?_
                      refine pn_ 35 54 (B_ 45 68719476735) rfl rfl ?_
                      refine pn_ 36 55 (B_ 45 137438953471) rfl rfl ?_
                      refine pn_ 37 56 (B_ 45 274877906943) rfl rfl ?_
                      refine pn_ 38 57 (B_ 45 549755813887) rfl rfl ?_
                      refine pn_ 40 59 (B_ 45 1649267441663) rfl rfl ?_
                      refine tk_ 39 58 (B_ 45 2199023255551) rfl rfl hHeld (by rintro w' ⟨s0, s1, s2⟩; go_simp; with_reducible rfl) ?_
                      refine tk_ 41 60 (B_ 45 4398046511103) rfl rfl hHeld (by rintro w' ⟨s0, s1, s2⟩; go_simp; with_reducible rfl) ?_
                      refine pn_ 42 61 (B_ 45 8796093022207) rfl rfl ?_
                      refine pn_ 43 62 (B_ 45 17592186044415) rfl rfl ?_
                      refine pn_ 44 63 (B_ 45 35184372088831) rfl rfl ?_
                      refine done_ (by kernel_rfl) ?_
                      go_wp2_with fail
                      go_ret
                      exact ⟨rfl, hwb3.out⟩
                    | true =>
                      have hnr := Aside0.mk (hyes hv0)
                      clear hyes hno
                      go_wp2_with fail
                      refine start_ (n := 45) (S := fun w' => w'.cell? ⟨wr.heap.size, 0, none⟩ = some (.string s) ∧ w'.cell? ⟨wr.heap.size, 1, none⟩ = some (.slice A6 N c6) ∧ w'.cell? (ad.add ((k - 1) * 2)) = some (.string y)) (ds := []) (B_ 45 0) (by kernel_rfl) rfl rfl ⟨z0, z1, z2⟩ (fun hHeld => ?_)
                      refine pn_ 0 19 (B_ 45 1) rfl rfl ?_
                      refine tk_ 1 20 (B_ 45 3) rfl rfl hHeld (by rintro w' ⟨s0, s1, s2⟩; go_simp; with_reducible rfl) ?_
                      refine one_ (i := 2) (N := some 21) (B_ 45 7) rfl rfl (by kernel_rfl) (by decide) (fun K hK => ?_)
                      refine goes_ Try.func35 (by kernel_rfl) rfl #[.string s] (by rfl) rfl rfl (by simp only [List.map_toArray, List.map_cons, List.map_nil]; rfl) ?_
                      with_reducible refine ((hn.out _)).mono ?_
                      rintro e x1 ⟨rfl, hb1⟩
                      refine ⟨_, rfl, ?_⟩
                      have hb1 := Aside0.mk hb1
                      have z0 := pw_cell_below hb1.out z0
                      have z1 := pw_cell_below hb1.out z1
                      have hwb1 := Aside0.mk (below_then hbd.out hbd.out.size hb1.out)
                      have z2 := hpy.out x1 hwb1.out
                      refine hK.out _ _ ⟨(And.intro z0 (And.intro z1 z2)).1, (And.intro z0 (And.intro z1 z2)).2.1, (And.intro z0 (And.intro z1 z2)).2.2⟩ (fun hHeld => ?_)
                      clear hK K
                      refine nm_ 21 ?_
                      refine pn_ 3 22 (B_ 45 15) rfl rfl ?_
                      refine pn_ 4 23 (B_ 45 31) rfl rfl ?_
                      refine pn_ 5 24 (B_ 45 63) rfl rfl ?_
                      refine pn_ 8 27 (B_ 45 319) rfl rfl ?_
                      refine tk_ 6 25 (B_ 45 383) rfl rfl hHeld (by rintro w' ⟨s0, s1, s2⟩; go_simp; with_reducible rfl) ?_
                      refine tk_ 9 28 (B_ 45 895) rfl rfl hHeld (by rintro w' ⟨s0, s1, s2⟩; go_simp; with_reducible rfl) ?_
                      refine one_ (i := 7) (N := some 26) (B_ 45 1023) rfl rfl (by kernel_rfl) (by decide) (fun K hK => ?_)
                      refine goes_ Try.func36 (by kernel_rfl) rfl #[.string s] (by rfl) rfl rfl (by simp only [List.map_toArray, List.map_cons, List.map_nil]; rfl) ?_
                      with_reducible refine ((hsm.out x1)).mono ?_
                      rintro e x2 ⟨rfl, hb2⟩
                      refine ⟨_, rfl, ?_⟩
                      have hb2 := Aside0.mk hb2
                      have z0 := pw_cell_below hb2.out z0
                      have z1 := pw_cell_below hb2.out z1
                      have hwb2 := Aside0.mk (below_then hwb1.out hwb1.out.size hb2.out)
                      have z2 := hpy.out x2 hwb2.out
                      refine hK.out _ _ ⟨(And.intro z0 (And.intro z1 z2)).1, (And.intro z0 (And.intro z1 z2)).2.1, (And.intro z0 (And.intro z1 z2)).2.2⟩ (fun hHeld => ?_)
                      clear hK K
                      refine nm_ 26 ?_
                      refine pn_ 10 29 (B_ 45 2047) rfl rfl ?_
                      refine pn_ 11 30 (B_ 45 4095) rfl rfl ?_
                      refine pn_ 12 31 (B_ 45 8191) rfl rfl ?_
                      refine pn_ 13 32 (B_ 45 16383) rfl rfl ?_
                      refine tk_ 14 33 (B_ 45 32767) rfl rfl hHeld (by rintro w' ⟨s0, s1, s2⟩; go_simp; with_reducible rfl) ?_
                      refine pn_ 15 34 (B_ 45 65535) rfl rfl ?_
                      refine pn_ 16 35 (B_ 45 131071) rfl rfl ?_
                      refine pn_ 17 36 (B_ 45 262143) rfl rfl ?_
                      refine pn_ 18 37 (B_ 45 524287) rfl rfl ?_
                      refine pn_ 19 38 (B_ 45 1048575) rfl rfl ?_
                      refine tk_ 20 39 (B_ 45 2097151) rfl rfl hHeld (by rintro w' ⟨s0, s1, s2⟩; go_simp; with_reducible rfl) ?_
                      refine pn_ 21 40 (B_ 45 4194303) rfl rfl ?_
                      refine pn_ 22 41 (B_ 45 8388607) rfl rfl ?_
                      refine pn_ 23 42 (B_ 45 16777215) rfl rfl ?_
                      refine pn_ 24 43 (B_ 45 33554431) rfl rfl ?_
                      refine pn_ 25 44 (B_ 45 67108863) rfl rfl ?_
                      refine tk_ 26 45 (B_ 45 134217727) rfl rfl hHeld (by rintro w' ⟨s0, s1, s2⟩; go_simp; with_reducible rfl) ?_
                      refine one_ (i := 27) (N := some 46) (B_ 45 268435455) rfl rfl (by kernel_rfl) (by decide) (fun K hK => ?_)
                      refine goes_ Try.func37 (by kernel_rfl) rfl #[.slice A6 N c6] (by rfl) rfl rfl (by simp only [List.map_toArray, List.map_cons, List.map_nil]; rfl) ?_
                      with_reducible refine ((hva.out x2 hwb2.out)).mono ?_
                      rintro e x3 ⟨rfl, hb3⟩
                      refine ⟨_, rfl, ?_⟩
                      have hb3 := Aside0.mk hb3
                      have z0 := pw_cell_below hb3.out z0
                      have z1 := pw_cell_below hb3.out z1
                      have hwb3 := Aside0.mk (below_then hwb2.out hwb2.out.size hb3.out)
                      have z2 := hpy.out x3 hwb3.out
                      refine hK.out _ _ ⟨(And.intro z0 (And.intro z1 z2)).1, (And.intro z0 (And.intro z1 z2)).2.1, (And.intro z0 (And.intro z1 z2)).2.2⟩ (fun hHeld => ?_)
                      clear hK K
                      refine nm_ 46 ?_
                      refine pn_ 28 47 (B_ 45 536870911) rfl rfl ?_
                      refine pn_ 29 48 (B_ 45 1073741823) rfl rfl ?_
                      refine pn_ 30 49 (B_ 45 2147483647) rfl rfl ?_
                      refine pn_ 31 50 (B_ 45 4294967295) rfl rfl ?_
                      refine pn_ 32 51 (B_ 45 8589934591) rfl rfl ?_
                      refine pn_ 33 52 (B_ 45 17179869183) rfl rfl ?_
                      refine pn_ 34 53 (B_ 45 34359738367) rfl rfl ?_
                      refine pn_ 35 54 (B_ 45 68719476735) rfl rfl ?_
                      refine pn_ 36 55 (B_ 45 137438953471) rfl rfl ?_
                      refine pn_ 37 56 (B_ 45 274877906943) rfl rfl ?_
                      refine pn_ 38 57 (B_ 45 549755813887) rfl rfl ?_
                      refine pn_ 40 59 (B_ 45 1649267441663) rfl rfl ?_
                      refine tk_ 39 58 (B_ 45 2199023255551) rfl rfl hHeld (by rintro w' ⟨s0, s1, s2⟩; go_simp; with_reducible rfl) ?_
                      refine tk_ 41 60 (B_ 45 4398046511103) rfl rfl hHeld (by rintro w' ⟨s0, s1, s2⟩; go_simp; with_reducible rfl) ?_
                      refine pn_ 42 61 (B_ 45 8796093022207) rfl rfl ?_
                      refine pn_ 43 62 (B_ 45 17592186044415) rfl rfl ?_
                      refine pn_ 44 63 (B_ 45 35184372088831) rfl rfl ?_
                      refine done_ (by kernel_rfl) ?_
                      have hXx := Aside0.mk (fun W (h : Below x3.heap.size x3 W) => And.intro (pw_cell_below h z0) (pw_cell_below h z1))
                      clear z0 z1 p0 p1 hw2
                      have hx3 := Aside0.mk (Below.refl x3.heap.size x3)
                      have hCx := Aside0.mk (fun W (h : Below x3.heap.size x3 W) => Kd.C_below hC6w.out (below_then hwb3.out hwb3.out.size h))
                      obtain ⟨XB, hXB⟩ : ∃ XB, wr.heap.size = XB := ⟨_, rfl⟩
                      simp only [hXB] at hXx ⊢
                      clear hXB hX2
                      obtain ⟨z0, z1⟩ := hXx.out x3 hx3.out
                      go_wp2_with fail
                      go_loopw [5] (fun s5 wr => ∃ q : Nat, 1 ≤ q ∧ q ≤ N + 1 ∧ s5 = .int .i64 q ∧ Aside0 (Below x3.heap.size x3 wr) ∧ Aside0 (RiseTo vs q)) (fun s5 _ => N - (intOf s5).toNat)
                      case atStart => exact ⟨1, by omega, by omega, rfl, hx3, hris0⟩
                      case round =>
                        clear z0 z1
                        obtain ⟨q, hq1, hq, rfl, hb, ha⟩ := hrel
                        obtain ⟨z0, z1⟩ := hXx.out wr hb.out
                        by_cases hltq : q < N
                        · have hql : q < vs.length := by rw [hN.out]; exact hltq
                          have hCq := hCx.out wr hb.out
                          obtain ⟨ad3, e3, p0⟩ := str_at hCq q hql
                          obtain ⟨ad4, e4, p1⟩ := str_at hCq (q - 1) (by omega)
                          rw [e3] at e4
                          injection e4 with e4
                          subst e4
                          subst e3
                          obtain ⟨hnq, hnoq⟩ := hris.out q ha.out hql hq1
                          replace hnq := Aside0.mk hnq
                          replace hnoq := Aside0.mk hnoq
                          obtain ⟨x, hx⟩ : ∃ x, vs[q] = x := ⟨_, rfl⟩
                          obtain ⟨y2, hy2⟩ : ∃ y2, vs[q - 1] = y2 := ⟨_, rfl⟩
                          rw [hx] at p0 hnq hnoq
                          rw [hy2] at p1 hnq hnoq
                          have j0 : wrap64 ((q : Int) - 1) = (q : Int) - 1 := by unfold wrap64; omega
                          have j1 : (0 : Int) ≤ (q : Int) - 1 := by omega
                          have j4 : (1 : Int) ≤ (q : Int) := by omega
                          have j2 : (q : Int) - 1 < (N : Int) := by omega
                          have j3 : ((q : Int) - 1).toNat = q - 1 := by omega
                          clear hx hy2 hCq
                          cases hv : Op.bytesLess y2.toList x.toList with
                          | true =>
                            have hz := Aside0.mk (hnq.out hv)
                            clear hnq hnoq
                            go_wp2_with fail
                            refine start_ (n := 12) (S := fun w' => w'.cell? ⟨XB, 1, none⟩ = some (.slice (some ad3) N c6) ∧ w'.cell? (ad3.add (q - 1)) = some (.string y2) ∧ w'.cell? (ad3.add q) = some (.string x)) (ds := []) (B_ 12 0) (by kernel_rfl) rfl rfl ⟨(And.intro z1 (And.intro p1 p0)).1, (And.intro z1 (And.intro p1 p0)).2.1, (And.intro z1 (And.intro p1 p0)).2.2⟩ (fun hHeld => ?_)
                            refine pn_ 0 71 (B_ 12 1) rfl rfl ?_
                            refine pn_ 2 73 (B_ 12 5) rfl rfl ?_
                            refine pn_ 3 74 (B_ 12 13) rfl rfl ?_
                            refine pn_ 6 77 (B_ 12 77) rfl rfl ?_
                            refine pn_ 8 79 (B_ 12 333) rfl rfl ?_
                            refine tk_ 1 72 (B_ 12 335) rfl rfl hHeld (by rintro w' ⟨s0, s1, s2⟩; go_simp; with_reducible rfl) ?_
                            refine pn_ 4 75 (B_ 12 351) rfl rfl ?_
                            refine tk_ 5 76 (B_ 12 383) rfl rfl hHeld (by rintro w' ⟨s0, s1, s2⟩; go_simp; with_reducible rfl) ?_
                            refine tk_ 7 78 (B_ 12 511) rfl rfl hHeld (by rintro w' ⟨s0, s1, s2⟩; go_simp; with_reducible rfl) ?_
                            refine pn_ 9 80 (B_ 12 1023) rfl rfl ?_
                            refine tk_ 10 81 (B_ 12 2047) rfl rfl hHeld (by rintro w' ⟨s0, s1, s2⟩; go_simp; with_reducible rfl) ?_
                            refine pn_ 11 82 (B_ 12 4095) rfl rfl ?_
                            refine done_ (by kernel_rfl) ?_
                            go_wp2_with fail
                            go_roundw
                            case rel => exact ⟨q + 1, by omega, by omega, by go_num, ⟨hb.out.trans (below_drew (Below.refl _ _))⟩, hz⟩
                            case measure => simp [intOf]; omega
                          | false =>
                            have hz := hnoq.out hv
                            subst hz
                            have hr := hbad.out (hst.out rfl)
                            subst hr
                            clear hnq hnoq
                            go_wp2_with fail
                            refine start_ (n := 12) (S := fun w' => w'.cell? ⟨XB, 1, none⟩ = some (.slice (some ad3) N c6) ∧ w'.cell? (ad3.add (q - 1)) = some (.string y2) ∧ w'.cell? (ad3.add q) = some (.string x)) (ds := []) (B_ 12 0) (by kernel_rfl) rfl rfl ⟨(And.intro z1 (And.intro p1 p0)).1, (And.intro z1 (And.intro p1 p0)).2.1, (And.intro z1 (And.intro p1 p0)).2.2⟩ (fun hHeld => ?_)
                            refine pn_ 0 71 (B_ 12 1) rfl rfl ?_
                            refine pn_ 2 73 (B_ 12 5) rfl rfl ?_
                            refine pn_ 3 74 (B_ 12 13) rfl rfl ?_
                            refine pn_ 6 77 (B_ 12 77) rfl rfl ?_
                            refine pn_ 8 79 (B_ 12 333) rfl rfl ?_
                            refine tk_ 1 72 (B_ 12 335) rfl rfl hHeld (by rintro w' ⟨s0, s1, s2⟩; go_simp; with_reducible rfl) ?_
                            refine pn_ 4 75 (B_ 12 351) rfl rfl ?_
                            refine tk_ 5 76 (B_ 12 383) rfl rfl hHeld (by rintro w' ⟨s0, s1, s2⟩; go_simp; with_reducible rfl) ?_
                            refine tk_ 7 78 (B_ 12 511) rfl rfl hHeld (by rintro w' ⟨s0, s1, s2⟩; go_simp; with_reducible rfl) ?_
                            refine pn_ 9 80 (B_ 12 1023) rfl rfl ?_
                            refine tk_ 10 81 (B_ 12 2047) rfl rfl hHeld (by rintro w' ⟨s0, s1, s2⟩; go_simp; with_reducible rfl) ?_
                            refine pn_ 11 82 (B_ 12 4095) rfl rfl ?_
                            refine done_ (by kernel_rfl) ?_
                            go_wp2_with fail
                            go_ret
                            exact ⟨rfl, below_drew (below_then hwb3.out hwb3.out.size hb.out)⟩
                        · have hz := hrisy.out q ha.out (by omega)
                          subst hz
                          have hfin := Aside0.mk (hnx.out rfl)
                          have hbf := Aside0.mk (below_then hwb3.out hwb3.out.size hb.out)
                          go_wp2_with fail
                          go_roundw
                          case rel => exact ⟨k + 1, by omega, by go_num, hbf, hfin, hnr⟩
                          case measure => simp [intOf]; omega
      · have hkM : k = M := by omega
        subst hkM
        have htk : l.take k = l := List.take_of_length_le (by rw [hM.out]; exact Nat.le_refl _)
        rw [htk] at hal
        have hR := hend.out h24.out hal.out (hry.out _ hri.out (by rw [hM.out]; omega))
        subst hR
        go_wp2_with fail
        go_ret
        exact ⟨rfl, HB.out⟩
  · have d24 : decide ((M : Int) > 24) = true := decide_eq_true (by omega)
    have hR := hlong (by omega)
    subst hR
    clear h24 hlong
    go_enter Try.func15, Try.ntmps15
    go_wp2_with fail
    go_ret
    exact ⟨rfl, HB.out⟩
end Go.Proofs.Ytgnmkblaockghaa
