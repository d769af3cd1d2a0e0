/- entry.Check. -/
import Derived.Test.YtgnmkblaockghaaQJd
set_option linter.unusedVariables false
set_option linter.unusedSimpArgs false
namespace Go.Proofs.Ytgnmkblaockghaa
open Go.RowKit Go.Shelf Go.Proofs.YtgnmkblaockghaaW.PrintWords Go.Proofs.YtgnmkblaockghaaW.PrintMore Go.Proofs.YtgnmkblaockghaaW.PrintLast

/-- May an attribute be, by what is asked? -/
def attrB (a b c d e f : Bool) : Bool := a && (b && (!c && (!d && (e && f))))
noncomputable def attrOk (y : At) : Bool := attrB (enameOk y.f0) ((small y.f0).toList == y.f0.toList) (decide ((y.f1.length : Int) < 1)) (decide (16 < (y.f1.length : Int))) (y.f1.all valOk) (rise y.f1)
/-- May an entry be? -/
noncomputable def entOk (l : List At) : Bool := l.all attrOk && (!decide (24 < (l.length : Int)) && rise (l.map fun a => a.f0))
noncomputable def entN (l : List At) : Int := if entOk l = true then 0 else 2
theorem all_take_snoc {α : Type} (p : α → Bool) (l : List α) (k : Nat) (h : k < l.length) (h1 : (l.take k).all p = true) (h2 : p l[k] = true) : (l.take (k + 1)).all p = true := by
  rw [List.take_succ_eq_append_getElem h, List.all_append, h1]; simp [h2]
theorem all_false_at {α : Type} (p : α → Bool) (l : List α) (k : Nat) (h : k < l.length) (h2 : p l[k] = false) : l.all p = false := by
  rw [List.all_eq_false]; exact ⟨l[k], List.getElem_mem h, by rw [h2]; simp⟩
theorem map_take_snoc {α β : Type} (g : α → β) (l : List α) (k : Nat) (h : k < l.length) : (l.take (k + 1)).map g = (l.take k).map g ++ [g l[k]] := by
  rw [List.take_succ_eq_append_getElem h, List.map_append]; rfl
set_option maxRecDepth 20000 in
set_option maxHeartbeats 16000000 in
theorem echeck_calls (A : Option Addr) (c : Nat) (l : List At) (w : World) (hl : MildE l) (hC : kA.C w A l.length l) :
    Calls Try.prog 29 #[.slice A l.length c] w fun e w' => e = .returned (.int .i64 (entN l)) ∧ Below w.heap.size w w' := by
  obtain ⟨M, hM⟩ : ∃ M, l.length = M := ⟨_, rfl⟩
  have hl1 := hl.1
  have hl2 := Aside0.mk hl.2
  replace hC := Aside0.mk hC
  have hyes : entOk l = true → entN l = 0 := fun h => by unfold entN; rw [h]; rfl
  have hno : entOk l = false → entN l = 2 := fun h => by unfold entN; rw [h]; rfl
  have hbad : l.all attrOk = false → entN l = 2 := fun h => hno (by unfold entOk; rw [h]; rfl)
  have hend : l.all attrOk = true → entOk l = (!decide (24 < (l.length : Int)) && rise (l.map fun a => a.f0)) := fun h => by unfold entOk; rw [h]; rfl
  have hall0 : (l.take 0).all attrOk = true := rfl
  have hsn := all_take_snoc attrOk l
  have hsf := all_false_at attrOk l
  obtain ⟨r, hr⟩ : ∃ r, entN l = r := ⟨_, rfl⟩
  rw [hr] at hyes hno hbad ⊢
  rw [hM] at hl1 hend ⊢
  replace hM := Aside0.mk hM
  replace hyes := Aside0.mk hyes
  replace hno := Aside0.mk hno
  replace hbad := Aside0.mk hbad
  replace hend := Aside0.mk hend
  replace hsn := Aside0.mk hsn
  replace hsf := Aside0.mk hsf
  clear hl hr
  have HB : Aside0 (Below w.heap.size w w) := Aside0.mk (Below.refl _ _)
  go_enter Try.func29, Try.ntmps29
  go_wp2_with fail
  go_loopw [3, 8] (fun s3 s8 wr => ∃ k : Nat, k ≤ M ∧ s8 = .int .i64 k ∧ Aside0 (Below w.heap.size w wr) ∧ Aside0 (Kd.R st 9 wr w.heap.size (fun _ => True) s3 ((l.take k).map fun a => a.f0)) ∧ Aside0 ((l.take k).all attrOk = true)) (fun _ s8 _ => M - (intOf s8).toNat)
  case atStart => exact ⟨0, Nat.zero_le _, rfl, HB, ⟨Kd.R_nil _ _ _ _ _⟩, ⟨hall0⟩⟩
  case round =>
    clear HB
    obtain ⟨k, hk, rfl, HB, HO, hal⟩ := hrel
    by_cases hlt : k < M
    · have hkl : k < l.length := by rw [hM.out]; exact hlt
      obtain ⟨ad, A6, c6, e, p0, p1, hc6, hC6⟩ := kA_at hC.out k hkl
      subst e
      replace p0 := pw_cell_below HB.out p0
      replace p1 := pw_cell_below HB.out p1
      have hnx := Aside0.mk (hsn.out k hkl hal.out)
      have hst := Aside0.mk (hsf.out k hkl)
      have hmp := Aside0.mk (map_take_snoc (fun a : At => a.f0) l k hkl)
      obtain ⟨hs0, hs1, hs2⟩ := hl2.out l[k] (List.getElem_mem hkl)
      have hll := Aside0.mk (show ((l.take k).map fun a : At => a.f0).length = k by rw [List.length_map, List.length_take]; omega)
      have hat : attrOk l[k] = attrB (enameOk l[k].f0) ((small l[k].f0).toList == l[k].f0.toList) (decide ((l[k].f1.length : Int) < 1)) (decide (16 < (l[k].f1.length : Int))) (l[k].f1.all valOk) (rise l[k].f1) := rfl
      rw [hat] at hnx hst
      clear hat
      obtain ⟨y, hy⟩ : ∃ y, l[k] = y := ⟨_, rfl⟩
      rw [hy] at p0 p1 hc6 hC6 hs0 hs1 hs2 hnx hst hmp
      clear hy hkl hal
      obtain ⟨s, vs⟩ := y
      dsimp only at p0 p1 hc6 hC6 hs0 hs1 hs2 hnx hst hmp
      generalize hL : ((l.take k).map fun a : At => a.f0) = L at *
      clear hL
      have hb2 := below_alloc (Below.refl wr.heap.size wr) (.cells #[.string s, .slice A6 vs.length c6] 47)
      have hX := heap_alloc_new wr (.cells #[.string s, .slice A6 vs.length c6] 47)
      obtain ⟨w2, hw2⟩ : ∃ w2, wr.alloc (.cells #[.string s, .slice A6 vs.length c6] 47) = w2 := ⟨_, rfl⟩
      rw [hw2] at hb2 hX
      have q0 : w2.cell? ⟨wr.heap.size, 0, none⟩ = some (.string s) := (blk_cell hX 0).trans rfl
      have hX := Aside0.mk hX
      have HO2 := Aside0.mk (Kd.R_below HO.out hb2)
      have hlt3 := Aside0.mk (Kd.R_lt HO.out)
      have HB2 := Aside0.mk (below_then HB.out HB.out.size hb2)
      have hC6 := Aside0.mk hC6
      have i1 : (0 : Int) ≤ (k : Int) := by omega
      have i2 : (k : Int) < (M : Int) := by omega
      clear hb2 HO
      go_wp2_with (first | ((with_reducible refine gate_builtin (b := .append) (xs := #[.tmp 12, .tmp 15]) rfl ?_); at_builtin; (refine Kd.R_append st (w0 := w) w.heap.size rfl (.tmp 12) (.tmp 15) 45 9 (.string ByteArray.empty) 16 rfl Try.underlying45 PFilterBounds.info9 rfl (by decide) (by omega) u3 L s [.string s] (fun _ => True) (fun _ => False) rfl rfl ?aP (fun _ hk => hk.elim) ?aF ?aO ?aB ?aS ?aL ?_); (case aP => exact rfl); (case aB => exact HB2.out); (case aF => exact (fun _ _ => trivial)); (case aO => exact HO2.out); (case aS => exact HB2.out.size); (case aL => have := hll.out; omega); intro v1 w1 ho hb hg hat; replace ho := Aside0.mk ho; replace hb := Aside0.mk hb; replace hg := Aside0.mk hg))
      have hX1 : w1.heap[wr.heap.size]? = some (.cells #[.string s, .slice A6 vs.length c6] 47 (0, 0)) := (hg.out.block wr.heap.size (blk_lt hX.out) (fun e => by have := hlt3.out _ e.symm; omega)).trans hX.out
      have z0 : w1.cell? ⟨wr.heap.size, 0, none⟩ = some (.string s) := (blk_cell hX1 0).trans rfl
      have z1 : w1.cell? ⟨wr.heap.size, 1, none⟩ = some (.slice A6 vs.length c6) := (blk_cell hX1 1).trans rfl
      have hn := Aside0.mk (ename_calls s w1.drew hs0)
      have hsm := Aside0.mk (fun W => small_calls s W hs0)
      have hva := Aside0.mk (fun W (h : Below w.heap.size w W) => veach_calls A6 c6 vs W hs1 (Kd.C_below hC6.out h))
      have hri := Aside0.mk (fun W (h : Below w.heap.size w W) => rises_calls A6 c6 vs W hs1 (Kd.C_below hC6.out h))
      have hbd := Aside0.mk (below_drew hb.out)
      replace ho := Aside0.mk (Kd.R_drew ho.out)
      replace ho := Aside0.mk (show Kd.R st 9 w1.drew w.heap.size (fun _ => True) v1 ((l.take (k + 1)).map fun a : At => a.f0) by rw [hmp.out]; exact ho.out)
      clear hat hg q0 hw2 hX1 hX HO2 hlt3 hC6 HB2 hb HB hmp p0 p1 hs2 hll i1 i2
      obtain ⟨N, hN⟩ : ∃ N, vs.length = N := ⟨_, rfl⟩
      rw [hN] at z1 hst hnx hva hri hc6 hs1
      generalize enameOk s = a at *
      generalize small s = t at *
      generalize hbq : (t.toList == s.toList) = b at *
      generalize hcq : decide ((N : Int) < 1) = cq at *
      generalize hdq : decide (16 < (N : Int)) = dq at *
      generalize vs.all valOk = eq at *
      generalize rise vs = fq at *
      cases a with
      | false =>
        have hr := hbad.out (hst.out rfl)
        subst hr
        go_wp2_with fail
        refine start_ (n := 36) (S := fun w' => w'.cell? ⟨wr.heap.size, 0, none⟩ = some (.string s) ∧ w'.cell? ⟨wr.heap.size, 1, none⟩ = some (.slice A6 N c6)) (ds := []) (B_ 36 0) (by kernel_rfl) rfl rfl ⟨z0, z1⟩ (fun hHeld => ?_)
        refine pn_ 0 17 (B_ 36 1) rfl rfl ?_
        refine tk_ 1 18 (B_ 36 3) rfl rfl hHeld (by rintro w' ⟨s0, s1⟩; go_simp; with_reducible rfl) ?_
        refine one_ (i := 2) (N := some 19) (B_ 36 7) rfl rfl (by kernel_rfl) (by decide) (fun K hK => ?_)
        refine goes_ Try.func51 (by kernel_rfl) rfl #[.string s] (by rfl) rfl rfl (by simp only [List.map_toArray, List.map_cons, List.map_nil]; rfl) ?_
        with_reducible refine (hn.out).mono ?_
        rintro e x1 ⟨rfl, hb1⟩
        refine ⟨_, rfl, ?_⟩
        have hb1 := Aside0.mk hb1
        have z0 := pw_cell_below hb1.out z0
        have z1 := pw_cell_below hb1.out z1
        have hwb1 := Aside0.mk (below_then hbd.out hbd.out.size hb1.out)
        refine hK.out _ _ ⟨(And.intro z0 z1).1, (And.intro z0 z1).2⟩ (fun hHeld => ?_)
        clear hK K
        refine nm_ 19 ?_
        refine pn_ 3 20 (B_ 36 15) rfl rfl ?_
        refine pn_ 4 21 (B_ 36 31) rfl rfl ?_
        refine po_ 5 22 (B_ 36 63) rfl rfl ?_
        refine po_ 6 23 (B_ 36 127) rfl rfl ?_
        refine po_ 7 24 (B_ 36 255) rfl rfl ?_
        refine po_ 8 25 (B_ 36 511) rfl rfl ?_
        refine po_ 9 26 (B_ 36 1023) rfl rfl ?_
        refine po_ 10 27 (B_ 36 2047) rfl rfl ?_
        refine pn_ 11 28 (B_ 36 4095) rfl rfl ?_
        refine pn_ 12 29 (B_ 36 8191) rfl rfl ?_
        refine po_ 13 30 (B_ 36 16383) rfl rfl ?_
        refine po_ 14 31 (B_ 36 32767) rfl rfl ?_
        refine po_ 15 32 (B_ 36 65535) rfl rfl ?_
        refine po_ 16 33 (B_ 36 131071) rfl rfl ?_
        refine pn_ 17 34 (B_ 36 262143) rfl rfl ?_
        refine pn_ 18 35 (B_ 36 524287) rfl rfl ?_
        refine po_ 19 36 (B_ 36 1048575) rfl rfl ?_
        refine po_ 20 37 (B_ 36 2097151) rfl rfl ?_
        refine po_ 21 38 (B_ 36 4194303) rfl rfl ?_
        refine po_ 22 39 (B_ 36 8388607) rfl rfl ?_
        refine pn_ 23 40 (B_ 36 16777215) rfl rfl ?_
        refine pn_ 24 41 (B_ 36 33554431) rfl rfl ?_
        refine po_ 25 42 (B_ 36 67108863) rfl rfl ?_
        refine po_ 26 43 (B_ 36 134217727) rfl rfl ?_
        refine po_ 27 44 (B_ 36 268435455) rfl rfl ?_
        refine po_ 28 45 (B_ 36 536870911) rfl rfl ?_
        refine pn_ 29 46 (B_ 36 1073741823) rfl rfl ?_
        refine pn_ 30 47 (B_ 36 2147483647) rfl rfl ?_
        refine po_ 31 48 (B_ 36 4294967295) rfl rfl ?_
        refine po_ 32 49 (B_ 36 8589934591) rfl rfl ?_
        refine po_ 33 50 (B_ 36 17179869183) rfl rfl ?_
        refine po_ 34 51 (B_ 36 34359738367) rfl rfl ?_
        refine pn_ 35 52 (B_ 36 68719476735) rfl rfl ?_
        refine done_ (by kernel_rfl) ?_
        go_wp2_with fail
        go_ret
        exact ⟨rfl, hwb1.out⟩
      | true =>
        cases b with
        | false =>
          have hbq2 : (!(t.toList == s.toList)) = true := by rw [hbq]; rfl
          have hr := hbad.out (hst.out rfl)
          subst hr
          go_wp2_with fail
          refine start_ (n := 36) (S := fun w' => w'.cell? ⟨wr.heap.size, 0, none⟩ = some (.string s) ∧ w'.cell? ⟨wr.heap.size, 1, none⟩ = some (.slice A6 N c6)) (ds := []) (B_ 36 0) (by kernel_rfl) rfl rfl ⟨z0, z1⟩ (fun hHeld => ?_)
          refine pn_ 0 17 (B_ 36 1) rfl rfl ?_
          refine tk_ 1 18 (B_ 36 3) rfl rfl hHeld (by rintro w' ⟨s0, s1⟩; go_simp; with_reducible rfl) ?_
          refine one_ (i := 2) (N := some 19) (B_ 36 7) rfl rfl (by kernel_rfl) (by decide) (fun K hK => ?_)
          refine goes_ Try.func51 (by kernel_rfl) rfl #[.string s] (by rfl) rfl rfl (by simp only [List.map_toArray, List.map_cons, List.map_nil]; rfl) ?_
          with_reducible refine (hn.out).mono ?_
          rintro e x1 ⟨rfl, hb1⟩
          refine ⟨_, rfl, ?_⟩
          have hb1 := Aside0.mk hb1
          have z0 := pw_cell_below hb1.out z0
          have z1 := pw_cell_below hb1.out z1
          have hwb1 := Aside0.mk (below_then hbd.out hbd.out.size hb1.out)
          refine hK.out _ _ ⟨(And.intro z0 z1).1, (And.intro z0 z1).2⟩ (fun hHeld => ?_)
          clear hK K
          refine nm_ 19 ?_
          refine pn_ 3 20 (B_ 36 15) rfl rfl ?_
          refine pn_ 4 21 (B_ 36 31) rfl rfl ?_
          refine pn_ 5 22 (B_ 36 63) rfl rfl ?_
          refine pn_ 8 25 (B_ 36 319) rfl rfl ?_
          refine tk_ 6 23 (B_ 36 383) rfl rfl hHeld (by rintro w' ⟨s0, s1⟩; go_simp; with_reducible rfl) ?_
          refine tk_ 9 26 (B_ 36 895) rfl rfl hHeld (by rintro w' ⟨s0, s1⟩; go_simp; with_reducible rfl) ?_
          refine one_ (i := 7) (N := some 24) (B_ 36 1023) rfl rfl (by kernel_rfl) (by decide) (fun K hK => ?_)
          refine goes_ Try.func32 (by kernel_rfl) rfl #[.string s] (by rfl) rfl rfl (by simp only [List.map_toArray, List.map_cons, List.map_nil]; rfl) ?_
          with_reducible refine ((hsm.out x1)).mono ?_
          rintro e x2 ⟨rfl, hb2⟩
          refine ⟨_, rfl, ?_⟩
          have hb2 := Aside0.mk hb2
          have z0 := pw_cell_below hb2.out z0
          have z1 := pw_cell_below hb2.out z1
          have hwb2 := Aside0.mk (below_then hwb1.out hwb1.out.size hb2.out)
          refine hK.out _ _ ⟨(And.intro z0 z1).1, (And.intro z0 z1).2⟩ (fun hHeld => ?_)
          clear hK K
          refine nm_ 24 ?_
          refine pn_ 10 27 (B_ 36 2047) rfl rfl ?_
          refine pn_ 11 28 (B_ 36 4095) rfl rfl ?_
          refine pn_ 12 29 (B_ 36 8191) rfl rfl ?_
          refine po_ 13 30 (B_ 36 16383) rfl rfl ?_
          refine po_ 14 31 (B_ 36 32767) rfl rfl ?_
          refine po_ 15 32 (B_ 36 65535) rfl rfl ?_
          refine po_ 16 33 (B_ 36 131071) rfl rfl ?_
          refine pn_ 17 34 (B_ 36 262143) rfl rfl ?_
          refine pn_ 18 35 (B_ 36 524287) rfl rfl ?_
          refine po_ 19 36 (B_ 36 1048575) rfl rfl ?_
          refine po_ 20 37 (B_ 36 2097151) rfl rfl ?_
          refine po_ 21 38 (B_ 36 4194303) rfl rfl ?_
          refine po_ 22 39 (B_ 36 8388607) rfl rfl ?_
          refine pn_ 23 40 (B_ 36 16777215) rfl rfl ?_
          refine pn_ 24 41 (B_ 36 33554431) rfl rfl ?_
          refine po_ 25 42 (B_ 36 67108863) rfl rfl ?_
          refine po_ 26 43 (B_ 36 134217727) rfl rfl ?_
          refine po_ 27 44 (B_ 36 268435455) rfl rfl ?_
          refine po_ 28 45 (B_ 36 536870911) rfl rfl ?_
          refine pn_ 29 46 (B_ 36 1073741823) rfl rfl ?_
          refine pn_ 30 47 (B_ 36 2147483647) rfl rfl ?_
          refine po_ 31 48 (B_ 36 4294967295) rfl rfl ?_
          refine po_ 32 49 (B_ 36 8589934591) rfl rfl ?_
          refine po_ 33 50 (B_ 36 17179869183) rfl rfl ?_
          refine po_ 34 51 (B_ 36 34359738367) rfl rfl ?_
          refine pn_ 35 52 (B_ 36 68719476735) rfl rfl ?_
          refine done_ (by kernel_rfl) ?_
          go_wp2_with fail
          go_ret
          exact ⟨rfl, hwb2.out⟩
        | true =>
          have hbq2 : (!(t.toList == s.toList)) = false := by rw [hbq]; rfl
          cases cq with
          | true =>
            have hr := hbad.out (hst.out rfl)
            subst hr
            go_wp2_with fail
            refine start_ (n := 36) (S := fun w' => w'.cell? ⟨wr.heap.size, 0, none⟩ = some (.string s) ∧ w'.cell? ⟨wr.heap.size, 1, none⟩ = some (.slice A6 N c6)) (ds := []) (B_ 36 0) (by kernel_rfl) rfl rfl ⟨z0, z1⟩ (fun hHeld => ?_)
            refine pn_ 0 17 (B_ 36 1) rfl rfl ?_
            refine tk_ 1 18 (B_ 36 3) rfl rfl hHeld (by rintro w' ⟨s0, s1⟩; go_simp; with_reducible rfl) ?_
            refine one_ (i := 2) (N := some 19) (B_ 36 7) rfl rfl (by kernel_rfl) (by decide) (fun K hK => ?_)
            refine goes_ Try.func51 (by kernel_rfl) rfl #[.string s] (by rfl) rfl rfl (by simp only [List.map_toArray, List.map_cons, List.map_nil]; rfl) ?_
            with_reducible refine (hn.out).mono ?_
            rintro e x1 ⟨rfl, hb1⟩
            refine ⟨_, rfl, ?_⟩
            have hb1 := Aside0.mk hb1
            have z0 := pw_cell_below hb1.out z0
            have z1 := pw_cell_below hb1.out z1
            have hwb1 := Aside0.mk (below_then hbd.out hbd.out.size hb1.out)
            refine hK.out _ _ ⟨(And.intro z0 z1).1, (And.intro z0 z1).2⟩ (fun hHeld => ?_)
            clear hK K
            refine nm_ 19 ?_
            refine pn_ 3 20 (B_ 36 15) rfl rfl ?_
            refine pn_ 4 21 (B_ 36 31) rfl rfl ?_
            refine pn_ 5 22 (B_ 36 63) rfl rfl ?_
            refine pn_ 8 25 (B_ 36 319) rfl rfl ?_
            refine tk_ 6 23 (B_ 36 383) rfl rfl hHeld (by rintro w' ⟨s0, s1⟩; go_simp; with_reducible rfl) ?_
            refine tk_ 9 26 (B_ 36 895) rfl rfl hHeld (by rintro w' ⟨s0, s1⟩; go_simp; with_reducible rfl) ?_
            refine one_ (i := 7) (N := some 24) (B_ 36 1023) rfl rfl (by kernel_rfl) (by decide) (fun K hK => ?_)
            refine goes_ Try.func32 (by kernel_rfl) rfl #[.string s] (by rfl) rfl rfl (by simp only [List.map_toArray, List.map_cons, List.map_nil]; rfl) ?_
            with_reducible refine ((hsm.out x1)).mono ?_
            rintro e x2 ⟨rfl, hb2⟩
            refine ⟨_, rfl, ?_⟩
            have hb2 := Aside0.mk hb2
            have z0 := pw_cell_below hb2.out z0
            have z1 := pw_cell_below hb2.out z1
            have hwb2 := Aside0.mk (below_then hwb1.out hwb1.out.size hb2.out)
            refine hK.out _ _ ⟨(And.intro z0 z1).1, (And.intro z0 z1).2⟩ (fun hHeld => ?_)
            clear hK K
            refine nm_ 24 ?_
            refine pn_ 10 27 (B_ 36 2047) rfl rfl ?_
            refine pn_ 11 28 (B_ 36 4095) rfl rfl ?_
            refine pn_ 12 29 (B_ 36 8191) rfl rfl ?_
            refine pn_ 13 30 (B_ 36 16383) rfl rfl ?_
            refine tk_ 14 31 (B_ 36 32767) rfl rfl hHeld (by rintro w' ⟨s0, s1⟩; go_simp; with_reducible rfl) ?_
            refine pn_ 15 32 (B_ 36 65535) rfl rfl ?_
            refine pn_ 16 33 (B_ 36 131071) rfl rfl ?_
            refine pn_ 17 34 (B_ 36 262143) rfl rfl ?_
            refine pn_ 18 35 (B_ 36 524287) rfl rfl ?_
            refine po_ 19 36 (B_ 36 1048575) rfl rfl ?_
            refine po_ 20 37 (B_ 36 2097151) rfl rfl ?_
            refine po_ 21 38 (B_ 36 4194303) rfl rfl ?_
            refine po_ 22 39 (B_ 36 8388607) rfl rfl ?_
            refine pn_ 23 40 (B_ 36 16777215) rfl rfl ?_
            refine pn_ 24 41 (B_ 36 33554431) rfl rfl ?_
            refine po_ 25 42 (B_ 36 67108863) rfl rfl ?_
            refine po_ 26 43 (B_ 36 134217727) rfl rfl ?_
            refine po_ 27 44 (B_ 36 268435455) rfl rfl ?_
            refine po_ 28 45 (B_ 36 536870911) rfl rfl ?_
            refine pn_ 29 46 (B_ 36 1073741823) rfl rfl ?_
            refine pn_ 30 47 (B_ 36 2147483647) rfl rfl ?_
            refine po_ 31 48 (B_ 36 4294967295) rfl rfl ?_
            refine po_ 32 49 (B_ 36 8589934591) rfl rfl ?_
            refine po_ 33 50 (B_ 36 17179869183) rfl rfl ?_
            refine po_ 34 51 (B_ 36 34359738367) rfl rfl ?_
            refine pn_ 35 52 (B_ 36 68719476735) rfl rfl ?_
            refine done_ (by kernel_rfl) ?_
            go_wp2_with fail
            go_ret
            exact ⟨rfl, hwb2.out⟩
          | false =>
            cases dq with
            | true =>
              have hr := hbad.out (hst.out rfl)
              subst hr
              go_wp2_with fail
              refine start_ (n := 36) (S := fun w' => w'.cell? ⟨wr.heap.size, 0, none⟩ = some (.string s) ∧ w'.cell? ⟨wr.heap.size, 1, none⟩ = some (.slice A6 N c6)) (ds := []) (B_ 36 0) (by kernel_rfl) rfl rfl ⟨z0, z1⟩ (fun hHeld => ?_)
              refine pn_ 0 17 (B_ 36 1) rfl rfl ?_
              refine tk_ 1 18 (B_ 36 3) rfl rfl hHeld (by rintro w' ⟨s0, s1⟩; go_simp; with_reducible rfl) ?_
              refine one_ (i := 2) (N := some 19) (B_ 36 7) rfl rfl (by kernel_rfl) (by decide) (fun K hK => ?_)
              refine goes_ Try.func51 (by kernel_rfl) rfl #[.string s] (by rfl) rfl rfl (by simp only [List.map_toArray, List.map_cons, List.map_nil]; rfl) ?_
              with_reducible refine (hn.out).mono ?_
              rintro e x1 ⟨rfl, hb1⟩
              refine ⟨_, rfl, ?_⟩
              have hb1 := Aside0.mk hb1
              have z0 := pw_cell_below hb1.out z0
              have z1 := pw_cell_below hb1.out z1
              have hwb1 := Aside0.mk (below_then hbd.out hbd.out.size hb1.out)
              refine hK.out _ _ ⟨(And.intro z0 z1).1, (And.intro z0 z1).2⟩ (fun hHeld => ?_)
              clear hK K
              refine nm_ 19 ?_
              refine pn_ 3 20 (B_ 36 15) rfl rfl ?_
              refine pn_ 4 21 (B_ 36 31) rfl rfl ?_
              refine pn_ 5 22 (B_ 36 63) rfl rfl ?_
              refine pn_ 8 25 (B_ 36 319) rfl rfl ?_
              refine tk_ 6 23 (B_ 36 383) rfl rfl hHeld (by rintro w' ⟨s0, s1⟩; go_simp; with_reducible rfl) ?_
              refine tk_ 9 26 (B_ 36 895) rfl rfl hHeld (by rintro w' ⟨s0, s1⟩; go_simp; with_reducible rfl) ?_
              refine one_ (i := 7) (N := some 24) (B_ 36 1023) rfl rfl (by kernel_rfl) (by decide) (fun K hK => ?_)
              refine goes_ Try.func32 (by kernel_rfl) rfl #[.string s] (by rfl) rfl rfl (by simp only [List.map_toArray, List.map_cons, List.map_nil]; rfl) ?_
              with_reducible refine ((hsm.out x1)).mono ?_
              rintro e x2 ⟨rfl, hb2⟩
              refine ⟨_, rfl, ?_⟩
              have hb2 := Aside0.mk hb2
              have z0 := pw_cell_below hb2.out z0
              have z1 := pw_cell_below hb2.out z1
              have hwb2 := Aside0.mk (below_then hwb1.out hwb1.out.size hb2.out)
              refine hK.out _ _ ⟨(And.intro z0 z1).1, (And.intro z0 z1).2⟩ (fun hHeld => ?_)
              clear hK K
              refine nm_ 24 ?_
              refine pn_ 10 27 (B_ 36 2047) rfl rfl ?_
              refine pn_ 11 28 (B_ 36 4095) rfl rfl ?_
              refine pn_ 12 29 (B_ 36 8191) rfl rfl ?_
              refine pn_ 13 30 (B_ 36 16383) rfl rfl ?_
              refine tk_ 14 31 (B_ 36 32767) rfl rfl hHeld (by rintro w' ⟨s0, s1⟩; go_simp; with_reducible rfl) ?_
              refine pn_ 15 32 (B_ 36 65535) rfl rfl ?_
              refine pn_ 16 33 (B_ 36 131071) rfl rfl ?_
              refine pn_ 17 34 (B_ 36 262143) rfl rfl ?_
              refine pn_ 18 35 (B_ 36 524287) rfl rfl ?_
              refine pn_ 19 36 (B_ 36 1048575) rfl rfl ?_
              refine tk_ 20 37 (B_ 36 2097151) rfl rfl hHeld (by rintro w' ⟨s0, s1⟩; go_simp; with_reducible rfl) ?_
              refine pn_ 21 38 (B_ 36 4194303) rfl rfl ?_
              refine pn_ 22 39 (B_ 36 8388607) rfl rfl ?_
              refine pn_ 23 40 (B_ 36 16777215) rfl rfl ?_
              refine pn_ 24 41 (B_ 36 33554431) rfl rfl ?_
              refine po_ 25 42 (B_ 36 67108863) rfl rfl ?_
              refine po_ 26 43 (B_ 36 134217727) rfl rfl ?_
              refine po_ 27 44 (B_ 36 268435455) rfl rfl ?_
              refine po_ 28 45 (B_ 36 536870911) rfl rfl ?_
              refine pn_ 29 46 (B_ 36 1073741823) rfl rfl ?_
              refine pn_ 30 47 (B_ 36 2147483647) rfl rfl ?_
              refine po_ 31 48 (B_ 36 4294967295) rfl rfl ?_
              refine po_ 32 49 (B_ 36 8589934591) rfl rfl ?_
              refine po_ 33 50 (B_ 36 17179869183) rfl rfl ?_
              refine po_ 34 51 (B_ 36 34359738367) rfl rfl ?_
              refine pn_ 35 52 (B_ 36 68719476735) rfl rfl ?_
              refine done_ (by kernel_rfl) ?_
              go_wp2_with fail
              go_ret
              exact ⟨rfl, hwb2.out⟩
            | false =>
              cases eq with
              | false =>
                have hr := hbad.out (hst.out rfl)
                subst hr
                go_wp2_with fail
                refine start_ (n := 36) (S := fun w' => w'.cell? ⟨wr.heap.size, 0, none⟩ = some (.string s) ∧ w'.cell? ⟨wr.heap.size, 1, none⟩ = some (.slice A6 N c6)) (ds := []) (B_ 36 0) (by kernel_rfl) rfl rfl ⟨z0, z1⟩ (fun hHeld => ?_)
                refine pn_ 0 17 (B_ 36 1) rfl rfl ?_
                refine tk_ 1 18 (B_ 36 3) rfl rfl hHeld (by rintro w' ⟨s0, s1⟩; go_simp; with_reducible rfl) ?_
                refine one_ (i := 2) (N := some 19) (B_ 36 7) rfl rfl (by kernel_rfl) (by decide) (fun K hK => ?_)
                refine goes_ Try.func51 (by kernel_rfl) rfl #[.string s] (by rfl) rfl rfl (by simp only [List.map_toArray, List.map_cons, List.map_nil]; rfl) ?_
                with_reducible refine (hn.out).mono ?_
                rintro e x1 ⟨rfl, hb1⟩
                refine ⟨_, rfl, ?_⟩
                have hb1 := Aside0.mk hb1
                have z0 := pw_cell_below hb1.out z0
                have z1 := pw_cell_below hb1.out z1
                have hwb1 := Aside0.mk (below_then hbd.out hbd.out.size hb1.out)
                refine hK.out _ _ ⟨(And.intro z0 z1).1, (And.intro z0 z1).2⟩ (fun hHeld => ?_)
                clear hK K
                refine nm_ 19 ?_
                refine pn_ 3 20 (B_ 36 15) rfl rfl ?_
                refine pn_ 4 21 (B_ 36 31) rfl rfl ?_
                refine pn_ 5 22 (B_ 36 63) rfl rfl ?_
                refine pn_ 8 25 (B_ 36 319) rfl rfl ?_
                refine tk_ 6 23 (B_ 36 383) rfl rfl hHeld (by rintro w' ⟨s0, s1⟩; go_simp; with_reducible rfl) ?_
                refine tk_ 9 26 (B_ 36 895) rfl rfl hHeld (by rintro w' ⟨s0, s1⟩; go_simp; with_reducible rfl) ?_
                refine one_ (i := 7) (N := some 24) (B_ 36 1023) rfl rfl (by kernel_rfl) (by decide) (fun K hK => ?_)
                refine goes_ Try.func32 (by kernel_rfl) rfl #[.string s] (by rfl) rfl rfl (by simp only [List.map_toArray, List.map_cons, List.map_nil]; rfl) ?_
                with_reducible refine ((hsm.out x1)).mono ?_
                rintro e x2 ⟨rfl, hb2⟩
                refine ⟨_, rfl, ?_⟩
                have hb2 := Aside0.mk hb2
                have z0 := pw_cell_below hb2.out z0
                have z1 := pw_cell_below hb2.out z1
                have hwb2 := Aside0.mk (below_then hwb1.out hwb1.out.size hb2.out)
                refine hK.out _ _ ⟨(And.intro z0 z1).1, (And.intro z0 z1).2⟩ (fun hHeld => ?_)
                clear hK K
                refine nm_ 24 ?_
                refine pn_ 10 27 (B_ 36 2047) rfl rfl ?_
                refine pn_ 11 28 (B_ 36 4095) rfl rfl ?_
                refine pn_ 12 29 (B_ 36 8191) rfl rfl ?_
                refine pn_ 13 30 (B_ 36 16383) rfl rfl ?_
                refine tk_ 14 31 (B_ 36 32767) rfl rfl hHeld (by rintro w' ⟨s0, s1⟩; go_simp; with_reducible rfl) ?_
                refine pn_ 15 32 (B_ 36 65535) rfl rfl ?_
                refine pn_ 16 33 (B_ 36 131071) rfl rfl ?_
                refine pn_ 17 34 (B_ 36 262143) rfl rfl ?_
                refine pn_ 18 35 (B_ 36 524287) rfl rfl ?_
                refine pn_ 19 36 (B_ 36 1048575) rfl rfl ?_
                refine tk_ 20 37 (B_ 36 2097151) rfl rfl hHeld (by rintro w' ⟨s0, s1⟩; go_simp; with_reducible rfl) ?_
                refine pn_ 21 38 (B_ 36 4194303) rfl rfl ?_
                refine pn_ 22 39 (B_ 36 8388607) rfl rfl ?_
                refine pn_ 23 40 (B_ 36 16777215) rfl rfl ?_
                refine pn_ 24 41 (B_ 36 33554431) rfl rfl ?_
                refine pn_ 25 42 (B_ 36 67108863) rfl rfl ?_
                refine tk_ 26 43 (B_ 36 134217727) rfl rfl hHeld (by rintro w' ⟨s0, s1⟩; go_simp; with_reducible rfl) ?_
                refine one_ (i := 27) (N := some 44) (B_ 36 268435455) rfl rfl (by kernel_rfl) (by decide) (fun K hK => ?_)
                refine goes_ Try.func52 (by kernel_rfl) rfl #[.slice A6 N c6, .func (.func 53) #[] #[]] (by rfl) rfl rfl (by simp only [List.map_toArray, List.map_cons, List.map_nil]; rfl) ?_
                with_reducible refine ((hva.out x2 hwb2.out)).mono ?_
                rintro e x3 ⟨rfl, hb3⟩
                refine ⟨_, rfl, ?_⟩
                have hb3 := Aside0.mk hb3
                have z0 := pw_cell_below hb3.out z0
                have z1 := pw_cell_below hb3.out z1
                have hwb3 := Aside0.mk (below_then hwb2.out hwb2.out.size hb3.out)
                refine hK.out _ _ ⟨(And.intro z0 z1).1, (And.intro z0 z1).2⟩ (fun hHeld => ?_)
                clear hK K
                refine nm_ 44 ?_
                refine pn_ 28 45 (B_ 36 536870911) rfl rfl ?_
                refine pn_ 29 46 (B_ 36 1073741823) rfl rfl ?_
                refine pn_ 30 47 (B_ 36 2147483647) rfl rfl ?_
                refine po_ 31 48 (B_ 36 4294967295) rfl rfl ?_
                refine po_ 32 49 (B_ 36 8589934591) rfl rfl ?_
                refine po_ 33 50 (B_ 36 17179869183) rfl rfl ?_
                refine po_ 34 51 (B_ 36 34359738367) rfl rfl ?_
                refine pn_ 35 52 (B_ 36 68719476735) rfl rfl ?_
                refine done_ (by kernel_rfl) ?_
                go_wp2_with fail
                go_ret
                exact ⟨rfl, hwb3.out⟩
              | true =>
                cases fq with
                | false =>
                  have hr := hbad.out (hst.out rfl)
                  subst hr
                  go_wp2_with fail
                  refine start_ (n := 36) (S := fun w' => w'.cell? ⟨wr.heap.size, 0, none⟩ = some (.string s) ∧ w'.cell? ⟨wr.heap.size, 1, none⟩ = some (.slice A6 N c6)) (ds := []) (B_ 36 0) (by kernel_rfl) rfl rfl ⟨z0, z1⟩ (fun hHeld => ?_)
                  refine pn_ 0 17 (B_ 36 1) rfl rfl ?_
                  refine tk_ 1 18 (B_ 36 3) rfl rfl hHeld (by rintro w' ⟨s0, s1⟩; go_simp; with_reducible rfl) ?_
                  refine one_ (i := 2) (N := some 19) (B_ 36 7) rfl rfl (by kernel_rfl) (by decide) (fun K hK => ?_)
                  refine goes_ Try.func51 (by kernel_rfl) rfl #[.string s] (by rfl) rfl rfl (by simp only [List.map_toArray, List.map_cons, List.map_nil]; rfl) ?_
                  with_reducible refine (hn.out).mono ?_
                  rintro e x1 ⟨rfl, hb1⟩
                  refine ⟨_, rfl, ?_⟩
                  have hb1 := Aside0.mk hb1
                  have z0 := pw_cell_below hb1.out z0
                  have z1 := pw_cell_below hb1.out z1
                  have hwb1 := Aside0.mk (below_then hbd.out hbd.out.size hb1.out)
                  refine hK.out _ _ ⟨(And.intro z0 z1).1, (And.intro z0 z1).2⟩ (fun hHeld => ?_)
                  clear hK K
                  refine nm_ 19 ?_
                  refine pn_ 3 20 (B_ 36 15) rfl rfl ?_
                  refine pn_ 4 21 (B_ 36 31) rfl rfl ?_
                  refine pn_ 5 22 (B_ 36 63) rfl rfl ?_
                  refine pn_ 8 25 (B_ 36 319) rfl rfl ?_
                  refine tk_ 6 23 (B_ 36 383) rfl rfl hHeld (by rintro w' ⟨s0, s1⟩; go_simp; with_reducible rfl) ?_
                  refine tk_ 9 26 (B_ 36 895) rfl rfl hHeld (by rintro w' ⟨s0, s1⟩; go_simp; with_reducible rfl) ?_
                  refine one_ (i := 7) (N := some 24) (B_ 36 1023) rfl rfl (by kernel_rfl) (by decide) (fun K hK => ?_)
                  refine goes_ Try.func32 (by kernel_rfl) rfl #[.string s] (by rfl) rfl rfl (by simp only [List.map_toArray, List.map_cons, List.map_nil]; rfl) ?_
                  with_reducible refine ((hsm.out x1)).mono ?_
                  rintro e x2 ⟨rfl, hb2⟩
                  refine ⟨_, rfl, ?_⟩
                  have hb2 := Aside0.mk hb2
                  have z0 := pw_cell_below hb2.out z0
                  have z1 := pw_cell_below hb2.out z1
                  have hwb2 := Aside0.mk (below_then hwb1.out hwb1.out.size hb2.out)
                  refine hK.out _ _ ⟨(And.intro z0 z1).1, (And.intro z0 z1).2⟩ (fun hHeld => ?_)
                  clear hK K
                  refine nm_ 24 ?_
                  refine pn_ 10 27 (B_ 36 2047) rfl rfl ?_
                  refine pn_ 11 28 (B_ 36 4095) rfl rfl ?_
                  refine pn_ 12 29 (B_ 36 8191) rfl rfl ?_
                  refine pn_ 13 30 (B_ 36 16383) rfl rfl ?_
                  refine tk_ 14 31 (B_ 36 32767) rfl rfl hHeld (by rintro w' ⟨s0, s1⟩; go_simp; with_reducible rfl) ?_
                  refine pn_ 15 32 (B_ 36 65535) rfl rfl ?_
                  refine pn_ 16 33 (B_ 36 131071) rfl rfl ?_
                  refine pn_ 17 34 (B_ 36 262143) rfl rfl ?_
                  refine pn_ 18 35 (B_ 36 524287) rfl rfl ?_
                  refine pn_ 19 36 (B_ 36 1048575) rfl rfl ?_
                  refine tk_ 20 37 (B_ 36 2097151) rfl rfl hHeld (by rintro w' ⟨s0, s1⟩; go_simp; with_reducible rfl) ?_
                  refine pn_ 21 38 (B_ 36 4194303) rfl rfl ?_
                  refine pn_ 22 39 (B_ 36 8388607) rfl rfl ?_
                  refine pn_ 23 40 (B_ 36 16777215) rfl rfl ?_
                  refine pn_ 24 41 (B_ 36 33554431) rfl rfl ?_
                  refine pn_ 25 42 (B_ 36 67108863) rfl rfl ?_
                  refine tk_ 26 43 (B_ 36 134217727) rfl rfl hHeld (by rintro w' ⟨s0, s1⟩; go_simp; with_reducible rfl) ?_
                  refine one_ (i := 27) (N := some 44) (B_ 36 268435455) rfl rfl (by kernel_rfl) (by decide) (fun K hK => ?_)
                  refine goes_ Try.func52 (by kernel_rfl) rfl #[.slice A6 N c6, .func (.func 53) #[] #[]] (by rfl) rfl rfl (by simp only [List.map_toArray, List.map_cons, List.map_nil]; rfl) ?_
                  with_reducible refine ((hva.out x2 hwb2.out)).mono ?_
                  rintro e x3 ⟨rfl, hb3⟩
                  refine ⟨_, rfl, ?_⟩
                  have hb3 := Aside0.mk hb3
                  have z0 := pw_cell_below hb3.out z0
                  have z1 := pw_cell_below hb3.out z1
                  have hwb3 := Aside0.mk (below_then hwb2.out hwb2.out.size hb3.out)
                  refine hK.out _ _ ⟨(And.intro z0 z1).1, (And.intro z0 z1).2⟩ (fun hHeld => ?_)
                  clear hK K
                  refine nm_ 44 ?_
                  refine pn_ 28 45 (B_ 36 536870911) rfl rfl ?_
                  refine pn_ 29 46 (B_ 36 1073741823) rfl rfl ?_
                  refine pn_ 30 47 (B_ 36 2147483647) rfl rfl ?_
                  refine pn_ 31 48 (B_ 36 4294967295) rfl rfl ?_
                  refine tk_ 32 49 (B_ 36 8589934591) rfl rfl hHeld (by rintro w' ⟨s0, s1⟩; go_simp; with_reducible rfl) ?_
                  refine one_ (i := 33) (N := some 50) (B_ 36 17179869183) rfl rfl (by kernel_rfl) (by decide) (fun K hK => ?_)
                  refine goes_ Try.func54 (by kernel_rfl) rfl #[.slice A6 N c6] (by rfl) rfl rfl (by simp only [List.map_toArray, List.map_cons, List.map_nil]; rfl) ?_
                  with_reducible refine ((hri.out x3 hwb3.out)).mono ?_
                  rintro e x4 ⟨rfl, hb4⟩
                  refine ⟨_, rfl, ?_⟩
                  have hb4 := Aside0.mk hb4
                  have z0 := pw_cell_below hb4.out z0
                  have z1 := pw_cell_below hb4.out z1
                  have hwb4 := Aside0.mk (below_then hwb3.out hwb3.out.size hb4.out)
                  refine hK.out _ _ ⟨(And.intro z0 z1).1, (And.intro z0 z1).2⟩ (fun hHeld => ?_)
                  clear hK K
                  refine nm_ 50 ?_
                  refine pn_ 34 51 (B_ 36 34359738367) rfl rfl ?_
                  refine pn_ 35 52 (B_ 36 68719476735) rfl rfl ?_
                  refine done_ (by kernel_rfl) ?_
                  go_wp2_with fail
                  go_ret
                  exact ⟨rfl, hwb4.out⟩
                | true =>
                  have hal := Aside0.mk (hnx.out rfl)
                  go_wp2_with fail
                  refine start_ (n := 36) (S := fun w' => w'.cell? ⟨wr.heap.size, 0, none⟩ = some (.string s) ∧ w'.cell? ⟨wr.heap.size, 1, none⟩ = some (.slice A6 N c6)) (ds := []) (B_ 36 0) (by kernel_rfl) rfl rfl ⟨z0, z1⟩ (fun hHeld => ?_)
                  refine pn_ 0 17 (B_ 36 1) rfl rfl ?_
                  refine tk_ 1 18 (B_ 36 3) rfl rfl hHeld (by rintro w' ⟨s0, s1⟩; go_simp; with_reducible rfl) ?_
                  refine one_ (i := 2) (N := some 19) (B_ 36 7) rfl rfl (by kernel_rfl) (by decide) (fun K hK => ?_)
                  refine goes_ Try.func51 (by kernel_rfl) rfl #[.string s] (by rfl) rfl rfl (by simp only [List.map_toArray, List.map_cons, List.map_nil]; rfl) ?_
                  with_reducible refine (hn.out).mono ?_
                  rintro e x1 ⟨rfl, hb1⟩
                  refine ⟨_, rfl, ?_⟩
                  have hb1 := Aside0.mk hb1
                  have z0 := pw_cell_below hb1.out z0
                  have z1 := pw_cell_below hb1.out z1
                  have hwb1 := Aside0.mk (below_then hbd.out hbd.out.size hb1.out)
                  refine hK.out _ _ ⟨(And.intro z0 z1).1, (And.intro z0 z1).2⟩ (fun hHeld => ?_)
                  clear hK K
                  refine nm_ 19 ?_
                  refine pn_ 3 20 (B_ 36 15) rfl rfl ?_
                  refine pn_ 4 21 (B_ 36 31) rfl rfl ?_
                  refine pn_ 5 22 (B_ 36 63) rfl rfl ?_
                  refine pn_ 8 25 (B_ 36 319) rfl rfl ?_
                  refine tk_ 6 23 (B_ 36 383) rfl rfl hHeld (by rintro w' ⟨s0, s1⟩; go_simp; with_reducible rfl) ?_
                  refine tk_ 9 26 (B_ 36 895) rfl rfl hHeld (by rintro w' ⟨s0, s1⟩; go_simp; with_reducible rfl) ?_
                  refine one_ (i := 7) (N := some 24) (B_ 36 1023) rfl rfl (by kernel_rfl) (by decide) (fun K hK => ?_)
                  refine goes_ Try.func32 (by kernel_rfl) rfl #[.string s] (by rfl) rfl rfl (by simp only [List.map_toArray, List.map_cons, List.map_nil]; rfl) ?_
                  with_reducible refine ((hsm.out x1)).mono ?_
                  rintro e x2 ⟨rfl, hb2⟩
                  refine ⟨_, rfl, ?_⟩
                  have hb2 := Aside0.mk hb2
                  have z0 := pw_cell_below hb2.out z0
                  have z1 := pw_cell_below hb2.out z1
                  have hwb2 := Aside0.mk (below_then hwb1.out hwb1.out.size hb2.out)
                  refine hK.out _ _ ⟨(And.intro z0 z1).1, (And.intro z0 z1).2⟩ (fun hHeld => ?_)
                  clear hK K
                  refine nm_ 24 ?_
                  refine pn_ 10 27 (B_ 36 2047) rfl rfl ?_
                  refine pn_ 11 28 (B_ 36 4095) rfl rfl ?_
                  refine pn_ 12 29 (B_ 36 8191) rfl rfl ?_
                  refine pn_ 13 30 (B_ 36 16383) rfl rfl ?_
                  refine tk_ 14 31 (B_ 36 32767) rfl rfl hHeld (by rintro w' ⟨s0, s1⟩; go_simp; with_reducible rfl) ?_
                  refine pn_ 15 32 (B_ 36 65535) rfl rfl ?_
                  refine pn_ 16 33 (B_ 36 131071) rfl rfl ?_
                  refine pn_ 17 34 (B_ 36 262143) rfl rfl ?_
                  refine pn_ 18 35 (B_ 36 524287) rfl rfl ?_
                  refine pn_ 19 36 (B_ 36 1048575) rfl rfl ?_
                  refine tk_ 20 37 (B_ 36 2097151) rfl rfl hHeld (by rintro w' ⟨s0, s1⟩; go_simp; with_reducible rfl) ?_
                  refine pn_ 21 38 (B_ 36 4194303) rfl rfl ?_
                  refine pn_ 22 39 (B_ 36 8388607) rfl rfl ?_
                  refine pn_ 23 40 (B_ 36 16777215) rfl rfl ?_
                  refine pn_ 24 41 (B_ 36 33554431) rfl rfl ?_
                  refine pn_ 25 42 (B_ 36 67108863) rfl rfl ?_
                  refine tk_ 26 43 (B_ 36 134217727) rfl rfl hHeld (by rintro w' ⟨s0, s1⟩; go_simp; with_reducible rfl) ?_
                  refine one_ (i := 27) (N := some 44) (B_ 36 268435455) rfl rfl (by kernel_rfl) (by decide) (fun K hK => ?_)
                  refine goes_ Try.func52 (by kernel_rfl) rfl #[.slice A6 N c6, .func (.func 53) #[] #[]] (by rfl) rfl rfl (by simp only [List.map_toArray, List.map_cons, List.map_nil]; rfl) ?_
                  with_reducible refine ((hva.out x2 hwb2.out)).mono ?_
                  rintro e x3 ⟨rfl, hb3⟩
                  refine ⟨_, rfl, ?_⟩
                  have hb3 := Aside0.mk hb3
                  have z0 := pw_cell_below hb3.out z0
                  have z1 := pw_cell_below hb3.out z1
                  have hwb3 := Aside0.mk (below_then hwb2.out hwb2.out.size hb3.out)
                  refine hK.out _ _ ⟨(And.intro z0 z1).1, (And.intro z0 z1).2⟩ (fun hHeld => ?_)
                  clear hK K
                  refine nm_ 44 ?_
                  refine pn_ 28 45 (B_ 36 536870911) rfl rfl ?_
                  refine pn_ 29 46 (B_ 36 1073741823) rfl rfl ?_
                  refine pn_ 30 47 (B_ 36 2147483647) rfl rfl ?_
                  refine pn_ 31 48 (B_ 36 4294967295) rfl rfl ?_
                  refine tk_ 32 49 (B_ 36 8589934591) rfl rfl hHeld (by rintro w' ⟨s0, s1⟩; go_simp; with_reducible rfl) ?_
                  refine one_ (i := 33) (N := some 50) (B_ 36 17179869183) rfl rfl (by kernel_rfl) (by decide) (fun K hK => ?_)
                  refine goes_ Try.func54 (by kernel_rfl) rfl #[.slice A6 N c6] (by rfl) rfl rfl (by simp only [List.map_toArray, List.map_cons, List.map_nil]; rfl) ?_
                  with_reducible refine ((hri.out x3 hwb3.out)).mono ?_
                  rintro e x4 ⟨rfl, hb4⟩
                  refine ⟨_, rfl, ?_⟩
                  have hb4 := Aside0.mk hb4
                  have z0 := pw_cell_below hb4.out z0
                  have z1 := pw_cell_below hb4.out z1
                  have hwb4 := Aside0.mk (below_then hwb3.out hwb3.out.size hb4.out)
                  refine hK.out _ _ ⟨(And.intro z0 z1).1, (And.intro z0 z1).2⟩ (fun hHeld => ?_)
                  clear hK K
                  refine nm_ 50 ?_
                  refine pn_ 34 51 (B_ 36 34359738367) rfl rfl ?_
                  refine pn_ 35 52 (B_ 36 68719476735) rfl rfl ?_
                  refine done_ (by kernel_rfl) ?_
                  have hoo := Aside0.mk (Kd.R_below (Kd.R_below (Kd.R_below (Kd.R_below ho.out hb1.out) hb2.out) hb3.out) hb4.out)
                  go_wp2_with fail
                  go_roundw
                  case rel => exact ⟨k + 1, by omega, by go_num, hwb4, hoo, hal⟩
                  case measure => simp [intOf]; omega
    · have hkM : k = M := by omega
      subst hkM
      have htk : l.take k = l := List.take_of_length_le (by rw [hM.out]; exact Nat.le_refl _)
      rw [htk] at HO hal
      have hen := hend.out hal.out
      obtain ⟨A3, c3, e3, hc3, hC3⟩ := Kd.R_reads HO.out
      rw [List.length_map, hM.out] at e3 
      subst e3
      have hri := Aside0.mk (rises_calls A3 c3 (l.map fun a : At => a.f0) wr (by rw [List.length_map, hM.out]; omega) hC3)
      rw [List.length_map, hM.out] at hri
      generalize rise (l.map fun a : At => a.f0) = fq at *
      generalize hq : decide (24 < (k : Int)) = q at *
      clear HO hC3 hsn hsf hbad
      cases q with
      | true =>
        have hr := hno.out (by rw [hen]; rfl)
        subst hr
        go_wp2_with fail
        go_ret
        exact ⟨rfl, HB.out⟩
      | false =>
        cases fq with
        | true =>
          have hr := hyes.out (by rw [hen]; rfl)
          subst hr
          go_wp2_with fail
          refine hri.out.mono ?_
          rintro e w2 ⟨rfl, hb2⟩
          replace hb2 := Aside0.mk (below_then HB.out HB.out.size hb2)
          go_wp2_with fail
          go_ret
          exact ⟨rfl, hb2.out⟩
        | false =>
          have hr := hno.out (by rw [hen]; rfl)
          subst hr
          go_wp2_with fail
          refine hri.out.mono ?_
          rintro e w2 ⟨rfl, hb2⟩
          replace hb2 := Aside0.mk (below_then HB.out HB.out.size hb2)
          go_wp2_with fail
          go_ret
          exact ⟨rfl, hb2.out⟩
end Go.Proofs.Ytgnmkblaockghaa
