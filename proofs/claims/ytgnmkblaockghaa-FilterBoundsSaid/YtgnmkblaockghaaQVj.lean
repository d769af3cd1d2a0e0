/- The walk of FilterBounds. -/
import Derived.Test.YtgnmkblaockghaaQVi
set_option linter.unusedVariables false
set_option linter.unusedSimpArgs false
namespace Go.Proofs.Ytgnmkblaockghaa
open Go.RowKit Go.Shelf Go.Proofs.YtgnmkblaockghaaW.PrintWords Go.Proofs.YtgnmkblaockghaaW.PrintMore Go.Proofs.YtgnmkblaockghaaW.PrintLast
open B (kT kU bv Bv BvF Gives Box box_new put5)

/-- A row of one filter in a block, with what it leads to. -/
theorem kF_F_one {w : World} {g : Nat} {x : Ft} {A : Option Addr} {c : Nat} {ok : Nat → Prop} (h : w.heap[g]? = some (.cells #[.int .i64 x.f0, .slice A x.f1.length c, .string x.f2, .string x.f3] 25 (0, 0))) (hok : ok g) (hc : x.f1.length ≤ c) (hF : kF.F w ok A x.f1.length x.f1) : kF.F w ok (some ⟨g, 0, none⟩) 1 [x] := by
  intro W' hW
  refine C_block (d := kF) ((hW g hok (blk_lt h)).trans h) [x] (by simp) (fun j hj => ?_)
  obtain rfl : j = 0 := by simp at hj; omega
  exact ⟨[.int .i64 x.f0, .slice A x.f1.length c, .string x.f2, .string x.f3], rfl, PFilterBounds.k25_mk W' x hc (hF W' hW), fun i u hi => by
    match i, hi with
    | 0, hi => exact hi
    | 1, hi => exact hi
    | 2, hi => exact hi
    | 3, hi => exact hi⟩
set_option maxRecDepth 20000 in
set_option maxHeartbeats 16000000 in
theorem filterBounds_in (D M : Nat) (hD : 1 ≤ D ∧ D ≤ 30) (hM : M ≤ 210) (w : World) : Calls Try.prog 9 #[.int .i64 (D : Int), .int .i64 (M : Int)] w fun e w' => e = .returned (.bool true) ∧ Below w.heap.size w w' := by
  have hkn := Aside0.mk known_calls
  have q1 : decide ((D : Int) < 1) = false := decide_eq_false (by omega)
  have q2 : decide ((D : Int) > 30) = false := decide_eq_false (by omega)
  have q3 : decide ((M : Int) < 0) = false := decide_eq_false (by omega)
  have q4 : decide ((M : Int) > 210) = false := decide_eq_false (by omega)
  obtain ⟨hD1, hD2⟩ := hD
  have hFn := fbox_new w 25 (.int .i64 0) (.slice none 0 0) (.string ⟨#[]⟩) (.string ⟨#[]⟩)
  have hb1 := below_alloc (Below.refl w.heap.size w) (.cells #[.int .i64 0, .slice none 0 0, .string ⟨#[]⟩, .string ⟨#[]⟩] 25)
  obtain ⟨w1, hw1⟩ : ∃ w1, w.alloc (.cells #[.int .i64 0, .slice none 0 0, .string ⟨#[]⟩, .string ⟨#[]⟩] 25) = w1 := ⟨_, rfl⟩
  rw [hw1] at hFn hb1
  obtain ⟨F, hFe⟩ : ∃ F, w.heap.size = F := ⟨_, rfl⟩
  rw [hFe] at hFn
  have hFle := Aside0.mk (show w.heap.size ≤ F by omega)
  obtain ⟨f0, f1, f2, f3⟩ := hFn.free
  obtain ⟨c0, c1, c2, c3⟩ := hFn.cells
  obtain ⟨w2, hw2, hF2, hm2⟩ := put4 hFn (.int .i64 6) (.slice none 0 0) (.string { data := #[97] }) (.string ⟨#[]⟩)
  have hb2 := Aside0.mk (mod_below hm2 hb1 hFle.out)
  have hF2 := Aside0.mk (show FBox w2 F 25 (.int .i64 hasA.f0) (.slice none hasA.f1.length 0) (.string hasA.f2) (.string hasA.f3) from hF2)
  clear hFn hb1 hm2
  go_enter Try.func9, Try.ntmps9
  go_wp2_with fail
  clear f0 f1 f2 f3 c0 c1 c2 c3 q1 q2 q3 q4
  have h0 : Aside0 (hasA = notN 0) := ⟨rfl⟩
  have hn0 : Aside0 (hasA.f1.length ≤ 0) := ⟨Nat.le_refl _⟩
  have hz0 := Aside0.mk (Kd.F_nil kF w2 (fun q => F < q))
  have hz0 : Aside0 (kF.F w2 (fun q => F < q) none hasA.f1.length hasA.f1) := ⟨hz0.out⟩
  go_loopw [6] (fun s6 wr => ∃ (j : Nat) (x : Ft) (A : Option Addr) (c : Nat), j + 1 ≤ D ∧ s6 = .int .i64 ((j : Int) + 1) ∧ Aside0 (x = notN j) ∧ Aside0 (x.f1.length ≤ c) ∧ Aside0 (FBox wr F 25 (.int .i64 x.f0) (.slice A x.f1.length c) (.string x.f2) (.string x.f3)) ∧ Aside0 (kF.F wr (fun q => F < q) A x.f1.length x.f1) ∧ Aside0 (Below w.heap.size w wr)) (fun s6 _ => D - (intOf s6).toNat)
  case atStart => exact ⟨0, hasA, none, 0, hD1, by go_num, h0, hn0, hF2, hz0, hb2⟩
  case round =>
    clear hF2 hz0 hb2 h0 hn0
    obtain ⟨j, x, A, c, hj, rfl, hx, hc, hF, hFr, hb⟩ := hrel
    obtain ⟨c0, c1, c2, c3⟩ := hF.out.cells
    obtain ⟨f0, f1, f2, f3⟩ := hF.out.free
    by_cases hlt : j + 1 < D
    · have g1 : decide ((j : Int) + 1 < (D : Int)) = true := decide_eq_true (by omega)
      have hgn := heap_alloc_new wr (.cells #[.int .i64 x.f0, .slice A x.f1.length c, .string x.f2, .string x.f3] 25)
      have hbg := below_alloc (Below.refl wr.heap.size wr) (.cells #[.int .i64 x.f0, .slice A x.f1.length c, .string x.f2, .string x.f3] 25)
      obtain ⟨w5, hw5⟩ : ∃ w5, wr.alloc (.cells #[.int .i64 x.f0, .slice A x.f1.length c, .string x.f2, .string x.f3] 25) = w5 := ⟨_, rfl⟩
      rw [hw5] at hgn hbg
      have hF5 := hF.out.below hbg
      have hFr5 := Kd.F_below hFr.out hbg
      have hb5 := below_then hb.out hb.out.size hbg
      have hFlt := Aside0.mk (show F < wr.heap.size from hF.out.lt)
      have hrow := kF_F_one (ok := fun q => F < q) hgn hFlt.out hc.out hFr5
      obtain ⟨d0, d1, d2, d3⟩ := hF5.cells
      obtain ⟨e0, e1, e2, e3⟩ := hF5.free
      obtain ⟨w6, hw6, hF6, hm6⟩ := put4 hF5 (.int .i64 3) (.slice (some ⟨wr.heap.size, 0, none⟩) 1 1) (.string ⟨#[]⟩) (.string ⟨#[]⟩)
      have hF6 := Aside0.mk hF6
      have hr6 := Aside0.mk (F_mod hrow hm6 (fun q hq e => by have hq : F < q := hq; have e : q = F := e; omega))
      have hb6 := Aside0.mk (mod_below hm6 hb5 hFle.out)
      have hx6 : Aside0 ((⟨3, [x], { data := #[] }, { data := #[] }⟩ : Ft) = notN (j + 1)) := ⟨by rw [notN, hx.out]⟩
      clear hgn hbg hF5 hFr5 hb5 hrow hm6
      go_wp2_with fail
      clear c0 c1 c2 c3 f0 f1 f2 f3 d0 d1 d2 d3 e0 e1 e2 e3 g1
      go_roundw
      case rel => exact ⟨j + 1, ⟨3, [x], { data := #[] }, { data := #[] }⟩, some ⟨wr.heap.size, 0, none⟩, 1, by omega, by go_num, hx6, ⟨Nat.le_refl _⟩, hF6, hr6, hb6⟩
      case measure => simp [intOf]; omega
    · have g1 : decide ((j : Int) + 1 < (D : Int)) = false := decide_eq_false (by omega)
      have hDj := Aside0.mk (show D = j + 1 by omega)
      clear hlt hj
      clear c0 c1 c2 c3 f0 f1 f2 f3
      -- the second loop
      have hGn := fbox_new wr 25 (.int .i64 0) (.slice none 0 0) (.string ⟨#[]⟩) (.string ⟨#[]⟩)
      have hbn := below_alloc (Below.refl wr.heap.size wr) (.cells #[.int .i64 0, .slice none 0 0, .string ⟨#[]⟩, .string ⟨#[]⟩] 25)
      obtain ⟨w10, hw10⟩ : ∃ w10, wr.alloc (.cells #[.int .i64 0, .slice none 0 0, .string ⟨#[]⟩, .string ⟨#[]⟩] 25) = w10 := ⟨_, rfl⟩
      rw [hw10] at hGn hbn
      obtain ⟨G, hGe⟩ : ∃ G, wr.heap.size = G := ⟨_, rfl⟩
      rw [hGe] at hGn
      have hFG := Aside0.mk (show F < G by rw [← hGe]; exact hF.out.lt)
      have hGle := Aside0.mk (show w.heap.size ≤ G by have := hFle.out; have := hFG.out; omega)
      obtain ⟨f0, f1, f2, f3⟩ := hGn.free
      obtain ⟨c0, c1, c2, c3⟩ := hGn.cells
      obtain ⟨w11, hw11, hG11, hm11⟩ := put4 hGn (.int .i64 2) (.slice none 0 0) (.string ⟨#[]⟩) (.string ⟨#[]⟩)
      have hF11 := Aside0.mk ((hF.out.below hbn).mod hm11 (show ¬ F = G by have := hFG.out; omega))
      have hr11 := Aside0.mk (Kd.F_mono (ok' := fun q => q < G) (F_mod (Kd.F_below (Kd.F_bound hFr.out) hbn) hm11 (fun q hq e => by have e : q = G := e; have := hq.2; omega)) (fun q hq => by have := hq.2; show q < G; omega))
      have hb11 := Aside0.mk (mod_below hm11 (below_then hb.out hb.out.size hbn) hGle.out)
      replace hG11 := Aside0.mk hG11
      clear hGn hbn hm11 hF hFr hb
      go_wp2_with fail
      clear f0 f1 f2 f3 c0 c1 c2 c3 g1
      clear hGe
      go_loopw [8] (fun s8 wr => ∃ (i : Nat) (iv : Value), i ≤ M ∧ s8 = .int .i64 (i : Int) ∧ Aside0 (FBox wr F 25 (.int .i64 x.f0) (.slice A x.f1.length c) (.string x.f2) (.string x.f3)) ∧ Aside0 (kF.F wr (fun q => q < G) A x.f1.length x.f1) ∧ Aside0 (FBox wr G 25 (.int .i64 2) iv (.string ⟨#[]⟩) (.string ⟨#[]⟩)) ∧ Aside0 (Kd.N kF 25 wr 0 (fun q => G < q) iv (List.replicate i hasA)) ∧ Aside0 (Below w.heap.size w wr)) (fun s8 _ => M - (intOf s8).toNat)
      case atStart => exact ⟨0, _, Nat.zero_le _, rfl, hF11, hr11, hG11, ⟨Kd.N_nil _ _ _ _ _⟩, hb11⟩
      case round =>
        clear hF11 hr11 hG11 hb11
        obtain ⟨i, iv, hi, rfl, hF, hFr, hG, hN, hb⟩ := hrel
        obtain ⟨A9, c9, e⟩ := Kd.N_slice hN.out
        subst e
        obtain ⟨L9, hLe⟩ : ∃ L9, (List.replicate i hasA).length = L9 := ⟨_, rfl⟩
        have hLN := Aside0.mk (show L9 = i by rw [← hLe, List.length_replicate])
        obtain ⟨acc, hacc⟩ : ∃ acc, List.replicate i hasA = acc := ⟨_, rfl⟩
        by_cases hlt : i < M
        · have g1 : decide ((i : Int) < (M : Int)) = true := decide_eq_true (by omega)
          rw [hLe] at hG hN
          rw [hacc] at hN hLe
          replace hacc := Aside0.mk hacc
          replace hLe := Aside0.mk hLe
          have hNl := Aside0.mk (Kd.N_lt hN.out)
          have hGl := Aside0.mk (show G < wr.heap.size from hG.out.lt)
          have hlen : (acc.length + 1) * 64 ≤ 140737488355328 := by have := hLe.out; have := hLN.out; omega
          have hfr := Aside0.mk (fun (q : Nat) (hq : wr.heap.size ≤ q) => (show G < q by have := hGl.out; omega))
          obtain ⟨_, b1, _, _⟩ := hG.out.cells
          go_wp2_with (first | ((with_reducible refine gate_builtin (b := .append) (xs := #[.tmp 40, .tmp 42]) rfl ?_); at_builtin; (refine NF_append_last (w0 := wr) (W := wr) rfl (.tmp 40) (.tmp 42) rfl 0 (.slice A9 L9 c9) acc hasA [.int .i64 6, .slice none 0 0, .string { data := #[97] }, .string { data := #[] }] (fun q => G < q) (fun _ => False) rfl rfl (FK_of (x := hasA) (A := none) (c := 0) (Nat.le_refl _) (Kd.F_nil _ _ _)) (fun _ h => h.elim) hfr.out hN.out (Below.refl _ _) (Nat.zero_le _) hlen ?_); intro v1 wx hNx _ hg; have hmx := Aside0.mk (Mod.of_grown (S := fun q => G < q) hg (fun j hj => .inl (hN.out.1 j hj))); have hGx := Aside0.mk (hG.out.mod hmx.out (Nat.lt_irrefl G)); obtain ⟨A5, c5, ev⟩ := Kd.N_slice hNx; subst ev; obtain ⟨N9, hN9e⟩ : ∃ N9, (acc ++ [hasA]).length = N9 := ⟨_, rfl⟩; rw [hN9e] at hNx; rw [hN9e]; replace hN9e := Aside0.mk hN9e; obtain ⟨_, z10, _, _⟩ := hGx.out.cells; obtain ⟨_, z11, _, _⟩ := hGx.out.free; replace hNx := Aside0.mk hNx; clear hg))
          have hGy := Aside0.mk (hGx.out.set1 (.slice A5 N9 c5))
          have hmy := set_mod wx G 1 (.slice A5 N9 c5)
          obtain ⟨wy, hwy⟩ : ∃ wn, wx.setCell ⟨G, 1, none⟩ (.slice A5 N9 c5) = wn := ⟨_, rfl⟩
          rw [hwy] at hGy hmy ⊢
          have hFy := Aside0.mk ((hF.out.mod hmx.out (show ¬ G < F by have := hFG.out; omega)).mod hmy (show ¬ F = G by have := hFG.out; omega))
          have hry := Aside0.mk (F_mod (F_mod hFr.out hmx.out (fun q hq e => by have hq : q < G := hq; have e : G < q := e; omega)) hmy (fun q hq e => by have hq : q < G := hq; have e : q = G := e; omega))
          have hNy := Aside0.mk (show Kd.N kF 25 wy 0 (fun q => G < q) (.slice A5 N9 c5) (List.replicate (i + 1) hasA) from by
            rw [List.replicate_succ', hacc.out]
            exact Kd.N_step hNx.out (fun j hj hlt => hmy.block j hlt (fun e => by have e : j = G := e; have hj : G < j := hj; omega)))
          have hby := Aside0.mk (Mod.below (S := fun q => G ≤ q) (((Mod.of_below (S := fun q => G ≤ q) hb.out).trans hmx.out (fun q hq => .inl (Nat.le_of_lt hq))).trans hmy (fun q hq => .inl (by have hz : q = G := hq; show G ≤ q; omega))) (fun q hq => Nat.le_trans hGle.out hq) (Nat.le_refl _))
          clear hmy hwy hNx hGx hmx b1 z10 z11 g1
          go_wp2_with fail
          go_roundw
          case rel => exact ⟨i + 1, _, by omega, by go_num, hFy, hry, hGy, hNy, hby⟩
          case measure => simp [intOf]; omega
        · have g1 : decide ((i : Int) < (M : Int)) = false := decide_eq_false (by omega)
          obtain rfl : i = M := by omega
          have hcap := (Kd.N_reads' hN.out).2.1
          have hNF := Kd.N_F hN.out
          rw [hLe, hLN.out] at hG
          rw [List.length_replicate] at hcap hNF
          have hvf := Aside0.mk (show Fv wr x A c from ⟨hc.out, Kd.F_now hFr.out⟩)
          have hvg := Aside0.mk (show Fv wr (orN i) A9 c9 from or_Fv hcap (Kd.F_now hNF))
          have hwx : wF x ≤ 12000 := by rw [hx.out, wF_not]; have := hDj.out; omega
          have hwg : wF (orN i) ≤ 12000 := by rw [wF_or]; omega
          obtain ⟨bf, hbf⟩ : ∃ b, decide (j + 1 ≤ 16) = b := ⟨_, rfl⟩
          obtain ⟨bg, hbg⟩ : ∃ b, decide (i ≤ 199) = b := ⟨_, rfl⟩
          have hkf : (checkN x == 0) = bf := by
            rw [hx.out]
            unfold checkN
            rw [right_not j (by have := hDj.out; omega), hbf]
            cases bf <;> rfl
          have hkg : (checkN (orN i) == 0) = bg := by
            unfold checkN
            rw [right_or i, hbg]
            cases bg <;> rfl
          have g2 : decide ((D : Int) ≤ 16) = bf := by rw [← hbf]; exact decide_eq_decide.2 (by have := hDj.out; omega)
          have g3 : decide ((i : Int) ≤ 199) = bg := by rw [← hbg]; exact decide_eq_decide.2 (by omega)
          obtain ⟨nf, hnf⟩ : ∃ n, checkN x = n := ⟨_, rfl⟩
          obtain ⟨ng, hng⟩ : ∃ n, checkN (orN i) = n := ⟨_, rfl⟩
          have hc1 := fun W (hb : Below wr.heap.size wr W) => fcheck_calls x A c W (hvf.out.below hb) hwx
          have hc2 := fun W (hb : Below wr.heap.size wr W) => fcheck_calls (orN i) A9 c9 W (hvg.out.below hb) hwg
          have ht1 := fun W (hb : Below wr.heap.size wr W) => TP_not j (by have := hDj.out; omega) A c W (hx.out ▸ hvf.out.below hb)
          have ht2 := fun W (hb : Below wr.heap.size wr W) => TP_or i (by omega) A9 c9 W (hvg.out.below hb)
          have hva := fun W (hb : Below wr.heap.size wr W) => rvalue_or i (by omega) A9 c9 W (hvg.out.below hb)
          rw [← hx.out] at ht1
          rw [hnf] at hc1 hkf
          rw [hng] at hc2 hkg
          rw [or_fv] at hc2 ht2 hva
          unfold fv at hc1 ht1
          replace hc1 := Aside0.mk hc1
          replace hc2 := Aside0.mk hc2
          replace ht1 := Aside0.mk ht1
          replace ht2 := Aside0.mk ht2
          replace hva := Aside0.mk hva
          have hfp := Aside0.mk filterParses_walk
          have hfv := Aside0.mk (fun (A : Option Addr) (c : Nat) (B' : Option Addr) (d : Nat) (W : World) => filterValues_walk i hM A c B' d W)
          have bk := Aside0.mk (Below.refl wr.heap.size wr)
          obtain ⟨c0, c1, c2, c3⟩ := hF.out.cells
          obtain ⟨d0, d1, d2, d3⟩ := hG.out.cells
          clear hcap hNF hwx hwg hbf hbg hnf hng hlt hLe hacc hi hM hD1 hD2
          go_wp2_with fail
          clear g1
          refine (hc1.out _ bk.out).mono ?_
          rintro e wa ⟨rfl, hbx⟩
          have bk := Aside0.mk (below_then bk.out bk.out.size hbx)
          obtain ⟨c0, c1, c2, c3⟩ := (hF.out.below bk.out).cells
          obtain ⟨d0, d1, d2, d3⟩ := (hG.out.below bk.out).cells
          clear hbx
          go_wp2_with fail
          refine (hc2.out _ bk.out).mono ?_
          rintro e wb ⟨rfl, hbx⟩
          have bk := Aside0.mk (below_then bk.out bk.out.size hbx)
          obtain ⟨c0, c1, c2, c3⟩ := (hF.out.below bk.out).cells
          obtain ⟨d0, d1, d2, d3⟩ := (hG.out.below bk.out).cells
          clear hbx
          go_wp2_with fail
          refine (ht1.out _ bk.out).mono ?_
          rintro e wc ⟨⟨t1, rfl, _⟩, hbx⟩
          have bk := Aside0.mk (below_then bk.out bk.out.size hbx)
          obtain ⟨c0, c1, c2, c3⟩ := (hF.out.below bk.out).cells
          obtain ⟨d0, d1, d2, d3⟩ := (hG.out.below bk.out).cells
          clear hbx
          go_wp2_with fail
          refine (hfp.out _ _).mono ?_
          rintro e wd ⟨rfl, hbx⟩
          have bk := Aside0.mk (below_then bk.out bk.out.size hbx)
          obtain ⟨c0, c1, c2, c3⟩ := (hF.out.below bk.out).cells
          obtain ⟨d0, d1, d2, d3⟩ := (hG.out.below bk.out).cells
          clear hbx
          go_wp2_with fail
          refine (ht2.out _ bk.out).mono ?_
          rintro e we ⟨⟨t2, rfl, _⟩, hbx⟩
          have bk := Aside0.mk (below_then bk.out bk.out.size hbx)
          obtain ⟨c0, c1, c2, c3⟩ := (hF.out.below bk.out).cells
          obtain ⟨d0, d1, d2, d3⟩ := (hG.out.below bk.out).cells
          clear hbx
          go_wp2_with fail
          refine (hfp.out _ _).mono ?_
          rintro e wf ⟨rfl, hbx⟩
          have bk := Aside0.mk (below_then bk.out bk.out.size hbx)
          obtain ⟨c0, c1, c2, c3⟩ := (hF.out.below bk.out).cells
          obtain ⟨d0, d1, d2, d3⟩ := (hG.out.below bk.out).cells
          clear hbx
          go_wp2_with fail
          refine (hva.out _ bk.out).mono ?_
          rintro e wg ⟨⟨A7, c7, B7, d7, rfl, hv7⟩, hbx⟩
          have hv8 := Aside0.mk hv7.now
          have bk := Aside0.mk (below_then bk.out bk.out.size hbx)
          clear hbx hv7 c0 c1 c2 c3 d0 d1 d2 d3
          unfold bv valN
          dsimp only [List.length_nil]
          rw [List.length_replicate]
          go_wp2_with fail
          refine (hfv.out _ _ _ _ _ hv8.out).mono ?_
          rintro e wh ⟨rfl, hbx⟩
          have bk := Aside0.mk (below_then bk.out bk.out.size hbx)
          clear hbx
          go_wp2_with fail
          refine (hkn.out _).mono ?_
          rintro e wi ⟨rfl, hbx⟩
          have bz := Aside0.mk (below_then hb.out hb.out.size (below_then bk.out bk.out.size hbx))
          clear hbx
          go_wp2_with fail
          go_ret
          exact ⟨rfl, hFe ▸ bz.out⟩
set_option maxRecDepth 20000 in
set_option maxHeartbeats 4000000 in
/-- FilterBounds, as a function. -/
theorem filterBounds_row (W : World) (deep : Int) (wd : (Lit.int .i64 deep).wf = true) (many : Int) (wm : (Lit.int .i64 many).wf = true) : Calls Try.prog 9 #[.int .i64 deep, .int .i64 many] W fun e w' => e = .returned (.bool true) ∧ Below W.heap.size W w' := by
  clear wd wm
  have hkn := Aside0.mk known_calls
  by_cases c1 : deep < 1
  · have q1 : decide (deep < 1) = true := decide_eq_true c1
    clear c1
    go_enter Try.func9, Try.ntmps9
    go_wp2_with fail
    refine (hkn.out _).mono ?_
    rintro e w1 ⟨rfl, hb1⟩
    replace hb1 := Aside0.mk hb1
    go_wp2_with fail
    go_ret
    exact ⟨rfl, hb1.out⟩
  have q1 : decide (deep < 1) = false := decide_eq_false c1
  by_cases c2 : deep > 30
  · have q2 : decide (deep > 30) = true := decide_eq_true c2
    clear c1 c2
    go_enter Try.func9, Try.ntmps9
    go_wp2_with fail
    refine (hkn.out _).mono ?_
    rintro e w1 ⟨rfl, hb1⟩
    replace hb1 := Aside0.mk hb1
    go_wp2_with fail
    go_ret
    exact ⟨rfl, hb1.out⟩
  have q2 : decide (deep > 30) = false := decide_eq_false c2
  by_cases c3 : many < 0
  · have q3 : decide (many < 0) = true := decide_eq_true c3
    clear c1 c2 c3
    go_enter Try.func9, Try.ntmps9
    go_wp2_with fail
    refine (hkn.out _).mono ?_
    rintro e w1 ⟨rfl, hb1⟩
    replace hb1 := Aside0.mk hb1
    go_wp2_with fail
    go_ret
    exact ⟨rfl, hb1.out⟩
  have q3 : decide (many < 0) = false := decide_eq_false c3
  by_cases c4 : many > 210
  · have q4 : decide (many > 210) = true := decide_eq_true c4
    clear c1 c2 c3 c4
    go_enter Try.func9, Try.ntmps9
    go_wp2_with fail
    refine (hkn.out _).mono ?_
    rintro e w1 ⟨rfl, hb1⟩
    replace hb1 := Aside0.mk hb1
    go_wp2_with fail
    go_ret
    exact ⟨rfl, hb1.out⟩
  obtain ⟨D, rfl⟩ : ∃ D : Nat, deep = (D : Int) := ⟨deep.toNat, by omega⟩
  obtain ⟨M, rfl⟩ : ∃ M : Nat, many = (M : Int) := ⟨many.toNat, by omega⟩
  exact filterBounds_in D M (by omega) (by omega) W
end Go.Proofs.Ytgnmkblaockghaa
