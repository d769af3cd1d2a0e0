/- FilterMeans. -/
import Derived.Test.YtgnmkblaockghaaKa
import Derived.Test.YtgnmkblaockghaaKe
import Derived.Test.YtgnmkblaockghaaKf
set_option linter.unusedVariables false
set_option linter.unusedSimpArgs false
namespace Go.Proofs.Ytgnmkblaockghaa
open Go.RowKit Go.Shelf Go.Deep Go.ChangeShapes Go.WideShapes Go.Proofs.YtgnmkblaockghaaW.PrintWords Go.Proofs.YtgnmkblaockghaaW.PrintMore Go.Proofs.YtgnmkblaockghaaW.PrintLast

theorem meansN (x : Ft) (A : Option Addr) (c : Nat) (le : List At) (Ae : Option Addr) (ce : Nat) (w : World) (hv : Fv w x A c) (hw : wF x ≤ 12000) (he : MildE le) (hCe : kA.C w Ae le.length le) :
    Calls Try.prog 13 #[fv x A c, .slice Ae le.length ce, .slice none 0 0] w fun e w' => e = .returned (.tuple #[.bool (meansR x le []).1, .int .i64 (meansR x le []).2]) ∧ Below w.heap.size w w' :=
  Means_calls x A c le [] Ae none ce 0 w hv hw he ⟨by simp, fun a ha => by cases ha⟩ hCe (Kd.C_nil kA w)
theorem meansR_if (x : Ft) (le : List At) : meansR x le [] = if (rightF x && entOk le) = true then (meansT (getF [] [] le) x, 0) else (false, 2) := rfl
/-- A row of one filter in a block. -/
theorem kF_row1 {w : World} {g : Nat} {x : Ft} {A : Option Addr} {c : Nat} (h : w.heap[g]? = some (.cells #[.int .i64 x.f0, .slice A x.f1.length c, .string x.f2, .string x.f3] 25 (0, 0))) (hv : Fv w x A c) : kF.C w (some ⟨g, 0, none⟩) 1 [x] :=
  C_block (d := kF) h [x] (by simp) (fun j hj => by
    obtain rfl : j = 0 := by simp at hj; omega
    exact ⟨[.int .i64 x.f0, .slice A x.f1.length c, .string x.f2, .string x.f3], rfl, hv.K, fun i u hi => by
      match i, hi with
      | 0, hi => exact hi
      | 1, hi => exact hi
      | 2, hi => exact hi
      | 3, hi => exact hi⟩)
/-- Not of a filter means what it does not, or may not be. -/
theorem not_fits (x : Ft) (le : List At) : (meansR ⟨3, [x], ⟨#[]⟩, ⟨#[]⟩⟩ le []).2 ≠ 0 ∨ ((meansR ⟨3, [x], ⟨#[]⟩, ⟨#[]⟩⟩ le []).2 = 0 ∧ (meansR ⟨3, [x], ⟨#[]⟩, ⟨#[]⟩⟩ le []).1 = !(meansT (getF [] [] le) x)) := by
  rw [meansR_if]
  split
  · refine .inr ⟨rfl, ?_⟩
    rw [meansT, if_neg (by decide), if_neg (by decide), if_pos rfl, meansHd]
  · exact .inl (by decide)
set_option maxRecDepth 20000 in
set_option maxHeartbeats 16000000 in
theorem filterMeans_walk (a : Ft) (A : Option Addr) (c : Nat) (le : List At) (Ae : Option Addr) (ce : Nat) (w : World) (hv : Fv w a A c) (hce : le.length ≤ ce) (hCe : kA.C w Ae le.length le) :
    Calls Try.prog 3 #[fv a A c, .slice Ae le.length ce] w fun e w' => e = .returned (.bool true) ∧ Below w.heap.size w w' := by
  obtain ⟨V, hV⟩ : ∃ V, w.heap.size = V := ⟨_, rfl⟩
  have hb1 := below_alloc (Below.refl w.heap.size w) (.cells #[.int .i64 a.f0, .slice A a.f1.length c, .string a.f2, .string a.f3] 25)
  have hX1 := fbox_new w 25 (.int .i64 a.f0) (.slice A a.f1.length c) (.string a.f2) (.string a.f3)
  obtain ⟨w2, hw2⟩ : ∃ w2, w.alloc (.cells #[.int .i64 a.f0, .slice A a.f1.length c, .string a.f2, .string a.f3] 25) = w2 := ⟨_, rfl⟩
  rw [hw2] at hb1 hX1
  rw [hV] at hX1
  have hC := Aside0.mk (fun W (h : Below w2.heap.size w2 W) => (hX1.below h).cells)
  have hva := Aside0.mk (fun W (h : Below w2.heap.size w2 W) => (hv.below hb1).below h)
  have hee := Aside0.mk (fun W (h : Below w2.heap.size w2 W) => Kd.C_below (Kd.C_below hCe hb1) h)
  have hz := Aside0.mk (Below.refl w2.heap.size w2)
  have hbw' := Aside0.mk (fun W (h : Below w2.heap.size w2 W) => (show Below w.heap.size w W from below_then hb1 hb1.size h))
  obtain ⟨la, hla, hlia⟩ := light_calls a A c w2 (hva.out _ hz.out)
  replace hlia := Aside0.mk hlia
  have hent := Aside0.mk (fun W (h : Below w2.heap.size w2 W) => (show ∃ b : Bool, (b = true → MildE le) ∧ Calls Try.prog 11 #[.slice Ae le.length ce] W fun e w' => e = .returned (.bool b) ∧ Below W.heap.size W w' by
    obtain ⟨b, h1, h2⟩ := entries_calls le Ae ce W hce (hee.out W h)
    exact ⟨b, fun hb => mild_of (h1 hb), h2⟩))
  have hkn := Aside0.mk known_calls
  obtain ⟨p0, p1, p2, p3⟩ := hC.out _ hz.out
  replace hla := Aside0.mk hla
  clear hX1 hb1 hv hCe
  have hmeans := Aside0.mk (fun W (hh : Below w2.heap.size w2 W) (hw : wF a ≤ 12000) (hm : MildE le) => meansN a A c le Ae ce W (hva.out W hh) hw hm (hee.out W hh))
  have hnot := Aside0.mk (fun B W (hh : Below w2.heap.size w2 W) (hw : wF a ≤ 4000) (hm : MildE le) (hB : kF.C W (some ⟨B, 0, none⟩) 1 [a]) =>
    (show Calls Try.prog 13 #[.agg #[.int .i64 3, .slice (some ⟨B, 0, none⟩) 1 1, .string ⟨#[]⟩, .string ⟨#[]⟩], .slice Ae le.length ce, .slice none 0 0] W fun e w' => e = .returned (.tuple #[.bool (meansR ⟨3, [a], ⟨#[]⟩, ⟨#[]⟩⟩ le []).1, .int .i64 (meansR ⟨3, [a], ⟨#[]⟩, ⟨#[]⟩⟩ le []).2]) ∧ Below W.heap.size W w' from
      meansN ⟨3, [a], ⟨#[]⟩, ⟨#[]⟩⟩ _ _ le Ae ce W ⟨Nat.le_refl _, hB⟩ (by rw [wF_of]; simp [wFs_cons, wFs_nil, ByteArray.size]; omega) hm (hee.out W hh)))
  have hrr := Aside0.mk (fun W (hh : Below w2.heap.size w2 W) (hw : wF a ≤ 12000) => rright_calls a A c W (hva.out W hh) hw)
  have hre := Aside0.mk (fun W (hh : Below w2.heap.size w2 W) (hm : MildE le) => rentry_calls Ae ce le W hm hce (hee.out W hh))
  have hck := Aside0.mk (fun W (hh : Below w2.heap.size w2 W) (hw : wF a ≤ 12000) => fcheck_calls a A c W (hva.out W hh) hw)
  have hrm := Aside0.mk (fun W (hh : Below w2.heap.size w2 W) (hr : rightF a = true) (hw : wF a ≤ 12000) (hm : MildE le) => rmeans_calls a A c le Ae ce W hr (hva.out W hh) hw hm hce (hee.out W hh))
  have hnf := not_fits a le
  have hmr := meansR_if a le
  have hcn : checkN a = if rightF a = true then 0 else 2 := rfl
  have hone := Aside0.mk (fun (W : World) (g : Nat) (h : W.heap[g]? = some (.cells #[.int .i64 a.f0, .slice A a.f1.length c, .string a.f2, .string a.f3] 25 (0, 0))) (hh : Below w2.heap.size w2 W) => kF_row1 h (hva.out W hh))
  generalize meansR ⟨3, [a], ⟨#[]⟩, ⟨#[]⟩⟩ le [] = Y at *
  generalize meansR a le [] = X at *
  generalize meansT (getF [] [] le) a = mt at *
  generalize checkN a = cn at *
  generalize hrf : rightF a = rf at *
  generalize entOk le = eo at *
  generalize hLL : le.length = LL at *
  clear hee hce hLL hrf
  have hlia' : Aside0 (Calls Try.prog 10 #[.agg #[.int .i64 a.f0, .slice A a.f1.length c, .string a.f2, .string a.f3]] w2 fun e w' => e = .returned (.bool la) ∧ Below w2.heap.size w2 w') := hlia
  clear hlia
  obtain ⟨x1, x2⟩ := X
  obtain ⟨y1, y2⟩ := Y
  dsimp only at hnf hmeans hnot
  unfold fv at hmeans hrr hck hrm ⊢
  replace hnf := Aside0.mk hnf
  cases la with
  | false =>
    go_enter Try.func3, Try.ntmps3
    go_wp2_with fail
    refine hlia'.out.mono ?_
    rintro e w3 ⟨rfl, hb3⟩
    have hbx := Aside0.mk (hbw'.out w3 hb3)
    go_wp2_with fail
    refine (hkn.out w3).mono ?_
    rintro e w4 ⟨rfl, hb4⟩
    replace hbx := Aside0.mk (below_then hbx.out hbx.out.size hb4)
    go_wp2_with fail
    go_ret
    exact ⟨rfl, hbx.out⟩
  | true =>
    have hwa := Aside0.mk (hla.out rfl)
    have hwb := Aside0.mk (show wF a ≤ 12000 by have := hwa.out; omega)
    go_enter Try.func3, Try.ntmps3
    go_wp2_with fail
    refine hlia'.out.mono ?_
    rintro e w3 ⟨rfl, hb3⟩
    obtain ⟨be, hbe, hli⟩ := hent.out w3 hb3
    replace hli := Aside0.mk hli
    replace hbe := Aside0.mk hbe
    replace hb3 := Aside0.mk hb3
    clear p0 p1 p2 p3
    cases be with
    | false =>
      go_wp2_with fail
      refine hli.out.mono ?_
      rintro e w4 ⟨rfl, hb4⟩
      have hbx := Aside0.mk (hbw'.out w4 (below_then hb3.out hb3.out.size hb4))
      go_wp2_with fail
      refine (hkn.out w4).mono ?_
      rintro e w5 ⟨rfl, hb5⟩
      replace hbx := Aside0.mk (below_then hbx.out hbx.out.size hb5)
      go_wp2_with fail
      go_ret
      exact ⟨rfl, hbx.out⟩
    | true =>
      have hm := Aside0.mk (hbe.out rfl)
      go_wp2_with fail
      refine hli.out.mono ?_
      rintro e w4 ⟨rfl, hb4⟩
      have hb4 := Aside0.mk (below_then hb3.out hb3.out.size hb4)
      obtain ⟨p0, p1, p2, p3⟩ := hC.out w4 hb4.out
      go_wp2_with fail
      refine (hmeans.out w4 hb4.out hwb.out hm.out).mono ?_
      rintro e w5 ⟨rfl, hb5⟩
      have hb5 := Aside0.mk (below_then hb4.out hb4.out.size hb5)
      clear p0 p1 p2 p3
      obtain ⟨p0, p1, p2, p3⟩ := hC.out w5 hb5.out
      cases rf with
      | false =>
        rw [if_neg (by simp)] at hmr hcn
        subst hcn
        obtain ⟨rfl, rfl⟩ : x1 = false ∧ x2 = 2 := by injection hmr with h1 h2; exact ⟨h1, h2⟩
        clear hmr
        go_wp2_with fail
        refine (hrr.out w5 hb5.out hwb.out).mono ?_
        rintro e w6 ⟨rfl, hb6⟩
        have hb6 := Aside0.mk (below_then hb5.out hb5.out.size hb6)
        clear p0 p1 p2 p3
        obtain ⟨z0, z1, z2, z3⟩ := hC.out w6 hb6.out
        clear z0 z1 z2 z3
        obtain ⟨z0, z1, z2, z3⟩ := hC.out w6.drew (below_drew hb6.out)
        have hbd := Aside0.mk (show Below w2.heap.size w2 w6.drew from below_drew hb6.out)
        go_wp2_with fail
        refine start_ (n := 18) (S := fun w' => w'.cell? ⟨V, 0, none⟩ = some (.int .i64 a.f0) ∧ w'.cell? ⟨V, 1, none⟩ = some (.slice A a.f1.length c) ∧ w'.cell? ⟨V, 2, none⟩ = some (.string a.f2) ∧ w'.cell? ⟨V, 3, none⟩ = some (.string a.f3)) (ds := []) (B_ 18 0) (by kernel_rfl) rfl rfl ⟨z0, z1, z2, z3⟩ (fun hHeld => ?_)
        refine pure_ (i := 0) (N := some 32) (v := ?_) (a' := ?_) (B_ 18 1) rfl rfl (by kernel_rfl) (fun _ _ _ h => h) (Or.inl ⟨by rfl, ?_⟩) ?_ ?_
        rotate_left
        · intro w'
          go_simp
          with_reducible rfl
        rotate_left
        · simp only [Act.put, List.setIfInBounds_toArray, List.set_cons_zero, List.set_cons_succ, i64_w, i32_w]
          rfl
        refine pure_ (i := 1) (N := some 33) (v := ?_) (a' := ?_) (B_ 18 3) rfl rfl (by kernel_rfl) (fun _ _ _ h => h) (Or.inl ⟨by rfl, ?_⟩) ?_ ?_
        rotate_left
        · intro w'
          go_simp
          with_reducible rfl
        rotate_left
        · simp only [Act.put, List.setIfInBounds_toArray, List.set_cons_zero, List.set_cons_succ, i64_w, i32_w]
          rfl
        refine pure_ (i := 2) (N := some 34) (v := ?_) (a' := ?_) (B_ 18 7) rfl rfl (by kernel_rfl) (fun _ _ _ h => h) (Or.inl ⟨by rfl, ?_⟩) ?_ ?_
        rotate_left
        · intro w'
          go_simp
          with_reducible rfl
        rotate_left
        · simp only [Act.put, List.setIfInBounds_toArray, List.set_cons_zero, List.set_cons_succ, i64_w, i32_w]
          rfl
        refine pure_ (i := 3) (N := some 35) (v := ?_) (a' := ?_) (B_ 18 15) rfl rfl (by kernel_rfl) (fun _ _ _ h => h) (Or.inl ⟨by rfl, ?_⟩) ?_ ?_
        rotate_left
        · intro w'
          go_simp
          with_reducible rfl
        rotate_left
        · simp only [Act.put, List.setIfInBounds_toArray, List.set_cons_zero, List.set_cons_succ, i64_w, i32_w]
          rfl
        refine pure_ (i := 4) (N := some 36) (v := ?_) (a' := ?_) (B_ 18 31) rfl rfl (by kernel_rfl) (fun _ _ _ h => h) (Or.inl ⟨by rfl, ?_⟩) ?_ ?_
        rotate_left
        · intro w'
          go_simp
          with_reducible rfl
        rotate_left
        · simp only [Act.put, List.setIfInBounds_toArray, List.set_cons_zero, List.set_cons_succ, i64_w, i32_w]
          rfl
        refine pure_ (i := 5) (N := some 37) (v := ?_) (a' := ?_) (B_ 18 63) rfl rfl (by kernel_rfl) (fun _ _ _ h => h) (Or.inl ⟨by rfl, ?_⟩) ?_ ?_
        rotate_left
        · intro w'
          go_simp
          with_reducible rfl
        rotate_left
        · simp only [Act.put, List.setIfInBounds_toArray, List.set_cons_zero, List.set_cons_succ, i64_w, i32_w]
          rfl
        refine pure_ (i := 6) (N := some 38) (v := ?_) (a' := ?_) (B_ 18 127) rfl rfl (by kernel_rfl) (fun _ _ _ h => h) (Or.inl ⟨by rfl, ?_⟩) ?_ ?_
        rotate_left
        · intro w'
          go_simp
          with_reducible rfl
        rotate_left
        · simp only [Act.put, List.setIfInBounds_toArray, List.set_cons_zero, List.set_cons_succ, i64_w, i32_w]
          rfl
        refine take_ (i := 7) (N := some 39) (v := ?_) (a' := ?_) (B_ 18 255) rfl rfl (by kernel_rfl) (fun _ _ _ h => h) (Or.inl ⟨by rfl, ?_⟩) hHeld ?_ ?_
        rotate_left
        · rintro w' ⟨s0, s1, s2, s3⟩
          go_simp
          with_reducible rfl
        rotate_left
        · simp only [Act.put, List.setIfInBounds_toArray, List.set_cons_zero, List.set_cons_succ, i64_w, i32_w]
          rfl
        refine take_ (i := 10) (N := some 42) (v := ?_) (a' := ?_) (B_ 18 1279) rfl rfl (by kernel_rfl) (fun _ _ _ h => h) (Or.inl ⟨by rfl, ?_⟩) hHeld ?_ ?_
        rotate_left
        · rintro w' ⟨s0, s1, s2, s3⟩
          go_simp
          with_reducible rfl
        rotate_left
        · simp only [Act.put, List.setIfInBounds_toArray, List.set_cons_zero, List.set_cons_succ, i64_w, i32_w]
          rfl
        refine one_ (i := 8) (N := some 40) (B_ 18 1535) rfl rfl (by kernel_rfl) (by decide) (fun K hK => ?_)
        refine goes_ Try.func16 (by kernel_rfl) rfl #[.agg #[.int .i64 a.f0, .slice A a.f1.length c, .string a.f2, .string a.f3]] (by rfl) rfl rfl (by simp only [List.map_toArray, List.map_cons, List.map_nil]; rfl) ?_
        with_reducible refine ((hck.out _ hbd.out hwb.out)).mono ?_
        rintro e x1 ⟨rfl, hb1⟩
        refine ⟨_, rfl, ?_⟩
        have hb1 := Aside0.mk (below_then hbd.out hbd.out.size hb1)
        refine hK.out _ _ ⟨(hC.out x1 hb1.out).1, (hC.out x1 hb1.out).2.1, (hC.out x1 hb1.out).2.2.1, (hC.out x1 hb1.out).2.2.2⟩ (fun hHeld => ?_)
        clear hK K
        refine norm_ (a' := ?_) ?_ ?_
        rotate_left
        · show Act.put _ (some 40) _ = _
          simp only [Act.put, List.setIfInBounds_toArray, List.set_cons_zero, List.set_cons_succ, i64_w, i32_w]
          rfl
        refine pure_ (i := 9) (N := some 41) (v := ?_) (a' := ?_) (B_ 18 2047) rfl rfl (by kernel_rfl) (fun _ _ _ h => h) (Or.inl ⟨by rfl, ?_⟩) ?_ ?_
        rotate_left
        · intro w'
          go_simp
          with_reducible rfl
        rotate_left
        · simp only [Act.put, List.setIfInBounds_toArray, List.set_cons_zero, List.set_cons_succ, i64_w, i32_w]
          rfl
        refine one_ (i := 11) (N := some 43) (B_ 18 4095) rfl rfl (by kernel_rfl) (by decide) (fun K hK => ?_)
        refine goes_ Try.func14 (by kernel_rfl) rfl #[.agg #[.int .i64 a.f0, .slice A a.f1.length c, .string a.f2, .string a.f3]] (by rfl) rfl rfl (by simp only [List.map_toArray, List.map_cons, List.map_nil]; rfl) ?_
        with_reducible refine ((hrr.out x1 hb1.out hwb.out)).mono ?_
        rintro e x2 ⟨rfl, hb2⟩
        refine ⟨_, rfl, ?_⟩
        have hb2 := Aside0.mk (below_then hb1.out hb1.out.size hb2)
        refine hK.out _ _ ⟨(hC.out x2 hb2.out).1, (hC.out x2 hb2.out).2.1, (hC.out x2 hb2.out).2.2.1, (hC.out x2 hb2.out).2.2.2⟩ (fun hHeld => ?_)
        clear hK K
        refine norm_ (a' := ?_) ?_ ?_
        rotate_left
        · show Act.put _ (some 43) _ = _
          simp only [Act.put, List.setIfInBounds_toArray, List.set_cons_zero, List.set_cons_succ, i64_w, i32_w]
          rfl
        refine pure_ (i := 12) (N := some 44) (v := ?_) (a' := ?_) (B_ 18 8191) rfl rfl (by kernel_rfl) (fun _ _ _ h => h) (Or.inl ⟨by rfl, ?_⟩) ?_ ?_
        rotate_left
        · intro w'
          go_simp
          with_reducible rfl
        rotate_left
        · simp only [Act.put, List.setIfInBounds_toArray, List.set_cons_zero, List.set_cons_succ, i64_w, i32_w]
          rfl
        refine pure_ (i := 13) (N := some 45) (v := ?_) (a' := ?_) (B_ 18 16383) rfl rfl (by kernel_rfl) (fun _ _ _ h => h) (Or.inl ⟨by rfl, ?_⟩) ?_ ?_
        rotate_left
        · intro w'
          go_simp
          with_reducible rfl
        rotate_left
        · simp only [Act.put, List.setIfInBounds_toArray, List.set_cons_zero, List.set_cons_succ, i64_w, i32_w]
          rfl
        refine pure_ (i := 14) (N := some 46) (v := ?_) (a' := ?_) (B_ 18 32767) rfl rfl (by kernel_rfl) (fun _ _ _ h => h) (Or.inl ⟨by rfl, ?_⟩) ?_ ?_
        rotate_left
        · intro w'
          go_simp
          with_reducible rfl
        rotate_left
        · simp only [Act.put, List.setIfInBounds_toArray, List.set_cons_zero, List.set_cons_succ, i64_w, i32_w]
          rfl
        refine one_ (i := 15) (N := some 47) (B_ 18 65535) rfl rfl (by kernel_rfl) (by decide) (fun K hK => ?_)
        refine goes_ Try.func12 (by kernel_rfl) rfl #[] (by rfl) rfl rfl (by simp only [List.map_toArray, List.map_nil]) ?_
        with_reducible refine ((hkn.out x2)).mono ?_
        rintro e x3 ⟨rfl, hb3x⟩
        refine ⟨_, rfl, ?_⟩
        have hb3x := Aside0.mk (below_then hb2.out hb2.out.size hb3x)
        refine hK.out _ _ ⟨(hC.out x3 hb3x.out).1, (hC.out x3 hb3x.out).2.1, (hC.out x3 hb3x.out).2.2.1, (hC.out x3 hb3x.out).2.2.2⟩ (fun hHeld => ?_)
        clear hK K
        refine norm_ (a' := ?_) ?_ ?_
        rotate_left
        · show Act.put _ (some 47) _ = _
          simp only [Act.put, List.setIfInBounds_toArray, List.set_cons_zero, List.set_cons_succ, i64_w, i32_w]
          rfl
        refine pure_ (i := 16) (N := some 48) (v := ?_) (a' := ?_) (B_ 18 131071) rfl rfl (by kernel_rfl) (fun _ _ _ h => h) (Or.inl ⟨by rfl, ?_⟩) ?_ ?_
        rotate_left
        · intro w'
          go_simp
          with_reducible rfl
        rotate_left
        · simp only [Act.put, List.setIfInBounds_toArray, List.set_cons_zero, List.set_cons_succ, i64_w, i32_w]
          rfl
        refine pure_ (i := 17) (N := some 4) (v := ?_) (a' := ?_) (B_ 18 262143) rfl rfl (by kernel_rfl) (fun _ _ _ h => h) (Or.inl ⟨by rfl, ?_⟩) ?_ ?_
        rotate_left
        · intro w'
          go_simp
          with_reducible rfl
        rotate_left
        · simp only [Act.put, List.setIfInBounds_toArray, List.set_cons_zero, List.set_cons_succ, i64_w, i32_w]
          rfl
        refine done_ (by kernel_rfl) ?_
        go_wp2_with fail
        go_ret
        exact ⟨rfl, hbw'.out _ hb3x.out⟩
      | true =>
        cases eo with
        | false =>
          rw [if_neg (by simp)] at hmr
          rw [if_pos rfl] at hcn
          subst hcn
          obtain ⟨rfl, rfl⟩ : x1 = false ∧ x2 = 2 := by injection hmr with h1 h2; exact ⟨h1, h2⟩
          clear hmr
          go_wp2_with fail
          refine (hrr.out w5 hb5.out hwb.out).mono ?_
          rintro e w6 ⟨rfl, hb6⟩
          have hb6 := Aside0.mk (below_then hb5.out hb5.out.size hb6)
          clear p0 p1 p2 p3
          go_wp2_with fail
          refine (hre.out w6 hb6.out hm.out).mono ?_
          rintro e w7 ⟨rfl, hb7⟩
          replace hb6 := Aside0.mk (below_then hb6.out hb6.out.size hb7)
          clear hb7
          obtain ⟨z0, z1, z2, z3⟩ := hC.out w7 hb6.out
          clear z0 z1 z2 z3
          obtain ⟨z0, z1, z2, z3⟩ := hC.out w7.drew (below_drew hb6.out)
          have hbd := Aside0.mk (show Below w2.heap.size w2 w7.drew from below_drew hb6.out)
          go_wp2_with fail
          refine start_ (n := 18) (S := fun w' => w'.cell? ⟨V, 0, none⟩ = some (.int .i64 a.f0) ∧ w'.cell? ⟨V, 1, none⟩ = some (.slice A a.f1.length c) ∧ w'.cell? ⟨V, 2, none⟩ = some (.string a.f2) ∧ w'.cell? ⟨V, 3, none⟩ = some (.string a.f3)) (ds := []) (B_ 18 0) (by kernel_rfl) rfl rfl ⟨z0, z1, z2, z3⟩ (fun hHeld => ?_)
          refine pure_ (i := 0) (N := some 32) (v := ?_) (a' := ?_) (B_ 18 1) rfl rfl (by kernel_rfl) (fun _ _ _ h => h) (Or.inl ⟨by rfl, ?_⟩) ?_ ?_
          rotate_left
          · intro w'
            go_simp
            with_reducible rfl
          rotate_left
          · simp only [Act.put, List.setIfInBounds_toArray, List.set_cons_zero, List.set_cons_succ, i64_w, i32_w]
            rfl
          refine pure_ (i := 1) (N := some 33) (v := ?_) (a' := ?_) (B_ 18 3) rfl rfl (by kernel_rfl) (fun _ _ _ h => h) (Or.inl ⟨by rfl, ?_⟩) ?_ ?_
          rotate_left
          · intro w'
            go_simp
            with_reducible rfl
          rotate_left
          · simp only [Act.put, List.setIfInBounds_toArray, List.set_cons_zero, List.set_cons_succ, i64_w, i32_w]
            rfl
          refine pure_ (i := 2) (N := some 34) (v := ?_) (a' := ?_) (B_ 18 7) rfl rfl (by kernel_rfl) (fun _ _ _ h => h) (Or.inl ⟨by rfl, ?_⟩) ?_ ?_
          rotate_left
          · intro w'
            go_simp
            with_reducible rfl
          rotate_left
          · simp only [Act.put, List.setIfInBounds_toArray, List.set_cons_zero, List.set_cons_succ, i64_w, i32_w]
            rfl
          refine pure_ (i := 3) (N := some 35) (v := ?_) (a' := ?_) (B_ 18 15) rfl rfl (by kernel_rfl) (fun _ _ _ h => h) (Or.inl ⟨by rfl, ?_⟩) ?_ ?_
          rotate_left
          · intro w'
            go_simp
            with_reducible rfl
          rotate_left
          · simp only [Act.put, List.setIfInBounds_toArray, List.set_cons_zero, List.set_cons_succ, i64_w, i32_w]
            rfl
          refine pure_ (i := 4) (N := some 36) (v := ?_) (a' := ?_) (B_ 18 31) rfl rfl (by kernel_rfl) (fun _ _ _ h => h) (Or.inl ⟨by rfl, ?_⟩) ?_ ?_
          rotate_left
          · intro w'
            go_simp
            with_reducible rfl
          rotate_left
          · simp only [Act.put, List.setIfInBounds_toArray, List.set_cons_zero, List.set_cons_succ, i64_w, i32_w]
            rfl
          refine pure_ (i := 5) (N := some 37) (v := ?_) (a' := ?_) (B_ 18 63) rfl rfl (by kernel_rfl) (fun _ _ _ h => h) (Or.inl ⟨by rfl, ?_⟩) ?_ ?_
          rotate_left
          · intro w'
            go_simp
            with_reducible rfl
          rotate_left
          · simp only [Act.put, List.setIfInBounds_toArray, List.set_cons_zero, List.set_cons_succ, i64_w, i32_w]
            rfl
          refine pure_ (i := 6) (N := some 38) (v := ?_) (a' := ?_) (B_ 18 127) rfl rfl (by kernel_rfl) (fun _ _ _ h => h) (Or.inl ⟨by rfl, ?_⟩) ?_ ?_
          rotate_left
          · intro w'
            go_simp
            with_reducible rfl
          rotate_left
          · simp only [Act.put, List.setIfInBounds_toArray, List.set_cons_zero, List.set_cons_succ, i64_w, i32_w]
            rfl
          refine take_ (i := 7) (N := some 39) (v := ?_) (a' := ?_) (B_ 18 255) rfl rfl (by kernel_rfl) (fun _ _ _ h => h) (Or.inl ⟨by rfl, ?_⟩) hHeld ?_ ?_
          rotate_left
          · rintro w' ⟨s0, s1, s2, s3⟩
            go_simp
            with_reducible rfl
          rotate_left
          · simp only [Act.put, List.setIfInBounds_toArray, List.set_cons_zero, List.set_cons_succ, i64_w, i32_w]
            rfl
          refine take_ (i := 10) (N := some 42) (v := ?_) (a' := ?_) (B_ 18 1279) rfl rfl (by kernel_rfl) (fun _ _ _ h => h) (Or.inl ⟨by rfl, ?_⟩) hHeld ?_ ?_
          rotate_left
          · rintro w' ⟨s0, s1, s2, s3⟩
            go_simp
            with_reducible rfl
          rotate_left
          · simp only [Act.put, List.setIfInBounds_toArray, List.set_cons_zero, List.set_cons_succ, i64_w, i32_w]
            rfl
          refine one_ (i := 8) (N := some 40) (B_ 18 1535) rfl rfl (by kernel_rfl) (by decide) (fun K hK => ?_)
          refine goes_ Try.func16 (by kernel_rfl) rfl #[.agg #[.int .i64 a.f0, .slice A a.f1.length c, .string a.f2, .string a.f3]] (by rfl) rfl rfl (by simp only [List.map_toArray, List.map_cons, List.map_nil]; rfl) ?_
          with_reducible refine ((hck.out _ hbd.out hwb.out)).mono ?_
          rintro e x1 ⟨rfl, hb1⟩
          refine ⟨_, rfl, ?_⟩
          have hb1 := Aside0.mk (below_then hbd.out hbd.out.size hb1)
          refine hK.out _ _ ⟨(hC.out x1 hb1.out).1, (hC.out x1 hb1.out).2.1, (hC.out x1 hb1.out).2.2.1, (hC.out x1 hb1.out).2.2.2⟩ (fun hHeld => ?_)
          clear hK K
          refine norm_ (a' := ?_) ?_ ?_
          rotate_left
          · show Act.put _ (some 40) _ = _
            simp only [Act.put, List.setIfInBounds_toArray, List.set_cons_zero, List.set_cons_succ, i64_w, i32_w]
            rfl
          refine pure_ (i := 9) (N := some 41) (v := ?_) (a' := ?_) (B_ 18 2047) rfl rfl (by kernel_rfl) (fun _ _ _ h => h) (Or.inl ⟨by rfl, ?_⟩) ?_ ?_
          rotate_left
          · intro w'
            go_simp
            with_reducible rfl
          rotate_left
          · simp only [Act.put, List.setIfInBounds_toArray, List.set_cons_zero, List.set_cons_succ, i64_w, i32_w]
            rfl
          refine one_ (i := 11) (N := some 43) (B_ 18 4095) rfl rfl (by kernel_rfl) (by decide) (fun K hK => ?_)
          refine goes_ Try.func14 (by kernel_rfl) rfl #[.agg #[.int .i64 a.f0, .slice A a.f1.length c, .string a.f2, .string a.f3]] (by rfl) rfl rfl (by simp only [List.map_toArray, List.map_cons, List.map_nil]; rfl) ?_
          with_reducible refine ((hrr.out x1 hb1.out hwb.out)).mono ?_
          rintro e x2 ⟨rfl, hb2⟩
          refine ⟨_, rfl, ?_⟩
          have hb2 := Aside0.mk (below_then hb1.out hb1.out.size hb2)
          refine hK.out _ _ ⟨(hC.out x2 hb2.out).1, (hC.out x2 hb2.out).2.1, (hC.out x2 hb2.out).2.2.1, (hC.out x2 hb2.out).2.2.2⟩ (fun hHeld => ?_)
          clear hK K
          refine norm_ (a' := ?_) ?_ ?_
          rotate_left
          · show Act.put _ (some 43) _ = _
            simp only [Act.put, List.setIfInBounds_toArray, List.set_cons_zero, List.set_cons_succ, i64_w, i32_w]
            rfl
          refine pure_ (i := 12) (N := some 44) (v := ?_) (a' := ?_) (B_ 18 8191) rfl rfl (by kernel_rfl) (fun _ _ _ h => h) (Or.inl ⟨by rfl, ?_⟩) ?_ ?_
          rotate_left
          · intro w'
            go_simp
            with_reducible rfl
          rotate_left
          · simp only [Act.put, List.setIfInBounds_toArray, List.set_cons_zero, List.set_cons_succ, i64_w, i32_w]
            rfl
          refine pure_ (i := 13) (N := some 45) (v := ?_) (a' := ?_) (B_ 18 16383) rfl rfl (by kernel_rfl) (fun _ _ _ h => h) (Or.inl ⟨by rfl, ?_⟩) ?_ ?_
          rotate_left
          · intro w'
            go_simp
            with_reducible rfl
          rotate_left
          · simp only [Act.put, List.setIfInBounds_toArray, List.set_cons_zero, List.set_cons_succ, i64_w, i32_w]
            rfl
          refine pure_ (i := 14) (N := some 46) (v := ?_) (a' := ?_) (B_ 18 32767) rfl rfl (by kernel_rfl) (fun _ _ _ h => h) (Or.inl ⟨by rfl, ?_⟩) ?_ ?_
          rotate_left
          · intro w'
            go_simp
            with_reducible rfl
          rotate_left
          · simp only [Act.put, List.setIfInBounds_toArray, List.set_cons_zero, List.set_cons_succ, i64_w, i32_w]
            rfl
          refine one_ (i := 15) (N := some 47) (B_ 18 65535) rfl rfl (by kernel_rfl) (by decide) (fun K hK => ?_)
          refine goes_ Try.func12 (by kernel_rfl) rfl #[] (by rfl) rfl rfl (by simp only [List.map_toArray, List.map_nil]) ?_
          with_reducible refine ((hkn.out x2)).mono ?_
          rintro e x3 ⟨rfl, hb3x⟩
          refine ⟨_, rfl, ?_⟩
          have hb3x := Aside0.mk (below_then hb2.out hb2.out.size hb3x)
          refine hK.out _ _ ⟨(hC.out x3 hb3x.out).1, (hC.out x3 hb3x.out).2.1, (hC.out x3 hb3x.out).2.2.1, (hC.out x3 hb3x.out).2.2.2⟩ (fun hHeld => ?_)
          clear hK K
          refine norm_ (a' := ?_) ?_ ?_
          rotate_left
          · show Act.put _ (some 47) _ = _
            simp only [Act.put, List.setIfInBounds_toArray, List.set_cons_zero, List.set_cons_succ, i64_w, i32_w]
            rfl
          refine pure_ (i := 16) (N := some 48) (v := ?_) (a' := ?_) (B_ 18 131071) rfl rfl (by kernel_rfl) (fun _ _ _ h => h) (Or.inl ⟨by rfl, ?_⟩) ?_ ?_
          rotate_left
          · intro w'
            go_simp
            with_reducible rfl
          rotate_left
          · simp only [Act.put, List.setIfInBounds_toArray, List.set_cons_zero, List.set_cons_succ, i64_w, i32_w]
            rfl
          refine pure_ (i := 17) (N := some 4) (v := ?_) (a' := ?_) (B_ 18 262143) rfl rfl (by kernel_rfl) (fun _ _ _ h => h) (Or.inl ⟨by rfl, ?_⟩) ?_ ?_
          rotate_left
          · intro w'
            go_simp
            with_reducible rfl
          rotate_left
          · simp only [Act.put, List.setIfInBounds_toArray, List.set_cons_zero, List.set_cons_succ, i64_w, i32_w]
            rfl
          refine done_ (by kernel_rfl) ?_
          go_wp2_with fail
          go_ret
          exact ⟨rfl, hbw'.out _ hb3x.out⟩
        | true =>
          rw [if_pos (by rfl)] at hmr
          rw [if_pos rfl] at hcn
          subst hcn
          obtain ⟨rfl, rfl⟩ : x1 = mt ∧ x2 = 0 := by injection hmr with h1 h2; exact ⟨h1, h2⟩
          clear hmr
          go_wp2_with fail
          refine (hrr.out w5 hb5.out hwb.out).mono ?_
          rintro e w6 ⟨rfl, hb6⟩
          have hb6 := Aside0.mk (below_then hb5.out hb5.out.size hb6)
          clear p0 p1 p2 p3
          go_wp2_with fail
          refine (hre.out w6 hb6.out hm.out).mono ?_
          rintro e w7 ⟨rfl, hb7⟩
          replace hb6 := Aside0.mk (below_then hb6.out hb6.out.size hb7)
          clear hb7
          obtain ⟨p0, p1, p2, p3⟩ := hC.out w7 hb6.out
          go_wp2_with fail
          refine (hrm.out w7 hb6.out (by first | rfl | trivial) hwb.out hm.out).mono ?_
          rintro e w8 ⟨rfl, hb8⟩
          replace hb6 := Aside0.mk (below_then hb6.out hb6.out.size hb8)
          clear hb8 p0 p1 p2 p3
          obtain ⟨p0, p1, p2, p3⟩ := hC.out w8 hb6.out
          go_wp2_with fail
          refine (hck.out w8 hb6.out hwb.out).mono ?_
          rintro e w9 ⟨rfl, hb9⟩
          replace hb6 := Aside0.mk (below_then hb6.out hb6.out.size hb9)
          clear hb9 p0 p1 p2 p3
          obtain ⟨p0, p1, p2, p3⟩ := hC.out w9 hb6.out
          have hal := below_alloc (Below.refl w9.heap.size w9) (.cells #[.int .i64 a.f0, .slice A a.f1.length c, .string a.f2, .string a.f3] 25)
          have hnw := heap_alloc_new w9 (.cells #[.int .i64 a.f0, .slice A a.f1.length c, .string a.f2, .string a.f3] 25)
          have hb10 := Aside0.mk (below_then hb6.out hb6.out.size hal)
          have hca := Aside0.mk (hnot.out w9.heap.size _ hb10.out hwa.out hm.out (hone.out _ _ hnw hb10.out))
          clear hal hnw
          go_wp2_with fail
          refine hca.out.mono ?_
          rintro e w11 ⟨rfl, hb11⟩
          have hb11 := Aside0.mk (hbw'.out w11 (below_then hb10.out hb10.out.size hb11))
          rcases hnf.out with d | ⟨rfl, d⟩
          · have e1 := beq_eq_false_iff_ne.2 d
            have e2 := decide_eq_false d
            have e3 := bne_iff_ne.2 d
            have e4 := decide_eq_true d
            clear d
            go_wp2_with fail
            refine (hkn.out w11).mono ?_
            rintro e w12 ⟨rfl, hb12⟩
            have hbx := Aside0.mk (below_then hb11.out hb11.out.size hb12)
            go_wp2_with fail
            go_ret
            exact ⟨rfl, hbx.out⟩
          · subst d
            cases x1 <;>
            · go_wp2_with fail
              refine (hkn.out w11).mono ?_
              rintro e w12 ⟨rfl, hb12⟩
              have hbx := Aside0.mk (below_then hb11.out hb11.out.size hb12)
              go_wp2_with fail
              go_ret
              exact ⟨rfl, hbx.out⟩
section
variable {H : Type} {enc : TypeId × Value → H} {w : World}
set_option maxRecDepth 8000 in
theorem opens_at : Opens enc Try.prog w 47 kA (fun _ => True) := by
  intro fuel cs x h
  obtain ⟨xs, n, hfn, _, hl, hlen, hf⟩ := DataW.trod_struct Try.underlying47 h
  rw [cells_47'] at hl
  match xs, hlen, cs, hl with
  | [y0, y1], _, [c0, c1], _ =>
    have f0 := hf 0 (Field.mk "Name" 9 0 false "" "" 0) rfl
    have f1 := hf 1 (Field.mk "Values" 45 1 false "" "" 16) rfl
    simp only [cells_9, cells_45] at f0 f1
    obtain ⟨s0, e0, _, g0⟩ := DataW.trod_string Try.underlying9 f0
    obtain ⟨A1, c1', l1, e1, h1, _, hC1, hG1⟩ := opens_row (d := Kd.string) Try.underlying45 cells_9' (opens_string Try.underlying9) n _ _ f1
    replace e0 : c0 = .string s0 := by simpa using e0
    replace e1 : c1 = .slice A1 l1.length c1' := by simpa using e1
    subst e0; subst e1
    exact ⟨⟨s0, l1⟩, PFilterBounds.k47_mk w ⟨s0, l1⟩ h1 hC1, trivial⟩
end
set_option maxRecDepth 20000 in
/-- FilterMeans, behind what came in. -/
theorem filterMeans_row (W : World) (v : Value) (x : Ft) (hK : kF.K W x v.cells.toList) (hG : byteF x) (hv : Value.okWide Try.prog W .any 0 25 v)
    (A : Option Addr) (c : Nat) (l : List At) (hlc : l.length ≤ c) (hcm : c ≤ maxLen) (hC : kA.C W A l.length l) (hGl : ∀ y ∈ l, True) :
    Calls Try.prog 3 #[v, .slice A l.length c] W fun e w' => e = .returned (.bool true) ∧ Below W.heap.size W w' := by
  obtain ⟨B, d, rfl, hb⟩ := filt_of hK hv
  exact filterMeans_walk x B d l A c W hb hlc hC
end Go.Proofs.Ytgnmkblaockghaa
