/- The reference's Parse, and the walk of FilterParses. -/
import Derived.Test.YtgnmkblaockghaaQNe
import Derived.Test.YtgnmkblaockghaaQH4
set_option linter.unusedVariables false
set_option linter.unusedSimpArgs false
namespace Go.Proofs.Ytgnmkblaockghaa
open Go.RowKit Go.Shelf Go.Proofs.YtgnmkblaockghaaW.PrintWords Go.Proofs.YtgnmkblaockghaaW.PrintMore Go.Proofs.YtgnmkblaockghaaW.PrintLast

/-- What the reference's Parse ends in. -/
def RefEnds (o : Option Ft) (w : World) (e : Ending) (w' : World) : Prop :=
  (match o with
    | some x => ∃ A c, e = .returned (.tuple #[fv x A c, .bool true]) ∧ x.f1.length ≤ c ∧ kF.F w' (fun q => w.heap.size ≤ q) A x.f1.length x.f1
    | none => e = .returned (.tuple #[noF, .bool false])) ∧ Below w.heap.size w w'
set_option maxRecDepth 20000 in
set_option maxHeartbeats 8000000 in
theorem rparse_calls (s : ByteArray) (hs : s.size ≤ 12000) (w : World) : Calls Try.prog 19 #[.string s] w (RefEnds (refF s) w) := by
  obtain ⟨R, hRw⟩ : ∃ R, w.heap.size = R := ⟨_, rfl⟩
  have hR1 := fbox_new w 25 (.int .i64 0) (.slice none 0 0) (.string ⟨#[]⟩) (.string ⟨#[]⟩)
  have hb1 := below_alloc (Below.refl w.heap.size w) (.cells #[.int .i64 0, .slice none 0 0, .string ⟨#[]⟩, .string ⟨#[]⟩] 25)
  obtain ⟨w1, hw1⟩ : ∃ w1, w.alloc (.cells #[.int .i64 0, .slice none 0 0, .string ⟨#[]⟩, .string ⟨#[]⟩] 25) = w1 := ⟨_, rfl⟩
  rw [hw1] at hR1 hb1
  rw [hRw] at hR1
  have hRle := Aside0.mk (show w.heap.size ≤ R by omega)
  have hcl := one_calls s hs 16 1 rfl 0 w1 (Nat.zero_le _)
  have hF : refF s = (oneF 16 s 0).bind fun r => if r.2 = s.size then (if rightF r.1 = true then some r.1 else none) else none := rfl
  have hone := one_weight s 16 0
  obtain ⟨res, hre⟩ : ∃ res, refF s = res := ⟨_, rfl⟩
  rw [hre] at hF ⊢
  clear hre
  obtain ⟨o, ho⟩ : ∃ o, oneF 16 s 0 = o := ⟨_, rfl⟩
  rw [ho] at hcl hone hF
  replace hcl : Aside0 (Calls Try.prog 44 #[.string s, .int .i64 0, .int .i64 1] w1 (OneEnds o w1)) := ⟨hcl⟩
  replace hF := Aside0.mk hF
  replace hone := Aside0.mk hone
  replace hR1 := Aside0.mk hR1
  replace hb1 := Aside0.mk hb1
  clear ho
  go_enter Try.func19, Try.ntmps19
  go_wp2_with fail
  refine hcl.out.mono ?_
  rintro e w2 ⟨he, hb2⟩
  have hR2 := hR1.out.below hb2
  have hbb2 := below_then hb1.out hb1.out.size hb2
  have hXn := fbox_new w2 25 (.int .i64 0) (.slice none 0 0) (.string ⟨#[]⟩) (.string ⟨#[]⟩)
  have hbn := below_alloc (Below.refl w2.heap.size w2) (.cells #[.int .i64 0, .slice none 0 0, .string ⟨#[]⟩, .string ⟨#[]⟩] 25)
  have hXR := Aside0.mk (show R < w2.heap.size from hR2.lt)
  obtain ⟨w3, hw3⟩ : ∃ w3, w2.alloc (.cells #[.int .i64 0, .slice none 0 0, .string ⟨#[]⟩, .string ⟨#[]⟩] 25) = w3 := ⟨_, rfl⟩
  rw [hw3] at hXn hbn
  have hR3 := hR2.below hbn
  have hbb3 := below_then hbb2 hbb2.size hbn
  obtain ⟨X, hXe⟩ : ∃ X, w2.heap.size = X := ⟨_, rfl⟩
  have hXle := Aside0.mk (show w.heap.size ≤ X by have := hbb2.size; omega)
  rw [hXe] at hXn hXR
  obtain ⟨e0, e1, e2, e3⟩ := hXn.free
  obtain ⟨d0, d1, d2, d3⟩ := hXn.cells
  have hz1 := Aside0.mk hb1.out.size
  have hR1lt := Aside0.mk hR1.out.lt
  clear hcl hR1 hb1 hR2 hbb2
  cases o with
  | none =>
    have he : e = .returned (.tuple #[noF, .int .i64 (-1)]) := he
    subst he
    have hres : Aside0 (res = none) := ⟨hF.out⟩
    obtain ⟨w4, hw4, hX4, hm4⟩ := put4 hXn (.int .i64 0) (.slice none 0 0) (.string ⟨#[]⟩) (.string ⟨#[]⟩)
    have hR4 := hR3.mod hm4 (show ¬ R = X by have := hXR.out; omega)
    have hb4 := mod_below hm4 hbb3 hXle.out
    obtain ⟨f0, f1, f2, f3⟩ := hR4.free
    obtain ⟨c0, c1, c2, c3⟩ := hR4.cells
    obtain ⟨wz, hwz, hRz, hmz⟩ := put4 hR4 (.int .i64 0) (.slice none 0 0) (.string ⟨#[]⟩) (.string ⟨#[]⟩)
    obtain ⟨r0, r1, r2, r3⟩ := hRz.cells
    have hbz := Aside0.mk (mod_below hmz hb4 hRle.out)
    have g1 : ((-1 : Int) != (s.size : Int)) = true := by rw [bne_iff_ne]; omega
    clear hX4 hm4 hR4 hb4 hmz hRz hXn hR3 hbb3 hbn hb2
    unfold noF
    go_wp2_with fail
    refine bodyPost_ret (v := .tuple #[noF, .bool false]) (by simp [results, Try.results19, go_sem, r0, r1, r2, r3]) rfl ?_
    exact ⟨by rw [hres.out], hbz.out⟩
  | some r =>
    obtain ⟨x, k⟩ := r
    obtain ⟨A, c, rfl, hc, hFx⟩ := he
    obtain ⟨hwx, hkx⟩ := hone.out (x, k) rfl
    have hwx : wF x ≤ 12000 := by dsimp only at hwx hkx; omega
    have hF2 : res = if k = s.size then (if rightF x = true then some x else none) else none := hF.out
    obtain ⟨w4, hw4, hX4, hm4⟩ := put4 hXn (.int .i64 x.f0) (.slice A x.f1.length c) (.string x.f2) (.string x.f3)
    have hR4 := hR3.mod hm4 (show ¬ R = X by have := hXR.out; omega)
    have hb4 := mod_below hm4 hbb3 hXle.out
    have hF4 := F_mod (Kd.F_below (Kd.F_bound hFx) hbn) hm4 (fun q hq e => by have e : q = X := e; have := hq.2; omega)
    have hfn : Fv w4 x A c := ⟨hc, Kd.F_now hF4⟩
    have hrr := rright_calls x A c w4 hfn hwx
    obtain ⟨x0, x1, x2, x3⟩ := hX4.cells
    replace hF4 := Aside0.mk hF4
    replace hR4 := Aside0.mk hR4
    replace hb4 := Aside0.mk hb4
    replace hX4 := Aside0.mk hX4
    unfold fv at hrr ⊢
    replace hrr := Aside0.mk hrr
    clear hm4 hXn hR3 hbb3 hbn hb2 hFx hfn
    by_cases hk : k = s.size
    · have g1 : ((k : Int) != (s.size : Int)) = false := by simp [hk]
      rw [if_pos hk] at hF2
      obtain ⟨rf, hrf⟩ : ∃ rf, rightF x = rf := ⟨_, rfl⟩
      rw [hrf] at hrr hF2
      replace hk := Aside0.mk hk
      cases rf with
      | false =>
        have hres : Aside0 (res = none) := ⟨hF2⟩
        go_wp2_with fail
        refine hrr.out.mono ?_
        rintro e w5 ⟨rfl, hb5⟩
        have hR5 := hR4.out.below hb5
        have hbb5 := below_then hb4.out hb4.out.size hb5
        obtain ⟨f0, f1, f2, f3⟩ := hR5.free
        obtain ⟨c0, c1, c2, c3⟩ := hR5.cells
        obtain ⟨wz, hwz, hRz, hmz⟩ := put4 hR5 (.int .i64 0) (.slice none 0 0) (.string ⟨#[]⟩) (.string ⟨#[]⟩)
        obtain ⟨r0, r1, r2, r3⟩ := hRz.cells
        have hbz := Aside0.mk (mod_below hmz hbb5 hRle.out)
        clear hR5 hbb5 hb5 hmz hRz
        go_wp2_with fail
        refine bodyPost_ret (v := .tuple #[noF, .bool false]) (by simp [results, Try.results19, go_sem, r0, r1, r2, r3]) rfl ?_
        exact ⟨by rw [hres.out], hbz.out⟩
      | true =>
        have hres : Aside0 (res = some x) := ⟨hF2⟩
        go_wp2_with fail
        refine hrr.out.mono ?_
        rintro e w5 ⟨rfl, hb5⟩
        have hR5 := hR4.out.below hb5
        have hbb5 := below_then hb4.out hb4.out.size hb5
        have hF5 := Kd.F_below hF4.out hb5
        obtain ⟨y0, y1, y2, y3⟩ := (hX4.out.below hb5).cells
        obtain ⟨f0, f1, f2, f3⟩ := hR5.free
        obtain ⟨c0, c1, c2, c3⟩ := hR5.cells
        obtain ⟨wz, hwz, hRz, hmz⟩ := put4 hR5 (.int .i64 x.f0) (.slice A x.f1.length c) (.string x.f2) (.string x.f3)
        obtain ⟨r0, r1, r2, r3⟩ := hRz.cells
        have hbz := Aside0.mk (mod_below hmz hbb5 hRle.out)
        have hFz := Aside0.mk (F_mod hF5 hmz (fun q hq e => by have e : q = R := e; have := hq.1; have := hz1.out; have := hR1lt.out; omega))
        clear hR5 hbb5 hb5 hmz hRz hF5
        go_wp2_with fail
        refine bodyPost_ret (v := .tuple #[.agg #[.int .i64 x.f0, .slice A x.f1.length c, .string x.f2, .string x.f3], .bool true]) (by simp [results, Try.results19, go_sem, r0, r1, r2, r3]) rfl ?_
        refine ⟨?_, hbz.out⟩
        rw [hres.out]
        exact ⟨A, c, rfl, hc, Kd.F_mono hFz.out (fun q hq => Nat.le_trans hz1.out hq.1)⟩
    · have g1 : ((k : Int) != (s.size : Int)) = true := by simp; omega
      have hres : Aside0 (res = none) := ⟨by rw [hF2, if_neg hk]⟩
      obtain ⟨f0, f1, f2, f3⟩ := hR4.out.free
      obtain ⟨c0, c1, c2, c3⟩ := hR4.out.cells
      obtain ⟨wz, hwz, hRz, hmz⟩ := put4 hR4.out (.int .i64 0) (.slice none 0 0) (.string ⟨#[]⟩) (.string ⟨#[]⟩)
      obtain ⟨r0, r1, r2, r3⟩ := hRz.cells
      have hbz := Aside0.mk (mod_below hmz hb4.out hRle.out)
      clear hmz hRz
      go_wp2_with fail
      refine bodyPost_ret (v := .tuple #[noF, .bool false]) (by simp [results, Try.results19, go_sem, r0, r1, r2, r3]) rfl ?_
      exact ⟨by rw [hres.out], hbz.out⟩
theorem sameT_self (x : Ft) : sameT x x = true := by
  refine filtInd (P := fun x => sameT x x = true) (fun k l s v ih => ?_) x
  have hL : ∀ l : List Ft, (∀ x ∈ l, sameT x x = true) → sameL l l = true := by
    intro l
    induction l with
    | nil => intro _; rw [sameL]
    | cons y ys ihy => intro h; rw [sameL, h y List.mem_cons_self, ihy (fun z hz => h z (List.mem_cons_of_mem _ hz))]; rfl
  rw [sameT, hL l ih]
  simp
set_option maxRecDepth 20000 in
set_option maxHeartbeats 8000000 in
/-- FilterParses, as a function. -/
theorem filterParses_walk (s : ByteArray) (w : World) : Calls Try.prog 4 #[.string s] w fun e w' => e = .returned (.bool true) ∧ Below w.heap.size w w' := by
  have hkn := Aside0.mk known_calls
  by_cases hs : s.size ≤ 3000
  · have q1 : decide ((s.size : Int) > 3000) = false := decide_eq_false (by omega)
    have hp := parse_calls s (by omega) w
    have hr := Aside0.mk (fun W => rparse_calls s (by omega) W)
    rw [parse_ref] at hp
    have hwt := fun x => ref_weight (s := s) (x := x)
    obtain ⟨o, ho⟩ : ∃ o, refF s = o := ⟨_, rfl⟩
    rw [ho] at hp hr hwt
    replace hp := Aside0.mk hp
    replace hwt := Aside0.mk hwt
    clear ho
    go_enter Try.func4, Try.ntmps4
    go_wp2_with fail
    refine hp.out.mono ?_
    rintro e w1 ⟨he, hb1⟩
    have hXn := fbox_new w1 25 (.int .i64 0) (.slice none 0 0) (.string ⟨#[]⟩) (.string ⟨#[]⟩)
    have hbn := below_alloc (Below.refl w1.heap.size w1) (.cells #[.int .i64 0, .slice none 0 0, .string ⟨#[]⟩, .string ⟨#[]⟩] 25)
    obtain ⟨w2, hw2⟩ : ∃ w2, w1.alloc (.cells #[.int .i64 0, .slice none 0 0, .string ⟨#[]⟩, .string ⟨#[]⟩] 25) = w2 := ⟨_, rfl⟩
    rw [hw2] at hXn hbn
    have hbb2 := below_then hb1 hb1.size hbn
    obtain ⟨X, hXe⟩ : ∃ X, w1.heap.size = X := ⟨_, rfl⟩
    have hXle := Aside0.mk (show w.heap.size ≤ X by have := hb1.size; omega)
    rw [hXe] at hXn
    obtain ⟨e0, e1, e2, e3⟩ := hXn.free
    obtain ⟨d0, d1, d2, d3⟩ := hXn.cells
    clear hp
    cases o with
    | none =>
      have he : e = .returned (.tuple #[noF, .int .i64 180]) := he
      subst he
      obtain ⟨w3, hw3, hX3, hm3⟩ := put4 hXn (.int .i64 0) (.slice none 0 0) (.string ⟨#[]⟩) (.string ⟨#[]⟩)
      have hb3 := Aside0.mk (mod_below hm3 hbb2 hXle.out)
      replace hX3 := Aside0.mk hX3
      clear hm3 hXn hbn hbb2 hb1
      unfold noF
      go_wp2_with fail
      refine (hr.out w3).mono ?_
      rintro e w4 ⟨he, hb4⟩
      have he : e = .returned (.tuple #[noF, .bool false]) := he
      subst he
      have hX4 := hX3.out.below hb4
      have hbb4 := below_then hb3.out hb3.out.size hb4
      have hYn := fbox_new w4 25 (.int .i64 0) (.slice none 0 0) (.string ⟨#[]⟩) (.string ⟨#[]⟩)
      have hbn := below_alloc (Below.refl w4.heap.size w4) (.cells #[.int .i64 0, .slice none 0 0, .string ⟨#[]⟩, .string ⟨#[]⟩] 25)
      obtain ⟨w5, hw5⟩ : ∃ w5, w4.alloc (.cells #[.int .i64 0, .slice none 0 0, .string ⟨#[]⟩, .string ⟨#[]⟩] 25) = w5 := ⟨_, rfl⟩
      rw [hw5] at hYn hbn
      have hX5 := hX4.below hbn
      have hbb5 := below_then hbb4 hbb4.size hbn
      obtain ⟨Y, hYe⟩ : ∃ Y, w4.heap.size = Y := ⟨_, rfl⟩
      have hXY : X < Y := by have := hX4.lt; omega
      rw [hYe] at hYn
      obtain ⟨y0, y1, y2, y3⟩ := hYn.free
      obtain ⟨p0, p1, p2, p3⟩ := hYn.cells
      obtain ⟨w6, hw6, hY6, hm6⟩ := put4 hYn (.int .i64 0) (.slice none 0 0) (.string ⟨#[]⟩) (.string ⟨#[]⟩)
      have hX6 := hX5.mod hm6 (show ¬ X = Y by omega)
      have hb6 := Aside0.mk (mod_below hm6 hbb5 (by have := hXle.out; omega))
      obtain ⟨x0, x1, x2, x3⟩ := hX6.cells
      have hsm := Aside0.mk (rsame_calls ⟨0, [], ⟨#[]⟩, ⟨#[]⟩⟩ ⟨0, [], ⟨#[]⟩, ⟨#[]⟩⟩ none 0 none 0 w6 ⟨Nat.le_refl _, Kd.C_nil _ _⟩ ⟨Nat.le_refl _, Kd.C_nil _ _⟩ (by rw [wF_of, wFs_nil]; decide) (by rw [wF_of, wFs_nil]; decide))
      rw [sameT_self] at hsm
      unfold fv at hsm
      dsimp only [List.length_nil] at hsm
      clear hX4 hbb4 hYn hbn hX5 hbb5 hY6 hm6 hX6 hX3 hb3 hb4
      unfold noF
      go_wp2_with fail
      refine hsm.out.mono ?_
      rintro e w7 ⟨rfl, hb7⟩
      have hbb7 := Aside0.mk (below_then hb6.out hb6.out.size hb7)
      go_wp2_with fail
      refine (hkn.out w7).mono ?_
      rintro e w8 ⟨rfl, hb8⟩
      have hbz := Aside0.mk (below_then hbb7.out hbb7.out.size hb8)
      go_wp2_with fail
      go_ret
      exact ⟨rfl, hbz.out⟩
    | some x =>
      obtain ⟨A, c, rfl, hc, hFx⟩ := he
      have hwx := Aside0.mk (show wF x ≤ 12000 by have := hwt.out x rfl; omega)
      obtain ⟨w3, hw3, hX3, hm3⟩ := put4 hXn (.int .i64 x.f0) (.slice A x.f1.length c) (.string x.f2) (.string x.f3)
      have hb3 := Aside0.mk (mod_below hm3 hbb2 hXle.out)
      have hF3 := Aside0.mk (F_mod (Kd.F_below (Kd.F_bound hFx) hbn) hm3 (fun q hq e => by have e : q = X := e; have := hq.2; omega))
      replace hX3 := Aside0.mk hX3
      clear hm3 hXn hbn hbb2 hb1 hFx
      unfold fv
      go_wp2_with fail
      refine (hr.out w3).mono ?_
      rintro e w4 ⟨he, hb4⟩
      obtain ⟨A', c', rfl, hc', hFy⟩ := he
      have hX4 := hX3.out.below hb4
      have hF4 := Kd.F_below hF3.out hb4
      have hbb4 := below_then hb3.out hb3.out.size hb4
      have hYn := fbox_new w4 25 (.int .i64 0) (.slice none 0 0) (.string ⟨#[]⟩) (.string ⟨#[]⟩)
      have hbn := below_alloc (Below.refl w4.heap.size w4) (.cells #[.int .i64 0, .slice none 0 0, .string ⟨#[]⟩, .string ⟨#[]⟩] 25)
      obtain ⟨w5, hw5⟩ : ∃ w5, w4.alloc (.cells #[.int .i64 0, .slice none 0 0, .string ⟨#[]⟩, .string ⟨#[]⟩] 25) = w5 := ⟨_, rfl⟩
      rw [hw5] at hYn hbn
      have hX5 := hX4.below hbn
      have hF5 := Kd.F_below (Kd.F_bound hF4) hbn
      have hG5 := Kd.F_below (Kd.F_bound hFy) hbn
      have hbb5 := below_then hbb4 hbb4.size hbn
      obtain ⟨Y, hYe⟩ : ∃ Y, w4.heap.size = Y := ⟨_, rfl⟩
      have hXY : X < Y := by have := hX4.lt; omega
      rw [hYe] at hYn hF5 hG5
      obtain ⟨y0, y1, y2, y3⟩ := hYn.free
      obtain ⟨p0, p1, p2, p3⟩ := hYn.cells
      obtain ⟨w6, hw6, hY6, hm6⟩ := put4 hYn (.int .i64 x.f0) (.slice A' x.f1.length c') (.string x.f2) (.string x.f3)
      have hX6 := hX5.mod hm6 (show ¬ X = Y by omega)
      have hF6 := Kd.F_now (F_mod hF5 hm6 (fun q hq e => by have e : q = Y := e; have := hq.2; omega))
      have hG6 := Kd.F_now (F_mod hG5 hm6 (fun q hq e => by have e : q = Y := e; have := hq.2; omega))
      have hb6 := Aside0.mk (mod_below hm6 hbb5 (by have := hXle.out; omega))
      obtain ⟨x0, x1, x2, x3⟩ := hX6.cells
      obtain ⟨z0, z1, z2, z3⟩ := hY6.cells
      have hsm := Aside0.mk (rsame_calls x x A c A' c' w6 ⟨hc, hF6⟩ ⟨hc', hG6⟩ hwx.out hwx.out)
      rw [sameT_self] at hsm
      unfold fv at hsm
      clear hX4 hF4 hbb4 hYn hbn hX5 hF5 hG5 hbb5 hY6 hm6 hX6 hF6 hG6 hX3 hF3 hb3 hb4 hFy
      unfold fv
      go_wp2_with fail
      refine hsm.out.mono ?_
      rintro e w7 ⟨rfl, hb7⟩
      have hbb7 := Aside0.mk (below_then hb6.out hb6.out.size hb7)
      go_wp2_with fail
      refine (hkn.out w7).mono ?_
      rintro e w8 ⟨rfl, hb8⟩
      have hbz := Aside0.mk (below_then hbb7.out hbb7.out.size hb8)
      go_wp2_with fail
      go_ret
      exact ⟨rfl, hbz.out⟩
  · have q1 : decide ((s.size : Int) > 3000) = true := decide_eq_true (by omega)
    go_enter Try.func4, Try.ntmps4
    go_wp2_with fail
    refine (hkn.out _).mono ?_
    rintro e w1 ⟨rfl, hb1⟩
    replace hb1 := Aside0.mk hb1
    go_wp2_with fail
    go_ret
    exact ⟨rfl, hb1.out⟩
end Go.Proofs.Ytgnmkblaockghaa
