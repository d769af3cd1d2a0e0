/- (*reader).told. -/
import Derived.Test.YthbjgcmbbdlfkaaCi
set_option linter.unusedVariables false
set_option linter.unusedSimpArgs false
namespace Go.Proofs.Ythbjgcmbbdlfkaa
open Go.RowKit Go.Shelf Go.Proofs.YthbjgcmbbdlfkaaW.PrintWords Go.Proofs.YthbjgcmbbdlfkaaW.PrintMore Go.Proofs.YthbjgcmbbdlfkaaW.PrintLast

theorem orB : ∀ d : Fin 16, ∀ e : Fin 16, bits .or .u8 (16 * (d.val : Int)) (e.val : Int) = 16 * (d.val : Int) + (e.val : Int) := by decide
theorem orI (d e : Int) (h0 : 0 ≤ d) (h1 : d < 16) (h2 : 0 ≤ e) (h3 : e < 16) : bits .or .u8 (16 * d) e = 16 * d + e := by
  have := orB ⟨d.toNat, by omega⟩ ⟨e.toNat, by omega⟩
  simpa [Int.toNat_of_nonneg h0, Int.toNat_of_nonneg h2] using this
set_option maxHeartbeats 2000000 in
theorem told_calls (B p : Nat) (s : ByteArray) (w : World) (hs : s.size ≤ 12000) (h : RdAt w B s p) (hp : p ≤ s.size) :
    Calls Try.prog 52 #[.pointer (some ⟨B, 0, none⟩)] w (Took ((toldF s p).map fun r => (.int .u8 r.1, r.2)) B s w) := by
  have hnx := Aside0.mk (next' B p s w hs h hp)
  by_cases hlt : p < s.size
  · rw [(next_yes hlt).1, (next_yes hlt).2] at hnx
    obtain ⟨x0, x1⟩ := bt_range s (p : Int)
    obtain ⟨x, hx⟩ : ∃ x, bt s (p : Int) = x := ⟨_, rfl⟩
    rw [hx] at hnx x0 x1
    go_enter Try.func52, Try.ntmps52
    go_wp2_with fail
    refine hnx.out.mono ?_
    rintro e w1 ⟨rfl, hb1⟩
    have hr1 := Aside0.mk (h.below hb1)
    have hm1 := Aside0.mk (Mod.of_below (S := Only B) hb1)
    clear hb1 hnx h
    replace hx := Aside0.mk hx
    replace hlt := Aside0.mk hlt
    go_wp2_with fail
    refine (must_yes _).mono ?_
    rintro e w1 ⟨rfl, rfl⟩
    have c1 := hr1.out.c1
    have z1 := hr1.out.z1
    have e2 : wrap64 ((p : Int) + 1) = (p : Int) + 1 := by unfold wrap64; omega
    have hr2 := Aside0.mk (show RdAt (w1.setCell ⟨B, 1, none⟩ (.int .i64 ((p : Int) + 1))) B s (p + 1) from hr1.out.set (p + 1))
    have hm2 := Aside0.mk (hm1.out.setCell (p := ⟨B, 1, none⟩) (.inl rfl) (.int .i64 ((p : Int) + 1)))
    obtain ⟨w2, hw2⟩ : ∃ wn, w1.setCell ⟨B, 1, none⟩ (.int .i64 ((p : Int) + 1)) = wn := ⟨_, rfl⟩
    rw [hw2] at hr2 hm2
    clear hr1 hm1
    go_wp2_with fail
    clear c1 z1 hw2
    refine (signs_calls w2).mono ?_
    rintro e w3 ⟨rfl, hb3, hmap⟩
    replace hr2 := Aside0.mk (hr2.out.below hb3)
    replace hm2 := Aside0.mk (hm2.out.then_below hb3)
    have hlk := run_lookup_sign x w3 w2.heap.size hmap
    clear hb3
    replace hmap := Aside0.mk hmap
    cases hs1 : signB x with
    | true =>
      rw [hs1] at hlk
      have hres := Aside0.mk (show toldF s p = some (x, p + 1) from by unfold toldF; rw [if_pos hlt.out, hx.out, if_pos (.inl hs1)])
      replace hs1 := Aside0.mk hs1
      go_wp2_with fail
      go_ret
      exact ⟨by rw [hres.out]; exact ⟨rfl, hr2.out, hlt.out⟩, hm2.out⟩
    | false =>
      rw [hs1] at hlk
      by_cases c32 : x = 32
      · subst c32
        have hres := Aside0.mk (show toldF s p = some (32, p + 1) from by unfold toldF; rw [if_pos hlt.out, hx.out, if_pos (.inr (.inl rfl))])
        replace hs1 := Aside0.mk hs1
        go_wp2_with fail
        go_ret
        exact ⟨by rw [hres.out]; exact ⟨rfl, hr2.out, hlt.out⟩, hm2.out⟩
      · by_cases c35 : x = 35
        · subst c35
          have hres := Aside0.mk (show toldF s p = some (35, p + 1) from by unfold toldF; rw [if_pos hlt.out, hx.out, if_pos (.inr (.inr rfl))])
          replace hs1 := Aside0.mk hs1
          go_wp2_with fail
          go_ret
          exact ⟨by rw [hres.out]; exact ⟨rfl, hr2.out, hlt.out⟩, hm2.out⟩
        · have n32 : (x == 32) = false := by simpa using c32
          have n35 : (x == 35) = false := by simpa using c35
          have hto : toldF s p = if p + 1 < s.size ∧ digitB x < 16 ∧ digitB (bt s ((p + 1 : Nat) : Int)) < 16 then some (16 * digitB x + digitB (bt s ((p + 1 : Nat) : Int)), p + 2) else none := by
            unfold toldF
            rw [if_pos hlt.out, hx.out, if_neg (by rw [hs1]; simp [c32, c35])]
          have hnx := Aside0.mk (next' B (p + 1) s w3 hs hr2.out hlt.out)
          replace c32 := Aside0.mk c32
          replace c35 := Aside0.mk c35
          replace hs1 := Aside0.mk hs1
          have hdx := Aside0.mk (fun W => digit_calls x x0 (by omega) W)
          obtain ⟨d0, d1⟩ := digitB_bound x0
          obtain ⟨d, hd⟩ : ∃ d, digitB x = d := ⟨_, rfl⟩
          rw [hd] at hdx d0 d1 hto
          by_cases hlt2 : p + 1 < s.size
          · rw [(next_yes hlt2).1, (next_yes hlt2).2] at hnx
            obtain ⟨y0, y1⟩ := bt_range s ((p + 1 : Nat) : Int)
            obtain ⟨y, hy⟩ : ∃ y, bt s ((p + 1 : Nat) : Int) = y := ⟨_, rfl⟩
            rw [hy] at hnx y0 y1 hto
            have hdy := Aside0.mk (fun W => digit_calls y y0 (by omega) W)
            obtain ⟨f0, f1⟩ := digitB_bound y0
            obtain ⟨f, hf⟩ : ∃ f, digitB y = f := ⟨_, rfl⟩
            rw [hf] at hdy f0 f1 hto
            replace hd := Aside0.mk hd
            replace hf := Aside0.mk hf
            replace hy := Aside0.mk hy
            replace hlt2 := Aside0.mk hlt2
            by_cases cd : d < 16
            · by_cases cf : f < 16
              · have hres := Aside0.mk (hto.trans (if_pos ⟨hlt2.out, cd, cf⟩))
                clear hto
                have hor := orI d f d0 cd f0 cf
                have hshl : d * 16 = 16 * d := by omega
                go_wp2_with fail
                refine hnx.out.mono ?_
                rintro e w4 ⟨rfl, hb4⟩
                replace hr2 := Aside0.mk (hr2.out.below hb4)
                replace hm2 := Aside0.mk (hm2.out.then_below hb4)
                clear hb4 hnx
                go_wp2_with fail
                refine (hdx.out _).mono ?_
                rintro e w4 ⟨rfl, rfl⟩
                go_wp2_with fail
                refine (hdy.out _).mono ?_
                rintro e w4 ⟨rfl, rfl⟩
                go_wp2_with fail
                refine (must_yes _).mono ?_
                rintro e w4 ⟨rfl, rfl⟩
                have c1 := hr2.out.c1
                have z1 := hr2.out.z1
                have e2 : wrap64 ((p : Int) + 1 + 1) = (p : Int) + 1 + 1 := by unfold wrap64; omega
                have hr3 := Aside0.mk (show RdAt (w4.setCell ⟨B, 1, none⟩ (.int .i64 ((p : Int) + 1 + 1))) B s (p + 2) from hr2.out.set (p + 2))
                have hm3 := Aside0.mk (hm2.out.setCell (p := ⟨B, 1, none⟩) (.inl rfl) (.int .i64 ((p : Int) + 1 + 1)))
                obtain ⟨w5, hw5⟩ : ∃ wn, w4.setCell ⟨B, 1, none⟩ (.int .i64 ((p : Int) + 1 + 1)) = wn := ⟨_, rfl⟩
                rw [hw5] at hr3 hm3
                clear hr2 hm2
                go_wp2_with fail
                clear c1 z1 hw5
                refine (hdx.out _).mono ?_
                rintro e w4 ⟨rfl, rfl⟩
                go_wp2_with fail
                refine (hdy.out _).mono ?_
                rintro e w4 ⟨rfl, rfl⟩
                go_wp2_with fail
                go_ret
                exact ⟨by rw [hres.out]; exact ⟨rfl, hr3.out, by have := hlt2.out; omega⟩, hm3.out⟩
              · have hres := Aside0.mk (hto.trans (if_neg (fun h => cf h.2.2)))
                have nf : decide (f < 16) = false := decide_eq_false cf
                replace cf := Aside0.mk cf
                clear hto
                go_wp2_with fail
                refine hnx.out.mono ?_
                rintro e w4 ⟨rfl, hb4⟩
                replace hm2 := Aside0.mk (hm2.out.then_below hb4)
                clear hb4 hnx
                go_wp2_with fail
                refine (hdx.out _).mono ?_
                rintro e w4 ⟨rfl, rfl⟩
                go_wp2_with fail
                refine (hdy.out _).mono ?_
                rintro e w4 ⟨rfl, rfl⟩
                go_wp2_with fail
                refine (must_no _).mono ?_
                rintro e w4 ⟨rfl, rfl⟩
                go_wp2_with fail
                exact ⟨rfl, by rw [hres.out]; rfl, hm2.out⟩
            · have hres := Aside0.mk (hto.trans (if_neg (fun h => cd h.2.1)))
              clear hto
              go_wp2_with fail
              refine hnx.out.mono ?_
              rintro e w4 ⟨rfl, hb4⟩
              replace hm2 := Aside0.mk (hm2.out.then_below hb4)
              clear hb4 hnx
              go_wp2_with fail
              refine (hdx.out _).mono ?_
              rintro e w4 ⟨rfl, rfl⟩
              go_wp2_with fail
              refine (must_no _).mono ?_
              rintro e w4 ⟨rfl, rfl⟩
              go_wp2_with fail
              exact ⟨rfl, by rw [hres.out]; rfl, hm2.out⟩
          · rw [(next_no hlt2).1, (next_no hlt2).2] at hnx
            have hres := Aside0.mk (hto.trans (if_neg (fun h => hlt2 h.1)))
            clear hto
            replace hd := Aside0.mk hd
            replace hlt2 := Aside0.mk hlt2
            go_wp2_with fail
            refine hnx.out.mono ?_
            rintro e w4 ⟨rfl, hb4⟩
            replace hm2 := Aside0.mk (hm2.out.then_below hb4)
            clear hb4 hnx
            go_wp2_with fail
            refine (must_no _).mono ?_
            rintro e w4 ⟨rfl, rfl⟩
            go_wp2_with fail
            exact ⟨rfl, by rw [hres.out]; rfl, hm2.out⟩
  · rw [(next_no hlt).1, (next_no hlt).2] at hnx
    have hres := Aside0.mk (show toldF s p = none from by unfold toldF; rw [if_neg hlt])
    replace hlt := Aside0.mk hlt
    replace h := Aside0.mk h
    go_enter Try.func52, Try.ntmps52
    go_wp2_with fail
    refine hnx.out.mono ?_
    rintro e w1 ⟨rfl, hb1⟩
    have hm1 := Aside0.mk (Mod.of_below (S := Only B) hb1)
    clear hb1 hnx h
    go_wp2_with fail
    refine (must_no _).mono ?_
    rintro e w1 ⟨rfl, rfl⟩
    go_wp2_with fail
    exact ⟨rfl, by rw [hres.out]; rfl, hm1.out⟩
end Go.Proofs.Ythbjgcmbbdlfkaa
