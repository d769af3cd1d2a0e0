/- The reader's value. -/
import Derived.Test.YtgnmkblaockghaaQJf
set_option linter.unusedVariables false
set_option linter.unusedSimpArgs false
namespace Go.Proofs.Ytgnmkblaockghaa
open Go.RowKit Go.Shelf Go.Proofs.YtgnmkblaockghaaW.PrintWords Go.Proofs.YtgnmkblaockghaaW.PrintMore Go.Proofs.YtgnmkblaockghaaW.PrintLast

/-- A value from a place on, behind what there is of it. -/
def valF (s : ByteArray) (k : Nat) (out : List Int) : Option (List Int × Nat) :=
  if h : k < s.size then
    if bt s (k : Int) = 41 ∨ bt s (k : Int) = 42 then some (out, k)
    else if bt s (k : Int) ≠ 40 ∧ 32 ≤ bt s (k : Int) ∧ bt s (k : Int) ≤ 126 then
      if bt s (k : Int) = 92 then
        if k + 2 < s.size ∧ 0 ≤ hexN (bt s ((k + 1 : Nat) : Int)) ∧ 0 ≤ hexN (bt s ((k + 2 : Nat) : Int)) then valF s (k + 3) (out ++ [16 * hexN (bt s ((k + 1 : Nat) : Int)) + hexN (bt s ((k + 2 : Nat) : Int))]) else none
      else valF s (k + 1) (out ++ [bt s (k : Int)])
    else none
  else none
termination_by s.size - k
section
variable {s : ByteArray} {k : Nat} {out : List Int}
theorem valF_end (h : ¬ k < s.size) : valF s k out = none := by rw [valF, dif_neg h]
theorem valF_stop (h : k < s.size) (h1 : bt s (k : Int) = 41 ∨ bt s (k : Int) = 42) : valF s k out = some (out, k) := by rw [valF, dif_pos h, if_pos h1]
theorem valF_bad (h : k < s.size) (h1 : ¬ (bt s (k : Int) = 41 ∨ bt s (k : Int) = 42)) (h2 : ¬ (bt s (k : Int) ≠ 40 ∧ 32 ≤ bt s (k : Int) ∧ bt s (k : Int) ≤ 126)) : valF s k out = none := by rw [valF, dif_pos h, if_neg h1, if_neg h2]
theorem valF_esc (h : k < s.size) (h1 : ¬ (bt s (k : Int) = 41 ∨ bt s (k : Int) = 42)) (h2 : bt s (k : Int) ≠ 40 ∧ 32 ≤ bt s (k : Int) ∧ bt s (k : Int) ≤ 126) (h3 : bt s (k : Int) = 92) : valF s k out = if k + 2 < s.size ∧ 0 ≤ hexN (bt s ((k + 1 : Nat) : Int)) ∧ 0 ≤ hexN (bt s ((k + 2 : Nat) : Int)) then valF s (k + 3) (out ++ [16 * hexN (bt s ((k + 1 : Nat) : Int)) + hexN (bt s ((k + 2 : Nat) : Int))]) else none := by rw [valF, dif_pos h, if_neg h1, if_pos h2, if_pos h3]
theorem valF_next (h : k < s.size) (h1 : ¬ (bt s (k : Int) = 41 ∨ bt s (k : Int) = 42)) (h2 : bt s (k : Int) ≠ 40 ∧ 32 ≤ bt s (k : Int) ∧ bt s (k : Int) ≤ 126) (h3 : ¬ bt s (k : Int) = 92) : valF s k out = valF s (k + 1) (out ++ [bt s (k : Int)]) := by rw [valF, dif_pos h, if_neg h1, if_pos h2, if_neg h3]
end
/-- The reader's place in a world: for a measure. -/
def atOf (B : Nat) (W : World) : Nat := (intOf ((W.cell? ⟨B, 1, none⟩).getD undef)).toNat
theorem atOf_rd {W : World} {B p n : Nat} {s : ByteArray} (h : RdAt W B s p n) : atOf B W = p := by unfold atOf; rw [h.c1]; simp [intOf]
theorem or_fin : ∀ h : Fin 16, ∀ d : Fin 16, bits .or .u8 (16 * (h.val : Int)) (d.val : Int) = 16 * (h.val : Int) + (d.val : Int) := by decide +kernel
theorem or_hex (h d : Int) (h0 : 0 ≤ h) (h1 : h < 16) (d0 : 0 ≤ d) (d1 : d < 16) : bits .or .u8 (16 * h) d = 16 * h + d := by
  have := or_fin ⟨h.toNat, by omega⟩ ⟨d.toNat, by omega⟩
  simpa [Int.toNat_of_nonneg h0, Int.toNat_of_nonneg d0] using this
set_option maxRecDepth 8000 in
set_option maxHeartbeats 8000000 in
theorem rvalue_calls (B p n : Nat) (s : ByteArray) (w : World) (hs : s.size ≤ 12000) (h : RdAt w B s p n) :
    Calls Try.prog 87 #[.pointer (some ⟨B, 0, none⟩)] w (Took ((valF s p []).map fun r => (.string (strOfNums r.1), r.2)) B n s w) := by
  obtain ⟨r, hr⟩ : ∃ r, valF s p [] = r := ⟨_, rfl⟩
  rw [hr]
  have hBlt := h.lt
  have hne : Aside0 (∀ q, w.heap.size ≤ q → ¬ Only B q) := ⟨fun q hq e => by have : q = B := e; omega⟩
  by_cases hp : p < s.size
  · have hn := Aside0.mk (next_yes B p n s w hs h hp)
    replace h := Aside0.mk h
    replace hr := Aside0.mk hr
    replace hBlt := Aside0.mk hBlt
    go_enter Try.func87, Try.ntmps87
    go_wp2_with fail
    refine hn.out.mono ?_
    rintro e w1 ⟨rfl, hb⟩
    have h1 := Aside0.mk (h.out.below hb)
    have hm1 := Aside0.mk (Mod.of_below (S := Only B) hb)
    clear hb hn
    go_wp2_with fail
    go_loopw [3, 4] (fun s3 s4 wr => ∃ (k : Nat) (out : List Int) (v : Value), k < s.size ∧ s3 = v ∧ s4 = .int .u8 (bt s (k : Int)) ∧ Aside0 (out.length ≤ k) ∧ Aside0 (valF s k out = r) ∧ Aside0 (RdAt wr B s k n) ∧ Aside0 ((Kd.int .u8).R 5 wr 0 (fun q => w.heap.size ≤ q) v out) ∧ Aside0 (Mod (Only B) w wr)) (fun _ _ wr => s.size - atOf B wr)
    case atStart => exact ⟨p, [], _, hp, rfl, rfl, ⟨Nat.zero_le _⟩, hr, h1, ⟨Kd.R_nil _ _ _ _ _⟩, hm1⟩
    case round =>
      clear h1 hm1 h hr
      obtain ⟨k, out, v, hk, rfl, rfl, hlen, hres, hrd, hR, hmr⟩ := hrel
      have hol := hlen.out
      obtain ⟨x0, x1⟩ := bt_range s (k : Int)
      obtain ⟨x, hx⟩ : ∃ x, bt s (k : Int) = x := ⟨_, rfl⟩
      rw [hx] at x0 x1 ⊢
      replace hx := Aside0.mk hx
      by_cases h4 : x = 41 ∨ x = 42
      · have hfin := Aside0.mk (hres.out.symm.trans (valF_stop hk (by rw [hx.out]; exact h4)))
        obtain ⟨A', c', ev, _, hC⟩ := Kd.R_reads hR.out
        have hst := Kd.C_string (P := Try.prog) (src := 52) (dst := 9) (c := c') Try.underlying52 Try.underlying5 Try.underlying9 hC
        subst ev
        obtain ⟨so, hso⟩ : ∃ so, strOfNums out = so := ⟨_, rfl⟩
        rw [hso] at hst
        have hso := Aside0.mk hso
        generalize out.length = nn at *
        clear hC hR
        rcases h4 with rfl | rfl
        all_goals
          go_wp2_with fail
          go_ret
          refine ⟨?_, hmr.out⟩
          rw [hfin.out]
          exact ⟨by rw [← hso.out]; rfl, hrd.out⟩
      · have n1 : (x != 41) = true := by simp; omega
        have n2 : (x != 42) = true := by simp; omega
        have m1 : (x == 41) = false := by simp; omega
        have m2 : (x == 42) = false := by simp; omega
        by_cases h40 : x ≠ 40 ∧ 32 ≤ x ∧ x ≤ 126
        · have n3 : (x != 40) = true := by simp; omega
          have m3 : (x == 40) = false := by simp; omega
          have n4 : decide (32 ≤ x) = true := decide_eq_true h40.2.1
          have n5 : decide (x ≤ 126) = true := decide_eq_true h40.2.2
          by_cases c92 : x = 92
          · have d92 : (x == 92) = true := by simp [c92]
            have hvx := hres.out.symm.trans (valF_esc hk (by rw [hx.out]; exact h4) (by rw [hx.out]; exact h40) (by rw [hx.out]; exact c92))
            have c1 := hrd.out.c1
            have z1 := hrd.out.z1
            have hset : RdAt (wr.setCell ⟨B, 1, none⟩ (.int .i64 ((k : Int) + 1))) B s (k + 1) n := hrd.out.set (k + 1)
            have hms : Mod (Only B) wr (wr.setCell ⟨B, 1, none⟩ (.int .i64 ((k : Int) + 1))) := setAt_mod wr B 1 _
            obtain ⟨w1, hw1⟩ : ∃ wn, wr.setCell ⟨B, 1, none⟩ (.int .i64 ((k : Int) + 1)) = wn := ⟨_, rfl⟩
            rw [hw1] at hset hms
            obtain ⟨k1, hk1⟩ : ∃ kn, k + 1 = kn := ⟨_, rfl⟩
            rw [hk1] at hset
            have h1 := Aside0.mk hset
            have hm1 := Aside0.mk (hmr.out.trans hms (fun q hq => .inl hq))
            have hR1 := Aside0.mk (R_mod hR.out hms (fun q hq e => hne.out q hq e))
            have hk1 := Aside0.mk hk1
            clear hset hms
            go_wp2_with fail
            refine (must_yes _).mono ?_
            rintro e wy ⟨rfl, rfl⟩
            go_wp2_with fail
            by_cases g1 : k1 < s.size
            · refine (next_yes B k1 n s wy hs h1.out g1).mono ?_
              rintro e w2 ⟨rfl, hb2⟩
              have h2 := Aside0.mk (h1.out.below hb2)
              have hm2 := Aside0.mk (hm1.out.then_below hb2)
              have hR2 := Aside0.mk (Kd.R_below hR1.out hb2)
              clear hb2
              obtain ⟨y0, y1⟩ := bt_range s (k1 : Int)
              rw [show k + 2 = k1 + 1 from by have := hk1.out; omega, show k + 3 = k1 + 1 + 1 from by have := hk1.out; omega, hk1.out] at hvx
              obtain ⟨y, hy⟩ : ∃ y, bt s (k1 : Int) = y := ⟨_, rfl⟩
              rw [hy] at y0 y1 hvx ⊢
              clear hy
              have hdg := digit_calls y w2 y0 (by omega)
              obtain ⟨hr1, hr2⟩ := hexN_range y
              go_wp2_with fail
              generalize hexN y = dh at *
              by_cases g2 : 0 ≤ dh
              · rw [if_pos g2] at hdg
                replace hdg := Aside0.mk hdg
                refine hdg.out.mono ?_
                rintro e w3 ⟨rfl, hb3⟩
                have h3 := Aside0.mk (h2.out.below hb3)
                have hm3 := Aside0.mk (hm2.out.then_below hb3)
                have hR3 := Aside0.mk (Kd.R_below hR2.out hb3)
                clear hb3
                clear hdg
                have c1 := h3.out.c1
                have z1 := h3.out.z1
                have hset : RdAt (w3.setCell ⟨B, 1, none⟩ (.int .i64 ((k1 : Int) + 1))) B s (k1 + 1) n := h3.out.set (k1 + 1)
                have hms : Mod (Only B) w3 (w3.setCell ⟨B, 1, none⟩ (.int .i64 ((k1 : Int) + 1))) := setAt_mod w3 B 1 _
                obtain ⟨w4, hw4⟩ : ∃ wn, w3.setCell ⟨B, 1, none⟩ (.int .i64 ((k1 : Int) + 1)) = wn := ⟨_, rfl⟩
                rw [hw4] at hset hms
                obtain ⟨k2, hk2⟩ : ∃ kn, k1 + 1 = kn := ⟨_, rfl⟩
                rw [hk2] at hset
                have h4' := Aside0.mk hset
                have hm4 := Aside0.mk (hm3.out.trans hms (fun q hq => .inl hq))
                have hR4 := Aside0.mk (R_mod hR3.out hms (fun q hq e => hne.out q hq e))
                have hk2 := Aside0.mk hk2
                clear hset hms
                go_wp2_with fail
                by_cases g3 : k2 < s.size
                · refine (next_yes B k2 n s w4 hs h4'.out g3).mono ?_
                  rintro e w5 ⟨rfl, hb5⟩
                  have h5 := Aside0.mk (h4'.out.below hb5)
                  have hm5 := Aside0.mk (hm4.out.then_below hb5)
                  have hR5 := Aside0.mk (Kd.R_below hR4.out hb5)
                  clear hb5
                  rw [hk2.out] at hvx
                  obtain ⟨t0, t1⟩ := bt_range s (k2 : Int)
                  obtain ⟨t, ht⟩ : ∃ t, bt s (k2 : Int) = t := ⟨_, rfl⟩
                  rw [ht] at t0 t1 hvx ⊢
                  clear ht
                  have hdg := digit_calls t w5 t0 (by omega)
                  obtain ⟨hr3, hr4⟩ := hexN_range t
                  go_wp2_with fail
                  generalize hexN t = dl at *
                  by_cases g4 : 0 ≤ dl
                  · rw [if_pos g4] at hdg
                    replace hdg := Aside0.mk hdg
                    refine hdg.out.mono ?_
                    rintro e w6 ⟨rfl, hb6⟩
                    have h6 := Aside0.mk (h5.out.below hb6)
                    have hm6 := Aside0.mk (hm5.out.then_below hb6)
                    have hR6 := Aside0.mk (Kd.R_below hR5.out hb6)
                    clear hb6
                    clear hdg
                    have hor := or_hex dh dl g2 (by omega) g4 (by omega)
                    rw [if_pos ⟨g3, g2, g4⟩] at hvx
                    have hsh : dh * 16 % 256 = 16 * dh := by omega
                    have hsh2 : IntKind.u8.wrap (dh * 16) = 16 * dh := by rw [IntKind.wrap_u8]; omega
                    have hsh3 : dh * 16 = 16 * dh := by omega
                    obtain ⟨z, hz⟩ : ∃ z, 16 * dh + dl = z := ⟨_, rfl⟩
                    rw [hz] at hor hvx
                    clear hz
                    have c1 := h6.out.c1
                    have z1 := h6.out.z1
                    have hset : RdAt (w6.setCell ⟨B, 1, none⟩ (.int .i64 ((k2 : Int) + 1))) B s (k2 + 1) n := h6.out.set (k2 + 1)
                    have hms : Mod (Only B) w6 (w6.setCell ⟨B, 1, none⟩ (.int .i64 ((k2 : Int) + 1))) := setAt_mod w6 B 1 _
                    obtain ⟨w7, hw7⟩ : ∃ wn, w6.setCell ⟨B, 1, none⟩ (.int .i64 ((k2 : Int) + 1)) = wn := ⟨_, rfl⟩
                    rw [hw7] at hset hms
                    obtain ⟨k3, hk3⟩ : ∃ kn, k2 + 1 = kn := ⟨_, rfl⟩
                    rw [hk3] at hset
                    have h7 := Aside0.mk hset
                    have hm7 := Aside0.mk (hm6.out.trans hms (fun q hq => .inl hq))
                    have hR7 := Aside0.mk (R_mod hR6.out hms (fun q hq e => hne.out q hq e))
                    have hk3 := Aside0.mk hk3
                    clear hset hms
                    rw [hk3.out] at hvx
                    have hkk : k < k3 := by have := hk1.out; have := hk2.out; have := hk3.out; omega
                    clear hres
                    have hres := Aside0.mk hvx.symm
                    clear hvx
                    obtain ⟨A', c', ev⟩ := Kd.R_slice hR7.out
                    obtain ⟨n', hn'⟩ : ∃ n', out.length = n' := ⟨_, rfl⟩
                    have hn9 : n' ≤ 12000 := by omega
                    rw [hn'] at ev
                    subst ev
                    replace hn' := Aside0.mk hn'
                    go_wp2_with ((with_reducible refine gate_builtin (b := .append) (xs := #[.tmp 59, .tmp 61]) rfl ?_); at_builtin; refine Kd.R_append (Kd.int .u8) (w0 := w7) 0 rfl (.tmp 59) (.tmp 61) 52 5 (.int .u8 0) 1 rfl Try.underlying52 PFilterBounds.info5 rfl (by decide) (by omega) (.slice A' n' c') out z [.int .u8 z] (fun q => w.heap.size ≤ q) (fun _ => False) rfl rfl rfl (fun _ h => h.elim) (fun q hq => by have := hm7.out.size; omega) hR7.out (Below.refl _ _) (Nat.zero_le _) (by have := hn'.out; omega) ?_; intro v1 w9 ho _ hg _; replace ho := Aside0.mk ho; have hm9 := Aside0.mk (hm7.out.trans (Mod.of_grown (S := fun q => w.heap.size ≤ q) hg (fun q hq => .inl (hR7.out.1 q hq))) (fun q hq => .inr hq)); have h9 := Aside0.mk (show RdAt w9 B s k3 n from (hg.block B h7.out.lt (fun e => hne.out B (hR7.out.1 B e.symm) rfl)).trans h7.out); clear hg)
                    by_cases hl9 : k3 < s.size
                    · refine (next_yes B k3 n s w9 hs h9.out hl9).mono ?_
                      rintro e wz ⟨rfl, hbz⟩
                      have h10 := Aside0.mk (h9.out.below hbz)
                      have hm10 := Aside0.mk (hm9.out.then_below hbz)
                      have hR10 := Aside0.mk (Kd.R_below ho.out hbz)
                      have hat := Aside0.mk (show s.size - atOf B wz < s.size - atOf B wr by rw [atOf_rd h10.out, atOf_rd hrd.out]; omega)
                      have hlen := Aside0.mk (show (out ++ [z]).length ≤ k3 by rw [List.length_append, List.length_singleton]; omega)
                      clear hbz
                      go_wp2_with fail
                      go_roundw
                      case rel => exact ⟨k3, out ++ [z], _, hl9, rfl, rfl, hlen, hres, h10, hR10, hm10⟩
                      case measure => exact hat.out
                    · have hrz : r = none := by rw [← hres.out, valF_end hl9]
                      clear hres
                      refine (next_no B k3 n s w9 hs h9.out (by omega)).mono ?_
                      rintro e wz ⟨rfl, hbz⟩
                      have hmz := Aside0.mk (hm9.out.then_below hbz)
                      clear hbz
                      go_wp2_with fail
                      exact ⟨rfl, by rw [hrz]; rfl, hmz.out⟩
                  · rw [if_neg g4] at hdg
                    replace hdg := Aside0.mk hdg
                    have hrz : r = none := hvx.trans (if_neg (fun h => g4 h.2.2))
                    replace hrz := Aside0.mk hrz
                    clear hvx
                    refine hdg.out.mono ?_
                    rintro e w6 ⟨rfl, hb6⟩
                    have hmz := Aside0.mk (hm5.out.then_below hb6)
                    go_wp2_with fail
                    exact ⟨rfl, by rw [hrz.out]; rfl, hmz.out⟩
                · have hrz : r = none := hvx.trans (if_neg (fun h => g3 (by have := hk2.out; omega)))
                  replace hrz := Aside0.mk hrz
                  clear hvx
                  refine (next_no B k2 n s w4 hs h4'.out (by omega)).mono ?_
                  rintro e wz ⟨rfl, hbz⟩
                  have hmz := Aside0.mk (hm4.out.then_below hbz)
                  clear hbz
                  go_wp2_with fail
                  exact ⟨rfl, by rw [hrz.out]; rfl, hmz.out⟩
              · rw [if_neg g2] at hdg
                replace hdg := Aside0.mk hdg
                have hrz : r = none := hvx.trans (if_neg (fun h => g2 h.2.1))
                replace hrz := Aside0.mk hrz
                clear hvx
                refine hdg.out.mono ?_
                rintro e w3 ⟨rfl, hb3⟩
                have hmz := Aside0.mk (hm2.out.then_below hb3)
                go_wp2_with fail
                exact ⟨rfl, by rw [hrz.out]; rfl, hmz.out⟩
            · have hrz : r = none := hvx.trans (if_neg (fun h => g1 (by have := hk1.out; omega)))
              replace hrz := Aside0.mk hrz
              clear hvx
              refine (next_no B k1 n s wy hs h1.out (by omega)).mono ?_
              rintro e wz ⟨rfl, hbz⟩
              have hmz := Aside0.mk (hm1.out.then_below hbz)
              clear hbz
              go_wp2_with fail
              exact ⟨rfl, by rw [hrz.out]; rfl, hmz.out⟩
          · have d92 : (x == 92) = false := by simp [c92]
            have hvx := hres.out.symm.trans (valF_next hk (by rw [hx.out]; exact h4) (by rw [hx.out]; exact h40) (by rw [hx.out]; exact c92))
            rw [hx.out] at hvx
            have c1 := hrd.out.c1
            have z1 := hrd.out.z1
            have hset : RdAt (wr.setCell ⟨B, 1, none⟩ (.int .i64 ((k : Int) + 1))) B s (k + 1) n := hrd.out.set (k + 1)
            have hms : Mod (Only B) wr (wr.setCell ⟨B, 1, none⟩ (.int .i64 ((k : Int) + 1))) := setAt_mod wr B 1 _
            obtain ⟨w1, hw1⟩ : ∃ wn, wr.setCell ⟨B, 1, none⟩ (.int .i64 ((k : Int) + 1)) = wn := ⟨_, rfl⟩
            rw [hw1] at hset hms
            obtain ⟨k1, hk1⟩ : ∃ kn, k + 1 = kn := ⟨_, rfl⟩
            rw [hk1] at hset
            have h1 := Aside0.mk hset
            have hm1 := Aside0.mk (hmr.out.trans hms (fun q hq => .inl hq))
            have hR1 := Aside0.mk (R_mod hR.out hms (fun q hq e => hne.out q hq e))
            have hk1 := Aside0.mk hk1
            clear hset hms
            rw [hk1.out] at hvx
            clear hres
            have hres := Aside0.mk hvx.symm
            clear hvx
            have hkk : k < k1 := by have := hk1.out; omega
            go_wp2_with fail
            refine (must_yes _).mono ?_
            rintro e wy ⟨rfl, rfl⟩
            obtain ⟨A', c', ev⟩ := Kd.R_slice hR1.out
            obtain ⟨n', hn'⟩ : ∃ n', out.length = n' := ⟨_, rfl⟩
            have hn9 : n' ≤ 12000 := by omega
            rw [hn'] at ev
            subst ev
            replace hn' := Aside0.mk hn'
            go_wp2_with ((with_reducible refine gate_builtin (b := .append) (xs := #[.tmp 59, .tmp 61]) rfl ?_); at_builtin; refine Kd.R_append (Kd.int .u8) (w0 := wy) 0 rfl (.tmp 59) (.tmp 61) 52 5 (.int .u8 0) 1 rfl Try.underlying52 PFilterBounds.info5 rfl (by decide) (by omega) (.slice A' n' c') out x [.int .u8 x] (fun q => w.heap.size ≤ q) (fun _ => False) rfl rfl rfl (fun _ h => h.elim) (fun q hq => by have := hm1.out.size; omega) hR1.out (Below.refl _ _) (Nat.zero_le _) (by have := hn'.out; omega) ?_; intro v1 w9 ho _ hg _; replace ho := Aside0.mk ho; have hm9 := Aside0.mk (hm1.out.trans (Mod.of_grown (S := fun q => w.heap.size ≤ q) hg (fun q hq => .inl (hR1.out.1 q hq))) (fun q hq => .inr hq)); have h9 := Aside0.mk (show RdAt w9 B s k1 n from (hg.block B h1.out.lt (fun e => hne.out B (hR1.out.1 B e.symm) rfl)).trans h1.out); clear hg)
            by_cases hl9 : k1 < s.size
            · refine (next_yes B k1 n s w9 hs h9.out hl9).mono ?_
              rintro e wz ⟨rfl, hbz⟩
              have h10 := Aside0.mk (h9.out.below hbz)
              have hm10 := Aside0.mk (hm9.out.then_below hbz)
              have hR10 := Aside0.mk (Kd.R_below ho.out hbz)
              have hat := Aside0.mk (show s.size - atOf B wz < s.size - atOf B wr by rw [atOf_rd h10.out, atOf_rd hrd.out]; omega)
              have hlen := Aside0.mk (show (out ++ [x]).length ≤ k1 by rw [List.length_append, List.length_singleton]; omega)
              clear hbz
              go_wp2_with fail
              go_roundw
              case rel => exact ⟨k1, out ++ [x], _, hl9, rfl, rfl, hlen, hres, h10, hR10, hm10⟩
              case measure => exact hat.out
            · have hrz : r = none := by rw [← hres.out, valF_end hl9]
              clear hres
              refine (next_no B k1 n s w9 hs h9.out (by omega)).mono ?_
              rintro e wz ⟨rfl, hbz⟩
              have hmz := Aside0.mk (hm9.out.then_below hbz)
              clear hbz
              go_wp2_with fail
              exact ⟨rfl, by rw [hrz]; rfl, hmz.out⟩
        · have hfin := Aside0.mk (hres.out.symm.trans (valF_bad hk (by rw [hx.out]; exact h4) (by rw [hx.out]; exact h40)))
          have c1 := hrd.out.c1
          have z1 := hrd.out.z1
          have hset : RdAt (wr.setCell ⟨B, 1, none⟩ (.int .i64 ((k : Int) + 1))) B s (k + 1) n := hrd.out.set (k + 1)
          have hms : Mod (Only B) wr (wr.setCell ⟨B, 1, none⟩ (.int .i64 ((k : Int) + 1))) := setAt_mod wr B 1 _
          obtain ⟨w1, hw1⟩ : ∃ wn, wr.setCell ⟨B, 1, none⟩ (.int .i64 ((k : Int) + 1)) = wn := ⟨_, rfl⟩
          rw [hw1] at hset hms
          obtain ⟨k1, hk1⟩ : ∃ kn, k + 1 = kn := ⟨_, rfl⟩
          rw [hk1] at hset
          have h1 := Aside0.mk hset
          have hm1 := Aside0.mk (hmr.out.trans hms (fun q hq => .inl hq))
          have hR1 := Aside0.mk (R_mod hR.out hms (fun q hq e => hne.out q hq e))
          have hk1 := Aside0.mk hk1
          clear hset hms
          have hbad : x = 40 ∨ x < 32 ∨ 126 < x := by omega
          rcases hbad with rfl | hbad | hbad
          · go_wp2_with fail
            refine (must_no _).mono ?_
            rintro e wy ⟨rfl, rfl⟩
            go_wp2_with fail
            exact ⟨rfl, by rw [hfin.out]; rfl, hm1.out⟩
          · have n3 : (x != 40) = true := by simp; omega
            have m3 : (x == 40) = false := by simp; omega
            have n4 : decide (32 ≤ x) = false := decide_eq_false (by omega)
            go_wp2_with fail
            refine (must_no _).mono ?_
            rintro e wy ⟨rfl, rfl⟩
            go_wp2_with fail
            exact ⟨rfl, by rw [hfin.out]; rfl, hm1.out⟩
          · have n3 : (x != 40) = true := by simp; omega
            have m3 : (x == 40) = false := by simp; omega
            have n4 : decide (32 ≤ x) = true := decide_eq_true (by omega)
            have n5 : decide (x ≤ 126) = false := decide_eq_false (by omega)
            go_wp2_with fail
            refine (must_no _).mono ?_
            rintro e wy ⟨rfl, rfl⟩
            go_wp2_with fail
            exact ⟨rfl, by rw [hfin.out]; rfl, hm1.out⟩
  · have hn := Aside0.mk (next_no B p n s w hs h hp)
    have hrz : r = none := by rw [← hr, valF_end hp]
    subst hrz
    replace h := Aside0.mk h
    replace hp := Aside0.mk hp
    clear hr
    go_enter Try.func87, Try.ntmps87
    go_wp2_with fail
    refine hn.out.mono ?_
    rintro e w1 ⟨rfl, hb⟩
    have hm1 := Aside0.mk (Mod.of_below (S := Only B) hb)
    clear hb hn
    go_wp2_with fail
    exact ⟨rfl, rfl, hm1.out⟩
end Go.Proofs.Ytgnmkblaockghaa
