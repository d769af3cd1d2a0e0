/- (*reader).value. -/
import Derived.Test.YthbjgcmbbdlfkaaCj
set_option linter.unusedVariables false
set_option linter.unusedSimpArgs false
namespace Go.Proofs.Ythbjgcmbbdlfkaa
open Go.RowKit Go.Shelf Go.Proofs.YthbjgcmbbdlfkaaW.PrintWords Go.Proofs.YthbjgcmbbdlfkaaW.PrintMore Go.Proofs.YthbjgcmbbdlfkaaW.PrintLast

theorem toldF_gt {s : ByteArray} {k q : Nat} {y : Int} (h : toldF s k = some (y, q)) : k < q := by
  unfold toldF at h
  split at h
  · split at h
    · injection h with h; injection h with h1 h2; omega
    · split at h
      · injection h with h; injection h with h1 h2; omega
      · cases h
  · cases h
section
variable {s : ByteArray} {k : Nat} {out : List Int} {b : Bool}
theorem valF_end (h : ¬ (k < s.size ∧ bt s (k : Int) ≠ 44)) : valF s k out b = if b = false ∧ 1 ≤ out.length ∧ out.length ≤ 200 then some (out, k) else none := by rw [valF, dif_neg h]
theorem valF_told (h : k < s.size) (h1 : bt s (k : Int) ≠ 44) (h2 : bt s (k : Int) = 92) {y : Int} {q : Nat} (ht : toldF s (k + 1) = some (y, q)) : valF s k out b = valF s q (out ++ [y]) false := by
  have := toldF_gt ht
  rw [valF, dif_pos ⟨h, h1⟩, if_pos h2, ht]
  simp only []
  rw [dif_pos (by omega)]
theorem valF_untold (h : k < s.size) (h1 : bt s (k : Int) ≠ 44) (h2 : bt s (k : Int) = 92) (ht : toldF s (k + 1) = none) : valF s k out b = none := by
  rw [valF, dif_pos ⟨h, h1⟩, if_pos h2, ht]
theorem valF_bare (h : k < s.size) (h1 : bt s (k : Int) ≠ 44) (h2 : bt s (k : Int) ≠ 92) {x : Int}
    (hg : bt s (k : Int) = x ∧ signB x = false ∧ 32 ≤ x ∧ x ≤ 126 ∧ (out ≠ [] ∨ (x ≠ 32 ∧ x ≠ 35))) : valF s k out b = valF s (k + 1) (out ++ [x]) (x == 32) := by
  obtain ⟨rfl, hg⟩ := hg
  rw [valF, dif_pos ⟨h, h1⟩, if_neg h2, if_pos hg]
theorem valF_no (h : k < s.size) (h1 : bt s (k : Int) ≠ 44) (h2 : bt s (k : Int) ≠ 92) (hg : ¬ (signB (bt s (k : Int)) = false ∧ 32 ≤ bt s (k : Int) ∧ bt s (k : Int) ≤ 126 ∧ (out ≠ [] ∨ (bt s (k : Int) ≠ 32 ∧ bt s (k : Int) ≠ 35)))) : valF s k out b = none := by
  rw [valF, dif_pos ⟨h, h1⟩, if_neg h2, if_neg hg]
end
set_option maxHeartbeats 8000000 in
theorem rvalue_calls (B p : Nat) (s : ByteArray) (w : World) (hs : s.size ≤ 12000) (h : RdAt w B s p) (hp : p ≤ s.size) :
    Calls Try.prog 36 #[.pointer (some ⟨B, 0, none⟩)] w (Took ((valF s p [] false).map fun r => (.string (strOfNums r.1), r.2)) B s w) := by
  have hnx := Aside0.mk (next' B p s w hs h hp)
  have hBw := Aside0.mk h.lt
  replace h := Aside0.mk h
  go_enter Try.func36, Try.ntmps36
  go_wp2_with fail
  refine hnx.out.mono ?_
  rintro e w1 ⟨rfl, hb⟩
  replace h := Aside0.mk (h.out.below hb)
  have hmod := Aside0.mk (Mod.of_below (S := Only B) hb)
  clear hb hnx
  go_wp2_with fail
  go_loopw [3, 4, 5, 6, 7] (fun s3 s4 s5 s6 s7 wr => ∃ (k : Nat) (out : List Int) (b : Bool) (ov : Value), Aside0 (k ≤ s.size) ∧ Aside0 (out.length ≤ k) ∧ Aside0 (valF s k out b = valF s p [] false) ∧ s3 = ov ∧ s4 = .bool out.isEmpty ∧ s5 = .bool b ∧ s6 = .int .u8 (nextX s k) ∧ s7 = .bool (nextB s k) ∧ Aside0 (RdAt wr B s k) ∧ Aside0 (Mod (Only B) w wr) ∧ Aside0 ((Kd.int .u8).R 5 wr 0 (fun q => w.heap.size ≤ q) ov out)) (fun _ _ _ _ _ wr => s.size - atOf B wr)
  case atStart => exact ⟨p, [], false, _, ⟨hp⟩, ⟨Nat.zero_le _⟩, ⟨rfl⟩, rfl, rfl, rfl, rfl, rfl, h, hmod, ⟨Kd.R_nil _ _ _ _ _⟩⟩
  case round =>
    obtain ⟨k, out, b, ov, hk, hlen, heq, rfl, rfl, rfl, rfl, rfl, hr, hm, hR⟩ := hrel
    clear h hmod
    obtain ⟨A', c', ev⟩ := Kd.R_slice hR.out
    obtain ⟨n', hn'⟩ : ∃ n', out.length = n' := ⟨_, rfl⟩
    rw [hn'] at ev
    subst ev
    have hn4 : n' ≤ 12000 := by have := hlen.out; have := hk.out; omega
    by_cases hlt44 : k < s.size ∧ bt s (k : Int) ≠ 44
    · rw [(next_yes hlt44.1).1, (next_yes hlt44.1).2]
      obtain ⟨x0, x1⟩ := bt_range s (k : Int)
      obtain ⟨x, hx⟩ : ∃ x, bt s (k : Int) = x := ⟨_, rfl⟩
      have c1 := hr.out.c1
      have z1 := hr.out.z1
      have e1 : (x != 44) = true := by have := hlt44.2; rw [hx] at this; simpa using this
      have e2 : wrap64 ((k : Int) + 1) = (k : Int) + 1 := by unfold wrap64; have := hk.out; omega
      have hra := Aside0.mk (show RdAt (wr.setCell ⟨B, 1, none⟩ (.int .i64 ((k : Int) + 1))) B s (k + 1) from hr.out.set (k + 1))
      have hma := Aside0.mk (hm.out.setCell (p := ⟨B, 1, none⟩) (.inl rfl) (.int .i64 ((k : Int) + 1)))
      have hRa := Aside0.mk (R_mod hR.out ((Mod.refl (Only B) wr).setCell (p := ⟨B, 1, none⟩) (.inl rfl) (.int .i64 ((k : Int) + 1))) (fun q hq h => by have := hBw.out; unfold Only at h; omega))
      have hmz := Aside0.mk (atOf_rd hr.out)
      obtain ⟨wn, hwn⟩ : ∃ wn, wr.setCell ⟨B, 1, none⟩ (.int .i64 ((k : Int) + 1)) = wn := ⟨_, rfl⟩
      rw [hwn] at hra hma hRa
      have hlt := Aside0.mk hlt44.1
      have hKM0 : k + 1 ≤ s.size := hlt44.1
      clear hr hm hR
      rw [hx] at x0 x1
      rw [hx]
      replace hn' := Aside0.mk hn'
      by_cases h92 : x = 92
      · subst h92
        have hto := told_calls B (k + 1) s wn hs hra.out hKM0
        cases htf : toldF s (k + 1) with
        | none =>
          rw [htf] at hto
          have hres := Aside0.mk (heq.out.symm.trans (valF_untold hlt44.1 hlt44.2 hx htf))
          replace hto := Aside0.mk hto
          replace hx := Aside0.mk hx
          replace htf := Aside0.mk htf
          replace hlt44 := Aside0.mk hlt44
          go_wp2_with fail
          refine hto.out.mono ?_
          rintro e w3 ⟨rfl, hm3⟩
          replace hma := Aside0.mk (hma.out.trans hm3 (fun q hq => .inl hq))
          clear hm3
          go_wp2_with fail
          exact ⟨rfl, by rw [hres.out]; rfl, hma.out⟩
        | some yq =>
          obtain ⟨y, q⟩ := yq
          rw [htf] at hto
          have hnext := Aside0.mk ((valF_told hlt44.1 hlt44.2 hx htf).symm.trans heq.out)
          have hkK := Aside0.mk (show k < q from by have := toldF_gt htf; omega)
          replace hto := Aside0.mk hto
          replace hx := Aside0.mk hx
          replace htf := Aside0.mk htf
          replace hlt44 := Aside0.mk hlt44
          go_wp2_with fail
          refine hto.out.mono ?_
          rintro e wa ⟨⟨rfl, hr3, hqM⟩, hm3⟩
          have hKM := Aside0.mk hqM
          clear hqM hra
          have hra := Aside0.mk hr3
          replace hma := Aside0.mk (hma.out.trans hm3 (fun q hq => .inl hq))
          replace hRa := Aside0.mk (R_mod hRa.out hm3 (fun q hq h => by have := hBw.out; unfold Only at h; omega))
          clear hm3 hr3 hwn c1 z1
          have hws := hma.out.size
          go_wp2_with ((with_reducible refine gate_builtin (b := .append) (xs := #[.tmp 61, .tmp 63]) rfl ?_); at_builtin; refine Kd.R_append (Kd.int .u8) (w0 := wa) 0 rfl (.tmp 61) (.tmp 63) 38 5 (.int .u8 0) 1 rfl Try.underlying38 info5 rfl (by decide) (by have := hn'.out; omega) (.slice A' n' c') out y [.int .u8 y] (fun q => w.heap.size ≤ q) (fun _ => False) rfl rfl rfl (fun _ h => h.elim) (fun q hq => by omega) hRa.out (Below.refl _ _) (Nat.zero_le _) (by have := hn'.out; omega) ?_; intro v2 w8 ho _ hg _; replace ho := Aside0.mk ho; replace hg := Aside0.mk (Mod.of_grown (S := fun q => w.heap.size ≤ q) hg (fun q hq => .inl (hRa.out.1 q hq))))
          have hr8 := Aside0.mk (hra.out.mod hg.out (by have := hBw.out; omega))
          have hm8 := Aside0.mk (hma.out.trans hg.out (fun q hq => .inr hq))
          clear hg hRa hra hma
          refine (next' B q s w8 hs hr8.out hKM.out).mono ?_
          rintro e w9 ⟨rfl, hb9⟩
          replace hr8 := Aside0.mk (hr8.out.below hb9)
          replace hm8 := Aside0.mk (hm8.out.then_below hb9)
          replace ho := Aside0.mk (R_mod ho.out (Mod.of_below (S := fun _ => False) hb9) (fun _ _ h => h))
          clear hb9
          go_wp2_with fail
          go_roundw
          case rel => exact ⟨q, out ++ [y], false, _, hKM, ⟨by have := hlen.out; have := hkK.out; simp; omega⟩, hnext, rfl, by rw [show (out ++ [y]).isEmpty = false from by simp], by first | rfl | rw [b32], rfl, rfl, hr8, hm8, ho⟩
          case measure => rw [atOf_rd hr8.out, hmz.out]; have := hlt.out; have := hkK.out; omega
      · replace h92 := Aside0.mk (show bt s (k : Int) ≠ 92 from hx ▸ h92)
        have n92 : (x == 92) = false := by have := h92.out; rw [hx] at this; simpa using this
        cases hsx : signB x with
        | true =>
          have hres := Aside0.mk (heq.out.symm.trans (valF_no hlt44.1 hlt44.2 h92.out (fun h => by have := hsx.symm.trans (hx ▸ h.1); cases this)))
          go_wp2_with fail
          refine (signs_calls wn).mono ?_
          rintro e w3 ⟨rfl, hb3, hmap⟩
          replace hma := Aside0.mk (hma.out.then_below hb3)
          have hlk := run_lookup_sign x w3 wn.heap.size hmap
          rw [hsx] at hlk
          clear hb3
          replace hmap := Aside0.mk hmap
          go_wp2_with fail
          refine (must_no _).mono ?_
          rintro e w4 ⟨rfl, rfl⟩
          go_wp2_with fail
          exact ⟨rfl, by rw [hres.out]; rfl, hma.out⟩
        | false =>
          by_cases h32 : x < 32
          · have g1 : decide (32 ≤ x) = false := decide_eq_false (by omega)
            have hres := Aside0.mk (heq.out.symm.trans (valF_no hlt44.1 hlt44.2 h92.out (fun h => by have := h.2.1; rw [hx] at this; omega)))
            go_wp2_with fail
            refine (signs_calls wn).mono ?_
            rintro e w3 ⟨rfl, hb3, hmap⟩
            replace hma := Aside0.mk (hma.out.then_below hb3)
            have hlk := run_lookup_sign x w3 wn.heap.size hmap
            rw [hsx] at hlk
            clear hb3
            replace hmap := Aside0.mk hmap
            go_wp2_with fail
            refine (must_no _).mono ?_
            rintro e w4 ⟨rfl, rfl⟩
            go_wp2_with fail
            exact ⟨rfl, by rw [hres.out]; rfl, hma.out⟩
          · by_cases h126 : 126 < x
            · have g1 : decide (32 ≤ x) = true := decide_eq_true (by omega)
              have g2 : decide (x ≤ 126) = false := decide_eq_false (by omega)
              have hres := Aside0.mk (heq.out.symm.trans (valF_no hlt44.1 hlt44.2 h92.out (fun h => by have := h.2.2.1; rw [hx] at this; omega)))
              go_wp2_with fail
              refine (signs_calls wn).mono ?_
              rintro e w3 ⟨rfl, hb3, hmap⟩
              replace hma := Aside0.mk (hma.out.then_below hb3)
              have hlk := run_lookup_sign x w3 wn.heap.size hmap
              rw [hsx] at hlk
              clear hb3
              replace hmap := Aside0.mk hmap
              go_wp2_with fail
              refine (must_no _).mono ?_
              rintro e w4 ⟨rfl, rfl⟩
              go_wp2_with fail
              exact ⟨rfl, by rw [hres.out]; rfl, hma.out⟩
            · have g1 : decide (32 ≤ x) = true := decide_eq_true (by omega)
              have g2 : decide (x ≤ 126) = true := decide_eq_true (by omega)
              have l1 : 32 ≤ x := by omega
              have l2 : x ≤ 126 := by omega
              cases hem : out.isEmpty with
              | false =>
                have hne := Aside0.mk (show out ≠ [] from fun e => by rw [e] at hem; cases hem)
                replace hem := Aside0.mk hem
                have hnext := Aside0.mk ((valF_bare hlt44.1 hlt44.2 h92.out ⟨hx, hsx, l1, l2, .inl hne.out⟩).symm.trans heq.out)
                have hKM := Aside0.mk hKM0
                have hkK := Aside0.mk (show k < k + 1 by omega)
                go_wp2_with fail
                refine (signs_calls wn).mono ?_
                rintro e w3 ⟨rfl, hb3, hmap⟩
                replace hra := Aside0.mk (hra.out.below hb3)
                replace hma := Aside0.mk (hma.out.then_below hb3)
                replace hRa := Aside0.mk (R_mod hRa.out (Mod.of_below (S := fun _ => False) hb3) (fun _ _ h => h))
                have hlk := run_lookup_sign x w3 wn.heap.size hmap
                rw [hsx] at hlk
                clear hb3
                replace hmap := Aside0.mk hmap
                go_wp2_with fail
                refine (must_yes _).mono ?_
                rintro e wa ⟨rfl, rfl⟩
                have hws := hma.out.size
                go_wp2_with ((with_reducible refine gate_builtin (b := .append) (xs := #[.tmp 61, .tmp 63]) rfl ?_); at_builtin; refine Kd.R_append (Kd.int .u8) (w0 := wa) 0 rfl (.tmp 61) (.tmp 63) 38 5 (.int .u8 0) 1 rfl Try.underlying38 info5 rfl (by decide) (by have := hn'.out; omega) (.slice A' n' c') out x [.int .u8 x] (fun q => w.heap.size ≤ q) (fun _ => False) rfl rfl rfl (fun _ h => h.elim) (fun q hq => by omega) hRa.out (Below.refl _ _) (Nat.zero_le _) (by have := hn'.out; omega) ?_; intro v2 w8 ho _ hg _; replace ho := Aside0.mk ho; replace hg := Aside0.mk (Mod.of_grown (S := fun q => w.heap.size ≤ q) hg (fun q hq => .inl (hRa.out.1 q hq))))
                have hr8 := Aside0.mk (hra.out.mod hg.out (by have := hBw.out; omega))
                have hm8 := Aside0.mk (hma.out.trans hg.out (fun q hq => .inr hq))
                clear hg hRa hra hma
                refine (next' B (k + 1) s w8 hs hr8.out hKM.out).mono ?_
                rintro e w9 ⟨rfl, hb9⟩
                replace hr8 := Aside0.mk (hr8.out.below hb9)
                replace hm8 := Aside0.mk (hm8.out.then_below hb9)
                replace ho := Aside0.mk (R_mod ho.out (Mod.of_below (S := fun _ => False) hb9) (fun _ _ h => h))
                clear hb9
                go_wp2_with fail
                go_roundw
                case rel => exact ⟨(k + 1), out ++ [x], _, _, hKM, ⟨by have := hlen.out; have := hkK.out; simp; omega⟩, hnext, rfl, by rw [show (out ++ [x]).isEmpty = false from by simp], by first | rfl | rw [b32], rfl, rfl, hr8, hm8, ho⟩
                case measure => rw [atOf_rd hr8.out, hmz.out]; have := hlt.out; have := hkK.out; omega
              | true =>
                have hnil := Aside0.mk (List.isEmpty_iff.1 hem)
                replace hem := Aside0.mk hem
                by_cases c32 : x = 32
                · subst c32
                  have hres := Aside0.mk (heq.out.symm.trans (valF_no hlt44.1 hlt44.2 h92.out (fun h => h.2.2.2.elim (fun e => e hnil.out) (fun e => e.1 hx))))
                  go_wp2_with fail
                  refine (signs_calls wn).mono ?_
                  rintro e w3 ⟨rfl, hb3, hmap⟩
                  replace hma := Aside0.mk (hma.out.then_below hb3)
                  have hlk := run_lookup_sign 32 w3 wn.heap.size hmap
                  rw [hsx] at hlk
                  clear hb3
                  replace hmap := Aside0.mk hmap
                  go_wp2_with fail
                  refine (must_no _).mono ?_
                  rintro e w4 ⟨rfl, rfl⟩
                  go_wp2_with fail
                  exact ⟨rfl, by rw [hres.out]; rfl, hma.out⟩
                · have m32 : (x != 32) = true := by simpa using c32
                  have b32 : (x == 32) = false := by simpa using c32
                  by_cases c35 : x = 35
                  · subst c35
                    have hres := Aside0.mk (heq.out.symm.trans (valF_no hlt44.1 hlt44.2 h92.out (fun h => h.2.2.2.elim (fun e => e hnil.out) (fun e => e.2 hx))))
                    go_wp2_with fail
                    refine (signs_calls wn).mono ?_
                    rintro e w3 ⟨rfl, hb3, hmap⟩
                    replace hma := Aside0.mk (hma.out.then_below hb3)
                    have hlk := run_lookup_sign 35 w3 wn.heap.size hmap
                    rw [hsx] at hlk
                    clear hb3
                    replace hmap := Aside0.mk hmap
                    go_wp2_with fail
                    refine (must_no _).mono ?_
                    rintro e w4 ⟨rfl, rfl⟩
                    go_wp2_with fail
                    exact ⟨rfl, by rw [hres.out]; rfl, hma.out⟩
                  · have m35 : (x != 35) = true := by simpa using c35
                    replace c32 := Aside0.mk c32
                    replace c35 := Aside0.mk c35
                    have hnext := Aside0.mk ((valF_bare hlt44.1 hlt44.2 h92.out ⟨hx, hsx, l1, l2, .inr ⟨c32.out, c35.out⟩⟩).symm.trans heq.out)
                    have hKM := Aside0.mk hKM0
                    have hkK := Aside0.mk (show k < k + 1 by omega)
                    go_wp2_with fail
                    refine (signs_calls wn).mono ?_
                    rintro e w3 ⟨rfl, hb3, hmap⟩
                    replace hra := Aside0.mk (hra.out.below hb3)
                    replace hma := Aside0.mk (hma.out.then_below hb3)
                    replace hRa := Aside0.mk (R_mod hRa.out (Mod.of_below (S := fun _ => False) hb3) (fun _ _ h => h))
                    have hlk := run_lookup_sign x w3 wn.heap.size hmap
                    rw [hsx] at hlk
                    clear hb3
                    replace hmap := Aside0.mk hmap
                    go_wp2_with fail
                    refine (must_yes _).mono ?_
                    rintro e wa ⟨rfl, rfl⟩
                    have hws := hma.out.size
                    go_wp2_with ((with_reducible refine gate_builtin (b := .append) (xs := #[.tmp 61, .tmp 63]) rfl ?_); at_builtin; refine Kd.R_append (Kd.int .u8) (w0 := wa) 0 rfl (.tmp 61) (.tmp 63) 38 5 (.int .u8 0) 1 rfl Try.underlying38 info5 rfl (by decide) (by have := hn'.out; omega) (.slice A' n' c') out x [.int .u8 x] (fun q => w.heap.size ≤ q) (fun _ => False) rfl rfl rfl (fun _ h => h.elim) (fun q hq => by omega) hRa.out (Below.refl _ _) (Nat.zero_le _) (by have := hn'.out; omega) ?_; intro v2 w8 ho _ hg _; replace ho := Aside0.mk ho; replace hg := Aside0.mk (Mod.of_grown (S := fun q => w.heap.size ≤ q) hg (fun q hq => .inl (hRa.out.1 q hq))))
                    have hr8 := Aside0.mk (hra.out.mod hg.out (by have := hBw.out; omega))
                    have hm8 := Aside0.mk (hma.out.trans hg.out (fun q hq => .inr hq))
                    clear hg hRa hra hma
                    refine (next' B (k + 1) s w8 hs hr8.out hKM.out).mono ?_
                    rintro e w9 ⟨rfl, hb9⟩
                    replace hr8 := Aside0.mk (hr8.out.below hb9)
                    replace hm8 := Aside0.mk (hm8.out.then_below hb9)
                    replace ho := Aside0.mk (R_mod ho.out (Mod.of_below (S := fun _ => False) hb9) (fun _ _ h => h))
                    clear hb9
                    go_wp2_with fail
                    go_roundw
                    case rel => exact ⟨(k + 1), out ++ [x], _, _, hKM, ⟨by have := hlen.out; have := hkK.out; simp; omega⟩, hnext, rfl, by rw [show (out ++ [x]).isEmpty = false from by simp], by first | rfl | rw [b32], rfl, rfl, hr8, hm8, ho⟩
                    case measure => rw [atOf_rd hr8.out, hmz.out]; have := hlt.out; have := hkK.out; omega
    · rw [valF_end hlt44] at heq
      by_cases hlt : k < s.size
      · have h44 : bt s (k : Int) = 44 := Classical.byContradiction fun h => hlt44 ⟨hlt, h⟩
        rw [(next_yes hlt).1, (next_yes hlt).2, h44]
        replace hlt := Aside0.mk hlt
        replace hlt44 := Aside0.mk hlt44
        replace h44 := Aside0.mk h44
        replace hn' := hn'
        cases b with
        | true =>
          have hres := Aside0.mk (heq.out.symm.trans (if_neg (fun h => by cases h.1)))
          go_wp2_with fail
          refine (must_no _).mono ?_
          rintro e w4 ⟨rfl, rfl⟩
          go_wp2_with fail
          exact ⟨rfl, by rw [hres.out]; rfl, hm.out⟩
        | false =>
          by_cases l1 : 1 ≤ n'
          · have g1 : decide ((1 : Int) ≤ (n' : Int)) = true := decide_eq_true (by omega)
            by_cases l2 : n' ≤ 200
            · have g2 : decide ((n' : Int) ≤ 200) = true := decide_eq_true (by omega)
              have hres := Aside0.mk (heq.out.symm.trans (if_pos ⟨rfl, hn' ▸ l1, hn' ▸ l2⟩))
              go_wp2_with fail
              refine (must_yes _).mono ?_
              rintro e wr ⟨rfl, rfl⟩
              obtain ⟨A1, cc, ev, _, hC⟩ := Kd.R_reads hR.out
              rw [hn'] at ev hC
              have hst := Kd.C_string (P := Try.prog) (src := 38) (dst := 9) (c := cc) Try.underlying38 Try.underlying5 Try.underlying9 hC
              injection ev with ev1 ev2 ev3
              subst ev1
              clear hC hR
              go_wp2_with fail
              go_ret
              exact ⟨by rw [hres.out]; exact ⟨rfl, hr.out, hk.out⟩, hm.out⟩
            · have g2 : decide ((n' : Int) ≤ 200) = false := decide_eq_false (by omega)
              have hres := Aside0.mk (heq.out.symm.trans (if_neg (fun h => l2 (hn' ▸ h.2.2))))
              go_wp2_with fail
              refine (must_no _).mono ?_
              rintro e w4 ⟨rfl, rfl⟩
              go_wp2_with fail
              exact ⟨rfl, by rw [hres.out]; rfl, hm.out⟩
          · have g1 : decide ((1 : Int) ≤ (n' : Int)) = false := decide_eq_false (by omega)
            have hres := Aside0.mk (heq.out.symm.trans (if_neg (fun h => l1 (hn' ▸ h.2.1))))
            go_wp2_with fail
            refine (must_no _).mono ?_
            rintro e w4 ⟨rfl, rfl⟩
            go_wp2_with fail
            exact ⟨rfl, by rw [hres.out]; rfl, hm.out⟩
      · rw [(next_no hlt).1, (next_no hlt).2]
        replace hlt := Aside0.mk hlt
        replace hlt44 := Aside0.mk hlt44
        replace hn' := hn'
        cases b with
        | true =>
          have hres := Aside0.mk (heq.out.symm.trans (if_neg (fun h => by cases h.1)))
          go_wp2_with fail
          refine (must_no _).mono ?_
          rintro e w4 ⟨rfl, rfl⟩
          go_wp2_with fail
          exact ⟨rfl, by rw [hres.out]; rfl, hm.out⟩
        | false =>
          by_cases l1 : 1 ≤ n'
          · have g1 : decide ((1 : Int) ≤ (n' : Int)) = true := decide_eq_true (by omega)
            by_cases l2 : n' ≤ 200
            · have g2 : decide ((n' : Int) ≤ 200) = true := decide_eq_true (by omega)
              have hres := Aside0.mk (heq.out.symm.trans (if_pos ⟨rfl, hn' ▸ l1, hn' ▸ l2⟩))
              go_wp2_with fail
              refine (must_yes _).mono ?_
              rintro e wr ⟨rfl, rfl⟩
              obtain ⟨A1, cc, ev, _, hC⟩ := Kd.R_reads hR.out
              rw [hn'] at ev hC
              have hst := Kd.C_string (P := Try.prog) (src := 38) (dst := 9) (c := cc) Try.underlying38 Try.underlying5 Try.underlying9 hC
              injection ev with ev1 ev2 ev3
              subst ev1
              clear hC hR
              go_wp2_with fail
              go_ret
              exact ⟨by rw [hres.out]; exact ⟨rfl, hr.out, hk.out⟩, hm.out⟩
            · have g2 : decide ((n' : Int) ≤ 200) = false := decide_eq_false (by omega)
              have hres := Aside0.mk (heq.out.symm.trans (if_neg (fun h => l2 (hn' ▸ h.2.2))))
              go_wp2_with fail
              refine (must_no _).mono ?_
              rintro e w4 ⟨rfl, rfl⟩
              go_wp2_with fail
              exact ⟨rfl, by rw [hres.out]; rfl, hm.out⟩
          · have g1 : decide ((1 : Int) ≤ (n' : Int)) = false := decide_eq_false (by omega)
            have hres := Aside0.mk (heq.out.symm.trans (if_neg (fun h => l1 (hn' ▸ h.2.1))))
            go_wp2_with fail
            refine (must_no _).mono ?_
            rintro e w4 ⟨rfl, rfl⟩
            go_wp2_with fail
            exact ⟨rfl, by rw [hres.out]; rfl, hm.out⟩
end Go.Proofs.Ythbjgcmbbdlfkaa
