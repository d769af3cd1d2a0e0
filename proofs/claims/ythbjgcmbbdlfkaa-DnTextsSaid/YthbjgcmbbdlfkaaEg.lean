/- The reference's Text: what ours is. -/
import Derived.Test.YthbjgcmbbdlfkaaEa
import Derived.Test.YthbjgcmbbdlfkaaEc
import Derived.Outline
set_option linter.unusedVariables false
set_option linter.unusedSimpArgs false
namespace Go.Proofs.Ythbjgcmbbdlfkaa
open Go.RowKit Go.Shelf Go.Proofs.YthbjgcmbbdlfkaaW.PrintWords Go.Proofs.YthbjgcmbbdlfkaaW.PrintMore Go.Proofs.YthbjgcmbbdlfkaaW.PrintLast

theorem rsign_ours (x : Int) : PDnTexts.cardcaseref06_sign.f x = some (signB x) := by
  unfold PDnTexts.cardcaseref06_sign.f signB
  by_cases a : x = 44
  · subst a; rfl
  by_cases b : x = 43
  · subst b; rfl
  by_cases c : x = 34
  · subst c; rfl
  by_cases d : x = 92
  · subst d; rfl
  by_cases e : x = 60
  · subst e; rfl
  by_cases f : x = 62
  · subst f; rfl
  by_cases g : x = 59
  · subst g; rfl
  have a' : (44 == x) = false := by simpa using Ne.symm a
  have b' : (43 == x) = false := by simpa using Ne.symm b
  have c' : (34 == x) = false := by simpa using Ne.symm c
  have d' : (92 == x) = false := by simpa using Ne.symm d
  have e' : (60 == x) = false := by simpa using Ne.symm e
  have f' : (62 == x) = false := by simpa using Ne.symm f
  have g' : (59 == x) = false := by simpa using Ne.symm g
  rw [if_neg a, if_neg b, if_neg c, if_neg d, if_neg e, if_neg f, if_neg g, a', b', c', d', e', f', g']
  simp only [Bool.false_or]
  rw [show (x == 61) = (61 == x) from Bool.beq_comm]
theorem rsign_calls (x : Int) (w : World) : Calls Try.prog 40 #[.int .u8 x] w fun e w' => e = .returned (.bool (signB x)) ∧ Below w.heap.size w w' := by
  refine (PDnTexts.cardcaseref06_sign.calls x _ w (rsign_ours x)).mono ?_
  rintro e w' ⟨rfl, nd, rfl⟩
  exact ⟨rfl, ⟨rfl, rfl, rfl, Nat.le_refl _, fun _ _ => rfl⟩⟩
theorem hex_one (d : Int) (h0 : 0 ≤ d) (h1 : d < 16) : (⟨#[48, 49, 50, 51, 52, 53, 54, 55, 56, 57, 97, 98, 99, 100, 101, 102]⟩ : ByteArray).extract d.toNat (d + 1).toNat = strOfNums [hexd d] := by
  have h : d = 0 ∨ d = 1 ∨ d = 2 ∨ d = 3 ∨ d = 4 ∨ d = 5 ∨ d = 6 ∨ d = 7 ∨ d = 8 ∨ d = 9 ∨ d = 10 ∨ d = 11 ∨ d = 12 ∨ d = 13 ∨ d = 14 ∨ d = 15 := by omega
  rcases h with rfl | rfl | rfl | rfl | rfl | rfl | rfl | rfl | rfl | rfl | rfl | rfl | rfl | rfl | rfl | rfl <;> (apply ba_ext; decide)
theorem rhex_ours (x : Int) (h0 : 0 ≤ x) (h1 : x < 256) : PDnTexts.cardcaseref06_hex.f x = some (strOfNums [hexd (x / 16), hexd (x % 16)]) := by
  unfold PDnTexts.cardcaseref06_hex.f
  have e1 : Int.tdiv x 16 = x / 16 := Int.tdiv_eq_ediv_of_nonneg h0
  have e2 : Int.tmod x 16 = x % 16 := Int.tmod_eq_emod_of_nonneg h0
  rw [e1, e2]
  have e3 : (x / 16) % 256 = x / 16 := by omega
  have e4 : (x / 16 + 1) % 256 = x / 16 + 1 := by omega
  have e5 : (x % 16 + 1) % 256 = x % 16 + 1 := by omega
  rw [e3, e4, e5]
  rw [if_pos (by omega), if_pos (by omega), if_pos (by omega), if_pos (by omega), if_pos (by omega), if_pos (by omega)]
  rw [hex_one (x / 16) (by omega) (by omega), hex_one (x % 16) (by omega) (by omega), str_app]
  rw [if_pos (by rw [strOfNums_size, strOfNums_size]; simp)]
  rfl
theorem rhex_calls (x : Int) (h0 : 0 ≤ x) (h1 : x < 256) (w : World) : Calls Try.prog 39 #[.int .u8 x] w fun e w' => e = .returned (.string (strOfNums [hexd (x / 16), hexd (x % 16)])) ∧ Below w.heap.size w w' := by
  refine (PDnTexts.cardcaseref06_hex.calls x _ w (rhex_ours x h0 h1)).mono ?_
  rintro e w' ⟨rfl, nd, rfl⟩
  exact ⟨rfl, ⟨rfl, rfl, rfl, Nat.le_refl _, fun _ _ => rfl⟩⟩
theorem one_byte (v : ByteArray) (k : Nat) (h : k < v.size) : v.extract k (k + 1) = strOfNums [bt v (k : Int)] := by
  apply bytes_inj
  rw [extract_bytes, bytes_drop v k h, Nat.add_sub_cancel_left, bytes_str _ (by intro x hx; simp at hx; subst hx; have := bt_range v (k : Int); omega)]
  rfl
theorem one_eq (b : Int) (h : 0 ≤ b ∧ b < 256) (c : UInt8) : ((strOfNums [b]).toList == [c]) = (b == (c.toNat : Int)) := by
  rw [ByteArray.toList_eq, str_data, Bool.eq_iff_iff]
  simp only [List.map_cons, List.map_nil, beq_iff_eq, List.cons.injEq, and_true]
  constructor
  · intro h2
    rw [← h2]
    simp
    omega
  · intro h2
    subst h2
    simp
set_option maxRecDepth 100000 in
set_option maxHeartbeats 4000000 in
theorem rtext_calls (A : Option Addr) (c : Nat) (l : List Rdn) (w : World) (hl : Mild l) (hC : kr.C w A l.length l) :
    Calls Try.prog 16 #[.slice A l.length c] w fun e w' => e = .returned (.string (textF l)) ∧ Below w.heap.size w w' := by
  have hl0 := hl.1
  have hs := Aside0.mk hl.2
  replace hl := Aside0.mk hl
  replace hC := Aside0.mk hC
  have hb0 := Aside0.mk (Below.refl w.heap.size w)
  obtain ⟨M, hM⟩ : ∃ M, l.length = M := ⟨_, rfl⟩
  rw [hM] at hl0 ⊢
  replace hM := Aside0.mk hM
  go_enter Try.func16, Try.ntmps16
  go_wp2_with fail
  go_loopw [3, 4] (fun s3 s4 wr => ∃ k : Nat, k ≤ M ∧ s3 = .string (textTo l k) ∧ s4 = .int .i64 k ∧ Aside0 (Below w.heap.size w wr)) (fun _ s4 _ => M - (intOf s4).toNat)
  case atStart => exact ⟨0, Nat.zero_le _, rfl, rfl, hb0⟩
  case round =>
    clear hb0
    obtain ⟨k, hk, rfl, rfl, hb⟩ := hrel
    by_cases hlt : k < M
    · have hkl : k < l.length := by rw [hM.out]; exact hlt
      obtain ⟨ad, e, p0, p1⟩ := rdn_at hC.out k hkl
      subst e
      replace p0 := pw_cell_below hb.out p0
      replace p1 := pw_cell_below hb.out p1
      have hsz := (hs.out l[k] (List.getElem_mem hkl))
      have hnx := Aside0.mk (show textTo l (k + 1) = (if 0 < k then textTo l k ++ commaS else textTo l k) ++ rdnText l[k] from by rw [show l[k] = l.getD k zR by simp [List.getD_eq_getElem?_getD, hkl]]; rfl)
      obtain ⟨x, hx⟩ : ∃ x, l[k] = x := ⟨_, rfl⟩
      rw [hx] at p0 p1 hnx hsz
      clear hx hkl
      have hskz := textTo_size hs.out k (by have := hM.out; omega)
      obtain ⟨sk, hsk⟩ : ∃ sk, textTo l k = sk := ⟨_, rfl⟩
      rw [hsk] at hnx hskz ⊢
      have i1 : (0 : Int) ≤ (k : Int) := by omega
      have i2 : (k : Int) < (M : Int) := by omega
      obtain ⟨hsz1, hsz2⟩ := hsz
      obtain ⟨V, hV⟩ : ∃ V, x.v = V := ⟨_, rfl⟩
      rw [hV] at p1 hsz2
      have hnx2 := Aside0.mk (show textTo l (k + 1) = ((if 0 < k then sk ++ commaS else sk) ++ (x.t ++ equalsS)) ++ valText V from by rw [hnx.out, ← hV]; unfold rdnText; rw [app_assoc, app_assoc, app_assoc])
      clear hnx hsk
      obtain ⟨B, hB⟩ : ∃ B, (if 0 < k then sk ++ commaS else sk) ++ (x.t ++ equalsS) = B := ⟨_, rfl⟩
      rw [hB] at hnx2
      have hBz : B.size ≤ sk.size + 12002 := by
        rw [← hB, ByteArray.size_append, ByteArray.size_append, show equalsS.size = 1 from rfl]
        split
        · rw [ByteArray.size_append, show commaS.size = 1 from rfl]; omega
        · omega
      obtain ⟨n, hn⟩ : ∃ n, V.size = n := ⟨_, rfl⟩
      have hvt : valText V = strOfNums (pre (fun j => (bytesOf V).getD j 0) n n) := by rw [← hn]; rfl
      rw [hn] at hsz2
      obtain ⟨f, hf⟩ : ∃ f : Nat → Int, (fun j => (bytesOf V).getD j 0) = f := ⟨_, rfl⟩
      rw [hf] at hvt
      have hfj : ∀ j, f j = bt V (j : Int) := fun j => by rw [← hf]; exact bytes_get V j
      have hnr := Aside0.mk (by rw [hvt] at hnx2; exact hnx2.out)
      clear hnx2 hvt hf
      have hfj := Aside0.mk hfj
      replace hn := Aside0.mk hn
      clear hV
      obtain ⟨T, hT⟩ : ∃ T, x.t = T := ⟨_, rfl⟩
      rw [hT] at p0 hsz1 hB
      clear hT
      replace hskz : sk.size ≤ 60000000 := by have := hM.out; omega
      have hV0 := Aside0.mk (show Calls Try.prog 0 #[] wr (fun _ _ => True) → True from fun _ => trivial)
      clear hV0
      obtain ⟨wo, rfl⟩ : ∃ wo : World, wo = wr := ⟨_, rfl⟩
      have hend : V.size = n := hn.out
      by_cases hk0 : 0 < k
      · rw [if_pos hk0] at hB
        have hk0' : (0 : Int) < (k : Int) := by omega
        replace hB := Aside0.mk (show sk ++ (⟨#[44]⟩ : ByteArray) ++ T ++ (⟨#[61]⟩ : ByteArray) = B from by rw [← hB, ← app_assoc]; rfl)
        clear hend
        go_wp2_with fail
        clear p0 p1
        go_loopw [3, 6] (fun s3 s6 wr => ∃ j : Nat, j ≤ n ∧ s3 = .string (B ++ strOfNums (pre f n j)) ∧ s6 = .int .i64 j ∧ Aside0 (Below w.heap.size w wr)) (fun _ s6 _ => n - (intOf s6).toNat)
        case atStart => exact ⟨0, Nat.zero_le _, by rw [hB.out, show strOfNums (pre f n 0) = (⟨#[]⟩ : ByteArray) from rfl, app_nil], rfl, hb⟩
        case round =>
          clear hb
          obtain ⟨j, hj, rfl, rfl, hb⟩ := hrel
          have hnn := hn.out
          have hpz := pre_length f n j
          have hsn := Aside0.mk (fun L (h : valB n j (f j) = L) => show B ++ strOfNums (pre f n (j + 1)) = (B ++ strOfNums (pre f n j)) ++ strOfNums L by rw [pre_next, h, ← str_app, app_assoc])
          have hsjz : (B ++ strOfNums (pre f n j)).size ≤ 60048003 := by rw [ByteArray.size_append, strOfNums_size]; omega
          by_cases hjl : j < n
          · obtain ⟨sj, hsj⟩ : ∃ sj, B ++ strOfNums (pre f n j) = sj := ⟨_, rfl⟩
            rw [hsj] at hsjz hsn ⊢
            clear hsj hpz
            have hbn := bt_nat (s := V) (p := j) (by omega)
            have hob := one_byte V j (by omega)
            have hbr := bt_range V (j : Int)
            have hfj' := hfj.out j
            obtain ⟨b, hb'⟩ : ∃ b, bt V (j : Int) = b := ⟨_, rfl⟩
            rw [hb'] at hbn hob hbr hfj'
            rw [hfj'] at hsn
            have y32 := one_eq b (by omega) 32
            have y35 := one_eq b (by omega) 35
            rw [← hob] at y32 y35
            obtain ⟨Y, hY⟩ : ∃ Y, V.extract j (j + 1) = Y := ⟨_, rfl⟩
            have hYz : Y.size = 1 := by rw [← hY, hob, strOfNums_size]; rfl
            have hsl : ∀ w', (Instr.slice 9 (.string V) (some (.int .i64 (j : Int))) (some (.int .i64 ((j : Int) + 1))) none).run Try.prog w' = .ok (.string Y) w' := by
              intro w'
              have h := run_slice_string (P := Try.prog) w' 9 V .i64 .i64 (j : Int) ((j : Int) + 1) Try.underlying9 (by omega) (by omega) (by omega)
              rw [show ((j : Int)).toNat = j from rfl, show ((j : Int) + 1).toNat = j + 1 from rfl, hY] at h
              exact h
            rw [hY] at y32 y35 hob
            replace hob := Aside0.mk hob
            clear hb' hfj'
            obtain ⟨hbr0, hbr1⟩ := hbr
            have j1 : (0 : Int) ≤ (j : Int) := by omega
            have j2 : (j : Int) < (n : Int) := by omega
            clear hk0' hk0
            by_cases c1 : b < 32 ∨ 126 < b
            · have hv := Aside0.mk (hsn.out _ (show valB n j b = [92, hexd (b / 16), hexd (b % 16)] from by unfold valB; rw [if_pos (by simpa using c1)]))
              have hx := Aside0.mk (fun W => rhex_calls b hbr0 (by omega) W)
              have hfin := Aside0.mk (show sj ++ (⟨#[92]⟩ : ByteArray) ++ strOfNums [hexd (b / 16), hexd (b % 16)] = B ++ strOfNums (pre f n (j + 1)) from by rw [hv.out, app_assoc, show (⟨#[92]⟩ : ByteArray) = strOfNums [92] from rfl, str_app]; rfl)
              have hxz : (strOfNums [hexd (b / 16), hexd (b % 16)]).size = 2 := by rw [strOfNums_size]; rfl
              obtain ⟨H, hH⟩ : ∃ H, strOfNums [hexd (b / 16), hexd (b % 16)] = H := ⟨_, rfl⟩
              rw [hH] at hx hfin hxz
              clear hH hv hsn y32 y35
              rcases c1 with c1 | c1
              · go_wp2_with fail
                refine (hx.out _).mono ?_
                rintro e w2 ⟨rfl, hb2⟩
                replace hb2 := Aside0.mk (below_then hb.out hb.out.size hb2)
                go_wp2_with fail
                go_roundw
                case rel => exact ⟨j + 1, by omega, by rw [hfin.out], by go_num, hb2⟩
                case measure => simp [intOf]; omega
              · go_wp2_with fail
                refine (hx.out _).mono ?_
                rintro e w2 ⟨rfl, hb2⟩
                replace hb2 := Aside0.mk (below_then hb.out hb.out.size hb2)
                go_wp2_with fail
                go_roundw
                case rel => exact ⟨j + 1, by omega, by rw [hfin.out], by go_num, hb2⟩
                case measure => simp [intOf]; omega
            · have hx := Aside0.mk (fun W => rsign_calls b W)
              have c1a : 32 ≤ b := by omega
              have c1b : b ≤ 126 := by omega
              cases sg : signB b with
              | true =>
                have q0 := True.intro
                have q32 := True.intro
                have q35 := True.intro
                have qn := True.intro
                have hv := Aside0.mk (hsn.out _ (show valB n j b = [92, b] from by unfold valB; rw [if_neg (by simpa using c1), if_pos (by simp [sg, q0, q32, q35, qn])]))
                have hfin := Aside0.mk (show sj ++ (⟨#[92]⟩ : ByteArray) ++ Y = B ++ strOfNums (pre f n (j + 1)) from by rw [hv.out, app_assoc, hob.out, show (⟨#[92]⟩ : ByteArray) = strOfNums [92] from rfl, str_app]; rfl)
                rw [sg] at hx
                replace sg := Aside0.mk sg
                clear q0 q32 q35 qn c1
                go_wp2_with fail
                refine (hx.out _).mono ?_
                rintro e w2 ⟨rfl, hb2⟩
                replace hb2 := Aside0.mk (below_then hb.out hb.out.size hb2)
                go_wp2_with fail
                go_roundw
                case rel => exact ⟨j + 1, by omega, by rw [hfin.out], by go_num, hb2⟩
                case measure => simp [intOf]; omega
              | false =>
                by_cases h0 : j = 0
                · have q0 : (j == 0) = true := by simpa using h0
                  have m0 : (j : Int) ≤ 0 := by omega
                  clear h0
                  by_cases h32 : b = 32
                  · have q35 := True.intro
                    have qn := True.intro
                    subst h32
                    have q32 : ((32 : Int) == 32) = true := rfl
                    have y32' : (Y.toList == [(32 : UInt8)]) = true := y32.trans rfl
                    clear y32 y35
                    have hv := Aside0.mk (hsn.out _ (show valB n j 32 = [92, 32] from by unfold valB; rw [if_neg (by decide), if_pos (by simp [sg, q0, q32, q35, qn])]))
                    have hfin := Aside0.mk (show sj ++ (⟨#[92]⟩ : ByteArray) ++ Y = B ++ strOfNums (pre f n (j + 1)) from by rw [hv.out, app_assoc, hob.out, show (⟨#[92]⟩ : ByteArray) = strOfNums [92] from rfl, str_app]; rfl)
                    rw [sg] at hx
                    replace sg := Aside0.mk sg
                    clear q0 q32 q35 qn c1
                    go_wp2_with fail
                    refine (hx.out _).mono ?_
                    rintro e w2 ⟨rfl, hb2⟩
                    replace hb2 := Aside0.mk (below_then hb.out hb.out.size hb2)
                    go_wp2_with fail
                    go_roundw
                    case rel => exact ⟨j + 1, by omega, by rw [hfin.out], by go_num, hb2⟩
                    case measure => simp [intOf]; omega
                  · have q32 : (b == 32) = false := by simpa using h32
                    have y32' : (Y.toList == [(32 : UInt8)]) = false := y32.trans (by simpa using h32)
                    clear y32
                    by_cases h35 : b = 35
                    · have qn := True.intro
                      subst h35
                      have q35 : ((35 : Int) == 35) = true := rfl
                      have y35' : (Y.toList == [(35 : UInt8)]) = true := y35.trans rfl
                      clear y35
                      have hv := Aside0.mk (hsn.out _ (show valB n j 35 = [92, 35] from by unfold valB; rw [if_neg (by decide), if_pos (by simp [sg, q0, q32, q35, qn])]))
                      have hfin := Aside0.mk (show sj ++ (⟨#[92]⟩ : ByteArray) ++ Y = B ++ strOfNums (pre f n (j + 1)) from by rw [hv.out, app_assoc, hob.out, show (⟨#[92]⟩ : ByteArray) = strOfNums [92] from rfl, str_app]; rfl)
                      rw [sg] at hx
                      replace sg := Aside0.mk sg
                      clear q0 q32 q35 qn c1
                      go_wp2_with fail
                      refine (hx.out _).mono ?_
                      rintro e w2 ⟨rfl, hb2⟩
                      replace hb2 := Aside0.mk (below_then hb.out hb.out.size hb2)
                      go_wp2_with fail
                      go_roundw
                      case rel => exact ⟨j + 1, by omega, by rw [hfin.out], by go_num, hb2⟩
                      case measure => simp [intOf]; omega
                    · have q35 : (b == 35) = false := by simpa using h35
                      have y35' : (Y.toList == [(35 : UInt8)]) = false := y35.trans (by simpa using h35)
                      clear y35
                      by_cases hn1 : j + 1 = n
                      · have qn : (j + 1 == n) = true := by simpa using hn1
                        have m1 : (n : Int) - 1 ≤ (j : Int) := by omega
                        clear hn1
                        have hv := Aside0.mk (hsn.out _ (show valB n j b = [b] from by unfold valB; rw [if_neg (by simpa using c1), if_neg (by simp [sg, q0, q32, q35, qn])]))
                        have hfin := Aside0.mk (show sj ++ Y = B ++ strOfNums (pre f n (j + 1)) from by rw [hv.out, hob.out])
                        rw [sg] at hx
                        replace sg := Aside0.mk sg
                        clear q0 q32 q35 qn c1
                        go_wp2_with fail
                        refine (hx.out _).mono ?_
                        rintro e w2 ⟨rfl, hb2⟩
                        replace hb2 := Aside0.mk (below_then hb.out hb.out.size hb2)
                        go_wp2_with fail
                        go_roundw
                        case rel => exact ⟨j + 1, by omega, by rw [hfin.out], by go_num, hb2⟩
                        case measure => simp [intOf]; omega
                      · have qn : (j + 1 == n) = false := by simpa using hn1
                        have m1 : (j : Int) < (n : Int) - 1 := by omega
                        clear hn1
                        have hv := Aside0.mk (hsn.out _ (show valB n j b = [b] from by unfold valB; rw [if_neg (by simpa using c1), if_neg (by simp [sg, q0, q32, q35, qn])]))
                        have hfin := Aside0.mk (show sj ++ Y = B ++ strOfNums (pre f n (j + 1)) from by rw [hv.out, hob.out])
                        rw [sg] at hx
                        replace sg := Aside0.mk sg
                        clear q0 q32 q35 qn c1
                        go_wp2_with fail
                        refine (hx.out _).mono ?_
                        rintro e w2 ⟨rfl, hb2⟩
                        replace hb2 := Aside0.mk (below_then hb.out hb.out.size hb2)
                        go_wp2_with fail
                        go_roundw
                        case rel => exact ⟨j + 1, by omega, by rw [hfin.out], by go_num, hb2⟩
                        case measure => simp [intOf]; omega
                · have q0 : (j == 0) = false := by simpa using h0
                  have m0 : (0 : Int) < (j : Int) := by omega
                  clear h0
                  by_cases hn1 : j + 1 = n
                  · have qn : (j + 1 == n) = true := by simpa using hn1
                    have m1 : (n : Int) - 1 ≤ (j : Int) := by omega
                    clear hn1
                    by_cases h32 : b = 32
                    · have q35 := True.intro
                      subst h32
                      have q32 : ((32 : Int) == 32) = true := rfl
                      have y32' : (Y.toList == [(32 : UInt8)]) = true := y32.trans rfl
                      clear y32 y35
                      have hv := Aside0.mk (hsn.out _ (show valB n j 32 = [92, 32] from by unfold valB; rw [if_neg (by decide), if_pos (by simp [sg, q0, q32, q35, qn])]))
                      have hfin := Aside0.mk (show sj ++ (⟨#[92]⟩ : ByteArray) ++ Y = B ++ strOfNums (pre f n (j + 1)) from by rw [hv.out, app_assoc, hob.out, show (⟨#[92]⟩ : ByteArray) = strOfNums [92] from rfl, str_app]; rfl)
                      rw [sg] at hx
                      replace sg := Aside0.mk sg
                      clear q0 q32 q35 qn c1
                      go_wp2_with fail
                      refine (hx.out _).mono ?_
                      rintro e w2 ⟨rfl, hb2⟩
                      replace hb2 := Aside0.mk (below_then hb.out hb.out.size hb2)
                      go_wp2_with fail
                      go_roundw
                      case rel => exact ⟨j + 1, by omega, by rw [hfin.out], by go_num, hb2⟩
                      case measure => simp [intOf]; omega
                    · have q35 := True.intro
                      have q32 : (b == 32) = false := by simpa using h32
                      have y32' : (Y.toList == [(32 : UInt8)]) = false := y32.trans (by simpa using h32)
                      clear y32
                      have hv := Aside0.mk (hsn.out _ (show valB n j b = [b] from by unfold valB; rw [if_neg (by simpa using c1), if_neg (by simp [sg, q0, q32, q35, qn])]))
                      have hfin := Aside0.mk (show sj ++ Y = B ++ strOfNums (pre f n (j + 1)) from by rw [hv.out, hob.out])
                      rw [sg] at hx
                      replace sg := Aside0.mk sg
                      clear q0 q32 q35 qn c1
                      go_wp2_with fail
                      refine (hx.out _).mono ?_
                      rintro e w2 ⟨rfl, hb2⟩
                      replace hb2 := Aside0.mk (below_then hb.out hb.out.size hb2)
                      go_wp2_with fail
                      go_roundw
                      case rel => exact ⟨j + 1, by omega, by rw [hfin.out], by go_num, hb2⟩
                      case measure => simp [intOf]; omega
                  · have qn : (j + 1 == n) = false := by simpa using hn1
                    have m1 : (j : Int) < (n : Int) - 1 := by omega
                    clear hn1
                    have q32 := True.intro
                    have q35 := True.intro
                    have hv := Aside0.mk (hsn.out _ (show valB n j b = [b] from by unfold valB; rw [if_neg (by simpa using c1), if_neg (by simp [sg, q0, q32, q35, qn])]))
                    have hfin := Aside0.mk (show sj ++ Y = B ++ strOfNums (pre f n (j + 1)) from by rw [hv.out, hob.out])
                    rw [sg] at hx
                    replace sg := Aside0.mk sg
                    clear q0 q32 q35 qn c1
                    go_wp2_with fail
                    refine (hx.out _).mono ?_
                    rintro e w2 ⟨rfl, hb2⟩
                    replace hb2 := Aside0.mk (below_then hb.out hb.out.size hb2)
                    go_wp2_with fail
                    go_roundw
                    case rel => exact ⟨j + 1, by omega, by rw [hfin.out], by go_num, hb2⟩
                    case measure => simp [intOf]; omega
          · obtain rfl : j = n := by omega
            have hfin := Aside0.mk hnr.out
            replace hjl := Aside0.mk hjl
            go_wp2_with fail
            go_roundw
            case rel => exact ⟨k + 1, by omega, by rw [hfin.out], by go_num, hb⟩
            case measure => simp [intOf]; omega
      · rw [if_neg hk0] at hB
        have hk0' : (k : Int) ≤ 0 := by omega
        replace hB := Aside0.mk (show sk ++ T ++ (⟨#[61]⟩ : ByteArray) = B from by rw [← hB, ← app_assoc]; rfl)
        clear hend
        go_wp2_with fail
        clear p0 p1
        go_loopw [3, 6] (fun s3 s6 wr => ∃ j : Nat, j ≤ n ∧ s3 = .string (B ++ strOfNums (pre f n j)) ∧ s6 = .int .i64 j ∧ Aside0 (Below w.heap.size w wr)) (fun _ s6 _ => n - (intOf s6).toNat)
        case atStart => exact ⟨0, Nat.zero_le _, by rw [hB.out, show strOfNums (pre f n 0) = (⟨#[]⟩ : ByteArray) from rfl, app_nil], rfl, hb⟩
        case round =>
          clear hb
          obtain ⟨j, hj, rfl, rfl, hb⟩ := hrel
          have hnn := hn.out
          have hpz := pre_length f n j
          have hsn := Aside0.mk (fun L (h : valB n j (f j) = L) => show B ++ strOfNums (pre f n (j + 1)) = (B ++ strOfNums (pre f n j)) ++ strOfNums L by rw [pre_next, h, ← str_app, app_assoc])
          have hsjz : (B ++ strOfNums (pre f n j)).size ≤ 60048003 := by rw [ByteArray.size_append, strOfNums_size]; omega
          by_cases hjl : j < n
          · obtain ⟨sj, hsj⟩ : ∃ sj, B ++ strOfNums (pre f n j) = sj := ⟨_, rfl⟩
            rw [hsj] at hsjz hsn ⊢
            clear hsj hpz
            have hbn := bt_nat (s := V) (p := j) (by omega)
            have hob := one_byte V j (by omega)
            have hbr := bt_range V (j : Int)
            have hfj' := hfj.out j
            obtain ⟨b, hb'⟩ : ∃ b, bt V (j : Int) = b := ⟨_, rfl⟩
            rw [hb'] at hbn hob hbr hfj'
            rw [hfj'] at hsn
            have y32 := one_eq b (by omega) 32
            have y35 := one_eq b (by omega) 35
            rw [← hob] at y32 y35
            obtain ⟨Y, hY⟩ : ∃ Y, V.extract j (j + 1) = Y := ⟨_, rfl⟩
            have hYz : Y.size = 1 := by rw [← hY, hob, strOfNums_size]; rfl
            have hsl : ∀ w', (Instr.slice 9 (.string V) (some (.int .i64 (j : Int))) (some (.int .i64 ((j : Int) + 1))) none).run Try.prog w' = .ok (.string Y) w' := by
              intro w'
              have h := run_slice_string (P := Try.prog) w' 9 V .i64 .i64 (j : Int) ((j : Int) + 1) Try.underlying9 (by omega) (by omega) (by omega)
              rw [show ((j : Int)).toNat = j from rfl, show ((j : Int) + 1).toNat = j + 1 from rfl, hY] at h
              exact h
            rw [hY] at y32 y35 hob
            replace hob := Aside0.mk hob
            clear hb' hfj'
            obtain ⟨hbr0, hbr1⟩ := hbr
            have j1 : (0 : Int) ≤ (j : Int) := by omega
            have j2 : (j : Int) < (n : Int) := by omega
            clear hk0' hk0
            by_cases c1 : b < 32 ∨ 126 < b
            · have hv := Aside0.mk (hsn.out _ (show valB n j b = [92, hexd (b / 16), hexd (b % 16)] from by unfold valB; rw [if_pos (by simpa using c1)]))
              have hx := Aside0.mk (fun W => rhex_calls b hbr0 (by omega) W)
              have hfin := Aside0.mk (show sj ++ (⟨#[92]⟩ : ByteArray) ++ strOfNums [hexd (b / 16), hexd (b % 16)] = B ++ strOfNums (pre f n (j + 1)) from by rw [hv.out, app_assoc, show (⟨#[92]⟩ : ByteArray) = strOfNums [92] from rfl, str_app]; rfl)
              have hxz : (strOfNums [hexd (b / 16), hexd (b % 16)]).size = 2 := by rw [strOfNums_size]; rfl
              obtain ⟨H, hH⟩ : ∃ H, strOfNums [hexd (b / 16), hexd (b % 16)] = H := ⟨_, rfl⟩
              rw [hH] at hx hfin hxz
              clear hH hv hsn y32 y35
              rcases c1 with c1 | c1
              · go_wp2_with fail
                refine (hx.out _).mono ?_
                rintro e w2 ⟨rfl, hb2⟩
                replace hb2 := Aside0.mk (below_then hb.out hb.out.size hb2)
                go_wp2_with fail
                go_roundw
                case rel => exact ⟨j + 1, by omega, by rw [hfin.out], by go_num, hb2⟩
                case measure => simp [intOf]; omega
              · go_wp2_with fail
                refine (hx.out _).mono ?_
                rintro e w2 ⟨rfl, hb2⟩
                replace hb2 := Aside0.mk (below_then hb.out hb.out.size hb2)
                go_wp2_with fail
                go_roundw
                case rel => exact ⟨j + 1, by omega, by rw [hfin.out], by go_num, hb2⟩
                case measure => simp [intOf]; omega
            · have hx := Aside0.mk (fun W => rsign_calls b W)
              have c1a : 32 ≤ b := by omega
              have c1b : b ≤ 126 := by omega
              cases sg : signB b with
              | true =>
                have q0 := True.intro
                have q32 := True.intro
                have q35 := True.intro
                have qn := True.intro
                have hv := Aside0.mk (hsn.out _ (show valB n j b = [92, b] from by unfold valB; rw [if_neg (by simpa using c1), if_pos (by simp [sg, q0, q32, q35, qn])]))
                have hfin := Aside0.mk (show sj ++ (⟨#[92]⟩ : ByteArray) ++ Y = B ++ strOfNums (pre f n (j + 1)) from by rw [hv.out, app_assoc, hob.out, show (⟨#[92]⟩ : ByteArray) = strOfNums [92] from rfl, str_app]; rfl)
                rw [sg] at hx
                replace sg := Aside0.mk sg
                clear q0 q32 q35 qn c1
                go_wp2_with fail
                refine (hx.out _).mono ?_
                rintro e w2 ⟨rfl, hb2⟩
                replace hb2 := Aside0.mk (below_then hb.out hb.out.size hb2)
                go_wp2_with fail
                go_roundw
                case rel => exact ⟨j + 1, by omega, by rw [hfin.out], by go_num, hb2⟩
                case measure => simp [intOf]; omega
              | false =>
                by_cases h0 : j = 0
                · have q0 : (j == 0) = true := by simpa using h0
                  have m0 : (j : Int) ≤ 0 := by omega
                  clear h0
                  by_cases h32 : b = 32
                  · have q35 := True.intro
                    have qn := True.intro
                    subst h32
                    have q32 : ((32 : Int) == 32) = true := rfl
                    have y32' : (Y.toList == [(32 : UInt8)]) = true := y32.trans rfl
                    clear y32 y35
                    have hv := Aside0.mk (hsn.out _ (show valB n j 32 = [92, 32] from by unfold valB; rw [if_neg (by decide), if_pos (by simp [sg, q0, q32, q35, qn])]))
                    have hfin := Aside0.mk (show sj ++ (⟨#[92]⟩ : ByteArray) ++ Y = B ++ strOfNums (pre f n (j + 1)) from by rw [hv.out, app_assoc, hob.out, show (⟨#[92]⟩ : ByteArray) = strOfNums [92] from rfl, str_app]; rfl)
                    rw [sg] at hx
                    replace sg := Aside0.mk sg
                    clear q0 q32 q35 qn c1
                    go_wp2_with fail
                    refine (hx.out _).mono ?_
                    rintro e w2 ⟨rfl, hb2⟩
                    replace hb2 := Aside0.mk (below_then hb.out hb.out.size hb2)
                    go_wp2_with fail
                    go_roundw
                    case rel => exact ⟨j + 1, by omega, by rw [hfin.out], by go_num, hb2⟩
                    case measure => simp [intOf]; omega
                  · have q32 : (b == 32) = false := by simpa using h32
                    have y32' : (Y.toList == [(32 : UInt8)]) = false := y32.trans (by simpa using h32)
                    clear y32
                    by_cases h35 : b = 35
                    · have qn := True.intro
                      subst h35
                      have q35 : ((35 : Int) == 35) = true := rfl
                      have y35' : (Y.toList == [(35 : UInt8)]) = true := y35.trans rfl
                      clear y35
                      have hv := Aside0.mk (hsn.out _ (show valB n j 35 = [92, 35] from by unfold valB; rw [if_neg (by decide), if_pos (by simp [sg, q0, q32, q35, qn])]))
                      have hfin := Aside0.mk (show sj ++ (⟨#[92]⟩ : ByteArray) ++ Y = B ++ strOfNums (pre f n (j + 1)) from by rw [hv.out, app_assoc, hob.out, show (⟨#[92]⟩ : ByteArray) = strOfNums [92] from rfl, str_app]; rfl)
                      rw [sg] at hx
                      replace sg := Aside0.mk sg
                      clear q0 q32 q35 qn c1
                      go_wp2_with fail
                      refine (hx.out _).mono ?_
                      rintro e w2 ⟨rfl, hb2⟩
                      replace hb2 := Aside0.mk (below_then hb.out hb.out.size hb2)
                      go_wp2_with fail
                      go_roundw
                      case rel => exact ⟨j + 1, by omega, by rw [hfin.out], by go_num, hb2⟩
                      case measure => simp [intOf]; omega
                    · have q35 : (b == 35) = false := by simpa using h35
                      have y35' : (Y.toList == [(35 : UInt8)]) = false := y35.trans (by simpa using h35)
                      clear y35
                      by_cases hn1 : j + 1 = n
                      · have qn : (j + 1 == n) = true := by simpa using hn1
                        have m1 : (n : Int) - 1 ≤ (j : Int) := by omega
                        clear hn1
                        have hv := Aside0.mk (hsn.out _ (show valB n j b = [b] from by unfold valB; rw [if_neg (by simpa using c1), if_neg (by simp [sg, q0, q32, q35, qn])]))
                        have hfin := Aside0.mk (show sj ++ Y = B ++ strOfNums (pre f n (j + 1)) from by rw [hv.out, hob.out])
                        rw [sg] at hx
                        replace sg := Aside0.mk sg
                        clear q0 q32 q35 qn c1
                        go_wp2_with fail
                        refine (hx.out _).mono ?_
                        rintro e w2 ⟨rfl, hb2⟩
                        replace hb2 := Aside0.mk (below_then hb.out hb.out.size hb2)
                        go_wp2_with fail
                        go_roundw
                        case rel => exact ⟨j + 1, by omega, by rw [hfin.out], by go_num, hb2⟩
                        case measure => simp [intOf]; omega
                      · have qn : (j + 1 == n) = false := by simpa using hn1
                        have m1 : (j : Int) < (n : Int) - 1 := by omega
                        clear hn1
                        have hv := Aside0.mk (hsn.out _ (show valB n j b = [b] from by unfold valB; rw [if_neg (by simpa using c1), if_neg (by simp [sg, q0, q32, q35, qn])]))
                        have hfin := Aside0.mk (show sj ++ Y = B ++ strOfNums (pre f n (j + 1)) from by rw [hv.out, hob.out])
                        rw [sg] at hx
                        replace sg := Aside0.mk sg
                        clear q0 q32 q35 qn c1
                        go_wp2_with fail
                        refine (hx.out _).mono ?_
                        rintro e w2 ⟨rfl, hb2⟩
                        replace hb2 := Aside0.mk (below_then hb.out hb.out.size hb2)
                        go_wp2_with fail
                        go_roundw
                        case rel => exact ⟨j + 1, by omega, by rw [hfin.out], by go_num, hb2⟩
                        case measure => simp [intOf]; omega
                · have q0 : (j == 0) = false := by simpa using h0
                  have m0 : (0 : Int) < (j : Int) := by omega
                  clear h0
                  by_cases hn1 : j + 1 = n
                  · have qn : (j + 1 == n) = true := by simpa using hn1
                    have m1 : (n : Int) - 1 ≤ (j : Int) := by omega
                    clear hn1
                    by_cases h32 : b = 32
                    · have q35 := True.intro
                      subst h32
                      have q32 : ((32 : Int) == 32) = true := rfl
                      have y32' : (Y.toList == [(32 : UInt8)]) = true := y32.trans rfl
                      clear y32 y35
                      have hv := Aside0.mk (hsn.out _ (show valB n j 32 = [92, 32] from by unfold valB; rw [if_neg (by decide), if_pos (by simp [sg, q0, q32, q35, qn])]))
                      have hfin := Aside0.mk (show sj ++ (⟨#[92]⟩ : ByteArray) ++ Y = B ++ strOfNums (pre f n (j + 1)) from by rw [hv.out, app_assoc, hob.out, show (⟨#[92]⟩ : ByteArray) = strOfNums [92] from rfl, str_app]; rfl)
                      rw [sg] at hx
                      replace sg := Aside0.mk sg
                      clear q0 q32 q35 qn c1
                      go_wp2_with fail
                      refine (hx.out _).mono ?_
                      rintro e w2 ⟨rfl, hb2⟩
                      replace hb2 := Aside0.mk (below_then hb.out hb.out.size hb2)
                      go_wp2_with fail
                      go_roundw
                      case rel => exact ⟨j + 1, by omega, by rw [hfin.out], by go_num, hb2⟩
                      case measure => simp [intOf]; omega
                    · have q35 := True.intro
                      have q32 : (b == 32) = false := by simpa using h32
                      have y32' : (Y.toList == [(32 : UInt8)]) = false := y32.trans (by simpa using h32)
                      clear y32
                      have hv := Aside0.mk (hsn.out _ (show valB n j b = [b] from by unfold valB; rw [if_neg (by simpa using c1), if_neg (by simp [sg, q0, q32, q35, qn])]))
                      have hfin := Aside0.mk (show sj ++ Y = B ++ strOfNums (pre f n (j + 1)) from by rw [hv.out, hob.out])
                      rw [sg] at hx
                      replace sg := Aside0.mk sg
                      clear q0 q32 q35 qn c1
                      go_wp2_with fail
                      refine (hx.out _).mono ?_
                      rintro e w2 ⟨rfl, hb2⟩
                      replace hb2 := Aside0.mk (below_then hb.out hb.out.size hb2)
                      go_wp2_with fail
                      go_roundw
                      case rel => exact ⟨j + 1, by omega, by rw [hfin.out], by go_num, hb2⟩
                      case measure => simp [intOf]; omega
                  · have qn : (j + 1 == n) = false := by simpa using hn1
                    have m1 : (j : Int) < (n : Int) - 1 := by omega
                    clear hn1
                    have q32 := True.intro
                    have q35 := True.intro
                    have hv := Aside0.mk (hsn.out _ (show valB n j b = [b] from by unfold valB; rw [if_neg (by simpa using c1), if_neg (by simp [sg, q0, q32, q35, qn])]))
                    have hfin := Aside0.mk (show sj ++ Y = B ++ strOfNums (pre f n (j + 1)) from by rw [hv.out, hob.out])
                    rw [sg] at hx
                    replace sg := Aside0.mk sg
                    clear q0 q32 q35 qn c1
                    go_wp2_with fail
                    refine (hx.out _).mono ?_
                    rintro e w2 ⟨rfl, hb2⟩
                    replace hb2 := Aside0.mk (below_then hb.out hb.out.size hb2)
                    go_wp2_with fail
                    go_roundw
                    case rel => exact ⟨j + 1, by omega, by rw [hfin.out], by go_num, hb2⟩
                    case measure => simp [intOf]; omega
          · obtain rfl : j = n := by omega
            have hfin := Aside0.mk hnr.out
            replace hjl := Aside0.mk hjl
            go_wp2_with fail
            go_roundw
            case rel => exact ⟨k + 1, by omega, by rw [hfin.out], by go_num, hb⟩
            case measure => simp [intOf]; omega
    · obtain rfl : k = M := by omega
      rw [show textTo l k = textF l from by unfold textF; rw [hM.out]]
      go_wp2_with fail
      go_ret
      exact ⟨rfl, hb.out⟩
end Go.Proofs.Ythbjgcmbbdlfkaa
