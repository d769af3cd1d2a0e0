/- The reference's one: with filters in it; and one as a whole. -/
import Derived.Test.YtgnmkblaockghaaQNc
set_option linter.unusedVariables false
set_option linter.unusedSimpArgs false
namespace Go.Proofs.Ytgnmkblaockghaa
open Go.RowKit Go.Shelf Go.Proofs.YtgnmkblaockghaaW.PrintWords Go.Proofs.YtgnmkblaockghaaW.PrintMore Go.Proofs.YtgnmkblaockghaaW.PrintLast

set_option maxRecDepth 20000 in
set_option maxHeartbeats 16000000 in
theorem one_of (s : ByteArray) (hs : s.size ≤ 12000) (m d : Nat) (hd : d + (m + 1) = 17) (k : Nat) (w : World) (hk1 : k + 1 < s.size) (h40 : bt s (k : Int) = 40) (hop0 : 0 ≤ opN (bt s ((k + 1 : Nat) : Int))) (ih : ∀ (d : Nat), d + m = 17 → ∀ (k : Nat) (w : World), k ≤ s.size → Calls Try.prog 44 #[.string s, .int .i64 (k : Int), .int .i64 (d : Int)] w (OneEnds (oneF m s k) w)) :
    Calls Try.prog 44 #[.string s, .int .i64 (k : Int), .int .i64 (d : Int)] w (OneEnds (oneF (m + 1) s k) w) := by
  have hone := one_weight s
  replace hop0 := Aside0.mk hop0
  have hd16 : d ≤ 16 := by omega
  have q1 : decide ((d : Int) > 16) = false := decide_eq_false (by omega)
  have hF : oneF (m + 1) s k = _ := oneF.eq_2 s k m
  obtain ⟨res, hre⟩ : ∃ res, oneF (m + 1) s k = res := ⟨_, rfl⟩
  rw [hre] at hF ⊢
  clear hre
  replace ih := Aside0.mk ih
  replace hone := Aside0.mk hone
  have hwkA := Aside0.mk (show wrap64 ((k : Int) + 1) = (k : Int) + 1 by unfold wrap64; omega)
  have hwdA := Aside0.mk (show wrap64 ((d : Int) + 1) = (d : Int) + 1 by unfold wrap64; omega)
  replace hd := Aside0.mk hd
  obtain ⟨R, hRw⟩ : ∃ R, w.heap.size = R := ⟨_, rfl⟩
  have hR1 := fbox_new w 25 (.int .i64 0) (.slice none 0 0) (.string ⟨#[]⟩) (.string ⟨#[]⟩)
  have hb1 := below_alloc (Below.refl w.heap.size w) (.cells #[.int .i64 0, .slice none 0 0, .string ⟨#[]⟩, .string ⟨#[]⟩] 25)
  obtain ⟨w1, hw1⟩ : ∃ w1, w.alloc (.cells #[.int .i64 0, .slice none 0 0, .string ⟨#[]⟩, .string ⟨#[]⟩] 25) = w1 := ⟨_, rfl⟩
  rw [hw1] at hR1 hb1
  rw [hRw] at hR1
  have hRle := Aside0.mk (show w.heap.size ≤ R by omega)
  replace hR1 := Aside0.mk hR1
  replace hb1 := Aside0.mk hb1
  have q2 : decide ((k : Int) + 1 ≥ (s.size : Int)) = false := decide_eq_false (by omega)
  have i0 : (0 : Int) ≤ (k : Int) := by omega
  have i1 : (k : Int) < (s.size : Int) := by omega
  have hbt := fun h : k < s.size => bt_nat h
  have q3 : (bt s (k : Int) != 40) = false := by simp [h40]
  rw [if_pos ⟨hk1, h40⟩] at hF
  obtain ⟨k1, hk1e⟩ : ∃ k1, k + 1 = k1 := ⟨_, rfl⟩
  rw [show k + 2 = k1 + 1 from by omega, hk1e] at hF
  have hw1kA := Aside0.mk (show wrap64 ((k1 : Int) + 1) = (k1 : Int) + 1 by unfold wrap64; omega)
  have hkk : (k : Int) + 1 = (k1 : Int) := by omega
  rw [hkk] at hwkA q2
  have hk1s : k1 < s.size := by omega
  have hwk := hwkA.out
  have hVn := fbox_new w1 25 (.int .i64 0) (.slice none 0 0) (.string ⟨#[]⟩) (.string ⟨#[]⟩)
  have hbn := below_alloc (Below.refl w1.heap.size w1) (.cells #[.int .i64 0, .slice none 0 0, .string ⟨#[]⟩, .string ⟨#[]⟩] 25)
  obtain ⟨w2, hw2⟩ : ∃ w2, w1.alloc (.cells #[.int .i64 0, .slice none 0 0, .string ⟨#[]⟩, .string ⟨#[]⟩] 25) = w2 := ⟨_, rfl⟩
  obtain ⟨V, hVe⟩ : ∃ V, w1.heap.size = V := ⟨_, rfl⟩
  rw [hw2] at hVn hbn
  rw [hVe] at hVn
  have hRV := Aside0.mk (show R < V by rw [← hVe]; exact hR1.out.lt)
  have hb2 := below_then hb1.out hb1.out.size hbn
  have hR2 := hR1.out.below hbn
  obtain ⟨f0, f1, f2, f3⟩ := hVn.free
  obtain ⟨c0, c1, c2, c3⟩ := hVn.cells
  obtain ⟨w3, hw3, hV3, hm3⟩ := put4 hVn (.int .i64 0) (.slice none 0 0) (.string ⟨#[]⟩) (.string ⟨#[]⟩)
  have hVle := Aside0.mk (show w.heap.size ≤ V by have := hRle.out; have := hRV.out; omega)
  have hb3 := Aside0.mk (mod_below hm3 hb2 hVle.out)
  have hR3 := Aside0.mk (hR2.mod hm3 (show ¬ R = V by have := hRV.out; omega))
  replace hV3 := Aside0.mk hV3
  replace hF := Aside0.mk hF
  replace hk1e := Aside0.mk hk1e
  clear hVn hbn hb2 hR2 hm3 hb1 hR1
  have hop0 : 0 ≤ opN (bt s (k1 : Int)) := by rw [show (k1 : Int) = ((k + 1 : Nat) : Int) by have := hk1e.out; omega]; exact hop0.out
  obtain ⟨op, hop⟩ : ∃ op, opN (bt s (k1 : Int)) = op := ⟨_, rfl⟩
  rw [hop] at hF hop0
  replace hop0 := Aside0.mk hop0
  obtain ⟨o0, o1⟩ := opN_range (bt s (k1 : Int))
  rw [hop] at o0 o1
  have hleq := Aside0.mk (fun (j : Nat) (hj : j < 3) => (show ((s.extract k1 (k1 + 1)).toList == (letB j).toList) = decide (op = (j : Int)) by rw [let_eq s k1 j hk1s hj, hop]))
  clear hop
  go_enter Try.func44, Try.ntmps44
  go_wp2_with fail
  clear f0 f1 f2 f3 c0 c1 c2 c3 hw3 hbt hwk hw1 hw2 hVe hRw
  have kj0 : Aside0 ((if op < ((0 : Nat) : Int) then op + 1 else 0) = 0) := ⟨by split <;> omega⟩
  go_loopw [9] (fun s9 wr => ∃ (j : Nat) (K : Int), j ≤ 3 ∧ s9 = .int .i64 ((j : Int) + 1) ∧ Aside0 ((if op < (j : Int) then op + 1 else 0) = K) ∧ Aside0 (FBox wr V 25 (.int .i64 K) (.slice none 0 0) (.string ⟨#[]⟩) (.string ⟨#[]⟩)) ∧ Aside0 (FBox wr R 25 (.int .i64 0) (.slice none 0 0) (.string ⟨#[]⟩) (.string ⟨#[]⟩)) ∧ Aside0 (Below w.heap.size w wr)) (fun s9 _ => 4 - (intOf s9).toNat)
  case atStart => exact ⟨0, 0, by omega, by go_num, kj0, hV3, hR3, hb3⟩
  case round =>
    clear hV3 hR3 hb3
    obtain ⟨j, K, hj, rfl, hK, hV, hR, hb⟩ := hrel
    by_cases hj3 : j < 3
    · have q4 : decide ((j : Int) + 1 ≤ 3) = true := decide_eq_true (by omega)
      have hjsA := Aside0.mk (show wrap64 (j : Int) = (j : Int) from wrap_in _ (by omega))
      have j3 : (j : Int) < 3 := by omega
      have hjnA := Aside0.mk (show wrap64 ((j : Int) + 1 + 1) = ((j + 1 : Nat) : Int) + 1 by rw [wrap_in _ (by omega)]; omega)
      have k10 : (0 : Int) ≤ (k1 : Int) := by omega
      have k11 : (k1 : Int) + 1 ≤ (s.size : Int) := by omega
      have j0 : (0 : Int) ≤ (j : Int) := by omega
      have hsl := slice_text s k1 (k1 + 1) ⟨by omega, by omega⟩
      rw [show ((k1 + 1 : Nat) : Int) = (k1 : Int) + 1 from rfl] at hsl
      have hla := let_at j hj3
      have hE := hleq.out j hj3
      have hba := below_alloc (Below.refl wr.heap.size wr) (.cells #[.string { data := #[38] }, .string { data := #[124] }, .string { data := #[33] }] 9)
      have hba : Below wr.heap.size wr (wr.alloc (.cells #[.string { data := #[38] }, .string { data := #[124] }, .string { data := #[33] }] 9)).drew := below_then hba hba.size (below_drew (Below.refl _ _))
      have hVq := Aside0.mk (hV.out.below hba)
      have hRq := Aside0.mk (hR.out.below hba)
      have hbq := Aside0.mk (below_then hb.out hb.out.size hba)
      clear hba
      by_cases hoj : op = (j : Int)
      · rw [decide_eq_true hoj] at hE
        have hms : Aside0 (K = 0) := ⟨by have := hK.out; rw [if_neg (by omega)] at this; exact this.symm⟩
        obtain ⟨f0, _, _, _⟩ := hVq.out.free
        obtain ⟨b0, _, _, _⟩ := hVq.out.cells
        have hV6 := Aside0.mk (hVq.out.set0 (.int .i64 ((j : Int) + 1)))
        have hm6 := set_mod (wr.alloc (.cells #[.string { data := #[38] }, .string { data := #[124] }, .string { data := #[33] }] 9)).drew V 0 (.int .i64 ((j : Int) + 1))
        obtain ⟨w6, hw6⟩ : ∃ w6, ((wr.alloc (.cells #[.string { data := #[38] }, .string { data := #[124] }, .string { data := #[33] }] 9)).drew).setCell ⟨V, 0, none⟩ (.int .i64 ((j : Int) + 1)) = w6 := ⟨_, rfl⟩
        rw [hw6] at hV6 hm6
        have hR6 := Aside0.mk (hRq.out.mod hm6 (show ¬ R = V by have := hRV.out; omega))
        have hb6 := Aside0.mk (mod_below hm6 hbq.out hVle.out)
        clear hm6
        have hjs := hjsA.out
        have hjn := hjnA.out
        have hw1k := hw1kA.out
        go_wp2_with fail
        refine start_ (n := 11) (S := fun w' => True) (ds := [9]) (B_ 11 0) (by kernel_rfl) rfl rfl trivial (fun hHeld => ?_)
        refine pn_ 0 38 (B_ 11 1) rfl rfl ?_
        refine pn_ 1 39 (B_ 11 3) rfl rfl ?_
        refine pn_ 2 40 (B_ 11 7) rfl rfl ?_
        refine pn_ 3 41 (B_ 11 15) rfl rfl ?_
        refine pn_ 4 42 (B_ 11 31) rfl rfl ?_
        refine pn_ 6 44 (B_ 11 95) rfl rfl ?_
        refine pn_ 7 45 (B_ 11 223) rfl rfl ?_
        refine one_ (i := 5) (N := some 43) (B_ 11 255) rfl rfl (by kernel_rfl) (by decide) (fun K hK => ?_)
        refine value_ (w1 := ?_) (v := ?_) (by rfl) rfl ?_ ?_
        rotate_left 2
        · go_simp
          constructor
          · rfl
          · rfl
        refine hK.out _ _ trivial (fun hHeld => ?_)
        clear hK K
        refine nm_ 43 ?_
        refine pn_ 8 46 (B_ 11 511) rfl rfl ?_
        refine last_ (i := 9) (N := some 47) (B_ 11 1023) rfl rfl (by kernel_rfl) (by decide) (fun K hK => ?_)
        refine value_ (w1 := ?_) (v := ?_) (by rfl) rfl ?_ ?_
        rotate_left 2
        · go_simp
          constructor
          · rfl
          · rfl
        refine hK.out _ _ ?_
        clear hK K
        refine nm_ 47 ?_
        refine pn_ 10 48 (B_ 11 2047) rfl rfl ?_
        refine done_ (by kernel_rfl) ?_
        go_wp2_with fail
        clear hjs hjn hw1k
        go_roundw
        case rel => exact ⟨j + 1, (j : Int) + 1, by omega, by go_num, ⟨by rw [if_pos (by omega)]; omega⟩, hV6, hR6, hb6⟩
        case measure => simp [intOf]; omega
      · rw [decide_eq_false hoj] at hE
        have hK2 : Aside0 ((if op < ((j + 1 : Nat) : Int) then op + 1 else 0) = K) := ⟨by
          have h := hK.out
          by_cases c : op < (j : Int)
          · rw [if_pos c] at h; rw [if_pos (by omega)]; exact h
          · rw [if_neg c] at h; rw [if_neg (by omega)]; exact h⟩
        have hjs := hjsA.out
        have hjn := hjnA.out
        have hw1k := hw1kA.out
        go_wp2_with fail
        refine start_ (n := 11) (S := fun w' => True) (ds := [9]) (B_ 11 0) (by kernel_rfl) rfl rfl trivial (fun hHeld => ?_)
        refine pn_ 0 38 (B_ 11 1) rfl rfl ?_
        refine pn_ 1 39 (B_ 11 3) rfl rfl ?_
        refine pn_ 2 40 (B_ 11 7) rfl rfl ?_
        refine pn_ 3 41 (B_ 11 15) rfl rfl ?_
        refine pn_ 4 42 (B_ 11 31) rfl rfl ?_
        refine pn_ 6 44 (B_ 11 95) rfl rfl ?_
        refine pn_ 7 45 (B_ 11 223) rfl rfl ?_
        refine one_ (i := 5) (N := some 43) (B_ 11 255) rfl rfl (by kernel_rfl) (by decide) (fun K hK => ?_)
        refine value_ (w1 := ?_) (v := ?_) (by rfl) rfl ?_ ?_
        rotate_left 2
        · go_simp
          constructor
          · rfl
          · rfl
        refine hK.out _ _ trivial (fun hHeld => ?_)
        clear hK K
        refine nm_ 43 ?_
        refine pn_ 8 46 (B_ 11 511) rfl rfl ?_
        refine last_ (i := 9) (N := some 47) (B_ 11 1023) rfl rfl (by kernel_rfl) (by decide) (fun K hK => ?_)
        refine value_ (w1 := ?_) (v := ?_) (by rfl) rfl ?_ ?_
        rotate_left 2
        · go_simp
          constructor
          · rfl
          · rfl
        refine hK.out _ _ ?_
        clear hK K
        refine nm_ 47 ?_
        refine pn_ 10 48 (B_ 11 2047) rfl rfl ?_
        refine done_ (by kernel_rfl) ?_
        go_wp2_with fail
        clear hjs hjn hw1k
        go_roundw
        case rel => exact ⟨j + 1, K, by omega, by go_num, hK2, hVq, hRq, hbq⟩
        case measure => simp [intOf]; omega
    · obtain rfl : j = 3 := by omega
      obtain rfl : K = 1 + op := by have h := hK.out; rw [if_pos (by omega)] at h; omega
      have q4 : decide (((3 : Nat) : Int) + 1 ≤ 3) = false := by decide
      clear hK hleq hj3
      have hop0 := hop0.out
      have q5 : decide (1 + op > 0) = true := decide_eq_true (by omega)
      have hF2 := hF.out
      rw [if_pos hop0] at hF2
      obtain ⟨lo, hlo⟩ : ∃ lo, loopO (oneF m s) s (s.size + 1) (k1 + 1) [] = lo := ⟨_, rfl⟩
      rw [hlo] at hF2
      replace hF2 := Aside0.mk hF2
      have hlo := Aside0.mk hlo
      obtain ⟨K0, hK0⟩ : ∃ K0, 1 + op = K0 := ⟨_, rfl⟩
      rw [hK0] at hV hF2 q5
      have hwk1 : wrap64 ((k1 : Int) + 1) = ((k1 + 1 : Nat) : Int) := by rw [hw1kA.out]; omega
      obtain ⟨b0, _, _, _⟩ := hV.out.cells
      clear hK0 hw1kA
      go_upto_if 53 with fail
      go_cut [1] from 9 (fun s1 wx => ∃ (kk : Nat) (K : Int) (acc : List Ft) (A : Option Addr) (c L : Nat) (NN VV : ByteArray), kk ≤ s.size ∧ s1 = .int .i64 (kk : Int) ∧ Aside0 (acc.length = L) ∧ Aside0 (acc.length ≤ c) ∧ Aside0 (kF.F wx (fun q => V < q) A acc.length acc) ∧ Aside0 (FBox wx V 25 (.int .i64 K) (.slice A L c) (.string NN) (.string VV)) ∧ Aside0 (FBox wx R 25 (.int .i64 0) (.slice none 0 0) (.string ⟨#[]⟩) (.string ⟨#[]⟩)) ∧ Aside0 (Below w.heap.size w wx) ∧ Aside0 (res = endO s (⟨K, acc, NN, VV⟩, kk)) ∧ Aside0 (NN.size ≤ 12000))
      case rest =>
        clear b0 q5 hwk1 hV hR hb hF2 hlo q2 q3 q1 i0 i1 hF hone ih
        obtain ⟨kk, K, acc, A, c, L, NN, VV, hkk, rfl, hLEN, hcap, hFr, hV, hR, hb, hfin, hsz⟩ := hcut
        by_cases hlt : kk < s.size
        · skip
          have g1 : decide ((kk : Int) ≥ (s.size : Int)) = false := decide_eq_false (by omega)
          have i0 : (0 : Int) ≤ (kk : Int) := by omega
          have i1 : (kk : Int) < (s.size : Int) := by omega
          have hbt := fun h : kk < s.size => bt_nat h
          by_cases h41 : bt s (kk : Int) = 41
          · have g2 : (bt s (kk : Int) != 41) = false := by simp [h41]
            have g3A := Aside0.mk (show wrap64 ((kk : Int) + 1) = (kk : Int) + 1 by unfold wrap64; omega)
            obtain ⟨b0, b1, b2, b3⟩ := hV.out.cells
            have hal := ralone_calls ⟨K, acc, NN, VV⟩ A c wc hsz.out hcap.out (Kd.F_now hFr.out)
            unfold fv at hal
            dsimp only [List.length_nil] at hal
            rw [hLEN.out] at hal
            cases hao : aloneOk ⟨K, acc, NN, VV⟩ with
            | false =>
              rw [hao] at hal
              have hres : Aside0 (res = none) := ⟨by rw [hfin.out]; unfold endO; rw [if_neg (by rintro ⟨_, _, h⟩; rw [hao] at h; cases h)]⟩
              replace hal := Aside0.mk hal
              clear hao h41
              skip
              go_wp2_with fail
              skip
              refine hal.out.mono ?_
              rintro e wa ⟨rfl, hba⟩
              have hRa := Aside0.mk (hR.out.below hba)
              have hbb := Aside0.mk (below_then hb.out hb.out.size hba)
              clear hal hba
              obtain ⟨c0, c1, c2, c3⟩ := hRa.out.cells
              obtain ⟨f0, f1, f2, f3⟩ := hRa.out.free
              obtain ⟨wz, hwz, hRz, hmz⟩ := put4 hRa.out (.int .i64 0) (.slice none 0 0) (.string ⟨#[]⟩) (.string ⟨#[]⟩)
              obtain ⟨r0, r1, r2, r3⟩ := hRz.cells
              have hbz := Aside0.mk (mod_below hmz hbb.out hRle.out)
              clear hmz hRz
              go_wp2_with fail
              refine bodyPost_ret (v := .tuple #[noF, .int .i64 (-1)]) (by simp [results, Try.results44, go_sem, r0, r1, r2, r3]) rfl ?_
              exact ⟨by rw [hres.out], hbz.out⟩
            | true =>
              rw [hao] at hal
              have hres : Aside0 (res = some (⟨K, acc, NN, VV⟩, kk + 1)) := ⟨by rw [hfin.out]; unfold endO; rw [if_pos ⟨hlt, h41, hao⟩]⟩
              replace hal := Aside0.mk hal
              clear hao h41
              skip
              go_wp2_with fail
              skip
              refine hal.out.mono ?_
              rintro e wa ⟨rfl, hba⟩
              have hRa := hR.out.below hba
              have hVa := hV.out.below hba
              have hFa := Kd.F_below hFr.out hba
              have hbb := Aside0.mk (below_then hb.out hb.out.size hba)
              obtain ⟨d0, d1, d2, d3⟩ := hVa.cells
              obtain ⟨f0, f1, f2, f3⟩ := hRa.free
              obtain ⟨c0, c1, c2, c3⟩ := hRa.cells
              obtain ⟨wz, hwz, hRz, hmz⟩ := put4 hRa (.int .i64 K) (.slice A L c) (.string NN) (.string VV)
              obtain ⟨r0, r1, r2, r3⟩ := hRz.cells
              have hbz := Aside0.mk (mod_below hmz hbb.out hRle.out)
              have hFz := Aside0.mk (F_mod hFa hmz (fun j hj e => by have e : j = R := e; have hj : V < j := hj; have := hRV.out; omega))
              clear hal hba hmz hRz hRa hVa hFa b0 b1 b2 b3
              have g3 := g3A.out
              go_wp2_with fail
              clear g3
              refine bodyPost_ret (v := .tuple #[.agg #[.int .i64 K, .slice A L c, .string NN, .string VV], .int .i64 ((kk : Int) + 1)]) (by simp [results, Try.results44, go_sem, r0, r1, r2, r3]) rfl ?_
              refine ⟨?_, hbz.out⟩
              rw [hres.out]
              exact ⟨A, c, (by unfold fv; dsimp only; rw [hLEN.out]; rfl), hcap.out, Kd.F_mono hFz.out (fun q hq => by have hq : V < q := hq; have := hVle.out; show w.heap.size ≤ q; omega)⟩
          · have g2 : (bt s (kk : Int) != 41) = true := by simp [h41]
            have hres : Aside0 (res = none) := ⟨by rw [hfin.out]; unfold endO; rw [if_neg (by rintro ⟨_, h, _⟩; exact h41 h)]⟩
            clear h41
            skip
            obtain ⟨c0, c1, c2, c3⟩ := hR.out.cells
            obtain ⟨f0, f1, f2, f3⟩ := hR.out.free
            obtain ⟨wz, hwz, hRz, hmz⟩ := put4 hR.out (.int .i64 0) (.slice none 0 0) (.string ⟨#[]⟩) (.string ⟨#[]⟩)
            obtain ⟨r0, r1, r2, r3⟩ := hRz.cells
            have hbz := Aside0.mk (mod_below hmz hb.out hRle.out)
            clear hmz hRz
            go_wp2_with fail
            refine bodyPost_ret (v := .tuple #[noF, .int .i64 (-1)]) (by simp [results, Try.results44, go_sem, r0, r1, r2, r3]) rfl ?_
            exact ⟨by rw [hres.out], hbz.out⟩
        · skip
          have g1 : decide ((kk : Int) ≥ (s.size : Int)) = true := decide_eq_true (by omega)
          have hres : Aside0 (res = none) := ⟨by rw [hfin.out]; unfold endO; rw [if_neg (by rintro ⟨h, _⟩; exact hlt h)]⟩
          skip
          obtain ⟨c0, c1, c2, c3⟩ := hR.out.cells
          obtain ⟨f0, f1, f2, f3⟩ := hR.out.free
          obtain ⟨wz, hwz, hRz, hmz⟩ := put4 hR.out (.int .i64 0) (.slice none 0 0) (.string ⟨#[]⟩) (.string ⟨#[]⟩)
          obtain ⟨r0, r1, r2, r3⟩ := hRz.cells
          have hbz := Aside0.mk (mod_below hmz hb.out hRle.out)
          clear hmz hRz
          go_wp2_with fail
          refine bodyPost_ret (v := .tuple #[noF, .int .i64 (-1)]) (by simp [results, Try.results44, go_sem, r0, r1, r2, r3]) rfl ?_
          exact ⟨by rw [hres.out], hbz.out⟩
      go_wp2_with fail
      clear b0 q5 hwk1
      have qk : decide (s.size ≤ k1) = false := decide_eq_false (by omega)
      have q34 : (((3 : Nat) : Int) + 1) = 4 := rfl
      simp only [qk, q34]
      clear qk q34
      go_loopw [1, 10, 11] (fun s1 s10 s11 wr => ∃ (j k2 : Nat) (acc : List Ft) (iv : Value), k2 ≤ s.size ∧ s1 = .int .i64 (k2 : Int) ∧ Aside0 (s.size < j + k2) ∧ Aside0 (acc.length ≤ 201) ∧ Aside0 (loopO (oneF m s) s j k2 acc = lo) ∧ Aside0 (FBox wr V 25 (.int .i64 K0) iv (.string ⟨#[]⟩) (.string ⟨#[]⟩)) ∧ Aside0 (FBox wr R 25 (.int .i64 0) (.slice none 0 0) (.string ⟨#[]⟩) (.string ⟨#[]⟩)) ∧ Aside0 (Kd.N kF 25 wr 0 (fun q => V < q) iv acc) ∧ Aside0 (Below w.heap.size w wr) ∧ Aside0 (s10 = s10 ∧ s11 = s11)) (fun s1 _ _ _ => s.size - (intOf s1).toNat)
      case atStart => exact ⟨s.size + 1, k1 + 1, [], _, by omega, rfl, ⟨by omega⟩, ⟨Nat.zero_le _⟩, hlo, hV, hR, ⟨Kd.N_nil _ _ _ _ _⟩, hb, ⟨⟨rfl, rfl⟩⟩⟩
      case round =>
        clear hV hR hb hlo
        obtain ⟨j, k2, acc, iv, hk2, rfl, hj, hac, hlo, hV, hR, hN, hb, _⟩ := hrel
        obtain ⟨A9, c9, e⟩ := Kd.N_slice hN.out
        subst e
        obtain ⟨L9, hLe⟩ : ∃ L9, acc.length = L9 := ⟨_, rfl⟩
        have hcap := (Kd.N_reads' hN.out).2.1
        have hNF := Kd.N_F hN.out
        have hcap := Aside0.mk hcap
        have hNF := Aside0.mk hNF
        rw [hLe] at hV hN hac
        have hLEN := Aside0.mk hLe
        clear hLe
        obtain ⟨j', hj'⟩ : ∃ j', j = j' + 1 := ⟨j - 1, by have := hj.out; omega⟩
        subst hj'
        have hlo1 := hlo.out
        rw [loopO] at hlo1
        by_cases hin : k2 < s.size ∧ bt s (k2 : Int) = 40
        · rw [if_pos hin] at hlo1
          replace hlo1 := Aside0.mk hlo1
          have g1 : decide ((k2 : Int) < (s.size : Int)) = true := decide_eq_true (by omega)
          have g2 : (bt s (k2 : Int) == 40) = true := by simp [hin.2]
          have i0 : (0 : Int) ≤ (k2 : Int) := by omega
          have i1 : (k2 : Int) < (s.size : Int) := by omega
          have hbt := fun h : k2 < s.size => bt_nat h
          have hcl := ih.out (d + 1) (by have := hd.out; omega) k2 wr hk2
          rw [show ((d + 1 : Nat) : Int) = (d : Int) + 1 from rfl] at hcl
          replace hcl := Aside0.mk hcl
          have hwd := hwdA.out
          replace hin := Aside0.mk hin
          go_wp2_with fail
          clear hwd
          refine hcl.out.mono ?_
          rintro e w5 ⟨he, hb5⟩
          have hV5 := hV.out.below hb5
          have hR5 := hR.out.below hb5
          have hNlt := Aside0.mk (Kd.N_lt hN.out)
          have hN5 := Kd.N_bound (Kd.N_below hN.out hb5)
          have hbb5 := below_then hb.out hb.out.size hb5
          have hXn := fbox_new w5 25 (.int .i64 0) (.slice none 0 0) (.string ⟨#[]⟩) (.string ⟨#[]⟩)
          have hbn := below_alloc (Below.refl w5.heap.size w5) (.cells #[.int .i64 0, .slice none 0 0, .string ⟨#[]⟩, .string ⟨#[]⟩] 25)
          obtain ⟨w6, hw6⟩ : ∃ w6, w5.alloc (.cells #[.int .i64 0, .slice none 0 0, .string ⟨#[]⟩, .string ⟨#[]⟩] 25) = w6 := ⟨_, rfl⟩
          obtain ⟨X, hXe⟩ : ∃ X, w5.heap.size = X := ⟨_, rfl⟩
          rw [hw6] at hXn hbn
          rw [hXe] at hXn
          have hXV := Aside0.mk (show V < X by have := hV5.lt; omega)
          have hVr := Aside0.mk (show V < wr.heap.size from hV.out.lt)
          have hXR := Aside0.mk (show w.heap.size ≤ X by have := hVle.out; have := hXV.out; omega)
          obtain ⟨e0, e1, e2, e3⟩ := hXn.free
          obtain ⟨d0, d1, d2, d3⟩ := hXn.cells
          have hV6 := hV5.below hbn
          have hR6 := hR5.below hbn
          have hN6 := Kd.N_below hN5 hbn
          have hbb6 := below_then hbb5 hbb5.size hbn
          have hz6 := hbn.size
          clear hV hR hN hb hcl g1 g2 i0 i1 hbt hNF hV5 hR5 hN5 hbb5 hbn
          cases hvq : oneF m s k2 with
          | none =>
            rw [hvq] at he
            have he : e = .returned (.tuple #[noF, .int .i64 (-1)]) := he
            subst he
            have hres : Aside0 (res = none) := ⟨by rw [hF2.out, ← hlo1.out, hvq]; rfl⟩
            obtain ⟨w7, hw7, hX7, hm7⟩ := put4 hXn (.int .i64 0) (.slice none 0 0) (.string ⟨#[]⟩) (.string ⟨#[]⟩)
            have hR7 := Aside0.mk (hR6.mod hm7 (show ¬ R = X by have := hRV.out; have := hXV.out; omega))
            have hb7 := Aside0.mk (mod_below hm7 hbb6 hXR.out)
            clear hX7 hm7 hXn hV6 hR6 hN6 hbb6 hvq hlo1
            have g5 : decide ((-1 : Int) < 0) = true := by decide
            unfold noF
            obtain ⟨c0, c1, c2, c3⟩ := hR7.out.cells
            obtain ⟨f0, f1, f2, f3⟩ := hR7.out.free
            obtain ⟨wz, hwz, hRz, hmz⟩ := put4 hR7.out (.int .i64 0) (.slice none 0 0) (.string ⟨#[]⟩) (.string ⟨#[]⟩)
            obtain ⟨r0, r1, r2, r3⟩ := hRz.cells
            have hbz := Aside0.mk (mod_below hmz hb7.out hRle.out)
            clear hmz hRz
            go_wp2_with fail
            refine bodyPost_ret (v := .tuple #[noF, .int .i64 (-1)]) (by simp [results, Try.results44, go_sem, r0, r1, r2, r3]) rfl ?_
            exact ⟨by rw [hres.out], hbz.out⟩
          | some r =>
            obtain ⟨x6, k6⟩ := r
            rw [hvq] at he
            obtain ⟨A6, c6, rfl, hc6, hF6⟩ := he
            obtain ⟨hk6, hk6s⟩ := hone.out m k2 (x6, k6) hvq
            have hwp := wF_pos x6
            have hlo2 : (if 200 < acc.length then none else loopO (oneF m s) s j' k6 (acc ++ [x6])) = lo := by rw [← hlo1.out, hvq]; rfl
            replace hlo2 := Aside0.mk hlo2
            obtain ⟨w7, hw7, hX7, hm7⟩ := put4 hXn (.int .i64 x6.f0) (.slice A6 x6.f1.length c6) (.string x6.f2) (.string x6.f3)
            have hR7 := Aside0.mk (hR6.mod hm7 (show ¬ R = X by have := hRV.out; have := hXV.out; omega))
            have hV7 := Aside0.mk (hV6.mod hm7 (show ¬ V = X by have := hXV.out; omega))
            have hb7 := Aside0.mk (mod_below hm7 hbb6 hXR.out)
            have hN7 := Aside0.mk (Kd.N_mono (Kd.N_step hN6 (fun q hq hlt => hm7.block q hlt (fun e => by have e : q = X := e; have := hq.2; omega))) (ok' := fun q => V < q) (fun q hq => hq.1))
            have hF7 := Aside0.mk (F_mod (Kd.F_below (Kd.F_bound hF6) (by rw [← hw6]; exact below_alloc (Below.refl _ _) _)) hm7 (fun q hq e => by have e : q = X := e; have := hq.2; omega))
            have g5 : decide ((k6 : Int) < 0) = false := decide_eq_false (by omega)
            obtain ⟨_, b1, _, _⟩ := hV7.out.cells
            clear hXn hV6 hR6 hN6 hbb6 hvq hlo1 hF6
            unfold fv
            by_cases h200 : 200 < acc.length
            · have g6 : decide ((L9 : Int) > 200) = true := decide_eq_true (by have := hLEN.out; omega)
              have hres : Aside0 (res = none) := ⟨by rw [hF2.out, ← hlo2.out, if_pos h200]; rfl⟩
              clear hlo2 h200
              obtain ⟨c0, c1, c2, c3⟩ := hR7.out.cells
              obtain ⟨f0, f1, f2, f3⟩ := hR7.out.free
              obtain ⟨wz, hwz, hRz, hmz⟩ := put4 hR7.out (.int .i64 0) (.slice none 0 0) (.string ⟨#[]⟩) (.string ⟨#[]⟩)
              obtain ⟨r0, r1, r2, r3⟩ := hRz.cells
              have hbz := Aside0.mk (mod_below hmz hb7.out hRle.out)
              clear hmz hRz
              go_wp2_with fail
              refine bodyPost_ret (v := .tuple #[noF, .int .i64 (-1)]) (by simp [results, Try.results44, go_sem, r0, r1, r2, r3]) rfl ?_
              exact ⟨by rw [hres.out], hbz.out⟩
            · have g6 : decide ((L9 : Int) > 200) = false := decide_eq_false (by have := hLEN.out; omega)
              rw [if_neg h200] at hlo2
              obtain ⟨x0, x1, x2, x3⟩ := hX7.cells
              obtain ⟨_, a1, _, _⟩ := hV7.out.free
              have hac2 : Aside0 ((acc ++ [x6]).length ≤ 201) := ⟨by simp; omega⟩
              have hlen : (acc.length + 1) * 64 ≤ 140737488355328 := by omega
              have hz7 := Aside0.mk (show w.heap.size ≤ w7.heap.size from hb7.out.size)
              have hXz := Aside0.mk hX7.lt
              have hok := Aside0.mk (fun (q : Nat) (hq : wr.heap.size ≤ q ∧ q < w5.heap.size) => (show V < q ∧ some q ≠ (Value.slice A9 L9 c9).ownBlock from ⟨by have := hVr.out; omega, fun e => by have := hNlt.out q e.symm; omega⟩))
              have hfr := Aside0.mk (fun (q : Nat) (hq : w7.heap.size ≤ q) => (show V < q by have := hXz.out; have := hXV.out; omega))
              clear hX7 hm7 h200
              go_wp2_with (first | ((with_reducible refine gate_builtin (b := .append) (xs := #[.tmp 84, .tmp 86]) rfl ?_); at_builtin; (refine NF_append_last (w0 := w7) (W := w7) rfl (.tmp 84) (.tmp 86) rfl 0 (.slice A9 L9 c9) acc x6 [.int .i64 x6.f0, .slice A6 x6.f1.length c6, .string x6.f2, .string x6.f3] (fun q => V < q) _ rfl rfl (FK_of hc6 hF7.out) hok.out hfr.out hN7.out (Below.refl _ _) (Nat.zero_le _) hlen ?_); intro v1 w8 hN8 _ hg8; have hm8 := Aside0.mk (Mod.of_grown (S := fun q => V < q) hg8 (fun j hj => .inl (hN7.out.1 j hj))); have hV8 := Aside0.mk (hV7.out.mod hm8.out (Nat.lt_irrefl V)); obtain ⟨A5, c5, ev⟩ := Kd.N_slice hN8; subst ev; obtain ⟨N9, hN9e⟩ : ∃ N9, (acc ++ [x6]).length = N9 := ⟨_, rfl⟩; rw [hN9e] at hN8; rw [hN9e]; replace hN9e := Aside0.mk hN9e; obtain ⟨_, q10, _, _⟩ := hV8.out.cells; obtain ⟨_, q11, _, _⟩ := hV8.out.free; replace hN8 := Aside0.mk hN8; clear hg8))
              have hV9 := Aside0.mk (hV8.out.set1 (.slice A5 N9 c5))
              have hm9 := set_mod w8 V 1 (.slice A5 N9 c5)
              obtain ⟨w9, hw9⟩ : ∃ wn, w8.setCell ⟨V, 1, none⟩ (.slice A5 N9 c5) = wn := ⟨_, rfl⟩
              rw [hw9] at hV9 hm9 ⊢
              have hR9 := Aside0.mk ((hR7.out.mod hm8.out (show ¬ V < R by have := hRV.out; omega)).mod hm9 (show ¬ R = V by have := hRV.out; omega))
              have hN9 := Aside0.mk (Kd.N_step hN8.out (fun j hj hlt => hm9.block j hlt (fun e => by have e : j = V := e; have hj : V < j := hj; omega)))
              have hb9 := Aside0.mk (Mod.below (S := fun q => V ≤ q) (((Mod.of_below (S := fun q => V ≤ q) hb7.out).trans hm8.out (fun q hq => .inl (Nat.le_of_lt hq))).trans hm9 (fun q hq => .inl (by have hz : q = V := hq; show V ≤ q; omega))) (fun q hq => Nat.le_trans hVle.out hq) (Nat.le_refl _))
              have hms' : s.size - k6 < s.size - k2 := by omega
              have hj2 : Aside0 (s.size < j' + k6) := ⟨by have := hj.out; omega⟩
              go_roundw
              case rel => exact ⟨j', k6, acc ++ [x6], _, hk6s, rfl, hj2, hac2, hlo2, hV9, hR9, hN9, hb9, (by first | exact ⟨⟨rfl, rfl⟩⟩ | exact ⟨trivial⟩ | exact ⟨⟨trivial, trivial⟩⟩)⟩
              case measure => simpa [intOf] using hms'
        · rw [if_neg hin] at hlo1
          have hfin : Aside0 (res = endO s (⟨K0, acc, ⟨#[]⟩, ⟨#[]⟩⟩, k2)) := ⟨by rw [hF2.out, ← hlo1]; rfl⟩
          have hsz : Aside0 ((⟨#[]⟩ : ByteArray).size ≤ 12000) := ⟨by decide⟩
          have hFr := hNF
          clear hlo1 hN
          by_cases hlt : k2 < s.size
          · have gx : (bt s (k2 : Int) == 40) = false := by simpa using fun h => hin ⟨hlt, h⟩
            have g0 : decide ((k2 : Int) < (s.size : Int)) = true := decide_eq_true (by omega)
            have i0 : (0 : Int) ≤ (k2 : Int) := by omega
            have i1 : (k2 : Int) < (s.size : Int) := by omega
            have hbt := fun h : k2 < s.size => bt_nat h
            clear hin
            go_wp2_with fail
            go_meet
            case rel => exact ⟨k2, K0, acc, A9, c9, L9, ⟨#[]⟩, ⟨#[]⟩, hk2, rfl, hLEN, hcap, hFr, hV, hR, hb, hfin, hsz⟩
          · have g0 : decide ((k2 : Int) < (s.size : Int)) = false := decide_eq_false (by omega)
            clear hin
            go_wp2_with fail
            go_meet
            case rel => exact ⟨k2, K0, acc, A9, c9, L9, ⟨#[]⟩, ⟨#[]⟩, hk2, rfl, hLEN, hcap, hFr, hV, hR, hb, hfin, hsz⟩

set_option maxRecDepth 20000 in
set_option maxHeartbeats 16000000 in
theorem one_calls (s : ByteArray) (hs : s.size ≤ 12000) (m : Nat) : ∀ (d : Nat), d + m = 17 → ∀ (k : Nat) (w : World), k ≤ s.size →
    Calls Try.prog 44 #[.string s, .int .i64 (k : Int), .int .i64 (d : Int)] w (OneEnds (oneF m s k) w) := by
  induction m with
  | zero =>
    intro d hd k w hk
    obtain rfl : d = 17 := by omega
    obtain ⟨R, hRw⟩ : ∃ R, w.heap.size = R := ⟨_, rfl⟩
    have hR1 := fbox_new w 25 (.int .i64 0) (.slice none 0 0) (.string ⟨#[]⟩) (.string ⟨#[]⟩)
    have hb1 := below_alloc (Below.refl w.heap.size w) (.cells #[.int .i64 0, .slice none 0 0, .string ⟨#[]⟩, .string ⟨#[]⟩] 25)
    obtain ⟨w1, hw1⟩ : ∃ w1, w.alloc (.cells #[.int .i64 0, .slice none 0 0, .string ⟨#[]⟩, .string ⟨#[]⟩] 25) = w1 := ⟨_, rfl⟩
    rw [hw1] at hR1 hb1
    rw [hRw] at hR1
    have hRle := Aside0.mk (show w.heap.size ≤ R by omega)
    replace hR1 := Aside0.mk hR1
    replace hb1 := Aside0.mk hb1
    have hres : Aside0 (oneF 0 s k = none) := ⟨by rw [oneF]⟩
    go_enter Try.func44, Try.ntmps44
    obtain ⟨c0, c1, c2, c3⟩ := hR1.out.cells
    obtain ⟨f0, f1, f2, f3⟩ := hR1.out.free
    obtain ⟨wz, hwz, hRz, hmz⟩ := put4 hR1.out (.int .i64 0) (.slice none 0 0) (.string ⟨#[]⟩) (.string ⟨#[]⟩)
    obtain ⟨r0, r1, r2, r3⟩ := hRz.cells
    have hbz := Aside0.mk (mod_below hmz hb1.out hRle.out)
    clear hmz hRz
    go_wp2_with fail
    refine bodyPost_ret (v := .tuple #[noF, .int .i64 (-1)]) (by simp [results, Try.results44, go_sem, r0, r1, r2, r3]) rfl ?_
    exact ⟨by rw [hres.out], hbz.out⟩
  | succ m ih =>
    intro d hd k w hk
    by_cases hc : k + 1 < s.size ∧ bt s (k : Int) = 40
    · by_cases hop : 0 ≤ opN (bt s ((k + 1 : Nat) : Int))
      · exact one_of s hs m d hd k w hc.1 hc.2 hop ih
      · exact one_plain s hs m d hd k w hc.1 hc.2 (by omega)
    · have hres : Aside0 (oneF (m + 1) s k = none) := ⟨by rw [oneF, if_neg hc]⟩
      have q1 : decide ((d : Int) > 16) = false := decide_eq_false (by omega)
      have hwk : wrap64 ((k : Int) + 1) = (k : Int) + 1 := by unfold wrap64; omega
      clear ih
      obtain ⟨R, hRw⟩ : ∃ R, w.heap.size = R := ⟨_, rfl⟩
      have hR1 := fbox_new w 25 (.int .i64 0) (.slice none 0 0) (.string ⟨#[]⟩) (.string ⟨#[]⟩)
      have hb1 := below_alloc (Below.refl w.heap.size w) (.cells #[.int .i64 0, .slice none 0 0, .string ⟨#[]⟩, .string ⟨#[]⟩] 25)
      obtain ⟨w1, hw1⟩ : ∃ w1, w.alloc (.cells #[.int .i64 0, .slice none 0 0, .string ⟨#[]⟩, .string ⟨#[]⟩] 25) = w1 := ⟨_, rfl⟩
      rw [hw1] at hR1 hb1
      rw [hRw] at hR1
      have hRle := Aside0.mk (show w.heap.size ≤ R by omega)
      replace hR1 := Aside0.mk hR1
      replace hb1 := Aside0.mk hb1
      by_cases hk1 : k + 1 < s.size
      · have q2 : decide ((k : Int) + 1 ≥ (s.size : Int)) = false := decide_eq_false (by omega)
        have i0 : (0 : Int) ≤ (k : Int) := by omega
        have i1 : (k : Int) < (s.size : Int) := by omega
        have hbt := fun h : k < s.size => bt_nat h
        have q3 : (bt s (k : Int) != 40) = true := by simpa using fun h => hc ⟨hk1, h⟩
        clear hc
        go_enter Try.func44, Try.ntmps44
        obtain ⟨c0, c1, c2, c3⟩ := hR1.out.cells
        obtain ⟨f0, f1, f2, f3⟩ := hR1.out.free
        obtain ⟨wz, hwz, hRz, hmz⟩ := put4 hR1.out (.int .i64 0) (.slice none 0 0) (.string ⟨#[]⟩) (.string ⟨#[]⟩)
        obtain ⟨r0, r1, r2, r3⟩ := hRz.cells
        have hbz := Aside0.mk (mod_below hmz hb1.out hRle.out)
        clear hmz hRz
        go_wp2_with fail
        refine bodyPost_ret (v := .tuple #[noF, .int .i64 (-1)]) (by simp [results, Try.results44, go_sem, r0, r1, r2, r3]) rfl ?_
        exact ⟨by rw [hres.out], hbz.out⟩
      · have q2 : decide ((k : Int) + 1 ≥ (s.size : Int)) = true := decide_eq_true (by omega)
        clear hc
        go_enter Try.func44, Try.ntmps44
        obtain ⟨c0, c1, c2, c3⟩ := hR1.out.cells
        obtain ⟨f0, f1, f2, f3⟩ := hR1.out.free
        obtain ⟨wz, hwz, hRz, hmz⟩ := put4 hR1.out (.int .i64 0) (.slice none 0 0) (.string ⟨#[]⟩) (.string ⟨#[]⟩)
        obtain ⟨r0, r1, r2, r3⟩ := hRz.cells
        have hbz := Aside0.mk (mod_below hmz hb1.out hRle.out)
        clear hmz hRz
        go_wp2_with fail
        refine bodyPost_ret (v := .tuple #[noF, .int .i64 (-1)]) (by simp [results, Try.results44, go_sem, r0, r1, r2, r3]) rfl ?_
        exact ⟨by rw [hres.out], hbz.out⟩
end Go.Proofs.Ytgnmkblaockghaa
