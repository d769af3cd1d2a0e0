/- The reference's Bytes. -/
import Derived.Test.YtlmelbnmfhpacaaBl
set_option linter.unusedVariables false
set_option linter.unusedSimpArgs false
namespace Go.Proofs.Ytlmelbnmfhpacaa
open Go.RowKit Go.Shelf Go.Proofs.YtlmelbnmfhpacaaW.PrintWords Go.Proofs.YtlmelbnmfhpacaaW.PrintMore Go.Proofs.YtlmelbnmfhpacaaW.PrintLast

/-- A row of one byte that a call made. -/
theorem R_one {w : World} {g : Nat} {x : Int} {ok : Nat → Prop} (hg : w.heap[g]? = some (.cells #[.int .u8 x] 5 (0, 0))) (hok : ok g) : kU.R 5 w 0 ok (.slice (some ⟨g, 0, none⟩) 1 1) [x] :=
  ⟨fun k hk => by simp [Value.ownBlock] at hk; rw [← hk]; exact hok, [.int .u8 x], ⟨rfl, .inr ⟨g, 1, #[.int .u8 x], rfl, Nat.zero_le _, hg, Nat.le_refl _, by unfold maxLen; omega, rfl, rfl⟩⟩, ⟨rfl, fun j p hj => by
    have hj' := (List.getElem?_eq_some_iff.1 hj).1
    obtain rfl : j = 0 := by simp at hj'; omega
    obtain rfl : x = p := by simpa using hj
    rfl⟩⟩
open PBerEncodes in
theorem many_ours (n : Nat) (h : n < 16777216) : ∃ K, cardcaseref05_many.f K (n : Int) = some (((lenL n).length : Nat) : Int) := by
  have hq : ∀ (m : Nat), Int.tdiv (m : Int) 256 = ((m / 256 : Nat) : Int) := fun m => by
    rw [Int.tdiv_eq_ediv_of_nonneg (by omega)]; rfl
  have hs : ∀ (K m : Nat) (r : Int), 0 < m → m < 16777216 → 0 ≤ r → r ≤ 100 → cardcaseref05_many.l0 (K + 1) (m : Int) r = cardcaseref05_many.l0 K ((m / 256 : Nat) : Int) (r + 1) := fun K m r h0 h1 h2 h3 => by
    rw [cardcaseref05_many.l0, if_pos (by omega), hq, wrap_in _ (by omega), wrap_in _ (by omega)]
  have hz : ∀ (K : Nat) (r : Int), cardcaseref05_many.l0 (K + 1) ((0 : Nat) : Int) r = some r := fun K r => by
    rw [cardcaseref05_many.l0, if_neg (by omega)]
  refine ⟨4, ?_⟩
  unfold cardcaseref05_many.f lenL
  by_cases c0 : n < 128
  · rw [if_pos (by omega), if_pos c0]; rfl
  · rw [if_neg (by omega), if_neg c0, hs 3 n 1 (by omega) h (by omega) (by omega)]
    by_cases c1 : n < 256
    · rw [if_pos c1, show n / 256 = 0 by omega, hz]; rfl
    · rw [if_neg c1, hs 2 (n / 256) (1 + 1) (by omega) (by omega) (by omega) (by omega)]
      by_cases c2 : n < 65536
      · rw [if_pos c2, show n / 256 / 256 = 0 by omega, hz]; rfl
      · rw [if_neg c2, hs 1 (n / 256 / 256) (1 + 1 + 1) (by omega) (by omega) (by omega) (by omega), show n / 256 / 256 / 256 = 0 by omega, hz]; rfl
/-- The highest t of k digits. -/
def hiB (n : Int) (k t : Nat) : List Int := (List.range t).map fun u => sh (k - 1 - u) n % 256
theorem hiB_next (n : Int) (k t : Nat) : hiB n k (t + 1) = hiB n k t ++ [sh (k - 1 - t) n % 256] := by
  unfold hiB
  rw [List.range_succ, List.map_append]
  rfl
theorem hiB_length (n : Int) (k t : Nat) : (hiB n k t).length = t := by unfold hiB; simp
theorem lenL_hi (n : Nat) (h0 : 128 ≤ n) (h : n < 16777216) : ∃ k, k ≤ 3 ∧ 1 ≤ k ∧ (lenL n).length = k + 1 ∧ lenL n = (128 + (k : Int)) :: hiB (n : Int) k k := by
  unfold lenL
  rw [if_neg (by omega)]
  by_cases c1 : n < 256
  · rw [if_pos c1]
    refine ⟨1, by omega, by omega, rfl, ?_⟩
    simp [hiB, List.range_succ, sh]
    omega
  · rw [if_neg c1]
    by_cases c2 : n < 65536
    · rw [if_pos c2]
      refine ⟨2, by omega, by omega, rfl, ?_⟩
      simp [hiB, List.range_succ, sh]
      omega
    · rw [if_neg c2]
      refine ⟨3, by omega, by omega, rfl, ?_⟩
      simp [hiB, List.range_succ, sh]
      omega
theorem sh_nat (n : Nat) (h : n < 16777216) : ∀ j, 0 ≤ sh j (n : Int) ∧ sh j (n : Int) < 16777216
  | 0 => by simp only [sh]; omega
  | j + 1 => by have := sh_nat n h j; rw [sh_succ]; omega
theorem R_rebase {w : World} {b : Nat} {ok : Nat → Prop} {v : Value} {xs : List Int} (h : kU.R 5 w 0 ok v xs) (hb : ∀ k, v.ownBlock = some k → b ≤ k) : kU.R 5 w b ok v xs :=
  Kd.R_raise (b := 0) (b' := b) (fun _ _ _ _ h => h) h hb
set_option maxHeartbeats 8000000 in
set_option maxRecDepth 20000 in
theorem rbytes_calls (x : T) : ∀ (A : Option Addr) (c : Nat) (B : Option Addr) (d : Nat) (w : World), Bv w x A c B d → argT x = true → byteT x → (layT x).length ≤ 1000000 →
    Calls Try.prog 17 #[bv x A c B d] w (Laid (layT x) w) := by
  refine treeInd (P := fun x => ∀ (A : Option Addr) (c : Nat) (B : Option Addr) (d : Nat) (w : World), Bv w x A c B d → argT x = true → byteT x → (layT x).length ≤ 1000000 → Calls Try.prog 17 #[bv x A c B d] w (Laid (layT x) w)) (fun x0 x1 x2 xb xs ih => ?_) x
  intro A c B d w hv ha hy hz
  have hy' : (0 ≤ x0 ∧ x0 < 256) ∧ (0 ≤ x1 ∧ x1 < 256) ∧ (∀ x ∈ xb, 0 ≤ x ∧ x < 256) ∧ byteL xs := hy
  obtain ⟨⟨y0, y1⟩, ⟨y2, y3⟩, y4, y5⟩ := hy'
  have ha' : ((decide (x0 ≤ 3) && decide (x1 ≤ 30) && (!x2 || xb.isEmpty) && (x2 || xs.isEmpty)) && argL xs) = true := ha
  simp only [Bool.and_eq_true, decide_eq_true_eq] at ha'
  obtain ⟨⟨⟨⟨a0, a1⟩, a2⟩, a3⟩, a4⟩ := ha'
  have hA1 := box_new w (.int .u8 x0) (.int .u8 x1) (.bool x2) (.slice A xb.length c) (.slice B xs.length d)
  have hb1 := below_alloc (Below.refl w.heap.size w) (.cells #[.int .u8 x0, .int .u8 x1, .bool x2, .slice A xb.length c, .slice B xs.length d] 26)
  obtain ⟨w1, hw1⟩ : ∃ w1, w.alloc (.cells #[.int .u8 x0, .int .u8 x1, .bool x2, .slice A xb.length c, .slice B xs.length d] 26) = w1 := ⟨_, rfl⟩
  rw [hw1] at hA1 hb1
  obtain ⟨p0, p1, p2, p3, p4⟩ := hA1.cells
  have hv1 := hv.below hb1
  replace hb1 := Aside0.mk hb1
  have hcb := Aside0.mk (show kU.C w1 A xb.length xb from hv1.cb)
  have hci := Aside0.mk (show kT.C w B xs.length xs from hv.ci)
  have hlb : xb.length ≤ c := hv.lb
  replace ih := Aside0.mk ih
  have hlay0 : layT ⟨x0, x1, x2, xb, xs⟩ = (64 * x0 + x1 + (if x2 then 32 else 0)) :: (lenL (if x2 then layL xs else xb).length ++ (if x2 then layL xs else xb)) := rfl
  obtain ⟨LAY, hLAY⟩ : ∃ LAY, layT ⟨x0, x1, x2, xb, xs⟩ = LAY := ⟨_, rfl⟩
  rw [hLAY] at hlay0 hz ⊢
  clear hLAY hA1 hv hv1 ha hy
  unfold bv
  dsimp only
  cases x2 with
  | false =>
    rw [if_neg (by simp), if_neg (by simp), Int.add_zero] at hlay0
    have hz1 : xb.length ≤ 1000000 := by rw [hlay0] at hz; simp at hz; omega
    obtain ⟨n, hn⟩ : ∃ n, xb.length = n := ⟨_, rfl⟩
    have hbF : Aside0 (kU.F w1 (fun q => q < w1.heap.size) A n xb) := ⟨hn ▸ kU_F hcb.out (fun ad e hp => by
      obtain ⟨ad2, e2, h⟩ := u8_at hcb.out 0 hp
      rw [e] at e2; injection e2 with e2; subst e2
      have := World.block_lt_of_cell? w1 _ h
      rwa [add_block] at this)⟩
    rw [hn] at hz1 hw1 p3 hlb hlay0 ⊢
    have hn9 := Aside0.mk hz1
    have hlay := Aside0.mk hlay0
    have hbw := hb1
    obtain ⟨tag, htag⟩ : ∃ tag, 64 * x0 + x1 = tag := ⟨_, rfl⟩
    have ht0 : 0 ≤ tag ∧ tag < 256 := by omega
    obtain ⟨ht0, ht1⟩ := ht0
    rw [htag] at hlay hlay0
    clear hcb hci ih y4 y5 a2 a3 a4 hz hlay0 hn hz1
    have hbt := below_alloc (Below.refl w1.heap.size w1) (.cells #[.int .u8 tag] 5)
    have hO := R_one (ok := fun q => w1.heap.size ≤ q) (heap_alloc_new w1 (.cells #[.int .u8 tag] 5)) (Nat.le_refl _)
    obtain ⟨Z, hZ⟩ : ∃ Z, w1.heap.size = Z := ⟨_, rfl⟩
    obtain ⟨wt, hwt⟩ : ∃ wt, w1.alloc (.cells #[.int .u8 tag] 5) = wt := ⟨_, rfl⟩
    have hFt := Kd.F_below hbF.out hbt
    rw [hwt] at hbt hO hFt
    rw [hZ] at hO hFt
    have hwt' := Aside0.mk (below_then hbw.out hbw.out.size hbt)
    have hO := Aside0.mk hO
    have hFt := Aside0.mk hFt
    have hZ9 := Aside0.mk hZ
    have hZt : Aside0 (Z ≤ wt.heap.size) := ⟨by have := hbt.size; omega⟩
    clear hbt hbF
    have i8 : tag % 256 = tag := by omega
    by_cases c128 : n < 128
    · have j1 : decide ((n : Int) < 128) = true := by simp; omega
      have j2 : (n : Int) % 256 = (n : Int) := by omega
      have hfin : Aside0 (LAY = tag :: (lenL n ++ xb)) := hlay
      have hl1 : lenL n = [(n : Int)] := by unfold lenL; rw [if_pos c128]
      rw [hl1] at hfin
      clear c128 hl1
      go_enter Try.func17, Try.ntmps17
      go_wp2_with (first | ((with_reducible refine gate_builtin (b := .append) (xs := #[.tmp 48, .tmp 51]) rfl ?_); at_builtin; refine Kd.R_append kU (w0 := wt) 0 rfl (.tmp 48) (.tmp 51) 23 5 (.int .u8 0) 1 rfl Try.underlying23 PBerEncodes.info5 rfl (by decide) (by omega) (.slice (some ⟨Z, 0, none⟩) 1 1) [tag] (n : Int) [.int .u8 (n : Int)] (fun q => Z ≤ q) (fun _ => False) rfl rfl rfl (fun _ h => h.elim) (fun q hq => Nat.le_trans hZt.out hq) hO.out (Below.refl _ _) (Nat.zero_le _) (by simp) ?_; intro v1 w5 ho _ hg _; have hm5 := Aside0.mk (Mod.of_grown (S := fun q => Z ≤ q) hg (fun q hq => .inl (hO.out.1 q hq))); have ho5 := Aside0.mk ho; clear ho hg) | ((with_reducible refine gate_builtin (b := .append) (xs := #[.tmp 82, .tmp 83]) rfl ?_); at_builtin; refine Kd.R_append_rows kU (w0 := w5) 0 rfl (.tmp 82) (.tmp 83) 23 5 (.int .u8 0) 1 rfl Try.underlying23 PBerEncodes.info5 rfl (by decide) (by omega) v1 ([tag] ++ [(n : Int)]) xb A n c (fun q => Z ≤ q) (fun _ => False) rfl rfl ho5.out (Kd.F_now (F_mod hFt.out hm5.out (fun q hq h => by omega))) (fun _ _ h => h) (fun _ h => h.elim) (fun q hq => by have := hm5.out.size; have := hZt.out; omega) (Below.refl _ _) (Nat.zero_le _) (by simp; have := hn9.out; omega) ?_; intro v2 w6 ho6 _ hg6 _; have hR6 := Aside0.mk ho6; have hm6 := Aside0.mk (hm5.out.trans (Mod.of_grown (S := fun q => Z ≤ q) hg6 (fun q hq => .inl (ho5.out.1 q hq))) (fun q hq => .inl hq)); clear ho6 hg6))
      go_ret
      obtain ⟨A9, c9, ev⟩ := Kd.R_slice hR6.out
      subst ev
      have hZw : w.heap.size ≤ Z := by have := hZ9.out; have := hbw.out.size; omega
      refine ⟨A9, c9, by rw [hfin.out]; rfl, ?_, ?_⟩
      · rw [hfin.out]; exact R_rebase (Kd.R_mono hR6.out (fun q hq => Nat.le_trans hZw hq)) (fun k hk => Nat.le_trans hZw (hR6.out.1 k hk))
      · exact Mod.below (S := fun q => Z ≤ q) ((Mod.of_below (S := fun q => Z ≤ q) hwt'.out).trans hm6.out (fun q hq => .inl hq)) (fun q hq => by omega) (Nat.le_refl _)
    · have j1 : decide ((n : Int) < 128) = false := by simp; omega
      obtain ⟨k, k3, k1, hkl, hkL⟩ := lenL_hi n (by omega) (by have := hn9.out; omega)
      obtain ⟨KM, hKM⟩ := many_ours n (by have := hn9.out; omega)
      rw [hkl] at hKM
      have hmc := Aside0.mk (fun W => PBerEncodes.cardcaseref05_many.calls KM (n : Int) _ W hKM)
      have hshn := Aside0.mk (sh_nat n (by have := hn9.out; omega))
      have hfin : Aside0 (LAY = tag :: (lenL n ++ xb)) := hlay
      rw [hkL] at hfin
      have j3 : wrap64 (((k + 1 : Nat) : Int) - 1) = (k : Int) := by rw [wrap_in _ (by omega)]; omega
      have j4 : ((k + 1 : Nat) : Int) - 1 = (k : Int) := by omega
      have j5 : (128 + (k : Int)) % 256 = 128 + (k : Int) := by omega
      clear c128 hKM hkl hkL
      go_enter Try.func17, Try.ntmps17
      go_wp2_with fail
      refine (hmc.out _).mono ?_
      rintro e w4 ⟨rfl, hd4⟩
      have hb4 := hd4.below
      have hO4 := Aside0.mk (Kd.R_below hO.out hb4)
      have hF4 := Aside0.mk (Kd.F_below hFt.out hb4)
      have hm4 := Aside0.mk (Mod.of_below (S := fun q => Z ≤ q) hb4)
      clear hd4 hb4
      go_wp2_with (first | ((with_reducible refine gate_builtin (b := .append) (xs := #[.tmp 56, .tmp 60]) rfl ?_); at_builtin; refine Kd.R_append kU (w0 := w4) 0 rfl (.tmp 56) (.tmp 60) 23 5 (.int .u8 0) 1 rfl Try.underlying23 PBerEncodes.info5 rfl (by decide) (by omega) (.slice (some ⟨Z, 0, none⟩) 1 1) [tag] (128 + (k : Int)) [.int .u8 (128 + (k : Int))] (fun q => Z ≤ q) (fun _ => False) rfl rfl rfl (fun _ h => h.elim) (fun q hq => by have := hm4.out.size; have := hZt.out; omega) hO4.out (Below.refl _ _) (Nat.zero_le _) (by simp) ?_; intro v1 w5 ho _ hg _; have hm5 := Aside0.mk (hm4.out.trans (Mod.of_grown (S := fun q => Z ≤ q) hg (fun q hq => .inl (hO4.out.1 q hq))) (fun q hq => .inl hq)); have ho5 := Aside0.mk ho; clear ho hg))
      have hO5 : Aside0 (kU.R 5 w5 0 (fun q => Z ≤ q) v1 (tag :: (128 + (k : Int)) :: hiB (n : Int) k 0)) := ⟨ho5.out⟩
      clear ho5 hO4
      go_loopw [6, 9, 10, 11] (fun s6 s9 s10 s11 wr => ∃ (t : Nat) (z : Int) (v m j : Value), Aside0 (t ≤ k) ∧ Aside0 (z = (k : Int) - 1 - t) ∧ s9 = .int .i64 z ∧ s6 = v ∧ s10 = m ∧ s11 = j ∧ Aside0 (kU.R 5 wr 0 (fun q => Z ≤ q) v (tag :: (128 + (k : Int)) :: hiB (n : Int) k t)) ∧ Aside0 (Mod (fun q => Z ≤ q) wt wr)) (fun _ s9 _ _ _ => (intOf s9 + 1).toNat)
      case atStart => exact ⟨0, _, v1, _, _, ⟨Nat.zero_le _⟩, ⟨by simp⟩, rfl, rfl, rfl, rfl, hO5, hm5⟩
      case round =>
        clear hO5 hm5
        obtain ⟨t, z, v, m, j, ht, hz9, rfl, rfl, rfl, rfl, hR, hm⟩ := hrel
        obtain ⟨A5, c5, ev⟩ := Kd.R_slice hR.out
        subst ev
        obtain ⟨L5, hL5⟩ : ∃ L5, (tag :: (128 + (k : Int)) :: hiB (n : Int) k t).length = L5 := ⟨_, rfl⟩
        have hL52 : L5 = t + 2 := by rw [← hL5]; simp [hiB_length]
        rw [hL5] at hR ⊢
        replace hL5 := Aside0.mk hL5
        by_cases hlt : t < k
        · obtain ⟨i, hi⟩ : ∃ i : Nat, i = k - 1 - t := ⟨_, rfl⟩
          have hzi : z = (i : Int) := by have := hz9.out; omega
          subst hzi
          have hnx := Aside0.mk (hiB_next (n : Int) k t)
          rw [← hi] at hnx
          have i3 : i ≤ 2 := by omega
          have i1 : (0 : Int) ≤ (i : Int) := by omega
          have ht1 : Aside0 (t + 1 ≤ k) := ⟨hlt⟩
          replace hL52 := Aside0.mk hL52
          clear hlt ht
          replace hi := Aside0.mk hi
          go_wp2_with fail
          obtain ⟨wo, rfl⟩ : ∃ wo : World, wo = wr := ⟨_, rfl⟩
          go_loopw [10, 11] (fun s10 s11 wr => ∃ jj : Nat, jj ≤ i ∧ s11 = .int .i64 jj ∧ s10 = .int .i64 (sh jj (n : Int)) ∧ wr = wo) (fun _ s11 _ => i - (intOf s11).toNat)
          case atStart => exact ⟨0, Nat.zero_le _, rfl, rfl, rfl⟩
          case round =>
            obtain ⟨jj, hjj, rfl, rfl, rfl⟩ := hrel
            obtain ⟨s0, s1⟩ := hshn.out jj
            by_cases hlt2 : jj < i
            · have hnx2 : Aside0 (sh jj (n : Int) / 256 = sh (jj + 1) (n : Int)) := ⟨rfl⟩
              obtain ⟨y, hy⟩ : ∃ y, sh jj (n : Int) = y := ⟨_, rfl⟩
              rw [hy] at s0 s1 hnx2 ⊢
              have i4 : (jj : Int) < (i : Int) := by omega
              clear hy
              go_wp2_with fail
              go_roundw
              case rel => exact ⟨jj + 1, by omega, by go_num, by rw [← hnx2.out], trivial⟩
              case measure => simp [intOf]; omega
            · obtain rfl : jj = i := by omega
              obtain ⟨y, hy⟩ : ∃ y, sh jj (n : Int) = y := ⟨_, rfl⟩
              rw [hy] at s0 s1 hnx ⊢
              have i5 : y % 256 % 256 = y % 256 := by omega
              have i6 : decide ((jj : Int) < (jj : Int)) = false := by simp
              clear hy hlt2 hjj
              go_wp2_with ((with_reducible refine gate_builtin (b := .append) (xs := #[.tmp 76, .tmp 80]) rfl ?_); at_builtin; refine Kd.R_append kU (w0 := wr) 0 rfl (.tmp 76) (.tmp 80) 23 5 (.int .u8 0) 1 rfl Try.underlying23 PBerEncodes.info5 rfl (by decide) (by omega) (.slice A5 L5 c5) (tag :: (128 + (k : Int)) :: hiB (n : Int) k t) (y % 256) [.int .u8 (y % 256)] (fun q => Z ≤ q) (fun _ => False) rfl rfl rfl (fun _ h => h.elim) (fun q hq => by have := hm.out.size; have := hZt.out; omega) hR.out (Below.refl _ _) (Nat.zero_le _) (by rw [hL5.out]; have := hL52.out; have := ht1.out; omega) ?_; intro v6 w6 ho _ hg _; have hm6 := Aside0.mk (hm.out.trans (Mod.of_grown (S := fun q => Z ≤ q) hg (fun q hq => .inl (hR.out.1 q hq))) (fun q hq => .inl hq)); have ho6 := Aside0.mk ho; clear ho hg)
              have hz8 : Aside0 ((jj : Int) - 1 = (k : Int) - 1 - ((t + 1 : Nat) : Int)) := ⟨by have := hi.out; have := ht1.out; omega⟩
              go_roundw
              case rel => exact ⟨t + 1, _, _, _, _, ht1, hz8, rfl, rfl, rfl, rfl, by rw [hnx.out]; exact ho6, hm6⟩
              case measure => simp [intOf]
        · have htk : t = k := by have := ht.out; omega
          subst htk
          have hzi : z = -1 := by have := hz9.out; omega
          subst hzi
          clear hlt
          replace hL52 := Aside0.mk hL52
          go_wp2_with ((with_reducible refine gate_builtin (b := .append) (xs := #[.tmp 82, .tmp 83]) rfl ?_); at_builtin; refine Kd.R_append_rows kU (w0 := wr) 0 rfl (.tmp 82) (.tmp 83) 23 5 (.int .u8 0) 1 rfl Try.underlying23 PBerEncodes.info5 rfl (by decide) (by omega) (.slice A5 L5 c5) (tag :: (128 + (t : Int)) :: hiB (n : Int) t t) xb A n c (fun q => Z ≤ q) (fun _ => False) rfl rfl hR.out (Kd.F_now (F_mod hFt.out hm.out (fun q hq h => by omega))) (fun _ _ h => h) (fun _ h => h.elim) (fun q hq => by have := hm.out.size; have := hZt.out; omega) (Below.refl _ _) (Nat.zero_le _) (by rw [hL5.out]; have := hL52.out; have := hn9.out; omega) ?_; intro v2 w6 ho6 _ hg6 _; have hR6 := Aside0.mk ho6; have hm6 := Aside0.mk (hm.out.trans (Mod.of_grown (S := fun q => Z ≤ q) hg6 (fun q hq => .inl (hR.out.1 q hq))) (fun q hq => .inl hq)); clear ho6 hg6)
          go_ret
          obtain ⟨A9, c9, ev⟩ := Kd.R_slice hR6.out
          subst ev
          have hZw : w.heap.size ≤ Z := by have := hZ9.out; have := hbw.out.size; omega
          refine ⟨A9, c9, by rw [hfin.out]; rfl, ?_, ?_⟩
          · rw [hfin.out]; exact R_rebase (Kd.R_mono hR6.out (fun q hq => Nat.le_trans hZw hq)) (fun k hk => Nat.le_trans hZw (hR6.out.1 k hk))
          · exact Mod.below (S := fun q => Z ≤ q) ((Mod.of_below (S := fun q => Z ≤ q) hwt'.out).trans hm6.out (fun q hq => .inl hq)) (fun q hq => by omega) (Nat.le_refl _)
  | true =>
    rw [if_pos rfl, if_pos rfl] at hlay0
    have hz1 : (layL xs).length ≤ 1000000 := by rw [hlay0] at hz; simp at hz; omega
    have hal := Aside0.mk ((argL_iff xs).1 a4)
    have hbl := Aside0.mk ((byteL_iff xs).1 y5)
    have hst := Aside0.mk (fun (k : Nat) (hk : k < xs.length) => lay_next hk)
    have hsl := Aside0.mk (fun (k : Nat) => lay_le (xs := xs) k)
    have hwn : xs.length ≤ 1000000 := Nat.le_trans (lay_count xs) hz1
    have hR0 := Aside0.mk (Kd.R_nil kU 5 w1 w1.heap.size (fun q => w1.heap.size ≤ q))
    obtain ⟨N, hN⟩ : ∃ N, xs.length = N := ⟨_, rfl⟩
    have hci := Kd.C_below hci.out hb1.out
    rw [hN] at hci hwn hw1 p4 ⊢
    have hBX := Aside0.mk (show ∀ W, Below w1.heap.size w1 W → W.cell? ⟨w.heap.size, 4, none⟩ = some (.slice B N d) from fun W hW => pw_cell_below hW p4)
    replace hci := Aside0.mk hci
    replace hN := Aside0.mk hN
    have hlay := Aside0.mk hlay0
    obtain ⟨tag, htag⟩ : ∃ tag, 64 * x0 + x1 + 32 = tag := ⟨_, rfl⟩
    have ht0 : 0 ≤ tag ∧ tag < 256 := by omega
    obtain ⟨ht0, ht1⟩ := ht0
    rw [htag] at hlay
    have hw10 := Aside0.mk (Below.refl w1.heap.size w1)
    replace hz1 := Aside0.mk hz1
    clear y4 y5 a2 a3 a4 hcb hlay0 hz
    go_enter Try.func17, Try.ntmps17
    go_wp2_with fail
    go_loopw [3, 5] (fun s3 s5 wr => ∃ (k : Nat) (v : Value), k ≤ N ∧ s5 = .int .i64 k ∧ s3 = v ∧ Aside0 (kU.R 5 wr w1.heap.size (fun q => w1.heap.size ≤ q) v (layL (xs.take k))) ∧ Aside0 (Below w1.heap.size w1 wr)) (fun _ s5 _ => N - (intOf s5).toNat)
    case atStart => exact ⟨0, _, Nat.zero_le _, rfl, rfl, hR0, hw10⟩
    case round =>
      clear hR0 hw10
      obtain ⟨k, v, hk, rfl, rfl, hR, hb⟩ := hrel
      have g4 := hBX.out _ hb.out
      obtain ⟨va, vc, ev⟩ := Kd.R_slice hR.out
      subst ev
      by_cases hlt : k < N
      · have hkx : k < xs.length := by rw [hN.out]; exact hlt
        obtain ⟨ad, A6, c6, B6, d6, e, s0, s1, s2, s3, s4, hv6⟩ := kT_at (Kd.C_below hci.out hb.out) k hkx
        subst e
        have hmem : xs[k] ∈ xs := List.getElem_mem hkx
        have hay := hal.out _ hmem
        have hby := hbl.out _ hmem
        have hnx := hst.out k hkx
        have hle := hsl.out (k + 1)
        obtain ⟨y, hy⟩ : ∃ y, xs[k] = y := ⟨_, rfl⟩
        rw [hy] at s0 s1 s2 s3 s4 hv6 hmem hay hby hnx
        have hly : (layL (xs.take k)).length + (layT y).length ≤ 1000000 := by rw [hnx, List.length_append] at hle; have := hz1.out; omega
        have hcall : Calls Try.prog 17 #[.agg #[.int .u8 y.f0, .int .u8 y.f1, .bool y.f2, .slice A6 y.f3.length c6, .slice B6 y.f4.length d6]] wr (Laid (layT y) wr) := ih.out y hmem A6 c6 B6 d6 wr hv6 hay hby (by omega)
        replace hcall := Aside0.mk hcall
        replace hnx := Aside0.mk hnx
        replace hly := Aside0.mk hly
        have i1 : (0 : Int) ≤ (k : Int) := by omega
        have i2 : (k : Int) < (N : Int) := by omega
        obtain ⟨L0, hL0⟩ : ∃ L0, (layL (xs.take k)).length = L0 := ⟨_, rfl⟩
        rw [hL0] at hR ⊢
        replace hL0 := Aside0.mk hL0
        clear hay hby hv6 hkx hmem hle hy
        go_wp2_with fail
        refine hcall.out.mono ?_
        rintro e w4 ⟨A', c', rfl, hR4, hb4⟩
        have hC4 := Aside0.mk (Kd.F_now (Kd.R_F hR4))
        have hR3 := Aside0.mk (Kd.R_below hR.out hb4)
        have hb3 := Aside0.mk (below_then hb.out hb.out.size hb4)
        obtain ⟨L4, hL4⟩ : ∃ L4, (layT y).length = L4 := ⟨_, rfl⟩
        rw [hL4] at hC4 ⊢
        replace hL4 := Aside0.mk hL4
        clear hR4 hb4 hcall
        go_wp2_with ((with_reducible refine gate_builtin (b := .append) (xs := #[.tmp 33, .tmp 39]) rfl ?_); at_builtin; refine Kd.R_append_rows kU (w0 := w1) w1.heap.size rfl (.tmp 33) (.tmp 39) 23 5 (.int .u8 0) 1 rfl Try.underlying23 PBerEncodes.info5 rfl (by decide) (by omega) (.slice va L0 vc) (layL (xs.take k)) (layT y) A' L4 c' (fun q => w1.heap.size ≤ q) (fun _ => False) rfl rfl hR3.out hC4.out (fun _ _ h => h) (fun _ h => h.elim) (fun q hq => by have := hb3.out.size; omega) hb3.out hb3.out.size (by rw [hL0.out]; have := hly.out; have := hL0.out; have := hL4.out; omega) ?_; intro v5 w5 ho hb5 _ _; have ho5 := Aside0.mk ho; have hb5' := Aside0.mk hb5; clear ho hb5)
        go_roundw
        case rel => exact ⟨k + 1, _, by omega, by go_num, rfl, by rw [hnx.out]; exact ho5, hb5'⟩
        case measure => simp [intOf]; omega
      · obtain rfl : k = N := by omega
        have hta : xs.take k = xs := List.take_of_length_le (by rw [hN.out]; exact Nat.le_refl _)
        rw [hta] at hR ⊢
        obtain ⟨bs, hbs⟩ : ∃ bs, layL xs = bs := ⟨_, rfl⟩
        rw [hbs] at hR hlay hz1 ⊢
        have hlR := (Kd.R_reads' hR.out)
        obtain ⟨n, hn⟩ : ∃ n, bs.length = n := ⟨_, rfl⟩
        rw [hn] at hR hlay hz1 hlR ⊢
        have hbF : Aside0 (kU.F wr (fun q => q < wr.heap.size) va n bs) := ⟨Kd.F_mono (Kd.F_bound (Kd.R_F hR.out)) (fun q hq => hq.2)⟩
        have hn9 := hz1
        have hlb : n ≤ vc := hlR.2.1
        have hbw := Aside0.mk (below_then hb1.out hb1.out.size hb.out)
        replace hbs := Aside0.mk hbs
        replace htag := Aside0.mk htag
        clear hR hlR hta hlt hal hbl hst hsl ih hBX hci hn
        have hbt := below_alloc (Below.refl wr.heap.size wr) (.cells #[.int .u8 tag] 5)
        have hO := R_one (ok := fun q => wr.heap.size ≤ q) (heap_alloc_new wr (.cells #[.int .u8 tag] 5)) (Nat.le_refl _)
        obtain ⟨Z, hZ⟩ : ∃ Z, wr.heap.size = Z := ⟨_, rfl⟩
        obtain ⟨wt, hwt⟩ : ∃ wt, wr.alloc (.cells #[.int .u8 tag] 5) = wt := ⟨_, rfl⟩
        have hFt := Kd.F_below hbF.out hbt
        rw [hwt] at hbt hO hFt
        rw [hZ] at hO hFt
        have hwt' := Aside0.mk (below_then hbw.out hbw.out.size hbt)
        have hO := Aside0.mk hO
        have hFt := Aside0.mk hFt
        have hZ9 := Aside0.mk hZ
        have hZt : Aside0 (Z ≤ wt.heap.size) := ⟨by have := hbt.size; omega⟩
        clear hbt hbF
        have i8 : tag % 256 = tag := by omega
        by_cases c128 : n < 128
        · have j1 : decide ((n : Int) < 128) = true := by simp; omega
          have j2 : (n : Int) % 256 = (n : Int) := by omega
          have hfin : Aside0 (LAY = tag :: (lenL n ++ bs)) := hlay
          have hl1 : lenL n = [(n : Int)] := by unfold lenL; rw [if_pos c128]
          rw [hl1] at hfin
          clear c128 hl1
          go_wp2_with (first | ((with_reducible refine gate_builtin (b := .append) (xs := #[.tmp 48, .tmp 51]) rfl ?_); at_builtin; refine Kd.R_append kU (w0 := wt) 0 rfl (.tmp 48) (.tmp 51) 23 5 (.int .u8 0) 1 rfl Try.underlying23 PBerEncodes.info5 rfl (by decide) (by omega) (.slice (some ⟨Z, 0, none⟩) 1 1) [tag] (n : Int) [.int .u8 (n : Int)] (fun q => Z ≤ q) (fun _ => False) rfl rfl rfl (fun _ h => h.elim) (fun q hq => Nat.le_trans hZt.out hq) hO.out (Below.refl _ _) (Nat.zero_le _) (by simp) ?_; intro v1 w5 ho _ hg _; have hm5 := Aside0.mk (Mod.of_grown (S := fun q => Z ≤ q) hg (fun q hq => .inl (hO.out.1 q hq))); have ho5 := Aside0.mk ho; clear ho hg) | ((with_reducible refine gate_builtin (b := .append) (xs := #[.tmp 82, .tmp 83]) rfl ?_); at_builtin; refine Kd.R_append_rows kU (w0 := w5) 0 rfl (.tmp 82) (.tmp 83) 23 5 (.int .u8 0) 1 rfl Try.underlying23 PBerEncodes.info5 rfl (by decide) (by omega) v1 ([tag] ++ [(n : Int)]) bs va n vc (fun q => Z ≤ q) (fun _ => False) rfl rfl ho5.out (Kd.F_now (F_mod hFt.out hm5.out (fun q hq h => by omega))) (fun _ _ h => h) (fun _ h => h.elim) (fun q hq => by have := hm5.out.size; have := hZt.out; omega) (Below.refl _ _) (Nat.zero_le _) (by simp; have := hn9.out; omega) ?_; intro v2 w6 ho6 _ hg6 _; have hR6 := Aside0.mk ho6; have hm6 := Aside0.mk (hm5.out.trans (Mod.of_grown (S := fun q => Z ≤ q) hg6 (fun q hq => .inl (ho5.out.1 q hq))) (fun q hq => .inl hq)); clear ho6 hg6))
          go_ret
          obtain ⟨A9, c9, ev⟩ := Kd.R_slice hR6.out
          subst ev
          have hZw : w.heap.size ≤ Z := by have := hZ9.out; have := hbw.out.size; omega
          refine ⟨A9, c9, by rw [hfin.out]; rfl, ?_, ?_⟩
          · rw [hfin.out]; exact R_rebase (Kd.R_mono hR6.out (fun q hq => Nat.le_trans hZw hq)) (fun k hk => Nat.le_trans hZw (hR6.out.1 k hk))
          · exact Mod.below (S := fun q => Z ≤ q) ((Mod.of_below (S := fun q => Z ≤ q) hwt'.out).trans hm6.out (fun q hq => .inl hq)) (fun q hq => by omega) (Nat.le_refl _)
        · have j1 : decide ((n : Int) < 128) = false := by simp; omega
          obtain ⟨k, k3, k1, hkl, hkL⟩ := lenL_hi n (by omega) (by have := hn9.out; omega)
          obtain ⟨KM, hKM⟩ := many_ours n (by have := hn9.out; omega)
          rw [hkl] at hKM
          have hmc := Aside0.mk (fun W => PBerEncodes.cardcaseref05_many.calls KM (n : Int) _ W hKM)
          have hshn := Aside0.mk (sh_nat n (by have := hn9.out; omega))
          have hfin : Aside0 (LAY = tag :: (lenL n ++ bs)) := hlay
          rw [hkL] at hfin
          have j3 : wrap64 (((k + 1 : Nat) : Int) - 1) = (k : Int) := by rw [wrap_in _ (by omega)]; omega
          have j4 : ((k + 1 : Nat) : Int) - 1 = (k : Int) := by omega
          have j5 : (128 + (k : Int)) % 256 = 128 + (k : Int) := by omega
          clear c128 hKM hkl hkL
          go_wp2_with fail
          refine (hmc.out _).mono ?_
          rintro e w4 ⟨rfl, hd4⟩
          have hb4 := hd4.below
          have hO4 := Aside0.mk (Kd.R_below hO.out hb4)
          have hF4 := Aside0.mk (Kd.F_below hFt.out hb4)
          have hm4 := Aside0.mk (Mod.of_below (S := fun q => Z ≤ q) hb4)
          clear hd4 hb4
          go_wp2_with (first | ((with_reducible refine gate_builtin (b := .append) (xs := #[.tmp 56, .tmp 60]) rfl ?_); at_builtin; refine Kd.R_append kU (w0 := w4) 0 rfl (.tmp 56) (.tmp 60) 23 5 (.int .u8 0) 1 rfl Try.underlying23 PBerEncodes.info5 rfl (by decide) (by omega) (.slice (some ⟨Z, 0, none⟩) 1 1) [tag] (128 + (k : Int)) [.int .u8 (128 + (k : Int))] (fun q => Z ≤ q) (fun _ => False) rfl rfl rfl (fun _ h => h.elim) (fun q hq => by have := hm4.out.size; have := hZt.out; omega) hO4.out (Below.refl _ _) (Nat.zero_le _) (by simp) ?_; intro v1 w5 ho _ hg _; have hm5 := Aside0.mk (hm4.out.trans (Mod.of_grown (S := fun q => Z ≤ q) hg (fun q hq => .inl (hO4.out.1 q hq))) (fun q hq => .inl hq)); have ho5 := Aside0.mk ho; clear ho hg))
          have hO5 : Aside0 (kU.R 5 w5 0 (fun q => Z ≤ q) v1 (tag :: (128 + (k : Int)) :: hiB (n : Int) k 0)) := ⟨ho5.out⟩
          clear ho5 hO4
          go_loopw [6, 9, 10, 11] (fun s6 s9 s10 s11 wr => ∃ (t : Nat) (z : Int) (v m j : Value), Aside0 (t ≤ k) ∧ Aside0 (z = (k : Int) - 1 - t) ∧ s9 = .int .i64 z ∧ s6 = v ∧ s10 = m ∧ s11 = j ∧ Aside0 (kU.R 5 wr 0 (fun q => Z ≤ q) v (tag :: (128 + (k : Int)) :: hiB (n : Int) k t)) ∧ Aside0 (Mod (fun q => Z ≤ q) wt wr)) (fun _ s9 _ _ _ => (intOf s9 + 1).toNat)
          case atStart => exact ⟨0, _, v1, _, _, ⟨Nat.zero_le _⟩, ⟨by simp⟩, rfl, rfl, rfl, rfl, hO5, hm5⟩
          case round =>
            clear hO5 hm5
            obtain ⟨t, z, v, m, j, ht, hz9, rfl, rfl, rfl, rfl, hR, hm⟩ := hrel
            obtain ⟨A5, c5, ev⟩ := Kd.R_slice hR.out
            subst ev
            obtain ⟨L5, hL5⟩ : ∃ L5, (tag :: (128 + (k : Int)) :: hiB (n : Int) k t).length = L5 := ⟨_, rfl⟩
            have hL52 : L5 = t + 2 := by rw [← hL5]; simp [hiB_length]
            rw [hL5] at hR ⊢
            replace hL5 := Aside0.mk hL5
            by_cases hlt : t < k
            · obtain ⟨i, hi⟩ : ∃ i : Nat, i = k - 1 - t := ⟨_, rfl⟩
              have hzi : z = (i : Int) := by have := hz9.out; omega
              subst hzi
              have hnx := Aside0.mk (hiB_next (n : Int) k t)
              rw [← hi] at hnx
              have i3 : i ≤ 2 := by omega
              have i1 : (0 : Int) ≤ (i : Int) := by omega
              have ht1 : Aside0 (t + 1 ≤ k) := ⟨hlt⟩
              replace hL52 := Aside0.mk hL52
              clear hlt ht
              replace hi := Aside0.mk hi
              go_wp2_with fail
              obtain ⟨wo, rfl⟩ : ∃ wo : World, wo = wr := ⟨_, rfl⟩
              go_loopw [10, 11] (fun s10 s11 wr => ∃ jj : Nat, jj ≤ i ∧ s11 = .int .i64 jj ∧ s10 = .int .i64 (sh jj (n : Int)) ∧ wr = wo) (fun _ s11 _ => i - (intOf s11).toNat)
              case atStart => exact ⟨0, Nat.zero_le _, rfl, rfl, rfl⟩
              case round =>
                obtain ⟨jj, hjj, rfl, rfl, rfl⟩ := hrel
                obtain ⟨s0, s1⟩ := hshn.out jj
                by_cases hlt2 : jj < i
                · have hnx2 : Aside0 (sh jj (n : Int) / 256 = sh (jj + 1) (n : Int)) := ⟨rfl⟩
                  obtain ⟨y, hy⟩ : ∃ y, sh jj (n : Int) = y := ⟨_, rfl⟩
                  rw [hy] at s0 s1 hnx2 ⊢
                  have i4 : (jj : Int) < (i : Int) := by omega
                  clear hy
                  go_wp2_with fail
                  go_roundw
                  case rel => exact ⟨jj + 1, by omega, by go_num, by rw [← hnx2.out], trivial⟩
                  case measure => simp [intOf]; omega
                · obtain rfl : jj = i := by omega
                  obtain ⟨y, hy⟩ : ∃ y, sh jj (n : Int) = y := ⟨_, rfl⟩
                  rw [hy] at s0 s1 hnx ⊢
                  have i5 : y % 256 % 256 = y % 256 := by omega
                  have i6 : decide ((jj : Int) < (jj : Int)) = false := by simp
                  clear hy hlt2 hjj
                  go_wp2_with ((with_reducible refine gate_builtin (b := .append) (xs := #[.tmp 76, .tmp 80]) rfl ?_); at_builtin; refine Kd.R_append kU (w0 := wr) 0 rfl (.tmp 76) (.tmp 80) 23 5 (.int .u8 0) 1 rfl Try.underlying23 PBerEncodes.info5 rfl (by decide) (by omega) (.slice A5 L5 c5) (tag :: (128 + (k : Int)) :: hiB (n : Int) k t) (y % 256) [.int .u8 (y % 256)] (fun q => Z ≤ q) (fun _ => False) rfl rfl rfl (fun _ h => h.elim) (fun q hq => by have := hm.out.size; have := hZt.out; omega) hR.out (Below.refl _ _) (Nat.zero_le _) (by rw [hL5.out]; have := hL52.out; have := ht1.out; omega) ?_; intro v6 w6 ho _ hg _; have hm6 := Aside0.mk (hm.out.trans (Mod.of_grown (S := fun q => Z ≤ q) hg (fun q hq => .inl (hR.out.1 q hq))) (fun q hq => .inl hq)); have ho6 := Aside0.mk ho; clear ho hg)
                  have hz8 : Aside0 ((jj : Int) - 1 = (k : Int) - 1 - ((t + 1 : Nat) : Int)) := ⟨by have := hi.out; have := ht1.out; omega⟩
                  go_roundw
                  case rel => exact ⟨t + 1, _, _, _, _, ht1, hz8, rfl, rfl, rfl, rfl, by rw [hnx.out]; exact ho6, hm6⟩
                  case measure => simp [intOf]
            · have htk : t = k := by have := ht.out; omega
              subst htk
              have hzi : z = -1 := by have := hz9.out; omega
              subst hzi
              clear hlt
              replace hL52 := Aside0.mk hL52
              go_wp2_with ((with_reducible refine gate_builtin (b := .append) (xs := #[.tmp 82, .tmp 83]) rfl ?_); at_builtin; refine Kd.R_append_rows kU (w0 := wr) 0 rfl (.tmp 82) (.tmp 83) 23 5 (.int .u8 0) 1 rfl Try.underlying23 PBerEncodes.info5 rfl (by decide) (by omega) (.slice A5 L5 c5) (tag :: (128 + (t : Int)) :: hiB (n : Int) t t) bs va n vc (fun q => Z ≤ q) (fun _ => False) rfl rfl hR.out (Kd.F_now (F_mod hFt.out hm.out (fun q hq h => by omega))) (fun _ _ h => h) (fun _ h => h.elim) (fun q hq => by have := hm.out.size; have := hZt.out; omega) (Below.refl _ _) (Nat.zero_le _) (by rw [hL5.out]; have := hL52.out; have := hn9.out; omega) ?_; intro v2 w6 ho6 _ hg6 _; have hR6 := Aside0.mk ho6; have hm6 := Aside0.mk (hm.out.trans (Mod.of_grown (S := fun q => Z ≤ q) hg6 (fun q hq => .inl (hR.out.1 q hq))) (fun q hq => .inl hq)); clear ho6 hg6)
              go_ret
              obtain ⟨A9, c9, ev⟩ := Kd.R_slice hR6.out
              subst ev
              have hZw : w.heap.size ≤ Z := by have := hZ9.out; have := hbw.out.size; omega
              refine ⟨A9, c9, by rw [hfin.out]; rfl, ?_, ?_⟩
              · rw [hfin.out]; exact R_rebase (Kd.R_mono hR6.out (fun q hq => Nat.le_trans hZw hq)) (fun k hk => Nat.le_trans hZw (hR6.out.1 k hk))
              · exact Mod.below (S := fun q => Z ≤ q) ((Mod.of_below (S := fun q => Z ≤ q) hwt'.out).trans hm6.out (fun q hq => .inl hq)) (fun q hq => by omega) (Nat.le_refl _)
end Go.Proofs.Ytlmelbnmfhpacaa
