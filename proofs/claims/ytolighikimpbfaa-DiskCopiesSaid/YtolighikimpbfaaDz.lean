/- A crash's parts: pick, what lays a write, each. -/
import Derived.Test.YtolighikimpbfaaDy
import Derived.WalkKit
set_option linter.unusedVariables false
set_option linter.unusedSimpArgs false
namespace Go.Proofs.Ytolighikimpbfaa
open Go.RowKit Go.Shelf Go.Proofs.YtolighikimpbfaaW.PrintWords Go.Proofs.YtolighikimpbfaaW.PrintMore

/-- What a number picks among 0 to n. -/
def pickN (k : Int) (n : Nat) : Nat := (k % ((n : Int) + 1)).toNat
theorem pickN_le (k : Int) (n : Nat) : pickN k n ≤ n := by
  unfold pickN
  have := Int.emod_lt_of_pos k (show (0 : Int) < (n : Int) + 1 by omega)
  omega
theorem pickN_int (k : Int) (n : Nat) : (pickN k n : Int) = k % ((n : Int) + 1) := by
  unfold pickN
  exact Int.toNat_of_nonneg (Int.emod_nonneg k (by omega))
theorem tmod_bounds (k m : Int) (hm : 0 < m) : -m < k.tmod m ∧ k.tmod m < m := ⟨by have := Int.lt_tmod_of_pos k hm; omega, Int.tmod_lt_of_pos k hm⟩
theorem tmod_pick (k : Int) (n : Nat) : (k.tmod ((n : Int) + 1) + n + 1).tmod ((n : Int) + 1) = pickN k n := by
  rw [pickN_int]
  have h := tmod_bounds k ((n : Int) + 1) (by omega)
  rw [Int.tmod_eq_emod_of_nonneg (by omega)]
  rw [show k.tmod ((n : Int) + 1) + n + 1 = k.tmod ((n : Int) + 1) + ((n : Int) + 1) * 1 by omega, Int.add_mul_emod_self_left]
  have e := Int.tmod_add_mul_tdiv k ((n : Int) + 1)
  conv => rhs; rw [← e]
  rw [Int.add_mul_emod_self_left]
set_option maxHeartbeats 1000000 in
theorem pick_calls (k : Int) (n : Nat) (h0 : -9223372036854775808 ≤ k) (h1 : k ≤ 9223372036854775807) (hn : n ≤ 1000000) (w : World) :
    Calls Try.prog 32 #[.int .i64 k, .int .i64 (n : Int)] w fun e w' => e = .returned (.int .i64 (pickN k n : Int)) ∧ w = w' := by
  have hb := tmod_bounds k ((n : Int) + 1) (by omega)
  have hp := tmod_pick k n
  rw [Int.tmod_eq_emod_of_nonneg (by omega)] at hp
  have hp := Aside0.mk hp
  go_enter Try.func32, Try.ntmps32
  go_wp2
  go_ret
  refine ⟨?_, rfl⟩
  rw [← hp.out]
  rfl
theorem grown_undrew {w w2 : World} {r : Option Nat} (h : w.drew.grownBy w2 r) : w.grownBy w2 r := ⟨h.os, h.tape, h.output, h.size, h.block⟩
set_option maxHeartbeats 1000000 in
theorem lay_calls (pb nb L capb i m c : Nat) (bs ys : List UInt8) (A : Option Addr) (w : World) (hb : w.cell? ⟨pb, 0, none⟩ = some (.slice (some ⟨nb, 0, none⟩) L capb)) (hR : u8.R 5 w 0 (fun q => q = nb) (.slice (some ⟨nb, 0, none⟩) L capb) (toI bs))
    (hC : u8.C w A m (toI ys)) (hi : i + m ≤ L) (hL : L ≤ 262144) (hcap : L ≤ capb) :
    Calls Try.prog 31 #[.agg #[.int .i64 (i : Int), .slice A m c], .pointer (some ⟨pb, 0, none⟩)] w fun e w' => e = .returned (.tuple #[]) ∧ u8.R 5 w' 0 (fun q => q = nb) (.slice (some ⟨nb, 0, none⟩) L capb) (toI (over bs i ys)) ∧ w.grownBy w' (some nb) := by
  have hR2 := Aside0.mk (R_mod hR (((Mod.refl (fun _ => False) w).alloc (.cells #[.int .i64 (i : Int), .slice A m c] 69))) (fun _ _ h => h))
  have hC2 := Aside0.mk (Kd.C_alloc hC (.cells #[.int .i64 (i : Int), .slice A m c] 69))
  have hg := Aside0.mk (grown_of_below (below_alloc (Below.refl _ w) (.cells #[.int .i64 (i : Int), .slice A m c] 69)) (some nb))
  have cb := pw_cell_below (below_alloc (Below.refl _ w) (.cells #[.int .i64 (i : Int), .slice A m c] 69)) hb
  have H1 := Go.heap_alloc_new w (.cells #[.int .i64 (i : Int), .slice A m c] 69)
  have b0 : (w.alloc (.cells #[.int .i64 (i : Int), .slice A m c] 69)).cell? ⟨w.heap.size, 0, none⟩ = some (.int .i64 (i : Int)) := (cell_of_row _ _ _ _ _ _ H1).trans rfl
  have b1 : (w.alloc (.cells #[.int .i64 (i : Int), .slice A m c] 69)).cell? ⟨w.heap.size, 1, none⟩ = some (.slice A m c) := (cell_of_row _ _ _ _ _ _ H1).trans rfl
  clear hR hC hb H1
  have hiL : i ≤ L := by omega
  have dd : (i = capb ∧ m = 0) ∨ ¬ capb = i := by
    by_cases h : capb = i
    · exact .inl ⟨h.symm, by omega⟩
    · exact .inr h
  rcases dd with ⟨rfl, rfl⟩ | hne
  all_goals (
    go_enter Try.func31, Try.ntmps31
    go_wp2
    generalize w.alloc (.cells #[.int .i64 (i : Int), .slice A _ c] 69) = W1 at *
    go_region_law (refine step_copy_at (by rfl) (.tmp 6) (.tmp 8) 31 31 rfl Try.underlying31 info5s nb L _ _ _ c _ _ A _ (toI bs) (toI ys) rfl (by first | exact (fun _ => rfl) | exact (fun h => absurd rfl h)) rfl (by first | rfl | omega) (R_mod hR2.out (Mod.refl (fun _ => False) W1).drew (fun _ _ h => h)) (Kd.C_drew hC2.out) hi ?_
                   intro w2 hr2 hg2
                   replace hr2 := Aside0.mk hr2
                   replace hg2 := Aside0.mk hg2)
    all_goals go_wp2

    all_goals go_end0
    all_goals exact ⟨rfl, by rw [over_toI]; exact hr2.out, hg.out.trans (grown_undrew hg2.out)⟩)
/-- Bytes behind some writes. -/
def laid (b : List UInt8) (l : List Wr) : List UInt8 := l.foldl (fun b x => over b x.at_ x.b) b
theorem laid_append (b : List UInt8) (l m : List Wr) : laid b (l ++ m) = laid (laid b l) m := by simp [laid]
theorem laid_length (l : List Wr) : ∀ (b : List UInt8), (∀ x ∈ l, x.at_ + x.b.length ≤ b.length) → (laid b l).length = b.length := by
  induction l with
  | nil => intro b _; rfl
  | cons x l ih =>
    intro b h
    have h1 := over_length b x.at_ x.b (h x (by simp))
    show (laid (over b x.at_ x.b) l).length = _
    rw [ih _ (fun y hy => by rw [h1]; exact h y (by simp [hy])), h1]
theorem laid_next (b : List UInt8) (l : List Wr) (k : Nat) (hk : k < l.length) : laid b (l.take (k + 1)) = over (laid b (l.take k)) l[k].at_ l[k].b := by
  rw [List.take_succ_eq_append_getElem hk, laid_append]; rfl
theorem encWs_get (l : List Wr) (k : Nat) (hk : k < l.length) (z : Int × List Int) : (encWs l).getD k z = encW l[k] := by simp [encWs, List.getD_eq_getElem?_getD, hk]
theorem addr_add_add' (a : Addr) (i : Nat) : (a.add i).add 1 = a.add (i + 1) := by
  unfold Addr.add
  by_cases h : i = 0 <;> simp [h, Nat.add_assoc]
/-- A write that waits, as it lies. -/
theorem wr_at {W : World} {A : Option Addr} {l : List Wr} (h : wk.C W A l.length (encWs l)) (k : Nat) (hk : k < l.length) :
    ∃ ad A2 c2, A = some ad ∧ l[k].b.length ≤ c2 ∧ u8.C W A2 l[k].b.length (toI l[k].b) ∧ ∃ B O sp, ad.add (k * 2) = ⟨B, O, sp⟩ ∧ W.cell? ⟨B, O, sp⟩ = some (.int .i64 (l[k].at_ : Int)) ∧ W.cell? ⟨B, O + 1, none⟩ = some (.slice A2 l[k].b.length c2) := by
  obtain ⟨ad, c, e, hl, hK, hc⟩ := Kd.C_get h (0, []) (k : Int) (by omega) (by omega)
  rw [show ((k : Int)).toNat = k from rfl, encWs_get _ _ hk] at hK
  obtain ⟨c0, c1, rfl, h0, h1⟩ := hK
  obtain ⟨A2, c2, rfl, hlc, hC⟩ := h1
  have e0 : c0 = [.int .i64 (l[k].at_ : Int)] := h0
  subst e0
  rw [show (encW l[k]).2 = toI l[k].b from rfl, toI_length] at hlc hC hc
  have h2 := hc 1 _ rfl
  rw [← addr_add_add'] at h2
  exact ⟨ad, A2, c2, e, hlc, hC, (ad.add (k * 2)).block, (ad.add (k * 2)).off, (ad.add (k * 2)).spot, rfl, hc 0 _ rfl, h2⟩
set_option maxHeartbeats 1000000 in
theorem each_calls (pb nb L capb c : Nat) (bs : List UInt8) (ws : List Wr) (A : Option Addr) (w : World) (hb : w.cell? ⟨pb, 0, none⟩ = some (.slice (some ⟨nb, 0, none⟩) L capb)) (hR : u8.R 5 w 0 (fun q => q = nb) (.slice (some ⟨nb, 0, none⟩) L capb) (toI bs))
    (hne : pb ≠ nb) (hC : ∀ w', w.grownBy w' (some nb) → wk.C w' A ws.length (encWs ws)) (fit : ∀ x ∈ ws, x.at_ + x.b.length ≤ L) (hbl : bs.length = L) (hL : L ≤ 262144) (hcap : L ≤ capb) (hwl : ws.length ≤ 1000000) :
    Calls Try.prog 33 #[.slice A ws.length c, .func (.func 31) #[] #[.pointer (some ⟨pb, 0, none⟩)]] w fun e w' => e = .returned (.tuple #[]) ∧ u8.R 5 w' 0 (fun q => q = nb) (.slice (some ⟨nb, 0, none⟩) L capb) (toI (laid bs ws)) ∧ w.grownBy w' (some nb) := by
  have he := enters_of (P := Try.prog) Try.func31 (by kernel_rfl) rfl
  obtain ⟨M, hM⟩ : ∃ M, ws.length = M := ⟨_, rfl⟩
  have hC := Aside0.mk hC
  have hR0 := Aside0.mk hR
  have hb := Aside0.mk hb
  have fit := Aside0.mk fit
  have hg0 := Aside0.mk (World.grownBy.refl w (some nb))
  clear hR
  rw [hM]
  have hM := Aside0.mk hM
  have hwl' : M ≤ 1000000 := hM.out ▸ hwl
  clear hwl
  go_enter Try.func33, Try.ntmps33
  go_wp2
  go_loopw [8] (fun s8 wr => ∃ (k : Nat), k ≤ M ∧ s8 = .int .i64 k ∧ Aside0 (u8.R 5 wr 0 (fun q => q = nb) (.slice (some ⟨nb, 0, none⟩) L capb) (toI (laid bs (ws.take k)))) ∧ Aside0 (w.grownBy wr (some nb))) (fun s8 _ => M - (intOf s8).toNat)
  case atStart => exact ⟨0, Nat.zero_le _, rfl, hR0, hg0⟩
  case round =>
    clear hR0 hg0
    obtain ⟨k, hk, rfl, hR, hg⟩ := hrel
    by_cases hlt : k < M
    · have hkw : k < ws.length := by rw [hM.out]; exact hlt
      obtain ⟨ad, A2, c2, e, hlc, hC2, B, O, sp, hak, k0, k1⟩ := wr_at (hC.out wr hg.out) k hkw
      subst e
      obtain ⟨x, hx⟩ : ∃ x, ws[k] = x := ⟨_, rfl⟩
      rw [hx] at hlc hC2 k0 k1
      have hxf := fit.out x (hx ▸ List.getElem_mem hkw)
      have hnx := Aside0.mk (hx ▸ laid_next bs ws k hkw)
      have hC2 := Aside0.mk hC2
      clear hx hkw
      have hcall : Aside0 (Calls Try.prog 31 #[.agg #[.int .i64 (x.at_ : Int), .slice A2 x.b.length c2], .pointer (some ⟨pb, 0, none⟩)] (wr.alloc (.cells #[.int .i64 (x.at_ : Int), .slice A2 x.b.length c2] 69)) fun e w' => e = .returned (.tuple #[]) ∧
          u8.R 5 w' 0 (fun q => q = nb) (.slice (some ⟨nb, 0, none⟩) L capb) (toI (laid bs (ws.take (k + 1)))) ∧ wr.grownBy w' (some nb)) := by
        rw [hnx.out]
        have hga : wr.grownBy (wr.alloc (.cells #[.int .i64 (x.at_ : Int), .slice A2 x.b.length c2] 69)) (some nb) := World.grownBy_alloc wr _ _
        refine Aside0.mk ((lay_calls pb nb L capb x.at_ x.b.length c2 (laid bs (ws.take k)) x.b A2 _ ?_ (R_mod hR.out ((Mod.refl (fun _ => False) wr).alloc _) (fun _ _ h => h)) (Kd.C_alloc hC2.out _) hxf hL hcap).mono ?_)
        · exact cell_grown (hg.out.trans hga) hb.out (fun e => hne (by injection e))
        · rintro e w' ⟨h1, h2, h3⟩
          exact ⟨h1, h2, hga.trans h3⟩
      go_wp2_with fail
      refine hcall.out.mono ?_
      rintro e w3 ⟨rfl, hR3, hg3⟩
      have hR3 := Aside0.mk hR3
      have hg3 := Aside0.mk (hg.out.trans hg3)
      go_wp2_with fail
      go_roundw
      case rel => exact ⟨k + 1, by omega, by go_num, hR3, hg3⟩
      case measure => simp [intOf]; omega
    · go_wp2_with fail
      go_end0
      have hkM : k = M := by omega
      subst hkM
      rw [List.take_of_length_le (by rw [hM.out]; exact Nat.le_refl _)] at hR
      exact ⟨rfl, hR.out, hg.out⟩
end Go.Proofs.Ytolighikimpbfaa
