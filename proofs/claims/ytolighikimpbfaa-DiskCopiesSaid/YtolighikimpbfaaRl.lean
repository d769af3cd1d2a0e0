/- The reference: bytes behind some writes. -/
import Derived.Test.YtolighikimpbfaaDo
import Derived.StillTailTactics
import Derived.WalkKit
set_option linter.unusedVariables false
set_option linter.unusedSimpArgs false
namespace Go.Proofs.Ytolighikimpbfaa
open Go.RowKit Go.Shelf Go.Proofs.YtolighikimpbfaaW.PrintWords Go.Proofs.YtolighikimpbfaaW.PrintMore

theorem over_step (xs ys : List UInt8) (a j : Nat) (hj : j < ys.length) (ha : a + ys.length ≤ xs.length) : over xs a (ys.take (j + 1)) = (over xs a (ys.take j)).set (a + j) ys[j] := by
  apply List.ext_getElem?
  intro i
  have l1 : (ys.take (j + 1)).length = j + 1 := by rw [List.length_take]; omega
  have l2 : (ys.take j).length = j := by rw [List.length_take]; omega
  have l3 := over_length xs a (ys.take j) (by omega)
  have la : (xs.take a).length = a := by rw [List.length_take]; omega
  have inside : ∀ (n : Nat), n ≤ ys.length → ∀ i, a ≤ i → i < a + n → (over xs a (ys.take n))[i]? = ys[i - a]? := by
    intro n hn i h1 h2
    have ln : (ys.take n).length = n := by rw [List.length_take]; omega
    unfold over
    rw [List.append_assoc, List.getElem?_append_right (by rw [la]; exact h1), la, List.getElem?_append_left (by rw [ln]; omega), List.getElem?_take_of_lt (by omega)]
  have outside : ∀ (n : Nat), n ≤ ys.length → ∀ i, (i < a ∨ a + n ≤ i) → (over xs a (ys.take n))[i]? = xs[i]? := by
    intro n hn i h
    have ln : (ys.take n).length = n := by rw [List.length_take]; omega
    unfold over
    rcases h with h | h
    · rw [List.append_assoc, List.getElem?_append_left (by rw [List.length_take]; omega), List.getElem?_take_of_lt h]
    · rw [List.getElem?_append_right (by rw [List.length_append, List.length_take]; omega), List.getElem?_drop]
      congr 1
      rw [List.length_append, List.length_take]
      omega
  by_cases e : a + j = i
  · subst e
    rw [List.getElem?_set_self (show a + j < (over xs a (ys.take j)).length by rw [l3]; omega), inside (j + 1) (by omega) _ (by omega) (by omega), Nat.add_sub_cancel_left, List.getElem?_eq_getElem hj]
  · rw [List.getElem?_set_ne e]
    by_cases h : a ≤ i ∧ i < a + j
    · rw [inside (j + 1) (by omega) i h.1 (by omega), inside j (by omega) i h.1 h.2]
    · rw [outside (j + 1) (by omega) i (by omega), outside j (by omega) i (by omega)]
set_option maxHeartbeats 2000000 in
theorem laid_calls (A A2 : Option Addr) (c c2 : Nat) (b : List UInt8) (l : List Wr) (w : World) (hC : u8.C w A b.length (toI b)) (hW : wk.C w A2 l.length (encWs l)) (fit : ∀ x ∈ l, x.at_ + x.b.length ≤ b.length) (hb : b.length ≤ 262144) (hl : l.length ≤ 1000000) :
    Calls Try.prog 40 #[.slice A b.length c, .slice A2 l.length c2] w fun e w' => ∃ v, e = .returned v ∧ u8.R 5 w' 0 (fun q => w.heap.size ≤ q) v (toI (laid b l)) ∧ Below w.heap.size w w' := by
  have hC := Aside0.mk hC
  have hW := Aside0.mk hW
  have fit := Aside0.mk fit
  obtain ⟨M, hM⟩ : ∃ M, l.length = M := ⟨_, rfl⟩
  obtain ⟨N, hN⟩ : ∃ N, b.length = N := ⟨_, rfl⟩
  rw [hM] at hl ⊢
  rw [hN] at hb
  have hCN := Aside0.mk (hN ▸ hC.out)
  rw [hN]
  have hM := Aside0.mk hM
  have hN := Aside0.mk hN
  have hE : Aside0 (u8.R 5 w 0 (fun q => w.heap.size ≤ q) (.slice none 0 0) []) := Aside0.mk (Kd.R_nil _ _ _ _ _)
  go_enter Try.func40, Try.ntmps40
  go_wp2_with ((with_reducible refine gate_builtin (b := .append) rfl ?_); at_builtin; refine Kd.R_append_rows u8 (w0 := w) 0 rfl (.const (.slice none 0 0)) (.tmp 8) 31 5 (.int .u8 0) 1 rfl Try.underlying31 info5 rfl (by decide) (by omega) (.slice none 0 0) [] (toI b) _ _ _ (fun q => w.heap.size ≤ q) (fun _ => False) rfl rfl hE.out hCN.out (fun _ _ h => h) (fun _ h => h.elim) (fun k hk => hk) (Below.refl _ _) (Nat.zero_le _) (by simp; omega) ?_; intro v1 w1 ho _ hg _; replace ho := Aside0.mk ho; replace hg := Aside0.mk hg)
  rw [List.nil_append] at ho
  have hb1 := Aside0.mk (Mod.below (S := fun q => w.heap.size ≤ q) (Mod.of_grown (S := fun q => w.heap.size ≤ q) hg.out (fun q hq => by simp [Value.ownBlock] at hq)) (fun q hq => hq) (Nat.le_refl _))
  clear hg
  go_loopw [6, 7] (fun s6 s7 wr => ∃ (i : Nat), i ≤ M ∧ s6 = .int .i64 i ∧ Aside0 (u8.R 5 wr 0 (fun q => w.heap.size ≤ q) v1 (toI (laid b (l.take i)))) ∧ Aside0 (Below w.heap.size w wr)) (fun s6 _ _ => M - (intOf s6).toNat)
  case atStart => exact ⟨0, Nat.zero_le _, rfl, ho, hb1⟩
  case round =>
    clear ho hb1
    obtain ⟨i, hi, rfl, ho, hb1⟩ := hrel
    by_cases hlt : i < M
    · have hkw : i < l.length := by rw [hM.out]; exact hlt
      obtain ⟨ad, A3, c3, e, hlc3, hC3, P0, O0, sp, hak, p0, p1⟩ := wr_at hW.out i hkw
      subst e
      have hfit := fit.out l[i] (List.getElem_mem hkw)
      have hnx := Aside0.mk (laid_next b l i hkw)
      have hlen : (laid b (l.take i)).length = N := (laid_length _ _ (fun z hz => fit.out z (List.mem_of_mem_take hz))).trans hN.out
      obtain ⟨t, hx⟩ : ∃ t, l[i] = t := ⟨_, rfl⟩
      rw [hx] at hlc3 hC3 p0 p1 hfit hnx
      rw [hN.out] at hfit
      obtain ⟨cur, hcur⟩ : ∃ cur, laid b (l.take i) = cur := ⟨_, rfl⟩
      rw [hcur] at ho hnx hlen
      clear hx hkw hcur
      have ho0 : Aside0 (u8.R 5 wr 0 (fun q => w.heap.size ≤ q) v1 (toI (over cur t.at_ (t.b.take 0)))) := Aside0.mk (by rw [List.take_zero, over_nil]; exact ho.out)
      have hC3 := Aside0.mk hC3
      have p0 := Aside0.mk p0
      have p1 := Aside0.mk p1
      have hlen := Aside0.mk hlen
      go_wp2_with fail
      go_loopw [7] (fun s7 wr => ∃ (j : Nat), j ≤ t.b.length ∧ s7 = .int .i64 j ∧ Aside0 (u8.R 5 wr 0 (fun q => w.heap.size ≤ q) v1 (toI (over cur t.at_ (t.b.take j)))) ∧ Aside0 (Below w.heap.size w wr)) (fun s7 _ => t.b.length - (intOf s7).toNat)
      case atStart => exact ⟨0, Nat.zero_le _, rfl, ho0, hb1⟩
      case round =>
        clear ho0 hb1 ho
        obtain ⟨j, hj, rfl, ho, hb1⟩ := hrel
        have r0 := pw_cell_below hb1.out p0.out
        have r1 := pw_cell_below hb1.out p1.out
        by_cases hjl : j < t.b.length
        · have hij : t.at_ + j < N := by omega
          have hol : (over cur t.at_ (t.b.take j)).length = N := (over_length _ _ _ (by rw [List.length_take, hlen.out]; omega)).trans hlen.out
          obtain ⟨gv, cv, e, hgv, _, _⟩ := R_form ho.out (by rw [toI_length, hol]; omega)
          rw [toI_length, hol] at e
          subst e
          obtain ⟨a3, e3, hc3⟩ := (Kd.C_below hC3.out hb1.out).2.2 (by omega)
          subst e3
          have rb := Kd.foot_int (Kd.C_below hC3.out hb1.out) (j : Int) (by omega) (by omega)
          have rz : rd (toI t.b) (j : Int) = ((t.b[j]).toNat : Int) := by simp [rd, toI, List.getD_eq_getElem?_getD, hjl]
          rw [rz, Int.toNat_natCast] at rb
          obtain ⟨cT, fT⟩ := Kd.R_celln 0 ho.out ((t.at_ + j : Nat) : Int) (by omega) (by omega)
          rw [Int.toNat_natCast] at cT fT
          obtain ⟨hp1, hp2⟩ := Kd.R_putg ho.out ((t.at_ + j : Nat) : Int) ((t.b[j]).toNat : Int)
          rw [Int.toNat_natCast] at hp1 hp2
          have hs : (toI (over cur t.at_ (t.b.take j))).set (t.at_ + j) ((t.b[j]).toNat : Int) = toI (over cur t.at_ (t.b.take (j + 1))) := by
            rw [over_step cur t.b t.at_ j hjl (by rw [hlen.out]; omega)]
            simp [toI, List.map_set]
          rw [hs] at hp1
          have ho2 := Aside0.mk hp1
          have hb2 := Aside0.mk (hb1.out.grown hp2 hb1.out.size (fun q hq => by injection hq with hq; omega))
          generalize ((t.b[j]).toNat : Int) = z at *
          clear hp1 hp2 hs rz hc3 hol
          obtain ⟨ix, hix⟩ : ∃ ix, t.at_ + j = ix := ⟨_, rfl⟩
          have f1 : IntKind.i64.wrap ((t.at_ : Int) + (j : Int)) = (ix : Int) := by
            rw [IntKind.wrap_i64]
            omega
          rw [hix] at cT fT ho2 hb2 hij
          clear hix
          go_wp2_with fail
          go_still_tail 17, (by kernel_rfl)
          change wpList _ _ _ _ _ wr.drew
          go_wp2_with fail
          go_roundw
          case rel => exact ⟨j + 1, by omega, by go_num, Aside0.mk (R_mod ho2.out (Mod.refl (fun _ => False) _).drew (fun _ _ h => h)), Aside0.mk (below_drew hb2.out)⟩
          case measure => simp [intOf]; omega
        · have hjj : j = t.b.length := by omega
          subst hjj
          rw [List.take_of_length_le (Nat.le_refl _), ← hnx.out] at ho
          go_wp2_with fail
          go_roundw
          case rel => exact ⟨i + 1, by omega, by go_num, ho, hb1⟩
          case measure => simp [intOf]; omega
    · have hiM : i = M := by omega
      subst hiM
      rw [List.take_of_length_le (by rw [hM.out]; exact Nat.le_refl _)] at ho
      go_wp2_with fail
      go_ret
      exact ⟨_, rfl, ho.out, hb1.out⟩
end Go.Proofs.Ytolighikimpbfaa
