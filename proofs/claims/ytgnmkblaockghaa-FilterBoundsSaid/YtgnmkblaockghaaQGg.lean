/- The reader's filter. -/
import Derived.Test.YtgnmkblaockghaaQGf
import Derived.Test.YtgnmkblaockghaaQW
set_option linter.unusedVariables false
set_option linter.unusedSimpArgs false
namespace Go.Proofs.Ytgnmkblaockghaa
open Go.RowKit Go.Shelf Go.Proofs.YtgnmkblaockghaaW.PrintWords Go.Proofs.YtgnmkblaockghaaW.PrintMore Go.Proofs.YtgnmkblaockghaaW.PrintLast

def opN (x : Int) : Int := if x = 38 then 0 else if x = 124 then 1 else if x = 33 then 2 else -1
theorem op_fin : ∀ t : Fin 256, Lib.indexByte [38, 124, 33] (t.val : Int).toNat.toUInt8 = opN (t.val : Int) := by decide +kernel
theorem op_idx (x : Int) (x0 : 0 ≤ x) (x1 : x < 256) : Lib.indexByte ({ data := #[38, 124, 33] } : ByteArray).data.toList x.toNat.toUInt8 = opN x := by
  have h := op_fin ⟨x.toNat, by omega⟩
  have e : ((x.toNat : Nat) : Int) = x := by omega
  simp only [e] at h
  exact h
theorem opN_range (x : Int) : -1 ≤ opN x ∧ opN x ≤ 2 := by unfold opN; split <;> (try split) <;> (try split) <;> omega
/-- Filters one behind the other, while there are any; j: no more than so many. -/
def loopF (g : Nat → Nat → Option (Ft × Nat × Nat)) (s : ByteArray) : Nat → Nat → Nat → List Ft → Option (List Ft × Nat × Nat)
  | 0, _, _, _ => none
  | j + 1, k, n, acc => if k < s.size then (if bt s (k : Int) = 40 then (g k n).bind fun r => loopF g s j r.2.1 r.2.2 (acc ++ [r.1]) else some (acc, k, n)) else none
/-- Behind what there is of a filter: the end of it. -/
def endF (s : ByteArray) (r : Ft × Nat × Nat) : Option (Ft × Nat × Nat) := if r.2.1 < s.size ∧ bt s (r.2.1 : Int) = 41 ∧ aloneOk r.1 = true then some (r.1, r.2.1 + 1, r.2.2) else none
/-- A filter from a place on, with so many levels left, so many begun before. -/
def filtF : Nat → ByteArray → Nat → Nat → Option (Ft × Nat × Nat)
  | 0, _, _, _ => none
  | m + 1, s, k, n =>
    if n + 1 ≤ 200 then
      if k < s.size ∧ bt s (k : Int) = 40 then
        if k + 1 < s.size then
          if 0 ≤ opN (bt s ((k + 1 : Nat) : Int)) then
            (loopF (filtF m s) s (s.size + 1) (k + 2) (n + 1) []).bind fun r => endF s (⟨1 + opN (bt s ((k + 1 : Nat) : Int)), r.1, ⟨#[]⟩, ⟨#[]⟩⟩, r.2.1, r.2.2)
          else (plainF s (k + 1)).bind fun r => endF s (r.1, r.2, n + 1)
        else none
      else none
    else none
theorem loop_less {g : Nat → Nat → Option (Ft × Nat × Nat)} {s : ByteArray} (hg : ∀ k n r, g k n = some r → k < r.2.1 ∧ n < r.2.2 ∧ r.2.2 ≤ 200) : ∀ j k n acc r, n ≤ 200 → loopF g s j k n acc = some r → k ≤ r.2.1 ∧ n ≤ r.2.2 ∧ r.2.2 ≤ 200 := by
  intro j
  induction j with
  | zero => intro k n acc r _ h; rw [loopF] at h; cases h
  | succ j ih =>
    intro k n acc r hn h
    rw [loopF] at h
    split at h
    · split at h
      · obtain ⟨q, h1, h2⟩ := Option.bind_eq_some_iff.1 h
        have h3 := hg k n q h1
        have h4 := ih _ _ _ _ h3.2.2 h2
        exact ⟨by omega, by omega, h4.2.2⟩
      · injection h with h; subst h; exact ⟨Nat.le_refl _, Nat.le_refl _, hn⟩
    · cases h
theorem end_less {s : ByteArray} {q r : Ft × Nat × Nat} (h : endF s q = some r) : r.2.1 = q.2.1 + 1 ∧ r.2.2 = q.2.2 := by
  unfold endF at h
  split at h
  · injection h with h; subst h; exact ⟨rfl, rfl⟩
  · cases h
theorem plain_less {s : ByteArray} {p : Nat} {r : Ft × Nat} (h : plainF s p = some r) : p < r.2 + 1 := by
  have hge : ∀ (n k : Nat), s.size - k = n → k ≤ eqAt s k := by
    intro n
    induction n with
    | zero => intro k hk; rw [eqAt_stop (by omega)]; exact Nat.le_refl _
    | succ n ih =>
      intro k hk
      by_cases c : bt s (k : Int) ≠ 61
      · have := ih (k + 1) (by omega); rw [eqAt_step (by omega) c] at this; omega
      · rw [eqAt_stop (fun h => c h.2)]; exact Nat.le_refl _
  unfold plainF at h
  split at h
  · obtain ⟨v, hv, hr⟩ := Option.map_eq_some_iff.1 h
    have h1 := (valF_at _ _ _ _ hv).2.2
    have h2 := hge _ p rfl
    split at hr
    · subst hr; simp; omega
    · subst hr; simp; omega
  · cases h
theorem filt_less (s : ByteArray) : ∀ m k n r, filtF m s k n = some r → k < r.2.1 ∧ n < r.2.2 ∧ r.2.2 ≤ 200 := by
  intro m
  induction m with
  | zero => intro k n r h; rw [filtF] at h; cases h
  | succ m ih =>
    intro k n r h
    rw [filtF] at h
    split at h
    · split at h
      · split at h
        · split at h
          · obtain ⟨q, h1, h2⟩ := Option.bind_eq_some_iff.1 h
            have h3 := loop_less ih _ _ _ _ _ (by omega) h1
            have h4 := end_less h2
            simp only at h4
            omega
          · obtain ⟨q, h1, h2⟩ := Option.bind_eq_some_iff.1 h
            have h3 := plain_less h1
            have h4 := end_less h2
            simp only at h4
            omega
        · cases h
      · cases h
    · cases h
/-- What the reader's filter ends in. -/
def FiltEnds (o : Option (Ft × Nat × Nat)) (R : Nat) (s : ByteArray) (w : World) (e : Ending) (w' : World) : Prop :=
  (match o with
    | some (x, k, n) => (∃ A c, e = .returned (fv x A c) ∧ x.f1.length ≤ c ∧ kF.F w' (fun q => w.heap.size ≤ q) A x.f1.length x.f1) ∧ RdAt w' R s k n
    | none => e = stopE) ∧ Mod (Only R) w w'
theorem FK_of {w : World} {ok : Nat → Prop} {x : Ft} {A : Option Addr} {c : Nat} (lo : x.f1.length ≤ c) (co : kF.F w ok A x.f1.length x.f1) : Kd.FK kF w ok x [.int .i64 x.f0, .slice A x.f1.length c, .string x.f2, .string x.f3] := fun W' hW => PFilterBounds.k25_mk W' x lo (co W' hW)
set_option maxRecDepth 20000 in
set_option maxHeartbeats 16000000 in
theorem filter_calls (s : ByteArray) (hs : s.size ≤ 12000) (m : Nat) : ∀ (d : Nat), d + m = 17 → ∀ (R k n : Nat) (w : World), RdAt w R s k n → n ≤ 200 →
    Calls Try.prog 43 #[.pointer (some ⟨R, 0, none⟩), .int .i64 (d : Int)] w (FiltEnds (filtF m s k n) R s w) := by
  induction m with
  | zero =>
    intro d hd R k n w h hn
    obtain rfl : d = 17 := by omega
    have hRlt := h.lt
    have hB1 := fbox_new w 25 (.int .i64 0) (.slice none 0 0) (.string ⟨#[]⟩) (.string ⟨#[]⟩)
    have hb1 := below_alloc (Below.refl w.heap.size w) (.cells #[.int .i64 0, .slice none 0 0, .string ⟨#[]⟩, .string ⟨#[]⟩] 25)
    obtain ⟨w1, hw1⟩ : ∃ w1, w.alloc (.cells #[.int .i64 0, .slice none 0 0, .string ⟨#[]⟩, .string ⟨#[]⟩] 25) = w1 := ⟨_, rfl⟩
    obtain ⟨V0, hV0⟩ : ∃ V0, w.heap.size = V0 := ⟨_, rfl⟩
    rw [hw1] at hB1 hb1
    rw [hV0] at hB1 hRlt
    have h1 := h.below hb1
    have c2 := h1.c2
    have z2 := h1.z2
    have h2 : RdAt (w1.setCell ⟨R, 2, none⟩ (.int .i64 ((n : Int) + 1))) R s k (n + 1) := h1.setN (n + 1)
    have hms : Mod (Only R) w1 (w1.setCell ⟨R, 2, none⟩ (.int .i64 ((n : Int) + 1))) := setAt_mod w1 R 2 _
    obtain ⟨w2, hw2⟩ : ∃ wn, w1.setCell ⟨R, 2, none⟩ (.int .i64 ((n : Int) + 1)) = wn := ⟨_, rfl⟩
    rw [hw2] at h2 hms
    have d2 : w2.cell? ⟨R, 2, none⟩ = some (.int .i64 ((n : Int) + 1)) := h2.c2
    have hB2 := Aside0.mk (hB1.mod hms (show ¬ V0 = R by omega))
    have hm2 := Aside0.mk ((Mod.of_below (S := Only R) hb1).trans hms (fun q hq => .inl hq))
    replace h2 := Aside0.mk h2
    clear hB1 hb1 h1 hms h
    rw [filtF]
    go_enter Try.func43, Try.ntmps43
    go_wp2_with fail
    refine (must_no _).mono ?_
    rintro e wy ⟨rfl, rfl⟩
    go_wp2_with fail
    exact ⟨rfl, rfl, hm2.out⟩
  | succ m ih =>
    intro d hd R k n w h hn
    have hd16 : d ≤ 16 := by omega
    have q1 : decide ((d : Int) ≤ 16) = true := decide_eq_true (by omega)
    have hF : filtF (m + 1) s k n = _ := filtF.eq_2 s k n m
    obtain ⟨res, hre⟩ : ∃ res, filtF (m + 1) s k n = res := ⟨_, rfl⟩
    rw [hre] at hF ⊢
    clear hre
    replace ih := Aside0.mk ih
    have hRlt := h.lt
    have hB1 := fbox_new w 25 (.int .i64 0) (.slice none 0 0) (.string ⟨#[]⟩) (.string ⟨#[]⟩)
    have hb1 := below_alloc (Below.refl w.heap.size w) (.cells #[.int .i64 0, .slice none 0 0, .string ⟨#[]⟩, .string ⟨#[]⟩] 25)
    obtain ⟨w1, hw1⟩ : ∃ w1, w.alloc (.cells #[.int .i64 0, .slice none 0 0, .string ⟨#[]⟩, .string ⟨#[]⟩] 25) = w1 := ⟨_, rfl⟩
    obtain ⟨V0, hV0⟩ : ∃ V0, w.heap.size = V0 := ⟨_, rfl⟩
    rw [hw1] at hB1 hb1
    rw [hV0] at hB1 hRlt
    have h1 := h.below hb1
    have c2 := h1.c2
    have z2 := h1.z2
    have h2 : RdAt (w1.setCell ⟨R, 2, none⟩ (.int .i64 ((n : Int) + 1))) R s k (n + 1) := h1.setN (n + 1)
    have hms : Mod (Only R) w1 (w1.setCell ⟨R, 2, none⟩ (.int .i64 ((n : Int) + 1))) := setAt_mod w1 R 2 _
    obtain ⟨w2, hw2⟩ : ∃ wn, w1.setCell ⟨R, 2, none⟩ (.int .i64 ((n : Int) + 1)) = wn := ⟨_, rfl⟩
    rw [hw2] at h2 hms
    have d2 : w2.cell? ⟨R, 2, none⟩ = some (.int .i64 ((n : Int) + 1)) := h2.c2
    have hB2 := Aside0.mk (hB1.mod hms (show ¬ V0 = R by omega))
    have hm2 := Aside0.mk ((Mod.of_below (S := Only R) hb1).trans hms (fun q hq => .inl hq))
    replace h2 := Aside0.mk h2
    clear hB1 hb1 h1 hms h
    by_cases hn2 : n + 1 ≤ 200
    · have q2 : decide ((n : Int) + 1 ≤ 200) = true := decide_eq_true (by omega)
      rw [if_pos hn2] at hF
      obtain ⟨n1, hn1⟩ : ∃ n1, n + 1 = n1 := ⟨_, rfl⟩
      rw [hn1] at hF h2
      have hn1' : n1 ≤ 200 := by omega
      replace hn1 := Aside0.mk hn1
      have htk := take_calls R k n1 s 40 w2 hs h2.out
      by_cases hop : k < s.size ∧ bt s (k : Int) = 40
      · have hte : takeF s k 40 = some (k + 1) := if_pos hop
        rw [hte] at htk
        rw [if_pos hop] at hF
        obtain ⟨k1, hk1⟩ : ∃ k1, k + 1 = k1 := ⟨_, rfl⟩
        rw [show k + 2 = k1 + 1 from by omega, hk1] at hF
        rw [hk1] at htk
        have hk1s : k1 ≤ s.size := by omega
        replace htk := Aside0.mk htk
        replace hF := Aside0.mk hF
        replace hk1 := Aside0.mk hk1
        replace hop := Aside0.mk hop
        clear hte
        go_enter Try.func43, Try.ntmps43
        go_wp2_with fail
        refine (must_yes _).mono ?_
        rintro e wy ⟨rfl, rfl⟩
        clear q1 q2
        go_wp2_with fail
        refine htk.out.mono ?_
        rintro e w3 ⟨⟨he, h3⟩, hm3⟩
        have he : e = .returned (.tuple #[]) := he
        subst he
        have h3 : RdAt w3 R s k1 n1 := h3
        have hB3 := hB2.out.mod hm3 (show ¬ V0 = R by omega)
        have hm03 := hm2.out.trans hm3 (fun j hj => .inl hj)
        have hB4 := fbox_new w3 25 (.int .i64 0) (.slice none 0 0) (.string ⟨#[]⟩) (.string ⟨#[]⟩)
        have hb4 := below_alloc (Below.refl w3.heap.size w3) (.cells #[.int .i64 0, .slice none 0 0, .string ⟨#[]⟩, .string ⟨#[]⟩] 25)
        obtain ⟨w4, hw4⟩ : ∃ w4, w3.alloc (.cells #[.int .i64 0, .slice none 0 0, .string ⟨#[]⟩, .string ⟨#[]⟩] 25) = w4 := ⟨_, rfl⟩
        obtain ⟨V, hV⟩ : ∃ V, w3.heap.size = V := ⟨_, rfl⟩
        rw [hw4] at hB4 hb4
        rw [hV] at hB4
        have hVV : V0 < V := by have := hB3.lt; omega
        have h4 := h3.below hb4
        have hX4 := Aside0.mk (hB3.below hb4)
        have hm04 := Aside0.mk (hm03.then_below hb4)
        have hB4 := Aside0.mk hB4
        have h4' := Aside0.mk h4
        clear htk hm3 h3 hB3 hm03 hb4 hm2 hB2 h2
        replace hF := hF.out
        by_cases hk2 : k1 < s.size
        · rw [if_pos hk2] at hF
          have hnx := Aside0.mk (next_yes R k1 n1 s w4 hs h4 hk2)
          obtain ⟨x0, x1⟩ := bt_range s (k1 : Int)
          obtain ⟨x, hx⟩ : ∃ x, bt s (k1 : Int) = x := ⟨_, rfl⟩
          rw [hx] at hnx hF x0 x1
          clear hx h4
          have hib := fun W => ib_calls { data := #[38, 124, 33] } x W
          rw [op_idx x x0 (by omega)] at hib
          replace hib := Aside0.mk hib
          obtain ⟨o0, o1⟩ := opN_range x
          obtain ⟨op, hope⟩ : ∃ op, opN x = op := ⟨_, rfl⟩
          rw [hope] at hib hF o0 o1
          clear hope
          by_cases hop0 : 0 ≤ op
          · have q3 : decide (0 ≤ op) = true := decide_eq_true hop0
            rw [if_pos hop0] at hF
            have hwop : wrap64 (1 + op) = 1 + op := by unfold wrap64; omega
            replace hF := Aside0.mk hF
            go_wp2_with fail
            refine hnx.out.mono ?_
            rintro e w5 ⟨rfl, hb5⟩
            have h5 := h4'.out.below hb5
            have hB5 := hB4.out.below hb5
            have hX5 := hX4.out.below hb5
            have hm05 := hm04.out.then_below hb5
            obtain ⟨b0, b1, b2, b3⟩ := hB5.cells
            obtain ⟨f0, f1, f2, f3⟩ := hB5.free
            have hB6 := hB5.set0 (.int .i64 (1 + op))
            have hm6 := set_mod w5 V 0 (.int .i64 (1 + op))
            obtain ⟨w6, hw6⟩ : ∃ wn, w5.setCell ⟨V, 0, none⟩ (.int .i64 (1 + op)) = wn := ⟨_, rfl⟩
            rw [hw6] at hB6 hm6
            have h6 := h5.mod hm6 (show ¬ R = V by omega)
            have hX6 := hX5.mod hm6 (show ¬ V0 = V by omega)
            have hm06 := hm05.trans hm6 (fun q hq => .inr (by have hz : q = V := hq; omega))
            have c1 := h6.c1
            have z1 := h6.z1
            have h7 : RdAt (w6.setCell ⟨R, 1, none⟩ (.int .i64 ((k1 : Int) + 1))) R s (k1 + 1) n1 := h6.set (k1 + 1)
            have hms : Mod (Only R) w6 (w6.setCell ⟨R, 1, none⟩ (.int .i64 ((k1 : Int) + 1))) := setAt_mod w6 R 1 _
            obtain ⟨w7, hw7⟩ : ∃ wn, w6.setCell ⟨R, 1, none⟩ (.int .i64 ((k1 : Int) + 1)) = wn := ⟨_, rfl⟩
            rw [hw7] at h7 hms
            have hB7 := Aside0.mk (hB6.mod hms (show ¬ V = R by omega))
            have hX7 := Aside0.mk (hX6.mod hms (show ¬ V0 = R by omega))
            have hm07 := Aside0.mk (hm06.trans hms (fun q hq => .inl hq))
            replace h7 := Aside0.mk h7
            clear h5 hB5 hX5 hm05 hB6 hm6 h6 hX6 hm06 hms hnx hB4 hX4 hm04 h4' hb5
            go_wp2_with fail
            refine (hib.out _).mono ?_
            rintro e wy ⟨rfl, rfl⟩
            go_wp2_with fail
            obtain ⟨K0, hK0⟩ : ∃ K0, 1 + op = K0 := ⟨_, rfl⟩
            rw [hK0] at hF hB7
            replace hK0 := Aside0.mk hK0
            clear b0 b1 b2 b3 f0 f1 f2 f3 c1 z1 hib q3
            obtain ⟨lo, hlo⟩ : ∃ lo, loopF (filtF m s) s (s.size + 1) (k1 + 1) n1 [] = lo := ⟨_, rfl⟩
            rw [hlo] at hF
            have hlo := Aside0.mk hlo
            go_loopw [] (fun wr => ∃ (j k2 n2 : Nat) (acc : List Ft) (iv : Value), Aside0 (s.size < j + k2) ∧ Aside0 (n2 ≤ 200) ∧ Aside0 (acc.length ≤ n2) ∧ Aside0 (loopF (filtF m s) s j k2 n2 acc = lo) ∧ Aside0 (RdAt wr R s k2 n2) ∧ Aside0 (FBox wr V 25 (.int .i64 K0) iv (.string ⟨#[]⟩) (.string ⟨#[]⟩)) ∧ Aside0 (FBox wr V0 25 (.int .i64 0) (.slice none 0 0) (.string ⟨#[]⟩) (.string ⟨#[]⟩)) ∧ Aside0 (Kd.N kF 25 wr 0 (fun q => V < q) iv acc) ∧ Aside0 (Mod (Only R) w wr)) (fun wr => s.size - atOf R wr)
            case atStart => exact ⟨s.size + 1, k1 + 1, n1, [], _, ⟨by omega⟩, ⟨hn1'⟩, ⟨Nat.zero_le _⟩, hlo, h7, hB7, hX7, ⟨Kd.N_nil _ _ _ _ _⟩, hm07⟩
            case round =>
              clear h7 hB7 hX7 hm07 hlo
              obtain ⟨j, k2, n2, acc, iv, hj, hn2, hac, hlo, hr, hB, hX, hN, hm⟩ := hrel
              obtain ⟨A9, c9, e⟩ := Kd.N_slice hN.out
              subst e
              obtain ⟨L9, hLe⟩ : ∃ L9, acc.length = L9 := ⟨_, rfl⟩
              have hcap := (Kd.N_reads' hN.out).2.1
              rw [hLe] at hB hN hac hcap
              have hLEN := Aside0.mk hLe
              have hCAP := Aside0.mk hcap
              clear hLe hcap
              obtain ⟨j', hj'⟩ : ∃ j', j = j' + 1 ∨ j = 0 := ⟨j - 1, by omega⟩
              by_cases hk3 : k2 < s.size
              · have hjp : j = j' + 1 := by have := hj.out; omega
                subst hjp
                have hlo1 := hlo.out
                rw [loopF, if_pos hk3] at hlo1
                have hnx := Aside0.mk (next_yes R k2 n2 s wr hs hr.out hk3)
                by_cases h40 : bt s (k2 : Int) = 40
                · rw [if_pos h40] at hlo1
                  replace hlo1 := Aside0.mk hlo1
                  rw [h40] at hnx
                  go_wp2_with fail
                  refine hnx.out.mono ?_
                  rintro e w8 ⟨rfl, hb8⟩
                  have hr8 := Aside0.mk (hr.out.below hb8)
                  have hB8 := Aside0.mk (hB.out.below hb8)
                  have hX8 := Aside0.mk (hX.out.below hb8)
                  have hN8 := Aside0.mk (Kd.N_below hN.out hb8)
                  have hm8 := Aside0.mk (hm.out.then_below hb8)
                  have hatr := Aside0.mk (atOf_rd hr.out)
                  clear hnx hb8 hr hB hX hN hm
                  have hcl := ih.out (d + 1) (by omega) R k2 n2 w8.drew (hr8.out.below (below_drew (Below.refl _ _))) hn2.out
                  rw [show ((d + 1 : Nat) : Int) = (d : Int) + 1 from rfl] at hcl
                  replace hcl := Aside0.mk hcl
                  have hwd : wrap64 ((d : Int) + 1) = (d : Int) + 1 := by unfold wrap64; omega
                  obtain ⟨_, a1, _, _⟩ := hB8.out.cells
                  go_wp2_with fail
                  refine start_ (n := 10) (S := fun w' => w'.cell? ⟨V, 1, none⟩ = some (.slice A9 L9 c9)) (ds := [9]) (B_ 10 0) (by kernel_rfl) rfl rfl (a1) (fun hHeld => ?_)
                  refine pn_ 0 44 (B_ 10 1) rfl rfl ?_
                  refine pn_ 2 46 (B_ 10 5) rfl rfl ?_
                  refine pn_ 3 47 (B_ 10 13) rfl rfl ?_
                  refine pn_ 4 48 (B_ 10 29) rfl rfl ?_
                  refine tk_ 1 45 (B_ 10 31) rfl rfl hHeld (by intro w' s0; go_simp; with_reducible rfl) ?_
                  refine one_ (i := 5) (N := some 49) (B_ 10 63) rfl rfl (by kernel_rfl) (by decide) (fun K hK => ?_)
                  refine goesP_ (f := 43) #[.pointer (some ⟨R, 0, none⟩), .int .i64 ((d : Int) + 1)] (by rfl) rfl (by go_simp) ?_
                  refine hcl.out.mono ?_
                  rintro e w9 ⟨he, hm9⟩
                  have hB9 := Aside0.mk ((show FBox w8.drew V 25 _ _ _ _ from hB8.out).mod hm9 (show ¬ V = R by omega))
                  have hX9 := Aside0.mk ((show FBox w8.drew V0 25 _ _ _ _ from hX8.out).mod hm9 (show ¬ V0 = R by omega))
                  have hN9 := Aside0.mk (Kd.N_step (Kd.N_drew hN8.out) (fun j hj hlt => hm9.block j hlt (fun e => by have e : j = R := e; omega)))
                  have hNl := Aside0.mk (Kd.N_lt hN8.out)
                  have hfm9 := Aside0.mk (hm8.out.drew.trans hm9 (fun q hq => .inl hq))
                  have hz9 := Aside0.mk (show w8.heap.size ≤ w9.heap.size from hm9.size)
                  rcases hvq : filtF m s k2 n2 with _ | r
                  · (rw [hvq] at he; refine .inr ⟨_, he, ?_⟩; have hln : lo = none := (by rw [← hlo1.out, hvq]; rfl); have hres : res = none := (by rw [hF.out, hln]; rfl); exact ⟨rfl, by rw [hres], hfm9.out⟩)
                  rw [hvq] at he
                  obtain ⟨x6, k6, n6⟩ := r
                  obtain ⟨⟨A6, c6, rfl, hc6, hF6⟩, hr9⟩ := he
                  refine .inl ⟨.agg #[.int .i64 x6.f0, .slice A6 x6.f1.length c6, .string x6.f2, .string x6.f3], rfl, ?_⟩
                  have hrl := Aside0.mk (show k2 < k6 ∧ n2 < n6 ∧ n6 ≤ 200 from filt_less s m k2 n2 (x6, k6, n6) hvq)
                  have hst := Aside0.mk (show loopF (filtF m s) s j' k6 n6 (acc ++ [x6]) = lo by rw [← hlo1.out, hvq]; rfl)
                  replace hF6 := Aside0.mk hF6
                  replace hr9 := Aside0.mk hr9
                  replace hc6 := Aside0.mk hc6
                  clear hm9 hvq
                  refine hK.out _ _ (hB9.out.cells.2.1) (fun hHeld => ?_)
                  clear hK K
                  refine nm_ 49 ?_
                  refine one_ (i := 6) (N := some 50) (B_ 10 127) rfl rfl (by kernel_rfl) (by decide) (fun K hK => ?_)
                  refine value_ (w1 := ?_) (v := ?_) (by rfl) rfl ?_ ?_
                  rotate_left 2
                  · go_simp
                    constructor
                    · rfl
                    · rfl
                  refine hK.out _ _ ((by have h := hHeld; first | exact h | (rw [show World.cell? _ _ = some (.slice A9 L9 c9) from ((hB9.out.below (below_alloc (Below.refl _ w9) _)).cells.2.1)]))) (fun hHeld => ?_)
                  clear hK K
                  refine nm_ 50 ?_
                  refine one_ (i := 7) (N := some 51) (B_ 10 255) rfl rfl (by kernel_rfl) (by decide) (fun K hK => ?_)
                  refine Kd.N_append_step kF (w0 := w9) 0 (by rfl) (.tmp 45) (.tmp 50) 23 25 (.agg #[.int .i64 0, .slice none 0 0, .string ⟨#[]⟩, .string ⟨#[]⟩]) 64 rfl Try.underlying23 PFilterBounds.info25 rfl (by decide) (by decide) (.slice A9 L9 c9) acc x6 [.int .i64 x6.f0, .slice A6 x6.f1.length c6, .string x6.f2, .string x6.f3] (fun q => V < q) (fun q => w8.drew.heap.size ≤ q) rfl rfl (FK_of hc6.out hF6.out) (fun j hj => ⟨by have := hB8.out.lt; have : w8.heap.size ≤ j := hj; omega, fun e => by have := hNl.out j e.symm; have : w8.heap.size ≤ j := hj; omega⟩) (fun j hj => by have := hB8.out.lt; have := hz9.out; omega) hN9.out (Below.refl _ _) (Nat.zero_le _) (by have := hac.out; have := hLEN.out; have := hn2.out; omega) ?_
                  intro v1 w10 hN10 _ hg _
                  have hm10 := Aside0.mk (Mod.of_grown (S := fun q => V < q) hg (fun j hj => .inl (hN9.out.1 j hj)))
                  have hB10 := Aside0.mk (hB9.out.mod hm10.out (by omega))
                  obtain ⟨A5, c5, ev⟩ := Kd.N_slice hN10
                  subst ev
                  obtain ⟨_, q10, _, _⟩ := hB10.out.cells
                  obtain ⟨_, q11, _, _⟩ := hB10.out.free
                  obtain ⟨N9, hN9e⟩ : ∃ N9, (acc ++ [x6]).length = N9 := ⟨_, rfl⟩
                  rw [hN9e] at hN10
                  rw [hN9e]
                  replace hN9e := Aside0.mk hN9e
                  replace hN10 := Aside0.mk hN10
                  clear hg
                  refine hK.out _ _ (q10) (fun hHeld => ?_)
                  clear hK K
                  refine nm_ 51 ?_
                  refine pn_ 8 52 (B_ 10 511) rfl rfl ?_
                  refine last_ (i := 9) (N := none) (B_ 10 1023) rfl rfl (by kernel_rfl) (by decide) (fun K hK => ?_)
                  refine skip_ (w1 := ?_) (by rfl) rfl ?_ ?_
                  rotate_left
                  · go_simp
                    rfl
                  refine hK.out _ _ ?_
                  clear hK K
                  refine done_ (by kernel_rfl) ?_
                  have hB11 := Aside0.mk (hB10.out.set1 (.slice A5 N9 c5))
                  have hm11 := Aside0.mk (set_mod w10 V 1 (.slice A5 N9 c5))
                  obtain ⟨w11, hw11⟩ : ∃ wn, w10.setCell ⟨V, 1, none⟩ (.slice A5 N9 c5) = wn := ⟨_, rfl⟩
                  rw [hw11] at hB11 hm11 ⊢
                  have hX11 := Aside0.mk ((hX9.out.mod hm10.out (by omega)).mod hm11.out (show ¬ V0 = V by omega))
                  have hr11 := Aside0.mk ((hr9.out.mod hm10.out (by omega)).mod hm11.out (show ¬ R = V by omega))
                  have hN11 := Aside0.mk (Kd.N_step hN10.out (fun j hj hlt => hm11.out.block j hlt (fun e => by have e : j = V := e; omega)))
                  have hfm11 := Aside0.mk ((hfm9.out.trans hm10.out (fun q hq => .inr (by omega))).trans hm11.out (fun q hq => .inr (by have hz : q = V := hq; omega)))
                  have hms' := Aside0.mk (show s.size - atOf R w11 < s.size - atOf R wr from by rw [atOf_rd hr11.out, hatr.out]; have := hrl.out.1; omega)
                  have hj2 : Aside0 (s.size < j' + k6) := ⟨by have := hj.out; have := hrl.out.1; omega⟩
                  have hn3 : Aside0 (n6 ≤ 200) := ⟨hrl.out.2.2⟩
                  have hac2 : Aside0 ((acc ++ [x6]).length ≤ n6) := ⟨by have := hac.out; have := hLEN.out; have := hrl.out.2.1; simp; omega⟩
                  clear hw11 hm11 hm10 hN10 hB10 hB9 hX9 hN9 hfm9 hr9 hlo hlo1 hcl hr8 hB8 hX8 hN8 hm8 hatr hrl a1 q10 q11
                  go_wp2_with fail
                  go_roundw
                  case rel => exact ⟨j', k6, n6, acc ++ [x6], _, hj2, hn3, hac2, hst, hr11, hB11, hX11, hN11, hfm11⟩
                  case measure => exact hms'.out
                · rw [if_neg h40] at hlo1
                  have hF2 := hF.out
                  rw [← hlo1] at hF2
                  have hfin : res = endF s (⟨K0, acc, ⟨#[]⟩, ⟨#[]⟩⟩, k2, n2) := hF2
                  unfold endF at hfin
                  dsimp only at hfin
                  obtain ⟨xq, hxq⟩ : ∃ xq, bt s (k2 : Int) = xq := ⟨_, rfl⟩
                  rw [hxq] at hnx h40
                  have m1 : (xq == 40) = false := by simpa using h40
                  have hFr := Kd.N_F hN.out
                  clear hlo1 hF2 hxq h40
                  replace hfin := Aside0.mk hfin
                  go_wp2_with fail
                  refine hnx.out.mono ?_
                  rintro e w8 ⟨rfl, hb8⟩
                  have hr8 := Aside0.mk (hr.out.below hb8)
                  have hB8 := Aside0.mk (hB.out.below hb8)
                  have hX8 := Aside0.mk (hX.out.below hb8)
                  have hF8 := Aside0.mk (Kd.F_below hFr hb8)
                  have hm8 := Aside0.mk (hm.out.then_below hb8)
                  clear hnx hb8 hr hB hX hN hm hFr
                  have htk := take_calls R k2 n2 s 41 w8 hs hr8.out
                  by_cases hend : k2 < s.size ∧ bt s (k2 : Int) = 41
                  · have hte : takeF s k2 41 = some (k2 + 1) := if_pos hend
                    rw [hte] at htk
                    replace htk := Aside0.mk htk
                    clear hte
                    go_wp2_with fail
                    refine htk.out.mono ?_
                    rintro e wt ⟨⟨he, ht1⟩, hmt⟩
                    have he : e = .returned (.tuple #[]) := he
                    subst he
                    have ht1 : RdAt wt R s (k2 + 1) n2 := ht1
                    have hVt := hB8.out.mod hmt (show ¬ V = R by omega)
                    have hBt := hX8.out.mod hmt (show ¬ V0 = R by omega)
                    have hFt := F_mod hF8.out hmt (fun j hj e => by have e : j = R := e; omega)
                    have hm2t := hm8.out.trans hmt (fun j hj => .inl hj)
                    obtain ⟨b0, b1, b2, b3⟩ := hVt.cells
                    have hal := alone_calls ⟨K0, acc, ⟨#[]⟩, ⟨#[]⟩⟩ A9 c9 wt (by show (0 : Nat) ≤ 12000; omega)
                    unfold fv at hal
                    dsimp only at hal
                    rw [hLEN.out] at hal
                    replace ht1 := Aside0.mk ht1
                    replace hVt := Aside0.mk hVt
                    replace hBt := Aside0.mk hBt
                    replace hFt := Aside0.mk hFt
                    replace hm2t := Aside0.mk hm2t
                    clear htk hmt
                    cases hao : aloneOk ⟨K0, acc, ⟨#[]⟩, ⟨#[]⟩⟩ with
                    | false =>
                      rw [hao] at hal
                      replace hal := Aside0.mk hal
                      have hres : Aside0 (res = none) := ⟨by rw [hfin.out, if_neg (by rintro ⟨_, _, h⟩; rw [hao] at h; cases h)]⟩
                      clear hao
                      go_wp2_with fail
                      refine hal.out.mono ?_
                      rintro e wa ⟨rfl, hba⟩
                      have hmz := Aside0.mk (hm2t.out.then_below hba)
                      clear hal hba
                      go_wp2_with fail
                      refine (must_no _).mono ?_
                      rintro e wy ⟨rfl, rfl⟩
                      go_wp2_with fail
                      exact ⟨rfl, by rw [hres.out], hmz.out⟩
                    | true =>
                      rw [hao] at hal
                      replace hal := Aside0.mk hal
                      have hres : Aside0 (res = some (⟨K0, acc, ⟨#[]⟩, ⟨#[]⟩⟩, k2 + 1, n2)) := ⟨by rw [hfin.out, if_pos ⟨hend.1, hend.2, hao⟩]⟩
                      clear hao
                      go_wp2_with fail
                      refine hal.out.mono ?_
                      rintro e wa ⟨rfl, hba⟩
                      have hVa := hVt.out.below hba
                      have hBa := hBt.out.below hba
                      have hFa := Kd.F_below hFt.out hba
                      have hta := ht1.out.below hba
                      have hma := hm2t.out.then_below hba
                      obtain ⟨d0, d1, d2, d3⟩ := hVa.cells
                      obtain ⟨g0, g1, g2, g3⟩ := hBa.cells
                      obtain ⟨f0, f1, f2, f3⟩ := hBa.free
                      obtain ⟨wf, hwf, hBf, hmf⟩ := put4 hBa (.int .i64 (K0)) (.slice A9 L9 c9) (.string ⟨#[]⟩) (.string ⟨#[]⟩)
                      obtain ⟨r0, r1, r2, r3⟩ := hBf.cells
                      have hrf := Aside0.mk (hta.mod hmf (show ¬ R = V0 by omega))
                      have hFf := Aside0.mk (F_mod hFa hmf (fun j hj e => by have e : j = V0 := e; omega))
                      have hmz := Aside0.mk (hma.trans hmf (fun q hq => .inr (by have hz : q = V0 := hq; omega)))
                      replace hBf := Aside0.mk hBf
                      clear hal hba b0 b1 b2 b3 hVt hBt hFt hm2t ht1 hVa hBa hFa hta hma hmf
                      go_wp2_with fail
                      refine (must_yes _).mono ?_
                      rintro e wy ⟨rfl, rfl⟩
                      go_wp2_with fail
                      refine bodyPost_ret (v := .agg #[.int .i64 (K0), .slice A9 L9 c9, .string ⟨#[]⟩, .string ⟨#[]⟩]) (by simp [results, Try.results43, go_sem, r0, r1, r2, r3]) rfl ?_
                      refine ⟨?_, hmz.out⟩
                      rw [hres.out]
                      exact ⟨⟨A9, c9, by unfold fv; dsimp only; rw [hLEN.out], by dsimp only; rw [hLEN.out]; exact hCAP.out, by dsimp only; rw [hLEN.out]; exact Kd.F_mono hFf.out (fun j hj => by omega)⟩, hrf.out⟩
                  · have hte : takeF s k2 41 = none := if_neg hend
                    rw [hte] at htk
                    replace htk := Aside0.mk htk
                    have hres : Aside0 (res = none) := ⟨by rw [hfin.out, if_neg (fun h => hend ⟨h.1, h.2.1⟩)]⟩
                    replace hend := Aside0.mk hend
                    clear hte
                    go_wp2_with fail
                    refine htk.out.mono ?_
                    rintro e wt ⟨rfl, hmt⟩
                    have hmz := Aside0.mk (hm8.out.trans hmt (fun j hj => .inl hj))
                    clear htk hmt
                    go_wp2_with fail
                    exact ⟨rfl, by rw [hres.out], hmz.out⟩
              · have hnx := Aside0.mk (next_no R k2 n2 s wr hs hr.out hk3)
                have hres : Aside0 (res = none) := ⟨by
                  have : lo = none := by
                    rw [← hlo.out]
                    cases j with
                    | zero => rw [loopF]
                    | succ j => rw [loopF, if_neg hk3]
                  rw [hF.out, this]; rfl⟩
                replace hk3 := Aside0.mk hk3
                go_wp2_with fail
                refine hnx.out.mono ?_
                rintro e w8 ⟨rfl, hb8⟩
                have hmz := Aside0.mk (hm.out.then_below hb8)
                clear hnx hb8
                go_wp2_with fail
                exact ⟨rfl, by rw [hres.out], hmz.out⟩
          · have q3 : decide (0 ≤ op) = false := decide_eq_false hop0
            rw [if_neg hop0] at hF
            replace hF := Aside0.mk hF
            go_wp2_with fail
            refine hnx.out.mono ?_
            rintro e w5 ⟨rfl, hb5⟩
            have h5 := h4'.out.below hb5
            have hB5 := Aside0.mk (hB4.out.below hb5)
            have hX5 := Aside0.mk (hX4.out.below hb5)
            have hm05 := Aside0.mk (hm04.out.then_below hb5)
            have hpl := plain_calls R k1 n1 s w5 hs h5 hk1s
            clear hnx hB4 hX4 hm04 h4' hb5
            go_wp2_with fail
            refine (hib.out _).mono ?_
            rintro e wy ⟨rfl, rfl⟩
            go_wp2_with fail
            clear hib q3
            have hnmz : ∀ r, plainF s k1 = some r → r.1.f2.size ≤ 12000 ∧ r.1.f1 = [] := by
              intro r hr
              unfold plainF at hr
              split at hr
              · obtain ⟨v, _, hv⟩ := Option.map_eq_some_iff.1 hr
                split at hv
                all_goals
                  subst hv
                  refine ⟨?_, rfl⟩
                  show (small _).size ≤ 12000
                  rw [small_size, extract_size (by omega)]
                  omega
              · cases hr
            replace hF := hF.out
            cases hpo : plainF s k1 with
            | none =>
              rw [hpo] at hpl hF
              have hres : Aside0 (res = none) := ⟨hF⟩
              replace hpl := Aside0.mk hpl
              clear hpo hF hnmz
              refine hpl.out.mono ?_
              rintro e w6 ⟨rfl, hm6⟩
              have hmz := Aside0.mk (hm05.out.trans hm6 (fun q hq => .inl hq))
              clear hpl hm6
              go_wp2_with fail
              exact ⟨rfl, by rw [hres.out], hmz.out⟩
            | some r =>
              rw [hpo] at hpl hF
              obtain ⟨hz1, hz2⟩ := hnmz r hpo
              obtain ⟨⟨K0, l0, nm, vs⟩, q⟩ := r
              obtain rfl : l0 = [] := hz2
              have hfin : res = endF s (⟨K0, [], nm, vs⟩, q, n1) := hF
              unfold endF at hfin
              dsimp only at hfin hz1 hpl
              replace hpl := Aside0.mk hpl
              replace hfin := Aside0.mk hfin
              clear hpo hF hnmz
              refine hpl.out.mono ?_
              rintro e w6 ⟨⟨he, h6⟩, hm6⟩
              have he : e = .returned (.agg #[.int .i64 K0, .slice none 0 0, .string nm, .string vs]) := he
              subst he
              have h6 : RdAt w6 R s q n1 := h6
              have hB6 := hB5.out.mod hm6 (show ¬ V = R by omega)
              have hX6 := hX5.out.mod hm6 (show ¬ V0 = R by omega)
              have hm06 := hm05.out.trans hm6 (fun q hq => .inl hq)
              obtain ⟨b0, b1, b2, b3⟩ := hB6.cells
              obtain ⟨f0, f1, f2, f3⟩ := hB6.free
              obtain ⟨w7, hw7, hB7, hm7⟩ := put4 hB6 (.int .i64 K0) (.slice none 0 0) (.string nm) (.string vs)
              have h8 := Aside0.mk (h6.mod hm7 (show ¬ R = V by omega))
              have hX8 := Aside0.mk (hX6.mod hm7 (show ¬ V0 = V by omega))
              have hm8 := Aside0.mk (hm06.trans hm7 (fun q hq => .inr (by have hz : q = V := hq; omega)))
              have hB8 := Aside0.mk hB7
              have hF8 : Aside0 (kF.F w7 (fun q => V < q) none 0 []) := ⟨Kd.F_nil _ _ _⟩
              clear hpl hm6 h6 hB6 hX6 hm06 hm7 hB7 hB5 hX5 hm05 h5
              go_wp2_with fail
              clear b0 b1 b2 b3 f0 f1 f2 f3
              have htk := take_calls R q n1 s 41 w7 hs h8.out
              by_cases hend : q < s.size ∧ bt s (q : Int) = 41
              · have hte : takeF s q 41 = some (q + 1) := if_pos hend
                rw [hte] at htk
                replace htk := Aside0.mk htk
                clear hte
                go_wp2_with fail
                refine htk.out.mono ?_
                rintro e wt ⟨⟨he, ht1⟩, hmt⟩
                have he : e = .returned (.tuple #[]) := he
                subst he
                have ht1 : RdAt wt R s (q + 1) n1 := ht1
                have hVt := hB8.out.mod hmt (show ¬ V = R by omega)
                have hBt := hX8.out.mod hmt (show ¬ V0 = R by omega)
                have hFt := F_mod hF8.out hmt (fun j hj e => by have e : j = R := e; omega)
                have hm2t := hm8.out.trans hmt (fun j hj => .inl hj)
                obtain ⟨b0, b1, b2, b3⟩ := hVt.cells
                have hal := alone_calls ⟨K0, [], nm, vs⟩ none 0 wt hz1
                unfold fv at hal
                dsimp only at hal
                simp only [List.length_nil] at hal
                replace ht1 := Aside0.mk ht1
                replace hVt := Aside0.mk hVt
                replace hBt := Aside0.mk hBt
                replace hFt := Aside0.mk hFt
                replace hm2t := Aside0.mk hm2t
                clear htk hmt
                cases hao : aloneOk ⟨K0, [], nm, vs⟩ with
                | false =>
                  rw [hao] at hal
                  replace hal := Aside0.mk hal
                  have hres : Aside0 (res = none) := ⟨by rw [hfin.out, if_neg (by rintro ⟨_, _, h⟩; rw [hao] at h; cases h)]⟩
                  clear hao
                  go_wp2_with fail
                  refine hal.out.mono ?_
                  rintro e wa ⟨rfl, hba⟩
                  have hmz := Aside0.mk (hm2t.out.then_below hba)
                  clear hal hba
                  go_wp2_with fail
                  refine (must_no _).mono ?_
                  rintro e wy ⟨rfl, rfl⟩
                  go_wp2_with fail
                  exact ⟨rfl, by rw [hres.out], hmz.out⟩
                | true =>
                  rw [hao] at hal
                  replace hal := Aside0.mk hal
                  have hres : Aside0 (res = some (⟨K0, [], nm, vs⟩, q + 1, n1)) := ⟨by rw [hfin.out, if_pos ⟨hend.1, hend.2, hao⟩]⟩
                  clear hao
                  go_wp2_with fail
                  refine hal.out.mono ?_
                  rintro e wa ⟨rfl, hba⟩
                  have hVa := hVt.out.below hba
                  have hBa := hBt.out.below hba
                  have hFa := Kd.F_below hFt.out hba
                  have hta := ht1.out.below hba
                  have hma := hm2t.out.then_below hba
                  obtain ⟨d0, d1, d2, d3⟩ := hVa.cells
                  obtain ⟨g0, g1, g2, g3⟩ := hBa.cells
                  obtain ⟨f0, f1, f2, f3⟩ := hBa.free
                  obtain ⟨wf, hwf, hBf, hmf⟩ := put4 hBa (.int .i64 (K0)) (.slice none 0 0) (.string nm) (.string vs)
                  obtain ⟨r0, r1, r2, r3⟩ := hBf.cells
                  have hrf := Aside0.mk (hta.mod hmf (show ¬ R = V0 by omega))
                  have hFf := Aside0.mk (F_mod hFa hmf (fun j hj e => by have e : j = V0 := e; omega))
                  have hmz := Aside0.mk (hma.trans hmf (fun q hq => .inr (by have hz : q = V0 := hq; omega)))
                  replace hBf := Aside0.mk hBf
                  clear hal hba b0 b1 b2 b3 hVt hBt hFt hm2t ht1 hVa hBa hFa hta hma hmf
                  go_wp2_with fail
                  refine (must_yes _).mono ?_
                  rintro e wy ⟨rfl, rfl⟩
                  go_wp2_with fail
                  refine bodyPost_ret (v := .agg #[.int .i64 (K0), .slice none 0 0, .string nm, .string vs]) (by simp [results, Try.results43, go_sem, r0, r1, r2, r3]) rfl ?_
                  refine ⟨?_, hmz.out⟩
                  rw [hres.out]
                  exact ⟨⟨none, 0, rfl, Nat.zero_le _, Kd.F_nil _ _ _⟩, hrf.out⟩
              · have hte : takeF s q 41 = none := if_neg hend
                rw [hte] at htk
                replace htk := Aside0.mk htk
                have hres : Aside0 (res = none) := ⟨by rw [hfin.out, if_neg (fun h => hend ⟨h.1, h.2.1⟩)]⟩
                replace hend := Aside0.mk hend
                clear hte
                go_wp2_with fail
                refine htk.out.mono ?_
                rintro e wt ⟨rfl, hmt⟩
                have hmz := Aside0.mk (hm8.out.trans hmt (fun j hj => .inl hj))
                clear htk hmt
                go_wp2_with fail
                exact ⟨rfl, by rw [hres.out], hmz.out⟩
        · rw [if_neg hk2] at hF
          have hnx := Aside0.mk (next_no R k1 n1 s w4 hs h4 hk2)
          have hres : Aside0 (res = none) := ⟨hF⟩
          replace hk2 := Aside0.mk hk2
          clear hF h4
          go_wp2_with fail
          refine hnx.out.mono ?_
          rintro e w5 ⟨rfl, hb5⟩
          have hmz := Aside0.mk (hm04.out.then_below hb5)
          clear hnx hb5
          go_wp2_with fail
          exact ⟨rfl, by rw [hres.out], hmz.out⟩
      · have hte : takeF s k 40 = none := if_neg hop
        rw [hte] at htk
        rw [if_neg hop] at hF
        have hres : Aside0 (res = none) := ⟨hF⟩
        replace htk := Aside0.mk htk
        replace hop := Aside0.mk hop
        clear hte hF
        go_enter Try.func43, Try.ntmps43
        go_wp2_with fail
        refine (must_yes _).mono ?_
        rintro e wy ⟨rfl, rfl⟩
        go_wp2_with fail
        refine htk.out.mono ?_
        rintro e w3 ⟨rfl, hm3⟩
        have hmz := Aside0.mk (hm2.out.trans hm3 (fun j hj => .inl hj))
        clear htk hm3
        go_wp2_with fail
        exact ⟨rfl, by rw [hres.out], hmz.out⟩
    · have q2 : decide ((n : Int) + 1 ≤ 200) = false := decide_eq_false (by omega)
      rw [if_neg hn2] at hF
      have hres : Aside0 (res = none) := ⟨hF⟩
      clear hF
      go_enter Try.func43, Try.ntmps43
      go_wp2_with fail
      refine (must_no _).mono ?_
      rintro e wy ⟨rfl, rfl⟩
      go_wp2_with fail
      exact ⟨rfl, by rw [hres.out], hm2.out⟩
end Go.Proofs.Ytgnmkblaockghaa
