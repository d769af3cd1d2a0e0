/- Calls as they came in; few. -/
import Derived.Test.YtolighikimpbfaaDk
set_option linter.unusedVariables false
set_option linter.unusedSimpArgs false
namespace Go.Proofs.Ytolighikimpbfaa
open Go.RowKit Go.Shelf Go.Proofs.YtolighikimpbfaaW.PrintWords Go.Proofs.YtolighikimpbfaaW.PrintMore

/-- A call, as the law's Act tells it. -/
structure Act where
  kind : Int
  at_ : Int
  n : Int
  b : List UInt8
  keep : Int
  torn : Int
abbrev ak : Kd (Int × Int × Int × List Int × Int × Int) := Kd.pair (Kd.int .i64) (Kd.pair (Kd.int .i64) (Kd.pair (Kd.int .i64) (Kd.pair (Kd.slice 5 u8) (Kd.pair (Kd.int .i64) (Kd.int .i64)))))
def encA (x : Act) : Int × Int × Int × List Int × Int × Int := (x.kind, x.at_, x.n, toI x.b, x.keep, x.torn)
def encAs (l : List Act) : List (Int × Int × Int × List Int × Int × Int) := l.map encA
theorem encAs_length (l : List Act) : (encAs l).length = l.length := by simp [encAs]
theorem encAs_get (l : List Act) (k : Nat) (hk : k < l.length) (z : Int × Int × Int × List Int × Int × Int) : (encAs l).getD k z = encA l[k] := by simp [encAs, List.getD_eq_getElem?_getD, hk]
theorem heap_ak : Kd.Heap ak := Kd.heap_pair (Kd.heap_int _) (Kd.heap_pair (Kd.heap_int _) (Kd.heap_pair (Kd.heap_int _) (Kd.heap_pair (Kd.heap_slice 5 (Kd.heap_int _)) (Kd.heap_pair (Kd.heap_int _) (Kd.heap_int _)))))
/-- Whole numbers are as Go's are. -/
structure Act.Ok (x : Act) : Prop where
  kind : -9223372036854775808 ≤ x.kind ∧ x.kind ≤ 9223372036854775807
  at_ : -9223372036854775808 ≤ x.at_ ∧ x.at_ ≤ 9223372036854775807
  n : -9223372036854775808 ≤ x.n ∧ x.n ≤ 9223372036854775807
  keep : -9223372036854775808 ≤ x.keep ∧ x.keep ≤ 9223372036854775807
  torn : -9223372036854775808 ≤ x.torn ∧ x.torn ≤ 9223372036854775807
theorem addr_add_add2 (a : Addr) (i j : Nat) : (a.add i).add (j + 1) = a.add (i + (j + 1)) := by
  unfold Addr.add
  by_cases h : i = 0 <;> simp [h, Nat.add_assoc]
theorem addr_add_addn (a : Addr) (i j : Nat) : (a.add i).add (j + 1) = ⟨(a.add i).block, (a.add i).off + (j + 1), none⟩ := by simp [Addr.add]
/-- A call, as it lies. -/
theorem act_at {W : World} {A : Option Addr} {l : List Act} (h : ak.C W A l.length (encAs l)) (k : Nat) (hk : k < l.length) :
    ∃ ad A2 c2, A = some ad ∧ l[k].b.length ≤ c2 ∧ u8.C W A2 l[k].b.length (toI l[k].b) ∧ ∃ B O sp, ad.add (k * 6) = ⟨B, O, sp⟩ ∧ W.cell? ⟨B, O, sp⟩ = some (.int .i64 l[k].kind) ∧ W.cell? ⟨B, O + 1, none⟩ = some (.int .i64 l[k].at_) ∧ W.cell? ⟨B, O + 2, none⟩ = some (.int .i64 l[k].n) ∧
      W.cell? ⟨B, O + 3, none⟩ = some (.slice A2 l[k].b.length c2) ∧ W.cell? ⟨B, O + 4, none⟩ = some (.int .i64 l[k].keep) ∧ W.cell? ⟨B, O + 5, none⟩ = some (.int .i64 l[k].torn) := by
  obtain ⟨ad, c, e, hl, hK, hc⟩ := Kd.C_get h (0, 0, 0, [], 0, 0) (k : Int) (by omega) (by omega)
  rw [show ((k : Int)).toNat = k from rfl, encAs_get _ _ hk] at hK
  obtain ⟨a0, r0, rfl, h0, a1, r1, rfl, h1, a2, r2, rfl, h2, a3, r3, rfl, h3, a4, a5, rfl, h4, h5⟩ := hK
  obtain ⟨A2, c2, rfl, hlc, hC⟩ := h3
  have e0 : a0 = [.int .i64 l[k].kind] := h0
  have e1 : a1 = [.int .i64 l[k].at_] := h1
  have e2 : a2 = [.int .i64 l[k].n] := h2
  have e4 : a4 = [.int .i64 l[k].keep] := h4
  have e5 : a5 = [.int .i64 l[k].torn] := h5
  subst e0; subst e1; subst e2; subst e4; subst e5
  rw [show (encA l[k]).2.2.2.1 = toI l[k].b from rfl, toI_length] at hlc hC hc
  have step : ∀ j u, ([.int .i64 l[k].kind] ++ ([.int .i64 l[k].at_] ++ ([.int .i64 l[k].n] ++ ([.slice A2 l[k].b.length c2] ++ ([.int .i64 l[k].keep] ++ [.int .i64 l[k].torn])))) : List Value)[j + 1]? = some u → W.cell? ⟨(ad.add (k * 6)).block, (ad.add (k * 6)).off + (j + 1), none⟩ = some u := by
    intro j u hu
    rw [← addr_add_addn, show (ad.add (k * 6)).add (j + 1) = ad.add (k * 6 + (j + 1)) from addr_add_add2 ad _ _]
    exact hc (j + 1) u hu
  exact ⟨ad, A2, c2, e, hlc, hC, (ad.add (k * 6)).block, (ad.add (k * 6)).off, (ad.add (k * 6)).spot, rfl, hc 0 _ rfl, step 0 _ rfl, step 1 _ rfl, step 2 _ rfl, step 3 _ rfl, step 4 _ rfl⟩
/-- No more than is done here. -/
def Few (size : Int) (l : List Act) : Prop := size ≤ 300 ∧ l.length ≤ 40 ∧ ∀ x ∈ l, x.b.length ≤ 100
instance (size : Int) (l : List Act) : Decidable (Few size l) := by unfold Few; exact inferInstance
set_option maxHeartbeats 1000000 in
theorem few_calls (size : Int) (A : Option Addr) (c : Nat) (l : List Act) (w : World) (hC : ak.C w A l.length (encAs l)) (hlc : l.length ≤ c) :
    Calls Try.prog 9 #[.int .i64 size, .slice A l.length c] w fun e w' => e = .returned (.bool (decide (Few size l))) ∧ w = w' := by
  have hC := Aside0.mk hC
  obtain ⟨M, hM⟩ : ∃ M, l.length = M := ⟨_, rfl⟩
  rw [hM]
  have hM := Aside0.mk hM
  have hmax := Kd.C_max hC.out
  rw [hM.out] at hmax hlc
  by_cases h1 : 300 < size
  · have d1 : decide (300 < size) = true := by simpa using h1
    have hno := Aside0.mk (show decide (Few size l) = false from decide_eq_false (fun h => by have := h.1; omega))
    rw [hno.out]
    clear h1 hno
    go_enter Try.func9, Try.ntmps9
    go_wp2
    go_ret
    exact ⟨rfl, rfl⟩
  have d1 : decide (300 < size) = false := by simpa using h1
  by_cases h2 : 40 < M
  · have d2 : decide ((40 : Int) < (M : Int)) = true := by simp; omega
    have hno := Aside0.mk (show decide (Few size l) = false from decide_eq_false (fun h => by have := h.2.1; have := hM.out; omega))
    rw [hno.out]
    clear h1 h2 hno
    go_enter Try.func9, Try.ntmps9
    go_wp2
    go_ret
    exact ⟨rfl, rfl⟩
  have d2 : decide ((40 : Int) < (M : Int)) = false := by simp; omega
  have h300 := Aside0.mk (show size ≤ 300 by omega)
  clear h1
  go_enter Try.func9, Try.ntmps9
  go_wp2
  go_loop [5] (fun s5 => ∃ k : Nat, k ≤ M ∧ s5 = .int .i64 k ∧ Aside0 (∀ x ∈ l.take k, x.b.length ≤ 100)) (fun s5 => M - (intOf s5).toNat)
  case atStart => exact ⟨0, Nat.zero_le _, rfl, ⟨by simp⟩⟩
  case round =>
    obtain ⟨k, hk, rfl, hall⟩ := hrel
    by_cases hlt : k < M
    · have hkw : k < l.length := by rw [hM.out]; exact hlt
      obtain ⟨ad, A2, c2, e, hlc2, hC2, B, O, sp, hak, p0, p1, p2, p3, p4, p5⟩ := act_at hC.out k hkw
      subst e
      have hnx := Aside0.mk (List.take_succ_eq_append_getElem hkw)
      have hmem := Aside0.mk (List.getElem_mem hkw)
      obtain ⟨x, hx⟩ : ∃ x, l[k] = x := ⟨_, rfl⟩
      rw [hx] at hlc2 p0 p1 p2 p3 p4 p5 hnx hmem
      clear hx hkw hC2
      by_cases h3 : 100 < x.b.length
      · have d3 : decide ((100 : Int) < (x.b.length : Int)) = true := by simp; omega
        have hno := Aside0.mk (show decide (Few size l) = false from decide_eq_false (fun h => by have := h.2.2 x hmem.out; omega))
        go_wp2_with fail
        go_ret
        exact ⟨by rw [hno.out]; rfl, rfl⟩
      · have d3 : decide ((100 : Int) < (x.b.length : Int)) = false := by simp; omega
        go_wp2_with fail
        go_round
        case rel => exact ⟨k + 1, by omega, by go_num, ⟨by rw [hnx.out]; intro y hy; rcases List.mem_append.1 hy with hy | hy; exact hall.out y hy; simp only [List.mem_singleton] at hy; subst hy; omega⟩⟩
        case measure => simp [intOf]; omega
    · have hkM : k = M := by omega
      subst hkM
      have hyes := Aside0.mk (show decide (Few size l) = true from decide_eq_true (by
        have h9 := hall.out
        rw [List.take_of_length_le (by rw [hM.out]; exact Nat.le_refl _)] at h9
        exact ⟨h300.out, by rw [hM.out]; omega, h9⟩))
      go_wp2_with fail
      go_ret
      exact ⟨by rw [hyes.out]; rfl, rfl⟩
end Go.Proofs.Ytolighikimpbfaa
