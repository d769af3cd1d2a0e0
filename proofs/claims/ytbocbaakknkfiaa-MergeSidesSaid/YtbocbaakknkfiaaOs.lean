/- MergeSides: its plain law, and Three's answer, whatever it is. -/
import Derived.Test.YtbocbaakknkfiaaOr
import Derived.Test.YtbocbaakknkfiaaOp
set_option linter.unusedVariables false
set_option linter.unusedSimpArgs false
namespace Go.Proofs.Ytbocbaakknkfiaa
open Go.RowKit Go.Shelf Go.Proofs.YtbocbaakknkfiaaW.PrintWords Go.Proofs.YtbocbaakknkfiaaW.PrintMore Go.Proofs.YtbocbaakknkfiaaW.PrintLast

/-- What Three answers. -/
def ThreeOut (x y z L : Nat → Fld) (D : List Int) (e : Int) : Prop :=
  ((checkOk x && (checkOk y && checkOk z)) = true ∧ L = merged x y z ∧ D = disps x y z 8 ∧ e = 0) ∨ ((checkOk x && (checkOk y && checkOk z)) = false ∧ L = (fun _ => []) ∧ D = [] ∧ e = 2)
theorem three_any (x y z : CT) (w : World) (hx : x.In w) (hy : y.In w) (hz : z.In w) :
    Calls Try.prog 10 #[.agg (conV x.V), .agg (conV y.V), .agg (conV z.V)] w fun e w' => ∃ (t : CT) (A : Option Addr) (c : Nat) (D : List Int) (e0 : Int), e = .returned (.tuple #[.agg #[.slice (t.A 0) (t.L 0).length (t.c 0), .slice (t.A 1) (t.L 1).length (t.c 1), .slice (t.A 2) (t.L 2).length (t.c 2), .slice (t.A 3) (t.L 3).length (t.c 3), .slice (t.A 4) (t.L 4).length (t.c 4), .slice (t.A 5) (t.L 5).length (t.c 5), .slice (t.A 6) (t.L 6).length (t.c 6), .slice (t.A 7) (t.L 7).length (t.c 7)], .slice A D.length c, .int .i64 e0]) ∧ ThreeOut x.L y.L z.L t.L D e0 ∧ t.In w' ∧ (Kd.int .i64).C w' A D.length D ∧ Below w.heap.size w w' := by
  cases h : (checkOk x.L && (checkOk y.L && checkOk z.L)) with
  | true =>
    refine (three_some x y z w hx hy hz h).mono ?_
    rintro e w' ⟨t, A, c, rfl, htL, htI, hD, hb⟩
    exact ⟨t, A, c, _, 0, rfl, .inl ⟨h, htL, rfl, rfl⟩, htI, hD, hb⟩
  | false =>
    refine (three_no x y z w hx hy hz h).mono ?_
    rintro e w' ⟨rfl, hb⟩
    exact ⟨nilT, none, 0, [], 2, rfl, .inr ⟨h, rfl, rfl, rfl⟩, nilT_in _, Kd.C_nil _ _, hb⟩
theorem mem_disps {x y z : Nat → Fld} {n : Nat} (hn : n < 8) : (n : Int) ∈ disps x y z 8 ↔ dispF (x n) (y n) (z n) = true := by
  unfold disps
  rw [List.mem_map]
  constructor
  · rintro ⟨m, hm, e⟩
    have : m = n := by exact Int.ofNat.inj e
    subst this
    exact (List.mem_filter.1 hm).2
  · intro h
    exact ⟨n, List.mem_filter.2 ⟨List.mem_range.2 hn, h⟩, rfl⟩
theorem disp_sides (x y z : Fld) : dispF x y z = dispF x z y := by
  unfold dispF; rw [T_symm z y]; cases T y x <;> cases T z x <;> simp
theorem disps_sides (x y z : Nat → Fld) (k : Nat) : disps x y z k = disps x z y k := by
  unfold disps; congr 1; exact List.filter_congr fun i _ => disp_sides _ _ _
/-- What both ways of merging have in common. -/
structure Both (y z t u : Nat → Fld) (D : List Int) : Prop where
  out : ∀ n : Nat, n < 8 → (n : Int) ∉ D → T (t n) (u n) = true
  in_ : ∀ n : Nat, n < 8 → (n : Int) ∈ D → T (t n) (z n) = true ∧ T (u n) (y n) = true
theorem both_sides {x y z t u : Nat → Fld} {D D2 : List Int} {e e2 : Int} (h : ThreeOut x y z t D e) (h2 : ThreeOut x z y u D2 e2) : e = e2 ∧ D2 = D ∧ D.length ≤ 8 ∧ Both y z t u D := by
  rcases h with ⟨h, rfl, rfl, rfl⟩ | ⟨h, rfl, rfl, rfl⟩ <;> rcases h2 with ⟨h2, rfl, rfl, rfl⟩ | ⟨h2, rfl, rfl, rfl⟩
  · refine ⟨rfl, (disps_sides _ _ _ _).symm, disps_length _ _ _ _, ⟨fun n hn hd => ?_, fun n hn hd => ?_⟩⟩
    · rw [mem_disps hn] at hd
      have hd : dispF (x n) (y n) (z n) = false := by simpa using hd
      unfold merged
      cases h1 : takesA (x n) (y n) (z n) with
      | true =>
        have h3 : takesA (x n) (z n) (y n) = false := by
          cases h3 : takesA (x n) (z n) (y n) with
          | false => rfl
          | true => have := (takes_iff.1 h1).1; rw [(takes_iff.1 h3).2] at this; cases this
        rw [h3]; exact T_self _
      | false =>
        cases h3 : takesA (x n) (z n) (y n) with
        | true => exact T_self _
        | false =>
          show T (z n) (y n) = true
          cases hy : T (y n) (x n) with
          | true =>
            cases hz : T (z n) (x n) with
            | true => rw [T_congr_left hz, T_symm]; exact hy
            | false => rw [takes_iff.2 ⟨hz, hy⟩] at h3; cases h3
          | false =>
            cases hz : T (z n) (x n) with
            | true => rw [takes_iff.2 ⟨hy, hz⟩] at h1; cases h1
            | false =>
              cases hyz : T (y n) (z n) with
              | true => rw [T_symm]; exact hyz
              | false => rw [disp_iff.2 ⟨hy, hz, hyz⟩] at hd; cases hd
    · rw [mem_disps hn] at hd
      obtain ⟨d1, d2, d3⟩ := disp_iff.1 hd
      unfold merged
      have h1 : takesA (x n) (y n) (z n) = false := by
        cases h1 : takesA (x n) (y n) (z n) with
        | false => rfl
        | true => have := (takes_iff.1 h1).2; rw [d2] at this; cases this
      have h3 : takesA (x n) (z n) (y n) = false := by
        cases h3 : takesA (x n) (z n) (y n) with
        | false => rfl
        | true => have := (takes_iff.1 h3).2; rw [d1] at this; cases this
      rw [h1, h3]
      exact ⟨T_self _, T_self _⟩
  · exfalso
    revert h h2; cases checkOk x <;> cases checkOk y <;> cases checkOk z <;> simp
  · exfalso
    revert h h2; cases checkOk x <;> cases checkOk y <;> cases checkOk z <;> simp
  · exact ⟨rfl, rfl, Nat.zero_le _, ⟨fun n _ _ => T_self _, fun n _ h => by cases h⟩⟩
/-- Both sides' verdicts, turned round. -/
theorem ver_turned (i k : Int) (hi : 1 ≤ i ∧ i ≤ 3) (hk : 1 ≤ k ∧ k ≤ 3) : ∃ v v', ver i k = v ∧ ver k i = v' ∧ verErr i k = 0 ∧ verErr k i = 0 ∧ ((v = 1 ∧ v' = 1) ∨ (v = 2 ∧ v' = 2) ∨ (v = 3 ∧ v' = 5) ∨ (v = 5 ∧ v' = 3) ∨ (v = 4 ∧ v' = 6) ∨ (v = 6 ∧ v' = 4) ∨ (v = 7 ∧ v' = 7)) := by
  have h1 : i = 1 ∨ i = 2 ∨ i = 3 := by omega
  have h2 : k = 1 ∨ k = 2 ∨ k = 3 := by omega
  refine ⟨_, _, rfl, rfl, ?_⟩
  rcases h1 with rfl | rfl | rfl <;> rcases h2 with rfl | rfl | rfl <;> decide
theorem take_mem {D : List Int} {i : Nat} {n : Int} (hi : i < D.length) : n ∈ D.take (i + 1) ↔ n ∈ D.take i ∨ D[i] = n := by
  rw [List.take_succ_eq_append_getElem hi, List.mem_append, List.mem_singleton]
  constructor
  · rintro (h | h)
    · exact .inl h
    · exact .inr h.symm
  · rintro (h | h)
    · exact .inl h
    · exact .inr h.symm
end Go.Proofs.Ytbocbaakknkfiaa
