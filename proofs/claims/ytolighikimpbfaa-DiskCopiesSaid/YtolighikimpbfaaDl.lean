/- copy(v[at:], ys): bytes laid over bytes. -/
import Derived.Test.YtolighikimpbfaaDn
set_option linter.unusedVariables false
set_option linter.unusedSimpArgs false
namespace Go.Proofs.Ytolighikimpbfaa
open Go.RowKit Go.Shelf Go.Proofs.YtolighikimpbfaaW.PrintWords Go.Proofs.YtolighikimpbfaaW.PrintMore

/-- ys laid over xs at place i. -/
def over {α : Type} (xs : List α) (i : Nat) (ys : List α) : List α := xs.take i ++ ys ++ xs.drop (i + ys.length)
theorem over_length {α : Type} (xs : List α) (i : Nat) (ys : List α) (h : i + ys.length ≤ xs.length) : (over xs i ys).length = xs.length := by
  unfold over
  simp only [List.length_append, List.length_take, List.length_drop]
  omega
theorem over_toI (xs : List UInt8) (i : Nat) (ys : List UInt8) : toI (over xs i ys) = over (toI xs) i (toI ys) := by
  unfold over
  rw [toI_append, toI_append, toI_take, toI_drop, toI_length]
theorem over_nil {α : Type} (xs : List α) (i : Nat) : over xs i [] = xs := by unfold over; simp
section
variable {P : Program} {ops : Array Oper} {Q : Exit → Act → World → Prop} {rest : List Oper} {o : Oper} {a : Act}
theorem copy_at {W : World} {ok : Nat → Prop} (t t' ty : TypeId)
    (ht : P.underlying t = some (.slice 5)) (hinfo : (P.info? 5).map (·.size) = some 1) (n L capn i m c rl c' : Nat) (A A' : Option Addr) (xs ys : List Int)
    (hA : m ≠ 0 → A' = some ⟨n, i, none⟩) (hrl : L - i = rl) (HO : u8.R 5 W 0 ok (.slice (some ⟨n, 0, none⟩) L capn) xs) (HR : u8.C W A m ys) (hm : i + m ≤ L) :
    ∃ w1, (Builtin.copy_ #[t, t'] ty #[.slice A' rl c', .slice A m c]).run P W = .ok (goInt (m : Int)) w1 ∧ u8.R 5 w1 0 ok (.slice (some ⟨n, 0, none⟩) L capn) (over xs i ys) ∧ W.grownBy w1 (some n) := by
  subst hrl
  have hR := Kd.reads_of_C (enc := fun x => Value.int .u8 x) (d := (0 : Int)) HR
  have hmy : ys.length = m := hR.1
  have hown := Kd.own_of_R HO
  have hxl : xs.length = L := (Kd.R_reads' HO).1.symm
  rcases Nat.eq_zero_or_pos m with h0 | hp
  · have hy : ys = [] := List.length_eq_zero_iff.1 (hmy.trans h0)
    refine ⟨W, ?_, by rw [hy, over_nil]; exact HO, World.grownBy.refl W _⟩
    rw [h0]
    exact run_copy_none W t t' ty 5 A' A (L - i) c' 0 c ht hinfo (by simp)
  · obtain ⟨ad, hAd, hc⟩ := hR.2.2 (by omega)
    have hA' := hA (by omega)
    rcases hown.2 with ⟨_, hx0⟩ | ⟨g, cap, cur, hv, hb, hh, hnc, hcm, hcs, htake⟩
    · omega
    injection hv with hv1 hv2 hv3
    injection hv1 with hv1
    injection hv1 with hv1
    subst hv1
    have hcs1 : cur.size = cap := by omega
    have hsrc : ∀ j u, (encs (fun x => Value.int .u8 x) ys)[j]? = some u → W.cell? (ad.add j) = some u := by
      intro j u hu
      have hj : j < ys.length := by
        rcases Nat.lt_or_ge j ys.length with h | h
        · exact h
        · rw [List.getElem?_eq_none (by rw [encs_length]; exact h)] at hu
          cases hu
      rw [encs_get (d := (0 : Int)) _ j hj] at hu
      rw [hc j (by omega), ← hu]
    have hkl : (encs (fun x => Value.int .u8 x) ys).length = m := by rw [encs_length, hmy]
    have hr := run_copy_cells (P := P) W t t' ty 5 n i (L - i) c' ad m c (encs (fun x => Value.int .u8 x) ys) ht hinfo (by rw [hkl]; exact (Nat.min_eq_left (by omega)).symm) hsrc
      (fun j hj => by rw [cell_of_row W n _ cur 5 (0, 0) hh]; simp; omega) (fun j _ => blk_frozen hh _) (by intro u hu; simp only [encs, List.mem_map] at hu; obtain ⟨q, _, rfl⟩ := hu; rfl)
    obtain ⟨cur', h3, h4, h5⟩ := setCells_row (encs (fun x => Value.int .u8 x) ys) i W cur hh (by rw [hkl]; omega)
    obtain ⟨s1, s2, s3, s4⟩ := setCells_same n (encs (fun x => Value.int .u8 x) ys) i W
    refine ⟨_, by rw [hA', hAd, hr, hkl], Kd.R_of_own ?_ HO.1, s1, s2, s3, by rw [s4]; exact Nat.le_refl _, fun k _ hk => setCells_far _ _ k (fun he => hk (by rw [he]))⟩
    have hol : (over xs i ys).length = xs.length := over_length _ _ _ (by omega)
    rw [hol]
    refine ⟨by rw [encs_length, hol, Nat.mul_one], .inr ⟨n, cap, cur', by rw [hv3, hxl], hb, h3, by omega, hcm, by rw [h4, hcs], ?_⟩⟩
    have htk : cur.toList.take xs.length = encs (fun x => Value.int .u8 x) xs := by rw [← htake, Nat.mul_one]
    have htk1 : cur.toList.take i = (encs (fun x => Value.int .u8 x) xs).take i := by rw [← htk, List.take_take]; congr 1; omega
    have htk2 : (cur.toList.drop (i + m)).take (xs.length - (i + m)) = (encs (fun x => Value.int .u8 x) xs).drop (i + m) := by rw [← htk, List.drop_take]
    rw [h5, hkl, Nat.mul_one]
    unfold over
    rw [encs_append, encs_append, hmy]
    have e1 : (encs (fun x => Value.int .u8 x) xs).take i = encs (fun x => Value.int .u8 x) (xs.take i) := by simp [encs, List.map_take]
    have e2 : (encs (fun x => Value.int .u8 x) xs).drop (i + m) = encs (fun x => Value.int .u8 x) (xs.drop (i + m)) := by simp [encs, List.map_drop]
    rw [List.take_append, List.length_append, hkl]
    have hcl : (cur.toList.take i).length = i := by rw [List.length_take, Array.length_toList]; omega
    rw [hcl, htk2, e2, List.take_of_length_le (by rw [List.length_append, hkl, hcl]; omega), htk1, e1]
theorem wp_copy_at {W : World} {ok : Nat → Prop} (hgd : o.guard = none) (s x : Operand) (t t' : TypeId) (ho : o.op = .call { callee := .builtin .copy, args := #[s, x], argTypes := #[t, t'] })
    (ht : P.underlying t = some (.slice 5)) (hinfo : (P.info? 5).map (·.size) = some 1) (n L capn i m c rl c' : Nat) (A A' : Option Addr) (xs ys : List Int)
    (hs : a.eval s = .slice A' rl c') (hA : m ≠ 0 → A' = some ⟨n, i, none⟩) (hx : a.eval x = .slice A m c) (hrl : L - i = rl) (HO : u8.R 5 W 0 ok (.slice (some ⟨n, 0, none⟩) L capn) xs) (HR : u8.C W A m ys) (hm : i + m ≤ L)
    (h : ∀ w1, u8.R 5 w1 0 ok (.slice (some ⟨n, 0, none⟩) L capn) (over xs i ys) → W.grownBy w1 (some n) → wpList P ops Q rest (a.put o.dst (.int .i64 (m : Int))) w1) :
    wpList P ops Q (o :: rest) a W := by
  obtain ⟨w1, hr, h1, h2⟩ := copy_at t t' o.type ht hinfo n L capn i m c rl c' A A' xs ys hA hrl HO HR hm
  refine wpList_plain hgd fun K hK => ?_
  unfold Oper.wp execOp
  simp only [ho, resolve, invoke, builtin, Sem.run_bind, Sem.run_pure, Result.andThen_ok, List.map_toArray, List.map_cons, List.map_nil, hs, hx, hr]
  exact hK _ _ (h w1 h1 h2)
theorem step_copy_at {W : World} {ok : Nat → Prop} {K : Act → World → Prop} {E : Prop} (hw : Region.wanted o (yielded ops a.tmps) = true) (s x : Operand) (t t' : TypeId) (ho : o.op = .call { callee := .builtin .copy, args := #[s, x], argTypes := #[t, t'] })
    (ht : P.underlying t = some (.slice 5)) (hinfo : (P.info? 5).map (·.size) = some 1) (n L capn i m c rl c' : Nat) (A A' : Option Addr) (xs ys : List Int)
    (hs : a.eval s = .slice A' rl c') (hA : m ≠ 0 → A' = some ⟨n, i, none⟩) (hx : a.eval x = .slice A m c) (hrl : L - i = rl) (HO : u8.R 5 W 0 ok (.slice (some ⟨n, 0, none⟩) L capn) xs) (HR : u8.C W A m ys) (hm : i + m ≤ L)
    (h : ∀ w1, u8.R 5 w1 0 ok (.slice (some ⟨n, 0, none⟩) L capn) (over xs i ys) → W.grownBy w1 (some n) → K (a.put o.dst (.int .i64 (m : Int))) w1) :
    if Region.wanted o (yielded ops a.tmps) = true then Oper.wp P o a W K Q else E := by
  obtain ⟨w1, hr, h1, h2⟩ := copy_at t t' o.type ht hinfo n L capn i m c rl c' A A' xs ys hA hrl HO HR hm
  rw [if_pos hw]
  unfold Oper.wp execOp
  simp only [ho, resolve, invoke, builtin, Sem.run_bind, Sem.run_pure, Result.andThen_ok, List.map_toArray, List.map_cons, List.map_nil, hs, hx, hr]
  exact h w1 h1 h2
end
end Go.Proofs.Ytolighikimpbfaa
