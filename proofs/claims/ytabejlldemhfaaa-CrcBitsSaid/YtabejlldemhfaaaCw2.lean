/- Going over the bytes of parts: the contract of the iterator. -/
import Derived.RangeFuncNested
import Derived.RangeFuncBound
import Derived.RangeFuncCalls
import Derived.RangeFuncLeaves
import Derived.Shelf.Abstract
import Derived.Shelf.RegionOpen
import Derived.WalkKit
import Derived.OwnWalkIn
import Derived.TacticsInMore
import Derived.LoopNIn
import Derived.LoopIn
import Derived.Test.YtabejlldemhfaaaProg
import Derived.Test.YtabejlldemhfaaaCm
set_option linter.unusedVariables false
set_option linter.unusedSimpArgs false
namespace Go.Proofs.Ytabejlldemhfaaa
open Go.RowKit Go.Shelf Go.Proofs.YtabejlldemhfaaaW.PrintWords
attribute [local go_sem] Oper.semAt_some

def toI (bs : List UInt8) : List Int := bs.map fun b => (b.toNat : Int)
theorem toI_length (bs : List UInt8) : (toI bs).length = bs.length := by simp [toI]
def LL (L : List (List UInt8)) : List (List Int) := L.map toI
theorem LL_length (L : List (List UInt8)) : (LL L).length = L.length := by simp [LL]
abbrev encB (x : UInt8) : Array Value := #[.int .u8 (x.toNat : Int)]
/-- What is told of parts that came in by w0. -/
abbrev Parts (w0 : World) (A : Option Addr) (L : List (List UInt8)) : Prop := Kd.C (Kd.slice 5 (Kd.int .u8)) w0 A L.length (LL L)

theorem parts_at {w : World} {A : Option Addr} {L : List (List UInt8)} (h : Parts w A L) (i : Nat) (hi : i < L.length) :
    ∃ ad A0 c0, A = some ad ∧ w.cell? (ad.add i) = some (.slice A0 L[i].length c0) ∧ L[i].length ≤ c0 ∧ (Kd.int .u8).C w A0 L[i].length (toI L[i]) := by
  obtain ⟨ad, c, e, _, hK, hc0⟩ := Kd.C_get h ([] : List Int) (i : Int) (by omega) (by omega)
  have hc : ∀ j u, c[j]? = some u → w.cell? (ad.add (i * 1 + j)) = some u := hc0
  have hg : (LL L).getD (i : Int).toNat [] = toI L[i] := by
    simp [LL, List.getD_eq_getElem?_getD, hi]
  rw [hg] at hK
  obtain ⟨A0, c0, rfl, l0, g0⟩ := hK
  rw [toI_length] at *
  exact ⟨ad, A0, c0, e, by have hq := hc 0 _ rfl; rwa [Nat.mul_one, Nat.add_zero] at hq, l0, g0⟩
theorem byte_at {w : World} {A : Option Addr} {b : List UInt8} (h : (Kd.int .u8).C w A b.length (toI b)) (i : Nat) (hi : i < b.length) :
    ∃ ad, A = some ad ∧ w.cell? (ad.add i) = some (.int .u8 (b[i].toNat : Int)) := by
  obtain ⟨ad, c, e, _, hK, hc0⟩ := Kd.C_get h (0 : Int) (i : Int) (by omega) (by omega)
  have hc : ∀ j u, c[j]? = some u → w.cell? (ad.add (i * 1 + j)) = some u := hc0
  have hg : (toI b).getD (i : Int).toNat 0 = (b[i].toNat : Int) := by
    simp [toI, List.getD_eq_getElem?_getD, hi]
  rw [hg] at hK
  have : c = [.int .u8 (b[i].toNat : Int)] := hK
  subst this
  exact ⟨ad, e, by have hq := hc 0 _ rfl; rwa [Nat.mul_one, Nat.add_zero] at hq⟩

theorem each_calls (A : Option Addr) (n c : Nat) (w : World) :
    Calls Try.prog 22 #[.slice A n c] w fun e w' => e = .returned (.func (.func 24) #[] #[.pointer (some ⟨w.heap.size, 0, none⟩)]) ∧ w.alloc (.cells #[.slice A n c] 22) = w' := by
  go_enter Try.func22, Try.ntmps22
  go_wp2
  go_ret
  exact ⟨rfl, rfl⟩

theorem flat_next {L : List (List UInt8)} {k : Nat} (h : k < L.length) {p : List UInt8} (hp : L[k] = p) : (L.take (k + 1)).flatten = (L.take k).flatten ++ p := by
  rw [List.take_succ_eq_append_getElem h, List.flatten_append, hp]
  simp
theorem flat_all {L : List (List UInt8)} {k : Nat} (h : k < L.length) {p : List UInt8} (hp : L[k] = p) : L.flatten = (L.take k).flatten ++ (p ++ (L.drop (k + 1)).flatten) := by
  rw [← List.append_assoc, ← flat_next h hp, ← List.flatten_append, List.take_append_drop]
theorem flat_lt {L : List (List UInt8)} {k : Nat} (h : k < L.length) {p : List UInt8} (hp : L[k] = p) : (L.take k).flatten.length + p.length ≤ L.flatten.length := by
  rw [flat_all h hp]
  simp only [List.length_append]
  omega
theorem flat_take {L : List (List UInt8)} {k : Nat} (h : k < L.length) {p : List UInt8} (hp : L[k] = p) (x : UInt8) (j : Nat) (_ : j < p.length)
    (hx : (L.take k).flatten ++ p.take j ++ [x] = (L.take k).flatten ++ p.take (j + 1)) : (L.take k).flatten ++ p.take j ++ [x] <+: L.flatten := by
  rw [hx, flat_all h hp]
  refine List.prefix_append_right_inj _ |>.2 ?_
  exact (List.take_prefix _ _).trans (List.prefix_append _ _)

set_option maxRecDepth 100000 in
set_option maxHeartbeats 1000000 in
theorem each1_in (F : Fence) (n : Nat) (h24 : F.fn 24) (hro : F.round = none) (hn : 1 ≤ n) (l Bn : Nat) (w0 : World) (A : Option Addr) (c : Nat) (L : List (List UInt8)) (J Jx : List UInt8 → World → Prop)
    (hY : ∀ pre x W, J pre W → pre.length < L.flatten.length → YieldAt F (n - 1) Try.prog l (encB x) W fun e W' =>
      (e = .returned (.bool true) ∧ J (pre ++ [x]) W' ∧ Below w0.heap.size W W') ∨ (e = .returned (.bool false) ∧ Jx (pre ++ [x]) W'))
    (W : World) (hBn : W.cell? ⟨Bn, 0, none⟩ = some (.slice A L.length c)) (hL : Parts w0 A L) (hB : Below w0.heap.size w0 W) (h0 : J [] W) :
    CallsIn F n Try.prog 24 #[.func (.yield l) #[] #[], .pointer (some ⟨Bn, 0, none⟩)] W fun e W' => (∃ v, e = .returned v) ∧
      ((∃ ys, ys = L.flatten ∧ J ys W') ∨ (∃ pre, pre <+: L.flatten ∧ Jx pre W')) := by
  refine callsIn_of_wp Try.func24 rfl h24 ?_ hro
  simp only [Try.ntmps24, List.size_toArray, List.length_cons, List.length_nil, Nat.reduceAdd, Nat.reduceSub, Array.replicate_succ, Array.replicate_zero, List.push_toArray, List.append_toArray, List.nil_append, List.cons_append]
  have hLl : L.length ≤ 9223372036854775807 := hL.2.1
  gi_wp2
  gi_loopw [9] (fun s9 wr => ∃ k : Nat, k ≤ L.length ∧ s9 = .int .i64 k ∧ Aside0 (Below w0.heap.size w0 wr) ∧ Aside0 (J (L.take k).flatten wr)) (fun s9 _ => L.length - (intOf s9).toNat)
  case atStart =>
    exact ⟨0, Nat.zero_le _, rfl, ⟨hB⟩, ⟨h0⟩⟩
  case round =>
    obtain ⟨k, hk, rfl, hB1, hJ1⟩ := hrel
    by_cases hlt : k < L.length
    · have hdk : decide ((k : Int) < (L.length : Int)) = true := by simp; omega
      obtain ⟨ad, A0, c0, e, hcell, hc0, hb⟩ := parts_at hL k hlt
      cases e
      obtain ⟨p, hp⟩ : ∃ p, L[k] = p := ⟨_, rfl⟩
      rw [hp] at hcell hc0 hb
      have hpre := Aside0.mk (flat_take hlt hp)
      have hpn := Aside0.mk (flat_next hlt hp)
      have hpl := Aside0.mk (flat_lt hlt hp)
      clear hp
      have hPl : p.length ≤ 9223372036854775807 := hb.2.1
      have hb := Aside0.mk hb
      obtain ⟨wo, hwo⟩ : ∃ wo : World, wo = wr := ⟨_, rfl⟩
      rw [← hwo] at hB1 hJ1 ⊢
      clear hwo
      replace hcell := (hB1.out.cell (World.block_lt_of_cell? w0 _ hcell)).trans hcell
      gi_wp2
      gi_loopw [15] (fun s15 wr => ∃ j : Nat, j ≤ p.length ∧ s15 = .int .i64 j ∧ Aside0 (Below w0.heap.size w0 wr) ∧ Aside0 (J ((L.take k).flatten ++ p.take j) wr)) (fun s15 _ => p.length - (intOf s15).toNat)
      case atStart => exact ⟨0, Nat.zero_le _, rfl, hB1, ⟨by rw [List.take_zero, List.append_nil]; exact hJ1.out⟩⟩
      case round =>
        clear hB1 hJ1 hcell
        obtain ⟨j, hj, rfl, hB1, hJ1⟩ := hrel
        by_cases hlt2 : j < p.length
        · have hdj : decide ((j : Int) < (p.length : Int)) = true := by simp; omega
          obtain ⟨ad0, e, hcell⟩ := byte_at hb.out j hlt2
          cases e
          obtain ⟨x, hx⟩ : ∃ x, p[j] = x := ⟨_, rfl⟩
          rw [hx] at hcell
          have hxn : (L.take k).flatten ++ p.take j ++ [x] = (L.take k).flatten ++ p.take (j + 1) := by
            rw [List.append_assoc, List.take_succ_eq_append_getElem hlt2, hx]
          have hxn := Aside0.mk hxn
          clear hx
          replace hcell := (hB1.out.cell (World.block_lt_of_cell? w0 _ hcell)).trans hcell
          obtain ⟨fn, tmps, assign, body, hy, hR⟩ := hY _ x wr hJ1.out (by have := hpl.out; rw [List.length_append, List.length_take]; omega)
          gi_wp2
          refine hR.mono ?_
          rintro e W3 (⟨rfl, hJ3, hk3⟩ | ⟨rfl, hJx3⟩)
          · have hJ3 := Aside0.mk hJ3
            have hk3 := Aside0.mk hk3
            gi_wp2
            go_roundw
            case rel => exact ⟨j + 1, by omega, by go_num, ⟨hB1.out.trans hk3.out⟩, ⟨by rw [← hxn.out]; exact hJ3.out⟩⟩
            case measure => simp [intOf]; omega
          · have hJx3 := Aside0.mk hJx3
            gi_wp2
            refine bodyPost_ret (results_none rfl _ _ _) rfl ?_
            exact ⟨⟨_, rfl⟩, .inr ⟨_, hpre.out x j hlt2 hxn.out, hJx3.out⟩⟩
        · obtain rfl : j = p.length := by omega
          gi_wp2
          go_roundw
          case rel => exact ⟨k + 1, by omega, by go_num, hB1, ⟨by rw [hpn.out, ← List.take_length (l := p)]; exact hJ1.out⟩⟩
          case measure => simp [intOf]; omega
    · obtain rfl : k = L.length := by omega
      gi_wp2
      go_end0
      exact ⟨⟨_, rfl⟩, .inl ⟨_, by rw [List.take_length], hJ1.out⟩⟩
end Go.Proofs.Ytabejlldemhfaaa
