/- The sum of any bytes, and the word behind one: what can be read, and the walk. -/
import Derived.Test.YtabejlldemhfaaaCl1
import Derived.Test.YtabejlldemhfaaaOp
set_option linter.unusedVariables false
set_option linter.unusedSimpArgs false
namespace Go.Proofs.Ytabejlldemhfaaa
open Go.RowKit Go.Proofs.YtabejlldemhfaaaW.PrintWords

theorem u32_of {n : Int} (h : (Lit.int .u32 n).wf = true) : ∃ x : Nat, n = (x : Int) ∧ x < 4294967296 := by
  have hb : 0 ≤ n ∧ n ≤ 4294967295 := by
    simp [Lit.wf, IntKind.min, IntKind.max, IntKind.signed, IntKind.bits] at h
    omega
  exact ⟨n.toNat, by omega, by omega⟩
theorem opens_bytes {H : Type} {enc : TypeId × Value → H} {w : World} : Opens enc Try.prog w 28 (Kd.slice 5 (Kd.int .u8)) (fun l => l.length ≤ maxLen ∧ ∀ y ∈ l, (Lit.int .u8 y).wf = true) :=
  opens_slice Try.underlying28 (by kernel_rfl) (opens_int Try.underlying5)
theorem parts_of {w : World} {a : Option Addr} {l : List (List Int)} (hC : Kd.C (Kd.slice 5 (Kd.int .u8)) w a l.length l) (hG : ∀ y ∈ l, y.length ≤ maxLen ∧ ∀ n ∈ y, (Lit.int .u8 n).wf = true) :
    ∃ L : List (List UInt8), l.length = L.length ∧ Parts w a L := by
  obtain ⟨L, rfl⟩ := rows_of (fun r hr => (hG r hr).2)
  refine ⟨L, List.length_map .., ?_⟩
  rw [List.length_map] at hC
  exact hC
theorem crcSums_row (w : World) (a : Option Addr) (c : Nat) (l : List (List Int)) (hc : l.length ≤ c) (_ : c ≤ maxLen) (hC : Kd.C (Kd.slice 5 (Kd.int .u8)) w a l.length l) (hG : ∀ y ∈ l, y.length ≤ maxLen ∧ ∀ n ∈ y, (Lit.int .u8 n).wf = true)
    (x : Int) (hx : (Lit.int .u32 x).wf = true) (b : Int) (hb : (Lit.int .u8 b).wf = true) :
    Calls Try.prog 3 #[.slice a l.length c, .int .u32 x, .int .u8 b] w fun e w' => e = .returned (.bool true) ∧ Below w.heap.size w w' := by
  obtain ⟨L, hl, hP⟩ := parts_of hC hG
  rw [hl] at hc ⊢
  obtain ⟨x, rfl, hlt⟩ := u32_of hx
  obtain ⟨b, rfl⟩ := byte_of hb
  exact crcSums_calls a c L x b w hP hc hlt
end Go.Proofs.Ytabejlldemhfaaa
