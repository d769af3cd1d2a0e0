/- few: are contacts' fields no more than is done here? -/
import Derived.Test.YtbocbaakknkfiaaNa
set_option linter.unusedVariables false
set_option linter.unusedSimpArgs false
namespace Go.Proofs.Ytbocbaakknkfiaa
open Go.RowKit Go.Shelf Go.Proofs.YtbocbaakknkfiaaW.PrintWords Go.Proofs.YtbocbaakknkfiaaW.PrintMore Go.Proofs.YtbocbaakknkfiaaW.PrintLast

/-- The first k fields are few. -/
def FewT (x : CT) (k : Nat) : Prop := ∀ f, f < k → f < 8 → (x.L f).length ≤ 20 ∧ ∀ s ∈ x.L f, s.size ≤ 400
theorem few_small {x : CT} (h : FewT x 8) : Small x.L := fun i hi => ⟨by have := (h i hi hi).1; omega, fun s hs => by have := (h i hi hi).2 s hs; omega⟩
theorem few_next {x : CT} {k : Nat} (h : FewT x k) (h1 : (x.L k).length ≤ 20) (h2 : ∀ s ∈ x.L k, s.size ≤ 400) : FewT x (k + 1) := fun f hf h8 => by
  by_cases e : f = k
  · subst e; exact ⟨h1, h2⟩
  · exact h f (by omega) h8
/-- What few answers. -/
def FewPost (l : List CT) (e : Ending) : Prop := ∃ r, e = .returned (.bool r) ∧ (r = true → ∀ x ∈ l, FewT x 8)
set_option maxHeartbeats 2000000 in
theorem few_calls (B c : Nat) (l : List CT) (w : World) (hl : l.length ≤ 1000) (hR : RowOf w B l) (hI : ∀ x ∈ l, Con w x.A x.c x.L) :
    Calls Try.prog 8 #[.slice (some ⟨B, 0, none⟩) l.length c] w fun e w' => FewPost l e ∧ w = w' := by
  obtain ⟨M, hM⟩ : ∃ M, l.length = M := ⟨_, rfl⟩
  replace hR := Aside0.mk hR
  replace hI := Aside0.mk hI
  rw [hM] at hl ⊢
  replace hM := Aside0.mk hM
  go_enter Try.func8, Try.ntmps8
  go_wp2
  go_loop [3] (fun s3 => ∃ k : Nat, k ≤ M ∧ s3 = .int .i64 k ∧ Aside0 (∀ x ∈ l.take k, FewT x 8)) (fun s3 => M - (intOf s3).toNat)
  case atStart => exact ⟨0, Nat.zero_le _, rfl, ⟨by simp⟩⟩
  case round =>
    obtain ⟨k, hk, rfl, ha⟩ := hrel
    by_cases hlt : k < M
    · have hkl : k < l.length := by rw [hM.out]; exact hlt
      have p0 := hR.out k hkl
      have hcon := hI.out l[k] (List.getElem_mem hkl)
      have hnx := Aside0.mk (fun (h : FewT l[k] 8) => show ∀ x ∈ l.take (k + 1), FewT x 8 by
        rw [List.take_succ_eq_append_getElem hkl]; intro x hx; rcases List.mem_append.1 hx with hx | hx
        · exact ha.out x hx
        · rw [List.mem_singleton.1 hx]; exact h)
      obtain ⟨x, hx⟩ : ∃ x, l[k] = x := ⟨_, rfl⟩
      rw [hx] at p0 hnx hcon
      clear hx hkl
      have ead : (⟨B, 0, none⟩ : Addr).add (k * 8) = ⟨B, k * 8, none⟩ := add_plain _ _
      replace p0 := Aside0.mk p0
      replace hcon := Aside0.mk hcon
      have i1 : (0 : Int) ≤ (k : Int) := by omega
      have i2 : (k : Int) < (M : Int) := by omega
      go_wp2_with fail
      go_loop [4] (fun s4 => ∃ f : Nat, f ≤ 8 ∧ s4 = .int .i64 f ∧ Aside0 (FewT x f)) (fun s4 => 8 - (intOf s4).toNat)
      case atStart => exact ⟨0, by omega, rfl, ⟨fun f hf => by omega⟩⟩
      case round =>
        obtain ⟨f, hf, rfl, hfw⟩ := hrel
        by_cases hlf : f < 8
        · have q0 := p0.out f hlf
          have hrow := hcon.out.row f hlf
          have hV : x.V f = .slice (x.A f) (x.L f).length (x.c f) := rfl
          rw [hV] at q0
          have hfn := Aside0.mk (few_next hfw.out)
          obtain ⟨S, hS⟩ : ∃ S, x.L f = S := ⟨_, rfl⟩
          rw [hS] at q0 hrow hfn
          obtain ⟨n, hn⟩ : ∃ n, S.length = n := ⟨_, rfl⟩
          rw [hn] at q0 hfn
          have hrow := Aside0.mk hrow
          have hn := Aside0.mk hn
          have efa : (⟨B, k * 8, none⟩ : Addr).add f = ⟨B, k * 8 + f, none⟩ := by unfold Addr.add; by_cases h : f = 0 <;> simp [h]
          have i3 : (0 : Int) ≤ (f : Int) := by omega
          have i4 : (f : Int) < 8 := by omega
          clear hS hV
          by_cases h20 : 20 < n
          · have d : decide ((20 : Int) < (n : Int)) = true := by simp; omega
            clear hfn
            go_wp2_with fail
            go_ret
            exact ⟨⟨false, rfl, fun h => by cases h⟩, rfl⟩
          · have d : decide ((20 : Int) < (n : Int)) = false := by simp; omega
            go_wp2_with fail
            go_loop [5] (fun s5 => ∃ i : Nat, i ≤ n ∧ s5 = .int .i64 i ∧ Aside0 (∀ s ∈ S.take i, s.size ≤ 400)) (fun s5 => n - (intOf s5).toNat)
            case atStart => exact ⟨0, Nat.zero_le _, rfl, ⟨by simp⟩⟩
            case round =>
              obtain ⟨i, hi, rfl, hall⟩ := hrel
              by_cases hli : i < n
              · have hil : i < S.length := by rw [hn.out]; exact hli
                obtain ⟨ad, e, r0⟩ := str_at hrow.out i hil
                rw [e] at q0
                have hsn := Aside0.mk (fun (h : S[i].size ≤ 400) => show ∀ s ∈ S.take (i + 1), s.size ≤ 400 by
                  rw [List.take_succ_eq_append_getElem hil]; intro s hs; rcases List.mem_append.1 hs with hs | hs
                  · exact hall.out s hs
                  · rw [List.mem_singleton.1 hs]; exact h)
                obtain ⟨t, ht⟩ : ∃ t, S[i] = t := ⟨_, rfl⟩
                rw [ht] at r0 hsn
                clear ht hil
                have i5 : (0 : Int) ≤ (i : Int) := by omega
                have i6 : (i : Int) < (n : Int) := by omega
                by_cases h4 : 400 < t.size
                · have d4 : decide ((400 : Int) < (t.size : Int)) = true := by simp; omega
                  clear hsn hfn
                  go_wp2_with fail
                  go_ret
                  exact ⟨⟨false, rfl, fun h => by cases h⟩, rfl⟩
                · have d4 : decide ((400 : Int) < (t.size : Int)) = false := by simp; omega
                  have hz := Aside0.mk (hsn.out (by omega))
                  clear hsn
                  go_wp2_with fail
                  go_round
                  case rel => exact ⟨i + 1, by omega, by go_num, hz⟩
                  case measure => simp [intOf]; omega
              · have hin : i = n := by omega
                subst hin
                have hz := Aside0.mk (hfn.out (by omega) (by have h9 := hall.out; rwa [List.take_of_length_le (by rw [hn.out]; exact Nat.le_refl _)] at h9))
                clear hfn
                go_wp2_with fail
                go_round
                case rel => exact ⟨f + 1, by omega, by go_num, hz⟩
                case measure => simp [intOf]; omega
        · have hf8 : f = 8 := by omega
          subst hf8
          have hz := Aside0.mk (hnx.out hfw.out)
          go_wp2_with fail
          go_round
          case rel => exact ⟨k + 1, by omega, by go_num, hz⟩
          case measure => simp [intOf]; omega
    · have hkM : k = M := by omega
      subst hkM
      have hz := Aside0.mk (show ∀ x ∈ l, FewT x 8 by have h9 := ha.out; rwa [List.take_of_length_le (by rw [hM.out]; exact Nat.le_refl _)] at h9)
      go_wp2_with fail
      go_ret
      exact ⟨⟨true, rfl, fun _ => hz.out⟩, rfl⟩
end Go.Proofs.Ytbocbaakknkfiaa
