/- Great letters; entries that are small enough; FilterLetters. -/
import Derived.Test.YtgnmkblaockghaaJi
import Derived.Test.YtgnmkblaockghaaPL7
set_option linter.unusedVariables false
set_option linter.unusedSimpArgs false
namespace Go.Proofs.Ytgnmkblaockghaa
open Go.RowKit Go.Shelf Go.Proofs.YtgnmkblaockghaaW.PrintWords Go.Proofs.YtgnmkblaockghaaW.PrintMore Go.Proofs.YtgnmkblaockghaaW.PrintLast

/-- A byte made great. -/
def greatB (x : Int) : Int := if 97 ≤ x ∧ x ≤ 122 then x - 32 else x
/-- A text made great. -/
def great (s : ByteArray) : ByteArray := strOfNums ((bytesOf s).map greatB)
set_option maxRecDepth 8000 in
set_option maxHeartbeats 2000000 in
theorem great_calls (s : ByteArray) (w : World) (hs : s.size ≤ 12000) :
    Calls Try.prog 21 #[.string s] w fun e w' => e = .returned (.string (great s)) ∧ Below w.heap.size w w' := by
  have kb := fun W => print_bytes (P := Try.prog) 9 52 5 Try.underlying9 Try.underlying52 Try.underlying5 s W
  have hN := bytes_new w s
  have hb := bytes_below (Below.refl w.heap.size w) (Nat.le_refl _) 5 s
  have hl := bytesOf_length s
  have hx : ∀ j, j < s.size → 0 ≤ (bytesOf s).getD j 0 ∧ (bytesOf s).getD j 0 < 256 := by
    intro j hj
    have h' : j < (bytesOf s).length := by rw [hl]; exact hj
    simp only [List.getD_eq_getElem?_getD, List.getElem?_eq_getElem h', Option.getD_some]
    exact bytesOf_bound (List.getElem_mem h')
  have he : great s = strOfNums ((List.range s.size).map fun j => greatB ((bytesOf s).getD j 0)) := by
    unfold great
    congr 1
    refine List.ext_getElem (by simp [hl]) fun j h1 h2 => ?_
    simp at h1
    simp [List.getD_eq_getElem?_getD, h1]
  rw [he]
  obtain ⟨M, hM⟩ : ∃ M, s.size = M := ⟨_, rfl⟩
  obtain ⟨f, hf⟩ : ∃ f : Nat → Int, (fun j => (bytesOf s).getD j 0) = f := ⟨_, rfl⟩
  have hf' : ∀ j, (bytesOf s).getD j 0 = f j := fun j => congrFun hf j
  rw [hf, hM] at hN
  rw [hM] at hs hx ⊢
  simp only [hM] at kb
  simp only [hf'] at hx ⊢
  replace hN := Aside0.mk hN
  replace hb := Aside0.mk hb
  replace hx := Aside0.mk hx
  clear hf hf' hl hM he
  go_enter Try.func21, Try.ntmps21
  go_wp2_with fail
  clear kb
  obtain ⟨w1, hw1⟩ : ∃ w1, Lib.bytesWorld w 5 s = w1 := ⟨_, rfl⟩
  rw [hw1] at hN hb ⊢
  clear hw1
  obtain ⟨cap, hcap⟩ : ∃ c, grownCap w M 0 5 = c := ⟨_, rfl⟩
  rw [hcap]
  clear hcap
  obtain ⟨B, hB⟩ : ∃ B, w.heap.size = B := ⟨_, rfl⟩
  rw [hB] at hN ⊢
  replace hB := Aside0.mk hB
  go_loopw [4] (fun s10 wr => ∃ k : Nat, k ≤ M ∧ s10 = .int .i64 k ∧ Aside0 (Bytes wr B M (fun j => if j < k then greatB (f j) else f j)) ∧ Aside0 (Below w.heap.size w wr)) (fun s10 _ => M - (intOf s10).toNat)
  case atStart => exact ⟨0, Nat.zero_le _, rfl, ⟨by simpa using hN.out⟩, hb⟩
  case round =>
    clear hN hb
    obtain ⟨k, hk, rfl, hN, hb⟩ := hrel
    by_cases hlt : k < M
    · obtain ⟨p0, p1⟩ := hN.out k hlt
      replace p0 : wr.cell? ⟨B, k, none⟩ = some (.int .u8 (if k < k then greatB (f k) else f k)) := p0
      rw [if_neg (Nat.lt_irrefl k)] at p0
      have hxk := hx.out k hlt
      have i1 : (0 : Int) ≤ (k : Int) := by omega
      have i2 : (k : Int) < (M : Int) := by omega
      obtain ⟨x, hxx⟩ : ∃ x, f k = x := ⟨_, rfl⟩
      rw [hxx] at p0 hxk
      obtain ⟨x1, x2⟩ := hxk
      by_cases c1 : 97 ≤ x
      · have d1 : decide (97 ≤ x) = true := decide_eq_true c1
        by_cases c2 : x ≤ 122
        · have d2 : decide (x ≤ 122) = true := decide_eq_true c2
          have e1 : IntKind.u8.wrap (x - 32) = x - 32 := by rw [IntKind.wrap_u8]; omega
          have hnx : Aside0 (Bytes (wr.setCell ⟨B, k, none⟩ (.int .u8 (x - 32))) B M (fun j => if j < k + 1 then greatB (f j) else f j)) := ⟨by
            have h9 := hN.out.set k hlt (x - 32)
            have e : (fun j => if j = k then x - 32 else if j < k then greatB (f j) else f j) = (fun j => if j < k + 1 then greatB (f j) else f j) := by
              funext j
              by_cases h1 : j = k
              · subst h1; rw [if_pos rfl, if_pos (by omega), hxx]; unfold greatB; rw [if_pos ⟨c1, c2⟩]
              · rw [if_neg h1]
                by_cases h2 : j < k
                · rw [if_pos h2, if_pos (by omega)]
                · rw [if_neg h2, if_neg (by omega)]
            rw [e] at h9; exact h9⟩
          have hbn := Aside0.mk (hb.out.setCell (p := ⟨B, k, none⟩) (by rw [← hB.out]; exact Nat.le_refl _) (.int .u8 (x - 32)))
          have hc12 := Aside0.mk (And.intro c1 c2)
          clear hN c1 c2
          go_wp2_with fail
          go_roundw
          case rel =>
            obtain ⟨c1, c2⟩ := hc12.out
            have e9 : (x - 32) % 256 = x - 32 := by omega
            try rw [e9]
            exact ⟨k + 1, by omega, by go_num, hnx, hbn⟩
          case measure => simp [intOf]; omega
        · have d2 : decide (x ≤ 122) = false := decide_eq_false c2
          have hnx : Aside0 (Bytes wr B M (fun j => if j < k + 1 then greatB (f j) else f j)) := ⟨by
            have e : (fun j => if j < k then greatB (f j) else f j) = (fun j => if j < k + 1 then greatB (f j) else f j) := by
              funext j
              by_cases h1 : j = k
              · subst h1; rw [if_neg (by omega), if_pos (by omega), hxx]; unfold greatB; rw [if_neg (by omega)]
              · by_cases h2 : j < k
                · rw [if_pos h2, if_pos (by omega)]
                · rw [if_neg h2, if_neg (by omega)]
            rw [← e]; exact hN.out⟩
          clear hN c1 c2
          go_wp2_with fail
          go_roundw
          case rel => exact ⟨k + 1, by omega, by go_num, hnx, hb⟩
          case measure => simp [intOf]; omega
      · have d1 : decide (97 ≤ x) = false := decide_eq_false c1
        have hnx : Aside0 (Bytes wr B M (fun j => if j < k + 1 then greatB (f j) else f j)) := ⟨by
          have e : (fun j => if j < k then greatB (f j) else f j) = (fun j => if j < k + 1 then greatB (f j) else f j) := by
            funext j
            by_cases h1 : j = k
            · subst h1; rw [if_neg (by omega), if_pos (by omega), hxx]; unfold greatB; rw [if_neg (by omega)]
            · by_cases h2 : j < k
              · rw [if_pos h2, if_pos (by omega)]
              · rw [if_neg h2, if_neg (by omega)]
          rw [← e]; exact hN.out⟩
        clear hN c1
        go_wp2_with fail
        go_roundw
        case rel => exact ⟨k + 1, by omega, by go_num, hnx, hb⟩
        case measure => simp [intOf]; omega
    · obtain rfl : k = M := by omega
      have hr := hN.out.reads (by omega)
      have e : (List.range k).map (fun j => if j < k then greatB (f j) else f j) = (List.range k).map (fun j => greatB (f j)) :=
        List.map_congr_left fun j hj => if_pos (List.mem_range.1 hj)
      rw [e] at hr
      have hst := string_of_reads (P := Try.prog) (src := 52) (dst := 9) (c := cap) Try.underlying52 Try.underlying5 Try.underlying9 hr
      clear hr e hN
      go_wp2_with fail
      go_ret
      exact ⟨rfl, hb.out⟩
/-! ### Entries -/
/-- An attribute as the laws let it be. -/
def attF (a : At) : Prop := a.f0.size ≤ 200 ∧ a.f1.length ≤ 20 ∧ ∀ s ∈ a.f1, s.size ≤ 4000
theorem rd_47 {xs : List At} {k : Nat} (hk : k < xs.length) : PFilterBounds.rd_T47 xs (k : Int) = xs[k] := by unfold PFilterBounds.rd_T47; simp [List.getD_eq_getElem?_getD, hk]
theorem rd_str {xs : List ByteArray} {k : Nat} (hk : k < xs.length) : rdOf ByteArray.empty xs (k : Int) = xs[k] := by unfold rdOf; simp [List.getD_eq_getElem?_getD, hk]
open PFilterBounds in
theorem ent_l0 (l : List At) (hl : l.length ≤ 30) : ∀ m i : Nat, i + m = l.length → ∀ n : Int, 0 ≤ n → n ≤ 80000 * i → ∃ K b, cardcaselaw08_entries.l0 K l n i = some b ∧ (b = true → ∀ k, i ≤ k → (hk : k < l.length) → attF l[k]) := by
  intro m
  induction m with
  | zero =>
    intro i hi n h0 h1
    refine ⟨1, decide (n ≤ 4000), ?_, fun _ k hk hk2 => by omega⟩
    rw [cardcaselaw08_entries.l0, if_neg (by omega)]
  | succ m ih =>
    intro i hi n h0 h1
    have hlt : i < l.length := by omega
    have inner : ∀ q j : Nat, j + q = l[i].f1.length → l[i].f1.length ≤ 20 → ∀ n : Int, 0 ≤ n → n ≤ 80000 * i + 4000 * j → ∃ K b, cardcaselaw08_entries.l1 K l n i j = some b ∧ (b = true → (∀ k, j ≤ k → (hk : k < l[i].f1.length) → l[i].f1[k].size ≤ 4000) ∧ ∀ k, i + 1 ≤ k → (hk : k < l.length) → attF l[k]) := by
      intro q
      induction q with
      | zero =>
        intro j hj h20 n h0 h1
        obtain ⟨K, b, e, h⟩ := ih (i + 1) (by omega) n h0 (by omega)
        refine ⟨K + 1, b, ?_, fun hb => ⟨fun k hk hk2 => by omega, h hb⟩⟩
        rw [cardcaselaw08_entries.l1, if_pos (by omega), if_pos (by omega), rd_47 hlt, if_neg (by omega), wrap_in ((i : Int) + 1) (by omega)]
        exact_mod_cast e
      | succ q ihq =>
        intro j hj h20 n h0 h1
        have hjl : j < l[i].f1.length := by omega
        by_cases c : l[i].f1[j].size > 4000
        · refine ⟨1, false, ?_, fun hb => by cases hb⟩
          rw [cardcaselaw08_entries.l1, if_pos (by omega), if_pos (by omega), rd_47 hlt, if_pos (by omega), if_pos (by omega), rd_str hjl, if_pos (by omega)]
        · obtain ⟨K, b, e, h⟩ := ihq (j + 1) (by omega) h20 (n + l[i].f1[j].size) (by omega) (by omega)
          refine ⟨K + 1, b, ?_, fun hb => ⟨fun k hk hk2 => ?_, (h hb).2⟩⟩
          · rw [cardcaselaw08_entries.l1, if_pos (by omega), if_pos (by omega), rd_47 hlt, if_pos (by omega), if_pos (by omega), rd_str hjl, if_neg (by omega), wrap_in (n + (l[i].f1[j].size : Int)) (by omega), wrap_in ((j : Int) + 1) (by omega)]
            exact_mod_cast e
          · by_cases hkj : k = j
            · subst hkj; omega
            · exact (h hb).1 k (by omega) hk2
    by_cases c1 : l[i].f0.size > 200
    · refine ⟨2, false, ?_, fun hb => by cases hb⟩
      rw [cardcaselaw08_entries.l0, if_pos (by omega), if_pos (by omega), rd_47 hlt, if_pos (by omega), cardcaselaw08_entries.j1, if_pos rfl]
    · by_cases c2 : l[i].f1.length > 20
      · refine ⟨2, false, ?_, fun hb => by cases hb⟩
        rw [cardcaselaw08_entries.l0, if_pos (by omega), if_pos (by omega), rd_47 hlt, if_neg (by omega), cardcaselaw08_entries.j1, if_pos (decide_eq_true (by omega))]
      · obtain ⟨K, b, e, h⟩ := inner l[i].f1.length 0 (by omega) (by omega) n h0 (by omega)
        refine ⟨K + 2, b, ?_, fun hb k hk hk2 => ?_⟩
        · rw [cardcaselaw08_entries.l0, if_pos (by omega), if_pos (by omega), rd_47 hlt, if_neg (by omega), cardcaselaw08_entries.j1, if_neg (by simp; omega)]
          exact e
        · obtain ⟨h1, h2⟩ := h hb
          by_cases hki : k = i
          · subst hki
            refine ⟨by omega, by omega, fun s hs => ?_⟩
            obtain ⟨p, hp, rfl⟩ := List.mem_iff_getElem.1 hs
            exact h1 p (Nat.zero_le _) hp
          · exact h2 k (by omega) hk2
/-- The law's look at an entry. -/
theorem entries_calls (l : List At) (A : Option Addr) (c : Nat) (w : World) (hc : l.length ≤ c) (hC : kA.C w A l.length l) :
    ∃ b : Bool, (b = true → l.length ≤ 30 ∧ ∀ a ∈ l, attF a) ∧ Calls Try.prog 11 #[.slice A l.length c] w fun e w' => e = .returned (.bool b) ∧ Below w.heap.size w w' := by
  by_cases hl : l.length ≤ 30
  · obtain ⟨K, b, e, h⟩ := ent_l0 l hl l.length 0 (by omega) 0 (by omega) (by omega)
    refine ⟨b, fun hb => ⟨hl, fun a ha => ?_⟩, (PFilterBounds.cardcaselaw08_entries.calls K A c l b w hC hc ?_).mono ?_⟩
    · obtain ⟨p, hp, rfl⟩ := List.mem_iff_getElem.1 ha
      exact h hb p (Nat.zero_le _) hp
    · unfold PFilterBounds.cardcaselaw08_entries.f
      rw [if_neg (by omega)]
      exact e
    · rintro e w' ⟨rfl, hd⟩
      exact ⟨rfl, hd.below⟩
  · refine ⟨false, fun hb => (by cases hb), (PFilterBounds.cardcaselaw08_entries.calls 0 A c l false w hC hc ?_).mono ?_⟩
    · unfold PFilterBounds.cardcaselaw08_entries.f
      rw [if_pos (by omega)]
    · rintro e w' ⟨rfl, hd⟩
      exact ⟨rfl, hd.below⟩
theorem mild_of {l : List At} (h : l.length ≤ 30 ∧ ∀ a ∈ l, attF a) : MildE l := by
  refine ⟨by omega, fun a ha => ?_⟩
  obtain ⟨h1, h2, h3⟩ := h.2 a ha
  exact ⟨by omega, by omega, fun s hs => by have := h3 s hs; omega⟩
end Go.Proofs.Ytgnmkblaockghaa
