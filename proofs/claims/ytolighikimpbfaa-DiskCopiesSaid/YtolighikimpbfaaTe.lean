/- Two disks apart: a disk, and a copy of it. -/
import Derived.Test.YtolighikimpbfaaTc
import Derived.Test.YtolighikimpbfaaTd
set_option linter.unusedVariables false
set_option linter.unusedSimpArgs false
namespace Go.Proofs.Ytolighikimpbfaa
open Go.RowKit Go.Shelf Go.Proofs.YtolighikimpbfaaW.PrintWords Go.Proofs.YtolighikimpbfaaW.PrintMore

/-- A disk; what its calls turn lies from B on. -/
def One (B : Nat) (w : World) (g : Nat) (ds : DS) : Prop := ∃ S RO, Dk w S RO g ds ∧ ∀ q, S q → B ≤ q
/-- Two disks; the first one's calls turn nothing of the other's. -/
def Two (B : Nat) (w : World) (g g2 : Nat) (ds ds2 : DS) : Prop := ∃ S RO S2 RO2, Dk w S RO g ds ∧ Dk w S2 RO2 g2 ds2 ∧ (∀ q, S q → B ≤ q) ∧ (∀ q, S2 q → B ≤ q) ∧ ∀ q, S2 q ∨ RO2 q → ¬ S q
section
variable {B g g2 : Nat} {ds ds2 : DS} {w w' : World}
theorem Own.from (h : Own (fun q => q < B) w g ds) : One B w g ds := by
  obtain ⟨S, RO, h1, h2⟩ := h
  exact ⟨S, RO, h1, fun q hq => by have := h2 q (.inl hq); omega⟩
theorem One.below (h : One B w g ds) (hb : Below w.heap.size w w') : One B w' g ds := by
  obtain ⟨S, RO, h1, h2⟩ := h
  exact ⟨S, RO, h1.below hb, h2⟩
theorem One.one (h : One B w g ds) : Own1 (fun q => q < B) w g ds := by
  obtain ⟨S, RO, h1, h2⟩ := h
  exact ⟨S, RO, h1, fun q hq hn => by have := h2 q hq; omega⟩
theorem Two.first (h : Two B w g g2 ds ds2) : One B w g ds := by
  obtain ⟨S, RO, S2, RO2, h1, h2, h3, h4, h5⟩ := h
  exact ⟨S, RO, h1, h3⟩
theorem Two.second (h : Two B w g g2 ds ds2) : One B w g2 ds2 := by
  obtain ⟨S, RO, S2, RO2, h1, h2, h3, h4, h5⟩ := h
  exact ⟨S2, RO2, h2, h4⟩
theorem Two.below (h : Two B w g g2 ds ds2) (hb : Below w.heap.size w w') : Two B w' g g2 ds ds2 := by
  obtain ⟨S, RO, S2, RO2, h1, h2, h3⟩ := h
  exact ⟨S, RO, S2, RO2, h1.below hb, h2.below hb, h3⟩
theorem copy_two (h : One B w g ds) (hB : B ≤ w.heap.size) (hf : Fine ds) :
    Calls Try.prog 23 #[.pointer (some ⟨g, 0, none⟩)] w fun e w' => ∃ g2, e = .returned (.pointer (some ⟨g2, 0, none⟩)) ∧ Two B w' g g2 ds ds ∧ Two B w' g2 g ds ds ∧ Below w.heap.size w w' := by
  obtain ⟨S, RO, h1, h2⟩ := h
  refine (copy_calls _ _ g ds w h1.bound hf).mono ?_
  rintro e w' ⟨g2, S2, RO2, e1, k1, k2, k3, k4⟩
  refine ⟨g2, e1, ⟨_, _, S2, RO2, h1.bound.below k4, k1, fun q hq => h2 q hq.1, fun q hq => Nat.le_trans hB (k2 q hq), ?_⟩, ⟨S2, RO2, _, _, k1, h1.bound.below k4, fun q hq => Nat.le_trans hB (k2 q hq), fun q hq => h2 q hq.1, ?_⟩, k4⟩
  · rintro q (hq | hq) hs
    · have := k2 q hq; have := hs.2; omega
    · rcases k3 q hq with h9 | h9
      · obtain ⟨n, capn, lv, wv, hd⟩ := h1
        exact hd.apart q h9.1 hs.1
      · have := hs.2; omega
  · intro q hq hs
    have := k2 q hs
    rcases hq with hq | hq <;> (have := hq.2; omega)
/-- What others have while the first one acts. -/
theorem two_next {S RO S2 RO2 S' RO' : Nat → Prop} {d2 : DS} (h2 : Dk w S2 RO2 g2 ds2) (hs : ∀ q, S q → B ≤ q) (hs2 : ∀ q, S2 q → B ≤ q) (hap : ∀ q, S2 q ∨ RO2 q → ¬ S q) (hB : B ≤ w.heap.size) (k1 : Dk w' S' RO' g d2) (k2 : ∀ q, S' q → S q ∨ w.heap.size ≤ q) (hm : Mod S w w') : Two B w' g g2 d2 ds2 ∧ Below B w w' := by
  have hb := h2.bound
  refine ⟨⟨S', RO', _, _, k1, hb.mod hm (fun q hq hsq => hap q (hq.imp (fun h => h.1) (fun h => h.1)) hsq), fun q hq => ?_, fun q hq => hs2 q hq.1, fun q hq hsq => ?_⟩, hm.below hs hB⟩
  · rcases k2 q hq with h9 | h9
    · exact hs q h9
    · omega
  · rcases k2 q hsq with h9 | h9
    · exact hap q (hq.imp (fun h => h.1) (fun h => h.1)) h9
    · rcases hq with hq | hq <;> (have := hq.2; omega)
theorem two_write (h : Two B w g g2 ds ds2) (hB : B ≤ w.heap.size) (hf : Fine ds) (x : Int) (A : Option Addr) (c : Nat) (b : List UInt8) (hbl : b.length ≤ 262144) (okb : Nat → Prop) (hb : u8.F w okb A b.length (toI b)) (hok : ∀ q, okb q → q < B) :
    Calls Try.prog 12 #[.pointer (some ⟨g, 0, none⟩), .int .i64 x, .slice A b.length c] w fun e w' => e = .returned (.int .i64 (ds.write x b).2) ∧ Two B w' g g2 (ds.write x b).1 ds2 ∧ Below B w w' := by
  have hnow := h
  obtain ⟨S, RO, S2, RO2, h1, h2, h3, h4, h5⟩ := h
  unfold DS.write
  by_cases c1 : x < 0 ∨ (ds.now.length : Int) < x ∨ (ds.now.length : Int) - x < b.length
  · rw [if_pos c1]
    exact (write_range S RO g ds w h1 hf.len x A b.length c hbl c1).mono (fun e w' ⟨e1, e2⟩ => by subst e2; exact ⟨e1, hnow, Below.refl _ _⟩)
  · obtain ⟨i, rfl⟩ := Int.eq_ofNat_of_zero_le (show 0 ≤ x by omega)
    rw [if_neg c1]
    by_cases c2 : 0 < b.length ∧ ds.limit < (i : Int) + b.length
    · rw [if_pos c2]
      exact (write_full S RO g ds w h1 hf.len i A b.length c c2.1 (by omega) c2.2).mono (fun e w' ⟨e1, e2⟩ => by subst e2; exact ⟨e1, hnow, Below.refl _ _⟩)
    · rw [if_neg c2]
      by_cases c3 : ds.armed = 0
      · rw [if_pos c3]
        exact (write_stop S RO g ds w h1 c3 hf.len i A b.length c (by omega) (by omega)).mono (fun e w' ⟨e1, e2⟩ => by subst e2; exact ⟨e1, hnow, Below.refl _ _⟩)
      · rw [if_neg c3]
        refine (write_yes (fun q => S q ∧ q < w.heap.size) _ okb g ds w h1.bound (fun q hq => hq.2) hf c3 i A c b hb (fun q hq hs => by have := h3 q hs.1; have := hok q hq; omega) (by omega) (by omega)).mono ?_
        rintro e w' ⟨e1, S', RO', k1, k2, k3, k4⟩
        exact ⟨e1, two_next (S := fun q => S q ∧ q < w.heap.size) (RO := RO) h2 (fun q hq => h3 q hq.1) h4 (fun q hq hs => h5 q hq hs.1) hB k1 k2 k4⟩
theorem two_sync (h : Two B w g g2 ds ds2) (hB : B ≤ w.heap.size) (hf : Fine ds) :
    Calls Try.prog 13 #[.pointer (some ⟨g, 0, none⟩)] w fun e w' => e = .returned (.int .i64 ds.sync.2) ∧ Two B w' g g2 ds.sync.1 ds2 ∧ Below B w w' := by
  have hnow := h
  obtain ⟨S, RO, S2, RO2, h1, h2, h3, h4, h5⟩ := h
  unfold DS.sync
  by_cases c3 : ds.armed = 0
  · rw [if_pos c3]
    exact (sync_stop S RO g ds w h1 c3).mono (fun e w' ⟨e1, e2⟩ => by subst e2; exact ⟨e1, hnow, Below.refl _ _⟩)
  · rw [if_neg c3]
    refine (sync_yes (fun q => S q ∧ q < w.heap.size) _ g ds w h1.bound (fun q hq => hq.2) hf c3).mono ?_
    rintro e w' ⟨e1, S', RO', k1, k2, k3, k4⟩
    exact ⟨e1, two_next (S := fun q => S q ∧ q < w.heap.size) (RO := RO) h2 (fun q hq => h3 q hq.1) h4 (fun q hq hs => h5 q hq hs.1) hB k1 k2 k4⟩
theorem two_same (h : Two B w g g2 ds ds2) (hwl : ds.waits.length ≤ 1000000) :
    Calls Try.prog 24 #[.pointer (some ⟨g, 0, none⟩), .pointer (some ⟨g2, 0, none⟩)] w fun e w' => e = .returned (.bool (DSame ds ds2)) ∧ Below w.heap.size w w' := by
  obtain ⟨S, RO, S2, RO2, h1, h2, h3⟩ := h
  exact same_disks S RO S2 RO2 g g2 ds ds2 w h1 h2 hwl
theorem dsame_self (ds : DS) : DSame ds ds = true := by simp [DSame]
theorem Own1.bare2 {O : Nat → Prop} (h : Own1 O w g ds) : Own2 O (fun _ => False) w g ds := by
  obtain ⟨S, RO, h1, h2⟩ := h
  exact ⟨S, RO, h1, h2, fun q hq hn => hn⟩
/-- One disk alone: writes, syncs, and so on, beyond B alone. -/
theorem one_write (h : One B w g ds) (hB : B ≤ w.heap.size) (hf : Fine ds) (x : Int) (A : Option Addr) (c : Nat) (b : List UInt8) (hbl : b.length ≤ 262144) (okb : Nat → Prop) (hb : u8.F w okb A b.length (toI b)) (hok : ∀ q, okb q → q < B) :
    Calls Try.prog 12 #[.pointer (some ⟨g, 0, none⟩), .int .i64 x, .slice A b.length c] w fun e w' => e = .returned (.int .i64 (ds.write x b).2) ∧ One B w' g (ds.write x b).1 ∧ Below B w w' := by
  refine (write_own2 h.one.bare2 (fun q hq => hq.elim) (fun q hq => by omega) hf x A c b hbl okb hb hok).mono ?_
  rintro e w' ⟨e1, ⟨S, RO, k1, k2, _⟩, k3⟩
  exact ⟨e1, ⟨S, RO, k1, fun q hq => Nat.le_of_not_lt (k2 q hq)⟩, k3.below (fun q hq => hq) hB⟩
theorem one_sync (h : One B w g ds) (hB : B ≤ w.heap.size) (hf : Fine ds) :
    Calls Try.prog 13 #[.pointer (some ⟨g, 0, none⟩)] w fun e w' => e = .returned (.int .i64 ds.sync.2) ∧ One B w' g ds.sync.1 ∧ Below B w w' := by
  refine (sync_own2 h.one.bare2 (fun q hq => hq.elim) (fun q hq => by omega) hf).mono ?_
  rintro e w' ⟨e1, ⟨S, RO, k1, k2, _⟩, k3⟩
  exact ⟨e1, ⟨S, RO, k1, fun q hq => Nat.le_of_not_lt (k2 q hq)⟩, k3.below (fun q hq => hq) hB⟩
theorem one_arm (h : One B w g ds) (hB : B ≤ w.heap.size) (n : Int) :
    Calls Try.prog 15 #[.pointer (some ⟨g, 0, none⟩), .int .i64 n] w fun e w' => e = .returned (.int .i64 0) ∧ One B w' g (ds.arm n) ∧ Below B w w' := by
  obtain ⟨S, RO, h1, h2⟩ := h
  refine (arm_calls S RO g ds w h1 n).mono ?_
  rintro e w' ⟨e1, k1, k4⟩
  exact ⟨e1, ⟨S, RO, k1, h2⟩, k4.below h2 hB⟩
theorem one_waits (h : One B w g ds) : Calls Try.prog 18 #[.pointer (some ⟨g, 0, none⟩)] w fun e w' => e = .returned (.int .i64 (ds.waits.length : Int)) ∧ Below w.heap.size w w' := by
  obtain ⟨S, RO, h1, h2⟩ := h
  exact waits_calls S RO g ds w h1
end
end Go.Proofs.Ytolighikimpbfaa
