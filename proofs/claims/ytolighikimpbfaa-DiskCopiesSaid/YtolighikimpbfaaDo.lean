/- A disk beside what others own. -/
import Derived.Test.YtolighikimpbfaaDa
set_option linter.unusedVariables false
set_option linter.unusedSimpArgs false
namespace Go.Proofs.Ytolighikimpbfaa
open Go.RowKit Go.Shelf Go.Proofs.YtolighikimpbfaaW.PrintWords Go.Proofs.YtolighikimpbfaaW.PrintMore

/-- A disk, none of which lies in O. -/
def Own (O : Nat → Prop) (w : World) (g : Nat) (ds : DS) : Prop := ∃ S RO, Dk w S RO g ds ∧ ∀ q, S q ∨ RO q → ¬ O q
/-- What O has stays. -/
abbrev Stays (O : Nat → Prop) (w w' : World) : Prop := Mod (fun q => ¬ O q) w w'
theorem Stays.blk {O : Nat → Prop} {w w' : World} (h : Stays O w w') {k : Nat} (hk : O k) (hl : k < w.heap.size) : w'.heap[k]? = w.heap[k]? := h.block k hl (fun hn => hn hk)
theorem Stays.below {O : Nat → Prop} {w w' : World} {B : Nat} (h : Stays O w w') (hB : ∀ q, q < B → O q) (hs : B ≤ w.heap.size) : Below B w w' := ⟨h.os, h.tape, h.output, h.size, fun k hk => h.block k (by omega) (fun hn => hn (hB k hk))⟩
theorem Stays.of_below {O : Nat → Prop} {w w' : World} (h : Below w.heap.size w w') : Stays O w w' := Mod.of_below h
theorem Stays.trans {O O' : Nat → Prop} {a b c : World} (h : Stays O a b) (k : Stays O' b c) (hs : ∀ q, O q → O' q) : Stays O a c := Mod.trans h k (fun q hq => .inl (fun ho => hq (hs q ho)))
theorem Stays.refl (O : Nat → Prop) (w : World) : Stays O w w := Mod.refl _ _
theorem R_stays {α : Type} {d : Kd α} {e : Nat} {ok O : Nat → Prop} {w w' : World} {v : Value} {xs : List α} (h : d.R e w 0 ok v xs) (hm : Stays O w w') (hn : ∀ k, ok k → O k) : d.R e w' 0 ok v xs := R_mod h hm (fun k hk hno => hno (hn k hk))
section
variable {O O' : Nat → Prop} {w w' : World} {g : Nat} {ds : DS}
theorem Own.weaken (h : Own O w g ds) (ho : ∀ q, O' q → O q) : Own O' w g ds := by
  obtain ⟨S, RO, h1, h2⟩ := h
  exact ⟨S, RO, h1, fun q hq hn => h2 q hq (ho q hn)⟩
theorem Own.below (h : Own O w g ds) (hb : Below w.heap.size w w') : Own O w' g ds := by
  obtain ⟨S, RO, h1, h2⟩ := h
  exact ⟨S, RO, h1.below hb, h2⟩
/-- What is laid meanwhile is the others' too. -/
theorem Own.add (h : Own O w g ds) (hb : Below w.heap.size w w') : Own (fun q => O q ∨ w.heap.size ≤ q) w' g ds := by
  obtain ⟨S, RO, h1, h2⟩ := h
  refine ⟨_, _, h1.bound.below hb, fun q hq hn => ?_⟩
  have h3 : (S q ∨ RO q) ∧ q < w.heap.size := by rcases hq with hq | hq; exact ⟨.inl hq.1, hq.2⟩; exact ⟨.inr hq.1, hq.2⟩
  rcases hn with hn | hn
  · exact h2 q h3.1 hn
  · omega
/-- The others turn what is theirs. -/
theorem Own.mod {M : Nat → Prop} (h : Own O w g ds) (hm : Mod M w w') (hM : ∀ q, M q → O q) : Own O w' g ds := by
  obtain ⟨S, RO, h1, h2⟩ := h
  exact ⟨S, RO, h1.mod hm (fun q hq hmq => h2 q hq (hM q hmq)), h2⟩
theorem own_next {S RO S' RO' : Nat → Prop} (hO : ∀ q, O q → q < w.heap.size) (hs : ∀ q, S q ∨ RO q → ¬ O q) {d2 : DS} (h : Dk w' S' RO' g d2) (h1 : ∀ q, S' q → S q ∨ w.heap.size ≤ q) (h2 : ∀ q, RO' q → (S q ∨ RO q) ∨ w.heap.size ≤ q) : Own O w' g d2 := by
  refine ⟨S', RO', h, fun q hq hn => ?_⟩
  have hl := hO q hn
  rcases hq with hq | hq
  · rcases h1 q hq with h3 | h3
    · exact hs q (.inl h3) hn
    · omega
  · rcases h2 q hq with h3 | h3
    · exact hs q h3 hn
    · omega
theorem write_own (h : Own O w g ds) (hO : ∀ q, O q → q < w.heap.size) (hf : Fine ds) (x : Int) (A : Option Addr) (c : Nat) (b : List UInt8) (hbl : b.length ≤ 262144) (okb : Nat → Prop) (hb : u8.F w okb A b.length (toI b)) (hap : ∀ q, okb q → O q) :
    Calls Try.prog 12 #[.pointer (some ⟨g, 0, none⟩), .int .i64 x, .slice A b.length c] w fun e w' => e = .returned (.int .i64 (ds.write x b).2) ∧ Own O w' g (ds.write x b).1 ∧ Stays O w w' := by
  have hnow := h
  obtain ⟨S, RO, h1, h2⟩ := h
  unfold DS.write
  by_cases c1 : x < 0 ∨ (ds.now.length : Int) < x ∨ (ds.now.length : Int) - x < b.length
  · rw [if_pos c1]
    exact (write_range S RO g ds w h1 hf.len x A b.length c hbl c1).mono (fun e w' ⟨e1, e2⟩ => by subst e2; exact ⟨e1, hnow, Stays.refl _ _⟩)
  · obtain ⟨i, rfl⟩ := Int.eq_ofNat_of_zero_le (show 0 ≤ x by omega)
    rw [if_neg c1]
    by_cases c2 : 0 < b.length ∧ ds.limit < (i : Int) + b.length
    · rw [if_pos c2]
      exact (write_full S RO g ds w h1 hf.len i A b.length c c2.1 (by omega) c2.2).mono (fun e w' ⟨e1, e2⟩ => by subst e2; exact ⟨e1, hnow, Stays.refl _ _⟩)
    · rw [if_neg c2]
      by_cases c3 : ds.armed = 0
      · rw [if_pos c3]
        exact (write_stop S RO g ds w h1 c3 hf.len i A b.length c (by omega) (by omega)).mono (fun e w' ⟨e1, e2⟩ => by subst e2; exact ⟨e1, hnow, Stays.refl _ _⟩)
      · rw [if_neg c3]
        have hbd := h1.bound
        refine (write_yes (fun q => S q ∧ q < w.heap.size) _ okb g ds w hbd (fun q hq => hq.2) hf c3 i A c b hb (fun q hq hs => h2 q (.inl hs.1) (hap q hq)) (by omega) (by omega)).mono ?_
        rintro e w' ⟨e1, S', RO', k1, k2, k3, k4⟩
        exact ⟨e1, own_next hO (fun q hq => h2 q (hq.imp (fun h => h.1) (fun h => h.1))) k1 k2 k3, k4.mono (fun q hq => h2 q (.inl hq.1))⟩
theorem sync_own (h : Own O w g ds) (hO : ∀ q, O q → q < w.heap.size) (hf : Fine ds) :
    Calls Try.prog 13 #[.pointer (some ⟨g, 0, none⟩)] w fun e w' => e = .returned (.int .i64 ds.sync.2) ∧ Own O w' g ds.sync.1 ∧ Stays O w w' := by
  have hnow := h
  obtain ⟨S, RO, h1, h2⟩ := h
  unfold DS.sync
  by_cases c3 : ds.armed = 0
  · rw [if_pos c3]
    exact (sync_stop S RO g ds w h1 c3).mono (fun e w' ⟨e1, e2⟩ => by subst e2; exact ⟨e1, hnow, Stays.refl _ _⟩)
  · rw [if_neg c3]
    refine (sync_yes (fun q => S q ∧ q < w.heap.size) _ g ds w h1.bound (fun q hq => hq.2) hf c3).mono ?_
    rintro e w' ⟨e1, S', RO', k1, k2, k3, k4⟩
    exact ⟨e1, own_next hO (fun q hq => h2 q (hq.imp (fun h => h.1) (fun h => h.1))) k1 k2 k3, k4.mono (fun q hq => h2 q (.inl hq.1))⟩
theorem arm_own (h : Own O w g ds) (n : Int) :
    Calls Try.prog 15 #[.pointer (some ⟨g, 0, none⟩), .int .i64 n] w fun e w' => e = .returned (.int .i64 0) ∧ Own O w' g (ds.arm n) ∧ Stays O w w' := by
  obtain ⟨S, RO, h1, h2⟩ := h
  refine (arm_calls S RO g ds w h1 n).mono ?_
  rintro e w' ⟨e1, k1, k4⟩
  exact ⟨e1, ⟨S, RO, k1, h2⟩, k4.mono (fun q hq => h2 q (.inl hq))⟩
theorem lim_own (h : Own O w g ds) (hf : Fine ds) (n : Int) :
    Calls Try.prog 16 #[.pointer (some ⟨g, 0, none⟩), .int .i64 n] w fun e w' => e = .returned (.int .i64 (ds.lim n).2) ∧ Own O w' g (ds.lim n).1 ∧ Stays O w w' := by
  have hnow := h
  obtain ⟨S, RO, h1, h2⟩ := h
  unfold DS.lim
  by_cases c1 : n < 0 ∨ (ds.now.length : Int) < n
  · rw [if_pos c1]
    exact (limit_no S RO g ds w h1 n c1).mono (fun e w' ⟨e1, e2⟩ => by subst e2; exact ⟨e1, hnow, Stays.refl _ _⟩)
  · rw [if_neg c1]
    refine (limit_calls S RO g ds w h1 n (by omega) (by omega)).mono ?_
    rintro e w' ⟨e1, k1, k4⟩
    exact ⟨e1, ⟨S, RO, k1, h2⟩, k4.mono (fun q hq => h2 q (.inl hq))⟩
theorem crash_own (h : Own O w g ds) (hf : Fine ds) (x y : Int) (hx : -9223372036854775808 ≤ x ∧ x ≤ 9223372036854775807) (hy : -9223372036854775808 ≤ y ∧ y ≤ 9223372036854775807) :
    Calls Try.prog 17 #[.pointer (some ⟨g, 0, none⟩), .agg #[.int .i64 x, .int .i64 y]] w fun e w' => ∃ g2, e = .returned (.tuple #[.pointer (some ⟨g2, 0, none⟩), .int .i64 0]) ∧ Own (fun q => q < w.heap.size) w' g2 (ds.crashed x y) ∧ Below w.heap.size w w' := by
  obtain ⟨S, RO, h1, h2⟩ := h
  refine (crash_yes S RO g ds w h1 hf x y hx hy).mono ?_
  rintro e w' ⟨g2, S2, RO2, e1, k1, k2, k3⟩
  exact ⟨g2, e1, ⟨_, _, k1, fun q hq hn => by have := k2 q hq; omega⟩, k3⟩
theorem new_own (m : Nat) (h1 : 1 ≤ m) (h2 : m ≤ 262144) (w : World) :
    Calls Try.prog 11 #[.int .i64 (m : Int)] w fun e w' => ∃ g, e = .returned (.tuple #[.pointer (some ⟨g, 0, none⟩), .int .i64 0]) ∧ Own (fun q => q < w.heap.size) w' g (fresh m) ∧ Below w.heap.size w w' := by
  refine (new_yes m h1 h2 w).mono ?_
  rintro e w' ⟨g2, S2, RO2, e1, k1, k2, k3⟩
  exact ⟨g2, e1, ⟨_, _, k1, fun q hq hn => by have := k2 q hq; omega⟩, k3⟩
theorem read_own (h : Own O w g ds) (hl : ds.now.length ≤ 262144) (x m : Nat) (hx : x + m ≤ ds.now.length) :
    Calls Try.prog 14 #[.pointer (some ⟨g, 0, none⟩), .int .i64 (x : Int), .int .i64 (m : Int)] w fun e w' => ∃ v, e = .returned (.tuple #[v, .int .i64 0]) ∧
      u8.R 5 w' 0 (fun q => w.heap.size ≤ q) v (toI ((ds.now.drop x).take m)) ∧ Below w.heap.size w w' := by
  obtain ⟨S, RO, h1, h2⟩ := h
  exact read_yes S RO g ds w h1 hl x m hx
/-- All of it. -/
theorem readall_own (h : Own O w g ds) (hl : ds.now.length ≤ 262144) (m : Nat) (hm : ds.now.length = m) :
    Calls Try.prog 14 #[.pointer (some ⟨g, 0, none⟩), .int .i64 0, .int .i64 (m : Int)] w fun e w' => ∃ v, e = .returned (.tuple #[v, .int .i64 0]) ∧ u8.R 5 w' 0 (fun q => w.heap.size ≤ q) v (toI ds.now) ∧ Below w.heap.size w w' := by
  have := read_own h hl 0 m (by omega)
  rw [List.drop_zero, List.take_of_length_le (by omega)] at this
  exact this
theorem waits_own (h : Own O w g ds) : Calls Try.prog 18 #[.pointer (some ⟨g, 0, none⟩)] w fun e w' => e = .returned (.int .i64 (ds.waits.length : Int)) ∧ Below w.heap.size w w' := by
  obtain ⟨S, RO, h1, h2⟩ := h
  exact waits_calls S RO g ds w h1
theorem size_own (h : Own O w g ds) : Calls Try.prog 26 #[.pointer (some ⟨g, 0, none⟩)] w fun e w' => e = .returned (.int .i64 (ds.now.length : Int)) ∧ Below w.heap.size w w' := by
  obtain ⟨S, RO, h1, h2⟩ := h
  exact size_calls S RO g ds w h1
theorem steps_own (h : Own O w g ds) : Calls Try.prog 27 #[.pointer (some ⟨g, 0, none⟩)] w fun e w' => e = .returned (.int .i64 ds.done) ∧ Below w.heap.size w w' := by
  obtain ⟨S, RO, h1, h2⟩ := h
  exact steps_calls S RO g ds w h1
end
/-- Bytes that came in with the call: they stay as long as what was there does. -/
theorem F_came {w0 w : World} {A : Option Addr} {n : Nat} {xs : List Int} (h : u8.C w0 A n xs) (hb : Below w0.heap.size w0 w) : u8.F w (fun q => q < w0.heap.size) A n xs :=
  fun W' hW => (Kd.heap_int .u8).C (fun k hk => (hW k hk (Nat.lt_of_lt_of_le hk hb.size)).trans (hb.block k hk)) h

/-! ### Plain laws of a disk -/
/-- What stands is what lasts and, behind it, what waits. -/
def Std (ds : DS) : Prop := ds.now = laid ds.lasts ds.waits
theorem std_fresh (m : Nat) : Std (fresh m) := rfl
theorem std_write {ds : DS} (h : Std ds) (x : Int) (b : List UInt8) : Std (ds.write x b).1 := by
  unfold DS.write
  split
  · exact h
  · split
    · exact h
    · split
      · exact h
      · show over ds.now x.toNat b = laid ds.lasts (ds.waits ++ [⟨x.toNat, b⟩])
        rw [laid_append, ← show ds.now = laid ds.lasts ds.waits from h]
        rfl
theorem std_sync {ds : DS} (h : Std ds) : Std ds.sync.1 := by
  unfold DS.sync
  split
  · exact h
  · rfl
theorem std_lim {ds : DS} (h : Std ds) (n : Int) : Std (ds.lim n).1 := by
  unfold DS.lim
  split
  · exact h
  · exact h
theorem std_arm {ds : DS} (h : Std ds) (n : Int) : Std (ds.arm n) := h
theorem std_crashed (ds : DS) (x y : Int) : Std (ds.crashed x y) := rfl
theorem write_length (ds : DS) (x : Int) (b : List UInt8) : (ds.write x b).1.now.length = ds.now.length := by
  unfold DS.write
  split
  · rfl
  · split
    · rfl
    · split
      · rfl
      · exact over_length _ _ _ (by omega)
theorem sync_length (ds : DS) : ds.sync.1.now.length = ds.now.length := by unfold DS.sync; split <;> rfl
theorem lim_length (ds : DS) (n : Int) : (ds.lim n).1.now.length = ds.now.length := by unfold DS.lim; split <;> rfl
theorem write_done (ds : DS) (x : Int) (b : List UInt8) : (ds.write x b).1.done ≤ ds.done + 1 ∧ (ds.write x b).1.waits.length ≤ ds.waits.length + 1 := by
  unfold DS.write
  split
  · exact ⟨by show ds.done ≤ ds.done + 1; omega, Nat.le_succ _⟩
  · split
    · exact ⟨by show ds.done ≤ ds.done + 1; omega, Nat.le_succ _⟩
    · split
      · exact ⟨by show ds.done ≤ ds.done + 1; omega, Nat.le_succ _⟩
      · exact ⟨Int.le_refl _, by show (ds.waits ++ [(⟨x.toNat, b⟩ : Wr)]).length ≤ _; simp⟩
theorem sync_done (ds : DS) : ds.sync.1.done ≤ ds.done + 1 ∧ ds.sync.1.waits.length ≤ ds.waits.length := by
  unfold DS.sync
  split
  · exact ⟨by show ds.done ≤ ds.done + 1; omega, Nat.le_refl _⟩
  · exact ⟨Int.le_refl _, Nat.zero_le _⟩
theorem lim_done (ds : DS) (n : Int) : (ds.lim n).1.done = ds.done ∧ (ds.lim n).1.waits = ds.waits := by unfold DS.lim; split <;> exact ⟨rfl, rfl⟩
end Go.Proofs.Ytolighikimpbfaa
