/- Calls of a disk, told at once: what each answers, and what stands behind it. -/
import Derived.Test.YtolighikimpbfaaDe
set_option linter.unusedVariables false
set_option linter.unusedSimpArgs false
namespace Go.Proofs.Ytolighikimpbfaa
open Go.RowKit Go.Shelf Go.Proofs.YtolighikimpbfaaW.PrintWords Go.Proofs.YtolighikimpbfaaW.PrintMore

/-! ### The answers -/
def DS.write (ds : DS) (x : Int) (b : List UInt8) : DS × Int :=
  if x < 0 ∨ (ds.now.length : Int) < x ∨ (ds.now.length : Int) - x < b.length then (ds, 4)
  else if 0 < b.length ∧ ds.limit < x + b.length then (ds, 110)
  else if ds.armed = 0 then (ds, 111)
  else (ds.wrote x.toNat b, 0)
def DS.sync (ds : DS) : DS × Int := if ds.armed = 0 then (ds, 111) else (ds.synced, 0)
def DS.arm (ds : DS) (n : Int) : DS := { ds with armed := mx (-1) n }
def DS.lim (ds : DS) (n : Int) : DS × Int := if n < 0 ∨ (ds.now.length : Int) < n then (ds, 4) else ({ ds with limit := n }, 0)

/-! ### Numbers stay as they may be -/
theorem mx_bounds {a : Int} (h1 : -1 ≤ a) (h2 : a ≤ 9223372036854775807) : -1 ≤ mx (-1) (a - 1) ∧ mx (-1) (a - 1) ≤ 9223372036854775807 := by
  unfold mx; split <;> omega
theorem fine_fresh (m : Nat) (h : m ≤ 262144) : Fine (fresh m) := by
  constructor <;> simp [fresh] <;> omega
theorem fine_wrote {ds : DS} (h : Fine ds) (hd : ds.done < 1000000) (hw : ds.waits.length < 1000000) (i : Nat) (b : List UInt8) (hi : i + b.length ≤ ds.now.length) : Fine (ds.wrote i b) := by
  have ho := over_length ds.now i b hi
  obtain ⟨a1, a2, a3, a4, a5, a6, a7, a8, a9, a10⟩ := h
  refine ⟨(mx_bounds a1 a2).1, (mx_bounds a1 a2).2, ?_, ?_, a5, ?_, ?_, ?_, ?_, ?_⟩
  · show 0 ≤ ds.done + 1; omega
  · show ds.done + 1 ≤ 1000000; omega
  · show ds.limit ≤ ((over ds.now i b).length : Int); rw [ho]; exact a6
  · show (over ds.now i b).length ≤ 262144; rw [ho]; exact a7
  · show ds.lasts.length = (over ds.now i b).length; rw [ho]; exact a8
  · show (ds.waits ++ [(⟨i, b⟩ : Wr)]).length ≤ 1000000; rw [List.length_append]; simp; omega
  · intro x hx
    show x.at_ + x.b.length ≤ (over ds.now i b).length
    rw [ho]
    rcases List.mem_append.1 hx with hx | hx
    · exact a10 x hx
    · simp only [List.mem_singleton] at hx; subst hx; exact hi
theorem fine_write {ds : DS} (h : Fine ds) (hd : ds.done < 1000000) (hw : ds.waits.length < 1000000) (x : Int) (b : List UInt8) : Fine (ds.write x b).1 := by
  unfold DS.write
  split
  · exact h
  · split
    · exact h
    · split
      · exact h
      · exact fine_wrote h hd hw _ _ (by omega)
theorem fine_sync {ds : DS} (h : Fine ds) (hd : ds.done < 1000000) : Fine ds.sync.1 := by
  unfold DS.sync
  split
  · exact h
  · obtain ⟨a1, a2, a3, a4, a5, a6, a7, a8, a9, a10⟩ := h
    refine ⟨(mx_bounds a1 a2).1, (mx_bounds a1 a2).2, ?_, ?_, a5, a6, a7, rfl, ?_, ?_⟩
    · show 0 ≤ ds.done + 1; omega
    · show ds.done + 1 ≤ 1000000; omega
    · show ([] : List Wr).length ≤ 1000000; simp
    · intro x hx; cases hx
theorem fine_arm {ds : DS} (h : Fine ds) (n : Int) (hn : n ≤ 9223372036854775807) : Fine (ds.arm n) := by
  obtain ⟨a1, a2, a3, a4, a5, a6, a7, a8, a9, a10⟩ := h
  exact ⟨by show -1 ≤ mx (-1) n; unfold mx; split <;> omega, by show mx (-1) n ≤ _; unfold mx; split <;> omega, a3, a4, a5, a6, a7, a8, a9, a10⟩
theorem fine_lim {ds : DS} (h : Fine ds) (n : Int) : Fine (ds.lim n).1 := by
  unfold DS.lim
  split
  · exact h
  · obtain ⟨a1, a2, a3, a4, a5, a6, a7, a8, a9, a10⟩ := h
    refine ⟨a1, a2, a3, a4, ?_, ?_, a7, a8, a9, a10⟩
    · show 0 ≤ n; omega
    · show n ≤ (ds.now.length : Int); omega
theorem kept_fit {ds : DS} (h : Fine ds) (x y : Int) : ∀ z ∈ ds.kept x y, z.at_ + z.b.length ≤ ds.now.length := by
  intro z hz
  unfold DS.kept at hz
  rcases List.mem_append.1 hz with hz | hz
  · exact h.fit z (List.mem_of_mem_take hz)
  · cases hq : ds.waits[pickN x ds.waits.length]? with
    | none => rw [hq] at hz; cases hz
    | some t =>
      rw [hq] at hz
      simp only [List.mem_singleton] at hz
      subst hz
      have := h.fit t (List.mem_of_getElem? hq)
      show t.at_ + (t.b.take _).length ≤ _
      rw [List.length_take]
      omega
theorem crashed_length {ds : DS} (h : Fine ds) (x y : Int) : (laid ds.lasts (ds.kept x y)).length = ds.now.length := by
  rw [laid_length _ _ (fun z hz => by rw [h.las]; exact kept_fit h x y z hz), h.las]
theorem fine_crashed {ds : DS} (h : Fine ds) (x y : Int) : Fine (ds.crashed x y) := by
  have hl := crashed_length h x y
  obtain ⟨a1, a2, a3, a4, a5, a6, a7, a8, a9, a10⟩ := h
  refine ⟨by show (-1 : Int) ≤ -1; omega, by show (-1 : Int) ≤ _; omega, by show (0 : Int) ≤ 0; omega, by show (0 : Int) ≤ _; omega, a5, ?_, ?_, rfl, by show ([] : List Wr).length ≤ _; simp, fun z hz => by cases hz⟩
  · show ds.limit ≤ ((laid ds.lasts (ds.kept x y)).length : Int); rw [hl]; exact a6
  · show (laid ds.lasts (ds.kept x y)).length ≤ _; rw [hl]; exact a7

/-! ### Where it lies -/
/-- A disk all of which lies between B and C. -/
def Mine (B C : Nat) (w : World) (g : Nat) (ds : DS) : Prop := ∃ S RO, Dk w S RO g ds ∧ ∀ q, S q ∨ RO q → B ≤ q ∧ q < C
theorem Mine.up {B C C' : Nat} {w : World} {g : Nat} {ds : DS} (h : Mine B C w g ds) (hc : C ≤ C') : Mine B C' w g ds := by
  obtain ⟨S, RO, h1, h2⟩ := h
  exact ⟨S, RO, h1, fun q hq => ⟨(h2 q hq).1, by have := (h2 q hq).2; omega⟩⟩
theorem Mine.now {B C : Nat} {w : World} {g : Nat} {ds : DS} (h : Mine B C w g ds) : Mine B w.heap.size w g ds := by
  obtain ⟨S, RO, h1, h2⟩ := h
  exact ⟨_, _, h1.bound, fun q hq => ⟨(h2 q (by rcases hq with hq | hq; exact .inl hq.1; exact .inr hq.1)).1, by rcases hq with hq | hq <;> exact hq.2⟩⟩
theorem Mine.down {B B' C : Nat} {w : World} {g : Nat} {ds : DS} (h : Mine B C w g ds) (hc : B' ≤ B) : Mine B' C w g ds := by
  obtain ⟨S, RO, h1, h2⟩ := h
  exact ⟨S, RO, h1, fun q hq => ⟨by have := (h2 q hq).1; omega, (h2 q hq).2⟩⟩
theorem Mine.below {B C : Nat} {w w' : World} {g : Nat} {ds : DS} (h : Mine B C w g ds) (hb : Below w.heap.size w w') : Mine B C w' g ds := by
  obtain ⟨S, RO, h1, h2⟩ := h
  exact ⟨S, RO, h1.below hb, h2⟩
/-- What others turn beyond it. -/
theorem Mine.apart {B C D : Nat} {w w' : World} {g : Nat} {ds : DS} (h : Mine B C w g ds) (hb : Below D w w') (hD : C ≤ D) : Mine B C w' g ds := by
  obtain ⟨S, RO, h1, h2⟩ := h
  refine ⟨S, RO, h1.mod (M := fun q => D ≤ q) ⟨hb.os, hb.tape, hb.output, hb.size, fun k _ hn => hb.block k (by omega)⟩ (fun q hq => ?_), h2⟩
  have := (h2 q hq).2
  omega
theorem Mine.none {B C : Nat} {w : World} {g : Nat} {ds : DS} (h : Mine B C w g ds) : NoneIs false (some ⟨g, 0, none⟩) w := by
  obtain ⟨S, RO, h1, h2⟩ := h
  exact h1.none
section
variable {B C g : Nat} {ds : DS} {w : World}
theorem mine_next {B C g : Nat} {w w' : World} {S RO S' RO' : Nat → Prop} (hs : ∀ q, S q ∨ RO q → B ≤ q ∧ q < C) (hB : B ≤ w.heap.size) {d2 : DS} (h : Dk w' S' RO' g d2) (h1 : ∀ q, S' q → S q ∨ w.heap.size ≤ q) (h2 : ∀ q, RO' q → (S q ∨ RO q) ∨ w.heap.size ≤ q) : Mine B w'.heap.size w' g d2 := by
  refine Mine.now (C := w'.heap.size) ⟨_, _, h.bound, fun q hq => ⟨?_, by rcases hq with hq | hq <;> exact hq.2⟩⟩
  rcases hq with hq | hq
  · rcases h1 q hq.1 with h3 | h3
    · exact (hs q (.inl h3)).1
    · omega
  · rcases h2 q hq.1 with h3 | h3
    · exact (hs q h3).1
    · omega
theorem write_mine (h : Mine B C w g ds) (hB : B ≤ w.heap.size) (hf : Fine ds) (x : Int) (A : Option Addr) (c : Nat) (b : List UInt8) (hbl : b.length ≤ 262144) (okb : Nat → Prop) (hb : u8.F w okb A b.length (toI b)) (hap : ∀ q, okb q → q < B ∨ C ≤ q) :
    Calls Try.prog 12 #[.pointer (some ⟨g, 0, none⟩), .int .i64 x, .slice A b.length c] w fun e w' => e = .returned (.int .i64 (ds.write x b).2) ∧ Mine B w'.heap.size w' g (ds.write x b).1 ∧ Below B w w' := by
  have hnow := h.now
  obtain ⟨S, RO, h1, h2⟩ := h
  unfold DS.write
  by_cases c1 : x < 0 ∨ (ds.now.length : Int) < x ∨ (ds.now.length : Int) - x < b.length
  · rw [if_pos c1]
    exact (write_range S RO g ds w h1 hf.len x A b.length c hbl c1).mono (fun e w' ⟨e1, e2⟩ => by subst e2; exact ⟨e1, hnow, Below.refl _ _⟩)
  · obtain ⟨i, rfl⟩ := Int.eq_ofNat_of_zero_le (show 0 ≤ x by omega)
    rw [if_neg c1]
    by_cases c2 : 0 < b.length ∧ ds.limit < (i : Int) + b.length
    · rw [if_pos c2]
      exact (write_full S RO g ds w h1 hf.len i A b.length c c2.1 (by omega) c2.2).mono (fun e w' ⟨e1, e2⟩ => by subst e2; exact ⟨e1, hnow, Below.refl _ _⟩)
    · rw [if_neg c2]
      by_cases c3 : ds.armed = 0
      · rw [if_pos c3]
        exact (write_stop S RO g ds w h1 c3 hf.len i A b.length c (by omega) (by omega)).mono (fun e w' ⟨e1, e2⟩ => by subst e2; exact ⟨e1, hnow, Below.refl _ _⟩)
      · rw [if_neg c3]
        have hbd := h1.bound
        refine (write_yes (fun q => S q ∧ q < w.heap.size) _ okb g ds w hbd (fun q hq => hq.2) hf c3 i A c b hb (fun q hq hs => ?_) (by omega) (by omega)).mono ?_
        · have := h2 q (.inl hs.1)
          have := hap q hq
          omega
        · rintro e w' ⟨e1, S', RO', k1, k2, k3, k4⟩
          exact ⟨e1, mine_next (S := fun q => S q ∧ q < w.heap.size) (RO := fun q => RO q ∧ q < w.heap.size) (C := C) (fun q hq => h2 q (hq.imp (fun h => h.1) (fun h => h.1))) hB k1 k2 k3, k4.below (fun q hq => (h2 q (.inl hq.1)).1) hB⟩
theorem sync_mine (h : Mine B C w g ds) (hB : B ≤ w.heap.size) (hf : Fine ds) :
    Calls Try.prog 13 #[.pointer (some ⟨g, 0, none⟩)] w fun e w' => e = .returned (.int .i64 ds.sync.2) ∧ Mine B w'.heap.size w' g ds.sync.1 ∧ Below B w w' := by
  have hnow := h.now
  obtain ⟨S, RO, h1, h2⟩ := h
  unfold DS.sync
  by_cases c3 : ds.armed = 0
  · rw [if_pos c3]
    exact (sync_stop S RO g ds w h1 c3).mono (fun e w' ⟨e1, e2⟩ => by subst e2; exact ⟨e1, hnow, Below.refl _ _⟩)
  · rw [if_neg c3]
    refine (sync_yes (fun q => S q ∧ q < w.heap.size) _ g ds w h1.bound (fun q hq => hq.2) hf c3).mono ?_
    rintro e w' ⟨e1, S', RO', k1, k2, k3, k4⟩
    exact ⟨e1, mine_next (S := fun q => S q ∧ q < w.heap.size) (RO := fun q => RO q ∧ q < w.heap.size) (C := C) (fun q hq => h2 q (hq.imp (fun h => h.1) (fun h => h.1))) hB k1 k2 k3, k4.below (fun q hq => (h2 q (.inl hq.1)).1) hB⟩
theorem arm_mine (h : Mine B C w g ds) (hB : B ≤ w.heap.size) (n : Int) :
    Calls Try.prog 15 #[.pointer (some ⟨g, 0, none⟩), .int .i64 n] w fun e w' => e = .returned (.int .i64 0) ∧ Mine B w'.heap.size w' g (ds.arm n) ∧ Below B w w' := by
  obtain ⟨S, RO, h1, h2⟩ := h
  refine (arm_calls S RO g ds w h1 n).mono ?_
  rintro e w' ⟨e1, k1, k4⟩
  exact ⟨e1, Mine.now (C := C) ⟨S, RO, k1, h2⟩, k4.below (fun q hq => (h2 q (.inl hq)).1) hB⟩
theorem lim_mine (h : Mine B C w g ds) (hB : B ≤ w.heap.size) (hf : Fine ds) (n : Int) :
    Calls Try.prog 16 #[.pointer (some ⟨g, 0, none⟩), .int .i64 n] w fun e w' => e = .returned (.int .i64 (ds.lim n).2) ∧ Mine B w'.heap.size w' g (ds.lim n).1 ∧ Below B w w' := by
  have hnow := h.now
  obtain ⟨S, RO, h1, h2⟩ := h
  unfold DS.lim
  by_cases c1 : n < 0 ∨ (ds.now.length : Int) < n
  · rw [if_pos c1]
    exact (limit_no S RO g ds w h1 n c1).mono (fun e w' ⟨e1, e2⟩ => by subst e2; exact ⟨e1, hnow, Below.refl _ _⟩)
  · rw [if_neg c1]
    refine (limit_calls S RO g ds w h1 n (by omega) (by omega)).mono ?_
    rintro e w' ⟨e1, k1, k4⟩
    exact ⟨e1, Mine.now (C := C) ⟨S, RO, k1, h2⟩, k4.below (fun q hq => (h2 q (.inl hq)).1) hB⟩
theorem crash_mine (h : Mine B C w g ds) (hf : Fine ds) (x y : Int) (hx : -9223372036854775808 ≤ x ∧ x ≤ 9223372036854775807) (hy : -9223372036854775808 ≤ y ∧ y ≤ 9223372036854775807) :
    Calls Try.prog 17 #[.pointer (some ⟨g, 0, none⟩), .agg #[.int .i64 x, .int .i64 y]] w fun e w' => ∃ g2, e = .returned (.tuple #[.pointer (some ⟨g2, 0, none⟩), .int .i64 0]) ∧ Mine w.heap.size w'.heap.size w' g2 (ds.crashed x y) ∧ Below w.heap.size w w' := by
  obtain ⟨S, RO, h1, h2⟩ := h
  refine (crash_yes S RO g ds w h1 hf x y hx hy).mono ?_
  rintro e w' ⟨g2, S2, RO2, e1, k1, k2, k3⟩
  refine ⟨g2, e1, ⟨_, _, k1.bound, fun q hq => ⟨k2 q (hq.imp (fun h => h.1) (fun h => h.1)), ?_⟩⟩, k3⟩
  rcases hq with hq | hq <;> exact hq.2
theorem new_mine (m : Nat) (h1 : 1 ≤ m) (h2 : m ≤ 262144) (w : World) :
    Calls Try.prog 11 #[.int .i64 (m : Int)] w fun e w' => ∃ g, e = .returned (.tuple #[.pointer (some ⟨g, 0, none⟩), .int .i64 0]) ∧ Mine w.heap.size w'.heap.size w' g (fresh m) ∧ Below w.heap.size w w' := by
  refine (new_yes m h1 h2 w).mono ?_
  rintro e w' ⟨g2, S2, RO2, e1, k1, k2, k3⟩
  refine ⟨g2, e1, ⟨_, _, k1.bound, fun q hq => ⟨k2 q (hq.imp (fun h => h.1) (fun h => h.1)), ?_⟩⟩, k3⟩
  rcases hq with hq | hq <;> exact hq.2
theorem read_mine (h : Mine B C w g ds) (hl : ds.now.length ≤ 262144) (x m : Nat) (hx : x + m ≤ ds.now.length) :
    Calls Try.prog 14 #[.pointer (some ⟨g, 0, none⟩), .int .i64 (x : Int), .int .i64 (m : Int)] w fun e w' => ∃ v, e = .returned (.tuple #[v, .int .i64 0]) ∧
      u8.R 5 w' 0 (fun q => w.heap.size ≤ q) v (toI ((ds.now.drop x).take m)) ∧ Below w.heap.size w w' := by
  obtain ⟨S, RO, h1, h2⟩ := h
  exact read_yes S RO g ds w h1 hl x m hx
theorem waits_mine (h : Mine B C w g ds) : Calls Try.prog 18 #[.pointer (some ⟨g, 0, none⟩)] w fun e w' => e = .returned (.int .i64 (ds.waits.length : Int)) ∧ Below w.heap.size w w' := by
  obtain ⟨S, RO, h1, h2⟩ := h
  exact waits_calls S RO g ds w h1
theorem size_mine (h : Mine B C w g ds) : Calls Try.prog 26 #[.pointer (some ⟨g, 0, none⟩)] w fun e w' => e = .returned (.int .i64 (ds.now.length : Int)) ∧ Below w.heap.size w w' := by
  obtain ⟨S, RO, h1, h2⟩ := h
  exact size_calls S RO g ds w h1
theorem steps_mine (h : Mine B C w g ds) : Calls Try.prog 27 #[.pointer (some ⟨g, 0, none⟩)] w fun e w' => e = .returned (.int .i64 ds.done) ∧ Below w.heap.size w w' := by
  obtain ⟨S, RO, h1, h2⟩ := h
  exact steps_calls S RO g ds w h1
end
end Go.Proofs.Ytolighikimpbfaa
