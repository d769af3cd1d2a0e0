/- A disk's calls, told beside what others own and it may read; what a call of the law does. -/
import Derived.Test.YtolighikimpbfaaSa
set_option linter.unusedVariables false
set_option linter.unusedSimpArgs false
namespace Go.Proofs.Ytolighikimpbfaa
open Go.RowKit Go.Shelf Go.Proofs.YtolighikimpbfaaW.PrintWords Go.Proofs.YtolighikimpbfaaW.PrintMore
/-- A disk beside others: what its calls turn is none of O's, what they only read none of Z's. -/
def Own2 (O Z : Nat → Prop) (w : World) (g : Nat) (ds : DS) : Prop := ∃ S RO, Dk w S RO g ds ∧ (∀ q, S q → ¬ O q) ∧ ∀ q, RO q → ¬ Z q
section
variable {O O' Z Z' : Nat → Prop} {w w' : World} {g : Nat} {ds : DS}
theorem Own1.fresh (h : Own1 O w g ds) (hb : Below w.heap.size w w') : Own2 (fun q => O q ∨ w.heap.size ≤ q) (fun q => w.heap.size ≤ q) w' g ds := by
  obtain ⟨S, RO, h1, h2⟩ := h
  refine ⟨_, _, h1.bound.below hb, fun q hq hn => ?_, fun q hq hn => by have := hq.2; omega⟩
  rcases hn with hn | hn
  · exact h2 q hq.1 hn
  · have := hq.2; omega
theorem Own2.fresh (h : Own2 O Z w g ds) (hb : Below w.heap.size w w') : Own2 (fun q => O q ∨ w.heap.size ≤ q) (fun q => Z q ∨ w.heap.size ≤ q) w' g ds := by
  obtain ⟨S, RO, h1, h2, h3⟩ := h
  refine ⟨_, _, h1.bound.below hb, fun q hq hn => ?_, fun q hq hn => ?_⟩
  · rcases hn with hn | hn
    · exact h2 q hq.1 hn
    · have := hq.2; omega
  · rcases hn with hn | hn
    · exact h3 q hq.1 hn
    · have := hq.2; omega
theorem Own.two (h : Own O w g ds) : Own2 O O w g ds := by
  obtain ⟨S, RO, h1, h2⟩ := h
  exact ⟨S, RO, h1, fun q hq => h2 q (.inl hq), fun q hq => h2 q (.inr hq)⟩
theorem Own2.bare (h : Own2 O Z w g ds) : Own (fun _ => False) w g ds := by
  obtain ⟨S, RO, h1, h2⟩ := h
  exact ⟨S, RO, h1, fun q hq hn => hn⟩
theorem Own2.one (h : Own2 O Z w g ds) : Own1 O w g ds := by
  obtain ⟨S, RO, h1, h2, _⟩ := h
  exact ⟨S, RO, h1, h2⟩
theorem Own2.weaken (h : Own2 O Z w g ds) (ho : ∀ q, O' q → O q) (hz : ∀ q, Z' q → Z q) : Own2 O' Z' w g ds := by
  obtain ⟨S, RO, h1, h2, h3⟩ := h
  exact ⟨S, RO, h1, fun q hq hn => h2 q hq (ho q hn), fun q hq hn => h3 q hq (hz q hn)⟩
theorem Own2.below (h : Own2 O Z w g ds) (hb : Below w.heap.size w w') : Own2 O Z w' g ds := by
  obtain ⟨S, RO, h1, h2⟩ := h
  exact ⟨S, RO, h1.below hb, h2⟩
theorem Own2.mod {M : Nat → Prop} (h : Own2 O Z w g ds) (hm : Mod M w w') (hM : ∀ q, M q → O q ∧ Z q) : Own2 O Z w' g ds := by
  obtain ⟨S, RO, h1, h2, h3⟩ := h
  exact ⟨S, RO, h1.mod hm (fun q hq hmq => by rcases hq with hq | hq; exact h2 q hq (hM q hmq).1; exact h3 q hq (hM q hmq).2), h2, h3⟩
theorem own2_next {S RO S' RO' : Nat → Prop} (hO : ∀ q, O q → q < w.heap.size) (hZ : ∀ q, Z q → O q) (hs : ∀ q, S q → ¬ O q) (hr : ∀ q, RO q → ¬ Z q) {d2 : DS} (h : Dk w' S' RO' g d2) (h1 : ∀ q, S' q → S q ∨ w.heap.size ≤ q) (h2 : ∀ q, RO' q → (S q ∨ RO q) ∨ w.heap.size ≤ q) : Own2 O Z w' g d2 := by
  refine ⟨S', RO', h, fun q hq hn => ?_, fun q hq hn => ?_⟩
  · have hl := hO q hn
    rcases h1 q hq with h3 | h3
    · exact hs q h3 hn
    · omega
  · have hl := hO q (hZ q hn)
    rcases h2 q hq with (h3 | h3) | h3
    · exact hs q h3 (hZ q hn)
    · exact hr q h3 hn
    · omega
theorem write_own2 (h : Own2 O Z w g ds) (hZ : ∀ q, Z q → O q) (hO : ∀ q, O q → q < w.heap.size) (hf : Fine ds) (x : Int) (A : Option Addr) (c : Nat) (b : List UInt8) (hbl : b.length ≤ 262144) (okb : Nat → Prop) (hb : u8.F w okb A b.length (toI b)) (hap : ∀ q, okb q → O q) :
    Calls Try.prog 12 #[.pointer (some ⟨g, 0, none⟩), .int .i64 x, .slice A b.length c] w fun e w' => e = .returned (.int .i64 (ds.write x b).2) ∧ Own2 O Z w' g (ds.write x b).1 ∧ Stays O w w' := by
  have hnow := h
  obtain ⟨S, RO, h1, h2, h3⟩ := h
  unfold DS.write
  by_cases c1 : x < 0 ∨ (ds.now.length : Int) < x ∨ (ds.now.length : Int) - x < b.length
  · rw [if_pos c1]
    exact (write_range S RO g ds w h1 hf.len x A b.length c hbl c1).mono (fun e w' ⟨e1, e2⟩ => by subst e2; exact ⟨e1, hnow, Stays.refl _ _⟩)
  · obtain ⟨i, rfl⟩ := Int.eq_ofNat_of_zero_le (show 0 ≤ x by omega)
    rw [if_neg c1]
    by_cases c2 : 0 < b.length ∧ ds.limit < (i : Int) + b.length
    · rw [if_pos c2]
      exact (write_full S RO g ds w h1 hf.len i A b.length c c2.1 (by omega) c2.2).mono (fun e w' ⟨e1, e2⟩ => by subst e2; exact ⟨e1, hnow, Stays.refl _ _⟩)
    · rw [if_neg c2]
      by_cases c3 : ds.armed = 0
      · rw [if_pos c3]
        exact (write_stop S RO g ds w h1 c3 hf.len i A b.length c (by omega) (by omega)).mono (fun e w' ⟨e1, e2⟩ => by subst e2; exact ⟨e1, hnow, Stays.refl _ _⟩)
      · rw [if_neg c3]
        have hbd := h1.bound
        refine (write_yes (fun q => S q ∧ q < w.heap.size) _ okb g ds w hbd (fun q hq => hq.2) hf c3 i A c b hb (fun q hq hs => h2 q hs.1 (hap q hq)) (by omega) (by omega)).mono ?_
        rintro e w' ⟨e1, S', RO', k1, k2, k3, k4⟩
        exact ⟨e1, own2_next hO hZ (fun q hq => h2 q hq.1) (fun q hq => h3 q hq.1) k1 k2 k3, k4.mono (fun q hq => h2 q hq.1)⟩
theorem sync_own2 (h : Own2 O Z w g ds) (hZ : ∀ q, Z q → O q) (hO : ∀ q, O q → q < w.heap.size) (hf : Fine ds) :
    Calls Try.prog 13 #[.pointer (some ⟨g, 0, none⟩)] w fun e w' => e = .returned (.int .i64 ds.sync.2) ∧ Own2 O Z w' g ds.sync.1 ∧ Stays O w w' := by
  have hnow := h
  obtain ⟨S, RO, h1, h2, h3⟩ := h
  unfold DS.sync
  by_cases c3 : ds.armed = 0
  · rw [if_pos c3]
    exact (sync_stop S RO g ds w h1 c3).mono (fun e w' ⟨e1, e2⟩ => by subst e2; exact ⟨e1, hnow, Stays.refl _ _⟩)
  · rw [if_neg c3]
    refine (sync_yes (fun q => S q ∧ q < w.heap.size) _ g ds w h1.bound (fun q hq => hq.2) hf c3).mono ?_
    rintro e w' ⟨e1, S', RO', k1, k2, k3, k4⟩
    exact ⟨e1, own2_next hO hZ (fun q hq => h2 q hq.1) (fun q hq => h3 q hq.1) k1 k2 k3, k4.mono (fun q hq => h2 q hq.1)⟩
theorem arm_own2 (h : Own2 O Z w g ds) (n : Int) :
    Calls Try.prog 15 #[.pointer (some ⟨g, 0, none⟩), .int .i64 n] w fun e w' => e = .returned (.int .i64 0) ∧ Own2 O Z w' g (ds.arm n) ∧ Stays O w w' := by
  obtain ⟨S, RO, h1, h2⟩ := h
  refine (arm_calls S RO g ds w h1 n).mono ?_
  rintro e w' ⟨e1, k1, k4⟩
  exact ⟨e1, ⟨S, RO, k1, h2⟩, k4.mono h2.1⟩
theorem lim_own2 (h : Own2 O Z w g ds) (hf : Fine ds) (n : Int) :
    Calls Try.prog 16 #[.pointer (some ⟨g, 0, none⟩), .int .i64 n] w fun e w' => e = .returned (.int .i64 (ds.lim n).2) ∧ Own2 O Z w' g (ds.lim n).1 ∧ Stays O w w' := by
  have hnow := h
  obtain ⟨S, RO, h1, h2⟩ := h
  unfold DS.lim
  by_cases c1 : n < 0 ∨ (ds.now.length : Int) < n
  · rw [if_pos c1]
    exact (limit_no S RO g ds w h1 n c1).mono (fun e w' ⟨e1, e2⟩ => by subst e2; exact ⟨e1, hnow, Stays.refl _ _⟩)
  · rw [if_neg c1]
    refine (limit_calls S RO g ds w h1 n (by omega) (by omega)).mono ?_
    rintro e w' ⟨e1, k1, k4⟩
    exact ⟨e1, ⟨S, RO, k1, h2⟩, k4.mono h2.1⟩
end
theorem results_tct {P : Program} {fn : Func} {p u v : Tmp} {ty : TypeId} (h : fn.results = #[.tmp u, .cell p ty, .tmp v]) (tmps : Array Value) (w : World) (g : Nat) (t : TypeId) (cs : Array Value) (fr : Nat × Nat) (d : TypeDesc)
    (hp : tmps.getD p undef = .pointer (some ⟨g, 0, none⟩)) (hg : w.heap[g]? = some (.cells cs t fr))
    (hu : P.underlying ty = some d) (hd : (match d with | .struct _ | .array _ _ => true | _ => false) = true) (hi : (P.info? ty).map (·.size) = some cs.size) :
    (results fn tmps).run P w = .ok (.tuple #[tmps.getD u undef, .agg cs, tmps.getD v undef]) w := by
  have hp' : tmps[p]?.getD undef = .pointer (some ⟨g, 0, none⟩) := by simpa using hp
  simp [results, h, hp', asAddr, run_loadVar_row w g t ty cs fr d hg hu hd hi]
theorem rcrash_calls (O : Nat → Prop) (v : Value) (ds : DS) (w : World) (h : Ref w O v ds) (hf : Fine ds) (x y : Int) (hx : -9223372036854775808 ≤ x ∧ x ≤ 9223372036854775807) (hy : -9223372036854775808 ≤ y ∧ y ≤ 9223372036854775807) :
    Calls Try.prog 39 #[v, .int .i64 x, .int .i64 y] w fun e w' => ∃ u, e = .returned u ∧ Ref w' (fun q => w.heap.size ≤ q) u (ds.crashed x y) ∧ Below w.heap.size w w' :=
  rcrash0 _ v ds w h.bound (fun q hq => hq.2) hf x y hx hy

/-! ### What a call of the law does -/
def DS.does (ds : DS) (x : Act) : DS :=
  if x.kind = 1 then (ds.write x.at_ x.b).1 else if x.kind = 2 then ds.sync.1 else if x.kind = 3 then ds.arm x.n else if x.kind = 4 then (ds.lim x.n).1 else if x.kind = 5 then ds.crashed x.keep x.torn else ds
/-- Few calls so far. -/
structure Upto (k : Nat) (ds : DS) : Prop where
  fine : Fine ds
  std : Std ds
  done : ds.done ≤ k
  waits : ds.waits.length ≤ k
theorem Upto.up {k k' : Nat} {ds : DS} (h : Upto k ds) (hk : k ≤ k') : Upto k' ds := ⟨h.fine, h.std, by have := h.done; omega, by have := h.waits; omega⟩
theorem upto_does {k : Nat} {ds : DS} (h : Upto k ds) (hk : k < 1000000) (x : Act) (hn : x.n ≤ 9223372036854775807) : Upto (k + 1) (ds.does x) := by
  obtain ⟨h1, h2, h3, h4⟩ := h
  unfold DS.does
  split
  · have := write_done ds x.at_ x.b
    exact ⟨fine_write h1 (by omega) (by omega) _ _, std_write h2 _ _, by have := this.1; omega, by have := this.2; omega⟩
  split
  · have := sync_done ds
    exact ⟨fine_sync h1 (by omega), std_sync h2, by have := this.1; omega, by have := this.2; omega⟩
  split
  · exact ⟨fine_arm h1 _ hn, std_arm h2 _, by show ds.done ≤ _; omega, by show ds.waits.length ≤ _; omega⟩
  split
  · have := lim_done ds x.n
    exact ⟨fine_lim h1 _, std_lim h2 _, by rw [this.1]; omega, by rw [this.2]; omega⟩
  split
  · exact ⟨fine_crashed h1 _ _, std_crashed _ _ _, by show (0 : Int) ≤ _; omega, Nat.zero_le _⟩
  · exact ⟨h1, h2, by omega, by omega⟩
theorem does_length {ds : DS} (hf : Fine ds) (x : Act) : (ds.does x).now.length = ds.now.length := by
  unfold DS.does
  split
  · exact write_length _ _ _
  split
  · exact sync_length _
  split
  · rfl
  split
  · exact lim_length _ _
  split
  · exact crashed_length hf _ _
  · rfl

/-! ### Where does begins: three boxes -/
def refCells (A : Option Addr) (c : Nat) (A2 : Option Addr) (c2 n1 n2 : Nat) (ds : DS) : Array Value := #[.slice A n1 c, .slice A2 n2 c2, .int .i64 ds.armed, .int .i64 ds.limit, .int .i64 ds.done]
theorem three_boxes (w : World) (o1 o2 o3 : Obj) (W : World) (hW : ((w.alloc o1).alloc o2).alloc o3 = W) :
    W.heap.size = w.heap.size + 3 ∧ Below w.heap.size w W ∧ W.heap[w.heap.size]? = some o1 ∧ W.heap[w.heap.size + 1]? = some o2 ∧ W.heap[w.heap.size + 2]? = some o3 := by
  subst hW
  refine ⟨by simp, below_alloc (below_alloc (below_alloc (Below.refl _ _) _) _) _, ?_, ?_, ?_⟩
  · exact Mod.blk (S := fun _ => False) (((Mod.refl _ _).alloc _).alloc _) (Go.heap_alloc_new w _) (fun h => h)
  · exact Mod.blk (S := fun _ => False) ((Mod.refl _ _).alloc _) (last_new w _ _) (fun h => h)
  · have := Go.heap_alloc_new ((w.alloc o1).alloc o2) o3
    simpa using this
/-- Six cells of a block. -/
theorem blk6 {w : World} {g t : Nat} {a b c d e f : Value} (h : w.heap[g]? = some (.cells #[a, b, c, d, e, f] t (0, 0))) :
    w.cell? ⟨g, 0, none⟩ = some a ∧ w.cell? ⟨g, 1, none⟩ = some b ∧ w.cell? ⟨g, 2, none⟩ = some c ∧ w.cell? ⟨g, 3, none⟩ = some d ∧ w.cell? ⟨g, 4, none⟩ = some e ∧ w.cell? ⟨g, 5, none⟩ = some f :=
  ⟨(cell_of_row _ _ _ _ _ _ h).trans rfl, (cell_of_row _ _ _ _ _ _ h).trans rfl, (cell_of_row _ _ _ _ _ _ h).trans rfl, (cell_of_row _ _ _ _ _ _ h).trans rfl, (cell_of_row _ _ _ _ _ _ h).trans rfl, (cell_of_row _ _ _ _ _ _ h).trans rfl⟩
/-- Behind a call of the law: both disks, and what stays. -/
def DoesPost (w : World) (O Z : Nat → Prop) (ds : DS) (e : Ending) (w' : World) : Prop :=
  ∃ (g : Nat) (u : Value) (O' Oe : Nat → Prop), e = .returned (.tuple #[.pointer (some ⟨g, 0, none⟩), u, .bool true]) ∧ Own2 O' Z w' g ds ∧ Ref w' Oe u ds ∧ (∀ q, O q → O' q) ∧ (∀ q, O' q → q < w'.heap.size) ∧ (∀ q, Oe q → O' q ∧ ¬ Z q) ∧ Stays O w w'
/-- A call of the law, by value. -/
def actV (x : Act) (A : Option Addr) (c : Nat) : Value := .agg #[.int .i64 x.kind, .int .i64 x.at_, .int .i64 x.n, .slice A x.b.length c, .int .i64 x.keep, .int .i64 x.torn]
end Go.Proofs.Ytolighikimpbfaa
