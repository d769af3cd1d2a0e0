/- does, whatever the call; both disks in a loop. -/
import Derived.Test.YtolighikimpbfaaSg
set_option linter.unusedVariables false
set_option linter.unusedSimpArgs false
namespace Go.Proofs.Ytolighikimpbfaa
open Go.RowKit Go.Shelf Go.Proofs.YtolighikimpbfaaW.PrintWords Go.Proofs.YtolighikimpbfaaW.PrintMore

theorem does_calls (O Z Oe : Nat → Prop) (g : Nat) (v : Value) (ds : DS) (k : Nat) (w : World) (x : Act) (Ab : Option Addr) (cb : Nat) (h : Own2 O Z w g ds) (hZ : ∀ q, Z q → O q) (hr : Ref w Oe v ds) (hOe : ∀ q, Oe q → O q ∧ ¬ Z q) (hO : ∀ q, O q → q < w.heap.size) (hu : Upto k ds) (hk : k < 1000000)
    (hbl : x.b.length ≤ 262144) (hb : u8.F w O Ab x.b.length (toI x.b)) (hxo : x.Ok) :
    Calls Try.prog 20 #[.pointer (some ⟨g, 0, none⟩), v, actV x Ab cb] w (DoesPost w O Z (ds.does x)) := by
  by_cases c1 : x.kind = 1
  · exact does_write O Z Oe g v ds k w x Ab cb h hZ hr hOe hO hu hk hbl hb c1
  by_cases c2 : x.kind = 2
  · exact does_sync O Z Oe g v ds k w x Ab cb h hZ hr hOe hO hu hk hbl hb c2
  by_cases c3 : x.kind = 3
  · exact does_arm O Z Oe g v ds k w x Ab cb h hZ hr hOe hO hu hk hbl hb c3
  by_cases c4 : x.kind = 4
  · by_cases hn : x.n < 0 ∨ (ds.lasts.length : Int) < x.n
    · exact does_lim_no O Z Oe g v ds k w x Ab cb h hZ hr hOe hO hu hk hbl hb c4 hn
    · exact does_lim_yes O Z Oe g v ds k w x Ab cb h hZ hr hOe hO hu hk hbl hb c4 (by omega)
  by_cases c5 : x.kind = 5
  · exact does_crash O Z Oe g v ds k w x Ab cb h hZ hr hOe hO hu hk hbl hb hxo c5
  by_cases c6 : x.kind = 6
  · exact does_look O Z Oe g v ds k w x Ab cb h hZ hr hOe hO hu hk hbl hb hxo c6
  exact does_stay O Z Oe g v ds k w x Ab cb h hZ hr hOe hO hu hk hbl hb ⟨c1, c2, c3, c4, c5, c6⟩
theorem rnew_none (m : Int) (h1 : m < 1) (w : World) :
    Calls Try.prog 19 #[.int .i64 m] w fun e w' => e = .returned (.tuple #[.agg #[.slice none 0 0, .slice none 0 0, .int .i64 0, .int .i64 0, .int .i64 0], .int .i64 2]) ∧ Below w.heap.size w w' := by
  have d1 : decide (m < 1) = true := by simp; omega
  go_enter Try.func19, Try.ntmps19
  go_wp2
  exact bodyPost_ret (results_ct rfl _ _ w.heap.size 45 #[.slice none 0 0, .slice none 0 0, .int .i64 0, .int .i64 0, .int .i64 0] (0, 0) _ rfl (Go.heap_alloc_new w _) Try.underlying45 rfl size45) rfl ⟨rfl, below_alloc (Below.refl _ _) _⟩

/-! ### Both disks in a loop -/
/-- The document's disk, by value. -/
abbrev refV (A : Option Addr) (c : Nat) (A2 : Option Addr) (c2 : Nat) (ds : DS) : Array Value := #[.slice A ds.lasts.length c, .slice A2 ds.waits.length c2, .int .i64 ds.armed, .int .i64 ds.limit, .int .i64 ds.done]
/-- Both disks, beside a box B7 and what others own. -/
structure PL (w0 : World) (B m : Nat) (wr : World) (g B7 k : Nat) (A : Option Addr) (c : Nat) (A2 : Option Addr) (c2 : Nat) (ds : DS) (O Oe : Nat → Prop) : Prop where
  own : Own2 O (fun q => q = B7) wr g ds
  ref : Ref wr Oe (.agg (refV A c A2 c2 ds)) ds
  box : wr.heap[B7]? = some (.cells (refV A c A2 c2 ds) 45 (0, 0))
  oe : ∀ q, Oe q → O q ∧ q ≠ B7
  ob : O B7
  lo : ∀ q, q < B → O q
  bd : ∀ q, O q → q < wr.heap.size
  hB : B ≤ B7
  hw : B ≤ w0.heap.size
  bel : Below B w0 wr
  upto : Upto k ds
  len : ds.now.length = m
section
variable {w0 wr w w' : World} {B m g g2 B7 B11 k : Nat} {A A2 A5 A6 : Option Addr} {c c2 c5 c6 : Nat} {ds ds2 : DS} {O Oe O' Oe' : Nat → Prop}
/-- What a call of the law makes of the value that it is handed. -/
theorem Ref.form {v : Value} (h : Ref w O v ds) : ∃ A c A2 c2, v = .agg (refV A c A2 c2 ds) := by
  obtain ⟨A, c, A2, c2, e, _⟩ := h
  exact ⟨A, c, A2, c2, e⟩
/-- In the middle of a round: the next disks, the box as it was, and a box B11 more. -/
structure PM (w0 : World) (B m : Nat) (w : World) (g B7 B11 k : Nat) (A : Option Addr) (c : Nat) (A2 : Option Addr) (c2 : Nat) (ds : DS) (O Oe : Nat → Prop) : Prop where
  own : Own2 O (fun q => q = B7 ∨ q = B11) w g ds
  ref : Ref w Oe (.agg (refV A c A2 c2 ds)) ds
  box : ∃ a b c d e, w.heap[B7]? = some (.cells #[a, b, c, d, e] 45 (0, 0))
  box2 : ∃ a b c d e, w.heap[B11]? = some (.cells #[a, b, c, d, e] 45 (0, 0))
  oe : ∀ q, Oe q → O q ∧ q ≠ B7 ∧ q ≠ B11
  o7 : O B7
  o11 : O B11
  ne : B7 ≠ B11
  lo : ∀ q, q < B → O q
  bd : ∀ q, O q → q < w.heap.size
  hB : B ≤ B7
  hB2 : B ≤ B11
  hw : B ≤ w0.heap.size
  bel : Below B w0 w
  upto : Upto k ds
  len : ds.now.length = m
theorem PM.below (h : PM w0 B m w g B7 B11 k A c A2 c2 ds O Oe) (hb : Below w.heap.size w w') : PM w0 B m w' g B7 B11 k A c A2 c2 ds O Oe := by
  have h7 := h.bd _ h.o7
  have h11 := h.bd _ h.o11
  obtain ⟨a, b, d, e, f, h1⟩ := h.box
  obtain ⟨a', b', d', e', f', h2⟩ := h.box2
  exact ⟨h.own.below hb, h.ref.below hb, ⟨a, b, d, e, f, (hb.block _ h7).trans h1⟩, ⟨a', b', d', e', f', (hb.block _ h11).trans h2⟩, h.oe, h.o7, h.o11, h.ne, h.lo, fun q hq => Nat.lt_of_lt_of_le (h.bd q hq) hb.size, h.hB, h.hB2, h.hw,
    below_then' h.bel hb h.hw, h.upto, h.len⟩
where below_then' {B : Nat} {a b c : World} (h : Below B a b) (hb : Below b.heap.size b c) (hB : B ≤ a.heap.size) : Below B a c := ⟨hb.os.trans h.os, hb.tape.trans h.tape, hb.output.trans h.output, Nat.le_trans h.size hb.size, fun k hk => (hb.block k (Nat.lt_of_lt_of_le hk (Nat.le_trans hB h.size))).trans (h.block k hk)⟩
/-- B11 is filled. -/
theorem PM.fill (h : PM w0 B m w g B7 B11 k A c A2 c2 ds O Oe) (a b d e f : Value) :
    PM w0 B m (((((w.setCell ⟨B11, 0, none⟩ a).setCell ⟨B11, 1, none⟩ b).setCell ⟨B11, 2, none⟩ d).setCell ⟨B11, 3, none⟩ e).setCell ⟨B11, 4, none⟩ f) g B7 B11 k A c A2 c2 ds O Oe := by
  have hm := mod5 w B11 a b d e f
  obtain ⟨a1, b1, d1, e1, f1, h1⟩ := h.box
  obtain ⟨a', b', d', e', f', h2⟩ := h.box2
  exact ⟨h.own.mod hm (fun q hq => by subst hq; exact ⟨h.o11, .inr rfl⟩), h.ref.mod hm (fun q hq => (h.oe q hq).2.2), ⟨_, _, _, _, _, hm.blk h1 h.ne⟩, ⟨_, _, _, _, _, set5 h2 a b d e f⟩, h.oe, h.o7, h.o11, h.ne, h.lo, fun q hq => Nat.lt_of_lt_of_le (h.bd q hq) hm.size, h.hB, h.hB2, h.hw,
    below5 h.bel h.hB2 _ _ _ _ _, h.upto, h.len⟩
/-- The box takes what the next round starts from. -/
theorem PM.next (h : PM w0 B m w g B7 B11 k A c A2 c2 ds O Oe) : PL w0 B m (((((w.setCell ⟨B7, 0, none⟩ (.slice A ds.lasts.length c)).setCell ⟨B7, 1, none⟩ (.slice A2 ds.waits.length c2)).setCell ⟨B7, 2, none⟩ (.int .i64 ds.armed)).setCell ⟨B7, 3, none⟩ (.int .i64 ds.limit)).setCell ⟨B7, 4, none⟩ (.int .i64 ds.done)) g B7 k A c A2 c2 ds O Oe := by
  have hm := mod5 w B7 (.slice A ds.lasts.length c) (.slice A2 ds.waits.length c2) (.int .i64 ds.armed) (.int .i64 ds.limit) (.int .i64 ds.done)
  obtain ⟨a1, b1, d1, e1, f1, h1⟩ := h.box
  exact ⟨(h.own.mod hm (fun q hq => by subst hq; exact ⟨h.o7, .inl rfl⟩)).weaken (fun _ h => h) (fun _ h => .inl h), h.ref.mod hm (fun q hq => (h.oe q hq).2.1), set5 h1 _ _ _ _ _, fun q hq => ⟨(h.oe q hq).1, (h.oe q hq).2.1⟩, h.o7, h.lo, fun q hq => Nat.lt_of_lt_of_le (h.bd q hq) hm.size, h.hB, h.hw,
    below5 h.bel h.hB _ _ _ _ _, h.upto, h.len⟩
theorem PL.drew (h : PL w0 B m w g B7 k A c A2 c2 ds O Oe) : PL w0 B m w.drew g B7 k A c A2 c2 ds O Oe :=
  ⟨h.own.below (below_drew (Below.refl _ _)), h.ref.below (below_drew (Below.refl _ _)), h.box, h.oe, h.ob, h.lo, h.bd, h.hB, h.hw, h.bel.trans (below_drew (Below.refl _ _)), h.upto, h.len⟩
theorem PL.below (h : PL w0 B m w g B7 k A c A2 c2 ds O Oe) (hb : Below w.heap.size w w') : PL w0 B m w' g B7 k A c A2 c2 ds O Oe :=
  ⟨h.own.below hb, h.ref.below hb, (hb.block _ (h.bd _ h.ob)).trans h.box, h.oe, h.ob, h.lo, fun q hq => Nat.lt_of_lt_of_le (h.bd q hq) hb.size, h.hB, h.hw,
    PM.below.below_then' h.bel hb h.hw, h.upto, h.len⟩
/-- B11 lies there already when the call is made. -/
theorem PL.made {v : Value} (h : PL w0 B m wr g B7 k A c A2 c2 ds O Oe) (x : Act) (hx : x.n ≤ 9223372036854775807) (hk : k < 1000000) {wA : World} {a b d e f : Value} (hA : wA.heap[wr.heap.size]? = some (.cells #[a, b, d, e, f] 45 (0, 0))) (hbA : Below wr.heap.size wr wA)
    {r : Ending} (hp : DoesPost wA (fun q => O q ∨ q = wr.heap.size) (fun q => q = B7 ∨ q = wr.heap.size) (ds.does x) r w') : ∃ g2 A5 c5 A6 c6 O' Oe', r = .returned (.tuple #[.pointer (some ⟨g2, 0, none⟩), .agg (refV A5 c5 A6 c6 (ds.does x)), .bool true]) ∧
      PM w0 B m w' g2 B7 wr.heap.size (k + 1) A5 c5 A6 c6 (ds.does x) O' Oe' ∧ Stays O wr w' := by
  obtain ⟨g2, u, O', Oe', rfl, h1, h2, h3, h4, h5, h6⟩ := hp
  obtain ⟨A5, c5, A6, c6, rfl⟩ := h2.form
  have hlt := Nat.lt_of_lt_of_le (h.bd _ h.ob) hbA.size
  have hz := (Array.getElem?_eq_some_iff.1 hA).1
  have h7 : w'.heap[B7]? = wA.heap[B7]? := h6.blk (.inl h.ob) hlt
  have h11 : w'.heap[wr.heap.size]? = wA.heap[wr.heap.size]? := h6.blk (.inr rfl) hz
  have hst : Stays O wr w' := (Stays.of_below hbA).trans h6 (fun q hq => .inl hq)
  refine ⟨g2, A5, c5, A6, c6, O', Oe', rfl, ⟨h1, h2, ⟨_, _, _, _, _, h7.trans ((hbA.block _ (h.bd _ h.ob)).trans h.box)⟩, ⟨_, _, _, _, _, h11.trans hA⟩, fun q hq => ⟨(h5 q hq).1, fun e => (h5 q hq).2 (.inl e), fun e => (h5 q hq).2 (.inr e)⟩, h3 _ (.inl h.ob), h3 _ (.inr rfl), ?_, fun q hq => h3 _ (.inl (h.lo q hq)), h4, h.hB, ?_, h.hw, ?_, upto_does h.upto hk x hx, ?_⟩, hst⟩
  · have := h.bd _ h.ob; omega
  · have := h.bel.size; have := h.hw; omega
  · exact h.bel.trans (hst.below h.lo (by have := h.bel.size; have := h.hw; omega))
  · rw [does_length h.upto.fine, h.len]
/-- B11 is made behind it. -/
theorem PL.makes (h : PL w0 B m wr g B7 k A c A2 c2 ds O Oe) (x : Act) (hx : x.n ≤ 9223372036854775807) (hk : k < 1000000)
    {r : Ending} (hp : DoesPost wr O (fun q => q = B7) (ds.does x) r w) {a b d e f : Value} (hb : Below w.heap.size w w') (hA : w'.heap[w.heap.size]? = some (.cells #[a, b, d, e, f] 45 (0, 0))) : ∃ g2 A5 c5 A6 c6 O' Oe', r = .returned (.tuple #[.pointer (some ⟨g2, 0, none⟩), .agg (refV A5 c5 A6 c6 (ds.does x)), .bool true]) ∧
      PM w0 B m w' g2 B7 w.heap.size (k + 1) A5 c5 A6 c6 (ds.does x) O' Oe' ∧ Stays O wr w' := by
  obtain ⟨g2, u, O', Oe', rfl, h1, h2, h3, h4, h5, h6⟩ := hp
  obtain ⟨A5, c5, A6, c6, rfl⟩ := h2.form
  have hlt := h.bd _ h.ob
  have hz := (Array.getElem?_eq_some_iff.1 hA).1
  have h7 : w.heap[B7]? = wr.heap[B7]? := h6.blk h.ob hlt
  have h7' := h4 _ (h3 _ h.ob)
  have hst : Stays O wr w' := h6.trans (Stays.of_below (O := O) hb) (fun q hq => hq)
  refine ⟨g2, A5, c5, A6, c6, fun q => O' q ∨ (w.heap.size ≤ q ∧ q < w'.heap.size), Oe', rfl, ⟨(h1.fresh hb).weaken (fun q hq => hq.imp id (fun h => h.1)) (fun q hq => hq.imp id (fun h => by omega)), h2.below hb, ⟨_, _, _, _, _, (hb.block _ h7').trans (h7.trans h.box)⟩, ⟨_, _, _, _, _, hA⟩, fun q hq => ⟨.inl (h5 q hq).1, (h5 q hq).2, fun e => ?_⟩, .inl (h3 _ h.ob), .inr ⟨Nat.le_refl _, hz⟩, ?_, fun q hq => .inl (h3 _ (h.lo q hq)), ?_, h.hB, ?_, h.hw, ?_, upto_does h.upto hk x hx, ?_⟩, hst⟩
  · have := h4 q (h5 q hq).1; omega
  · omega
  · rintro q (hq | hq)
    · exact Nat.lt_of_lt_of_le (h4 q hq) hb.size
    · exact hq.2
  · have := h.bel.size; have := h.hw; have := h6.size; omega
  · exact h.bel.trans (hst.below h.lo (by have := h.bel.size; have := h.hw; omega))
  · rw [does_length h.upto.fine, h.len]
/-- No box is made: the box takes it. -/
theorem PL.goes (h : PL w0 B m wr g B7 k A c A2 c2 ds O Oe) (x : Act) (hx : x.n ≤ 9223372036854775807) (hk : k < 1000000)
    {r : Ending} (hp : DoesPost wr O (fun q => q = B7) (ds.does x) r w) : ∃ g2 A5 c5 A6 c6 O' Oe', r = .returned (.tuple #[.pointer (some ⟨g2, 0, none⟩), .agg (refV A5 c5 A6 c6 (ds.does x)), .bool true]) ∧
      (PL w0 B m (((((w.setCell ⟨B7, 0, none⟩ (.slice A5 (ds.does x).lasts.length c5)).setCell ⟨B7, 1, none⟩ (.slice A6 (ds.does x).waits.length c6)).setCell ⟨B7, 2, none⟩ (.int .i64 (ds.does x).armed)).setCell ⟨B7, 3, none⟩ (.int .i64 (ds.does x).limit)).setCell ⟨B7, 4, none⟩ (.int .i64 (ds.does x).done)) g2 B7 (k + 1) A5 c5 A6 c6 (ds.does x) O' Oe') ∧
      Stays O wr w ∧ (∃ a b d e f, w.heap[B7]? = some (.cells #[a, b, d, e, f] 45 (0, 0))) := by
  obtain ⟨g2, u, O', Oe', rfl, h1, h2, h3, h4, h5, h6⟩ := hp
  obtain ⟨A5, c5, A6, c6, rfl⟩ := h2.form
  have hm := mod5 w B7 (.slice A5 (ds.does x).lasts.length c5) (.slice A6 (ds.does x).waits.length c6) (.int .i64 (ds.does x).armed) (.int .i64 (ds.does x).limit) (.int .i64 (ds.does x).done)
  have h7 : w.heap[B7]? = wr.heap[B7]? := h6.blk h.ob (h.bd _ h.ob)
  refine ⟨g2, A5, c5, A6, c6, O', Oe', rfl, ⟨h1.mod hm (fun q hq => by subst hq; exact ⟨h3 _ h.ob, rfl⟩), h2.mod hm (fun q hq => (h5 q hq).2), set5 (h7.trans h.box) _ _ _ _ _, h5, h3 _ h.ob, fun q hq => h3 _ (h.lo q hq), fun q hq => Nat.lt_of_lt_of_le (h4 q hq) hm.size, h.hB, h.hw, below5 ?_ h.hB _ _ _ _ _, upto_does h.upto hk x hx, ?_⟩, h6, ⟨_, _, _, _, _, h7.trans h.box⟩⟩
  · exact h.bel.trans (h6.below h.lo (by have := h.bel.size; have := h.hw; omega))
  · rw [does_length h.upto.fine, h.len]
/-- Where both are new. -/
theorem pl_start {w1 w2 w3 : World} {m : Nat} (hm : m ≤ 262144) (h1 : Own (fun q => q < w0.heap.size) w1 g (fresh m)) (hb1 : Below w0.heap.size w0 w1) (h2 : Ref w2 (fun q => w1.heap.size ≤ q) (.agg (refV A c A2 c2 (fresh m))) (fresh m)) (hb2 : Below w1.heap.size w1 w2)
    (hb3 : Below w2.heap.size w2 w3) (hA : w3.heap[w2.heap.size]? = some (.cells (refV A c A2 c2 (fresh m)) 45 (0, 0))) : ∃ O Oe, PL w0 w0.heap.size m w3 g w2.heap.size 0 A c A2 c2 (fresh m) O Oe := by
  have hb23 := below_then hb2 hb2.size hb3
  have hz := (Array.getElem?_eq_some_iff.1 hA).1
  have z1 := hb1.size
  have z2 := hb2.size
  refine ⟨fun q => q < w0.heap.size ∨ (w1.heap.size ≤ q ∧ q < w3.heap.size), fun q => w1.heap.size ≤ q ∧ q < w2.heap.size, (h1.add hb23).two.weaken (fun q hq => hq.imp id (fun h => h.1)) (fun q hq => by subst hq; exact .inr hb2.size), h2.bound.below hb3, hA, fun q hq => ⟨.inr ⟨hq.1, by omega⟩, by omega⟩, .inr ⟨hb2.size, hz⟩, fun q hq => .inl hq, ?_, by omega, Nat.le_refl _, ?_, ⟨fine_fresh m hm, std_fresh m, by show (0 : Int) ≤ _; omega, Nat.zero_le _⟩, by simp [fresh]⟩
  · rintro q (hq | hq)
    · omega
    · exact hq.2
  · exact below_then hb1 z1 hb23
end
end Go.Proofs.Ytolighikimpbfaa
