/- Values in memory, their sizes, ber.Check (turned from the Ber seat's texts). -/
import Derived.Test.YtgnmkblaockghaaQPFilterBoundsx9
import Derived.Test.YtgnmkblaockghaaQJg
import Derived.Laws.EntriesVeiled
set_option linter.unusedVariables false
set_option linter.unusedSimpArgs false
namespace Go.Proofs.Ytgnmkblaockghaa.B
open Go.RowKit Go.Shelf Go.Proofs.YtgnmkblaockghaaW.PrintWords Go.Proofs.YtgnmkblaockghaaW.PrintMore Go.Proofs.YtgnmkblaockghaaW.PrintLast
open Go.Proofs.Ytgnmkblaockghaa.PFilterBounds (S55)

/-! ### Values -/
/-- A value. -/
abbrev T := PFilterBounds.S55
abbrev kT : Kd T := PFilterBounds.k55
abbrev kU : Kd Int := Kd.int .u8
/-- A value by value, in a world. -/
structure Bv (w : World) (x : T) (A : Option Addr) (c : Nat) (B : Option Addr) (d : Nat) : Prop where
  lb : x.f3.length ≤ c
  cb : kU.C w A x.f3.length x.f3
  li : x.f4.length ≤ d
  ci : kT.C w B x.f4.length x.f4
/-- The value as the machine holds it. -/
def bv (x : T) (A : Option Addr) (c : Nat) (B : Option Addr) (d : Nat) : Value := .agg #[.int .u8 x.f0, .int .u8 x.f1, .bool x.f2, .slice A x.f3.length c, .slice B x.f4.length d]
def bvs (x : T) (A : Option Addr) (c : Nat) (B : Option Addr) (d : Nat) : Array Value := #[.int .u8 x.f0, .int .u8 x.f1, .bool x.f2, .slice A x.f3.length c, .slice B x.f4.length d]
/-- A value by value, in a world; what it leads to lies in ok. -/
structure BvF (w : World) (ok : Nat → Prop) (x : T) (A : Option Addr) (c : Nat) (B : Option Addr) (d : Nat) : Prop where
  lb : x.f3.length ≤ c
  cb : kU.F w ok A x.f3.length x.f3
  li : x.f4.length ≤ d
  ci : kT.F w ok B x.f4.length x.f4
theorem BvF.now {w : World} {ok : Nat → Prop} {x : T} {A : Option Addr} {c : Nat} {B : Option Addr} {d : Nat} (h : BvF w ok x A c B d) : Bv w x A c B d := ⟨h.lb, Kd.F_now h.cb, h.li, Kd.F_now h.ci⟩
theorem BvF.mono {w : World} {ok ok' : Nat → Prop} {x : T} {A : Option Addr} {c : Nat} {B : Option Addr} {d : Nat} (h : BvF w ok x A c B d) (hk : ∀ q, ok q → ok' q) : BvF w ok' x A c B d := ⟨h.lb, Kd.F_mono h.cb hk, h.li, Kd.F_mono h.ci hk⟩
theorem BvF.mod {w w' : World} {ok S : Nat → Prop} {x : T} {A : Option Addr} {c : Nat} {B : Option Addr} {d : Nat} (h : BvF w ok x A c B d) (hm : Mod S w w') (hn : ∀ q, ok q → ¬ S q) : BvF w' ok x A c B d := ⟨h.lb, F_mod h.cb hm hn, h.li, F_mod h.ci hm hn⟩
theorem BvF.below {w w' : World} {ok : Nat → Prop} {x : T} {A : Option Addr} {c : Nat} {B : Option Addr} {d : Nat} (h : BvF w ok x A c B d) (hb : Below w.heap.size w w') : BvF w' ok x A c B d := ⟨h.lb, Kd.F_below h.cb hb, h.li, Kd.F_below h.ci hb⟩
/-- A call answers a value, in memory of its own. -/
def Gives (x : T) (w : World) (e : Ending) (w' : World) : Prop := (∃ A c B d, e = .returned (bv x A c B d) ∧ BvF w' (fun q => w.heap.size ≤ q) x A c B d) ∧ Below w.heap.size w w'
theorem Bv.below {w w' : World} {x : T} {A : Option Addr} {c : Nat} {B : Option Addr} {d : Nat} (h : Bv w x A c B d) (hb : Below w.heap.size w w') : Bv w' x A c B d := ⟨h.lb, Kd.C_below h.cb hb, h.li, Kd.C_below h.ci hb⟩
theorem Bv.cells {w : World} {x : T} {cs : List Value} (h : kT.K w x cs) : ∃ A c B d, cs = (bvs x A c B d).toList ∧ Bv w x A c B d := by
  obtain ⟨A, c, B, d, e, h1, h2, h3, h4⟩ := PFilterBounds.k55_open h
  exact ⟨A, c, B, d, e, ⟨h1, h2, h3, h4⟩⟩
theorem Bv.K {w : World} {x : T} {A : Option Addr} {c : Nat} {B : Option Addr} {d : Nat} (h : Bv w x A c B d) : kT.K w x (bvs x A c B d).toList := PFilterBounds.k55_mk w x h.lb h.cb h.li h.ci

/-! ### must -/
abbrev stopE (n : Int) : Ending := .panicked [{ v := .iface 128 (.agg #[.int .i64 n]), recovered := false }]
theorem must_yes (n : Int) (w : World) : Calls Try.prog 105 #[.bool true, .int .i64 n] w fun e w' => e = .returned (.tuple #[]) ∧ w' = w := by
  go_enter Try.func105, Try.ntmps105
  go_wp2_with fail
  go_end0
  exact ⟨rfl, rfl⟩
theorem must_no (n : Int) (w : World) : Calls Try.prog 105 #[.bool false, .int .i64 n] w fun e w' => e = stopE n ∧ w' = w := by
  go_enter Try.func105, Try.ntmps105
  go_wp2_with fail
  exact ⟨rfl, rfl, rfl⟩
/-! ### Boxes of values -/
/-- Block b holds these five cells. -/
def Box (w : World) (b : Nat) (v0 v1 v2 v3 v4 : Value) : Prop := w.heap[b]? = some (.cells #[v0, v1, v2, v3, v4] 55 (0, 0))
theorem Box.lt {w : World} {b : Nat} {v0 v1 v2 v3 v4 : Value} (h : Box w b v0 v1 v2 v3 v4) : b < w.heap.size := blk_lt h
theorem Box.below {w w' : World} {b : Nat} {v0 v1 v2 v3 v4 : Value} (h : Box w b v0 v1 v2 v3 v4) (hb : Below w.heap.size w w') : Box w' b v0 v1 v2 v3 v4 := (hb.block _ h.lt).trans h
theorem Box.mod {w w' : World} {S : Nat → Prop} {b : Nat} {v0 v1 v2 v3 v4 : Value} (h : Box w b v0 v1 v2 v3 v4) (hm : Mod S w w') (hn : ¬ S b) : Box w' b v0 v1 v2 v3 v4 := hm.blk h hn
theorem Box.cells {w : World} {b : Nat} {v0 v1 v2 v3 v4 : Value} (h : Box w b v0 v1 v2 v3 v4) : w.cell? ⟨b, 0, none⟩ = some v0 ∧ w.cell? ⟨b, 1, none⟩ = some v1 ∧ w.cell? ⟨b, 2, none⟩ = some v2 ∧ w.cell? ⟨b, 3, none⟩ = some v3 ∧ w.cell? ⟨b, 4, none⟩ = some v4 :=
  ⟨(blk_cell h 0).trans rfl, (blk_cell h 1).trans rfl, (blk_cell h 2).trans rfl, (blk_cell h 3).trans rfl, (blk_cell h 4).trans rfl⟩
theorem Box.free {w : World} {b : Nat} {v0 v1 v2 v3 v4 : Value} (h : Box w b v0 v1 v2 v3 v4) : w.frozen? ⟨b, 0, none⟩ = false ∧ w.frozen? ⟨b, 1, none⟩ = false ∧ w.frozen? ⟨b, 2, none⟩ = false ∧ w.frozen? ⟨b, 3, none⟩ = false ∧ w.frozen? ⟨b, 4, none⟩ = false :=
  ⟨blk_frozen h 0, blk_frozen h 1, blk_frozen h 2, blk_frozen h 3, blk_frozen h 4⟩
theorem box_new (w : World) (v0 v1 v2 v3 v4 : Value) : Box (w.alloc (.cells #[v0, v1, v2, v3, v4] 55)) w.heap.size v0 v1 v2 v3 v4 := heap_alloc_new w _
theorem put5 {w : World} {b : Nat} {u0 u1 u2 u3 u4 : Value} (h : Box w b u0 u1 u2 u3 u4) (v0 v1 v2 v3 v4 : Value) :
    ∃ w', (((((w.setCell ⟨b, 0, none⟩ v0).setCell ⟨b, 1, none⟩ v1).setCell ⟨b, 2, none⟩ v2).setCell ⟨b, 3, none⟩ v3).setCell ⟨b, 4, none⟩ v4) = w' ∧ Box w' b v0 v1 v2 v3 v4 ∧ Mod (fun q => q = b) w w' := by
  refine ⟨_, rfl, ?_, ?_⟩
  · have h0 := blk_set h 0 v0
    have h1 := blk_set h0 1 v1
    have h2 := blk_set h1 2 v2
    have h3 := blk_set h2 3 v3
    have h4 := blk_set h3 4 v4
    simpa [Box] using h4
  · exact ((((((Mod.refl (fun q => q = b) w).setCell (p := ⟨b, 0, none⟩) (.inl rfl) v0).setCell (p := ⟨b, 1, none⟩) (.inl rfl) v1).setCell (p := ⟨b, 2, none⟩) (.inl rfl) v2).setCell (p := ⟨b, 3, none⟩) (.inl rfl) v3).setCell (p := ⟨b, 4, none⟩) (.inl rfl) v4)
theorem put5_mod {a w w' : World} {b : Nat} (h : Mod (fun q => q = b) w w') (ha : Below a.heap.size a w) (hb : a.heap.size ≤ b) : Below a.heap.size a w' :=
  Mod.below (S := fun q => a.heap.size ≤ q) ((Mod.of_below ha).trans h (fun q hq => .inl (by rw [hq]; exact hb))) (fun q hq => hq) (Nat.le_refl _)
theorem cell_at {w w' : World} {a : Addr} (h : w'.heap[a.block]? = w.heap[a.block]?) : w'.cell? a = w.cell? a := by simp [World.cell?, h]
theorem add_block (a : Addr) (i : Nat) : (a.add i).block = a.block := by unfold Addr.add; split <;> rfl
theorem kU_F {w : World} {ok : Nat → Prop} {A : Option Addr} {n : Nat} {xs : List Int} (h : kU.C w A n xs) (hf : ∀ ad, A = some ad → 0 < n → ok ad.block) : kU.F w ok A n xs := by
  intro W' hW
  refine ⟨h.1, h.2.1, fun hn => ?_⟩
  obtain ⟨ad, e, hc⟩ := h.2.2 hn
  refine ⟨ad, e, fun j p hj => ?_⟩
  obtain ⟨cs, h1, h2, h3⟩ := hc j p hj
  refine ⟨cs, h1, h2, fun i u hu => ?_⟩
  have h4 := h3 i u hu
  rw [cell_at, h4]
  rw [add_block]
  have hlt := World.block_lt_of_cell? w _ h4
  rw [add_block] at hlt
  exact hW _ (hf ad e hn) hlt
theorem u8_mod {w w' : World} {S : Nat → Prop} {A : Option Addr} {n : Nat} {xs : List Int} (h : kU.C w A n xs) (hm : Mod S w w') (hf : ∀ ad, A = some ad → 0 < n → ¬ S ad.block) : kU.C w' A n xs :=
  Kd.C_foot_neS (S := S) (fun hk => hk) h hf w' ⟨hm.size, fun k hk hn => hm.block k hk hn⟩
theorem bytes_C (w : World) (s : ByteArray) (hs : s.size ≤ 9223372036854775807) : kU.C (Lib.bytesWorld w 5 s) (some ⟨w.heap.size, 0, none⟩) (bytesOf s).length (bytesOf s) := by
  refine ⟨rfl, by rw [bytesOf_length]; exact hs, fun _ => ⟨_, rfl, fun j p hj => ?_⟩⟩
  have hj' := (List.getElem?_eq_some_iff.1 hj).1
  rw [bytesOf_length] at hj'
  refine ⟨[.int .u8 p], rfl, rfl, fun i u hu => ?_⟩
  have hi : i = 0 := by have := (List.getElem?_eq_some_iff.1 hu).1; simp at this; omega
  subst hi
  obtain rfl := Option.some.inj hu
  have h2 : (⟨w.heap.size, 0, none⟩ : Addr).add (j * kU.sz + 0) = ⟨w.heap.size, j, none⟩ := by rw [add_plain]; show (⟨_, j * 1 + 0, none⟩ : Addr) = _; rw [Nat.mul_one]; rfl
  rw [h2, Lib.bytesWorld_cell w 5 s j hj']
  have hd : j < s.data.toList.length := by rw [data_length]; exact hj'
  have : p = (s.data.toList[j].toNat : Int) := by
    have := hj
    unfold bytesOf at this
    rw [List.getElem?_map, List.getElem?_eq_getElem hd] at this
    exact (Option.some.inj this).symm
  rw [this]
  simp [List.getD_eq_getElem?_getD, List.getElem?_eq_getElem hd]

/-- A length's bytes. -/
def lenL (n : Nat) : List Int :=
  if n < 128 then [(n : Int)] else if n < 256 then [129, (n : Int)] else if n < 65536 then [130, (n / 256 : Int), (n % 256 : Int)] else [131, (n / 65536 : Int), (n / 256 % 256 : Int), (n % 256 : Int)]
theorem lenL_length (n : Nat) : 1 ≤ (lenL n).length ∧ (lenL n).length ≤ 4 := by
  unfold lenL
  split
  · simp
  · split
    · simp
    · split <;> simp
mutual
/-- May all parts be? -/
def argT : S55 → Bool
  | ⟨c, m, k, b, l⟩ => (decide (c ≤ 3) && decide (m ≤ 30) && (!k || b.isEmpty) && (k || l.isEmpty)) && argL l
def argL : List S55 → Bool
  | [] => true
  | x :: xs => argT x && argL xs
end
mutual
/-- Is it no deeper than it may be, from a depth on? -/
def deepT : Nat → S55 → Bool
  | n, ⟨_, _, _, _, l⟩ => decide (n ≤ 16) && deepL (n + 1) l
def deepL : Nat → List S55 → Bool
  | _, [] => true
  | n, x :: xs => deepT n x && deepL n xs
end
mutual
/-- How many bytes. -/
def sizeT : S55 → Nat
  | ⟨_, _, _, b, l⟩ => 1 + (lenL (b.length + sizeL l)).length + (b.length + sizeL l)
def sizeL : List S55 → Nat
  | [] => 0
  | x :: xs => sizeT x + sizeL xs
end
mutual
/-- A value's weight. -/
def wT : S55 → Nat
  | ⟨_, _, _, b, l⟩ => 1 + b.length + wL l
def wL : List S55 → Nat
  | [] => 0
  | x :: xs => wT x + wL xs
end
/-- Induction over values. -/
theorem treeInd {P : S55 → Prop} (h : ∀ c m k b l, (∀ x ∈ l, P x) → P ⟨c, m, k, b, l⟩) : ∀ x, P x := by
  intro x
  induction hn : SizeOf.sizeOf x using Nat.strongRecOn generalizing x with
  | _ n ih =>
    obtain ⟨c, m, k, b, l⟩ := x
    refine h c m k b l (fun y hy => ih (SizeOf.sizeOf y) ?_ y rfl)
    have := List.sizeOf_lt_of_mem hy
    rw [← hn]
    simp
    omega
theorem argL_iff (l : List S55) : argL l = true ↔ ∀ x ∈ l, argT x = true := by
  induction l with
  | nil => simp [argL]
  | cons x xs ih => simp [argL, ih]
theorem deepL_iff (n : Nat) (l : List S55) : deepL n l = true ↔ ∀ x ∈ l, deepT n x = true := by
  induction l with
  | nil => simp [deepL]
  | cons x xs ih => simp [deepL, ih]
theorem wT_mem {l : List S55} {x : S55} (h : x ∈ l) : wT x ≤ wL l := by
  induction l with
  | nil => cases h
  | cons y ys ih =>
    rcases List.mem_cons.1 h with rfl | h
    · simp [wL]
    · have := ih h; simp [wL]; omega
theorem wT_pos (x : S55) : 1 ≤ wT x := by cases x; simp [wT]; omega
theorem wL_length (l : List S55) : l.length ≤ wL l := by
  induction l with
  | nil => simp [wL]
  | cons y ys ih => have := wT_pos y; simp [wL]; omega
theorem sizeT_w (x : S55) : sizeT x ≤ 5 * wT x := by
  refine treeInd (P := fun x => sizeT x ≤ 5 * wT x) (fun c m k b l ih => ?_) x
  have hl : sizeL l ≤ 5 * wL l := by
    clear m c k
    induction l with
    | nil => simp [sizeL]
    | cons y ys ihy =>
      have h1 := ih y (by simp)
      have h2 := ihy (fun z hz => ih z (by simp [hz]))
      simp [sizeL, wL]; omega
  have := (lenL_length (b.length + sizeL l)).2
  simp only [sizeT, wT]
  omega

theorem kT_at {w : World} {A0 : Option Addr} {n : Nat} {xs : List T} (h : kT.C w A0 n xs) (k : Nat) (hk : k < xs.length) : ∃ ad A c B d, A0 = some ad ∧ w.cell? (ad.add (k * 5)) = some (.int .u8 xs[k].f0) ∧ w.cell? ⟨(ad.add (k * 5)).block, (ad.add (k * 5)).off + 1, none⟩ = some (.int .u8 xs[k].f1) ∧ w.cell? ⟨(ad.add (k * 5)).block, (ad.add (k * 5)).off + 2, none⟩ = some (.bool xs[k].f2) ∧ w.cell? ⟨(ad.add (k * 5)).block, (ad.add (k * 5)).off + 3, none⟩ = some (.slice A xs[k].f3.length c) ∧ w.cell? ⟨(ad.add (k * 5)).block, (ad.add (k * 5)).off + 4, none⟩ = some (.slice B xs[k].f4.length d) ∧ Bv w xs[k] A c B d := by
  have hn : xs.length = n := h.1
  obtain ⟨ad, A, c, B, d, e, h0, h1, h2, h3, h4, g1, g2, g3, g4⟩ := PFilterBounds.at_T55 h (k : Int) (by omega) (by omega)
  have hr : PFilterBounds.rd_T55 xs (k : Int) = xs[k] := by unfold PFilterBounds.rd_T55; simp [List.getD_eq_getElem?_getD, hk]
  rw [hr] at h0 h1 h2 h3 h4 g1 g2 g3 g4
  exact ⟨ad, A, c, B, d, e, h0, h1, h2, h3, h4, ⟨g1, g2, g3, g4⟩⟩
theorem take_arg {xs : List T} {k : Nat} (hk : k < xs.length) : argL (xs.take (k + 1)) = (argL (xs.take k) && argT xs[k]) := by
  rw [Bool.eq_iff_iff, Bool.and_eq_true, argL_iff, argL_iff, List.take_succ_eq_append_getElem hk]
  simp only [List.mem_append, List.mem_singleton]
  constructor
  · intro h; exact ⟨fun x hx => h x (.inl hx), h _ (.inr rfl)⟩
  · rintro ⟨h1, h2⟩ x (hx | rfl); exact h1 x hx; exact h2
theorem take_deep {xs : List T} {k n : Nat} (hk : k < xs.length) : deepL n (xs.take (k + 1)) = (deepL n (xs.take k) && deepT n xs[k]) := by
  rw [Bool.eq_iff_iff, Bool.and_eq_true, deepL_iff, deepL_iff, List.take_succ_eq_append_getElem hk]
  simp only [List.mem_append, List.mem_singleton]
  constructor
  · intro h; exact ⟨fun x hx => h x (.inl hx), h _ (.inr rfl)⟩
  · rintro ⟨h1, h2⟩ x (hx | rfl); exact h1 x hx; exact h2
theorem arg_no {xs : List T} {k : Nat} (hk : k < xs.length) (h : argT xs[k] = false) : argL xs = false := by
  rw [Bool.eq_false_iff]
  intro h2
  rw [argL_iff] at h2
  rw [h2 _ (List.getElem_mem hk)] at h
  cases h
/-- What the closure ends in. -/
def Asked (x : T) (n : Nat) (w : World) (e : Ending) (w' : World) : Prop := (e = if argT x = true then .returned (.bool (deepT n x)) else stopE 2) ∧ Below w.heap.size w w'
abbrev deepV (g : Nat) : Value := .func (.func 104) #[] #[.pointer (some ⟨g, 0, none⟩)]
set_option maxHeartbeats 1000000 in
set_option maxRecDepth 20000 in
theorem right1_calls (x : T) : ∀ (A : Option Addr) (c : Nat) (B : Option Addr) (d : Nat) (n g : Nat) (w : World), Bv w x A c B d → n + wT x ≤ 10000000 → w.cell? ⟨g, 0, none⟩ = some (deepV g) →
    Calls Try.prog 104 #[bv x A c B d, .int .i64 (n : Int), .pointer (some ⟨g, 0, none⟩)] w (Asked x n w) := by
  refine treeInd (P := fun x => ∀ (A : Option Addr) (c : Nat) (B : Option Addr) (d : Nat) (n g : Nat) (w : World), Bv w x A c B d → n + wT x ≤ 10000000 → w.cell? ⟨g, 0, none⟩ = some (deepV g) → Calls Try.prog 104 #[bv x A c B d, .int .i64 (n : Int), .pointer (some ⟨g, 0, none⟩)] w (Asked x n w)) (fun x0 x1 x2 xb xs ih => ?_) x
  intro A c B d n g w hv hw hg
  have he := enters_of (P := Try.prog) Try.func104 (by kernel_rfl) rfl
  have hw' : n + (1 + xb.length + wL xs) ≤ 10000000 := hw
  have hwn := wL_length xs
  have hA1 := box_new w (.int .u8 x0) (.int .u8 x1) (.bool x2) (.slice A xb.length c) (.slice B xs.length d)
  have hb1 := below_alloc (Below.refl w.heap.size w) (.cells #[.int .u8 x0, .int .u8 x1, .bool x2, .slice A xb.length c, .slice B xs.length d] 55)
  obtain ⟨w1, hw1⟩ : ∃ w1, w.alloc (.cells #[.int .u8 x0, .int .u8 x1, .bool x2, .slice A xb.length c, .slice B xs.length d] 55) = w1 := ⟨_, rfl⟩
  rw [hw1] at hA1 hb1
  have hci := Aside0.mk (show kT.C w B xs.length xs from hv.ci)
  have hg1 := Aside0.mk hg
  obtain ⟨p0, p1, p2, p3, p4⟩ := hA1.cells
  replace hb1 := Aside0.mk hb1
  have harg : argT ⟨x0, x1, x2, xb, xs⟩ = ((decide (x0 ≤ 3) && decide (x1 ≤ 30) && (!x2 || xb.isEmpty) && (x2 || xs.isEmpty)) && argL xs) := rfl
  have hdeep : deepT n ⟨x0, x1, x2, xb, xs⟩ = (decide (n ≤ 16) && deepL (n + 1) xs) := rfl
  replace ih := Aside0.mk ih
  clear hA1 hv hw hg
  unfold bv
  dsimp only
  have hno : argT ⟨x0, x1, x2, xb, xs⟩ = false → Aside0 (∀ w', Below w.heap.size w w' → Asked ⟨x0, x1, x2, xb, xs⟩ n w (stopE 2) w') := fun h => ⟨fun w' hb => ⟨by rw [h]; rfl, hb⟩⟩
  have hyes : argT ⟨x0, x1, x2, xb, xs⟩ = true → Aside0 (∀ w' r, r = deepT n ⟨x0, x1, x2, xb, xs⟩ → Below w.heap.size w w' → Asked ⟨x0, x1, x2, xb, xs⟩ n w (.returned (.bool r)) w') := fun h => ⟨fun w' r hr hb => ⟨by rw [h, hr]; rfl, hb⟩⟩
  rw [harg] at hno hyes
  rw [hdeep] at hyes
  clear harg hdeep
  by_cases c0 : x0 ≤ 3
  · have c0' : x0 ≤ 3 := c0
    by_cases c1 : x1 ≤ 30
    · cases x2 with
      | true =>
        by_cases c3 : xb = []
        · have c5 : xb.isEmpty = true := by rw [c3]; rfl
          have c6 : ((xb.length : Int) == 0) = true := by rw [c3]; rfl
          have hargs : Aside0 (argL xs = true → ∀ w' r, r = (decide (n ≤ 16) && deepL (n + 1) xs) → Below w.heap.size w w' → Asked _ n w (.returned (.bool r)) w') := ⟨fun h => (hyes (by simp [c0, c1, c5, h])).out⟩
          replace hno : Aside0 (argL xs = false → ∀ w', Below w.heap.size w w' → Asked _ n w (stopE 2) w') := ⟨fun h => (hno (by simp [h])).out⟩
          clear hyes
          obtain ⟨N, hN⟩ : ∃ N, xs.length = N := ⟨_, rfl⟩
          rw [hN] at p4 hci hwn hw1 ⊢
          clear c5 c3
          have hN' := Aside0.mk hN
          clear hN
          obtain ⟨r0, hr0⟩ : ∃ r0, decide (n ≤ 16) = r0 := ⟨_, rfl⟩
          have q0 : decide ((n : Int) ≤ 16) = r0 := by rw [← hr0]; congr 1; exact propext ⟨fun h => by omega, fun h => by omega⟩
          rw [hr0] at hargs
          have hw2 := Aside0.mk hw'
          have hn9 : (n : Int) ≤ 10000000 := by omega
          have hN9 : N ≤ 10000000 := by omega
          clear hw'
          go_enter Try.func104, Try.ntmps104
          go_wp2_with fail
          refine (must_yes _ _).mono ?_
          rintro e w' ⟨rfl, rfl⟩
          go_wp2_with fail
          go_loopw [6, 44] (fun s6 s44 wr => ∃ k : Nat, k ≤ N ∧ s44 = .int .i64 k ∧ s6 = .bool (r0 && deepL (n + 1) (xs.take k)) ∧ Aside0 (Below w.heap.size w wr) ∧ Aside0 (argL (xs.take k) = true)) (fun _ s44 _ => N - (intOf s44).toNat)
          case atStart => exact ⟨0, Nat.zero_le _, rfl, by simp [deepL], hb1, ⟨rfl⟩⟩
          case round =>
            obtain ⟨k, hk, rfl, rfl, hb, hal⟩ := hrel
            by_cases hlt : k < N
            · have hkx : k < xs.length := by rw [hN'.out]; exact hlt
              obtain ⟨ad, A6, c6, B6, d6, e, s0, s1, s2, s3, s4, hv6⟩ := kT_at (Kd.C_below hci.out hb.out) k hkx
              subst e
              have hmem : xs[k] ∈ xs := List.getElem_mem hkx
              have hwy := wT_mem hmem
              have hta := Aside0.mk (take_arg hkx)
              have htd := Aside0.mk (take_deep (n := n + 1) hkx)
              have hbad := Aside0.mk (fun h => hno.out (arg_no hkx h))
              obtain ⟨y, hy⟩ : ∃ y, xs[k] = y := ⟨_, rfl⟩
              rw [hy] at s0 s1 s2 s3 s4 hv6 hmem hwy hta htd hbad
              rw [hal.out, Bool.true_and] at hta
              have hb2 := below_alloc (Below.refl wr.heap.size wr) (.cells #[.int .u8 y.f0, .int .u8 y.f1, .bool y.f2, .slice A6 y.f3.length c6, .slice B6 y.f4.length d6] 55)
              have hX2 := box_new wr (.int .u8 y.f0) (.int .u8 y.f1) (.bool y.f2) (.slice A6 y.f3.length c6) (.slice B6 y.f4.length d6)
              obtain ⟨w2, hw2e⟩ : ∃ w2, wr.alloc (.cells #[.int .u8 y.f0, .int .u8 y.f1, .bool y.f2, .slice A6 y.f3.length c6, .slice B6 y.f4.length d6] 55) = w2 := ⟨_, rfl⟩
              rw [hw2e] at hb2 hX2
              have hgw := pw_cell_below hb2 (pw_cell_below hb.out hg1.out)
              obtain ⟨t0, t1, t2, t3, t4⟩ := hX2.cells
              have hcall : Calls Try.prog 104 #[.agg #[.int .u8 y.f0, .int .u8 y.f1, .bool y.f2, .slice A6 y.f3.length c6, .slice B6 y.f4.length d6], .int .i64 ((n : Int) + 1), .pointer (some ⟨g, 0, none⟩)] w2 (Asked y (n + 1) w2) := ih.out y hmem A6 c6 B6 d6 (n + 1) g w2 (hv6.below hb2) (by have := hw2.out; omega) hgw
              unfold Asked at hcall
              replace hb2 := Aside0.mk (below_then hb.out hb.out.size hb2)
              have i1 : (0 : Int) ≤ (k : Int) := by omega
              have i2 : (k : Int) < (N : Int) := by omega
              obtain ⟨f, hf⟩ : ∃ f, (r0 && deepL (n + 1) (xs.take k)) = f := ⟨_, rfl⟩
              have htd2 := Aside0.mk (show (r0 && deepL (n + 1) (xs.take (k + 1))) = (f && deepT (n + 1) y) from by rw [htd.out, ← Bool.and_assoc, hf])
              rw [hf]
              unfold deepV at hgw
              clear hy hmem hwy hv6 hkx htd hX2 hb hf q0
              cases hay : argT y with
              | false =>
                rw [hay, if_neg (by simp)] at hcall
                replace hcall := Aside0.mk hcall
                replace hbad := Aside0.mk (hbad.out hay)
                clear hay hta htd2
                go_wp2_with fail
                refine hcall.out.mono ?_
                rintro e w4 ⟨rfl, hb4⟩
                replace hb4 := Aside0.mk (below_then hb2.out hb2.out.size hb4)
                clear hb2 hcall
                go_wp2_with fail
                exact ⟨rfl, hbad.out _ hb4.out⟩
              | true =>
                rw [hay, if_pos rfl] at hcall
                rw [hay] at hta
                clear hay hbad
                cases hdy : deepT (n + 1) y
                all_goals
                  rw [hdy] at hcall htd2
                  replace hcall := Aside0.mk hcall
                  clear hdy
                  go_wp2_with fail
                  refine hcall.out.mono ?_
                  rintro e w4 ⟨rfl, hb4⟩
                  replace hb4 := Aside0.mk (below_then hb2.out hb2.out.size hb4)
                  clear hb2 hcall
                  go_wp2_with fail
                  go_roundw
                  case rel => exact ⟨k + 1, by omega, by go_num, by rw [htd2.out]; simp, hb4, hta⟩
                  case measure => simp [intOf]; omega
            · obtain rfl : k = N := by omega
              have ht : xs.take k = xs := List.take_of_length_le (by rw [hN'.out]; exact Nat.le_refl _)
              rw [ht] at hal ⊢
              obtain ⟨r, hr⟩ : ∃ r, (r0 && deepL (n + 1) xs) = r := ⟨_, rfl⟩
              have hfin := Aside0.mk (fun w' hb => hargs.out hal.out w' r hr.symm hb)
              rw [hr]
              clear hr ht
              go_wp2_with fail
              go_ret
              exact hfin.out _ hb.out
        · have c3' : 0 < xb.length := List.length_pos_iff.2 c3
          have c4 : xb.isEmpty = false := by simpa using c3
          have c5 : ((xb.length : Int) == 0) = false := by simp; omega
          replace hno := hno (by simp [c4])
          clear hyes hci ih hg1
          go_enter Try.func104, Try.ntmps104
          go_wp2_with fail
          refine (must_no _ _).mono ?_
          rintro e w' ⟨rfl, rfl⟩
          go_wp2_with fail
          exact ⟨rfl, hno.out _ hb1.out⟩
      | false =>
        by_cases c3 : xs = []
        · have c5 : xs.isEmpty = true := by rw [c3]; rfl
          have c6 : xs.length = 0 := by rw [c3]; rfl
          have hargs : Aside0 (argL xs = true → ∀ w' r, r = (decide (n ≤ 16) && deepL (n + 1) xs) → Below w.heap.size w w' → Asked _ n w (.returned (.bool r)) w') := ⟨fun h => (hyes (by simp [c0, c1, c5, h])).out⟩
          replace hno : Aside0 (argL xs = false → ∀ w', Below w.heap.size w w' → Asked _ n w (stopE 2) w') := ⟨fun h => (hno (by simp [h])).out⟩
          clear hyes
          obtain ⟨N, hN⟩ : ∃ N, xs.length = N := ⟨_, rfl⟩
          rw [hN] at p4 hci hwn hw1 ⊢
          have c7 : ((N : Int) == 0) = true := by simp; omega
          clear c6 c5 c3
          have hN' := Aside0.mk hN
          clear hN
          obtain ⟨r0, hr0⟩ : ∃ r0, decide (n ≤ 16) = r0 := ⟨_, rfl⟩
          have q0 : decide ((n : Int) ≤ 16) = r0 := by rw [← hr0]; congr 1; exact propext ⟨fun h => by omega, fun h => by omega⟩
          rw [hr0] at hargs
          have hw2 := Aside0.mk hw'
          have hn9 : (n : Int) ≤ 10000000 := by omega
          have hN9 : N ≤ 10000000 := by omega
          clear hw'
          go_enter Try.func104, Try.ntmps104
          go_wp2_with fail
          refine (must_yes _ _).mono ?_
          rintro e w' ⟨rfl, rfl⟩
          go_wp2_with fail
          go_loopw [6, 44] (fun s6 s44 wr => ∃ k : Nat, k ≤ N ∧ s44 = .int .i64 k ∧ s6 = .bool (r0 && deepL (n + 1) (xs.take k)) ∧ Aside0 (Below w.heap.size w wr) ∧ Aside0 (argL (xs.take k) = true)) (fun _ s44 _ => N - (intOf s44).toNat)
          case atStart => exact ⟨0, Nat.zero_le _, rfl, by simp [deepL], hb1, ⟨rfl⟩⟩
          case round =>
            obtain ⟨k, hk, rfl, rfl, hb, hal⟩ := hrel
            by_cases hlt : k < N
            · have hkx : k < xs.length := by rw [hN'.out]; exact hlt
              obtain ⟨ad, A6, c6, B6, d6, e, s0, s1, s2, s3, s4, hv6⟩ := kT_at (Kd.C_below hci.out hb.out) k hkx
              subst e
              have hmem : xs[k] ∈ xs := List.getElem_mem hkx
              have hwy := wT_mem hmem
              have hta := Aside0.mk (take_arg hkx)
              have htd := Aside0.mk (take_deep (n := n + 1) hkx)
              have hbad := Aside0.mk (fun h => hno.out (arg_no hkx h))
              obtain ⟨y, hy⟩ : ∃ y, xs[k] = y := ⟨_, rfl⟩
              rw [hy] at s0 s1 s2 s3 s4 hv6 hmem hwy hta htd hbad
              rw [hal.out, Bool.true_and] at hta
              have hb2 := below_alloc (Below.refl wr.heap.size wr) (.cells #[.int .u8 y.f0, .int .u8 y.f1, .bool y.f2, .slice A6 y.f3.length c6, .slice B6 y.f4.length d6] 55)
              have hX2 := box_new wr (.int .u8 y.f0) (.int .u8 y.f1) (.bool y.f2) (.slice A6 y.f3.length c6) (.slice B6 y.f4.length d6)
              obtain ⟨w2, hw2e⟩ : ∃ w2, wr.alloc (.cells #[.int .u8 y.f0, .int .u8 y.f1, .bool y.f2, .slice A6 y.f3.length c6, .slice B6 y.f4.length d6] 55) = w2 := ⟨_, rfl⟩
              rw [hw2e] at hb2 hX2
              have hgw := pw_cell_below hb2 (pw_cell_below hb.out hg1.out)
              obtain ⟨t0, t1, t2, t3, t4⟩ := hX2.cells
              have hcall : Calls Try.prog 104 #[.agg #[.int .u8 y.f0, .int .u8 y.f1, .bool y.f2, .slice A6 y.f3.length c6, .slice B6 y.f4.length d6], .int .i64 ((n : Int) + 1), .pointer (some ⟨g, 0, none⟩)] w2 (Asked y (n + 1) w2) := ih.out y hmem A6 c6 B6 d6 (n + 1) g w2 (hv6.below hb2) (by have := hw2.out; omega) hgw
              unfold Asked at hcall
              replace hb2 := Aside0.mk (below_then hb.out hb.out.size hb2)
              have i1 : (0 : Int) ≤ (k : Int) := by omega
              have i2 : (k : Int) < (N : Int) := by omega
              obtain ⟨f, hf⟩ : ∃ f, (r0 && deepL (n + 1) (xs.take k)) = f := ⟨_, rfl⟩
              have htd2 := Aside0.mk (show (r0 && deepL (n + 1) (xs.take (k + 1))) = (f && deepT (n + 1) y) from by rw [htd.out, ← Bool.and_assoc, hf])
              rw [hf]
              unfold deepV at hgw
              clear hy hmem hwy hv6 hkx htd hX2 hb hf q0
              cases hay : argT y with
              | false =>
                rw [hay, if_neg (by simp)] at hcall
                replace hcall := Aside0.mk hcall
                replace hbad := Aside0.mk (hbad.out hay)
                clear hay hta htd2
                go_wp2_with fail
                refine hcall.out.mono ?_
                rintro e w4 ⟨rfl, hb4⟩
                replace hb4 := Aside0.mk (below_then hb2.out hb2.out.size hb4)
                clear hb2 hcall
                go_wp2_with fail
                exact ⟨rfl, hbad.out _ hb4.out⟩
              | true =>
                rw [hay, if_pos rfl] at hcall
                rw [hay] at hta
                clear hay hbad
                cases hdy : deepT (n + 1) y
                all_goals
                  rw [hdy] at hcall htd2
                  replace hcall := Aside0.mk hcall
                  clear hdy
                  go_wp2_with fail
                  refine hcall.out.mono ?_
                  rintro e w4 ⟨rfl, hb4⟩
                  replace hb4 := Aside0.mk (below_then hb2.out hb2.out.size hb4)
                  clear hb2 hcall
                  go_wp2_with fail
                  go_roundw
                  case rel => exact ⟨k + 1, by omega, by go_num, by rw [htd2.out]; simp, hb4, hta⟩
                  case measure => simp [intOf]; omega
            · obtain rfl : k = N := by omega
              have ht : xs.take k = xs := List.take_of_length_le (by rw [hN'.out]; exact Nat.le_refl _)
              rw [ht] at hal ⊢
              obtain ⟨r, hr⟩ : ∃ r, (r0 && deepL (n + 1) xs) = r := ⟨_, rfl⟩
              have hfin := Aside0.mk (fun w' hb => hargs.out hal.out w' r hr.symm hb)
              rw [hr]
              clear hr ht
              go_wp2_with fail
              go_ret
              exact hfin.out _ hb.out
        · have c3' : 0 < xs.length := List.length_pos_iff.2 c3
          have c4 : xs.isEmpty = false := by simpa using c3
          have c5 : ((xs.length : Int) == 0) = false := by simp; omega
          replace hno := hno (by simp [c4])
          clear hyes hci ih hg1
          go_enter Try.func104, Try.ntmps104
          go_wp2_with fail
          refine (must_no _ _).mono ?_
          rintro e w' ⟨rfl, rfl⟩
          go_wp2_with fail
          exact ⟨rfl, hno.out _ hb1.out⟩
    · have c1' : 30 < x1 := by omega
      replace hno := hno (by simp [c1])
      clear hyes hci ih hg1
      go_enter Try.func104, Try.ntmps104
      go_wp2_with fail
      refine (must_no _ _).mono ?_
      rintro e w' ⟨rfl, rfl⟩
      go_wp2_with fail
      exact ⟨rfl, hno.out _ hb1.out⟩
  · have c0' : 3 < x0 := by omega
    replace hno := hno (by simp [c0])
    clear hyes hci ih hg1
    go_enter Try.func104, Try.ntmps104
    go_wp2_with fail
    refine (must_no _ _).mono ?_
    rintro e w' ⟨rfl, rfl⟩
    go_wp2_with fail
    exact ⟨rfl, hno.out _ hb1.out⟩

theorem catch_idle (pe : Addr) (w : World) :
    CallsD Try.prog 103 #[.pointer (some pe)] .returning w fun e u' w' => e = .returned (.tuple #[]) ∧ u' = .returning ∧ w' = w := by
  refine callsD_of_wpS Try.func103 rfl fun c₀ cs hu => ?_
  apply wpS_seq
  apply wpS_region
  simp [wpOpsS, go_sem, recoverD, hu, Try.ntmps103, Exit.thenS]
  refine wpS_of_wp ?_
  have hlit : (#[Value.pointer (some pe)] ++ (Array.replicate 14 undef).setIfInBounds 4 Value.nilIface) = #[.pointer (some pe), undef, undef, undef, undef, .nilIface, undef, undef, undef, undef, undef, undef, undef, undef, undef] := rfl
  rw [hlit]
  clear hlit
  go_wp2_with fail
  cases c₀
  simp_all [bodyPostS, results, Try.results103]
set_option maxRecDepth 8000 in
theorem catch_stop (E : Nat) (ev : Value) (n : Int) (w : World) (hE : w.heap[E]? = some (.cells #[ev] 31 (0, 0))) :
    CallsD Try.prog 103 #[.pointer (some ⟨E, 0, none⟩)] (.panicking [{ v := .iface 128 (.agg #[.int .i64 n]), recovered := false }]) w fun e u' w' => e = .returned (.tuple #[]) ∧ u' = .panicking [{ v := .iface 128 (.agg #[.int .i64 n]), recovered := true }] ∧
      (w'.heap[E]? = some (.cells #[.int .i64 n] 31 (0, 0)) ∧ Mod (fun q => q = E) w w') := by
  refine callsD_of_wpS Try.func103 rfl fun c₀ cs hu => ?_
  apply wpS_seq
  apply wpS_region
  simp [wpOpsS, go_sem, recoverD, hu, Try.ntmps103, Exit.thenS]
  refine wpS_of_wp ?_
  have hlit : (#[Value.pointer (some ⟨E, 0, none⟩)] ++ (Array.replicate 14 undef).setIfInBounds 4 (Value.iface 128 (.agg #[.int .i64 n]))) = #[.pointer (some ⟨E, 0, none⟩), undef, undef, undef, undef, .iface 128 (.agg #[.int .i64 n]), undef, undef, undef, undef, undef, undef, undef, undef, undef] := rfl
  rw [hlit]
  clear hlit
  have hta : ∀ W, (Instr.typeAssert (.iface 128 (.agg #[.int .i64 n])) 20 128 true).run Try.prog W = .ok (.tuple #[.agg #[.int .i64 n], .bool true]) W := fun W => rfl
  have hEl := blk_lt hE
  have hN := heap_alloc_new w (.cells #[.int .i64 n] 128)
  obtain ⟨w1, hw1⟩ : ∃ w1, w.alloc (.cells #[.int .i64 n] 128) = w1 := ⟨_, rfl⟩
  rw [hw1] at hN
  have hb1 := Aside0.mk (hw1 ▸ below_alloc (Below.refl w.heap.size w) (.cells #[.int .i64 n] 128))
  have hE1 := (hb1.out.block E hEl).trans hE
  have g1 : w1.cell? ⟨w.heap.size, 0, none⟩ = some (.int .i64 n) := (cell_of_row _ _ _ _ _ _ hN).trans rfl
  have f1 : w1.cell? ⟨E, 0, none⟩ = some ev := (blk_cell hE1 0).trans rfl
  have f2 : w1.frozen? ⟨E, 0, none⟩ = false := blk_frozen hE1 0
  replace hE := Aside0.mk hE
  replace hE1 := Aside0.mk hE1
  clear hN
  go_wp2_with fail
  have k3 : (w1.setCell ⟨E, 0, none⟩ (.int .i64 n)).heap[E]? = some (.cells #[.int .i64 n] 31 (0, 0)) := by simpa using blk_set hE1.out 0 (.int .i64 n)
  have k5 : Mod (fun q => q = E) w (w1.setCell ⟨E, 0, none⟩ (.int .i64 n)) := (Mod.of_below (S := fun q => q = E) hb1.out).setCell (p := ⟨E, 0, none⟩) (.inl rfl) _
  clear hE hE1 f1 f2 g1
  cases c₀
  simp_all [bodyPostS, results, Try.results103]
/-- Behind a give-up. -/
theorem gives_up (E : Nat) (ev : Value) (n : Int) (w : World) (tmps : Array Value) (R : Ending → World → Prop) (hE : w.heap[E]? = some (.cells #[ev] 31 (0, 0)))
    (h2 : tmps[2]? = some (.pointer (some ⟨E, 0, none⟩))) (hR : ∀ w', Mod (fun q => q = E) w w' → R (.returned (.int .i64 n)) w') :
    Leaves Try.prog Try.f89 tmps R [{ target := .fn (.func 103) #[], args := #[.pointer (some ⟨E, 0, none⟩)] }] (.panicking [{ v := .iface 128 (.agg #[.int .i64 n]), recovered := false }]) w := by
  refine leaves_cons (f := 103) (args := #[.pointer (some ⟨E, 0, none⟩)]) (by simp) (by simp [go_sem]) ?_
  refine (catch_stop E ev n w hE).mono ?_
  rintro e u' w'' ⟨rfl, rfl, hE', hm'⟩
  have c2 : w''.cell? ⟨E, 0, none⟩ = some (.int .i64 n) := (blk_cell hE' 0).trans rfl
  refine ⟨.int .i64 n, ?_, hR w'' hm'⟩
  simp [results, Try.results89, go_sem, h2, c2]
theorem gives_back (E : Nat) (n : Int) (w : World) (tmps : Array Value) (R : Ending → World → Prop) (hE : w.heap[E]? = some (.cells #[.int .i64 n] 31 (0, 0)))
    (h2 : tmps[2]? = some (.pointer (some ⟨E, 0, none⟩))) (hR : R (.returned (.int .i64 n)) w) :
    Leaves Try.prog Try.f89 tmps R [{ target := .fn (.func 103) #[], args := #[.pointer (some ⟨E, 0, none⟩)] }] .returning w := by
  refine leaves_cons (f := 103) (args := #[.pointer (some ⟨E, 0, none⟩)]) (by simp) (by simp [go_sem]) ?_
  refine (catch_idle _ w).mono ?_
  rintro e u' w'' ⟨rfl, rfl, rfl⟩
  have c2 : w''.cell? ⟨E, 0, none⟩ = some (.int .i64 n) := (blk_cell hE 0).trans rfl
  refine ⟨.int .i64 n, ?_, hR⟩
  simp [results, Try.results89, go_sem, h2, c2]
/-- Are the parts right, is it not too deep? -/
def rightN (x : T) : Int := if argT x = true then (if deepT 1 x = true then 0 else 150) else 2
set_option maxHeartbeats 2000000 in
theorem right_calls (x : T) (A : Option Addr) (c : Nat) (B : Option Addr) (d : Nat) (w : World) (hv : Bv w x A c B d) (hw : wT x ≤ 1000000) :
    Calls Try.prog 89 #[.agg #[.int .u8 x.f0, .int .u8 x.f1, .bool x.f2, .slice A x.f3.length c, .slice B x.f4.length d]] w fun e w' => e = .returned (.int .i64 (rightN x)) ∧ Below w.heap.size w w' := by
  have hmf : ∀ (fn : Fn) (first cap : Array Value) (w : World), (Instr.makeFunc fn first cap).run Try.prog w = .ok (.func fn first cap) w := fun _ _ _ _ => rfl
  have he := enters_of (P := Try.prog) Try.func104 (by kernel_rfl) rfl
  obtain ⟨w1, hw1⟩ : ∃ w1, w.alloc (.cells #[.int .u8 x.f0, .int .u8 x.f1, .bool x.f2, .slice A x.f3.length c, .slice B x.f4.length d] 55) = w1 := ⟨_, rfl⟩
  obtain ⟨w2, hw2⟩ : ∃ w2, w1.alloc (.cells #[.int .i64 0] 31) = w2 := ⟨_, rfl⟩
  obtain ⟨E, hEe⟩ : ∃ E, w1.heap.size = E := ⟨_, rfl⟩
  obtain ⟨D, hDe⟩ : ∃ D, w2.heap.size = D := ⟨_, rfl⟩
  have hE1 : E = w.heap.size + 1 := by rw [← hEe, ← hw1]; simp
  have hD1 : D = E + 1 := by rw [← hDe, ← hEe, ← hw2]; simp
  obtain ⟨w3, hw3⟩ : ∃ w3, w2.alloc (.cells #[.func (.func 104) #[] #[.pointer (some ⟨D, 0, none⟩)]] 122) = w3 := ⟨_, rfl⟩
  have hX1 : Box w1 w.heap.size (.int .u8 x.f0) (.int .u8 x.f1) (.bool x.f2) (.slice A x.f3.length c) (.slice B x.f4.length d) := hw1 ▸ box_new w _ _ _ _ _
  have b1 : Below w.heap.size w w1 := hw1 ▸ below_alloc (Below.refl w.heap.size w) _
  have b2 : Below w1.heap.size w1 w2 := hw2 ▸ below_alloc (Below.refl w1.heap.size w1) _
  have b3 : Below w2.heap.size w2 w3 := hw3 ▸ below_alloc (Below.refl w2.heap.size w2) _
  have hE2 : w2.heap[E]? = some (.cells #[.int .i64 0] 31 (0, 0)) := by rw [← hw2, ← hEe]; exact heap_alloc_new w1 _
  have hD3 : w3.heap[D]? = some (.cells #[.func (.func 104) #[] #[.pointer (some ⟨D, 0, none⟩)]] 122 (0, 0)) := by
    have h := heap_alloc_new w2 (.cells #[.func (.func 104) #[] #[.pointer (some ⟨D, 0, none⟩)]] 122)
    rw [hw3, hDe] at h
    exact h
  have hE3 := Aside0.mk ((b3.block E (by omega)).trans hE2)
  obtain ⟨p0, p1, p2, p3, p4⟩ := ((hX1.below b2).below b3).cells
  have g0 : w3.cell? ⟨D, 0, none⟩ = some (.func (.func 104) #[] #[.pointer (some ⟨D, 0, none⟩)]) := (blk_cell hD3 0).trans rfl
  have hb3 := Aside0.mk (below_then b1 b1.size (below_then b2 b2.size b3))
  have hcall := right1_calls x A c B d 1 D w3 (hv.below hb3.out) (by omega) g0
  unfold bv Asked at hcall
  have hc := Aside0.mk hcall
  have hE1' := Aside0.mk hE1
  have hD1' := Aside0.mk hD1
  clear hE1 hD1 hX1 b1 b2 b3 hE2 hD3 hcall hv hw
  have hgo : rightN x = if argT x = true then (if deepT 1 x = true then 0 else 150) else 2 := rfl
  obtain ⟨N, hN⟩ : ∃ N, rightN x = N := ⟨_, rfl⟩
  rw [hN] at hgo ⊢
  have hup := Aside0.mk (fun (w' w'' : World) (hb : Below w.heap.size w w') (hm : Mod (fun q => q = E) w' w'') => put5_mod hm hb (by have := hE1'.out; omega))
  cases ha : argT x with
  | false =>
    rw [ha, if_neg (by simp)] at hc hgo
    subst hgo
    clear ha hN
    go_enter_defers Try.func89, Try.ntmps89
    go_wp2_with fail
    refine hc.out.mono ?_
    rintro e w4 ⟨rfl, hb4⟩
    have hE4 := Aside0.mk ((hb4.block E (blk_lt hE3.out)).trans hE3.out)
    have hb4' := Aside0.mk (below_then hb3.out hb3.out.size hb4)
    clear hc hb4 p0 p1 p2 p3 p4 g0
    go_wp2_with fail
    refine gives_up E _ 2 w4 _ _ hE4.out rfl (fun w' hm => ⟨rfl, hup.out _ _ hb4'.out hm⟩)
  | true =>
    rw [ha, if_pos rfl] at hc hgo
    cases hd : deepT 1 x with
    | false =>
      rw [hd] at hc
      rw [hd, if_neg (by simp)] at hgo
      subst hgo
      clear ha hN hd
      go_enter_defers Try.func89, Try.ntmps89
      go_wp2_with fail
      refine hc.out.mono ?_
      rintro e w4 ⟨rfl, hb4⟩
      have hE4 := Aside0.mk ((hb4.block E (blk_lt hE3.out)).trans hE3.out)
      have hb4' := Aside0.mk (below_then hb3.out hb3.out.size hb4)
      clear hc hb4 p0 p1 p2 p3 p4 g0
      go_wp2_with fail
      refine (must_no _ _).mono ?_
      rintro e w' ⟨rfl, rfl⟩
      go_wp2_with fail
      refine gives_up E _ 150 _ _ _ hE4.out rfl (fun w' hm => ⟨rfl, hup.out _ _ hb4'.out hm⟩)
    | true =>
      rw [hd] at hc
      rw [hd, if_pos rfl] at hgo
      subst hgo
      clear ha hN hd
      go_enter_defers Try.func89, Try.ntmps89
      go_wp2_with fail
      refine hc.out.mono ?_
      rintro e w4 ⟨rfl, hb4⟩
      have hE4 := Aside0.mk ((hb4.block E (blk_lt hE3.out)).trans hE3.out)
      have hb4' := Aside0.mk (below_then hb3.out hb3.out.size hb4)
      clear hc hb4 p0 p1 p2 p3 p4 g0
      go_wp2_with fail
      refine (must_yes _ _).mono ?_
      rintro e w' ⟨rfl, rfl⟩
      have g1 : w'.cell? ⟨E, 0, none⟩ = some (.int .i64 0) := (blk_cell hE4.out 0).trans rfl
      have g2 : w'.frozen? ⟨E, 0, none⟩ = false := blk_frozen hE4.out 0
      have k1 := Aside0.mk (show (w'.setCell ⟨E, 0, none⟩ (.int .i64 0)).heap[E]? = some (.cells #[.int .i64 0] 31 (0, 0)) from by simpa using blk_set hE4.out 0 (.int .i64 0))
      have k2 := Aside0.mk ((Mod.refl (fun q => q = E) w').setCell (p := ⟨E, 0, none⟩) (.inl rfl) (.int .i64 0))
      go_wp2_with fail
      refine gives_back E 0 _ _ _ k1.out rfl ⟨rfl, hup.out _ _ hb4'.out k2.out⟩
set_option maxHeartbeats 1000000 in
/-- What Check tells: n is the size as size tells it. -/
theorem check_calls (x : T) (A : Option Addr) (c : Nat) (B : Option Addr) (d : Nat) (w : World) (r : Int) (K : Nat) (hv : Bv w x A c B d) (hw : wT x ≤ 1000000) (hr : PFilterBounds.ber_size.f K x.f0 x.f1 x.f2 x.f3 x.f4 = some r) :
    Calls Try.prog 71 #[.agg #[.int .u8 x.f0, .int .u8 x.f1, .bool x.f2, .slice A x.f3.length c, .slice B x.f4.length d]] w fun e w' => e = .returned (.int .i64 (if rightN x = 0 then (if 65536 < r then 3 else 0) else rightN x)) ∧ Below w.heap.size w w' := by
  have hX := box_new w (.int .u8 x.f0) (.int .u8 x.f1) (.bool x.f2) (.slice A x.f3.length c) (.slice B x.f4.length d)
  have hb1 := below_alloc (Below.refl w.heap.size w) (.cells #[.int .u8 x.f0, .int .u8 x.f1, .bool x.f2, .slice A x.f3.length c, .slice B x.f4.length d] 55)
  obtain ⟨w1, hw1⟩ : ∃ w1, w.alloc (.cells #[.int .u8 x.f0, .int .u8 x.f1, .bool x.f2, .slice A x.f3.length c, .slice B x.f4.length d] 55) = w1 := ⟨_, rfl⟩
  rw [hw1] at hX hb1
  have h1 := Aside0.mk (right_calls x A c B d w1 (hv.below hb1) hw)
  have h2 := Aside0.mk (fun W (hb : Below w1.heap.size w1 W) => PFilterBounds.ber_size.calls K x.f0 x.f1 x.f2 A c x.f3 B d x.f4 r W (((hv.below hb1).below hb).cb) hv.lb (((hv.below hb1).below hb).ci) hv.li hr)
  obtain ⟨p0, p1, p2, p3, p4⟩ := hX.cells
  replace hX := Aside0.mk hX
  replace hb1 := Aside0.mk hb1
  have hcases : rightN x = 0 ∨ rightN x = 2 ∨ rightN x = 150 := by unfold rightN; split; split; exact .inl rfl; exact .inr (.inr rfl); exact .inr (.inl rfl)
  generalize rightN x = N at *
  clear hv hw hr
  rcases hcases with rfl | rfl | rfl
  · rw [if_pos rfl]
    by_cases hc : 65536 < r
    · rw [if_pos hc]
      go_enter Try.func71, Try.ntmps71
      go_wp2_with fail
      refine h1.out.mono ?_
      rintro e w2 ⟨rfl, hb2⟩
      obtain ⟨q0, q1, q2, q3, q4⟩ := (hX.out.below hb2).cells
      have h3 := Aside0.mk (h2.out w2 hb2)
      replace hb2 := Aside0.mk (below_then hb1.out hb1.out.size hb2)
      clear p0 p1 p2 p3 p4 h1 h2
      go_wp2_with fail
      refine h3.out.mono ?_
      rintro e w3 ⟨rfl, hb3⟩
      replace hb3 := Aside0.mk (below_then hb2.out hb2.out.size hb3)
      go_wp2_with fail
      go_ret
      exact ⟨rfl, hb3.out⟩
    · rw [if_neg hc]
      go_enter Try.func71, Try.ntmps71
      go_wp2_with fail
      refine h1.out.mono ?_
      rintro e w2 ⟨rfl, hb2⟩
      obtain ⟨q0, q1, q2, q3, q4⟩ := (hX.out.below hb2).cells
      have h3 := Aside0.mk (h2.out w2 hb2)
      replace hb2 := Aside0.mk (below_then hb1.out hb1.out.size hb2)
      clear p0 p1 p2 p3 p4 h1 h2
      go_wp2_with fail
      refine h3.out.mono ?_
      rintro e w3 ⟨rfl, hb3⟩
      replace hb3 := Aside0.mk (below_then hb2.out hb2.out.size hb3)
      go_wp2_with fail
      go_ret
      exact ⟨rfl, hb3.out⟩
  all_goals
    go_enter Try.func71, Try.ntmps71
    go_wp2_with fail
    refine h1.out.mono ?_
    rintro e w2 ⟨rfl, hb2⟩
    replace hb2 := Aside0.mk (below_then hb1.out hb1.out.size hb2)
    go_wp2_with fail
    go_ret
    exact ⟨rfl, hb2.out⟩

theorem reverse1 (a : Int) : PFilterBounds.slices_Reverse_byte_byte.f 4 [a] = some [a] := by
  simp [PFilterBounds.slices_Reverse_byte_byte.f, PFilterBounds.slices_Reverse_byte_byte.l0, wrap64, rd]
theorem reverse2 (a b : Int) : PFilterBounds.slices_Reverse_byte_byte.f 4 [a, b] = some [b, a] := by
  simp [PFilterBounds.slices_Reverse_byte_byte.f, PFilterBounds.slices_Reverse_byte_byte.l0, wrap64, rd]
theorem reverse3 (a b c : Int) : PFilterBounds.slices_Reverse_byte_byte.f 4 [a, b, c] = some [c, b, a] := by
  simp [PFilterBounds.slices_Reverse_byte_byte.f, PFilterBounds.slices_Reverse_byte_byte.l0, wrap64, rd]
theorem up_le {α : Type} {f : Nat → Option α} (h : ∀ k, LeO (f k) (f (k + 1))) {k k' : Nat} (hk : k ≤ k') {r : α} (hr : f k = some r) : f k' = some r := by
  obtain ⟨d, rfl⟩ := Nat.exists_eq_add_of_le hk
  clear hk
  induction d with
  | zero => exact hr
  | succ d ih => exact h (k + d) r ih
theorem hl0 (k : Nat) (x : Int) (l : List Int) : PFilterBounds.ber_high_int.l0 (k + 1) x l = if x > 0 then (if l.length < 140737488355328 then (PFilterBounds.ber_high_int.l0 k (x / 256) (l ++ [x % 256])) else none) else ((PFilterBounds.slices_Reverse_byte_byte.f k l).bind fun t => some t) := by
  conv => lhs; unfold PFilterBounds.ber_high_int.l0
theorem high_ours (n : Nat) (h1 : 128 ≤ n) (h2 : n ≤ 10000000) : PFilterBounds.ber_high_int.f 7 (n : Int) = some ((lenL n).drop 1) := by
  unfold PFilterBounds.ber_high_int.f lenL
  rw [if_neg (by omega)]
  rw [hl0 6]
  by_cases c1 : n < 256
  · rw [if_neg (by omega), if_pos c1]
    rw [up_le (PFilterBounds.slices_Reverse_byte_byte.mono _) (show 4 ≤ 6 by omega) (reverse1 _)]
    simp only [Option.bind_some]
    congr 1
    simp; omega
  · rw [if_pos (by omega), if_pos (by simp), if_neg c1]
    rw [hl0 5]
    by_cases c2 : n < 65536
    · rw [if_neg (by omega), if_pos c2]
      show ((PFilterBounds.slices_Reverse_byte_byte.f 5 [(n : Int) % 256, (n : Int) / 256 % 256]).bind fun t => some t) = _
      rw [up_le (PFilterBounds.slices_Reverse_byte_byte.mono _) (show 4 ≤ 5 by omega) (reverse2 _ _)]
      simp only [Option.bind_some]
      congr 1
      simp; omega
    · rw [if_pos (by omega), if_pos (by simp), if_neg c2]
      rw [hl0 4, if_neg (by omega)]
      show ((PFilterBounds.slices_Reverse_byte_byte.f 4 [(n : Int) % 256, (n : Int) / 256 % 256, (n : Int) / 256 / 256 % 256]).bind fun t => some t) = _
      rw [reverse3]
      simp only [Option.bind_some]
      congr 1
      simp; omega
theorem length_ours (n : Nat) (h2 : n ≤ 10000000) : PFilterBounds.ber_length.f 7 (n : Int) = some (lenL n) := by
  unfold PFilterBounds.ber_length.f
  by_cases c : n < 128
  · rw [if_pos (by omega)]
    unfold lenL
    rw [if_pos c]
    congr 2
    omega
  · rw [if_neg (by omega), high_ours n (by omega) h2]
    simp only [Option.bind_some]
    have hl : ((lenL n).drop 1).length ≤ 3 := by have := (lenL_length n).2; rw [List.length_drop]; omega
    rw [if_pos (by simp at hl ⊢; omega)]
    unfold lenL at hl ⊢
    rw [if_neg c]
    split
    · simp [wrap64]
    · split <;> simp [wrap64]

abbrev sizeF (K : Nat) (x : T) : Option Int := PFilterBounds.ber_size.f K x.f0 x.f1 x.f2 x.f3 x.f4
theorem rd_at {xs : List T} {k : Nat} (hk : k < xs.length) : PFilterBounds.rd_T55 xs (k : Int) = xs[k] := by unfold PFilterBounds.rd_T55; simp [List.getD_eq_getElem?_getD, hk]
theorem wrap_nat (n : Nat) (h : n ≤ 100000000) : wrap64 (n : Int) = (n : Int) := by unfold wrap64; omega
/-- What size says, against what it is. -/
def SizeOk (r n : Nat) : Prop := r ≤ n ∧ (r = n ∨ 65536 < r)
theorem f_succ (K : Nat) (x0 x1 : Int) (x2 : Bool) (xb : List Int) (xs : List T) : PFilterBounds.ber_size.f (K + 1) x0 x1 x2 xb xs = PFilterBounds.ber_size.l0 K (xb.length : Int) xs (xs.length : Int) 0 := by rw [PFilterBounds.ber_size.f]
theorem l0_succ (K : Nat) (n : Int) (xs : List T) (l j : Int) : PFilterBounds.ber_size.l0 (K + 1) n xs l j = if j < l then (if 0 ≤ j then (if j < (xs.length : Int) then ((sizeF K (PFilterBounds.rd_T55 xs j)).bind fun t => (if (wrap64 (n + t)) > 65536 then (some (wrap64 (n + t))) else (PFilterBounds.ber_size.l0 K (wrap64 (n + t)) xs l (wrap64 (j + 1))))) else (none)) else (none)) else ((PFilterBounds.ber_length.f K n).bind fun t => (some (wrap64 ((wrap64 (1 + (t.length : Int))) + n)))) := by rw [PFilterBounds.ber_size.l0]
theorem wrap_sum (a b : Nat) (h : a + b ≤ 100000000) : wrap64 ((a : Int) + (b : Int)) = ((a + b : Nat) : Int) := by rw [← Int.natCast_add]; exact wrap_nat _ h
theorem size_end (xs : List T) (n : Nat) (h : n ≤ 10000000) : PFilterBounds.ber_size.l0 8 (n : Int) xs (xs.length : Int) (xs.length : Int) = some ((1 + (lenL n).length + n : Nat) : Int) := by
  have h4 := (lenL_length n).2
  have e := length_ours n h
  have hlt : ¬ ((xs.length : Int) < (xs.length : Int)) := Int.lt_irrefl _
  have q1 : wrap64 (1 + ((lenL n).length : Int)) = ((1 + (lenL n).length : Nat) : Int) := wrap_sum 1 _ (by omega)
  have q2 := wrap_sum (1 + (lenL n).length) n (by omega)
  rw [l0_succ 7, if_neg hlt, e]
  generalize (1 + (lenL n).length + n) = z at q2 ⊢
  generalize (1 + (lenL n).length) = y at q1 q2
  show some (wrap64 (wrap64 (1 + ((lenL n).length : Int)) + (n : Int))) = _
  rw [q1, q2]
theorem size_over (K : Nat) (xs : List T) (j n r1 : Nat) (hj : j < xs.length) (hn : n + r1 ≤ 10000000) (e : sizeF K xs[j] = some ((r1 : Nat) : Int)) (c : 65536 < n + r1) : PFilterBounds.ber_size.l0 (K + 1) (n : Int) xs (xs.length : Int) (j : Int) = some ((n + r1 : Nat) : Int) := by
  have q1 := wrap_sum n r1 (by omega)
  have q2 : ((n + r1 : Nat) : Int) > 65536 := by omega
  rw [l0_succ, if_pos (by omega), if_pos (by omega), if_pos (by omega), rd_at hj, e, Option.bind_some, q1, if_pos q2]
theorem size_step (K : Nat) (xs : List T) (j n r1 : Nat) (hj : j < xs.length) (hx : xs.length ≤ 10000000) (hn : n + r1 ≤ 10000000) (e : sizeF K xs[j] = some ((r1 : Nat) : Int)) (c : ¬ 65536 < n + r1) : PFilterBounds.ber_size.l0 (K + 1) (n : Int) xs (xs.length : Int) (j : Int) = PFilterBounds.ber_size.l0 K ((n + r1 : Nat) : Int) xs (xs.length : Int) ((j + 1 : Nat) : Int) := by
  have q1 := wrap_sum n r1 (by omega)
  have q2 : ¬ ((n + r1 : Nat) : Int) > 65536 := by omega
  have q3 : wrap64 ((j : Int) + 1) = ((j + 1 : Nat) : Int) := wrap_sum j 1 (by omega)
  rw [l0_succ, if_pos (by omega), if_pos (by omega), if_pos (by omega), rd_at hj, e, Option.bind_some, q1, if_neg q2, q3]
theorem size_loop (xs : List T) (hx : xs.length ≤ 10000000) (ih : ∀ x ∈ xs, ∃ K r, sizeF K x = some ((r : Nat) : Int) ∧ SizeOk r (sizeT x)) : ∀ m j, j + m = xs.length → ∀ n : Nat, n + sizeL (xs.drop j) ≤ 10000000 →
    ∃ K r, PFilterBounds.ber_size.l0 K (n : Int) xs (xs.length : Int) (j : Int) = some ((r : Nat) : Int) ∧ SizeOk r (1 + (lenL (n + sizeL (xs.drop j))).length + (n + sizeL (xs.drop j))) := by
  intro m
  induction m with
  | zero =>
    intro j hj n hn
    obtain rfl : j = xs.length := by omega
    have hd : sizeL (xs.drop xs.length) = 0 := by rw [List.drop_length, sizeL]
    rw [hd, Nat.add_zero] at hn ⊢
    exact ⟨8, _, size_end xs n hn, Nat.le_refl _, .inl rfl⟩
  | succ m ihm =>
    intro j hj n hn
    have hjl : j < xs.length := by omega
    obtain ⟨K1, r1, e1, h1, h2⟩ := ih xs[j] (List.getElem_mem hjl)
    have hd : sizeL (xs.drop j) = sizeT xs[j] + sizeL (xs.drop (j + 1)) := by rw [List.drop_eq_getElem_cons hjl, sizeL]
    rw [hd] at hn ⊢
    by_cases c : 65536 < n + r1
    · exact ⟨K1 + 1, n + r1, size_over K1 xs j n r1 hjl (by omega) e1 c, by omega, .inr c⟩
    · have h3 : r1 = sizeT xs[j] := by omega
      rw [h3] at e1 c
      obtain ⟨K2, r2, e2, h4⟩ := ihm (j + 1) (by omega) (n + sizeT xs[j]) (by omega)
      refine ⟨max K1 K2 + 1, r2, ?_, by rw [← Nat.add_assoc n]; exact h4⟩
      rw [size_step (max K1 K2) xs j n (sizeT xs[j]) hjl hx (by omega) (up_le (f := fun k => sizeF k xs[j]) (PFilterBounds.ber_size.mono _ _ _ _ _) (Nat.le_max_left K1 K2) e1) c]
      exact up_le (f := fun k => PFilterBounds.ber_size.l0 k ((n + sizeT xs[j] : Nat) : Int) xs (xs.length : Int) ((j + 1 : Nat) : Int)) (fun k => (PFilterBounds.ber_size.mono_l k).2 _ _ _ _) (Nat.le_max_right K1 K2) e2
theorem sizeL_mem {xs : List T} {x : T} (h : x ∈ xs) : sizeT x ≤ sizeL xs := by
  induction xs with
  | nil => cases h
  | cons y ys ih =>
    rw [sizeL]
    rcases List.mem_cons.1 h with rfl | h
    · omega
    · have := ih h; omega
theorem sizeL_count (xs : List T) : xs.length ≤ sizeL xs := by
  induction xs with
  | nil => simp [sizeL]
  | cons x l ih => cases x; simp only [sizeL, sizeT, List.length_cons]; omega
theorem size_ours (x : T) : sizeT x ≤ 10000000 → ∃ K r, sizeF K x = some ((r : Nat) : Int) ∧ SizeOk r (sizeT x) := by
  refine treeInd (P := fun x => sizeT x ≤ 10000000 → ∃ K r, sizeF K x = some ((r : Nat) : Int) ∧ SizeOk r (sizeT x)) (fun x0 x1 x2 xb xs ih => ?_) x
  intro h
  simp only [sizeT] at h
  obtain ⟨K, r, e, h2⟩ := size_loop xs (by have := sizeL_count xs; omega) (fun y hy => ih y hy (by have := sizeL_mem hy; omega)) xs.length 0 (by omega) xb.length (by rw [List.drop_zero]; omega)
  rw [List.drop_zero] at h2
  refine ⟨K + 1, r, ?_, ?_⟩
  · unfold sizeF
    rw [f_succ]
    exact e
  · rw [sizeT]
    exact h2
/-- What Check says, in numbers. -/
def checkN (x : T) : Int := if rightN x = 0 then (if 65536 < (sizeT x : Int) then 3 else 0) else rightN x
theorem check_ours (x : T) (A : Option Addr) (c : Nat) (B : Option Addr) (d : Nat) (w : World) (hv : Bv w x A c B d) (hw : wT x ≤ 1000000) :
    Calls Try.prog 71 #[.agg #[.int .u8 x.f0, .int .u8 x.f1, .bool x.f2, .slice A x.f3.length c, .slice B x.f4.length d]] w fun e w' => e = .returned (.int .i64 (checkN x)) ∧ Below w.heap.size w w' := by
  have hz := sizeT_w x
  obtain ⟨K, r, e, h1, h2⟩ := size_ours x (by omega)
  refine (check_calls x A c B d w r K hv hw e).mono ?_
  rintro e w' ⟨rfl, hb⟩
  refine ⟨?_, hb⟩
  unfold checkN
  have : (65536 < (r : Int)) ↔ (65536 < (sizeT x : Int)) := by omega
  simp only [this]
end Go.Proofs.Ytgnmkblaockghaa.B
