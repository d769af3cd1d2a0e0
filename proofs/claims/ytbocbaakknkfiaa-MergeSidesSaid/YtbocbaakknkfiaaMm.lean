/- merge.Three, a field further. -/
import Derived.Test.YtbocbaakknkfiaaMl
set_option linter.unusedVariables false
set_option linter.unusedSimpArgs false
namespace Go.Proofs.Ytbocbaakknkfiaa
open Go.RowKit Go.Shelf Go.Proofs.YtbocbaakknkfiaaW.PrintWords Go.Proofs.YtbocbaakknkfiaaW.PrintMore Go.Proofs.YtbocbaakknkfiaaW.PrintLast

/-- What comes of field i. -/
def merged (x y z : Nat → Fld) (i : Nat) : Fld := if takesA (x i) (y i) (z i) then y i else z i
/-- The fields in dispute among the first k. -/
def disps (x y z : Nat → Fld) (k : Nat) : List Int := ((List.range k).filter fun i => dispF (x i) (y i) (z i)).map Int.ofNat
theorem disps_next (x y z : Nat → Fld) (k : Nat) : disps x y z (k + 1) = if dispF (x k) (y k) (z k) then disps x y z k ++ [(k : Int)] else disps x y z k := by
  unfold disps
  rw [List.range_succ, List.filter_append]
  cases h : dispF (x k) (y k) (z k) <;> simp [h]
theorem disps_length (x y z : Nat → Fld) (k : Nat) : (disps x y z k).length ≤ k := by
  unfold disps
  rw [List.length_map]
  exact Nat.le_trans (List.length_filter_le _ _) (by simp)
def upd {α : Type} (f : Nat → α) (k : Nat) (a : α) : Nat → α := fun i => if i = k then a else f i
/-- What the box of what comes holds, k fields told. -/
def outV (A : Nat → Option Addr) (c : Nat → Nat) (L : Nat → Fld) (k : Nat) (i : Nat) : Value := if i < k then FV A c L i else .slice none 0 0
theorem outV_next (A : Nat → Option Addr) (c : Nat → Nat) (L : Nat → Fld) (k : Nat) (A5 : Option Addr) (c5 : Nat) (i : Nat) : outV (upd A k A5) (upd c k c5) L (k + 1) i = if i = k then .slice A5 (L k).length c5 else outV A c L k i := by
  unfold outV FV upd
  by_cases h : i = k
  · subst h; simp
  · by_cases h2 : i < k
    · rw [if_pos (by omega), if_pos h2]; simp [h]
    · rw [if_neg (by omega), if_neg h2]; simp [h]
theorem conV_set (V : Nat → Value) (k : Nat) (hk : k < 8) (u : Value) : (conV V).setIfInBounds k u = conV (fun i => if i = k then u else V i) := by
  match k, hk with
  | 0, _ => rfl
  | 1, _ => rfl
  | 2, _ => rfl
  | 3, _ => rfl
  | 4, _ => rfl
  | 5, _ => rfl
  | 6, _ => rfl
  | 7, _ => rfl
structure TS (w0 w : World) (x y z : CT) (k : Nat) (v : Value) (A : Nat → Option Addr) (c : Nat → Nat) : Prop where
  bel : Below w0.heap.size w0 w
  b0 : w.heap[w0.heap.size]? = some (.cells (conV x.V) 24 (0, 0))
  b1 : w.heap[w0.heap.size + 1]? = some (.cells (conV y.V) 24 (0, 0))
  b2 : w.heap[w0.heap.size + 2]? = some (.cells (conV z.V) 24 (0, 0))
  b3 : w.heap[w0.heap.size + 3]? = some (.cells (conV (outV A c (merged x.L y.L z.L) k)) 24 (0, 0))
  dis : Disp w (w0.heap.size + 4) v (disps x.L y.L z.L k)
  vn : ∀ q, v.ownBlock = some q → w0.heap.size + 5 ≤ q
  fs : ∀ i, i < k → (merged x.L y.L z.L i).length ≤ c i ∧ st.F w (fun q => w0.heap.size + 5 ≤ q ∧ some q ≠ v.ownBlock ∧ q < w.heap.size) (A i) (merged x.L y.L z.L i).length (merged x.L y.L z.L i)
theorem TS.below {w0 w w' : World} {x y z : CT} {k : Nat} {v : Value} {A : Nat → Option Addr} {c : Nat → Nat} (h : TS w0 w x y z k v A c) (hb : Below w.heap.size w w') : TS w0 w' x y z k v A c := by
  have l : ∀ {B : Nat} {o : Obj}, w.heap[B]? = some o → w'.heap[B]? = some o := fun hq => (hb.block _ (Array.getElem?_eq_some_iff.1 hq).1).trans hq
  exact ⟨below_then h.bel h.bel.size hb, l h.b0, l h.b1, l h.b2, l h.b3, h.dis.below hb, h.vn, fun i hi => ⟨(h.fs i hi).1, Kd.F_mono (F_mod (h.fs i hi).2 (Mod.of_below (S := fun _ => False) hb) (fun _ _ h => h)) (fun q hq => ⟨hq.1, hq.2.1, Nat.lt_of_lt_of_le hq.2.2 hb.size⟩)⟩⟩
theorem TS.turn {w0 w w' : World} {x y z : CT} {k : Nat} {v : Value} {A : Nat → Option Addr} {c : Nat → Nat} (h : TS w0 w x y z k v A c) (hT : Turned w (w0.heap.size + 4) v (disps x.L y.L z.L (k + 1)) w') :
    ∃ v', Below w0.heap.size w0 w' ∧ w'.heap[w0.heap.size]? = some (.cells (conV x.V) 24 (0, 0)) ∧ w'.heap[w0.heap.size + 1]? = some (.cells (conV y.V) 24 (0, 0)) ∧ w'.heap[w0.heap.size + 2]? = some (.cells (conV z.V) 24 (0, 0)) ∧
      w'.heap[w0.heap.size + 3]? = some (.cells (conV (outV A c (merged x.L y.L z.L) k)) 24 (0, 0)) ∧ Disp w' (w0.heap.size + 4) v' (disps x.L y.L z.L (k + 1)) ∧ (∀ q, v'.ownBlock = some q → w0.heap.size + 5 ≤ q) ∧
      (∀ i, i < k → (merged x.L y.L z.L i).length ≤ c i ∧ st.F w' (fun q => w0.heap.size + 5 ≤ q ∧ some q ≠ v'.ownBlock ∧ q < w'.heap.size) (A i) (merged x.L y.L z.L i).length (merged x.L y.L z.L i)) ∧ w.heap.size ≤ w'.heap.size ∧
      (∀ q o, w.heap[q]? = some o → q ≠ w0.heap.size + 4 → some q ≠ v.ownBlock → w'.heap[q]? = some o) := by
  obtain ⟨v', h1, h2, h3⟩ := hT
  have hz := h.bel.size
  have hs4 := (Array.getElem?_eq_some_iff.1 h.dis.box).1
  have l : ∀ q o, w.heap[q]? = some o → q ≠ w0.heap.size + 4 → some q ≠ v.ownBlock → w'.heap[q]? = some o := fun q o hq h4 h5 => h3.blk hq (fun hn => hn.elim h4 h5)
  have lo : ∀ q, q < w0.heap.size + 5 → some q ≠ v.ownBlock := fun q hq e => by have := h.vn q e.symm; omega
  refine ⟨v', h.bel.trans (h3.below (fun q hq => ?_) hz), l _ _ h.b0 (by omega) (lo _ (by omega)), l _ _ h.b1 (by omega) (lo _ (by omega)), l _ _ h.b2 (by omega) (lo _ (by omega)), l _ _ h.b3 (by omega) (lo _ (by omega)), h1, fun q hq => ?_, fun i hi => ⟨(h.fs i hi).1, ?_⟩, h3.size, l⟩
  · rcases hq with hq | hq
    · omega
    · have := h.vn q hq.symm; omega
  · rcases h2 with h9 | ⟨b, h9, hb⟩
    · exact h.vn q (h9.symm.trans hq)
    · rw [h9] at hq; injection hq with hq; omega
  · refine Kd.F_mono (F_mod (h.fs i hi).2 h3 (fun q hq hn => ?_)) (fun q hq => ⟨hq.1, fun e => ?_, Nat.lt_of_lt_of_le hq.2.2 h3.size⟩)
    · rcases hn with hn | hn
      · have := hq.1; omega
      · exact hq.2.1 hn
    · rcases h2 with h9 | ⟨b, h9, hb⟩
      · exact hq.2.1 (e.trans h9)
      · rw [h9] at e; injection e with e; have := hq.2.2; omega
/-- The field is told anew, and laid into the box. -/
theorem ts_next {w0 w4 w5 : World} {x y z : CT} {k : Nat} {v' : Value} {A : Nat → Option Addr} {c : Nat → Nat} (hk : k < 8)
    (t1 : Below w0.heap.size w0 w4) (t2 : w4.heap[w0.heap.size]? = some (.cells (conV x.V) 24 (0, 0))) (t3 : w4.heap[w0.heap.size + 1]? = some (.cells (conV y.V) 24 (0, 0))) (t4 : w4.heap[w0.heap.size + 2]? = some (.cells (conV z.V) 24 (0, 0)))
    (t5 : w4.heap[w0.heap.size + 3]? = some (.cells (conV (outV A c (merged x.L y.L z.L) k)) 24 (0, 0))) (t6 : Disp w4 (w0.heap.size + 4) v' (disps x.L y.L z.L (k + 1))) (t7 : ∀ q, v'.ownBlock = some q → w0.heap.size + 5 ≤ q)
    (t8 : ∀ i, i < k → (merged x.L y.L z.L i).length ≤ c i ∧ st.F w4 (fun q => w0.heap.size + 5 ≤ q ∧ some q ≠ v'.ownBlock ∧ q < w4.heap.size) (A i) (merged x.L y.L z.L i).length (merged x.L y.L z.L i))
    {A5 : Option Addr} {c5 : Nat} (hR : st.R 9 w5 0 (fun q => w4.heap.size ≤ q) (.slice A5 (merged x.L y.L z.L k).length c5) (merged x.L y.L z.L k)) (hb : Below w4.heap.size w4 w5) :
    TS w0 (w5.setCell ⟨w0.heap.size + 3, k, none⟩ (.slice A5 (merged x.L y.L z.L k).length c5)) x y z (k + 1) v' (upd A k A5) (upd c k c5) := by
  have hts : TS w0 w4 x y z k v' A c → True := fun _ => trivial
  have l : ∀ {B : Nat} {o : Obj}, w4.heap[B]? = some o → w5.heap[B]? = some o := fun hq => (hb.block _ (Array.getElem?_eq_some_iff.1 hq).1).trans hq
  have hm : Mod (fun q => q = w0.heap.size + 3) w5 (w5.setCell ⟨w0.heap.size + 3, k, none⟩ (.slice A5 (merged x.L y.L z.L k).length c5)) := Mod.setCell (S := fun q => q = w0.heap.size + 3) (p := ⟨w0.heap.size + 3, k, none⟩) (Mod.refl _ _) (.inl rfl) _
  have d5 := t6.below hb
  have h34 := (Array.getElem?_eq_some_iff.1 t6.box).1
  refine ⟨?_, hm.blk (l t2) (by omega), hm.blk (l t3) (by omega), hm.blk (l t4) (by omega), ?_, ⟨hm.blk d5.box (by omega), R_mod d5.row hm (fun q hq e => ?_), d5.ne, d5.len⟩, t7, fun i hi => ?_⟩
  · exact (below_then t1 t1.size hb).trans (hm.below (fun q hq => by omega) (by have := t1.size; have := hb.size; omega))
  · have h9 := heap_setCell_same _ _ k _ _ (.slice A5 (merged x.L y.L z.L k).length c5) (l t5)
    rw [conV_set _ _ hk] at h9
    have e : (fun i => if i = k then Value.slice A5 (merged x.L y.L z.L k).length c5 else outV A c (merged x.L y.L z.L) k i) = outV (upd A k A5) (upd c k c5) (merged x.L y.L z.L) (k + 1) := by
      funext i; rw [outV_next]
    rw [e] at h9
    exact h9
  · have := t7 q hq.symm; omega
  · by_cases he : i = k
    · subst he
      obtain ⟨A', c', e, hlc, hC⟩ := Kd.R_reads hR
      injection e with e1 e2 e3
      subst e1; subst e3
      simp only [upd, if_true]
      have hown : ∀ q, v'.ownBlock = some q → q < w4.heap.size := fun q hq => ((Kd.R_bound t6.row).1 q hq).2.2.1
      refine ⟨hlc, Kd.F_mono (F_mod (Kd.F_bound (Kd.R_F hR)) hm (fun q hq e => by have := hq.1; omega)) (fun q hq => ⟨by have := hq.1; omega, fun e => ?_, Nat.lt_of_lt_of_le hq.2 hm.size⟩)⟩
      have := hown q e.symm
      have := hq.1
      omega
    · simp only [upd, if_neg he]
      have h9 := t8 i (by omega)
      refine ⟨h9.1, Kd.F_mono (F_mod (F_mod h9.2 (Mod.of_below (S := fun _ => False) hb) (fun _ _ h => h)) hm (fun q hq e => by have := hq.1; omega)) (fun q hq => ⟨hq.1, hq.2.1, ?_⟩)⟩
      have := hm.size
      have := hb.size
      omega
end Go.Proofs.Ytbocbaakknkfiaa
