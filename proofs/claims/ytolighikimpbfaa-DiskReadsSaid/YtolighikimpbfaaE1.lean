/- DiskCrash: plain laws; what its loop keeps. -/
import Derived.Test.YtolighikimpbfaaDo
set_option linter.unusedVariables false
set_option linter.unusedSimpArgs false
namespace Go.Proofs.Ytolighikimpbfaa
open Go.RowKit Go.Shelf Go.Proofs.YtolighikimpbfaaW.PrintWords Go.Proofs.YtolighikimpbfaaW.PrintMore

theorem info4 : (Try.prog.info? 4).map (fun i => (i.zero, i.size, i.bytes)) = some (some (.bool false), 1, 1) := by kernel_rfl
/-! ### Plain laws -/
theorem over_get {α : Type} (xs ys : List α) (a i : Nat) (ha : a + ys.length ≤ xs.length) (h : i < a ∨ a + ys.length ≤ i) : (over xs a ys)[i]? = xs[i]? := by
  unfold over
  rcases h with h | h
  · rw [List.append_assoc, List.getElem?_append_left (by rw [List.length_take]; omega), List.getElem?_take_of_lt h]
  · rw [List.getElem?_append_right (by rw [List.length_append, List.length_take]; omega), List.getElem?_drop]
    congr 1
    rw [List.length_append, List.length_take]
    omega
theorem laid_get (i : Nat) : ∀ (l : List Wr) (b : List UInt8), (∀ x ∈ l, x.at_ + x.b.length ≤ b.length) → (∀ x ∈ l, i < x.at_ ∨ x.at_ + x.b.length ≤ i) → (laid b l)[i]? = b[i]?
  | [], _, _, _ => rfl
  | x :: l, b, hf, h => by
    have h1 := over_length b x.at_ x.b (hf x (by simp))
    show (laid (over b x.at_ x.b) l)[i]? = _
    rw [laid_get i l _ (fun y hy => by rw [h1]; exact hf y (by simp [hy])) (fun y hy => h y (by simp [hy]))]
    exact over_get _ _ _ _ (hf x (by simp)) (h x (by simp))
/-- What waits has been marked. -/
def Touched (ds : DS) (T : List Bool) : Prop := ∀ x ∈ ds.waits, ∀ i, x.at_ ≤ i → i < x.at_ + x.b.length → T[i]? = some true
theorem touched_fresh (m : Nat) (T : List Bool) : Touched (fresh m) T := fun x hx => by cases hx
theorem crash_untouched {ds : DS} {T : List Bool} (hf : Fine ds) (ht : Touched ds T) (x y : Int) (i : Nat) (hi : T[i]? = some false) : (ds.crashed x y).now[i]? = ds.lasts[i]? := by
  show (laid ds.lasts (ds.kept x y))[i]? = _
  refine laid_get i _ _ (fun z hz => by rw [hf.las]; exact kept_fit hf x y z hz) (fun z hz => ?_)
  obtain ⟨t, h1, h2, h3⟩ : ∃ t ∈ ds.waits, t.at_ = z.at_ ∧ z.b.length ≤ t.b.length := by
    unfold DS.kept at hz
    rcases List.mem_append.1 hz with hz | hz
    · exact ⟨z, List.mem_of_mem_take hz, rfl, Nat.le_refl _⟩
    · cases hq : ds.waits[pickN x ds.waits.length]? with
      | none => rw [hq] at hz; cases hz
      | some t =>
        rw [hq] at hz
        simp only [List.mem_singleton] at hz
        subst hz
        exact ⟨t, List.mem_of_getElem? hq, rfl, by show (t.b.take _).length ≤ _; rw [List.length_take]; omega⟩
  rcases Nat.lt_or_ge i z.at_ with h4 | h4
  · exact .inl h4
  · rcases Nat.lt_or_ge i (z.at_ + z.b.length) with h5 | h5
    · have := ht t h1 i (by omega) (by omega)
      rw [hi] at this
      cases this
    · exact .inr h5
theorem pickN_zero (n : Nat) : pickN 0 n = 0 := by simp [pickN]
theorem pickN_all (n : Nat) : pickN (-1) n = n := by
  unfold pickN
  rw [Int.neg_emod_eq_sub_emod]
  rw [show ((n : Int) + 1 - 1) = n by omega, Int.emod_eq_of_lt (by omega) (by omega)]
  simp
theorem crash_none (ds : DS) : (ds.crashed 0 0).now = ds.lasts := by
  show laid ds.lasts (ds.kept 0 0) = _
  unfold DS.kept
  rw [pickN_zero, List.take_zero, List.nil_append]
  cases hq : ds.waits[0]? with
  | none => rfl
  | some t =>
    show over ds.lasts t.at_ (t.b.take (pickN 0 t.b.length)) = _
    rw [pickN_zero, List.take_zero, over_nil]
theorem crash_all {ds : DS} (h : Std ds) : (ds.crashed (-1) 0).now = ds.now := by
  show laid ds.lasts (ds.kept (-1) 0) = _
  unfold DS.kept
  rw [pickN_all, List.take_of_length_le (Nat.le_refl _), List.getElem?_eq_none (Nat.le_refl _), List.append_nil]
  exact h.symm
theorem write_lasts (ds : DS) (x : Int) (b : List UInt8) : (ds.write x b).1.lasts = ds.lasts := by
  unfold DS.write
  split
  · rfl
  · split
    · rfl
    · split <;> rfl
theorem lim_lasts (ds : DS) (n : Int) : (ds.lim n).1.lasts = ds.lasts := by unfold DS.lim; split <;> rfl
/-- A write that was not refused. -/
theorem write_ok {ds : DS} {x : Int} {b : List UInt8} (h : (ds.write x b).2 = 0) : 0 ≤ x ∧ x + b.length ≤ ds.now.length ∧ (ds.write x b).1 = ds.wrote x.toNat b := by
  unfold DS.write at h ⊢
  split at h
  · exact absurd h (by simp)
  · rename_i c1
    split at h
    · exact absurd h (by simp)
    · rename_i c2
      split at h
      · exact absurd h (by simp)
      · rename_i c3
        refine ⟨by omega, by omega, ?_⟩
        rw [if_neg c1, if_neg c2, if_neg c3]
theorem write_bad {ds : DS} {x : Int} {b : List UInt8} (h : (ds.write x b).2 ≠ 0) : (ds.write x b).1 = ds := by
  unfold DS.write at h ⊢
  split
  · rfl
  · rename_i c1
    rw [if_neg c1] at h
    split
    · rfl
    · rename_i c2
      rw [if_neg c2] at h
      split
      · rfl
      · rename_i c3
        rw [if_neg c3] at h
        exact absurd rfl h
theorem sync_ok {ds : DS} (h : ds.sync.2 = 0) : ds.sync.1 = ds.synced := by
  unfold DS.sync at h ⊢
  split at h
  · exact absurd h (by simp)
  · rename_i c; rw [if_neg c]
theorem sync_bad {ds : DS} (h : ds.sync.2 ≠ 0) : ds.sync.1 = ds := by
  unfold DS.sync at h ⊢
  split at h
  · rename_i c; rw [if_pos c]
  · exact absurd rfl h

/-! ### What the loop keeps -/
structure CL (w0 : World) (B m : Nat) (wr : World) (g k : Nat) (ds : DS) (v9 : Value) (gT capT : Nat) (T : List Bool) (O : Nat → Prop) : Prop where
  own : Own O wr g ds
  bd : ∀ q, O q → q < wr.heap.size
  lo : ∀ q, q < B → O q
  bel : Below B w0 wr
  last : u8.R 5 wr 0 (fun q => O q ∧ q ≠ gT) v9 (toI ds.lasts)
  row : Kd.bool.R 4 wr 0 (fun q => q = gT) (.slice (some ⟨gT, 0, none⟩) m capT) T
  og : O gT
  bg : B ≤ gT
  fine : Fine ds
  std : Std ds
  done : ds.done ≤ k
  wai : ds.waits.length ≤ k
  len : ds.now.length = m
  tl : T.length = m
section
variable {w0 wr w' : World} {B m g k gT capT : Nat} {ds ds' : DS} {v9 : Value} {T : List Bool} {O : Nat → Prop}
theorem CL.grow (h : CL w0 B m wr g k ds v9 gT capT T O) (hb : Below wr.heap.size wr w') : CL w0 B m w' g k ds v9 gT capT T (fun q => O q ∨ (wr.heap.size ≤ q ∧ q < w'.heap.size)) := by
  have hB : B ≤ wr.heap.size := by have := h.bd gT h.og; have := h.bg; omega
  exact ⟨(h.own.add hb).weaken (fun q hq => hq.imp id (fun h => h.1)), fun q hq => by rcases hq with hq | hq; exact Nat.lt_of_lt_of_le (h.bd q hq) hb.size; exact hq.2, fun q hq => .inl (h.lo q hq), below_then h.bel hB hb,
    Kd.R_mono (R_mod h.last (Mod.of_below (S := fun _ => False) hb) (fun _ _ h => h)) (fun q hq => ⟨.inl hq.1, hq.2⟩), R_mod h.row (Mod.of_below (S := fun _ => False) hb) (fun _ _ h => h), .inl h.og, h.bg, h.fine, h.std, h.done, h.wai, h.len, h.tl⟩
theorem CL.op (h : CL w0 B m wr g k ds v9 gT capT T O) (ho : Own O w' g ds') (hs : Stays O wr w') (hf : Fine ds') (hd : Std ds') (hl : ds'.lasts = ds.lasts) (hn : ds'.now.length = ds.now.length) (k' : Nat) (hk : ds'.done ≤ k') (hw : ds'.waits.length ≤ k') : CL w0 B m w' g k' ds' v9 gT capT T O := by
  have hB : B ≤ wr.heap.size := by have := h.bd gT h.og; have := h.bg; omega
  refine ⟨ho, fun q hq => Nat.lt_of_lt_of_le (h.bd q hq) hs.size, h.lo, h.bel.trans (hs.below h.lo hB), ?_, R_stays h.row hs (fun q hq => hq ▸ h.og), h.og, h.bg, hf, hd, hk, hw, hn.trans h.len, h.tl⟩
  rw [hl]
  exact R_stays h.last hs (fun q hq => hq.1)
theorem CL.up (h : CL w0 B m wr g k ds v9 gT capT T O) (k' : Nat) (hk : k ≤ k') : CL w0 B m wr g k' ds v9 gT capT T O :=
  ⟨h.own, h.bd, h.lo, h.bel, h.last, h.row, h.og, h.bg, h.fine, h.std, by have := h.done; omega, by have := h.wai; omega, h.len, h.tl⟩
/-- A mark. -/
theorem CL.mark (h : CL w0 B m wr g k ds v9 gT capT T O) (i : Nat) : CL w0 B m (wr.setCell ⟨gT, i, none⟩ (.bool true)) g k ds v9 gT capT (T.set i true) O := by
  obtain ⟨h1, h2⟩ := Kd.R_putg h.row (i : Int) true
  have hm : Mod (fun q => q = gT) wr (wr.setCell ⟨gT, i, none⟩ (.bool true)) := (Mod.refl (fun q => q = gT) wr).setCell (p := ⟨gT, i, none⟩) (.inl rfl) _
  exact ⟨h.own.mod hm (fun q hq => hq ▸ h.og), fun q hq => Nat.lt_of_lt_of_le (h.bd q hq) hm.size, h.lo, h.bel.setCell (show B ≤ (⟨gT, i, none⟩ : Addr).block from h.bg) _, R_mod h.last hm (fun q hq => hq.2), h1, h.og, h.bg, h.fine, h.std, h.done, h.wai, h.len, by rw [List.length_set]; exact h.tl⟩
/-- Behind a sync: a new row of marks, what lasts read anew. -/
theorem CL.renew {v' : Value} {gT' capT' : Nat} {T' : List Bool} {O' : Nat → Prop} (h : CL w0 B m wr g k ds v9 gT capT T O) (hv : u8.R 5 wr 0 (fun q => O q ∧ q ≠ gT') v' (toI ds.lasts)) (hr : Kd.bool.R 4 wr 0 (fun q => q = gT') (.slice (some ⟨gT', 0, none⟩) m capT') T') (hg : O gT') (hbg : B ≤ gT') (ht : T'.length = m) :
    CL w0 B m wr g k ds v' gT' capT' T' O := ⟨h.own, h.bd, h.lo, h.bel, hv, hr, hg, hbg, h.fine, h.std, h.done, h.wai, h.len, ht⟩
end
end Go.Proofs.Ytolighikimpbfaa
