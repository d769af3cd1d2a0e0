/- The reference's Three: what its memory holds. -/
import Derived.Test.YtbocbaakknkfiaaOg
set_option linter.unusedVariables false
set_option linter.unusedSimpArgs false
namespace Go.Proofs.Ytbocbaakknkfiaa
open Go.RowKit Go.Shelf Go.Proofs.YtbocbaakknkfiaaW.PrintWords Go.Proofs.YtbocbaakknkfiaaW.PrintMore Go.Proofs.YtbocbaakknkfiaaW.PrintLast

/-- What comes of three, in the sides' own memory. -/
def mT (x y z : CT) : CT := ⟨fun i => if takesA (x.L i) (y.L i) (z.L i) then y.A i else z.A i, fun i => if takesA (x.L i) (y.L i) (z.L i) then y.c i else z.c i, merged x.L y.L z.L⟩
theorem mT_V (x y z : CT) (i : Nat) : (mT x y z).V i = if takesA (x.L i) (y.L i) (z.L i) then y.V i else z.V i := by
  unfold CT.V FV mT merged
  dsimp only
  cases takesA (x.L i) (y.L i) (z.L i) <;> rfl
theorem mT_in {x y z : CT} {w : World} (hy : y.In w) (hz : z.In w) : (mT x y z).In w := by
  refine ⟨⟨fun i hi => ?_, fun i hi => ?_⟩, fun i hi => ?_⟩
  · unfold mT merged; dsimp only
    cases takesA (x.L i) (y.L i) (z.L i)
    · exact hz.1.cap i hi
    · exact hy.1.cap i hi
  · unfold mT merged; dsimp only
    cases takesA (x.L i) (y.L i) (z.L i)
    · exact hz.1.row i hi
    · exact hy.1.row i hi
  · unfold mT merged; dsimp only
    cases takesA (x.L i) (y.L i) (z.L i)
    · exact hz.2 i hi
    · exact hy.2 i hi
def outR (x y z : CT) (k i : Nat) : Value := if i < k then (mT x y z).V i else .slice none 0 0
theorem outR_next (x y z : CT) (k : Nat) : outR x y z (k + 1) = fun i => if i = k then (mT x y z).V k else outR x y z k i := by
  funext i
  unfold outR
  by_cases h : i = k
  · subst h; simp
  · by_cases h2 : i < k
    · rw [if_pos (by omega), if_neg h, if_pos h2]
    · rw [if_neg (by omega), if_neg h, if_neg h2]
structure RS (w0 w : World) (x y z : CT) (O : Nat → Value) (v : Value) (ds : List Int) : Prop where
  bel : Below w0.heap.size w0 w
  b0 : w.heap[w0.heap.size]? = some (.cells (conV x.V) 24 (0, 0))
  b1 : w.heap[w0.heap.size + 1]? = some (.cells (conV y.V) 24 (0, 0))
  b2 : w.heap[w0.heap.size + 2]? = some (.cells (conV z.V) 24 (0, 0))
  b3 : w.heap[w0.heap.size + 3]? = some (.cells (conV nilV) 24 (0, 0))
  b4 : w.heap[w0.heap.size + 4]? = some (.cells (conV O) 24 (0, 0))
  row : (Kd.int .i64).R 3 w 0 (fun q => w0.heap.size + 5 ≤ q) v ds
theorem RS.below {w0 w w' : World} {x y z : CT} {O : Nat → Value} {v : Value} {ds : List Int} (h : RS w0 w x y z O v ds) (hb : Below w.heap.size w w') : RS w0 w' x y z O v ds := by
  have l : ∀ {B : Nat} {o : Obj}, w.heap[B]? = some o → w'.heap[B]? = some o := fun hq => (hb.block _ (Array.getElem?_eq_some_iff.1 hq).1).trans hq
  exact ⟨below_then h.bel h.bel.size hb, l h.b0, l h.b1, l h.b2, l h.b3, l h.b4, Kd.R_below h.row hb⟩
theorem RS.set {w0 w : World} {x y z : CT} {O : Nat → Value} {v : Value} {ds : List Int} (h : RS w0 w x y z O v ds) (k : Nat) (hk : k < 8) (u : Value) : RS w0 (w.setCell ⟨w0.heap.size + 4, k, none⟩ u) x y z (fun i => if i = k then u else O i) v ds := by
  have hm : Mod (fun q => q = w0.heap.size + 4) w (w.setCell ⟨w0.heap.size + 4, k, none⟩ u) := Mod.setCell (S := fun q => q = w0.heap.size + 4) (p := ⟨w0.heap.size + 4, k, none⟩) (Mod.refl _ _) (.inl rfl) u
  refine ⟨h.bel.trans (hm.below (fun q hq => by omega) h.bel.size), hm.blk h.b0 (by omega), hm.blk h.b1 (by omega), hm.blk h.b2 (by omega), hm.blk h.b3 (by omega), ?_, R_mod h.row hm (fun q hq e => by omega)⟩
  rw [heap_setCell_same _ _ k _ _ u h.b4, conV_set _ _ hk]
theorem RS.app {w0 w w' : World} {x y z : CT} {O : Nat → Value} {v v' : Value} {ds ds' : List Int} (h : RS w0 w x y z O v ds) (hg : w.grownBy w' v.ownBlock) (ho : (Kd.int .i64).R 3 w' 0 (fun q => w0.heap.size + 5 ≤ q) v' ds') : RS w0 w' x y z O v' ds' := by
  have hm : Mod (fun q => w0.heap.size + 5 ≤ q) w w' := Mod.of_grown (S := fun q => w0.heap.size + 5 ≤ q) hg (fun q hq => .inl (h.row.1 q hq))
  exact ⟨h.bel.trans (hm.below (fun q hq => by omega) h.bel.size), hm.blk h.b0 (by omega), hm.blk h.b1 (by omega), hm.blk h.b2 (by omega), hm.blk h.b3 (by omega), hm.blk h.b4 (by omega), ho⟩
theorem five (w : World) (o0 o1 o2 o3 o4 : Obj) : ∃ W, (((((w.alloc o0).alloc o1).alloc o2).alloc o3).alloc o4) = W ∧ Below w.heap.size w W ∧ W.heap[w.heap.size]? = some o0 ∧ W.heap[w.heap.size + 1]? = some o1 ∧ W.heap[w.heap.size + 2]? = some o2 ∧ W.heap[w.heap.size + 3]? = some o3 ∧ W.heap[w.heap.size + 4]? = some o4 := by
  obtain ⟨w1, e1⟩ : ∃ w1, w.alloc o0 = w1 := ⟨_, rfl⟩
  obtain ⟨w2, e2⟩ : ∃ w2, w1.alloc o1 = w2 := ⟨_, rfl⟩
  obtain ⟨w3, e3⟩ : ∃ w3, w2.alloc o2 = w3 := ⟨_, rfl⟩
  obtain ⟨w4, e4⟩ : ∃ w4, w3.alloc o3 = w4 := ⟨_, rfl⟩
  obtain ⟨w5, e5⟩ : ∃ w5, w4.alloc o4 = w5 := ⟨_, rfl⟩
  rw [e1, e2, e3, e4, e5]
  have s1 : w1.heap.size = w.heap.size + 1 := by rw [← e1]; simp
  have s2 : w2.heap.size = w.heap.size + 2 := by rw [← e2]; simp; omega
  have s3 : w3.heap.size = w.heap.size + 3 := by rw [← e3]; simp; omega
  have s4 : w4.heap.size = w.heap.size + 4 := by rw [← e4]; simp; omega
  have h1 := Go.heap_alloc_new w o0
  have h2 := Go.heap_alloc_new w1 o1
  have h3 := Go.heap_alloc_new w2 o2
  have h4 := Go.heap_alloc_new w3 o3
  have h5 := Go.heap_alloc_new w4 o4
  rw [e1] at h1
  rw [e2, s1] at h2
  rw [e3, s2] at h3
  rw [e4, s3] at h4
  rw [e5, s4] at h5
  have k1 : Below w.heap.size w w1 := by rw [← e1]; exact below_alloc (Below.refl _ _) _
  have k2 : Below w1.heap.size w1 w2 := by rw [← e2]; exact below_alloc (Below.refl _ _) _
  have k3 : Below w2.heap.size w2 w3 := by rw [← e3]; exact below_alloc (Below.refl _ _) _
  have k4 : Below w3.heap.size w3 w4 := by rw [← e4]; exact below_alloc (Below.refl _ _) _
  have k5 : Below w4.heap.size w4 w5 := by rw [← e5]; exact below_alloc (Below.refl _ _) _
  have j4 := below_then k4 k4.size k5
  have j3 := below_then k3 k3.size j4
  have j2 := below_then k2 k2.size j3
  have j1 := below_then k1 k1.size j2
  exact ⟨w5, rfl, j1, (j2.block _ (by omega)).trans h1, (j3.block _ (by omega)).trans h2, (j4.block _ (by omega)).trans h3, (k5.block _ (by omega)).trans h4, h5⟩
theorem results_c8t {P : Program} {fn : Func} {p u : Tmp} {ty : TypeId} (h : fn.results = #[.cell p ty, .tmp u]) (tmps : Array Value) (w : World) (g : Nat) (t : TypeId) (cs : Array Value) (fr : Nat × Nat) (d : TypeDesc)
    (hp : tmps.getD p undef = .pointer (some ⟨g, 0, none⟩)) (hg : w.heap[g]? = some (.cells cs t fr))
    (hu : P.underlying ty = some d) (hd : (match d with | .struct _ | .array _ _ => true | _ => false) = true) (hi : (P.info? ty).map (·.size) = some cs.size) :
    (results fn tmps).run P w = .ok (.tuple #[.agg cs, tmps.getD u undef]) w := by
  have h1 : tmps[p]?.getD undef = .pointer (some ⟨g, 0, none⟩) := by simpa using hp
  simp [results, h, h1, asAddr, run_loadVar_row w g t ty cs fr d hg hu hd hi]
end Go.Proofs.Ytbocbaakknkfiaa
