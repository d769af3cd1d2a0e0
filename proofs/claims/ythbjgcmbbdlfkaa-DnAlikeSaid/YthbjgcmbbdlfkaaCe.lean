/- dn.signs: a map of bytes, and what a look-up finds. -/
import Derived.Test.YthbjgcmbbdlfkaaCd
import Derived.MapKept
set_option linter.unusedVariables false
set_option linter.unusedSimpArgs false
namespace Go.Proofs.Ythbjgcmbbdlfkaa
open Go.RowKit Go.Shelf Go.Proofs.YthbjgcmbbdlfkaaW.PrintWords Go.Proofs.YthbjgcmbbdlfkaaW.PrintMore Go.Proofs.YthbjgcmbbdlfkaaW.PrintLast

def ent (x : Int) (n : Nat) : MapEntry := { key := .int .u8 x, val := .bool true, born := n }
def signEs : Array MapEntry := #[ent 44 0, ent 43 1, ent 34 2, ent 92 3, ent 60 4, ent 62 5, ent 59 6, ent 61 7]
/-- Does a backslash stand ahead of a byte? -/
def signB (x : Int) : Bool := (44 == x) || ((43 == x) || ((34 == x) || ((92 == x) || ((60 == x) || ((62 == x) || ((59 == x) || (61 == x)))))))
theorem under65 : ∃ k v, Try.prog.underlying 65 = some (.map k v) ∧ Try.prog.underlying k = some (.int .u8) ∧ ∀ w, (zeroValue v).run Try.prog w = .ok (.bool false) w := ⟨_, _, by rfl, by rfl, fun w => by rfl⟩
theorem ins {W : World} {r clock : Nat} {es : Array MapEntry} (x : Int) (hb : W.heap[r]? = some (.map es clock)) (hf : Instr.findNow (.int .u8) (.int .u8 x) es.toList 0 = some none) :
    ∃ W', (Instr.mapUpdate 65 (.map (some r)) (.int .u8 x) (.bool true)).run Try.prog W = .ok () W' ∧ W'.heap[r]? = some (.map (es.push (ent x clock)) (clock + 1)) ∧ Below r W W' := by
  obtain ⟨k, v, ht, hk, _⟩ := under65
  refine ⟨{ W with heap := W.heap.setIfInBounds r (.map (es.push (ent x clock)) (clock + 1)) }, ?_, (MapKept.heap_set hb).1, ⟨rfl, rfl, rfl, by simp, fun j hj => (MapKept.heap_set hb).2 j (by omega)⟩⟩
  have hc : (Instr.checkKey false 10000 k (.int .u8 x)).run Try.prog W = .ok () W := MapKept.run_checkKey (k := .int .u8 x) hk (by simp [MapKept.IsKey]) false 9999
  unfold Instr.mapUpdate
  simp only [Sem.run_bind, run_underlying ht, Result.andThen, MapKept.run_getObj_map hb, hc, MapKept.run_findKey hk hf, MapKept.run_setObj_map _ hb]
  rfl
theorem signs_calls (w : World) : Calls Try.prog 47 #[] w fun e w' => e = .returned (.map (some w.heap.size)) ∧ Below w.heap.size w w' ∧ w'.heap[w.heap.size]? = some (.map signEs 8) := by
  have hmk : ∀ w, (Instr.makeMap 65 none).run Try.prog w = .ok (.map (some w.heap.size)) (w.alloc (.map #[] 0)) := fun w => rfl
  have h0 : (w.alloc (.map #[] 0)).heap[w.heap.size]? = some (.map #[] 0) := by
    show ((w.heap.push _)[w.heap.size]?) = _
    simp
  have b0 := below_alloc (Below.refl w.heap.size w) (.map #[] 0)
  obtain ⟨W0, hW0⟩ : ∃ W0, w.alloc (.map #[] 0) = W0 := ⟨_, rfl⟩
  rw [hW0] at h0 b0
  obtain ⟨W1, r1, h1, b1⟩ := ins 44 h0 rfl
  obtain ⟨W2, r2, h2, b2⟩ := ins 43 h1 rfl
  obtain ⟨W3, r3, h3, b3⟩ := ins 34 h2 rfl
  obtain ⟨W4, r4, h4, b4⟩ := ins 92 h3 rfl
  obtain ⟨W5, r5, h5, b5⟩ := ins 60 h4 rfl
  obtain ⟨W6, r6, h6, b6⟩ := ins 62 h5 rfl
  obtain ⟨W7, r7, h7, b7⟩ := ins 59 h6 rfl
  obtain ⟨W8, r8, h8, b8⟩ := ins 61 h7 rfl
  have bb := Aside0.mk ((((((((b0.trans b1).trans b2).trans b3).trans b4).trans b5).trans b6).trans b7).trans b8)
  replace h8 := Aside0.mk h8
  clear h0 h1 h2 h3 h4 h5 h6 h7 b0 b1 b2 b3 b4 b5 b6 b7 b8
  go_enter Try.func47, Try.ntmps47
  go_wp2_with fail
  go_ret
  exact ⟨rfl, bb.out, h8.out⟩
theorem find_sign (x : Int) : Instr.findNow (.int .u8) (.int .u8 x) signEs.toList 0 = some (if signB x then some ((if x = 44 then 0 else if x = 43 then 1 else if x = 34 then 2 else if x = 92 then 3 else if x = 60 then 4 else if x = 62 then 5 else if x = 59 then 6 else 7), .bool true) else none) := by
  by_cases h1 : x = 44
  · subst h1; rfl
  by_cases h2 : x = 43
  · subst h2; rfl
  by_cases h3 : x = 34
  · subst h3; rfl
  by_cases h4 : x = 92
  · subst h4; rfl
  by_cases h5 : x = 60
  · subst h5; rfl
  by_cases h6 : x = 62
  · subst h6; rfl
  by_cases h7 : x = 59
  · subst h7; rfl
  by_cases h8 : x = 61
  · subst h8; rfl
  have hs : signB x = false := by unfold signB; simp [Ne.symm h1, Ne.symm h2, Ne.symm h3, Ne.symm h4, Ne.symm h5, Ne.symm h6, Ne.symm h7, Ne.symm h8]
  rw [hs]
  have b1 : (x == 44) = false := by simpa using h1
  have b2 : (x == 43) = false := by simpa using h2
  have b3 : (x == 34) = false := by simpa using h3
  have b4 : (x == 92) = false := by simpa using h4
  have b5 : (x == 60) = false := by simpa using h5
  have b6 : (x == 62) = false := by simpa using h6
  have b7 : (x == 59) = false := by simpa using h7
  have b8 : (x == 61) = false := by simpa using h8
  simp only [signEs, ent, Instr.findNow, Instr.sameNow, if_true, b1, b2, b3, b4, b5, b6, b7, b8]
  rfl
theorem run_lookup_sign (x : Int) (W : World) (r : Nat) (hb : W.heap[r]? = some (.map signEs 8)) : (Instr.lookup 65 (.map (some r)) (.int .u8 x) false).run Try.prog W = .ok (.bool (signB x)) W := by
  obtain ⟨k, v, ht, hk, hz⟩ := under65
  have hf := MapKept.run_findKey (P := Try.prog) (w := W) hk (find_sign x)
  have hc : (Instr.checkKey signEs.isEmpty 10000 k (.int .u8 x)).run Try.prog W = .ok () W := MapKept.run_checkKey (k := .int .u8 x) hk (by simp [MapKept.IsKey]) _ 9999
  unfold Instr.lookup
  cases h : signB x with
  | true =>
    rw [h] at hf
    simp only [Sem.run_bind, run_underlying ht, Result.andThen, MapKept.run_getObj_map hb, hc, hf, if_true, Sem.run_pure]
    rfl
  | false =>
    rw [h] at hf
    simp only [Bool.false_eq_true, if_false] at hf
    simp only [Sem.run_bind, run_underlying ht, Result.andThen, MapKept.run_getObj_map hb, hc, hf, Sem.run_pure, hz W]
    rfl
end Go.Proofs.Ythbjgcmbbdlfkaa
