/- A map with complex keys, laid in any order: what stands in it, and what a look-up finds. -/
import Derived.Test.YtbocbaakknkfiaaOa
import Derived.MapKept
set_option linter.unusedVariables false
set_option linter.unusedSimpArgs false
namespace Go.Proofs.Ytbocbaakknkfiaa
open Go.RowKit Go.Shelf Go.Proofs.YtbocbaakknkfiaaW.PrintWords Go.Proofs.YtbocbaakknkfiaaW.PrintMore Go.Proofs.YtbocbaakknkfiaaW.PrintLast

/-- Both sides' deeds of the i-th entry, i from 1 to 9. -/
def pOf (i : Nat) : Int := ((i - 1) / 3 + 1 : Nat)
def qOf (i : Nat) : Int := ((i - 1) % 3 + 1 : Nat)
def vd (i : Nat) : Int := [0, 1, 2, 3, 2, 2, 4, 5, 6, 7].getD i 0
def keyOf (i : Nat) : Value := .complex .f64 (fl (pOf i)) (fl (qOf i))
def valOf (i : Nat) : Value := .int .i64 (vd i)
def hitK (a b : Nat) (v : Value) : Bool := match v with
  | .complex .f64 x y => Op.floatEq .f64 a x && Op.floatEq .f64 b y
  | _ => false
theorem hit_key (i j : Nat) (hi : 1 ≤ i ∧ i ≤ 9) (hj : 1 ≤ j ∧ j ≤ 9) : hitK (fl (pOf i)) (fl (qOf i)) (keyOf j) = decide (i = j) := by
  have h1 : i = 1 ∨ i = 2 ∨ i = 3 ∨ i = 4 ∨ i = 5 ∨ i = 6 ∨ i = 7 ∨ i = 8 ∨ i = 9 := by omega
  have h2 : j = 1 ∨ j = 2 ∨ j = 3 ∨ j = 4 ∨ j = 5 ∨ j = 6 ∨ j = 7 ∨ j = 8 ∨ j = 9 := by omega
  rcases h1 with rfl | rfl | rfl | rfl | rfl | rfl | rfl | rfl | rfl <;> rcases h2 with rfl | rfl | rfl | rfl | rfl | rfl | rfl | rfl | rfl <;> decide
theorem run_equal_c {P : Program} {w : World} {t : TypeId} (h : P.underlying t = some (.complex .f64)) (a b c d : Nat) :
    (Op.equal t (.complex .f64 a b) (.complex .f64 c d)).run P w = .ok (Op.floatEq .f64 a c && Op.floatEq .f64 b d) w := by
  show (Op.equalIn (9999 + 1) t _ _).run P w = _
  unfold Op.equalIn
  simp [run_underlying h, Result.andThen]
/-- The first entry whose key is this one. -/
def findC (a b : Nat) : List MapEntry → Nat → Option (Nat × Value)
  | [], _ => none
  | e :: es, i => if hitK a b e.key then some (i, e.val) else findC a b es (i + 1)
theorem run_findAsking_c {P : Program} {w : World} {t : TypeId} (h : P.underlying t = some (.complex .f64)) (a b : Nat) :
    ∀ (l : List MapEntry) (i : Nat), (∀ e ∈ l, ∃ j, e.key = keyOf j) → (Instr.findAsking t (.complex .f64 a b) l i).run P w = .ok (findC a b l i) w
  | [], _, _ => rfl
  | e :: es, i, hl => by
    obtain ⟨j, hj⟩ := hl e (.head _)
    have ih := run_findAsking_c (P := P) (w := w) h a b es (i + 1) (fun x hx => hl x (.tail _ hx))
    unfold Instr.findAsking findC
    rw [hj]
    unfold keyOf hitK
    simp only [Sem.run_bind, run_equal_c h, Result.andThen]
    split
    · rename_i h1; simp
    · rename_i h1; exact ih
theorem run_findKey_c {P : Program} {w : World} {t : TypeId} (h : P.underlying t = some (.complex .f64)) (a b : Nat) (l : List MapEntry) (hl : ∀ e ∈ l, ∃ j, e.key = keyOf j) :
    (Instr.findKey t (.complex .f64 a b) l).run P w = .ok (findC a b l 0) w := by
  unfold Instr.findKey
  simp only [Sem.run_bind, run_underlying h, Result.andThen]
  cases l with
  | nil => rfl
  | cons e es =>
    have : Instr.findNow (.complex .f64) (.complex .f64 a b) (e :: es) 0 = none := by
      unfold Instr.findNow; cases e.key <;> rfl
    rw [this]
    exact run_findAsking_c h a b _ 0 hl
theorem run_checkKey_c {P : Program} {w : World} {t : TypeId} (h : P.underlying t = some (.complex .f64)) (a b : Nat) (e : Bool) : (Instr.checkKey e 10000 t (.complex .f64 a b)).run P w = .ok () w := by
  show (Instr.checkKey e (9999 + 1) t _).run P w = _
  unfold Instr.checkKey
  simp [run_underlying h, Result.andThen]
theorem findC_none (a b : Nat) : ∀ (l : List MapEntry) (i : Nat), (∀ e ∈ l, hitK a b e.key = false) → findC a b l i = none
  | [], _, _ => rfl
  | e :: es, i, h => by
    unfold findC
    rw [h e (.head _)]
    exact findC_none a b es (i + 1) (fun x hx => h x (.tail _ hx))
theorem findC_some (a b : Nat) (v : Value) : ∀ (l : List MapEntry) (i : Nat), (∀ e ∈ l, hitK a b e.key = true → e.val = v) → (∃ e ∈ l, hitK a b e.key = true) → ∃ n, findC a b l i = some (n, v)
  | [], _, _, h => by obtain ⟨e, he, _⟩ := h; cases he
  | e :: es, i, h, hx => by
    unfold findC
    by_cases c : hitK a b e.key = true
    · rw [if_pos c, h e (.head _) c]; exact ⟨i, rfl⟩
    · rw [if_neg c]
      refine findC_some a b v es (i + 1) (fun x hm => h x (.tail _ hm)) ?_
      obtain ⟨x, hm, hh⟩ := hx
      cases hm with
      | head => exact absurd hh c
      | tail _ hm => exact ⟨x, hm, hh⟩
/-- What stands in the map when these are laid. -/
def InMap (listed : Array Bool) (es : Array MapEntry) : Prop :=
  (∀ e ∈ es.toList, ∃ i, 1 ≤ i ∧ i ≤ 9 ∧ listed.getD i false = true ∧ e.key = keyOf i ∧ e.val = valOf i) ∧
  (∀ i, 1 ≤ i → i ≤ 9 → listed.getD i false = true → ∃ e ∈ es.toList, e.key = keyOf i)
/-- All nine. -/
def AllNine (es : Array MapEntry) : Prop :=
  (∀ e ∈ es.toList, ∃ i, 1 ≤ i ∧ i ≤ 9 ∧ e.key = keyOf i ∧ e.val = valOf i) ∧ (∀ i, 1 ≤ i → i ≤ 9 → ∃ e ∈ es.toList, e.key = keyOf i)
theorem getD_set (l : Array Bool) (i j : Nat) (hi : i < l.size) : (l.setIfInBounds i true).getD j false = (if i = j then true else l.getD j false) := by
  simp only [Array.getD_eq_getD_getElem?, Array.getElem?_setIfInBounds]
  by_cases c : i = j
  · subst c; simp [hi]
  · simp [c]
theorem run_insert_c {P : Program} {w : World} {t k v : TypeId} {r i clock : Nat} {es : Array MapEntry} {listed : Array Bool} (ht : P.underlying t = some (.map k v)) (hk : P.underlying k = some (.complex .f64))
    (hb : w.heap[r]? = some (.map es clock)) (hes : InMap listed es) (hi : 1 ≤ i ∧ i ≤ 9) (hl : listed.getD i false = false) (hsz : i < listed.size) :
    (Instr.mapUpdate t (.map (some r)) (keyOf i) (valOf i)).run P w = .ok () { w with heap := w.heap.setIfInBounds r (.map (es.push { key := keyOf i, val := valOf i, born := clock }) (clock + 1)) } ∧
    InMap (listed.setIfInBounds i true) (es.push { key := keyOf i, val := valOf i, born := clock }) := by
  constructor
  · have hf : findC (fl (pOf i)) (fl (qOf i)) es.toList 0 = none := findC_none _ _ _ _ fun e he => by
      obtain ⟨j, h1, h9, hj, hkey, _⟩ := hes.1 e he
      rw [hkey, hit_key i j hi ⟨h1, h9⟩]
      refine decide_eq_false fun h => ?_
      subst h
      rw [hl] at hj; cases hj
    have hk2 := run_findKey_c (P := P) (w := w) hk (fl (pOf i)) (fl (qOf i)) es.toList (fun e he => by obtain ⟨j, _, _, _, h, _⟩ := hes.1 e he; exact ⟨j, h⟩)
    rw [hf] at hk2
    have hc := run_checkKey_c (P := P) (w := w) hk (fl (pOf i)) (fl (qOf i)) false
    unfold Instr.mapUpdate keyOf
    simp only [Sem.run_bind, run_underlying ht, Result.andThen, MapKept.run_getObj_map hb, hc, hk2, MapKept.run_setObj_map _ hb]
  · refine ⟨fun e he => ?_, fun j h1 h9 hj => ?_⟩
    · rw [Array.toList_push, List.mem_append, List.mem_singleton] at he
      rcases he with he | rfl
      · obtain ⟨j, h1, h9, hj, hkey, hval⟩ := hes.1 e he
        refine ⟨j, h1, h9, ?_, hkey, hval⟩
        rw [getD_set _ _ _ hsz]
        split
        · rfl
        · exact hj
      · exact ⟨i, hi.1, hi.2, by rw [getD_set _ _ _ hsz, if_pos rfl], rfl, rfl⟩
    · rw [getD_set _ _ _ hsz] at hj
      rw [Array.toList_push]
      by_cases c : i = j
      · subst c; exact ⟨_, List.mem_append_right _ (.head _), rfl⟩
      · rw [if_neg c] at hj
        obtain ⟨e, he, h⟩ := hes.2 j h1 h9 hj
        exact ⟨e, List.mem_append_left _ he, h⟩
end Go.Proofs.Ytbocbaakknkfiaa
