/- Contacts in boxes and rows of numbers, many at once. -/
import Derived.Test.YtbocbaakknkfiaaOj
set_option linter.unusedVariables false
set_option linter.unusedSimpArgs false
namespace Go.Proofs.Ytbocbaakknkfiaa
open Go.RowKit Go.Shelf Go.Proofs.YtbocbaakknkfiaaW.PrintWords Go.Proofs.YtbocbaakknkfiaaW.PrintMore Go.Proofs.YtbocbaakknkfiaaW.PrintLast

def Boxes (w : World) (l : List (Nat × CT)) : Prop := ∀ p ∈ l, w.heap[p.1]? = some (.cells (conV p.2.V) 24 (0, 0)) ∧ p.2.In w
theorem Boxes.below {w w' : World} {l : List (Nat × CT)} (h : Boxes w l) (hb : Below w.heap.size w w') : Boxes w' l := fun p hp =>
  ⟨(hb.block _ (Array.getElem?_eq_some_iff.1 (h p hp).1).1).trans (h p hp).1, (h p hp).2.below hb⟩
theorem Boxes.cons {w : World} {l : List (Nat × CT)} (h : Boxes w l) {B : Nat} {t : CT} (hB : w.heap[B]? = some (.cells (conV t.V) 24 (0, 0))) (ht : t.In w) : Boxes w ((B, t) :: l) := fun p hp => by
  rcases List.mem_cons.1 hp with rfl | hp
  · exact ⟨hB, ht⟩
  · exact h p hp
theorem Boxes.box {w : World} {l : List (Nat × CT)} (h : Boxes w l) (B : Nat) (t : CT) (hm : (B, t) ∈ l) : w.heap[B]? = some (.cells (conV t.V) 24 (0, 0)) := (h _ hm).1
theorem Boxes.con {w : World} {l : List (Nat × CT)} (h : Boxes w l) (B : Nat) (t : CT) (hm : (B, t) ∈ l) : t.In w := (h _ hm).2
theorem Boxes.at_ {w : World} {l : List (Nat × CT)} (h : Boxes w l) (B : Nat) (t : CT) (hm : (B, t) ∈ l) (f : Nat) (hf : f < 8) : w.cell? ⟨B, f, none⟩ = some (.slice (t.A f) (t.L f).length (t.c f)) := con_cell (h _ hm).1 f hf
def IntRows (w : World) (l : List (Option Addr × List Int)) : Prop := ∀ p ∈ l, (Kd.int .i64).C w p.1 p.2.length p.2
theorem IntRows.below {w w' : World} {l : List (Option Addr × List Int)} (h : IntRows w l) (hb : Below w.heap.size w w') : IntRows w' l := fun p hp => Kd.C_below (h p hp) hb
theorem IntRows.cons {w : World} {l : List (Option Addr × List Int)} (h : IntRows w l) {A : Option Addr} {d : List Int} (hd : (Kd.int .i64).C w A d.length d) : IntRows w ((A, d) :: l) := fun p hp => by
  rcases List.mem_cons.1 hp with rfl | hp
  · exact hd
  · exact h p hp
theorem IntRows.row {w : World} {l : List (Option Addr × List Int)} (h : IntRows w l) (A : Option Addr) (d : List Int) (hm : (A, d) ∈ l) : (Kd.int .i64).C w A d.length d := h _ hm
theorem Boxes.of3 {w0 w : World} {x y z : CT} (h : Box3 w0 w x y z) (hx : x.In w) (hy : y.In w) (hz : z.In w) : Boxes w [(w0.heap.size, x), (w0.heap.size + 1, y), (w0.heap.size + 1 + 1, z)] := fun p hp => by
  simp only [List.mem_cons, List.not_mem_nil, or_false] at hp
  rcases hp with rfl | rfl | rfl
  · exact ⟨h.b0, hx⟩
  · exact ⟨h.b1, hy⟩
  · exact ⟨h.b2, hz⟩
theorem texts_in (u v : CT) (f : Nat) (hf : f < 8) (W : World) (hu : u.In W) (hv : v.In W) :
    Calls Try.prog 14 #[.slice (u.A f) (u.L f).length (u.c f), .slice (v.A f) (v.L f).length (v.c f)] W fun e w' => e = .returned (.bool (T (u.L f) (v.L f))) ∧ Below W.heap.size W w' :=
  texts_calls (u.A f) (v.A f) (u.c f) (v.c f) (u.L f) (v.L f) W (hu.2 f hf).1 (hu.1.row f hf) (hv.1.row f hf)
end Go.Proofs.Ytbocbaakknkfiaa
