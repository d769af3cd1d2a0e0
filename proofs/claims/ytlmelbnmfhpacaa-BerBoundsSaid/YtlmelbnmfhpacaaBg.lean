/- Whatever values and tags came in: what the heap holds of them. -/
import Derived.Test.YtlmelbnmfhpacaaGf
import Derived.Deep.Slices
import Derived.OpenShut
import Derived.ChangeOld
set_option linter.unusedVariables false
set_option linter.unusedSimpArgs false
namespace Go.Proofs.Ytlmelbnmfhpacaa
open Go.RowKit Go.Deep Go.ChangeShapes Go.WideShapes Go.Proofs.YtlmelbnmfhpacaaW.PrintWords Go.Proofs.YtlmelbnmfhpacaaW.PrintMore

section
variable {H : Type} (enc : TypeId × Value → H) (P : Program) (w : World)

/-- Whatever reads as data of type t is of kind d, and good. -/
def Opens {α : Type} (t : TypeId) (d : Kd α) (G : α → Prop) : Prop :=
  ∀ (fuel : Nat) (cs : List Value) (x : DataW H × List MemPlace), DataW.trod enc P w 0 (fun _ => true) true fuel t cs = some x → ∃ y, d.K w y cs ∧ G y
variable {enc P w}

theorem opens_int {t : TypeId} {k : IntKind} (hu : P.underlying t = some (.int k)) : Opens enc P w t (Kd.int k) (fun n => (Lit.int k n).wf = true) := by
  intro fuel cs x h
  obtain ⟨n, rfl, _, hw⟩ := DataW.trod_int hu h
  exact ⟨n, rfl, hw⟩
theorem opens_bool {t : TypeId} (hu : P.underlying t = some .bool) : Opens enc P w t Kd.bool (fun _ => True) := by
  intro fuel cs x h
  obtain ⟨b, rfl, _⟩ := DataW.trod_bool hu h
  exact ⟨b, rfl, trivial⟩
theorem opens_string {t : TypeId} (hu : P.underlying t = some .string) : Opens enc P w t Kd.string (fun s => s.size ≤ maxLen) := by
  intro fuel cs x h
  obtain ⟨s, rfl, _, hs⟩ := DataW.trod_string hu h
  exact ⟨s, rfl, hs⟩
theorem opens_mono {α : Type} {t : TypeId} {d : Kd α} {G G' : α → Prop} (h : Opens enc P w t d G) (hG : ∀ y, G y → G' y) : Opens enc P w t d G' := fun fuel cs x hx => let ⟨y, hk, hg⟩ := h fuel cs x hx; ⟨y, hk, hG y hg⟩

theorem addr_add_add (a : Addr) (i j : Nat) : (a.add i).add j = a.add (i + j) := by
  unfold Addr.add
  by_cases hj : j = 0 <;> by_cases hi : i = 0 <;> simp_all [Nat.add_assoc]
theorem cells_at {base n : Nat} {a : Addr} {cs : List Value} (h : w.cells? base a n = some cs) (i : Nat) (u : Value) (hu : cs[i]? = some u) : w.cell? (a.add i) = some u := by
  obtain ⟨_, hl, hc⟩ := World.cells?_some h
  have hi := (List.getElem?_eq_some_iff.1 hu).1
  rw [hc i (by omega), hu]

theorem opens_rowN {α : Type} {t e : TypeId} {d : Kd α} {G : α → Prop} (hu : P.underlying t = some (.slice e)) (hsz : P.cellsOf e = d.sz) (fuel : Nat) (cs : List Value) (x : DataW H × List MemPlace) (hd : ∀ n, fuel = n + 1 → ∀ cs x, DataW.trod enc P w 0 (fun _ => true) true n e cs = some x → ∃ y, d.K w y cs ∧ G y)
    (h : DataW.trod enc P w 0 (fun _ => true) true fuel t cs = some x) :
    ∃ (A : Option Addr) (c : Nat) (l : List α), cs = [.slice A l.length c] ∧ l.length ≤ c ∧ c ≤ maxLen ∧ d.C w A l.length l ∧ ∀ y ∈ l, G y := by
  classical
  rcases DataW.trod_slice hu h with ⟨rfl, _⟩ | ⟨a, len, cap, elems, rest, n, hfn, rfl, _, hb, hl, hm, hlen, hel, hsp, hns⟩
  · exact ⟨none, 0, [], rfl, Nat.le_refl _, Nat.zero_le _, Kd.C_nil d w, fun _ hy => by cases hy⟩
  · skip
    have each : ∀ i : Nat, i < len → ∃ y : α, G y ∧ ∃ c, w.cells? 0 (a.add (i * d.sz)) d.sz = some c ∧ d.K w y c := by
      intro i hi
      have key := hel i hi
      rw [List.getElem?_eq_getElem (by omega)] at key
      obtain ⟨c, h1, h2⟩ := Option.bind_eq_some_iff.1 key
      obtain ⟨y, hk, hg⟩ := hd n hfn c _ h2
      rw [hsz] at h1
      exact ⟨y, hg, c, h1, hk⟩
    obtain ⟨l, hll, hlp⟩ : ∃ l : List α, l.length = len ∧ ∀ i (hi : i < l.length), G l[i] ∧ ∃ c, w.cells? 0 (a.add (i * d.sz)) d.sz = some c ∧ d.K w l[i] c := by
      clear hl hel hlen hsp hns h
      induction len with
      | zero => exact ⟨[], rfl, fun i hi => absurd hi (Nat.not_lt_zero _)⟩
      | succ len ih =>
        obtain ⟨l, h1, h2⟩ := ih (fun i hi => each i (by omega))
        obtain ⟨y, hy⟩ := each len (by omega)
        refine ⟨l ++ [y], by simp [h1], fun i hi => ?_⟩
        by_cases hlt : i < l.length
        · rw [List.getElem_append_left hlt]; exact h2 i hlt
        · have : i = l.length := by simp at hi; omega
          subst this
          rw [List.getElem_append_right (Nat.le_refl _)]
          simp only [Nat.sub_self, List.getElem_cons_zero]
          rw [h1]; exact hy
    refine ⟨some a, cap, l, by rw [hll], by omega, hm, ⟨rfl, by unfold maxLen at hm; omega, fun _ => ⟨a, rfl, fun j p hp => ?_⟩⟩, fun y hy => ?_⟩
    · obtain ⟨hj, rfl⟩ := List.getElem?_eq_some_iff.1 hp
      obtain ⟨_, c, h1, hk⟩ := hlp j hj
      refine ⟨c, d.K_len hk, hk, fun i u hu => ?_⟩
      have := cells_at h1 i u hu
      rwa [addr_add_add] at this
    · obtain ⟨i, hi, rfl⟩ := List.mem_iff_getElem.1 hy
      exact (hlp i hi).1
theorem opens_row {α : Type} {t e : TypeId} {d : Kd α} {G : α → Prop} (hu : P.underlying t = some (.slice e)) (hsz : P.cellsOf e = d.sz) (hd : Opens enc P w e d G) (fuel : Nat) (cs : List Value) (x : DataW H × List MemPlace)
    (h : DataW.trod enc P w 0 (fun _ => true) true fuel t cs = some x) :
    ∃ (A : Option Addr) (c : Nat) (l : List α), cs = [.slice A l.length c] ∧ l.length ≤ c ∧ c ≤ maxLen ∧ d.C w A l.length l ∧ ∀ y ∈ l, G y :=
  opens_rowN hu hsz fuel cs x (fun n _ cs x h => hd n cs x h) h
end
section
variable {H : Type} {enc : TypeId × Value → H} {w : World}
theorem cells_5 : Try.prog.cellsOf 5 = kU.sz := by kernel_rfl
theorem cells_5' : Try.prog.cellsOf 5 = 1 := by kernel_rfl
theorem cells_4 : Try.prog.cellsOf 4 = 1 := by kernel_rfl
theorem cells_23 : Try.prog.cellsOf 23 = 1 := by kernel_rfl
theorem cells_24 : Try.prog.cellsOf 24 = 1 := by kernel_rfl
theorem cells_26 : Try.prog.cellsOf 26 = kT.sz := by kernel_rfl
theorem cells_26' : Try.prog.cellsOf 26 = 5 := by kernel_rfl
theorem cells_44 : Try.prog.cellsOf 44 = 3 := by kernel_rfl
theorem byte_bounds {n : Int} (h : (Lit.int .u8 n).wf = true) : 0 ≤ n ∧ n < 256 := by
  simp [Lit.wf, IntKind.min, IntKind.max, IntKind.signed, IntKind.bits] at h
  omega
theorem opens_byte : Opens enc Try.prog w 5 kU (fun n => 0 ≤ n ∧ n < 256) := opens_mono (opens_int Try.underlying5) (fun _ h => byte_bounds h)
/-- A tag, and whether bytes are in a list. -/
theorem tag_cells {fuel : Nat} {cs : List Value} {x : DataW H × List MemPlace} (h : DataW.trod enc Try.prog w 0 (fun _ => true) true fuel 44 cs = some x) :
    ∃ (a b : Int) (c : Bool), cs = [.int .u8 a, .int .u8 b, .bool c] := by
  obtain ⟨xs, n, _, _, hl, hlen, hf⟩ := DataW.trod_struct Try.underlying44 h
  rw [cells_44] at hl
  match xs, hlen, cs, hl with
  | [y0, y1, y2], _, [c0, c1, c2], _ =>
    have f0 := hf 0 (Field.mk "Class" 5 0 false "" "" 0) rfl
    have f1 := hf 1 (Field.mk "Num" 5 1 false "" "" 1) rfl
    have f2 := hf 2 (Field.mk "Cons" 4 2 false "" "" 2) rfl
    simp only [cells_5', cells_4] at f0 f1 f2
    obtain ⟨n0, e0, _, _⟩ := DataW.trod_int Try.underlying5 f0
    obtain ⟨n1, e1, _, _⟩ := DataW.trod_int Try.underlying5 f1
    obtain ⟨b2, e2, _⟩ := DataW.trod_bool Try.underlying4 f2
    replace e0 : c0 = .int .u8 n0 := by simpa using e0
    replace e1 : c1 = .int .u8 n1 := by simpa using e1
    replace e2 : c2 = .bool b2 := by simpa using e2
    subst e0; subst e1; subst e2
    exact ⟨n0, n1, b2, rfl⟩
theorem opens_tag : Opens enc Try.prog w 44 (Kd.pair kU (Kd.pair kU Kd.bool)) (fun _ => True) := by
  intro fuel cs x h
  obtain ⟨a, b, c, rfl⟩ := tag_cells h
  exact ⟨(a, b, c), ⟨[_], _, rfl, rfl, [_], _, rfl, rfl, rfl⟩, trivial⟩
theorem opens_ber : Opens enc Try.prog w 26 kT byteT := by
  intro fuel
  induction fuel using Nat.strongRecOn with
  | _ fuel ih =>
    intro cs x h
    obtain ⟨xs, n, hfn, _, hl, hlen, hf⟩ := DataW.trod_struct Try.underlying26 h
    rw [cells_26'] at hl
    match xs, hlen, cs, hl with
    | [y0, y1, y2, y3, y4], _, [c0, c1, c2, c3, c4], _ =>
      have f0 := hf 0 (Field.mk "Class" 5 0 false "" "" 0) rfl
      have f1 := hf 1 (Field.mk "Num" 5 1 false "" "" 1) rfl
      have f2 := hf 2 (Field.mk "Cons" 4 2 false "" "" 2) rfl
      have f3 := hf 3 (Field.mk "Bytes" 23 3 false "" "" 8) rfl
      have f4 := hf 4 (Field.mk "Items" 24 4 false "" "" 32) rfl
      simp only [cells_5', cells_4, cells_23, cells_24] at f0 f1 f2 f3 f4
      obtain ⟨n0, e0, _, w0⟩ := DataW.trod_int Try.underlying5 f0
      obtain ⟨n1, e1, _, w1⟩ := DataW.trod_int Try.underlying5 f1
      obtain ⟨b2, e2, _⟩ := DataW.trod_bool Try.underlying4 f2
      obtain ⟨A3, c3', l3, e3, h3, _, hC3, hG3⟩ := opens_row (d := kU) Try.underlying23 cells_5 opens_byte n _ _ f3
      obtain ⟨A4, c4', l4, e4, h4, _, hC4, hG4⟩ := opens_rowN (d := kT) (G := byteT) Try.underlying24 cells_26 n _ _ (fun k hk cs x hx => ih k (by omega) cs x hx) f4
      replace e0 : c0 = .int .u8 n0 := by simpa using e0
      replace e1 : c1 = .int .u8 n1 := by simpa using e1
      replace e2 : c2 = .bool b2 := by simpa using e2
      replace e3 : c3 = .slice A3 l3.length c3' := by simpa using e3
      replace e4 : c4 = .slice A4 l4.length c4' := by simpa using e4
      subst e0; subst e1; subst e2; subst e3; subst e4
      exact ⟨⟨n0, n1, b2, l3, l4⟩, PBerEncodes.k26_mk w ⟨n0, n1, b2, l3, l4⟩ h3 hC3 h4 hC4, byte_bounds w0, byte_bounds w1, hG3, (byteL_iff l4).2 hG4⟩
end
/-- A value that came in, by value. -/
theorem ber_of {W : World} {v : Value} {y : T} (hK : kT.K W y v.cells.toList) (hv : Value.okWide Try.prog W .any 0 26 v) : ∃ A c B d, v = bv y A c B d ∧ Bv W y A c B d := by
  obtain ⟨cs, rfl⟩ : ∃ cs, v = .agg cs := by
    simp only [Value.okWide, Try.underlying26] at hv
    obtain ⟨cs, h1, _⟩ := hv
    exact ⟨cs, h1⟩
  obtain ⟨A, c, B, d, e, hb⟩ := Bv.cells hK
  refine ⟨A, c, B, d, ?_, hb⟩
  have : cs = bvs y A c B d := by
    have e' : cs.toList = (bvs y A c B d).toList := e
    exact Array.toList_inj.1 e'
  rw [this]
  rfl
theorem tag_of {W : World} {v : Value} {y : Int × Int × Bool} (hK : (Kd.pair kU (Kd.pair kU Kd.bool)).K W y v.cells.toList) (hv : Value.okWide Try.prog W .any 0 44 v) : v = .agg #[.int .u8 y.1, .int .u8 y.2.1, .bool y.2.2] := by
  obtain ⟨cs, rfl⟩ : ∃ cs, v = .agg cs := by
    simp only [Value.okWide, Try.underlying44] at hv
    obtain ⟨cs, h1, _⟩ := hv
    exact ⟨cs, h1⟩
  obtain ⟨_, _, e1, h1, _, _, e2, h2, h3⟩ := hK
  replace h1 : _ = [Value.int .u8 y.1] := h1
  replace h2 : _ = [Value.int .u8 y.2.1] := h2
  replace h3 : _ = [Value.bool y.2.2] := h3
  subst h1; subst h2; subst h3
  rw [e2] at e1
  have e' : cs.toList = [.int .u8 y.1, .int .u8 y.2.1, .bool y.2.2] := e1
  rw [show cs = #[.int .u8 y.1, .int .u8 y.2.1, .bool y.2.2] from Array.toList_inj.1 e']
end Go.Proofs.Ytlmelbnmfhpacaa
