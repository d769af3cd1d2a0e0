/- Whatever filters, entries and texts came in: what the heap holds of them. -/
import Derived.Test.YtgnmkblaockghaaJh
import Derived.Deep.Slices
import Derived.OpenShut
import Derived.ChangeOld
set_option linter.unusedVariables false
set_option linter.unusedSimpArgs false
namespace Go.Proofs.Ytgnmkblaockghaa
open Go.RowKit Go.Deep Go.ChangeShapes Go.WideShapes Go.Proofs.YtgnmkblaockghaaW.PrintWords Go.Proofs.YtgnmkblaockghaaW.PrintMore

section
variable {H : Type} (enc : TypeId × Value → H) (P : Program) (w : World)

/-- Whatever reads as data of type t is of kind d, and good. -/
def Opens {α : Type} (t : TypeId) (d : Kd α) (G : α → Prop) : Prop :=
  ∀ (fuel : Nat) (cs : List Value) (x : DataW H × List MemPlace), DataW.trod enc P w 0 (fun _ => true) true fuel t cs = some x → ∃ y, d.K w y cs ∧ G y
variable {enc P w}

theorem opens_int {t : TypeId} {k : IntKind} (hu : P.underlying t = some (.int k)) : Opens enc P w t (Kd.int k) (fun n => (Lit.int k n).wf = true) := by
  intro fuel cs x h
  obtain ⟨n, rfl, _, hw⟩ := DataW.trod_int hu h
  exact ⟨n, rfl, hw⟩
theorem opens_bool {t : TypeId} (hu : P.underlying t = some .bool) : Opens enc P w t Kd.bool (fun _ => True) := by
  intro fuel cs x h
  obtain ⟨b, rfl, _⟩ := DataW.trod_bool hu h
  exact ⟨b, rfl, trivial⟩
theorem opens_string {t : TypeId} (hu : P.underlying t = some .string) : Opens enc P w t Kd.string (fun s => s.size ≤ maxLen) := by
  intro fuel cs x h
  obtain ⟨s, rfl, _, hs⟩ := DataW.trod_string hu h
  exact ⟨s, rfl, hs⟩
theorem opens_mono {α : Type} {t : TypeId} {d : Kd α} {G G' : α → Prop} (h : Opens enc P w t d G) (hG : ∀ y, G y → G' y) : Opens enc P w t d G' := fun fuel cs x hx => let ⟨y, hk, hg⟩ := h fuel cs x hx; ⟨y, hk, hG y hg⟩

theorem addr_add_add (a : Addr) (i j : Nat) : (a.add i).add j = a.add (i + j) := by
  unfold Addr.add
  by_cases hj : j = 0 <;> by_cases hi : i = 0 <;> simp_all [Nat.add_assoc]
theorem cells_at {base n : Nat} {a : Addr} {cs : List Value} (h : w.cells? base a n = some cs) (i : Nat) (u : Value) (hu : cs[i]? = some u) : w.cell? (a.add i) = some u := by
  obtain ⟨_, hl, hc⟩ := World.cells?_some h
  have hi := (List.getElem?_eq_some_iff.1 hu).1
  rw [hc i (by omega), hu]

theorem opens_rowN {α : Type} {t e : TypeId} {d : Kd α} {G : α → Prop} (hu : P.underlying t = some (.slice e)) (hsz : P.cellsOf e = d.sz) (fuel : Nat) (cs : List Value) (x : DataW H × List MemPlace) (hd : ∀ n, fuel = n + 1 → ∀ cs x, DataW.trod enc P w 0 (fun _ => true) true n e cs = some x → ∃ y, d.K w y cs ∧ G y)
    (h : DataW.trod enc P w 0 (fun _ => true) true fuel t cs = some x) :
    ∃ (A : Option Addr) (c : Nat) (l : List α), cs = [.slice A l.length c] ∧ l.length ≤ c ∧ c ≤ maxLen ∧ d.C w A l.length l ∧ ∀ y ∈ l, G y := by
  classical
  rcases DataW.trod_slice hu h with ⟨rfl, _⟩ | ⟨a, len, cap, elems, rest, n, hfn, rfl, _, hb, hl, hm, hlen, hel, hsp, hns⟩
  · exact ⟨none, 0, [], rfl, Nat.le_refl _, Nat.zero_le _, Kd.C_nil d w, fun _ hy => by cases hy⟩
  · skip
    have each : ∀ i : Nat, i < len → ∃ y : α, G y ∧ ∃ c, w.cells? 0 (a.add (i * d.sz)) d.sz = some c ∧ d.K w y c := by
      intro i hi
      have key := hel i hi
      rw [List.getElem?_eq_getElem (by omega)] at key
      obtain ⟨c, h1, h2⟩ := Option.bind_eq_some_iff.1 key
      obtain ⟨y, hk, hg⟩ := hd n hfn c _ h2
      rw [hsz] at h1
      exact ⟨y, hg, c, h1, hk⟩
    obtain ⟨l, hll, hlp⟩ : ∃ l : List α, l.length = len ∧ ∀ i (hi : i < l.length), G l[i] ∧ ∃ c, w.cells? 0 (a.add (i * d.sz)) d.sz = some c ∧ d.K w l[i] c := by
      clear hl hel hlen hsp hns h
      induction len with
      | zero => exact ⟨[], rfl, fun i hi => absurd hi (Nat.not_lt_zero _)⟩
      | succ len ih =>
        obtain ⟨l, h1, h2⟩ := ih (fun i hi => each i (by omega))
        obtain ⟨y, hy⟩ := each len (by omega)
        refine ⟨l ++ [y], by simp [h1], fun i hi => ?_⟩
        by_cases hlt : i < l.length
        · rw [List.getElem_append_left hlt]; exact h2 i hlt
        · have : i = l.length := by simp at hi; omega
          subst this
          rw [List.getElem_append_right (Nat.le_refl _)]
          simp only [Nat.sub_self, List.getElem_cons_zero]
          rw [h1]; exact hy
    refine ⟨some a, cap, l, by rw [hll], by omega, hm, ⟨rfl, by unfold maxLen at hm; omega, fun _ => ⟨a, rfl, fun j p hp => ?_⟩⟩, fun y hy => ?_⟩
    · obtain ⟨hj, rfl⟩ := List.getElem?_eq_some_iff.1 hp
      obtain ⟨_, c, h1, hk⟩ := hlp j hj
      refine ⟨c, d.K_len hk, hk, fun i u hu => ?_⟩
      have := cells_at h1 i u hu
      rwa [addr_add_add] at this
    · obtain ⟨i, hi, rfl⟩ := List.mem_iff_getElem.1 hy
      exact (hlp i hi).1
theorem opens_row {α : Type} {t e : TypeId} {d : Kd α} {G : α → Prop} (hu : P.underlying t = some (.slice e)) (hsz : P.cellsOf e = d.sz) (hd : Opens enc P w e d G) (fuel : Nat) (cs : List Value) (x : DataW H × List MemPlace)
    (h : DataW.trod enc P w 0 (fun _ => true) true fuel t cs = some x) :
    ∃ (A : Option Addr) (c : Nat) (l : List α), cs = [.slice A l.length c] ∧ l.length ≤ c ∧ c ≤ maxLen ∧ d.C w A l.length l ∧ ∀ y ∈ l, G y :=
  opens_rowN hu hsz fuel cs x (fun n _ cs x h => hd n cs x h) h
end
section
variable {H : Type} {enc : TypeId × Value → H} {w : World}
theorem cells_9 : Try.prog.cellsOf 9 = 1 := by kernel_rfl
theorem cells_22 : Try.prog.cellsOf 22 = 1 := by kernel_rfl
theorem cells_23 : Try.prog.cellsOf 23 = 1 := by kernel_rfl
theorem cells_25 : Try.prog.cellsOf 25 = kF.sz := by kernel_rfl
theorem cells_25' : Try.prog.cellsOf 25 = 4 := by kernel_rfl
theorem cells_45 : Try.prog.cellsOf 45 = 1 := by kernel_rfl
theorem cells_9' : Try.prog.cellsOf 9 = (Kd.string).sz := by kernel_rfl
theorem cells_47 : Try.prog.cellsOf 47 = kA.sz := by kernel_rfl
theorem cells_47' : Try.prog.cellsOf 47 = 2 := by kernel_rfl
mutual
/-- Texts and kinds as whatever came in has them. -/
def byteF : Ft → Prop
  | ⟨k, l, n, v⟩ => (Lit.int .i64 k).wf = true ∧ n.size ≤ maxLen ∧ v.size ≤ maxLen ∧ byteFs l
def byteFs : List Ft → Prop
  | [] => True
  | x :: xs => byteF x ∧ byteFs xs
end
theorem byteFs_iff (l : List Ft) : byteFs l ↔ ∀ y ∈ l, byteF y := by
  induction l with
  | nil => simp [byteFs]
  | cons y ys ih => rw [byteFs, ih]; simp
set_option maxRecDepth 8000 in
theorem opens_filt : Opens enc Try.prog w 25 kF byteF := by
  intro fuel
  induction fuel using Nat.strongRecOn with
  | _ fuel ih =>
    intro cs x h
    obtain ⟨xs, n, hfn, _, hl, hlen, hf⟩ := DataW.trod_struct Try.underlying25 h
    rw [cells_25'] at hl
    match xs, hlen, cs, hl with
    | [y0, y1, y2, y3], _, [c0, c1, c2, c3], _ =>
      have f0 := hf 0 (Field.mk "Kind" 22 0 false "" "" 0) rfl
      have f1 := hf 1 (Field.mk "Of" 23 1 false "" "" 8) rfl
      have f2 := hf 2 (Field.mk "Name" 9 2 false "" "" 32) rfl
      have f3 := hf 3 (Field.mk "Value" 9 3 false "" "" 48) rfl
      simp only [cells_9, cells_22, cells_23] at f0 f1 f2 f3
      obtain ⟨n0, e0, _, w0⟩ := DataW.trod_int Try.underlying22 f0
      obtain ⟨A1, c1', l1, e1, h1, _, hC1, hG1⟩ := opens_rowN (d := kF) (G := byteF) Try.underlying23 cells_25 n _ _ (fun k hk cs x hx => ih k (by omega) cs x hx) f1
      obtain ⟨s2, e2, _, g2⟩ := DataW.trod_string Try.underlying9 f2
      obtain ⟨s3, e3, _, g3⟩ := DataW.trod_string Try.underlying9 f3
      replace e0 : c0 = .int .i64 n0 := by simpa using e0
      replace e1 : c1 = .slice A1 l1.length c1' := by simpa using e1
      replace e2 : c2 = .string s2 := by simpa using e2
      replace e3 : c3 = .string s3 := by simpa using e3
      subst e0; subst e1; subst e2; subst e3
      exact ⟨⟨n0, l1, s2, s3⟩, Fv.K (x := ⟨n0, l1, s2, s3⟩) ⟨h1, hC1⟩, w0, g2, g3, (byteFs_iff l1).2 hG1⟩
end
set_option maxRecDepth 8000 in
/-- A filter that came in, by value. -/
theorem filt_of {W : World} {v : Value} {y : Ft} (hK : kF.K W y v.cells.toList) (hv : Value.okWide Try.prog W .any 0 25 v) : ∃ A c, v = fv y A c ∧ Fv W y A c := by
  obtain ⟨cs, rfl⟩ : ∃ cs, v = .agg cs := by
    simp only [Value.okWide, Try.underlying25] at hv
    obtain ⟨cs, h1, _⟩ := hv
    exact ⟨cs, h1⟩
  obtain ⟨A, c, e, hb⟩ := Fv.cells hK
  refine ⟨A, c, ?_, hb⟩
  have : cs = #[.int .i64 y.f0, .slice A y.f1.length c, .string y.f2, .string y.f3] := by
    have e' : cs.toList = [.int .i64 y.f0, .slice A y.f1.length c, .string y.f2, .string y.f3] := e
    exact Array.toList_inj.1 e'
  rw [this]
  rfl
end Go.Proofs.Ytgnmkblaockghaa
