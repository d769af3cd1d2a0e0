/- dn.Key. -/
import Derived.Test.YthbjgcmbbdlfkaaFe
set_option linter.unusedVariables false
set_option linter.unusedSimpArgs false
namespace Go.Proofs.Ythbjgcmbbdlfkaa
open Go.RowKit Go.Shelf Go.Proofs.YthbjgcmbbdlfkaaW.PrintWords Go.Proofs.YthbjgcmbbdlfkaaW.PrintMore Go.Proofs.YthbjgcmbbdlfkaaW.PrintLast

/-- A part, its Value in small letters. -/
def keyR (r : Rdn) : Rdn := ⟨r.t, small r.v⟩
/-- Parts in a block, whose Values may be turned. -/
def Parts (W : World) (B M : Nat) (t v : Nat → ByteArray) : Prop := ∀ j, j < M → W.cell? ⟨B, j * 2, none⟩ = some (.string (t j)) ∧ W.cell? ⟨B, j * 2 + 1, none⟩ = some (.string (v j)) ∧ W.frozen? ⟨B, j * 2 + 1, none⟩ = false
theorem Parts.below {W W' : World} {B M : Nat} {t v : Nat → ByteArray} (h : Parts W B M t v) (hb : Below W.heap.size W W') (hB : B < W.heap.size) : Parts W' B M t v := fun j hj => by
  obtain ⟨h1, h2, h3⟩ := h j hj
  exact ⟨pw_cell_below hb h1, pw_cell_below hb h2, (hb.frozen (p := ⟨B, j * 2 + 1, none⟩) hB).trans h3⟩
theorem Parts.set {W : World} {B M : Nat} {t v : Nat → ByteArray} (h : Parts W B M t v) (k : Nat) (hk : k < M) (x : ByteArray) : Parts (W.setCell ⟨B, k * 2 + 1, none⟩ (.string x)) B M t (fun j => if j = k then x else v j) := by
  intro j hj
  obtain ⟨h1, h2, h3⟩ := h j hj
  refine ⟨?_, ?_, by rw [World.frozen?_setCell]; exact h3⟩
  · rw [World.cell?_setCell_other _ _ _ _ (fun e => by injection e with _ e _; omega)]
    exact h1
  · by_cases c : j = k
    · subst c
      show _ = some (Value.string (if j = j then x else v j))
      rw [if_pos rfl]
      exact World.cell?_setCell_same' W _ _ (by rw [h2]; rfl)
    · show _ = some (Value.string (if j = k then x else v j))
      rw [if_neg c, World.cell?_setCell_other _ _ _ _ (fun e => by injection e with _ e _; omega)]
      exact h2
theorem Parts.reads {W : World} {B M : Nat} {t v : Nat → ByteArray} (h : Parts W B M t v) {l : List Rdn} (hl : l.length = M) (hM : M ≤ 9223372036854775807) (he : ∀ j (hj : j < l.length), l[j] = ⟨t j, v j⟩) : kr.C W (some ⟨B, 0, none⟩) M l := by
  refine ⟨hl, hM, fun _ => ⟨_, rfl, fun j p hj => ?_⟩⟩
  obtain ⟨hj', rfl⟩ := List.getElem?_eq_some_iff.1 hj
  obtain ⟨h1, h2, _⟩ := h j (by omega)
  refine ⟨[.string (t j), .string (v j)], rfl, by rw [he j hj']; exact ⟨[_], [_], rfl, rfl, rfl⟩, fun i u hu => ?_⟩
  have hi : i = 0 ∨ i = 1 := by
    have := (List.getElem?_eq_some_iff.1 hu).1
    simp at this; omega
  have ha : ∀ n, (⟨B, 0, none⟩ : Addr).add n = ⟨B, n, none⟩ := fun n => add_plain _ _
  rw [ha]
  rcases hi with rfl | rfl
  · obtain rfl := Option.some.inj hu
    exact h1
  · obtain rfl := Option.some.inj hu
    exact h2
theorem parts_of {w : World} {A : Option Addr} {n c : Nat} {l : List Rdn} {ok : Nat → Prop} (h : kr.R 40 w 0 ok (.slice A n c) l) (hl : l.length = n) (hn : 0 < n) : ∃ B, A = some ⟨B, 0, none⟩ ∧ ok B ∧ B < w.heap.size ∧ Parts w B n (fun j => (l.getD j zR).t) (fun j => (l.getD j zR).v) := by
  subst hl
  obtain ⟨hk, inner, ho, hr⟩ := h
  have ho' := ho
  rcases ho.2 with ⟨e, _⟩ | ⟨g, cap, cur, e, _, hg, _⟩
  · injection e with _ e _; omega
  · injection e with e1 e2 e3
    subst e1; subst e3
    refine ⟨g, rfl, hk g rfl, (Array.getElem?_eq_some_iff.1 hg).1, fun j hj => ?_⟩
    have hrj := hr.2 j l[j] (List.getElem?_eq_getElem hj)
    have hop := kr_open (w := w) (x := l[j]) (cs := (inner.drop (j * 2)).take 2) (by
      obtain ⟨a, b, e, ha, hb⟩ := hrj
      exact ⟨a, b, e, ha, hb⟩)
    have hg0 : inner[j * 2]? = some (.string l[j].t) := by
      have := congrArg (fun z => z[0]?) hop
      simpa using this
    have hg1 : inner[j * 2 + 1]? = some (.string l[j].v) := by
      have := congrArg (fun z => z[1]?) hop
      simpa using this
    have hs : kr.sz = 2 := rfl
    have e : l.getD j zR = l[j] := by simp [List.getD_eq_getElem?_getD, hj]
    dsimp only
    rw [e]
    exact ⟨(ho'.cellAt (j * 2) (by rw [hs]; omega)).trans hg0, (ho'.cellAt (j * 2 + 1) (by rw [hs]; omega)).trans hg1, ho'.frozenAt _⟩
theorem keyR_ok (r : Rdn) : partOk (keyR r) = partOk r := by
  unfold partOk keyR
  dsimp only
  rw [small_size]
theorem key_ok (l : List Rdn) : dnOk (l.map keyR) = dnOk l := by
  unfold dnOk
  rw [List.length_map, List.all_map]
  congr 1
  apply List.all_congr rfl
  intro x
  exact keyR_ok x
theorem key_mild {l : List Rdn} (h : Mild l) : Mild (l.map keyR) := ⟨by rw [List.length_map]; exact h.1, fun x hx => by
  obtain ⟨y, hy, rfl⟩ := List.mem_map.1 hx
  have := h.2 y hy
  exact ⟨this.1, by show (small y.v).size ≤ _; rw [small_size]; exact this.2⟩⟩
/-- What Key tells. -/
def keyS (l : List Rdn) : ByteArray := if dnOk l = true then textF (l.map keyR) else ⟨#[]⟩
set_option maxHeartbeats 2000000 in
theorem key_calls (A : Option Addr) (c : Nat) (l : List Rdn) (w : World) (hl : Mild l) (hC : kr.C w A l.length l) :
    Calls Try.prog 26 #[.slice A l.length c] w fun e w' => e = .returned (.tuple #[.string (keyS l), .int .i64 (dnErr l)]) ∧ Below w.heap.size w w' := by
  have hcl := Aside0.mk (clone_calls A c l w hC hl.1)
  have hln := hl.1
  have hsz := Aside0.mk hl.2
  have htx := Aside0.mk (fun A' c' W (h : kr.C W A' l.length (l.map keyR)) => text_calls A' c' (l.map keyR) W (key_mild hl) (by rw [List.length_map]; exact h))
  unfold Texted at htx
  rw [key_ok, List.length_map] at htx
  rw [show (if dnOk l = true then #[Value.string (textF (l.map keyR)), .int .i64 0] else #[.string (⟨#[]⟩ : ByteArray), .int .i64 2]) = #[Value.string (keyS l), .int .i64 (dnErr l)] from by unfold keyS dnErr; cases dnOk l <;> rfl] at htx
  generalize keyS l = S at *
  generalize dnErr l = E at *
  obtain ⟨M, hM⟩ : ∃ M, l.length = M := ⟨_, rfl⟩
  rw [hM] at hcl htx hln ⊢
  replace hM := Aside0.mk hM
  clear hC hl
  go_enter Try.func26, Try.ntmps26
  go_wp2_with fail
  refine hcl.out.mono ?_
  rintro e w1 ⟨A', c', rfl, hR, hb⟩
  by_cases h0 : M = 0
  · subst h0
    have hl0 : l = [] := List.length_eq_zero_iff.1 hM.out
    have hC0 : kr.C w1 A' 0 (l.map keyR) := by rw [hl0]; exact ⟨rfl, by decide, fun h => absurd h (Nat.lt_irrefl 0)⟩
    have ht := Aside0.mk (htx.out A' c' w1 hC0)
    replace hb := Aside0.mk hb
    clear hR hC0 htx hcl hl0
    go_wp2_with fail
    go_loopw [9] (fun s9 wr => s9 = .int .i64 0 ∧ wr = w1) (fun _ _ => 0)
    case atStart => exact ⟨rfl, rfl⟩
    case round =>
      obtain ⟨rfl, rfl⟩ := hrel
      go_wp2_with fail
      refine ht.out.mono ?_
      rintro e w2 ⟨rfl, hb2⟩
      replace hb2 := Aside0.mk (below_then hb.out hb.out.size hb2)
      go_wp2_with fail
      go_ret2
      exact ⟨rfl, hb2.out⟩
  · obtain ⟨B, rfl, hBw, hBl, hP⟩ := parts_of hR hM.out (by omega)
    replace hb := Aside0.mk hb
    replace hP := Aside0.mk hP
    have hBl := Aside0.mk hBl
    have hBw := Aside0.mk hBw
    obtain ⟨t, ht⟩ : ∃ t : Nat → ByteArray, (fun j => (l.getD j zR).t) = t := ⟨_, rfl⟩
    obtain ⟨v, hv⟩ : ∃ v : Nat → ByteArray, (fun j => (l.getD j zR).v) = v := ⟨_, rfl⟩
    have hlt := Aside0.mk (fun j (hj : j < l.length) => show l[j] = ⟨t j, v j⟩ from by rw [← ht, ← hv]; simp [List.getD_eq_getElem?_getD, hj])
    rw [ht, hv] at hP
    clear ht hv hR hcl h0
    go_wp2_with fail
    go_loopw [9] (fun s9 wr => ∃ k : Nat, k ≤ M ∧ s9 = .int .i64 k ∧ Aside0 (Below w.heap.size w wr) ∧ Aside0 (Parts wr B M t (fun j => if j < k then small (v j) else v j)) ∧ Aside0 (B < wr.heap.size)) (fun s9 _ => M - (intOf s9).toNat)
    case atStart => exact ⟨0, Nat.zero_le _, rfl, hb, ⟨by simpa using hP.out⟩, hBl⟩
    case round =>
      clear hb hP hBl
      obtain ⟨k, hk, rfl, hb, hP, hBl⟩ := hrel
      by_cases hkM : k < M
      · obtain ⟨_, q1, _⟩ := hP.out k hkM
        replace q1 : wr.cell? ⟨B, k * 2 + 1, none⟩ = some (.string (if k < k then small (v k) else v k)) := q1
        rw [if_neg (Nat.lt_irrefl k)] at q1
        have hkl : k < l.length := by rw [hM.out]; exact hkM
        have hvs : (v k).size ≤ 12000 := by have := (hsz.out l[k] (List.getElem_mem hkl)).2; rw [hlt.out k hkl] at this; exact this
        have hsm := Aside0.mk (small_calls (v k) wr hvs)
        have i1 : (0 : Int) ≤ (k : Int) := by omega
        have i2 : (k : Int) < (M : Int) := by omega
        replace hkl := Aside0.mk hkl
        go_wp2_with fail
        refine hsm.out.mono ?_
        rintro e w3 ⟨rfl, hb3⟩
        have hP3 := hP.out.below hb3 hBl.out
        obtain ⟨_, r1, r2⟩ := hP3 k hkM
        replace r1 : w3.cell? ⟨B, k * 2 + 1, none⟩ = some (.string (if k < k then small (v k) else v k)) := r1
        rw [if_neg (Nat.lt_irrefl k)] at r1
        have hBl3 := Nat.lt_of_lt_of_le hBl.out hb3.size
        have hP4 := Aside0.mk (show Parts (w3.setCell ⟨B, k * 2 + 1, none⟩ (.string (small (v k)))) B M t (fun j => if j < k + 1 then small (v j) else v j) from by
          have h9 := hP3.set k hkM (small (v k))
          have e : (fun j => if j = k then small (v k) else if j < k then small (v j) else v j) = (fun j => if j < k + 1 then small (v j) else v j) := by
            funext j
            by_cases h1 : j = k
            · subst h1; rw [if_pos rfl, if_pos (by omega)]
            · rw [if_neg h1]
              by_cases h2 : j < k
              · rw [if_pos h2, if_pos (by omega)]
              · rw [if_neg h2, if_neg (by omega)]
          rw [e] at h9; exact h9)
        have hb4 := Aside0.mk ((below_then hb.out hb.out.size hb3).setCell (p := ⟨B, k * 2 + 1, none⟩) hBw.out (.string (small (v k))))
        have hBl4 := Aside0.mk (show B < (w3.setCell ⟨B, k * 2 + 1, none⟩ (.string (small (v k)))).heap.size from by simpa using hBl3)
        clear hb hP hBl hb3 hP3 hBl3 q1 hsm
        obtain ⟨sv, hsv⟩ : ∃ sv, small (v k) = sv := ⟨_, rfl⟩
        rw [hsv] at hP4 hb4 hBl4 ⊢
        clear hsv
        go_wp2_with fail
        go_roundw
        case rel => exact ⟨k + 1, by omega, by go_num, hb4, hP4, hBl4⟩
        case measure => simp [intOf]; omega
      · obtain rfl : k = M := by omega
        have hC9 : kr.C wr (some ⟨B, 0, none⟩) k (l.map keyR) := by
          refine hP.out.reads (by rw [List.length_map]; exact hM.out) (by omega) (fun j hj => ?_)
          rw [List.length_map] at hj
          rw [List.getElem_map, hlt.out j hj]
          show keyR ⟨t j, v j⟩ = ⟨t j, if j < k then small (v j) else v j⟩
          rw [if_pos (by have := hM.out; omega)]
          rfl
        have ht := Aside0.mk (htx.out _ c' wr hC9)
        clear hC9 hP htx
        go_wp2_with fail
        refine ht.out.mono ?_
        rintro e w2 ⟨rfl, hb2⟩
        replace hb2 := Aside0.mk (below_then hb.out hb.out.size hb2)
        go_wp2_with fail
        go_ret2
        exact ⟨rfl, hb2.out⟩
end Go.Proofs.Ythbjgcmbbdlfkaa
