/- dn.Text. -/
import Derived.Test.YthbjgcmbbdlfkaaCn
set_option linter.unusedVariables false
set_option linter.unusedSimpArgs false
namespace Go.Proofs.Ythbjgcmbbdlfkaa
open Go.RowKit Go.Shelf Go.Proofs.YthbjgcmbbdlfkaaW.PrintWords Go.Proofs.YthbjgcmbbdlfkaaW.PrintMore Go.Proofs.YthbjgcmbbdlfkaaW.PrintLast

def commaS : ByteArray := ⟨#[44]⟩
def equalsS : ByteArray := ⟨#[61]⟩
/-- A part as a text. -/
def rdnText (r : Rdn) : ByteArray := (r.t ++ equalsS) ++ valText r.v
/-- The first k parts as a text. -/
def textTo (l : List Rdn) : Nat → ByteArray
  | 0 => ⟨#[]⟩
  | k + 1 => (if 0 < k then textTo l k ++ commaS else textTo l k) ++ rdnText (l.getD k zR)
/-- A name as a text. -/
def textF (l : List Rdn) : ByteArray := textTo l l.length
theorem valText_size (s : ByteArray) : (valText s).size ≤ 3 * s.size := by
  unfold valText
  rw [strOfNums_size]
  exact pre_length _ _ _
theorem rdnText_size {r : Rdn} (h : r.t.size ≤ 12000 ∧ r.v.size ≤ 12000) : (rdnText r).size ≤ 48001 := by
  have := valText_size r.v
  unfold rdnText
  rw [ByteArray.size_append, ByteArray.size_append, show equalsS.size = 1 from rfl]
  omega
theorem textTo_size {l : List Rdn} (h : ∀ x ∈ l, x.t.size ≤ 12000 ∧ x.v.size ≤ 12000) : ∀ k, k ≤ l.length → (textTo l k).size ≤ 60000 * k := by
  intro k
  induction k with
  | zero => intro _; exact Nat.le_refl _
  | succ k ih =>
    intro hk
    have h1 := ih (by omega)
    have h2 := rdnText_size (h l[k] (List.getElem_mem hk))
    rw [show l[k] = l.getD k zR by simp [List.getD_eq_getElem?_getD, show k < l.length from hk]] at h2
    unfold textTo
    rw [ByteArray.size_append]
    split
    · rw [ByteArray.size_append, show commaS.size = 1 from rfl]; omega
    · omega
def Texted (l : List Rdn) (w : World) (e : Ending) (w' : World) : Prop :=
  e = .returned (.tuple (if dnOk l = true then #[.string (textF l), .int .i64 0] else #[.string (⟨#[]⟩ : ByteArray), .int .i64 2])) ∧ Below w.heap.size w w'
set_option maxHeartbeats 4000000 in
theorem text_calls (A : Option Addr) (c : Nat) (l : List Rdn) (w : World) (hl : Mild l) (hC : kr.C w A l.length l) :
    Calls Try.prog 12 #[.slice A l.length c] w (Texted l w) := by
  have hck := Aside0.mk (check_calls A c l w hl hC)
  have hl0 := hl.1
  have hs := Aside0.mk hl.2
  replace hl := Aside0.mk hl
  replace hC := Aside0.mk hC
  obtain ⟨M, hM⟩ : ∃ M, l.length = M := ⟨_, rfl⟩
  rw [hM] at hck hl0 ⊢
  replace hM := Aside0.mk hM
  cases hok : dnOk l with
  | false =>
    have hpost := Aside0.mk (show ∀ w', Below w.heap.size w w' → Texted l w (.returned (.tuple #[.string (⟨#[]⟩ : ByteArray), .int .i64 2])) w' from fun w' hb => ⟨by rw [hok]; rfl, hb⟩)
    have he := Aside0.mk (show dnErr l = 2 from by unfold dnErr; rw [hok]; rfl)
    rw [he.out] at hck
    replace hok := Aside0.mk hok
    go_enter Try.func12, Try.ntmps12
    go_wp2_with fail
    refine hck.out.mono ?_
    rintro e w1 ⟨rfl, hb1⟩
    replace hb1 := Aside0.mk hb1
    go_wp2_with fail
    go_ret2
    exact hpost.out _ hb1.out
  | true =>
    have hpost := Aside0.mk (show ∀ w', Below w.heap.size w w' → Texted l w (.returned (.tuple #[.string (textF l), .int .i64 0])) w' from fun w' hb => ⟨by rw [hok]; rfl, hb⟩)
    have he := Aside0.mk (show dnErr l = 0 from by unfold dnErr; rw [hok]; rfl)
    rw [he.out] at hck
    replace hok := Aside0.mk hok
    go_enter Try.func12, Try.ntmps12
    go_wp2_with fail
    refine hck.out.mono ?_
    rintro e w1 ⟨rfl, hb1⟩
    replace hb1 := Aside0.mk hb1
    go_wp2_with fail
    go_loopw [4, 12] (fun s4 s12 wr => ∃ k : Nat, k ≤ M ∧ s4 = .string (textTo l k) ∧ s12 = .int .i64 k ∧ Aside0 (Below w.heap.size w wr)) (fun _ s12 _ => M - (intOf s12).toNat)
    case atStart => exact ⟨0, Nat.zero_le _, rfl, rfl, hb1⟩
    case round =>
      clear hb1
      obtain ⟨k, hk, rfl, rfl, hb⟩ := hrel
      by_cases hlt : k < M
      · have hkl : k < l.length := by rw [hM.out]; exact hlt
        obtain ⟨ad, e, p0, p1⟩ := rdn_at hC.out k hkl
        subst e
        replace p0 := pw_cell_below hb.out p0
        replace p1 := pw_cell_below hb.out p1
        have hsz := (hs.out l[k] (List.getElem_mem hkl))
        have hnx := Aside0.mk (show textTo l (k + 1) = (if 0 < k then textTo l k ++ commaS else textTo l k) ++ rdnText l[k] from by rw [show l[k] = l.getD k zR by simp [List.getD_eq_getElem?_getD, hkl]]; rfl)
        obtain ⟨x, hx⟩ : ∃ x, l[k] = x := ⟨_, rfl⟩
        rw [hx] at p0 p1 hnx hsz
        clear hx hkl
        have hskz := textTo_size hs.out k (by have := hM.out; omega)
        obtain ⟨sk, hsk⟩ : ∃ sk, textTo l k = sk := ⟨_, rfl⟩
        rw [hsk] at hnx hskz ⊢
        have i1 : (0 : Int) ≤ (k : Int) := by omega
        have i2 : (k : Int) < (M : Int) := by omega
        have u0 : (wr.alloc (.cells #[.string x.t, .string x.v] 40)).cell? ⟨wr.heap.size, 0, none⟩ = some (.string x.t) := (cell_of_row _ _ _ _ _ _ (heap_alloc_new wr _)).trans rfl
        have u1 : (wr.alloc (.cells #[.string x.t, .string x.v] 40)).cell? ⟨wr.heap.size, 1, none⟩ = some (.string x.v) := (cell_of_row _ _ _ _ _ _ (heap_alloc_new wr _)).trans rfl
        have hbn := Aside0.mk ((hb.out.alloc hb.out.size (.cells #[.string x.t, .string x.v] 40)).drew)
        obtain ⟨hsz1, hsz2⟩ := hsz
        have hvz := valText_size x.v
        have hnx' := hnx.out
        unfold rdnText at hnx'
        clear hnx hsk
        obtain ⟨T, hT⟩ : ∃ T, x.t = T := ⟨_, rfl⟩
        obtain ⟨V, hV⟩ : ∃ V, valText x.v = V := ⟨_, rfl⟩
        rw [hT] at hnx' hsz1 p0 u0 hbn u1
        rw [hV] at hnx' hvz
        by_cases hk0 : 0 < k
        · rw [if_pos hk0] at hnx'
          have hnx := Aside0.mk hnx'
          clear hnx'
          have y1 : ¬ 9223372036854775807 < sk.size + 1 := by omega
          obtain ⟨sp, hsp⟩ : ∃ sp, sk ++ (⟨#[44]⟩ : ByteArray) = sp := ⟨_, rfl⟩
          have hspz : sp.size = sk.size + 1 := by rw [← hsp, ByteArray.size_append]; rfl
          have y2 : ¬ 9223372036854775807 < T.size + 1 := by omega
          have y3 : ¬ 9223372036854775807 < T.size + 1 + V.size := by omega
          have y4 : ¬ 9223372036854775807 < sp.size + (T.size + 1 + V.size) := by omega
          rw [show sk ++ commaS = sp from hsp] at hnx
          replace hspz := Aside0.mk hspz
          go_wp2_with fail
          refine start_ (n := 10) (S := fun w' => w'.cell? ⟨wr.heap.size, 0, none⟩ = some (.string T) ∧ w'.cell? ⟨wr.heap.size, 1, none⟩ = some (.string x.v)) (ds := []) #[false, false, false, false, false, false, false, false, false, false] (by kernel_rfl) rfl rfl ⟨u0, u1⟩ (fun hHeld => ?_)
          refine pure_ (i := 0) (N := some 21) (v := ?_) (a' := ?_) #[true, false, false, false, false, false, false, false, false, false] rfl rfl (by kernel_rfl) (fun _ _ _ h => h) (Or.inl ⟨by rfl, ?_⟩) ?_ ?_
          rotate_left
          · intro w'
            go_simp
            with_reducible rfl
          rotate_left
          · simp only [Act.put, List.setIfInBounds_toArray, List.set_cons_zero, List.set_cons_succ, i64_w, i32_w]
            rfl
          refine pure_ (i := 1) (N := some 22) (v := ?_) (a' := ?_) #[true, true, false, false, false, false, false, false, false, false] rfl rfl (by kernel_rfl) (fun _ _ _ h => h) (Or.inl ⟨by rfl, ?_⟩) ?_ ?_
          rotate_left
          · intro w'
            go_simp
            with_reducible rfl
          rotate_left
          · simp only [Act.put, List.setIfInBounds_toArray, List.set_cons_zero, List.set_cons_succ, i64_w, i32_w]
            rfl
          refine pure_ (i := 4) (N := some 25) (v := ?_) (a' := ?_) #[true, true, false, false, true, false, false, false, false, false] rfl rfl (by kernel_rfl) (fun _ _ _ h => h) (Or.inl ⟨by rfl, ?_⟩) ?_ ?_
          rotate_left
          · intro w'
            go_simp
            with_reducible rfl
          rotate_left
          · simp only [Act.put, List.setIfInBounds_toArray, List.set_cons_zero, List.set_cons_succ, i64_w, i32_w]
            rfl
          refine take_ (i := 2) (N := some 23) (v := ?_) (a' := ?_) #[true, true, true, false, true, false, false, false, false, false] rfl rfl (by kernel_rfl) (fun _ _ _ h => h) (Or.inl ⟨by rfl, ?_⟩) hHeld ?_ ?_
          rotate_left
          · rintro w' ⟨s0, s1⟩
            go_simp
            with_reducible rfl
          rotate_left
          · simp only [Act.put, List.setIfInBounds_toArray, List.set_cons_zero, List.set_cons_succ, i64_w, i32_w]
            rfl
          refine pure_ (i := 3) (N := some 24) (v := ?_) (a' := ?_) #[true, true, true, true, true, false, false, false, false, false] rfl rfl (by kernel_rfl) (fun _ _ _ h => h) (Or.inl ⟨by rfl, ?_⟩) ?_ ?_
          rotate_left
          · intro w'
            go_simp
            with_reducible rfl
          rotate_left
          · simp only [Act.put, List.setIfInBounds_toArray, List.set_cons_zero, List.set_cons_succ, i64_w, i32_w]
            rfl
          refine take_ (i := 5) (N := some 26) (v := ?_) (a' := ?_) #[true, true, true, true, true, true, false, false, false, false] rfl rfl (by kernel_rfl) (fun _ _ _ h => h) (Or.inl ⟨by rfl, ?_⟩) hHeld ?_ ?_
          rotate_left
          · rintro w' ⟨s0, s1⟩
            go_simp
            with_reducible rfl
          rotate_left
          · simp only [Act.put, List.setIfInBounds_toArray, List.set_cons_zero, List.set_cons_succ, i64_w, i32_w]
            rfl
          refine one_ (i := 6) (N := some 27) #[true, true, true, true, true, true, true, false, false, false] rfl rfl (by kernel_rfl) (by decide) (fun K hK => ?_)
          refine goes_ Try.func28 (by kernel_rfl) rfl #[.string x.v] (by rfl) rfl rfl (by simp only [List.map_toArray, List.map_cons, List.map_nil]; rfl) ?_
          with_reducible refine (value_calls x.v _ hsz2).mono ?_
          rintro e w4 ⟨rfl, hb4⟩
          refine ⟨_, rfl, ?_⟩
          replace hb4 := Aside0.mk hb4
          refine hK.out _ _ ⟨(Below.cell hb4.out (by simp)).trans u0, (Below.cell hb4.out (by simp)).trans u1⟩ (fun hHeld => ?_)
          clear hK K
          refine norm_ (a' := ?_) ?_ ?_
          rotate_left
          · show Act.put _ (some 27) _ = _
            simp only [Act.put, List.setIfInBounds_toArray, List.set_cons_zero, List.set_cons_succ, i64_w, i32_w]
            rfl
          refine pure_ (i := 7) (N := some 28) (v := ?_) (a' := ?_) #[true, true, true, true, true, true, true, true, false, false] rfl rfl (by kernel_rfl) (fun _ _ _ h => h) (Or.inl ⟨by rfl, ?_⟩) ?_ ?_
          rotate_left
          · intro w'
            go_simp
            with_reducible rfl
          rotate_left
          · simp only [Act.put, List.setIfInBounds_toArray, List.set_cons_zero, List.set_cons_succ, i64_w, i32_w]
            rfl
          refine pure_ (i := 8) (N := some 29) (v := ?_) (a' := ?_) #[true, true, true, true, true, true, true, true, true, false] rfl rfl (by kernel_rfl) (fun _ _ _ h => h) (Or.inl ⟨by rfl, ?_⟩) ?_ ?_
          rotate_left
          · intro w'
            go_simp
            with_reducible rfl
          rotate_left
          · simp only [Act.put, List.setIfInBounds_toArray, List.set_cons_zero, List.set_cons_succ, i64_w, i32_w]
            rfl
          refine pure_ (i := 9) (N := some 4) (v := ?_) (a' := ?_) #[true, true, true, true, true, true, true, true, true, true] rfl rfl (by kernel_rfl) (fun _ _ _ h => h) (Or.inl ⟨by rfl, ?_⟩) ?_ ?_
          rotate_left
          · intro w'
            go_simp
            with_reducible rfl
          rotate_left
          · simp only [Act.put, List.setIfInBounds_toArray, List.set_cons_zero, List.set_cons_succ, i64_w, i32_w]
            rfl
          refine done_ (by kernel_rfl) ?_
          replace hb4 := Aside0.mk (hbn.out.trans (hb4.out.mono (by have := hb.out.size; simp; omega)))
          go_wp2_with fail
          go_roundw
          case rel => exact ⟨k + 1, by omega, by rw [hnx.out]; rfl, by go_num, hb4⟩
          case measure => simp [intOf]; omega
        · rw [if_neg hk0] at hnx'
          have hnx := Aside0.mk hnx'
          clear hnx'
          have y2 : ¬ 9223372036854775807 < T.size + 1 := by omega
          have y3 : ¬ 9223372036854775807 < T.size + 1 + V.size := by omega
          have y4 : ¬ 9223372036854775807 < sk.size + (T.size + 1 + V.size) := by omega
          go_wp2_with fail
          refine start_ (n := 10) (S := fun w' => w'.cell? ⟨wr.heap.size, 0, none⟩ = some (.string T) ∧ w'.cell? ⟨wr.heap.size, 1, none⟩ = some (.string x.v)) (ds := []) #[false, false, false, false, false, false, false, false, false, false] (by kernel_rfl) rfl rfl ⟨u0, u1⟩ (fun hHeld => ?_)
          refine pure_ (i := 0) (N := some 21) (v := ?_) (a' := ?_) #[true, false, false, false, false, false, false, false, false, false] rfl rfl (by kernel_rfl) (fun _ _ _ h => h) (Or.inl ⟨by rfl, ?_⟩) ?_ ?_
          rotate_left
          · intro w'
            go_simp
            with_reducible rfl
          rotate_left
          · simp only [Act.put, List.setIfInBounds_toArray, List.set_cons_zero, List.set_cons_succ, i64_w, i32_w]
            rfl
          refine pure_ (i := 1) (N := some 22) (v := ?_) (a' := ?_) #[true, true, false, false, false, false, false, false, false, false] rfl rfl (by kernel_rfl) (fun _ _ _ h => h) (Or.inl ⟨by rfl, ?_⟩) ?_ ?_
          rotate_left
          · intro w'
            go_simp
            with_reducible rfl
          rotate_left
          · simp only [Act.put, List.setIfInBounds_toArray, List.set_cons_zero, List.set_cons_succ, i64_w, i32_w]
            rfl
          refine pure_ (i := 4) (N := some 25) (v := ?_) (a' := ?_) #[true, true, false, false, true, false, false, false, false, false] rfl rfl (by kernel_rfl) (fun _ _ _ h => h) (Or.inl ⟨by rfl, ?_⟩) ?_ ?_
          rotate_left
          · intro w'
            go_simp
            with_reducible rfl
          rotate_left
          · simp only [Act.put, List.setIfInBounds_toArray, List.set_cons_zero, List.set_cons_succ, i64_w, i32_w]
            rfl
          refine take_ (i := 2) (N := some 23) (v := ?_) (a' := ?_) #[true, true, true, false, true, false, false, false, false, false] rfl rfl (by kernel_rfl) (fun _ _ _ h => h) (Or.inl ⟨by rfl, ?_⟩) hHeld ?_ ?_
          rotate_left
          · rintro w' ⟨s0, s1⟩
            go_simp
            with_reducible rfl
          rotate_left
          · simp only [Act.put, List.setIfInBounds_toArray, List.set_cons_zero, List.set_cons_succ, i64_w, i32_w]
            rfl
          refine pure_ (i := 3) (N := some 24) (v := ?_) (a' := ?_) #[true, true, true, true, true, false, false, false, false, false] rfl rfl (by kernel_rfl) (fun _ _ _ h => h) (Or.inl ⟨by rfl, ?_⟩) ?_ ?_
          rotate_left
          · intro w'
            go_simp
            with_reducible rfl
          rotate_left
          · simp only [Act.put, List.setIfInBounds_toArray, List.set_cons_zero, List.set_cons_succ, i64_w, i32_w]
            rfl
          refine take_ (i := 5) (N := some 26) (v := ?_) (a' := ?_) #[true, true, true, true, true, true, false, false, false, false] rfl rfl (by kernel_rfl) (fun _ _ _ h => h) (Or.inl ⟨by rfl, ?_⟩) hHeld ?_ ?_
          rotate_left
          · rintro w' ⟨s0, s1⟩
            go_simp
            with_reducible rfl
          rotate_left
          · simp only [Act.put, List.setIfInBounds_toArray, List.set_cons_zero, List.set_cons_succ, i64_w, i32_w]
            rfl
          refine one_ (i := 6) (N := some 27) #[true, true, true, true, true, true, true, false, false, false] rfl rfl (by kernel_rfl) (by decide) (fun K hK => ?_)
          refine goes_ Try.func28 (by kernel_rfl) rfl #[.string x.v] (by rfl) rfl rfl (by simp only [List.map_toArray, List.map_cons, List.map_nil]; rfl) ?_
          with_reducible refine (value_calls x.v _ hsz2).mono ?_
          rintro e w4 ⟨rfl, hb4⟩
          refine ⟨_, rfl, ?_⟩
          replace hb4 := Aside0.mk hb4
          refine hK.out _ _ ⟨(Below.cell hb4.out (by simp)).trans u0, (Below.cell hb4.out (by simp)).trans u1⟩ (fun hHeld => ?_)
          clear hK K
          refine norm_ (a' := ?_) ?_ ?_
          rotate_left
          · show Act.put _ (some 27) _ = _
            simp only [Act.put, List.setIfInBounds_toArray, List.set_cons_zero, List.set_cons_succ, i64_w, i32_w]
            rfl
          refine pure_ (i := 7) (N := some 28) (v := ?_) (a' := ?_) #[true, true, true, true, true, true, true, true, false, false] rfl rfl (by kernel_rfl) (fun _ _ _ h => h) (Or.inl ⟨by rfl, ?_⟩) ?_ ?_
          rotate_left
          · intro w'
            go_simp
            with_reducible rfl
          rotate_left
          · simp only [Act.put, List.setIfInBounds_toArray, List.set_cons_zero, List.set_cons_succ, i64_w, i32_w]
            rfl
          refine pure_ (i := 8) (N := some 29) (v := ?_) (a' := ?_) #[true, true, true, true, true, true, true, true, true, false] rfl rfl (by kernel_rfl) (fun _ _ _ h => h) (Or.inl ⟨by rfl, ?_⟩) ?_ ?_
          rotate_left
          · intro w'
            go_simp
            with_reducible rfl
          rotate_left
          · simp only [Act.put, List.setIfInBounds_toArray, List.set_cons_zero, List.set_cons_succ, i64_w, i32_w]
            rfl
          refine pure_ (i := 9) (N := some 4) (v := ?_) (a' := ?_) #[true, true, true, true, true, true, true, true, true, true] rfl rfl (by kernel_rfl) (fun _ _ _ h => h) (Or.inl ⟨by rfl, ?_⟩) ?_ ?_
          rotate_left
          · intro w'
            go_simp
            with_reducible rfl
          rotate_left
          · simp only [Act.put, List.setIfInBounds_toArray, List.set_cons_zero, List.set_cons_succ, i64_w, i32_w]
            rfl
          refine done_ (by kernel_rfl) ?_
          replace hb4 := Aside0.mk (hbn.out.trans (hb4.out.mono (by have := hb.out.size; simp; omega)))
          go_wp2_with fail
          go_roundw
          case rel => exact ⟨k + 1, by omega, by rw [hnx.out]; rfl, by go_num, hb4⟩
          case measure => simp [intOf]; omega
      · obtain rfl : k = M := by omega
        rw [show textTo l k = textF l from by unfold textF; rw [hM.out]]
        generalize textF l = tf at *
        go_wp2_with fail
        go_ret2
        exact hpost.out _ hb.out
end Go.Proofs.Ythbjgcmbbdlfkaa
