/- The name of a name's text is the name: plain. -/
import Derived.Test.YthbjgcmbbdlfkaaDa
set_option linter.unusedVariables false
set_option linter.unusedSimpArgs false
namespace Go.Proofs.Ythbjgcmbbdlfkaa
open Go.RowKit Go.Shelf Go.Proofs.YthbjgcmbbdlfkaaW.PrintWords Go.Proofs.YthbjgcmbbdlfkaaW.PrintMore Go.Proofs.YthbjgcmbbdlfkaaW.PrintLast

/-- The bytes of a text from a place on. -/
def Fr (s : ByteArray) (p : Nat) (L : List Int) : Prop := (bytesOf s).drop p = L
theorem Fr.size {s : ByteArray} {p : Nat} {L : List Int} (h : Fr s p L) (hp : p ≤ s.size) : s.size = p + L.length := by
  have : ((bytesOf s).drop p).length = L.length := by rw [h]
  rw [List.length_drop, bytesOf_length] at this
  omega
theorem Fr.head {s : ByteArray} {p : Nat} {x : Int} {L : List Int} (h : Fr s p (x :: L)) : p < s.size ∧ bt s (p : Int) = x ∧ Fr s (p + 1) L := by
  have hp : p < s.size := by
    by_cases c : p < s.size
    · exact c
    · unfold Fr at h
      rw [List.drop_eq_nil_of_le (by rw [bytesOf_length]; omega)] at h
      cases h
  unfold Fr at h ⊢
  rw [bytes_drop s p hp] at h
  injection h with h1 h2
  exact ⟨hp, h1, h2⟩
theorem Fr.next {s : ByteArray} {p : Nat} {A L : List Int} (h : Fr s p (A ++ L)) : Fr s (p + A.length) L := by
  unfold Fr at h ⊢
  rw [← List.drop_drop, h, List.drop_left]
theorem Fr.take {s : ByteArray} {p : Nat} {A L : List Int} (h : Fr s p (A ++ L)) : bytesOf (s.extract p (p + A.length)) = A := by
  rw [extract_bytes, h, Nat.add_sub_cancel_left, List.take_left]
theorem bt_in {s : ByteArray} {x : Int} (h : x ∈ bytesOf s) : 0 ≤ x ∧ x < 256 := bytesOf_bound h
theorem hexd_told {d : Int} (h0 : 0 ≤ d) (h1 : d < 16) : signB (hexd d) = false ∧ hexd d ≠ 32 ∧ hexd d ≠ 35 ∧ digitB (hexd d) = d ∧ 48 ≤ hexd d ∧ hexd d ≤ 102 := by
  have h : d = 0 ∨ d = 1 ∨ d = 2 ∨ d = 3 ∨ d = 4 ∨ d = 5 ∨ d = 6 ∨ d = 7 ∨ d = 8 ∨ d = 9 ∨ d = 10 ∨ d = 11 ∨ d = 12 ∨ d = 13 ∨ d = 14 ∨ d = 15 := by omega
  rcases h with rfl | rfl | rfl | rfl | rfl | rfl | rfl | rfl | rfl | rfl | rfl | rfl | rfl | rfl | rfl | rfl <;> decide
theorem signB_iff (x : Int) : signB x = true ↔ x = 44 ∨ x = 43 ∨ x = 34 ∨ x = 92 ∨ x = 60 ∨ x = 62 ∨ x = 59 ∨ x = 61 := by
  unfold signB
  simp only [Bool.or_eq_true, beq_iff_eq]
  constructor
  · rintro (h | h | h | h | h | h | h | h) <;> omega
  · rintro (h | h | h | h | h | h | h | h) <;> subst h <;> simp
theorem signB_no {x : Int} (h : signB x = false) : x ≠ 44 ∧ x ≠ 92 := by
  constructor <;> (rintro rfl; exact absurd h (by decide))
/-- A value's bytes as a text, from the k-th of n on. -/
def vt (n : Nat) : Nat → List Int → List Int
  | _, [] => []
  | k, x :: xs => valB n k x ++ vt n (k + 1) xs
theorem vt_pre (n : Nat) (l : List Int) : ∀ k, k ≤ l.length → pre (fun j => l.getD j 0) n l.length = pre (fun j => l.getD j 0) n k ++ vt n k (l.drop k) := by
  intro k hk
  induction hm : l.length - k generalizing k with
  | zero =>
    obtain rfl : k = l.length := by omega
    rw [List.drop_length]; simp [vt]
  | succ m ih =>
    have hlt : k < l.length := by omega
    rw [ih (k + 1) (by omega) (by omega), pre_next, List.drop_eq_getElem_cons hlt]
    simp [vt, List.getD_eq_getElem?_getD, List.getElem?_eq_getElem hlt]
theorem valB_range (n k : Nat) {x : Int} (h : 0 ≤ x ∧ x < 256) : ∀ y ∈ valB n k x, 32 ≤ y ∧ y ≤ 126 := by
  intro y hy
  unfold valB at hy
  split at hy
  · have h1 := hexd_told (d := x / 16) (by omega) (by omega)
    have h2 := hexd_told (d := x % 16) (by omega) (by omega)
    simp at hy
    rcases hy with rfl | rfl | rfl <;> omega
  · rename_i c
    simp at c
    split at hy <;> simp at hy <;> omega
theorem vt_range (n : Nat) (l : List Int) (h : ∀ x ∈ l, 0 ≤ x ∧ x < 256) : ∀ k, ∀ y ∈ vt n k l, 32 ≤ y ∧ y ≤ 126 := by
  induction l with
  | nil => intro k y hy; simp [vt] at hy
  | cons x xs ih =>
    intro k y hy
    unfold vt at hy
    rcases List.mem_append.1 hy with hy | hy
    · exact valB_range n k (h x (by simp)) y hy
    · exact ih (fun x hx => h x (by simp [hx])) (k + 1) y hy
theorem bytes_valText (v : ByteArray) : bytesOf (valText v) = vt v.size 0 (bytesOf v) := by
  have hp : pre (fun j => (bytesOf v).getD j 0) v.size v.size = vt v.size 0 (bytesOf v) := by
    have := vt_pre v.size (bytesOf v) 0 (Nat.zero_le _)
    rw [bytesOf_length] at this
    rw [this, List.drop_zero]; simp [pre]
  unfold valText
  rw [hp]
  apply bytes_str
  intro y hy
  have := vt_range v.size (bytesOf v) (fun x hx => bytesOf_bound hx) 0 y hy
  omega
/-- What is behind a part. -/
def Ends (L : List Int) : Prop := L = [] ∨ ∃ R, L = 44 :: R
theorem Ends.stop {s : ByteArray} {p : Nat} {L : List Int} (h : Fr s p L) (he : Ends L) : ¬ (p < s.size ∧ bt s (p : Int) ≠ 44) := by
  rintro ⟨h1, h2⟩
  rcases he with rfl | ⟨R, rfl⟩
  · unfold Fr at h
    have : ((bytesOf s).drop p).length = 0 := by rw [h]; rfl
    rw [List.length_drop, bytesOf_length] at this
    omega
  · exact h2 h.head.2.1
theorem valF_vt (s : ByteArray) (n : Nat) (hn1 : 1 ≤ n) (hn2 : n ≤ 200) (L : List Int) (he : Ends L) : ∀ (l out : List Int) (p : Nat) (b : Bool), (∀ x ∈ l, 0 ≤ x ∧ x < 256) → out.length + l.length = n → (l = [] → b = false) → Fr s p (vt n out.length l ++ L) →
    valF s p out b = some (out ++ l, p + (vt n out.length l).length) := by
  intro l
  induction l with
  | nil =>
    intro out p b hl ho hb hf
    rw [valF_end (Ends.stop hf he), if_pos ⟨hb rfl, by simp at ho; omega, by simp at ho; omega⟩]
    simp [vt]
  | cons x xs ih =>
    intro out p b hl ho hb hf
    have hx := hl x (by simp)
    have hxs : ∀ y ∈ xs, 0 ≤ y ∧ y < 256 := fun y hy => hl y (by simp [hy])
    have ho' : (out ++ [x]).length + xs.length = n := by simp at ho ⊢; omega
    have hk : out.length + 1 = (out ++ [x]).length := by simp
    have hdone : ∀ (q : Nat) (c : Bool), (xs = [] → c = false) → Fr s q (vt n (out.length + 1) xs ++ L) → valF s q (out ++ [x]) c = some (out ++ x :: xs, q + (vt n (out.length + 1) xs).length) := by
      intro q c hc hq
      rw [hk] at hq ⊢
      rw [ih (out ++ [x]) q c hxs ho' hc hq]
      simp
    unfold vt at hf ⊢
    rw [List.append_assoc] at hf
    by_cases c1 : x < 32 ∨ 126 < x
    · have hv : valB n out.length x = [92, hexd (x / 16), hexd (x % 16)] := by
        unfold valB; rw [if_pos (by simpa using c1)]
      rw [hv] at hf ⊢
      obtain ⟨p0, b0, hf⟩ := Fr.head hf
      obtain ⟨p1, b1, hf⟩ := Fr.head hf
      obtain ⟨p2, b2, hf⟩ := Fr.head hf
      obtain ⟨a1, a2, a3, a4, _⟩ := hexd_told (d := x / 16) (by omega) (by omega)
      obtain ⟨d1, d2, d3, d4, _⟩ := hexd_told (d := x % 16) (by omega) (by omega)
      have ht : toldF s (p + 1) = some (x, p + 1 + 2) := by
        unfold toldF
        rw [if_pos p1, if_neg (by rw [b1, a1]; simp [a2, a3]), if_pos ⟨p2, by rw [b1, a4]; omega, by rw [b2, d4]; omega⟩, b1, b2, a4, d4]
        congr 2
        omega
      rw [valF_told p0 (by rw [b0]; decide) b0 ht, hdone _ _ (fun _ => rfl) hf]
      congr 2
      simp; omega
    · have c1' : ¬ ((decide (x < 32) || decide (126 < x)) = true) := by simpa using c1
      by_cases c2 : (signB x || ((out.length == 0 && (x == 32 || x == 35)) || (out.length + 1 == n && x == 32))) = true
      · have hv : valB n out.length x = [92, x] := by
          unfold valB; rw [if_neg c1', if_pos c2]
        rw [hv] at hf ⊢
        obtain ⟨p0, b0, hf⟩ := Fr.head hf
        obtain ⟨p1, b1, hf⟩ := Fr.head hf
        have hsg : signB x = true ∨ x = 32 ∨ x = 35 := by
          simp at c2
          rcases c2 with h | ⟨_, h⟩ | ⟨_, h⟩
          · exact .inl h
          · rcases h with h | h
            · exact .inr (.inl h)
            · exact .inr (.inr h)
          · exact .inr (.inl h)
        have ht : toldF s (p + 1) = some (x, p + 1 + 1) := by
          unfold toldF
          rw [if_pos p1, b1, if_pos hsg]
        rw [valF_told p0 (by rw [b0]; decide) b0 ht, hdone _ _ (fun _ => rfl) hf]
        congr 2
        simp; omega
      · have hv : valB n out.length x = [x] := by
          unfold valB; rw [if_neg c1', if_neg c2]
        rw [hv] at hf ⊢
        obtain ⟨p0, b0, hf⟩ := Fr.head hf
        have c2' := Bool.eq_false_iff.2 c2
        simp only [Bool.or_eq_false_iff, Bool.and_eq_false_iff, beq_eq_false_iff_ne] at c2'
        obtain ⟨s1, s2, s3⟩ := c2'
        obtain ⟨n1, n2⟩ := signB_no s1
        have hb0 : out ≠ [] ∨ (x ≠ 32 ∧ x ≠ 35) := by
          rcases s2 with h | h
          · exact .inl (fun e => h (by rw [e]; rfl))
          · exact .inr h
        rw [valF_bare p0 (by rw [b0]; exact n1) (by rw [b0]; exact n2) (x := x) ⟨b0, s1, by omega, by omega, hb0⟩]
        rw [hdone _ _ ?_ hf]
        · congr 2
          simp; omega
        · intro hnil
          subst hnil
          rcases s3 with h | h
          · simp at ho; omega
          · exact beq_eq_false_iff_ne.2 h
theorem eqAt_at (s : ByteArray) (L : List Int) : ∀ (A : List Int) (p : Nat), (∀ x ∈ A, x ≠ 61) → Fr s p (A ++ 61 :: L) → eqAt s p = p + A.length := by
  intro A
  induction A with
  | nil =>
    intro p _ hf
    obtain ⟨p0, b0, _⟩ := Fr.head hf
    rw [eqAt_stop (fun h => h.2 b0)]; rfl
  | cons x xs ih =>
    intro p hA hf
    obtain ⟨p0, b0, hf⟩ := Fr.head hf
    rw [← eqAt_step p0 (by rw [b0]; exact hA x (by simp)), ih (p + 1) (fun y hy => hA y (by simp [hy])) hf]
    simp; omega
theorem goodB_in {x : Int} (h : goodB x = true) : x ≠ 61 ∧ 32 ≤ x ∧ x ≤ 126 := by
  unfold goodB letterB at h
  simp at h
  omega
theorem nameOk_in {s : ByteArray} (h : nameOk s = true) : 1 ≤ s.size ∧ s.size ≤ 64 ∧ ∀ x ∈ bytesOf s, goodB x = true := by
  by_cases c : s.size < 1 ∨ 64 < s.size
  · rw [nameOk_false c] at h; cases h
  · have h1 : 1 ≤ s.size := by omega
    have h2 : s.size ≤ 64 := by omega
    rw [nameOk_eq h1 h2] at h
    simp only [Bool.and_eq_true, List.all_eq_true] at h
    exact ⟨h1, h2, h.2⟩
theorem toList_inj {a b : ByteArray} (h : a.toList = b.toList) : a = b := by
  rw [ByteArray.toList_eq, ByteArray.toList_eq] at h
  exact ba_ext h
theorem partOk_in {r : Rdn} (h : partOk r = true) : nameOk r.t = true ∧ small r.t = r.t ∧ 1 ≤ r.v.size ∧ r.v.size ≤ 200 := by
  unfold partOk at h
  simp only [Bool.and_eq_true, beq_iff_eq, decide_eq_true_eq] at h
  exact ⟨h.1, toList_inj h.2.1, by omega, by omega⟩
/-- A part's bytes. -/
def rt (r : Rdn) : List Int := bytesOf r.t ++ 61 :: vt r.v.size 0 (bytesOf r.v)
theorem bytes_rdn (r : Rdn) : bytesOf (rdnText r) = rt r := by
  unfold rdnText rt
  rw [bytes_app, bytes_app, bytes_valText]
  simp [equalsS, bytesOf]
theorem partF_rt (s : ByteArray) (p : Nat) (r : Rdn) (L : List Int) (he : Ends L) (hr : partOk r = true) (hf : Fr s p (rt r ++ L)) : partF s p = some (r, p + (rt r).length) := by
  obtain ⟨h1, h2, h3, h4⟩ := partOk_in hr
  obtain ⟨n1, n2, n3⟩ := nameOk_in h1
  have hf0 : Fr s p (bytesOf r.t ++ 61 :: (vt r.v.size 0 (bytesOf r.v) ++ L)) := by
    unfold rt at hf; simpa using hf
  have heq := eqAt_at s _ (bytesOf r.t) p (fun x hx => (goodB_in (n3 x hx)).1) hf0
  have hx : s.extract p (p + (bytesOf r.t).length) = r.t := bytes_inj (Fr.take hf0)
  obtain ⟨q0, b0, hf1⟩ := Fr.head (Fr.next hf0)
  have hty : typedF s p = some (r.t, p + (bytesOf r.t).length + 1) := by
    unfold typedF
    rw [heq, hx, if_pos ⟨q0, h1⟩, h2]
  have hv := valF_vt s r.v.size h3 h4 L he (bytesOf r.v) [] (p + (bytesOf r.t).length + 1) false (fun x hx => bytesOf_bound hx) (by rw [bytesOf_length]; simp) (fun _ => rfl) hf1
  unfold partF
  rw [hty]
  show (valF s (p + (bytesOf r.t).length + 1) [] false).map _ = _
  rw [hv]
  simp only [Option.map_some, List.nil_append, str_bytes]
  congr 2
  unfold rt
  simp [vt]
  omega
/-- A name's bytes. -/
def tl : List Rdn → List Int
  | [] => []
  | [r] => rt r
  | r :: r' :: rs => rt r ++ 44 :: tl (r' :: rs)
theorem parseF_tl (s : ByteArray) : ∀ (l : List Rdn) (d : List Rdn) (p : Nat), l ≠ [] → (∀ r ∈ l, partOk r = true) → d.length + l.length ≤ 16 → p ≤ s.size → Fr s p (tl l) → parseF s p d = some (d ++ l) := by
  intro l
  induction l with
  | nil => intro d p h; exact absurd rfl h
  | cons r rs ih =>
    intro d p _ hok hlen hp hf
    have hsz := hf.size hp
    cases rs with
    | nil =>
      have hf' : Fr s p (rt r ++ []) := by rw [List.append_nil]; exact hf
      rw [parseF_last (partF_rt s p r [] (.inl rfl) (hok r (by simp)) hf') (by simp at hlen; omega) (by have : tl [r] = rt r := rfl; rw [this] at hsz; omega)]
    | cons r' rs =>
      have hf' : Fr s p (rt r ++ 44 :: tl (r' :: rs)) := hf
      have hpt := partF_rt s p r _ (.inr ⟨_, rfl⟩) (hok r (by simp)) hf'
      obtain ⟨q0, b0, hf1⟩ := Fr.head (Fr.next hf')
      rw [parseF_more hpt (by simp at hlen; omega) q0, ih (d ++ [r]) _ (by simp) (fun x hx => hok x (by simp [hx])) (by simp at hlen ⊢; omega) (by omega) hf1]
      simp
theorem rt_pos {r : Rdn} : 0 < (rt r).length := by unfold rt; simp; omega
theorem tl_snoc (l : List Rdn) (r : Rdn) : tl (l ++ [r]) = if l = [] then rt r else tl l ++ 44 :: rt r := by
  induction l with
  | nil => rfl
  | cons x xs ih =>
    rw [if_neg (by simp)]
    cases xs with
    | nil => rfl
    | cons y ys =>
      rw [if_neg (by simp)] at ih
      show rt x ++ 44 :: tl ((y :: ys) ++ [r]) = (rt x ++ 44 :: tl (y :: ys)) ++ 44 :: rt r
      rw [ih]; simp
theorem bytes_textTo (l : List Rdn) : ∀ k, k ≤ l.length → bytesOf (textTo l k) = tl (l.take k) := by
  intro k
  induction k with
  | zero => intro _; rfl
  | succ k ih =>
    intro hk
    have hlt : k < l.length := hk
    have e : l.getD k zR = l[k] := by simp [List.getD_eq_getElem?_getD, List.getElem?_eq_getElem hlt]
    rw [List.take_succ_eq_append_getElem hlt, tl_snoc, ← ih (by omega)]
    rw [show textTo l (k + 1) = (if 0 < k then textTo l k ++ commaS else textTo l k) ++ rdnText (l.getD k zR) from rfl, e, bytes_app, bytes_rdn]
    by_cases c : 0 < k
    · rw [if_pos c, if_neg (by
        intro h
        have : (l.take k).length = 0 := by rw [h]; rfl
        rw [List.length_take] at this; omega), bytes_app]
      simp [commaS, bytesOf]
    · obtain rfl : k = 0 := by omega
      rw [if_neg c, if_pos (by simp)]
      rfl
theorem bytes_textF (l : List Rdn) : bytesOf (textF l) = tl l := by
  unfold textF
  rw [bytes_textTo l l.length (Nat.le_refl _), List.take_length]
theorem dnOk_in {l : List Rdn} (h : dnOk l = true) : l.length ≤ 16 ∧ ∀ r ∈ l, partOk r = true := by
  unfold dnOk at h
  simp only [Bool.and_eq_true, List.all_eq_true, decide_eq_true_eq] at h
  exact ⟨by omega, h.2⟩
/-- The name of the text of a name is the name. -/
theorem parse_text (l : List Rdn) (h : dnOk l = true) : parseAll (textF l) = some l := by
  obtain ⟨h1, h2⟩ := dnOk_in h
  unfold parseAll
  cases l with
  | nil => rfl
  | cons r rs =>
    have hf : Fr (textF (r :: rs)) 0 (tl (r :: rs)) := bytes_textF _
    have hsz := hf.size (Nat.zero_le _)
    rw [if_neg]
    · rw [parseF_tl (textF (r :: rs)) (r :: rs) [] 0 (by simp) h2 (by simpa using h1) (Nat.zero_le _) hf]; rfl
    · rw [hsz]
      have : 0 < (tl (r :: rs)).length := by
        cases rs with
        | nil => exact rt_pos
        | cons r' rs => show 0 < (rt r ++ _).length; have := rt_pos (r := r); simp; omega
      omega
theorem textF_inj {a b : List Rdn} (ha : dnOk a = true) (hb : dnOk b = true) (h : textF a = textF b) : a = b := by
  have h1 := parse_text a ha
  rw [h, parse_text b hb] at h1
  exact (Option.some.inj h1).symm
theorem rt_range {r : Rdn} (h : partOk r = true) : ∀ y ∈ rt r, 32 ≤ y ∧ y ≤ 126 := by
  intro y hy
  obtain ⟨h1, _⟩ := partOk_in h
  obtain ⟨_, _, n3⟩ := nameOk_in h1
  unfold rt at hy
  simp only [List.mem_append, List.mem_cons] at hy
  rcases hy with hy | rfl | hy
  · exact (goodB_in (n3 y hy)).2
  · omega
  · exact vt_range _ _ (fun x hx => bytesOf_bound hx) 0 y hy
theorem tl_range (l : List Rdn) (h : ∀ r ∈ l, partOk r = true) : ∀ y ∈ tl l, 32 ≤ y ∧ y ≤ 126 := by
  induction l with
  | nil => intro y hy; simp [tl] at hy
  | cons r rs ih =>
    intro y hy
    cases rs with
    | nil => exact rt_range (h r (by simp)) y hy
    | cons r' rs =>
      have hy' : y ∈ rt r ++ 44 :: tl (r' :: rs) := hy
      simp only [List.mem_append, List.mem_cons] at hy'
      rcases hy' with hy | rfl | hy
      · exact rt_range (h r (by simp)) y hy
      · omega
      · exact ih (fun x hx => h x (by simp [hx])) y hy
theorem textF_range {l : List Rdn} (h : dnOk l = true) (k : Nat) (hk : k < (textF l).size) : 32 ≤ bt (textF l) (k : Int) ∧ bt (textF l) (k : Int) ≤ 126 := by
  have hk' : k < (bytesOf (textF l)).length := by rw [bytesOf_length]; exact hk
  rw [← bytes_get, show (bytesOf (textF l)).getD k 0 = (bytesOf (textF l))[k] by simp [List.getD_eq_getElem?_getD, List.getElem?_eq_getElem hk']]
  exact tl_range l (dnOk_in h).2 _ (by rw [← bytes_textF]; exact List.getElem_mem hk')
theorem textF_size {l : List Rdn} (h : dnOk l = true) : (textF l).size ≤ 12000 := by
  obtain ⟨h1, h2⟩ := dnOk_in h
  have hr : ∀ r ∈ l, (rdnText r).size ≤ 700 := by
    intro r hr
    obtain ⟨g1, _, g3, g4⟩ := partOk_in (h2 r hr)
    obtain ⟨n1, n2, _⟩ := nameOk_in g1
    have := valText_size r.v
    unfold rdnText
    rw [ByteArray.size_append, ByteArray.size_append, show equalsS.size = 1 from rfl]
    omega
  have : ∀ k, k ≤ l.length → (textTo l k).size ≤ 701 * k := by
    intro k
    induction k with
    | zero => intro _; exact Nat.le_refl _
    | succ k ih =>
      intro hk
      have g1 := ih (by omega)
      have g2 := hr l[k] (List.getElem_mem hk)
      rw [show l[k] = l.getD k zR by simp [List.getD_eq_getElem?_getD, show k < l.length from hk]] at g2
      unfold textTo
      rw [ByteArray.size_append]
      split
      · rw [ByteArray.size_append, show commaS.size = 1 from rfl]; omega
      · omega
  have := this l.length (Nat.le_refl _)
  unfold textF
  omega
end Go.Proofs.Ythbjgcmbbdlfkaa
