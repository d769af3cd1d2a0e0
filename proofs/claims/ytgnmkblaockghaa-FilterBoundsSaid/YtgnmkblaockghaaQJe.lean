/- The names that were seen, a set; the getter of Means. -/
import Derived.Test.YtgnmkblaockghaaQFf
import Derived.Maps.OwnSet
set_option linter.unusedVariables false
set_option linter.unusedSimpArgs false
namespace Go.Proofs.Ytgnmkblaockghaa
open Go.RowKit Go.Shelf Go.Proofs.YtgnmkblaockghaaW.PrintWords Go.Proofs.YtgnmkblaockghaaW.PrintMore Go.Proofs.YtgnmkblaockghaaW.PrintLast

/-! ### A set of texts -/
/-- Is a text among some? -/
def amongS (l : List ByteArray) (t : ByteArray) : Bool := l.any fun n => n.toList == t.toList
/-- The set as the kit's datum. -/
def seenD : List ByteArray → DataW Unit
  | [] => .map []
  | n :: l => (seenD l).put (.string n.data.toList) (.lit (.bool true))
theorem seen_isMap (l : List ByteArray) : Maps.IsMap (seenD l) := by
  induction l with
  | nil => exact Maps.isMap_empty
  | cons n l ih => rw [seenD]; exact ih.put _ _
theorem toList_data (a b : ByteArray) : (a.toList == b.toList) = true ↔ a.data.toList = b.data.toList := by
  rw [beq_iff_eq, ByteArray.toList_eq, ByteArray.toList_eq]
theorem seen_at (l : List ByteArray) (t : ByteArray) : (seenD l).atKey (.string t.data.toList) (.lit (.bool false)) = .lit (.bool (amongS l t)) := by
  induction l with
  | nil => rfl
  | cons n l ih =>
    rw [seenD]
    by_cases h : n.data.toList = t.data.toList
    · have h2 : amongS (n :: l) t = true := by
        show (n.toList == t.toList || amongS l t) = true
        rw [(toList_data n t).2 h]; rfl
      rw [h, Maps.atKey_put_same (seen_isMap l) (show WideAt.IsKeyLit (.string t.data.toList) from trivial), h2]
    · have h1 : (n.toList == t.toList) = false := by
        rw [Bool.eq_false_iff]; exact fun h' => h ((toList_data n t).1 h')
      have h2 : amongS (n :: l) t = amongS l t := by
        show (n.toList == t.toList || amongS l t) = _
        rw [h1]; rfl
      rw [Maps.atKey_put_other (fun e => h (by injection e with e; exact e.symm)), ih, h2]
/-- Block b is the set of some texts. -/
def SeenM (w : World) (b : Nat) (l : List ByteArray) : Prop := w.ownsMap Try.prog 9 (plainElem (H := Unit) Try.prog 4) b l.length (seenD l)
set_option maxRecDepth 8000 in
theorem key_string (t : ByteArray) (ht : t.size ≤ maxLen) : keyOf Try.prog 9 (.string t) = some (.string t.data.toList) := by
  exact Go.WideMaps.keyOf_string_mk Try.underlying9 ht
theorem SeenM.new (w : World) : SeenM (w.alloc (.map #[] 0)) w.heap.size [] := World.ownsMap_made w _ _ _
theorem SeenM.grown {w w' : World} {b : Nat} {l : List ByteArray} {row : Option Nat} (h : SeenM w b l) (hg : w.grownBy w' row) (hne : some b ≠ row) : SeenM w' b l := World.ownsMap.kept h hg hne
theorem SeenM.below {w w' : World} {b : Nat} {l : List ByteArray} (h : SeenM w b l) (hb : Below w.heap.size w w') : SeenM w' b l := h.grown (grown_of_below hb none) (by simp)
set_option maxRecDepth 8000 in
theorem SeenM.look {w : World} {b : Nat} {l : List ByteArray} (h : SeenM w b l) (t : ByteArray) (ht : t.size ≤ maxLen) : (Instr.lookup 61 (.map (some b)) (.string t) false).run Try.prog w = .ok (.bool (amongS l t)) w := by
  obtain ⟨v, ps, hrun, hv⟩ := World.ownsMap.lookup h (Maps.string_keyed Try.underlying9) Try.underlying61 (z := .bool false) (by kernel_rfl) (zd := .lit (.bool false)) (zp := []) (plainElem_bool Try.underlying4 false) (key_string t ht)
  rw [seen_at] at hv
  rw [hrun]
  generalize amongS l t = x at *
  clear hrun
  have hb : ∀ (v : Value) (z : DataW Unit × List MemPlace), plainElem Try.prog 4 v = some z → ∃ y, v = .bool y ∧ z.1 = .lit (.bool y) := by
    intro v z h
    unfold plainElem at h
    rw [Try.underlying4] at h
    split at h
    · rename_i y _; cases h; exact ⟨y, rfl, rfl⟩
    · rename_i h1; cases h1
    · rename_i h1; cases h1
    · cases h
  obtain ⟨y, rfl, hy⟩ := hb v _ hv
  injection hy with hy
  injection hy with hy
  rw [hy]
set_option maxRecDepth 8000 in
theorem SeenM.put {w : World} {b : Nat} {l : List ByteArray} (h : SeenM w b l) (t : ByteArray) (ht : t.size ≤ maxLen) (hl : l.length < 1000000) : ∃ w', (Instr.mapUpdate 61 (.map (some b)) (.string t) (.bool true)).run Try.prog w = .ok () w' ∧ SeenM w' b (t :: l) ∧ w.grownBy w' (some b) :=
  World.ownsMap.update h (Maps.string_keyed Try.underlying9) Try.underlying61 (by unfold maxLen; omega) (key_string t ht) (plainElem_bool Try.underlying4 true)

/-! ### The getter -/
/-- What the getter leans on: the set of names, the more attributes, the entry. -/
structure Env (w : World) (m mo e : Nat) (names : List ByteArray) (lm le : List At) : Prop where
  bm : ∃ b, w.cell? ⟨m, 0, none⟩ = some (.map (some b)) ∧ SeenM w b names
  cm : ∃ A c, w.cell? ⟨mo, 0, none⟩ = some (.slice A lm.length c) ∧ kA.C w A lm.length lm
  ce : ∃ A c, w.cell? ⟨e, 0, none⟩ = some (.slice A le.length c) ∧ kA.C w A le.length le
theorem Env.below {w w' : World} {m mo e : Nat} {names : List ByteArray} {lm le : List At} (h : Env w m mo e names lm le) (hb : Below w.heap.size w w') : Env w' m mo e names lm le := by
  obtain ⟨⟨b, h1, h2⟩, ⟨A, c, h3, h4⟩, ⟨A', c', h5, h6⟩⟩ := h
  exact ⟨⟨b, pw_cell_below hb h1, h2.below hb⟩, ⟨A, c, pw_cell_below hb h3, Kd.C_below h4 hb⟩, ⟨A', c', pw_cell_below hb h5, Kd.C_below h6 hb⟩⟩
/-- The values of a name, as Means takes them. -/
def getF (names : List ByteArray) (lm le : List At) (n : ByteArray) : Fld := if amongS names (small n) = true then getE (small n) lm else getE (small n) le
theorem getF_mem {names : List ByteArray} {lm le : List At} (hm : MildE lm) (he : MildE le) (n : ByteArray) : (getF names lm le n).length ≤ 1000 ∧ ∀ s ∈ getF names lm le n, s.size ≤ 12000 := by
  unfold getF
  split
  · exact getE_mem hm
  · exact getE_mem he
abbrev getV (m mo e : Nat) : Value := .func (.func 31) #[] #[.pointer (some ⟨m, 0, none⟩), .pointer (some ⟨mo, 0, none⟩), .pointer (some ⟨e, 0, none⟩)]
set_option maxRecDepth 8000 in
set_option maxHeartbeats 4000000 in
theorem getter_calls (m mo e : Nat) (names : List ByteArray) (lm le : List At) (n : ByteArray) (w : World) (h : Env w m mo e names lm le) (hm : MildE lm) (he : MildE le) (hn : n.size ≤ 12000) :
    Calls Try.prog 31 #[.string n, .pointer (some ⟨m, 0, none⟩), .pointer (some ⟨mo, 0, none⟩), .pointer (some ⟨e, 0, none⟩)] w (Gets (getF names lm le n) w) := by
  obtain ⟨⟨b, p0, hS⟩, ⟨A, c, p1, hC1⟩, ⟨A', c', p2, hC2⟩⟩ := h
  have hs := Aside0.mk (fun W => small_calls n W hn)
  have hsz := small_size n
  have hl := hS.look (small n) (by unfold maxLen; omega)
  have hlk := Aside0.mk (fun W (hb : Below w.heap.size w W) => (hS.below hb).look (small n) (by unfold maxLen; omega))
  have hg1 := Aside0.mk (fun W (hb : Below w.heap.size w W) => get_calls A c lm n W hm (Kd.C_below hC1 hb) hn)
  have hg2 := Aside0.mk (fun W (hb : Below w.heap.size w W) => get_calls A' c' le n W he (Kd.C_below hC2 hb) hn)
  have hb0 := Aside0.mk (below_drew (Below.refl w.heap.size w))
  unfold getF
  clear hS hC1 hC2 hm he hsz hl
  generalize lm.length = M1 at *
  generalize le.length = M2 at *
  generalize hx : amongS names (small n) = x at *
  generalize small n = t at *
  cases x with
  | true =>
    rw [if_pos rfl]
    go_enter Try.func31, Try.ntmps31
    go_wp2_with fail
    refine start_ (n := 4) (S := fun w' => w'.cell? ⟨m, 0, none⟩ = some (.map (some b)) ∧ w'.cell? ⟨mo, 0, none⟩ = some (.slice A M1 c) ∧ (Instr.lookup 61 (.map (some b)) (.string t) false).run Try.prog w' = .ok (.bool true) w') (ds := []) #[false, false, false, false] (by kernel_rfl) rfl rfl ⟨p0, p1, (hlk.out w.drew hb0.out)⟩ (fun hHeld => ?_)
    refine pn_ 1 7 #[false, true, false, false] rfl rfl ?_
    refine tk_ 0 6 #[true, true, false, false] rfl rfl hHeld (by rintro w' ⟨s0, s1, s2⟩; go_simp; with_reducible rfl) ?_
    refine one_ (i := 2) (N := some 8) #[true, true, true, false] rfl rfl (by kernel_rfl) (by decide) (fun K hK => ?_)
    refine goes_ Try.func32 (by kernel_rfl) rfl #[.string n] (by rfl) rfl rfl (by simp only [List.map_toArray, List.map_cons, List.map_nil]; rfl) ?_
    with_reducible refine ((hs.out w.drew)).mono ?_
    rintro e w4 ⟨rfl, hb4⟩
    refine ⟨_, rfl, ?_⟩
    have hw4 := Aside0.mk (below_then hb0.out hb0.out.size hb4)
    have p0 := pw_cell_below hb4 p0
    have p1 := pw_cell_below hb4 p1
    clear hb4
    refine hK.out _ _ ⟨p0, p1, hlk.out w4 hw4.out⟩ (fun hHeld => ?_)
    clear hK K
    refine nm_ 8 ?_
    refine tk_ 3 9 #[true, true, true, true] rfl rfl hHeld (by rintro w' ⟨s0, s1, s2⟩; go_simp; with_reducible rfl) ?_
    refine done_ (by kernel_rfl) ?_
    have hg := Aside0.mk (hg1.out w4 hw4.out)
    clear hg1 hg2 hlk
    go_wp2_with fail
    refine hg.out.mono ?_
    rintro e w5 ⟨⟨A5, c5, rfl, hC5⟩, hb5⟩
    replace hb5 := Aside0.mk (below_then hw4.out hw4.out.size hb5)
    replace hC5 := Aside0.mk hC5
    go_wp2_with fail
    go_ret
    exact ⟨⟨A5, c5, rfl, hC5.out⟩, hb5.out⟩
  | false =>
    rw [if_neg (by simp)]
    go_enter Try.func31, Try.ntmps31
    go_wp2_with fail
    refine start_ (n := 4) (S := fun w' => w'.cell? ⟨m, 0, none⟩ = some (.map (some b)) ∧ w'.cell? ⟨e, 0, none⟩ = some (.slice A' M2 c') ∧ (Instr.lookup 61 (.map (some b)) (.string t) false).run Try.prog w' = .ok (.bool false) w') (ds := []) #[false, false, false, false] (by kernel_rfl) rfl rfl ⟨p0, p2, (hlk.out w.drew hb0.out)⟩ (fun hHeld => ?_)
    refine pn_ 1 7 #[false, true, false, false] rfl rfl ?_
    refine tk_ 0 6 #[true, true, false, false] rfl rfl hHeld (by rintro w' ⟨s0, s1, s2⟩; go_simp; with_reducible rfl) ?_
    refine one_ (i := 2) (N := some 8) #[true, true, true, false] rfl rfl (by kernel_rfl) (by decide) (fun K hK => ?_)
    refine goes_ Try.func32 (by kernel_rfl) rfl #[.string n] (by rfl) rfl rfl (by simp only [List.map_toArray, List.map_cons, List.map_nil]; rfl) ?_
    with_reducible refine ((hs.out w.drew)).mono ?_
    rintro e w4 ⟨rfl, hb4⟩
    refine ⟨_, rfl, ?_⟩
    have hw4 := Aside0.mk (below_then hb0.out hb0.out.size hb4)
    have p0 := pw_cell_below hb4 p0
    have p2 := pw_cell_below hb4 p2
    clear hb4
    refine hK.out _ _ ⟨p0, p2, hlk.out w4 hw4.out⟩ (fun hHeld => ?_)
    clear hK K
    refine nm_ 8 ?_
    refine tk_ 3 9 #[true, true, true, true] rfl rfl hHeld (by rintro w' ⟨s0, s1, s2⟩; go_simp; with_reducible rfl) ?_
    refine done_ (by kernel_rfl) ?_
    have hg := Aside0.mk (hg2.out w4 hw4.out)
    clear hg1 hg2 hlk
    go_wp2_with fail
    refine hg.out.mono ?_
    rintro e w5 ⟨⟨A5, c5, rfl, hC5⟩, hb5⟩
    replace hb5 := Aside0.mk (below_then hw4.out hw4.out.size hb5)
    replace hC5 := Aside0.mk hC5
    go_wp2_with fail
    go_ret
    exact ⟨⟨A5, c5, rfl, hC5.out⟩, hb5.out⟩
end Go.Proofs.Ytgnmkblaockghaa

/- strings.HasPrefix; the closures of eq and begin; slices.ContainsFunc over texts. -/
set_option linter.unusedVariables false
set_option linter.unusedSimpArgs false
namespace Go.Proofs.Ytgnmkblaockghaa
open Go.RowKit Go.Shelf Go.Proofs.YtgnmkblaockghaaW.PrintWords Go.Proofs.YtgnmkblaockghaaW.PrintMore Go.Proofs.YtgnmkblaockghaaW.PrintLast

/-- Does a text begin with another? -/
def prefB (s p : ByteArray) : Bool := decide (p.size ≤ s.size) && ((s.extract 0 p.size).toList == p.toList)
set_option maxRecDepth 8000 in
theorem pref0_calls (s p : ByteArray) (w : World) : Calls Try.prog 100 #[.string s, .string p] w fun e w' => e = .returned (.bool (prefB s p)) ∧ w' = w := by
  unfold prefB
  by_cases h : p.size ≤ s.size
  · rw [decide_eq_true h]
    have h' : decide ((p.size : Int) ≤ (s.size : Int)) = true := decide_eq_true (by omega)
    go_enter Try.func100, Try.ntmps100
    go_wp2_with fail
    go_ret
    exact ⟨rfl, rfl⟩
  · rw [decide_eq_false h]
    have h' : decide ((p.size : Int) ≤ (s.size : Int)) = false := decide_eq_false (by omega)
    go_enter Try.func100, Try.ntmps100
    go_wp2_with fail
    go_ret
    exact ⟨rfl, rfl⟩
set_option maxRecDepth 8000 in
theorem pref_calls (s p : ByteArray) (w : World) : Calls Try.prog 85 #[.string s, .string p] w fun e w' => e = .returned (.bool (prefB s p)) ∧ w' = w := by
  have h := Aside0.mk (pref0_calls s p w)
  generalize prefB s p = b at *
  go_enter Try.func85, Try.ntmps85
  go_wp2_with fail
  refine h.out.mono ?_
  rintro e w' ⟨rfl, rfl⟩
  go_wp2_with fail
  go_ret
  exact ⟨rfl, rfl⟩
set_option maxRecDepth 8000 in
set_option maxHeartbeats 1000000 in
theorem eq1_calls (x v : ByteArray) (V : Nat) (w : World) (hx : x.size ≤ 12000) (hv : v.size ≤ 12000) (p0 : w.cell? ⟨V, 3, none⟩ = some (.string v)) :
    Calls Try.prog 83 #[.string x, .pointer (some ⟨V, 0, none⟩)] w fun e w' => e = .returned (.bool ((small x).toList == (small v).toList)) ∧ Below w.heap.size w w' := by
  have h1 := Aside0.mk (fun W => small_calls x W hx)
  have h2 := Aside0.mk (fun W => small_calls v W hv)
  have hb0 := Aside0.mk (below_drew (Below.refl w.heap.size w))
  generalize small x = sx at *
  generalize small v = sv at *
  generalize hq : (sx.toList == sv.toList) = q at *
  go_enter Try.func83, Try.ntmps83
  go_wp2_with fail
  refine start_ (n := 7) (S := fun w' => w'.cell? ⟨V, 3, none⟩ = some (.string v)) (ds := []) (B_ 7 0) (by kernel_rfl) rfl rfl (p0) (fun hHeld => ?_)
  refine pn_ 0 4 (B_ 7 1) rfl rfl ?_
  refine pn_ 2 6 (B_ 7 5) rfl rfl ?_
  refine tk_ 3 7 (B_ 7 13) rfl rfl hHeld (by intro w' s0; go_simp; with_reducible rfl) ?_
  refine one_ (i := 1) (N := some 5) (B_ 7 15) rfl rfl (by kernel_rfl) (by decide) (fun K hK => ?_)
  refine goes_ Try.func32 (by kernel_rfl) rfl #[.string x] (by rfl) rfl rfl (by simp only [List.map_toArray, List.map_cons, List.map_nil]; rfl) ?_
  with_reducible refine ((h1.out w.drew)).mono ?_
  rintro e w4 ⟨rfl, hb4⟩
  refine ⟨_, rfl, ?_⟩
  have hw4 := Aside0.mk (below_then hb0.out hb0.out.size hb4)
  have p0 := pw_cell_below hb4 p0
  clear hb4
  refine hK.out _ _ (p0) (fun hHeld => ?_)
  clear hK K
  refine nm_ 5 ?_
  refine one_ (i := 4) (N := some 8) (B_ 7 31) rfl rfl (by kernel_rfl) (by decide) (fun K hK => ?_)
  refine goes_ Try.func32 (by kernel_rfl) rfl #[.string v] (by rfl) rfl rfl (by simp only [List.map_toArray, List.map_cons, List.map_nil]; rfl) ?_
  with_reducible refine ((h2.out w4)).mono ?_
  rintro e w5 ⟨rfl, hb5⟩
  refine ⟨_, rfl, ?_⟩
  have hw5 := Aside0.mk (below_then hw4.out hw4.out.size hb5)
  have p0 := pw_cell_below hb5 p0
  clear hb5
  refine hK.out _ _ (p0) (fun hHeld => ?_)
  clear hK K
  refine nm_ 8 ?_
  refine pn_ 5 9 (B_ 7 63) rfl rfl ?_
  refine pn_ 6 3 (B_ 7 127) rfl rfl ?_
  refine done_ (by kernel_rfl) ?_
  go_wp2_with fail
  go_ret
  exact ⟨rfl, hw5.out⟩
set_option maxRecDepth 8000 in
set_option maxHeartbeats 1000000 in
theorem begin1_calls (x v : ByteArray) (V : Nat) (w : World) (hx : x.size ≤ 12000) (hv : v.size ≤ 12000) (p0 : w.cell? ⟨V, 3, none⟩ = some (.string v)) :
    Calls Try.prog 84 #[.string x, .pointer (some ⟨V, 0, none⟩)] w fun e w' => e = .returned (.bool (prefB (small x) (small v))) ∧ Below w.heap.size w w' := by
  have h1 := Aside0.mk (fun W => small_calls x W hx)
  have h2 := Aside0.mk (fun W => small_calls v W hv)
  have hb0 := Aside0.mk (below_drew (Below.refl w.heap.size w))
  have h3 := Aside0.mk (pref_calls (small x) (small v))
  generalize small x = sx at *
  generalize small v = sv at *
  generalize prefB sx sv = q at *
  go_enter Try.func84, Try.ntmps84
  go_wp2_with fail
  refine start_ (n := 7) (S := fun w' => w'.cell? ⟨V, 3, none⟩ = some (.string v)) (ds := []) (B_ 7 0) (by kernel_rfl) rfl rfl (p0) (fun hHeld => ?_)
  refine pn_ 0 4 (B_ 7 1) rfl rfl ?_
  refine pn_ 2 6 (B_ 7 5) rfl rfl ?_
  refine tk_ 3 7 (B_ 7 13) rfl rfl hHeld (by intro w' s0; go_simp; with_reducible rfl) ?_
  refine one_ (i := 1) (N := some 5) (B_ 7 15) rfl rfl (by kernel_rfl) (by decide) (fun K hK => ?_)
  refine goes_ Try.func32 (by kernel_rfl) rfl #[.string x] (by rfl) rfl rfl (by simp only [List.map_toArray, List.map_cons, List.map_nil]; rfl) ?_
  with_reducible refine ((h1.out w.drew)).mono ?_
  rintro e w4 ⟨rfl, hb4⟩
  refine ⟨_, rfl, ?_⟩
  have hw4 := Aside0.mk (below_then hb0.out hb0.out.size hb4)
  have p0 := pw_cell_below hb4 p0
  clear hb4
  refine hK.out _ _ (p0) (fun hHeld => ?_)
  clear hK K
  refine nm_ 5 ?_
  refine one_ (i := 4) (N := some 8) (B_ 7 31) rfl rfl (by kernel_rfl) (by decide) (fun K hK => ?_)
  refine goes_ Try.func32 (by kernel_rfl) rfl #[.string v] (by rfl) rfl rfl (by simp only [List.map_toArray, List.map_cons, List.map_nil]; rfl) ?_
  with_reducible refine ((h2.out w4)).mono ?_
  rintro e w5 ⟨rfl, hb5⟩
  refine ⟨_, rfl, ?_⟩
  have hw5 := Aside0.mk (below_then hw4.out hw4.out.size hb5)
  have p0 := pw_cell_below hb5 p0
  clear hb5
  refine hK.out _ _ (p0) (fun hHeld => ?_)
  clear hK K
  refine nm_ 8 ?_
  refine one_ (i := 5) (N := some 9) (B_ 7 63) rfl rfl (by kernel_rfl) (by decide) (fun K hK => ?_)
  refine goes_ Try.func85 (by kernel_rfl) rfl #[.string sx, .string sv] (by rfl) rfl rfl (by simp only [List.map_toArray, List.map_cons, List.map_nil]; rfl) ?_
  with_reducible refine ((h3.out w5)).mono ?_
  rintro e w6 ⟨rfl, he6⟩
  refine ⟨_, rfl, ?_⟩
  subst he6
  refine hK.out _ _ (p0) (fun hHeld => ?_)
  clear hK K
  refine nm_ 9 ?_
  refine pn_ 6 3 (B_ 7 127) rfl rfl ?_
  refine done_ (by kernel_rfl) ?_
  go_wp2_with fail
  go_ret
  exact ⟨rfl, hw5.out⟩
/-- A closure over a box tells something of a text. -/
def TellsS (fid : FuncId) (gb : Nat) (p : ByteArray → Bool) (x : ByteArray) (w : World) : Prop :=
  ∀ W, Below w.heap.size w W → Calls Try.prog fid #[.string x, .pointer (some ⟨gb, 0, none⟩)] W fun e W' => e = .returned (.bool (p x)) ∧ Below W.heap.size W W'
set_option maxRecDepth 8000 in
set_option maxHeartbeats 1000000 in
theorem sindex_calls (fid : FuncId) (he : Enters Try.prog fid) (gb : Nat) (p : ByteArray → Bool) (A : Option Addr) (c : Nat) (l : Fld) (w : World) (hl : l.length ≤ 1000) (hC : st.C w A l.length l) (hp : ∀ x ∈ l, TellsS fid gb p x w) :
    Calls Try.prog 98 #[.slice A l.length c, .func (.func fid) #[] #[.pointer (some ⟨gb, 0, none⟩)]] w fun e w' => (∃ r : Int, e = .returned (.int .i64 r) ∧ decide (0 ≤ r) = l.any p) ∧ Below w.heap.size w w' := by
  obtain ⟨M, hM⟩ : ∃ M, l.length = M := ⟨_, rfl⟩
  replace hC := Aside0.mk hC
  replace hp := Aside0.mk hp
  rw [hM] at hl ⊢
  replace hM := Aside0.mk hM
  have hb0 : Aside0 (Below w.heap.size w w) := Aside0.mk (Below.refl _ _)
  have he2 : ∀ args w, (callFunc fid args).run Try.prog w = .ok (.enter fid args) w := he
  go_enter Try.func98, Try.ntmps98
  go_wp2
  go_loopw [8] (fun s8 wr => ∃ k : Nat, k ≤ M ∧ s8 = .int .i64 k ∧ Aside0 (Below w.heap.size w wr) ∧ Aside0 ((l.take k).any p = false)) (fun s8 _ => M - (intOf s8).toNat)
  case atStart => exact ⟨0, Nat.zero_le _, rfl, hb0, ⟨by simp⟩⟩
  case round =>
    clear hb0
    obtain ⟨k, hk, rfl, hb, ha⟩ := hrel
    by_cases hlt : k < M
    · have hkl : k < l.length := by rw [hM.out]; exact hlt
      obtain ⟨ad, e, p0⟩ := str_at hC.out k hkl
      subst e
      replace p0 := pw_cell_below hb.out p0
      have hnx := Aside0.mk (fun h => any_take_snoc p l k hkl ha.out h)
      have hno := Aside0.mk (any_true_at p l k hkl)
      have hv := hp.out l[k] (List.getElem_mem hkl) wr hb.out
      obtain ⟨x, hx⟩ : ∃ x, l[k] = x := ⟨_, rfl⟩
      rw [hx] at p0 hnx hno hv
      clear hx hkl
      have i1 : (0 : Int) ≤ (k : Int) := by omega
      have i2 : (k : Int) < (M : Int) := by omega
      cases hvo : p x with
      | false =>
        rw [hvo] at hv
        replace hv := Aside0.mk hv
        have hy := Aside0.mk (hnx.out hvo)
        clear hnx hno hvo
        go_wp2_with fail
        refine hv.out.mono ?_
        rintro e w1 ⟨rfl, hb1⟩
        replace hb1 := Aside0.mk (below_then hb.out hb.out.size hb1)
        go_wp2_with fail
        go_roundw
        case rel => exact ⟨k + 1, by omega, by go_num, hb1, hy⟩
        case measure => simp [intOf]; omega
      | true =>
        rw [hvo] at hv
        replace hv := Aside0.mk hv
        have hy := Aside0.mk (hno.out hvo)
        clear hnx hno hvo
        go_wp2_with fail
        refine hv.out.mono ?_
        rintro e w1 ⟨rfl, hb1⟩
        replace hb1 := Aside0.mk (below_then hb.out hb.out.size hb1)
        go_wp2_with fail
        go_ret
        exact ⟨⟨_, rfl, by rw [hy.out]; simp⟩, hb1.out⟩
    · have hkM : k = M := by omega
      subst hkM
      have h9 : l.any p = false := by
        have h9 := ha.out
        rwa [List.take_of_length_le (by rw [hM.out]; exact Nat.le_refl _)] at h9
      replace h9 := Aside0.mk h9
      go_wp2_with fail
      go_ret
      exact ⟨⟨_, rfl, by rw [h9.out]; rfl⟩, hb.out⟩
set_option maxRecDepth 8000 in
set_option maxHeartbeats 1000000 in
theorem scontains_calls (fid : FuncId) (he : Enters Try.prog fid) (gb : Nat) (p : ByteArray → Bool) (A : Option Addr) (c : Nat) (l : Fld) (w : World) (hl : l.length ≤ 1000) (hC : st.C w A l.length l) (hp : ∀ x ∈ l, TellsS fid gb p x w) :
    Calls Try.prog 78 #[.slice A l.length c, .func (.func fid) #[] #[.pointer (some ⟨gb, 0, none⟩)]] w fun e w' => e = .returned (.bool (l.any p)) ∧ Below w.heap.size w w' := by
  have hi := Aside0.mk (sindex_calls fid he gb p A c l w hl hC hp)
  clear hC hp hl
  generalize l.any p = b at *
  generalize l.length = M at *
  go_enter Try.func78, Try.ntmps78
  go_wp2_with fail
  refine hi.out.mono ?_
  rintro e w1 ⟨⟨r, rfl, hr⟩, hb⟩
  replace hb := Aside0.mk hb
  replace hr := Aside0.mk hr
  go_wp2_with fail
  go_ret
  exact ⟨by rw [← hr.out]; rfl, hb.out⟩
end Go.Proofs.Ytgnmkblaockghaa

/- What a filter means, plain; slices.ContainsFunc over filters; the kinds' functions. -/
set_option linter.unusedVariables false
set_option linter.unusedSimpArgs false
namespace Go.Proofs.Ytgnmkblaockghaa
open Go.RowKit Go.Shelf Go.Proofs.YtgnmkblaockghaaW.PrintWords Go.Proofs.YtgnmkblaockghaaW.PrintMore Go.Proofs.YtgnmkblaockghaaW.PrintLast

/-! ### Plain -/
mutual
/-- Is an entry meant, by a getter? -/
def meansT (g : ByteArray → Fld) : Ft → Bool
  | ⟨k, l, n, v⟩ => if k = 1 then meansAll g l else if k = 2 then meansAny g l else if k = 3 then !(meansHd g l) else if k = 4 then (g n).any (fun s => (small s).toList == (small v).toList) else if k = 5 then (g n).any (fun s => prefB (small s) (small v)) else decide (0 < (g n).length)
def meansAll (g : ByteArray → Fld) : List Ft → Bool
  | [] => true
  | x :: l => meansT g x && meansAll g l
def meansAny (g : ByteArray → Fld) : List Ft → Bool
  | [] => false
  | x :: l => meansT g x || meansAny g l
def meansHd (g : ByteArray → Fld) : List Ft → Bool
  | [] => false
  | x :: _ => meansT g x
end
theorem meansAll_eq (g : ByteArray → Fld) (l : List Ft) : meansAll g l = !(l.any fun x => !meansT g x) := by
  induction l with
  | nil => rw [meansAll]; rfl
  | cons x l ih => rw [meansAll, ih]; simp
theorem meansAny_eq (g : ByteArray → Fld) (l : List Ft) : meansAny g l = l.any (meansT g) := by
  induction l with
  | nil => rw [meansAny]; rfl
  | cons x l ih => rw [meansAny, ih]; simp
mutual
/-- Is a filter of a kind, with one in it where its kind wants one? -/
def goodT : Ft → Prop
  | ⟨k, l, _, _⟩ => (1 ≤ k ∧ k ≤ 6) ∧ (k = 3 → l.length = 1) ∧ goodL l
def goodL : List Ft → Prop
  | [] => True
  | x :: l => goodT x ∧ goodL l
end
theorem goodL_iff (l : List Ft) : goodL l ↔ ∀ x ∈ l, goodT x := by
  induction l with
  | nil => simp [goodL]
  | cons x l ih => simp [goodL, ih]
theorem alone_kind {k : Int} {n z o e2 e3 l1 l2 : Bool} (h : aloneB k n z o e2 e3 l1 l2 = true) : (1 ≤ k ∧ k ≤ 6) ∧ (k = 3 → o = true) := by
  unfold aloneB at h
  split at h
  · rename_i h1; exact ⟨by omega, fun h3 => by omega⟩
  · split at h
    · rename_i h1 h2; exact ⟨by omega, fun _ => by simp at h; exact h.2⟩
    · split at h
      · rename_i h1 h2 h3; exact ⟨by omega, fun h4 => by omega⟩
      · rename_i h1 h2 h3
        simp at h
        obtain ⟨⟨h6, _⟩, _⟩ := h
        exact ⟨by omega, fun h4 => by omega⟩
theorem good_of_cnt (x : Ft) : ∀ n d m, cntT n d x = some m → goodT x := by
  refine filtInd (P := fun x => ∀ n d m, cntT n d x = some m → goodT x) (fun k l s v ih => ?_) x
  have hL : ∀ (l : List Ft), (∀ x ∈ l, ∀ n d m, cntT n d x = some m → goodT x) → ∀ n d m, cntL n d l = some m → goodL l := by
    intro l
    induction l with
    | nil => intro _ n d m _; rw [goodL]; trivial
    | cons y ys ihy =>
      intro hy n d m h
      rw [cntL] at h
      obtain ⟨m', h1, h2⟩ := Option.bind_eq_some_iff.1 h
      rw [goodL]
      exact ⟨hy y List.mem_cons_self n d m' h1, ihy (fun z hz => hy z (List.mem_cons_of_mem _ hz)) m' d m h2⟩
  intro n d m h
  rw [cntT] at h
  split at h
  · split at h
    · split at h
      · rename_i h1 h2 h3
        obtain ⟨hk, ho⟩ := alone_kind (show aloneB k _ _ _ _ _ _ _ = true from h3)
        rw [goodT]
        exact ⟨hk, fun h4 => by have := ho h4; simp at this; omega, hL l ih _ _ _ h⟩
      · cases h
    · cases h
  · cases h

/-! ### slices.ContainsFunc over filters -/
/-- A closure over a box tells something of a filter. -/
def TellsF (fid : FuncId) (gb : Nat) (p : Ft → Bool) (x : Ft) (w : World) : Prop :=
  ∀ A c W, Below w.heap.size w W → Fv W x A c → Calls Try.prog fid #[fv x A c, .pointer (some ⟨gb, 0, none⟩)] W fun e W' => e = .returned (.bool (p x)) ∧ Below W.heap.size W W'
set_option maxRecDepth 8000 in
set_option maxHeartbeats 1000000 in
theorem findex_calls (fid : FuncId) (he : Enters Try.prog fid) (gb : Nat) (p : Ft → Bool) (A : Option Addr) (c : Nat) (l : List Ft) (w : World) (hl : l.length ≤ 100000) (hC : kF.C w A l.length l) (hp : ∀ x ∈ l, TellsF fid gb p x w) :
    Calls Try.prog 99 #[.slice A l.length c, .func (.func fid) #[] #[.pointer (some ⟨gb, 0, none⟩)]] w fun e w' => (∃ r : Int, e = .returned (.int .i64 r) ∧ decide (0 ≤ r) = l.any p) ∧ Below w.heap.size w w' := by
  obtain ⟨M, hM⟩ : ∃ M, l.length = M := ⟨_, rfl⟩
  replace hC := Aside0.mk hC
  replace hp := Aside0.mk hp
  rw [hM] at hl ⊢
  replace hM := Aside0.mk hM
  have hb0 : Aside0 (Below w.heap.size w w) := Aside0.mk (Below.refl _ _)
  have he2 : ∀ args w, (callFunc fid args).run Try.prog w = .ok (.enter fid args) w := he
  go_enter Try.func99, Try.ntmps99
  go_wp2
  go_loopw [8] (fun s8 wr => ∃ k : Nat, k ≤ M ∧ s8 = .int .i64 k ∧ Aside0 (Below w.heap.size w wr) ∧ Aside0 ((l.take k).any p = false)) (fun s8 _ => M - (intOf s8).toNat)
  case atStart => exact ⟨0, Nat.zero_le _, rfl, hb0, ⟨by simp⟩⟩
  case round =>
    clear hb0
    obtain ⟨k, hk, rfl, hb, ha⟩ := hrel
    by_cases hlt : k < M
    · have hkl : k < l.length := by rw [hM.out]; exact hlt
      obtain ⟨ad, A6, c6, e, p0, p1, p2, p3, hv6⟩ := kF_at (Kd.C_below hC.out hb.out) k hkl
      subst e
      have hnx := Aside0.mk (fun h => any_take_snoc p l k hkl ha.out h)
      have hno := Aside0.mk (any_true_at p l k hkl)
      have hv := hp.out l[k] (List.getElem_mem hkl) A6 c6 wr hb.out hv6
      obtain ⟨x, hx⟩ : ∃ x, l[k] = x := ⟨_, rfl⟩
      rw [hx] at p0 p1 p2 p3 hnx hno hv
      unfold fv at hv
      clear hx hkl hv6
      have i1 : (0 : Int) ≤ (k : Int) := by omega
      have i2 : (k : Int) < (M : Int) := by omega
      cases hvo : p x with
      | false =>
        rw [hvo] at hv
        replace hv := Aside0.mk hv
        have hy := Aside0.mk (hnx.out hvo)
        clear hnx hno hvo
        go_wp2_with fail
        refine hv.out.mono ?_
        rintro e w1 ⟨rfl, hb1⟩
        replace hb1 := Aside0.mk (below_then hb.out hb.out.size hb1)
        go_wp2_with fail
        go_roundw
        case rel => exact ⟨k + 1, by omega, by go_num, hb1, hy⟩
        case measure => simp [intOf]; omega
      | true =>
        rw [hvo] at hv
        replace hv := Aside0.mk hv
        have hy := Aside0.mk (hno.out hvo)
        clear hnx hno hvo
        go_wp2_with fail
        refine hv.out.mono ?_
        rintro e w1 ⟨rfl, hb1⟩
        replace hb1 := Aside0.mk (below_then hb.out hb.out.size hb1)
        go_wp2_with fail
        go_ret
        exact ⟨⟨_, rfl, by rw [hy.out]; simp⟩, hb1.out⟩
    · have hkM : k = M := by omega
      subst hkM
      have h9 : l.any p = false := by
        have h9 := ha.out
        rwa [List.take_of_length_le (by rw [hM.out]; exact Nat.le_refl _)] at h9
      replace h9 := Aside0.mk h9
      go_wp2_with fail
      go_ret
      exact ⟨⟨_, rfl, by rw [h9.out]; rfl⟩, hb.out⟩
set_option maxRecDepth 8000 in
set_option maxHeartbeats 1000000 in
theorem fcontains_calls (fid : FuncId) (he : Enters Try.prog fid) (gb : Nat) (p : Ft → Bool) (A : Option Addr) (c : Nat) (l : List Ft) (w : World) (hl : l.length ≤ 100000) (hC : kF.C w A l.length l) (hp : ∀ x ∈ l, TellsF fid gb p x w) :
    Calls Try.prog 80 #[.slice A l.length c, .func (.func fid) #[] #[.pointer (some ⟨gb, 0, none⟩)]] w fun e w' => e = .returned (.bool (l.any p)) ∧ Below w.heap.size w w' := by
  have hi := Aside0.mk (findex_calls fid he gb p A c l w hl hC hp)
  clear hC hp hl
  generalize l.any p = b at *
  generalize l.length = M at *
  go_enter Try.func80, Try.ntmps80
  go_wp2_with fail
  refine hi.out.mono ?_
  rintro e w1 ⟨⟨r, rfl, hr⟩, hb⟩
  replace hb := Aside0.mk hb
  replace hr := Aside0.mk hr
  go_wp2_with fail
  go_ret
  exact ⟨by rw [← hr.out]; rfl, hb.out⟩
end Go.Proofs.Ytgnmkblaockghaa
