/- FilterMore (plain): more attributes stand in the place of an entry's own. -/
import Derived.Test.YtgnmkblaockghaaKa
import Derived.Test.YtgnmkblaockghaaKe
import Derived.Test.YtgnmkblaockghaaKf
set_option linter.unusedVariables false
set_option linter.unusedSimpArgs false
namespace Go.Proofs.Ytgnmkblaockghaa
open Go.RowKit Go.Shelf Go.Proofs.YtgnmkblaockghaaW.PrintWords Go.Proofs.YtgnmkblaockghaaW.PrintMore Go.Proofs.YtgnmkblaockghaaW.PrintLast

/-- What an entry is with more attributes. -/
def withMore (lm le : List At) : List At := lm ++ le.filter fun a => (getE (small a.f0) lm).length == 0
theorem getE_app (t : ByteArray) (l m : List At) : getE t (l ++ m) = if l.any (fun a => a.f0.toList == t.toList) = true then getE t l else getE t m := by
  induction l with
  | nil => rfl
  | cons a l ih =>
    rw [List.cons_append, getE, getE, List.any_cons]
    by_cases h : (a.f0.toList == t.toList) = true
    · rw [if_pos h, if_pos h, h]; rfl
    · rw [if_neg h, if_neg h, Bool.eq_false_iff.2 h, Bool.false_or, ih]
theorem getE_none (t : ByteArray) (l : List At) (h : l.any (fun a => a.f0.toList == t.toList) = false) : getE t l = [] := by
  have := getE_app t l []
  rw [List.append_nil, h, if_neg (by simp)] at this
  rw [this]; rfl
theorem getE_some (t : ByteArray) (l : List At) (h : l.any (fun a => a.f0.toList == t.toList) = true) (hv : ∀ a ∈ l, 1 ≤ a.f1.length) : 1 ≤ (getE t l).length := by
  induction l with
  | nil => cases h
  | cons a l ih =>
    rw [getE]
    by_cases c : (a.f0.toList == t.toList) = true
    · rw [if_pos c]; exact hv a List.mem_cons_self
    · rw [if_neg c]
      rw [List.any_cons, Bool.eq_false_iff.2 c, Bool.false_or] at h
      exact ih h (fun b hb => hv b (List.mem_cons_of_mem _ hb))
theorem getE_filter (t : ByteArray) (p : At → Bool) (l : List At) (h : ∀ a ∈ l, a.f0.toList = t.toList → p a = true) : getE t (l.filter p) = getE t l := by
  induction l with
  | nil => rfl
  | cons a l ih =>
    have ih' := ih (fun b hb => h b (List.mem_cons_of_mem _ hb))
    by_cases c : (a.f0.toList == t.toList) = true
    · rw [List.filter_cons_of_pos (h a List.mem_cons_self (by simpa using c)), getE, if_pos c, getE, if_pos c]
    · by_cases hp : p a = true
      · rw [List.filter_cons_of_pos hp, getE, if_neg c, getE, if_neg c, ih']
      · rw [List.filter_cons_of_neg hp, getE, if_neg c, ih']
/-- The values of a name with more attributes. -/
theorem getE_with (t : ByteArray) (lm le : List At) (hs : ∀ a ∈ le, (small a.f0).toList = a.f0.toList) (hv : ∀ a ∈ lm, 1 ≤ a.f1.length) :
    getE t (withMore lm le) = if lm.any (fun a => a.f0.toList == t.toList) = true then getE t lm else getE t le := by
  unfold withMore
  rw [getE_app]
  by_cases h : lm.any (fun a => a.f0.toList == t.toList) = true
  · rw [if_pos h, if_pos h]
  · rw [if_neg h, if_neg h]
    refine getE_filter t _ le (fun a ha hat => ?_)
    have e : small a.f0 = t := by
      have h1 : (small a.f0).toList = t.toList := (hs a ha).trans hat
      have h2 : (small a.f0).data.toList = t.data.toList := by
        have h3 := h1
        rw [ByteArray.toList_eq, ByteArray.toList_eq] at h3
        exact h3
      exact ba_ext h2
    rw [e, getE_none t lm (Bool.eq_false_iff.2 h)]
    rfl
/-- Are more attributes fine by themselves, and none there twice? -/
noncomputable def moreFine (names : List ByteArray) : List At → Bool
  | [] => true
  | a :: l => (entOk [a] && !amongS names a.f0) && moreFine (a.f0 :: names) l
theorem moreOk_fine (names : List ByteArray) (lm : List At) : moreOk names lm = if moreFine names lm = true then some ((lm.map fun a => a.f0).reverse ++ names) else none := by
  induction lm generalizing names with
  | nil => rw [moreOk, moreFine, if_pos rfl]; rfl
  | cons a l ih =>
    rw [moreOk, moreFine]
    by_cases h : (entOk [a] && !amongS names a.f0) = true
    · rw [if_pos h, ih, h, Bool.true_and]
      simp
    · rw [if_neg h, Bool.eq_false_iff.2 h, Bool.false_and, if_neg (by simp)]
theorem fine_each (names : List ByteArray) (lm : List At) (h : moreFine names lm = true) : ∀ a ∈ lm, entOk [a] = true := by
  induction lm generalizing names with
  | nil => intro a ha; cases ha
  | cons b l ih =>
    rw [moreFine, Bool.and_eq_true, Bool.and_eq_true] at h
    intro a ha
    rcases List.mem_cons.1 ha with rfl | ha
    · exact h.1.1
    · exact ih _ h.2 a ha
theorem ent_one (a : At) (h : entOk [a] = true) : attrOk a = true := by
  unfold entOk at h
  rw [Bool.and_eq_true] at h
  simpa using h.1
theorem attr_facts (a : At) (h : attrOk a = true) : (small a.f0).toList = a.f0.toList ∧ 1 ≤ a.f1.length := by
  unfold attrOk attrB at h
  simp only [Bool.and_eq_true, Bool.not_eq_true', decide_eq_false_iff_not, beq_iff_eq] at h
  obtain ⟨_, h1, h2, _⟩ := h
  exact ⟨h1, by omega⟩
theorem ent_all (l : List At) (h : entOk l = true) : ∀ a ∈ l, attrOk a = true := by
  unfold entOk at h
  rw [Bool.and_eq_true] at h
  exact List.all_eq_true.1 h.1
theorem among_names (lm : List At) (t : ByteArray) : amongS ((lm.map fun a => a.f0).reverse ++ []) t = lm.any (fun a => a.f0.toList == t.toList) := by
  unfold amongS
  rw [List.append_nil, List.any_reverse, List.any_map]
  rfl
/-- The getter with more attributes is the getter of the entry with them in their places. -/
theorem getF_with (lm le : List At) (hf : moreFine [] lm = true) (he : entOk le = true) : getF ((lm.map fun a => a.f0).reverse ++ []) lm le = getF [] [] (withMore lm le) := by
  funext n
  unfold getF
  rw [among_names, if_neg (show ¬ amongS [] (small n) = true by simp [amongS])]
  exact (getE_with (small n) lm le (fun a ha => (attr_facts a (ent_all le he a ha)).1) (fun a ha => (attr_facts a (ent_one a (fine_each [] lm hf a ha))).2)).symm
theorem more_yes (x : Ft) (le lm : List At) (h : (rightF x && entOk le && moreFine [] lm) = true) : meansR x le lm = (meansT (getF [] [] (withMore lm le)) x, 0) := by
  rw [Bool.and_eq_true, Bool.and_eq_true] at h
  obtain ⟨⟨h1, h2⟩, h3⟩ := h
  unfold meansR
  rw [moreOk_fine, if_pos h3]
  dsimp only
  rw [h1, h2, if_pos (by rfl), getF_with lm le h3 h2]
theorem more_no (x : Ft) (le lm : List At) (h : (rightF x && entOk le && moreFine [] lm) = false) : meansR x le lm = (false, 2) := by
  unfold meansR
  rw [moreOk_fine]
  cases h3 : moreFine [] lm with
  | false => rw [if_neg (by simp)]
  | true =>
    rw [h3, Bool.and_true] at h
    rw [if_pos rfl]
    dsimp only
    rw [h, if_neg (by simp)]
theorem fine_snoc (names : List ByteArray) (l : List At) (a : At) : moreFine names (l ++ [a]) = (moreFine names l && (entOk [a] && !amongS ((l.map fun a => a.f0).reverse ++ names) a.f0)) := by
  induction l generalizing names with
  | nil =>
    rw [List.nil_append, moreFine, moreFine, moreFine]
    simp
  | cons b l ih =>
    rw [List.cons_append, moreFine, moreFine, ih]
    rw [show ((b :: l).map fun a => a.f0).reverse ++ names = (l.map fun a => a.f0).reverse ++ b.f0 :: names by simp]
    simp only [Bool.and_assoc]
/-- One more attribute: fine, and its name not there. -/
theorem fine_take (lm : List At) (i : Nat) (h : i < lm.length) : moreFine [] (lm.take (i + 1)) = (moreFine [] (lm.take i) && (entOk [lm[i]] && !((lm.take i).any fun a => a.f0.toList == lm[i].f0.toList))) := by
  rw [List.take_succ_eq_append_getElem h, fine_snoc, among_names]
theorem mild_with {lm le : List At} (hm : lm.length ≤ 30 ∧ ∀ a ∈ lm, attF a) (he : le.length ≤ 30 ∧ ∀ a ∈ le, attF a) : MildE (withMore lm le) := by
  refine ⟨?_, fun a ha => ?_⟩
  · unfold withMore
    rw [List.length_append]
    have := List.length_filter_le (fun a : At => (getE (small a.f0) lm).length == 0) le
    omega
  · unfold withMore at ha
    rcases List.mem_append.1 ha with h | h
    · obtain ⟨h1, h2, h3⟩ := hm.2 a h
      exact ⟨by omega, by omega, fun s hs => by have := h3 s hs; omega⟩
    · obtain ⟨h1, h2, h3⟩ := he.2 a (List.mem_filter.1 h).1
      exact ⟨by omega, by omega, fun s hs => by have := h3 s hs; omega⟩
end Go.Proofs.Ytgnmkblaockghaa

/- append of an []Attr to an Entry (two types of slices). -/
namespace Go.Proofs.Ytgnmkblaockghaa
open Go.RowKit Go.Shelf Go.Proofs.YtgnmkblaockghaaW.PrintWords Go.Proofs.YtgnmkblaockghaaW.PrintMore Go.Proofs.YtgnmkblaockghaaW.PrintLast
/-- append of an []Attr to an Entry is append of an Entry. -/
theorem append_types (ty : TypeId) (b A : Option Addr) (l k n c : Nat) (w : World) : (Builtin.append_ #[27, 26] ty #[.slice b l k, .slice A n c]).run Try.prog w = (Builtin.append_ #[27, 27] ty #[.slice b l k, .slice A n c]).run Try.prog w := by
  have h6 := Try.underlying26
  have h7 := Try.underlying27
  simp [Builtin.append_, run_underlying h6, run_underlying h7]
theorem wpList_two {ops : Array Oper} {rest : List Oper} {o : Oper} {a : Act} {w : World} {Q : Exit → Act → World → Prop} (hgd : o.guard = none) (s x : Operand)
    (ho : o.op = .call { callee := .builtin .append, args := #[s, x], argTypes := #[27, 26] })
    (b A : Option Addr) (l k n c : Nat) (hs : a.eval s = .slice b l k) (hx : a.eval x = .slice A n c) {v' : Value} {w' : World}
    (hr : (Builtin.append_ #[27, 27] o.type #[.slice b l k, .slice A n c]).run Try.prog w = .ok v' w')
    (h : wpList Try.prog ops Q rest (a.put o.dst v') w') : wpList Try.prog ops Q (o :: rest) a w := by
  refine wpList_plain hgd fun K hK => ?_
  unfold Oper.wp execOp
  rw [← append_types] at hr
  simp only [ho, resolve, invoke, builtin, Sem.run_bind, Sem.run_pure, Result.andThen_ok, List.map_toArray, List.map_cons, List.map_nil, hs, hx, hr]
  exact hK _ _ h
set_option maxRecDepth 8000 in
theorem oper_two {o : Oper} {a : Act} {W : World} {K : Act → World → Prop} {Q : Exit → Act → World → Prop} (s x : Operand)
    (ho : o.op = .call { callee := .builtin .append, args := #[s, x], argTypes := #[27, 26] })
    (b A : Option Addr) (l k n c : Nat) (hs : a.eval s = .slice b l k) (hx : a.eval x = .slice A n c)
    (h : Oper.wp Try.prog { o with op := .call { callee := .builtin .append, args := #[s, x], argTypes := #[27, 27] } } a W K Q) : Oper.wp Try.prog o a W K Q := by
  unfold Oper.wp execOp at h ⊢
  simp only [ho, resolve, invoke, builtin, Sem.run_bind, Sem.run_pure, Result.andThen_ok, List.map_toArray, List.map_cons, List.map_nil, hs, hx, append_types] at h ⊢
  exact h
theorem info47 : (Try.prog.info? 47).map (fun i => (i.zero, i.size, i.bytes)) = some (some (.agg #[.string ⟨#[]⟩, .slice none 0 0]), 2, 40) := by kernel_rfl
set_option maxRecDepth 8000 in
/-- append(all, more...), all being nothing yet. -/
theorem N_append_two {ops : Array Oper} {rest : List Oper} {o : Oper} {a : Act} {w0 W : World} {Q : Exit → Act → World → Prop} (hgd : o.guard = none) (s x : Operand)
    (ho : o.op = .call { callee := .builtin .append, args := #[s, x], argTypes := #[27, 26] })
    (base : Nat) (ys : List At) (A : Option Addr) (m c : Nat) (ok okp : Nat → Prop) (hs : a.eval s = .slice none 0 0) (hx : a.eval x = .slice A m c)
    (HR : Kd.F kA W okp A m ys) (hokp : ∀ k, okp k → ok k) (hfresh : ∀ k, W.heap.size ≤ k → ok k)
    (HB : Below base w0 W) (hbase : base ≤ W.heap.size) (hl : m * 40 ≤ 140737488355328)
    (h : ∀ v1 w1, Kd.N kA 47 w1 base ok v1 ys → Below base w0 w1 → W.grownBy w1 none → ((∃ b, v1.ownBlock = some b ∧ W.heap.size ≤ b) ∨ v1.ownBlock = none) → wpList Try.prog ops Q rest (a.put o.dst v1) w1) :
    wpList Try.prog ops Q (o :: rest) a W := by
  refine wpList_plain hgd fun K hK => ?_
  refine oper_two s x ho none A 0 0 m c hs hx ?_
  have hst := Kd.N_append_rows_step (o := { o with op := .call { callee := .builtin .append, args := #[s, x], argTypes := #[27, 27] } }) (ops := ops) (Kc := K) (Q := Q) (a := a) kA (w0 := w0) (W := W) base (by unfold Region.wanted; rw [show ({ o with op := Op.call { callee := .builtin .append, args := #[s, x], argTypes := #[27, 27] } } : Oper).guard = none from hgd]) s x 27 47 (.agg #[.string ⟨#[]⟩, .slice none 0 0]) 40 rfl Try.underlying27 info47 rfl (by decide) (by decide) (.slice none 0 0) [] ys A m c ok okp hs hx (Kd.N_nil _ _ _ _ _) HR (fun k hk => ⟨hokp k hk, by simp [Value.ownBlock]⟩) hfresh HB hbase (by simpa using hl) (fun v1 w1 h1 h2 h3 h4 => hK _ _ (h v1 w1 h1 h2 h3 (h4.elim (fun e => .inr e) .inl)))
  exact (if_pos (by unfold Region.wanted; rw [show ({ o with op := Op.call { callee := .builtin .append, args := #[s, x], argTypes := #[27, 27] } } : Oper).guard = none from hgd])).mp hst
set_option maxRecDepth 8000 in
/-- append(all, x), as a step of a region that draws no order. -/
theorem N_append_last {ops : Array Oper} {rest : List Oper} {o : Oper} {a : Act} {w0 W : World} {Q : Exit → Act → World → Prop} (hgd : o.guard = none) (s x : Operand)
    (ho : o.op = .call { callee := .builtin .append, args := #[s, x], argTypes := #[27, 27] })
    (base : Nat) (v : Value) (xs : List At) (p : At) (cs : List Value) (ok okp : Nat → Prop) (hs : a.eval s = v) (hx : a.eval x = .slice (some ⟨W.heap.size, 0, none⟩) 1 1)
    (hp : Kd.FK kA W okp p cs) (hokp : ∀ k, okp k → ok k ∧ some k ≠ v.ownBlock) (hfresh : ∀ k, W.heap.size ≤ k → ok k)
    (HO : Kd.N kA 47 W base ok v xs) (HB : Below base w0 W) (hbase : base ≤ W.heap.size) (hl : (xs.length + 1) * 40 ≤ 140737488355328)
    (h : ∀ v1 w1, Kd.N kA 47 w1 base ok v1 (xs ++ [p]) → Below base w0 w1 → wpList Try.prog ops Q rest (a.put o.dst v1) w1) :
    wpList Try.prog ops Q (o :: rest) a (W.alloc (.cells cs.toArray 47)) := by
  refine wpList_plain hgd fun K hK => ?_
  have hst := Kd.N_append_step (o := o) (ops := ops) (Kc := K) (Q := Q) (a := a) kA (w0 := w0) (W := W) base (by unfold Region.wanted; rw [hgd]) s x 27 47 (.agg #[.string ⟨#[]⟩, .slice none 0 0]) 40 ho Try.underlying27 info47 rfl (by decide) (by decide) v xs p cs ok okp hs hx hp hokp hfresh HO HB hbase hl (fun v1 w1 h1 h2 h3 h4 => hK _ _ (h v1 w1 h1 h2))
  exact (if_pos (by unfold Region.wanted; rw [hgd])).mp hst
end Go.Proofs.Ytgnmkblaockghaa

/- FilterMore: the walk . -/
set_option linter.unusedVariables false
set_option linter.unusedSimpArgs false
namespace Go.Proofs.Ytgnmkblaockghaa
open Go.RowKit Go.Shelf Go.Deep Go.ChangeShapes Go.WideShapes Go.Proofs.YtgnmkblaockghaaW.PrintWords Go.Proofs.YtgnmkblaockghaaW.PrintMore Go.Proofs.YtgnmkblaockghaaW.PrintLast

/-- Is an attribute's name not among those? -/
def lacks (lm : List At) (a : At) : Bool := (getE (small a.f0) lm).length == 0
theorem slice_one (A : Option Addr) (M c i : Nat) (hm : i + 1 ≤ M ∧ M ≤ c) : ∀ w', (Instr.slice 26 (.slice A M c) (some (.int .i64 (i : Int))) (some (.int .i64 ((i : Int) + 1))) none).run Try.prog w' = .ok (.slice (if c = i then A else A.map (·.add (i * kA.sz))) 1 (c - i)) w' := by
  intro w'
  rw [run_slice_lh (P := Try.prog) (w := w') 26 A M c (by kernel_rfl) .i64 .i64 (i : Int) ((i : Int) + 1) (by omega) (by omega) (by omega)]
  rw [show (Go.sizeOf (Try.prog.elem 26)).run Try.prog w' = .ok 2 w' by kernel_rfl]
  show Result.ok (sliced A ((i : Int).toNat) ((i : Int) + 1).toNat c 2) w' = _
  rw [show ((i : Int) + 1).toNat = i + 1 by omega, show ((i : Int).toNat) = i from rfl]
  unfold sliced
  rw [Nat.add_sub_cancel_left]
  rfl
theorem row_one {W : World} {A : Option Addr} {M c i : Nat} {l : List At} (h : kA.C W A M l) (hM : l.length = M) (hc : M ≤ c) (hi : i < l.length) : kA.C W (if c = i then A else A.map (·.add (i * kA.sz))) 1 [l[i]] := by
  subst hM
  have h1 := Kd.C_mid (lo := i) (hi := i + 1) (c := c) h (by omega) (by omega) hc
  have e : (l.take (i + 1)).drop i = [l[i]] := by
    rw [List.take_succ_eq_append_getElem hi, List.drop_append_of_le_length (by rw [List.length_take]; omega), List.drop_of_length_le (by rw [List.length_take]; omega)]
    rfl
  rw [e] at h1
  exact h1
set_option maxRecDepth 20000 in
set_option maxHeartbeats 16000000 in
theorem filterMore_walk (a : Ft) (A : Option Addr) (c : Nat) (le lm : List At) (Ae Am : Option Addr) (ce cm : Nat) (w : World) (hv : Fv w a A c) (hce : le.length ≤ ce) (hCe : kA.C w Ae le.length le) (hcm : lm.length ≤ cm) (hCm : kA.C w Am lm.length lm) :
    Calls Try.prog 7 #[fv a A c, .slice Ae le.length ce, .slice Am lm.length cm] w fun e w' => e = .returned (.bool true) ∧ Below w.heap.size w w' := by
  obtain ⟨V, hV⟩ : ∃ V, w.heap.size = V := ⟨_, rfl⟩
  have hb1 := below_alloc (Below.refl w.heap.size w) (.cells #[.int .i64 a.f0, .slice A a.f1.length c, .string a.f2, .string a.f3] 25)
  have hX1 := fbox_new w 25 (.int .i64 a.f0) (.slice A a.f1.length c) (.string a.f2) (.string a.f3)
  obtain ⟨w2, hw2⟩ : ∃ w2, w.alloc (.cells #[.int .i64 a.f0, .slice A a.f1.length c, .string a.f2, .string a.f3] 25) = w2 := ⟨_, rfl⟩
  rw [hw2] at hb1 hX1
  rw [hV] at hX1
  have hC := Aside0.mk (fun W (h : Below w2.heap.size w2 W) => (hX1.below h).cells)
  have hva := Aside0.mk (fun W (h : Below w2.heap.size w2 W) => (hv.below hb1).below h)
  have hee := Aside0.mk (fun W (h : Below w2.heap.size w2 W) => Kd.C_below (Kd.C_below hCe hb1) h)
  have hmm := Aside0.mk (fun W (h : Below w2.heap.size w2 W) => Kd.C_below (Kd.C_below hCm hb1) h)
  have hz := Aside0.mk (Below.refl w2.heap.size w2)
  have hbw' := Aside0.mk (fun W (h : Below w2.heap.size w2 W) => (show Below w.heap.size w W from below_then hb1 hb1.size h))
  obtain ⟨la, hla, hlia⟩ := light_calls a A c w2 (hva.out _ hz.out)
  replace hlia := Aside0.mk hlia
  have hent := Aside0.mk (fun W (h : Below w2.heap.size w2 W) => entries_calls le Ae ce W hce (hee.out W h))
  have henm := Aside0.mk (fun W (h : Below w2.heap.size w2 W) => entries_calls lm Am cm W hcm (hmm.out W h))
  have hkn := Aside0.mk known_calls
  obtain ⟨p0, p1, p2, p3⟩ := hC.out _ hz.out
  replace hla := Aside0.mk hla
  clear hX1 hb1 hv hCe hCm
  have hmeans := Aside0.mk (fun W (hh : Below w2.heap.size w2 W) (hw : wF a ≤ 12000) (h1 : MildE le) (h2 : MildE lm) => Means_calls a A c le lm Ae Am ce cm W (hva.out W hh) hw h1 h2 (hee.out W hh) (hmm.out W hh))
  have hrr := Aside0.mk (fun W (hh : Below w2.heap.size w2 W) (hw : wF a ≤ 12000) => rright_calls a A c W (hva.out W hh) hw)
  have hre := Aside0.mk (fun W (hh : Below w2.heap.size w2 W) (hm : MildE le) => rentry_calls Ae ce le W hm hce (hee.out W hh))
  have hgt := Aside0.mk (fun W (hh : Below w2.heap.size w2 W) (n : ByteArray) (hn : n.size ≤ 12000) (hl : lm.length ≤ 1000) => PFilterBounds.cardcaseref07_Get.calls 13002 (fun _ => True) Am cm lm n (getE (small n) lm) W (Kd.V_mk hcm (Kd.F_mono (Kd.C_F PFilterBounds.k47_heap (hmm.out W hh)) (fun _ _ => trivial))) (get_ours lm n hn hl (Nat.le_refl _)))
  have hrm := Aside0.mk (fun W (hh : Below w2.heap.size w2 W) (hr : rightF a = true) (hw : wF a ≤ 12000) (hm : MildE (withMore lm le)) (Av : Option Addr) (cv : Nat) (hc : (withMore lm le).length ≤ cv) (hC : kA.C W Av (withMore lm le).length (withMore lm le)) => rmeans_calls a A c (withMore lm le) Av cv W hr (hva.out W hh) hw hm hc hC)
  have hlia' : Aside0 (Calls Try.prog 10 #[.agg #[.int .i64 a.f0, .slice A a.f1.length c, .string a.f2, .string a.f3]] w2 fun e w' => e = .returned (.bool la) ∧ Below w2.heap.size w2 w') := hlia
  clear hlia
  generalize hLE : le.length = LE at *
  generalize hLM : lm.length = LM at *
  unfold fv at hmeans hrr hrm ⊢
  replace hLE := Aside0.mk hLE
  replace hLM := Aside0.mk hLM
  cases la with
  | false =>
    go_enter Try.func7, Try.ntmps7
    go_wp2_with fail
    refine hlia'.out.mono ?_
    rintro e w3 ⟨rfl, hb3⟩
    have hbx := Aside0.mk (hbw'.out w3 hb3)
    go_wp2_with fail
    refine (hkn.out w3).mono ?_
    rintro e w4 ⟨rfl, hb4⟩
    replace hbx := Aside0.mk (below_then hbx.out hbx.out.size hb4)
    go_wp2_with fail
    go_ret
    exact ⟨rfl, hbx.out⟩
  | true =>
    have hwa := Aside0.mk (hla.out rfl)
    have hwb := Aside0.mk (show wF a ≤ 12000 by have := hwa.out; omega)
    go_enter Try.func7, Try.ntmps7
    go_wp2_with fail
    refine hlia'.out.mono ?_
    rintro e w3 ⟨rfl, hb3⟩
    obtain ⟨be, hbe, hli⟩ := hent.out w3 hb3
    replace hli := Aside0.mk hli
    replace hbe := Aside0.mk hbe
    replace hb3 := Aside0.mk hb3
    clear p0 p1 p2 p3
    cases be with
    | false =>
      go_wp2_with fail
      refine hli.out.mono ?_
      rintro e w4 ⟨rfl, hb4⟩
      have hbx := Aside0.mk (hbw'.out w4 (below_then hb3.out hb3.out.size hb4))
      go_wp2_with fail
      refine (hkn.out w4).mono ?_
      rintro e w5 ⟨rfl, hb5⟩
      replace hbx := Aside0.mk (below_then hbx.out hbx.out.size hb5)
      go_wp2_with fail
      go_ret
      exact ⟨rfl, hbx.out⟩
    | true =>
      have hm := Aside0.mk (mild_of (l := le) (by rw [hLE.out]; exact hbe.out rfl))
      by_cases h5 : LM ≤ 5
      · have d5 : decide ((LM : Int) > 5) = false := decide_eq_false (by omega)
        go_wp2_with fail
        refine hli.out.mono ?_
        rintro e w4 ⟨rfl, hb4⟩
        have hb4 := Aside0.mk (below_then hb3.out hb3.out.size hb4)
        obtain ⟨bm, hbm, hlm⟩ := henm.out w4 hb4.out
        replace hlm := Aside0.mk hlm
        replace hbm := Aside0.mk hbm
        cases bm with
        | false =>
          go_wp2_with fail
          refine hlm.out.mono ?_
          rintro e w5 ⟨rfl, hb5⟩
          have hbx := Aside0.mk (hbw'.out w5 (below_then hb4.out hb4.out.size hb5))
          go_wp2_with fail
          refine (hkn.out w5).mono ?_
          rintro e w6 ⟨rfl, hb6⟩
          replace hbx := Aside0.mk (below_then hbx.out hbx.out.size hb6)
          go_wp2_with fail
          go_ret
          exact ⟨rfl, hbx.out⟩
        | true =>
          have hmM := Aside0.mk (mild_of (l := lm) (by rw [hLM.out]; exact hbm.out rfl))
          go_wp2_with fail
          refine hlm.out.mono ?_
          rintro e w5 ⟨rfl, hb5⟩
          have hb5 := Aside0.mk (below_then hb4.out hb4.out.size hb5)
          obtain ⟨p0, p1, p2, p3⟩ := hC.out w5 hb5.out
          obtain ⟨X, hX⟩ : ∃ X, meansR a le lm = X := ⟨_, rfl⟩
          rw [hX] at hmeans
          obtain ⟨x1, x2⟩ := X
          dsimp only at hmeans
          replace hX := Aside0.mk hX
          go_wp2_with fail
          refine (hmeans.out w5 hb5.out hwb.out hm.out hmM.out).mono ?_
          rintro e w6 ⟨rfl, hb6⟩
          have hb6 := Aside0.mk (below_then hb5.out hb5.out.size hb6)
          clear p0 p1 p2 p3
          obtain ⟨p0, p1, p2, p3⟩ := hC.out w6 hb6.out
          go_wp2_with fail
          refine (hrr.out w6 hb6.out hwb.out).mono ?_
          rintro e w7 ⟨rfl, hb7⟩
          replace hb6 := Aside0.mk (below_then hb6.out hb6.out.size hb7)
          clear hb7 p0 p1 p2 p3
          generalize hrf : rightF a = rf at *
          cases rf with
          | false =>
            have hFm := Aside0.mk (Kd.C_F PFilterBounds.k47_heap (hmm.out w7 hb6.out))
            have hz7 := Aside0.mk (Below.refl w7.heap.size w7)
            have hXX := hX.out.symm.trans (more_no a le lm (by rw [hrf]; rfl))
            obtain ⟨rfl, rfl⟩ : x1 = false ∧ x2 = 2 := by simpa using hXX
            clear hXX
            go_wp2_with (first | ((with_reducible refine gate_builtin (b := .append) (xs := #[.const (.slice none 0 0), .tmp 46]) rfl ?_); at_builtin; (refine N_append_two (w0 := w7) rfl (.const (.slice none 0 0)) (.tmp 46) rfl w7.heap.size lm Am LM cm (fun _ => True) (fun k => k < w7.heap.size) rfl rfl hFm.out (fun _ _ => trivial) (fun _ _ => trivial) hz7.out (Nat.le_refl _) (by omega) ?_); intro v1 w9 hN9 hb9 hg9 hat9; clear hN9 hg9 hat9; replace hb9 := Aside0.mk hb9))
            have hz9 := Aside0.mk (Below.refl w9.heap.size w9)
            have hb69 := Aside0.mk (below_then hb6.out hb6.out.size hb9.out)
            go_loopw [9, 11, 12] (fun s9 s11 s12 wr => ∃ i : Nat, i ≤ LM ∧ s9 = .bool false ∧ s11 = .int .i64 i ∧ Aside0 (Below w9.heap.size w9 wr)) (fun _ s11 _ _ => LM - (intOf s11).toNat)
            case atStart => exact ⟨0, Nat.zero_le _, rfl, rfl, hz9⟩
            case round =>
              obtain ⟨i, hi, rfl, rfl, hbr⟩ := hrel
              by_cases hlt : i < LM
              · go_wp2_with fail
                go_loopw [9, 12] (fun s9 s12 wq => ∃ k : Nat, k ≤ i ∧ s9 = .bool false ∧ s12 = .int .i64 k ∧ Aside0 (Below w9.heap.size w9 wq)) (fun _ s12 _ => i - (intOf s12).toNat)
                case atStart => exact ⟨0, Nat.zero_le _, rfl, rfl, hbr⟩
                case round =>
                  obtain ⟨k, hk, rfl, rfl, hbq⟩ := hrel
                  by_cases hlk : k < i
                  · go_wp2_with fail
                    refine start_ (n := 15) (S := fun w' => True) (ds := []) (B_ 15 0) (by kernel_rfl) rfl rfl trivial (fun hHeld => ?_)
                    refine pn_ 0 68 (B_ 15 1) rfl rfl ?_
                    refine pn_ 1 69 (B_ 15 3) rfl rfl ?_
                    refine po_ 2 70 (B_ 15 7) rfl rfl ?_
                    refine po_ 3 71 (B_ 15 15) rfl rfl ?_
                    refine po_ 4 72 (B_ 15 31) rfl rfl ?_
                    refine po_ 5 73 (B_ 15 63) rfl rfl ?_
                    refine po_ 6 74 (B_ 15 127) rfl rfl ?_
                    refine po_ 7 75 (B_ 15 255) rfl rfl ?_
                    refine po_ 8 76 (B_ 15 511) rfl rfl ?_
                    refine po_ 9 77 (B_ 15 1023) rfl rfl ?_
                    refine po_ 10 78 (B_ 15 2047) rfl rfl ?_
                    refine po_ 11 79 (B_ 15 4095) rfl rfl ?_
                    refine po_ 12 80 (B_ 15 8191) rfl rfl ?_
                    refine pn_ 13 81 (B_ 15 16383) rfl rfl ?_
                    refine pn_ 14 9 (B_ 15 32767) rfl rfl ?_
                    refine done_ (by kernel_rfl) ?_
                    go_wp2_with fail
                    go_roundw
                    case rel => exact ⟨k + 1, by omega, rfl, by go_num, ⟨hbq.out.trans (below_drew (Below.refl _ _))⟩⟩
                    case measure => simp [intOf]; omega
                  · obtain rfl : k = i := by omega
                    go_wp2_with fail
                    go_roundw
                    case rel => exact ⟨k + 1, by omega, rfl, by go_num, hbq⟩
                    case measure => simp [intOf]; omega
              · obtain rfl : i = LM := by omega
                have hbx := Aside0.mk (hbw'.out wr (below_then hb69.out hb69.out.size hbr.out))
                go_wp2_with fail
                refine (hkn.out wr).mono ?_
                rintro e w10 ⟨rfl, hb10⟩
                replace hbx := Aside0.mk (below_then hbx.out hbx.out.size hb10)
                go_wp2_with fail
                go_ret
                exact ⟨rfl, hbx.out⟩
          | true =>
            go_wp2_with fail
            refine (hre.out w7 hb6.out hm.out).mono ?_
            rintro e w8 ⟨rfl, hb8⟩
            replace hb6 := Aside0.mk (below_then hb6.out hb6.out.size hb8)
            clear hb8
            have hFm := Aside0.mk (Kd.C_F PFilterBounds.k47_heap (hmm.out w8 hb6.out))
            have hz8 := Aside0.mk (Below.refl w8.heap.size w8)
            go_wp2_with (first | ((with_reducible refine gate_builtin (b := .append) (xs := #[.const (.slice none 0 0), .tmp 46]) rfl ?_); at_builtin; (refine N_append_two (w0 := w8) rfl (.const (.slice none 0 0)) (.tmp 46) rfl w8.heap.size lm Am LM cm (fun _ => True) (fun k => k < w8.heap.size) rfl rfl hFm.out (fun _ _ => trivial) (fun _ _ => trivial) hz8.out (Nat.le_refl _) (by omega) ?_); intro v1 w9 hN9 hb9 hg9 hat9; replace hN9 := Aside0.mk hN9; replace hb9 := Aside0.mk hb9; replace hg9 := Aside0.mk hg9; replace hat9 := Aside0.mk hat9))
            have hF0 := Aside0.mk (show (entOk le && moreFine [] (lm.take 0)) = entOk le by simp [moreFine])
            have hz9 := Aside0.mk (Below.refl w9.heap.size w9)
            have hb69 := Aside0.mk (below_then hb6.out hb6.out.size hb9.out)
            generalize hE0 : entOk le = eo at *
            go_loopw [9, 11, 12] (fun s9 s11 s12 wr => ∃ (i : Nat) (F : Bool), i ≤ LM ∧ s9 = .bool F ∧ s11 = .int .i64 i ∧ Aside0 ((eo && moreFine [] (lm.take i)) = F) ∧ Aside0 (Below w9.heap.size w9 wr)) (fun _ s11 _ _ => LM - (intOf s11).toNat)
            case atStart => exact ⟨0, eo, Nat.zero_le _, rfl, rfl, hF0, hz9⟩
            case round =>
              obtain ⟨i, F, hi, rfl, rfl, hF, hbr⟩ := hrel
              by_cases hlt : i < LM
              · have hil : i < lm.length := by rw [hLM.out]; exact hlt
                have hft := Aside0.mk (fine_take lm i hil)
                cases F with
                | false =>
                  have hF' := Aside0.mk (show (eo && moreFine [] (lm.take (i + 1))) = false by
                    have h := hF.out
                    rw [hft.out]
                    cases eo
                    · rfl
                    · rw [Bool.true_and] at h ⊢
                      rw [h]; rfl)
                  go_wp2_with fail
                  go_loopw [9, 12] (fun s9 s12 wq => ∃ k : Nat, k ≤ i ∧ s9 = .bool false ∧ s12 = .int .i64 k ∧ Aside0 (Below w9.heap.size w9 wq)) (fun _ s12 _ => i - (intOf s12).toNat)
                  case atStart => exact ⟨0, Nat.zero_le _, rfl, rfl, hbr⟩
                  case round =>
                    obtain ⟨k, hk, rfl, rfl, hbq⟩ := hrel
                    by_cases hlk : k < i
                    · go_wp2_with fail
                      refine start_ (n := 15) (S := fun w' => True) (ds := []) (B_ 15 0) (by kernel_rfl) rfl rfl trivial (fun hHeld => ?_)
                      refine pn_ 0 68 (B_ 15 1) rfl rfl ?_
                      refine pn_ 1 69 (B_ 15 3) rfl rfl ?_
                      refine po_ 2 70 (B_ 15 7) rfl rfl ?_
                      refine po_ 3 71 (B_ 15 15) rfl rfl ?_
                      refine po_ 4 72 (B_ 15 31) rfl rfl ?_
                      refine po_ 5 73 (B_ 15 63) rfl rfl ?_
                      refine po_ 6 74 (B_ 15 127) rfl rfl ?_
                      refine po_ 7 75 (B_ 15 255) rfl rfl ?_
                      refine po_ 8 76 (B_ 15 511) rfl rfl ?_
                      refine po_ 9 77 (B_ 15 1023) rfl rfl ?_
                      refine po_ 10 78 (B_ 15 2047) rfl rfl ?_
                      refine po_ 11 79 (B_ 15 4095) rfl rfl ?_
                      refine po_ 12 80 (B_ 15 8191) rfl rfl ?_
                      refine pn_ 13 81 (B_ 15 16383) rfl rfl ?_
                      refine pn_ 14 9 (B_ 15 32767) rfl rfl ?_
                      refine done_ (by kernel_rfl) ?_
                      go_wp2_with fail
                      go_roundw
                      case rel => exact ⟨k + 1, by omega, rfl, by go_num, ⟨hbq.out.trans (below_drew (Below.refl _ _))⟩⟩
                      case measure => simp [intOf]; omega
                    · obtain rfl : k = i := by omega
                      go_wp2_with fail
                      go_roundw
                      case rel => exact ⟨k + 1, false, by omega, rfl, by go_num, hF', hbq⟩
                      case measure => simp [intOf]; omega
                | true =>
                  have hsl := slice_one Am LM cm i ⟨hlt, hcm⟩
                  have hC1 := row_one (hmm.out wr (below_then hb69.out hb69.out.size hbr.out)) hLM.out hcm hil
                  have hc15 := Aside0.mk (rentry_calls _ (cm - i) [lm[i]] wr ⟨by simp, fun a ha => by
                    obtain rfl : a = lm[i] := by simpa using ha
                    exact hmM.out.2 _ (List.getElem_mem hil)⟩ (by show 1 ≤ cm - i; omega) hC1)
                  obtain ⟨A1, hA1⟩ : ∃ A1, (if cm = i then Am else Am.map (·.add (i * kA.sz))) = A1 := ⟨_, rfl⟩
                  rw [hA1] at hsl hc15
                  clear hA1
                  obtain ⟨e1, he1⟩ : ∃ e1, entOk [lm[i]] = e1 := ⟨_, rfl⟩
                  rw [he1] at hc15 hft
                  replace he1 := Aside0.mk he1
                  dsimp only [List.length_cons, List.length_nil] at hc15
                  have i1 : (0 : Int) ≤ (i : Int) := by omega
                  have i2 : wrap64 ((i : Int) + 1) = (i : Int) + 1 := wrap_in _ (by omega)
                  clear hC1
                  go_wp2_with fail
                  refine hc15.out.mono ?_
                  rintro e w10 ⟨rfl, hb10⟩
                  have hbr10 := Aside0.mk (below_then hbr.out hbr.out.size hb10)
                  clear hb10 hc15
                  go_wp2_with fail
                  have hG0 := Aside0.mk (show (e1 && !((lm.take 0).any fun a => a.f0.toList == lm[i].f0.toList)) = e1 by simp)
                  have hasn := Aside0.mk (fun (k : Nat) (hk : k < lm.length) => (show (lm.take (k + 1)).any (fun a => a.f0.toList == lm[i].f0.toList) = ((lm.take k).any (fun a => a.f0.toList == lm[i].f0.toList) || (lm[k].f0.toList == lm[i].f0.toList)) by rw [List.take_succ_eq_append_getElem hk, List.any_append]; simp))
                  go_loopw [9, 12] (fun s9 s12 wr => ∃ (k : Nat) (G : Bool), k ≤ i ∧ s9 = .bool G ∧ s12 = .int .i64 k ∧ Aside0 ((e1 && !((lm.take k).any fun a => a.f0.toList == lm[i].f0.toList)) = G) ∧ Aside0 (Below w9.heap.size w9 wr)) (fun _ s12 _ => i - (intOf s12).toNat)
                  case atStart => exact ⟨0, e1, Nat.zero_le _, rfl, rfl, hG0, hbr10⟩
                  case round =>
                    obtain ⟨k, G, hk, rfl, rfl, hG, hbq⟩ := hrel
                    by_cases hlk : k < i
                    · have hkl : k < lm.length := by omega
                      have hst := hasn.out k hkl
                      cases G with
                      | false =>
                        have hG2 := Aside0.mk (show (e1 && !((lm.take (k + 1)).any fun a => a.f0.toList == lm[i].f0.toList)) = false by
                          have h := hG.out
                          rw [hst]
                          cases e1
                          · rfl
                          · rw [Bool.true_and] at h ⊢
                            rw [Bool.not_eq_false'] at h
                            rw [h]; rfl)
                        clear hst
                        go_wp2_with fail
                        refine start_ (n := 15) (S := fun w' => True) (ds := []) (B_ 15 0) (by kernel_rfl) rfl rfl trivial (fun hHeld => ?_)
                        refine pn_ 0 68 (B_ 15 1) rfl rfl ?_
                        refine pn_ 1 69 (B_ 15 3) rfl rfl ?_
                        refine po_ 2 70 (B_ 15 7) rfl rfl ?_
                        refine po_ 3 71 (B_ 15 15) rfl rfl ?_
                        refine po_ 4 72 (B_ 15 31) rfl rfl ?_
                        refine po_ 5 73 (B_ 15 63) rfl rfl ?_
                        refine po_ 6 74 (B_ 15 127) rfl rfl ?_
                        refine po_ 7 75 (B_ 15 255) rfl rfl ?_
                        refine po_ 8 76 (B_ 15 511) rfl rfl ?_
                        refine po_ 9 77 (B_ 15 1023) rfl rfl ?_
                        refine po_ 10 78 (B_ 15 2047) rfl rfl ?_
                        refine po_ 11 79 (B_ 15 4095) rfl rfl ?_
                        refine po_ 12 80 (B_ 15 8191) rfl rfl ?_
                        refine pn_ 13 81 (B_ 15 16383) rfl rfl ?_
                        refine pn_ 14 9 (B_ 15 32767) rfl rfl ?_
                        refine done_ (by kernel_rfl) ?_
                        go_wp2_with fail
                        go_roundw
                        case rel => exact ⟨k + 1, false, by omega, rfl, by go_num, hG2, ⟨hbq.out.trans (below_drew (Below.refl _ _))⟩⟩
                        case measure => simp [intOf]; omega
                      | true =>
                        have hCr := hmm.out wr (below_then hb69.out hb69.out.size hbq.out)
                        obtain ⟨ad, A6, c6, e, p0, _, _, _⟩ := kA_at hCr k hkl
                        obtain ⟨ad', A7, c7, e', p1, _, _, _⟩ := kA_at hCr i hil
                        rw [e] at e'
                        injection e' with e'
                        subst e'
                        subst e
                        have k1 : (0 : Int) ≤ (k : Int) := by omega
                        have k2 : (k : Int) < (LM : Int) := by omega
                        have i3 : (i : Int) < (LM : Int) := by omega
                        obtain ⟨sk, hsk⟩ : ∃ sk, lm[k].f0 = sk := ⟨_, rfl⟩
                        obtain ⟨si, hsi⟩ : ∃ si, lm[i].f0 = si := ⟨_, rfl⟩
                        rw [hsk] at p0 hst
                        rw [hsi] at p1
                        replace hst := Aside0.mk (show _ = (((lm.take k).any fun a => a.f0.toList == lm[i].f0.toList) || (sk.toList == si.toList)) from hst.trans (by rw [hsi]))
                        clear hCr hsl
                        cases hv : (sk.toList == si.toList) with
                        | true =>
                          have hv2 : (!(sk.toList == si.toList)) = false := by rw [hv]; rfl
                          have hv3 : (sk.toList != si.toList) = false := by unfold bne; rw [hv]; rfl
                          have hG2 := Aside0.mk (show (e1 && !((lm.take (k + 1)).any fun a => a.f0.toList == lm[i].f0.toList)) = false by
                            have h := hG.out
                            rw [hst.out, hv]
                            revert h
                            generalize ((lm.take k).any fun a => a.f0.toList == lm[i].f0.toList) = z
                            cases e1 <;> cases z <;> simp)
                          go_wp2_with fail
                          refine start_ (n := 15) (S := fun w' => w'.cell? (ad.add (k * 2)) = some (.string sk) ∧ w'.cell? (ad.add (i * 2)) = some (.string si)) (ds := []) (B_ 15 0) (by kernel_rfl) rfl rfl ⟨(And.intro p0 p1).1, (And.intro p0 p1).2⟩ (fun hHeld => ?_)
                          refine pn_ 0 68 (B_ 15 1) rfl rfl ?_
                          refine pn_ 1 69 (B_ 15 3) rfl rfl ?_
                          refine pn_ 2 70 (B_ 15 7) rfl rfl ?_
                          refine pn_ 3 71 (B_ 15 15) rfl rfl ?_
                          refine pn_ 4 72 (B_ 15 31) rfl rfl ?_
                          refine pn_ 5 73 (B_ 15 63) rfl rfl ?_
                          refine pn_ 7 75 (B_ 15 191) rfl rfl ?_
                          refine pn_ 8 76 (B_ 15 447) rfl rfl ?_
                          refine pn_ 9 77 (B_ 15 959) rfl rfl ?_
                          refine pn_ 10 78 (B_ 15 1983) rfl rfl ?_
                          refine tk_ 6 74 (B_ 15 2047) rfl rfl hHeld (by rintro w' ⟨s0, s1⟩; go_simp; with_reducible rfl) ?_
                          refine tk_ 11 79 (B_ 15 4095) rfl rfl hHeld (by rintro w' ⟨s0, s1⟩; go_simp; with_reducible rfl) ?_
                          refine pn_ 12 80 (B_ 15 8191) rfl rfl ?_
                          refine pn_ 13 81 (B_ 15 16383) rfl rfl ?_
                          refine pn_ 14 9 (B_ 15 32767) rfl rfl ?_
                          refine done_ (by kernel_rfl) ?_
                          go_wp2_with fail
                          go_roundw
                          case rel => exact ⟨k + 1, false, by omega, rfl, by go_num, hG2, ⟨hbq.out.trans (below_drew (Below.refl _ _))⟩⟩
                          case measure => simp [intOf]; omega
                        | false =>
                          have hv2 : (!(sk.toList == si.toList)) = true := by rw [hv]; rfl
                          have hv3 : (sk.toList != si.toList) = true := by unfold bne; rw [hv]; rfl
                          have hG2 := Aside0.mk (show (e1 && !((lm.take (k + 1)).any fun a => a.f0.toList == lm[i].f0.toList)) = true by
                            have h := hG.out
                            rw [hst.out, hv]
                            revert h
                            generalize ((lm.take k).any fun a => a.f0.toList == lm[i].f0.toList) = z
                            cases e1 <;> cases z <;> simp)
                          go_wp2_with fail
                          refine start_ (n := 15) (S := fun w' => w'.cell? (ad.add (k * 2)) = some (.string sk) ∧ w'.cell? (ad.add (i * 2)) = some (.string si)) (ds := []) (B_ 15 0) (by kernel_rfl) rfl rfl ⟨(And.intro p0 p1).1, (And.intro p0 p1).2⟩ (fun hHeld => ?_)
                          refine pn_ 0 68 (B_ 15 1) rfl rfl ?_
                          refine pn_ 1 69 (B_ 15 3) rfl rfl ?_
                          refine pn_ 2 70 (B_ 15 7) rfl rfl ?_
                          refine pn_ 3 71 (B_ 15 15) rfl rfl ?_
                          refine pn_ 4 72 (B_ 15 31) rfl rfl ?_
                          refine pn_ 5 73 (B_ 15 63) rfl rfl ?_
                          refine pn_ 7 75 (B_ 15 191) rfl rfl ?_
                          refine pn_ 8 76 (B_ 15 447) rfl rfl ?_
                          refine pn_ 9 77 (B_ 15 959) rfl rfl ?_
                          refine pn_ 10 78 (B_ 15 1983) rfl rfl ?_
                          refine tk_ 6 74 (B_ 15 2047) rfl rfl hHeld (by rintro w' ⟨s0, s1⟩; go_simp; with_reducible rfl) ?_
                          refine tk_ 11 79 (B_ 15 4095) rfl rfl hHeld (by rintro w' ⟨s0, s1⟩; go_simp; with_reducible rfl) ?_
                          refine pn_ 12 80 (B_ 15 8191) rfl rfl ?_
                          refine pn_ 13 81 (B_ 15 16383) rfl rfl ?_
                          refine pn_ 14 9 (B_ 15 32767) rfl rfl ?_
                          refine done_ (by kernel_rfl) ?_
                          go_wp2_with fail
                          go_roundw
                          case rel => exact ⟨k + 1, true, by omega, rfl, by go_num, hG2, ⟨hbq.out.trans (below_drew (Below.refl _ _))⟩⟩
                          case measure => simp [intOf]; omega
                    · obtain rfl : k = i := by omega
                      have hF' := Aside0.mk (show (eo && moreFine [] (lm.take (k + 1))) = G by
                        have h := hF.out
                        rw [hft.out, ← hG.out]
                        cases eo
                        · rw [Bool.false_and] at h; cases h
                        · rw [Bool.true_and] at h ⊢
                          rw [h, Bool.true_and])
                      go_wp2_with fail
                      go_roundw
                      case rel => exact ⟨k + 1, G, by omega, rfl, by go_num, hF', hbq⟩
                      case measure => simp [intOf]; omega
              · obtain rfl : i = LM := by omega
                have hFe : (eo && moreFine [] lm) = F := by have h := hF.out; rw [List.take_of_length_le (by rw [hLM.out]; omega)] at h; exact h
                cases F with
                | false =>
                  have hXX := hX.out.symm.trans (more_no a le lm (by rw [hrf, hE0, Bool.true_and]; exact hFe))
                  obtain ⟨rfl, rfl⟩ : x1 = false ∧ x2 = 2 := by simpa using hXX
                  have hbx := Aside0.mk (hbw'.out wr (below_then hb69.out hb69.out.size hbr.out))
                  clear hXX hFe
                  go_wp2_with fail
                  refine (hkn.out wr).mono ?_
                  rintro e w10 ⟨rfl, hb10⟩
                  replace hbx := Aside0.mk (below_then hbx.out hbx.out.size hb10)
                  go_wp2_with fail
                  go_ret
                  exact ⟨rfl, hbx.out⟩
                | true =>
                  have hXX := hX.out.symm.trans (more_yes a le lm (by rw [hrf, hE0, Bool.true_and]; exact hFe))
                  obtain ⟨mt, hmt⟩ : ∃ mt, meansT (getF [] [] (withMore lm le)) a = mt := ⟨_, rfl⟩
                  rw [hmt] at hXX hrm
                  obtain ⟨rfl, rfl⟩ : x1 = mt ∧ x2 = 0 := by simpa using hXX
                  clear hXX hFe hmt
                  have hN10 := Aside0.mk (show Kd.N kA 47 wr w8.heap.size (fun _ => True) v1 (lm ++ (le.take 0).filter (lacks lm)) by rw [List.take_zero, List.filter_nil, List.append_nil]; exact Kd.N_below hN9.out hbr.out)
                  have hb810 := Aside0.mk (below_then hb9.out hb9.out.size hbr.out)
                  have hLE5 : (LE : Int) ≤ 1000 := by have := hm.out.1; rw [hLE.out] at this; omega
                  clear hbr hN9
                  go_wp2_with fail
                  go_loopw [10, 13] (fun s10 s13 wq => ∃ (k : Nat) (v : Value), k ≤ LE ∧ s10 = v ∧ s13 = .int .i64 k ∧ Aside0 (Kd.N kA 47 wq w8.heap.size (fun _ => True) v (lm ++ (le.take k).filter (lacks lm))) ∧ Aside0 (Below w8.heap.size w8 wq)) (fun _ s13 _ => LE - (intOf s13).toNat)
                  case atStart => exact ⟨0, _, Nat.zero_le _, rfl, rfl, hN10, hb810⟩
                  case round =>
                    clear hN10 hb810
                    obtain ⟨k, v, hk, rfl, rfl, hNq, hbq⟩ := hrel
                    by_cases hlk : k < LE
                    · have hkl : k < le.length := by rw [hLE.out]; exact hlk
                      obtain ⟨ad, A6, c6, eA, p0, p1, hc6, hC6⟩ := kA_at (hee.out w8 hb6.out) k hkl
                      subst eA
                      have hxs := (hm.out.2 le[k] (List.getElem_mem hkl)).1
                      have hst : (le.take (k + 1)).filter (lacks lm) = (le.take k).filter (lacks lm) ++ if lacks lm le[k] = true then [le[k]] else [] := by
                        rw [List.take_succ_eq_append_getElem hkl, List.filter_append, List.filter_cons, List.filter_nil]
                      have hlen := Aside0.mk (show ((lm ++ (le.take k).filter (lacks lm)).length + 1) * 40 ≤ 140737488355328 by
                        have h1 := List.length_filter_le (lacks lm) (le.take k)
                        rw [List.length_take] at h1
                        rw [List.length_append, hLM.out]
                        omega)
                      obtain ⟨x, hx⟩ : ∃ x, le[k] = x := ⟨_, rfl⟩
                      rw [hx] at p0 p1 hc6 hC6 hxs hst
                      clear hx
                      obtain ⟨s6, vs6⟩ := x
                      dsimp only at p0 p1 hc6 hC6 hxs
                      have hFK := Aside0.mk (PFilterBounds.k47_mkF w8 (fun q => q < w8.heap.size) ⟨s6, vs6⟩ hc6 (Kd.C_F Kd.heap_string hC6))
                      have hcl := Aside0.mk (hgt.out wr (below_then hb6.out hb6.out.size hbq.out) s6 hxs (by omega))
                      have r0 := pw_cell_below hbq.out p0
                      have r1 := pw_cell_below hbq.out p1
                      have k1 : (0 : Int) ≤ (k : Int) := by omega
                      have k2 : (k : Int) < (LE : Int) := by omega
                      replace p0 := Aside0.mk p0
                      replace p1 := Aside0.mk p1
                      replace hst := Aside0.mk hst
                      clear hC6 hc6 hxs
                      go_wp2_with fail
                      refine hcl.out.mono ?_
                      rintro e w10 ⟨v0, rfl, hV0, hb10⟩
                      obtain ⟨A0, c0, rfl⟩ := Kd.V_slice hV0
                      have hb810 := Aside0.mk (below_then hbq.out hbq.out.size hb10)
                      have hN10 := Aside0.mk (Kd.N_below hNq.out hb10)
                      have hFK10 := Aside0.mk (Kd.FK_below hFK.out hb810.out)
                      have t0 := pw_cell_below hb810.out p0.out
                      have t1 := pw_cell_below hb810.out p1.out
                      have hla : lacks lm ⟨s6, vs6⟩ = ((getE (small s6) lm).length == 0) := rfl
                      obtain ⟨g, hg⟩ : ∃ g, (getE (small s6) lm).length = g := ⟨_, rfl⟩
                      rw [hg] at hla ⊢
                      replace hla := Aside0.mk hla
                      clear hg hV0 hcl r0 r1 hNq hb10
                      by_cases hz : g = 0
                      · have e1 : ((g : Int) == 0) = true := by simp; omega
                        have hst2 := Aside0.mk (show lm ++ (le.take (k + 1)).filter (lacks lm) = lm ++ (le.take k).filter (lacks lm) ++ [⟨s6, vs6⟩] by rw [hst.out, if_pos (by rw [hla.out, hz]; rfl), List.append_assoc])
                        go_wp2_with (first | ((with_reducible refine gate_builtin (b := .append) (xs := #[.tmp 108, .tmp 113]) rfl ?_); at_builtin; (refine N_append_last (w0 := w8) (W := w10) rfl (.tmp 108) (.tmp 113) rfl w8.heap.size _ (lm ++ (le.take k).filter (lacks lm)) ⟨s6, vs6⟩ [.string s6, .slice A6 vs6.length c6] (fun _ => True) (fun q => q < w8.heap.size) rfl rfl hFK10.out (fun q hq => ⟨trivial, fun e => by have h1 := Kd.N_base hN10.out q e.symm; have h2 : q < w8.heap.size := hq; omega⟩) (fun _ _ => trivial) hN10.out hb810.out hb810.out.size hlen.out ?_); intro v2 w11 hN11 hb11; replace hN11 := Aside0.mk (hst2.out ▸ hN11); replace hb11 := Aside0.mk hb11))
                        go_roundw
                        case rel => exact ⟨k + 1, _, by omega, rfl, by go_num, hN11, hb11⟩
                        case measure => simp [intOf]; omega
                      · have e1 : ((g : Int) == 0) = false := by simp; omega
                        have hst2 := Aside0.mk (show lm ++ (le.take (k + 1)).filter (lacks lm) = lm ++ (le.take k).filter (lacks lm) by rw [hst.out, if_neg (by rw [hla.out]; simpa using hz), List.append_nil])
                        have hN11 := Aside0.mk (hst2.out ▸ hN10.out)
                        go_wp2_with fail
                        go_roundw
                        case rel => exact ⟨k + 1, _, by omega, rfl, by go_num, hN11, hb810⟩
                        case measure => simp [intOf]; omega
                    · obtain rfl : k = LE := by omega
                      obtain ⟨Av, cv, rfl⟩ := Kd.N_slice hNq.out
                      have hall : lm ++ (le.take k).filter (lacks lm) = withMore lm le := by rw [List.take_of_length_le (by rw [hLE.out]; omega)]; rfl
                      rw [hall] at hNq ⊢
                      obtain ⟨_, hcv, hCv⟩ := Kd.N_reads' hNq.out
                      have hbx := Aside0.mk (below_then hb6.out hb6.out.size hbq.out)
                      have hcl := Aside0.mk (hrm.out wr hbx.out (by first | exact hrf | trivial) hwb.out (mild_with (by rw [hLM.out]; exact hbm.out (by first | rfl | trivial)) (by rw [hLE.out]; exact hbe.out (by first | rfl | trivial))) Av cv hcv hCv)
                      obtain ⟨NL, hNL⟩ : ∃ NL, (withMore lm le).length = NL := ⟨_, rfl⟩
                      rw [hNL] at hcl ⊢
                      obtain ⟨p0, p1, p2, p3⟩ := hC.out wr hbx.out
                      have hbb : (x1 == x1) = true := by simp
                      clear hall hcv hCv hNL
                      go_wp2_with fail
                      refine hcl.out.mono ?_
                      rintro e w10 ⟨rfl, hb10⟩
                      replace hbx := Aside0.mk (below_then hbx.out hbx.out.size hb10)
                      go_wp2_with fail
                      refine (hkn.out w10).mono ?_
                      rintro e w11 ⟨rfl, hb11⟩
                      have hbz := Aside0.mk (hbw'.out w11 (below_then hbx.out hbx.out.size hb11))
                      go_wp2_with fail
                      go_ret
                      exact ⟨rfl, hbz.out⟩
      · have d5 : decide ((LM : Int) > 5) = true := decide_eq_true (by omega)
        go_wp2_with fail
        refine hli.out.mono ?_
        rintro e w4 ⟨rfl, hb4⟩
        have hbx := Aside0.mk (hbw'.out w4 (below_then hb3.out hb3.out.size hb4))
        go_wp2_with fail
        refine (hkn.out w4).mono ?_
        rintro e w5 ⟨rfl, hb5⟩
        replace hbx := Aside0.mk (below_then hbx.out hbx.out.size hb5)
        go_wp2_with fail
        go_ret
        exact ⟨rfl, hbx.out⟩
section
variable {H : Type} {enc : TypeId × Value → H} {w : World}
set_option maxRecDepth 8000 in
theorem opens_at : Opens enc Try.prog w 47 kA (fun _ => True) := by
  intro fuel cs x h
  obtain ⟨xs, n, hfn, _, hl, hlen, hf⟩ := DataW.trod_struct Try.underlying47 h
  rw [cells_47'] at hl
  match xs, hlen, cs, hl with
  | [y0, y1], _, [c0, c1], _ =>
    have f0 := hf 0 (Field.mk "Name" 9 0 false "" "" 0) rfl
    have f1 := hf 1 (Field.mk "Values" 45 1 false "" "" 16) rfl
    simp only [cells_9, cells_45] at f0 f1
    obtain ⟨s0, e0, _, g0⟩ := DataW.trod_string Try.underlying9 f0
    obtain ⟨A1, c1', l1, e1, h1, _, hC1, hG1⟩ := opens_row (d := Kd.string) Try.underlying45 cells_9' (opens_string Try.underlying9) n _ _ f1
    replace e0 : c0 = .string s0 := by simpa using e0
    replace e1 : c1 = .slice A1 l1.length c1' := by simpa using e1
    subst e0; subst e1
    exact ⟨⟨s0, l1⟩, PFilterBounds.k47_mk w ⟨s0, l1⟩ h1 hC1, trivial⟩
end
set_option maxRecDepth 20000 in
/-- FilterMore, behind what came in. -/
theorem filterMore_row (W : World) (v : Value) (x : Ft) (hK : kF.K W x v.cells.toList) (hG : byteF x) (hv : Value.okWide Try.prog W .any 0 25 v)
    (A : Option Addr) (c : Nat) (l : List At) (hlc : l.length ≤ c) (hcm : c ≤ maxLen) (hC : kA.C W A l.length l) (hGl : ∀ y ∈ l, True)
    (A' : Option Addr) (c' : Nat) (l' : List At) (hlc' : l'.length ≤ c') (hcm' : c' ≤ maxLen) (hC' : kA.C W A' l'.length l') (hGl' : ∀ y ∈ l', True) :
    Calls Try.prog 7 #[v, .slice A l.length c, .slice A' l'.length c'] W fun e w' => e = .returned (.bool true) ∧ Below W.heap.size W w' := by
  obtain ⟨B, d, rfl, hb⟩ := filt_of hK hv
  exact filterMore_walk x B d l l' A A' c c' W hb hlc hC hlc' hC'
end Go.Proofs.Ytgnmkblaockghaa
