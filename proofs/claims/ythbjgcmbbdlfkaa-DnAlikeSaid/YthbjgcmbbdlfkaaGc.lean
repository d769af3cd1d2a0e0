/- The walk of DnAlike. -/
import Derived.Test.YthbjgcmbbdlfkaaGb
import Derived.Test.YthbjgcmbbdlfkaaEh
set_option linter.unusedVariables false
set_option linter.unusedSimpArgs false
namespace Go.Proofs.Ythbjgcmbbdlfkaa
open Go.RowKit Go.Shelf Go.Proofs.YthbjgcmbbdlfkaaW.PrintWords Go.Proofs.YthbjgcmbbdlfkaaW.PrintMore Go.Proofs.YthbjgcmbbdlfkaaW.PrintLast

set_option maxHeartbeats 1000000 in
set_option maxRecDepth 100000 in
theorem al_x (W : World) (A : Option Addr) (c : Nat) (a : List Rdn) (hac : a.length ≤ c) (hA : kr.C W A a.length a) (B : Option Addr) (d : Nat) (b : List Rdn) (hbd : b.length ≤ d) (hB : kr.C W B b.length b) (hl : lightB a = false) :
    Calls Try.prog 8 #[.slice A a.length c, .slice B b.length d] W fun e w' => e = .returned (.bool true) ∧ Below W.heap.size W w' := by
  have hb := Aside0.mk (Below.refl W.heap.size W)
  have k10a := Aside0.mk (fun W' (hb : Below W.heap.size W W') => PDnAlike.light_calls A c a W' (Kd.C_below hA hb) hac)
  have k10b := Aside0.mk (fun W' (hb : Below W.heap.size W W') => PDnAlike.light_calls B d b W' (Kd.C_below hB hb) hbd)
  rw [hl] at k10a
  generalize a.length = M at *
  generalize b.length = N at *
  clear hA hB hac hbd hl k10b
  go_enter Try.func8, Try.ntmps8
  go_wp2_with fail
  refine (k10a.out _ hb.out).mono ?_
  rintro e wn ⟨rfl, hbn⟩
  replace hb := Aside0.mk (below_then hb.out hb.out.size hbn)
  clear hbn
  go_wp2_with fail
  refine (known_calls _).mono ?_
  rintro e wn ⟨rfl, hbn⟩
  replace hb := Aside0.mk (below_then hb.out hb.out.size hbn)
  clear hbn
  go_wp2_with fail
  go_ret
  exact ⟨rfl, hb.out⟩
set_option maxHeartbeats 1000000 in
set_option maxRecDepth 100000 in
theorem al_y (W : World) (A : Option Addr) (c : Nat) (a : List Rdn) (hac : a.length ≤ c) (hA : kr.C W A a.length a) (B : Option Addr) (d : Nat) (b : List Rdn) (hbd : b.length ≤ d) (hB : kr.C W B b.length b) (hl : lightB a = true) (hr : lightB b = false) :
    Calls Try.prog 8 #[.slice A a.length c, .slice B b.length d] W fun e w' => e = .returned (.bool true) ∧ Below W.heap.size W w' := by
  have hb := Aside0.mk (Below.refl W.heap.size W)
  have k10a := Aside0.mk (fun W' (hb : Below W.heap.size W W') => PDnAlike.light_calls A c a W' (Kd.C_below hA hb) hac)
  have k10b := Aside0.mk (fun W' (hb : Below W.heap.size W W') => PDnAlike.light_calls B d b W' (Kd.C_below hB hb) hbd)
  rw [hl] at k10a
  rw [hr] at k10b
  generalize a.length = M at *
  generalize b.length = N at *
  clear hA hB hac hbd hl hr
  go_enter Try.func8, Try.ntmps8
  go_wp2_with fail
  refine (k10a.out _ hb.out).mono ?_
  rintro e wn ⟨rfl, hbn⟩
  replace hb := Aside0.mk (below_then hb.out hb.out.size hbn)
  clear hbn
  go_wp2_with fail
  refine (k10b.out _ hb.out).mono ?_
  rintro e wn ⟨rfl, hbn⟩
  replace hb := Aside0.mk (below_then hb.out hb.out.size hbn)
  clear hbn
  go_wp2_with fail
  refine (known_calls _).mono ?_
  rintro e wn ⟨rfl, hbn⟩
  replace hb := Aside0.mk (below_then hb.out hb.out.size hbn)
  clear hbn
  go_wp2_with fail
  go_ret
  exact ⟨rfl, hb.out⟩
set_option maxHeartbeats 1000000 in
set_option maxRecDepth 100000 in
theorem al_z (W : World) (A : Option Addr) (c : Nat) (a : List Rdn) (hac : a.length ≤ c) (hA : kr.C W A a.length a) (B : Option Addr) (d : Nat) (b : List Rdn) (hbd : b.length ≤ d) (hB : kr.C W B b.length b) (hl : lightB a = true) (hr : lightB b = true) :
    Calls Try.prog 8 #[.slice A a.length c, .slice B b.length d] W fun e w' => e = .returned (.bool true) ∧ Below W.heap.size W w' := by
  have hb := Aside0.mk (Below.refl W.heap.size W)
  have k10a := Aside0.mk (fun W' (hb : Below W.heap.size W W') => PDnAlike.light_calls A c a W' (Kd.C_below hA hb) hac)
  have k10b := Aside0.mk (fun W' (hb : Below W.heap.size W W') => PDnAlike.light_calls B d b W' (Kd.C_below hB hb) hbd)
  have ha := lightB_mild hl
  have hbm := lightB_mild hr
  have k24 := Aside0.mk (fun W' (hb : Below W.heap.size W W') => ralike_calls A B c d a b W' ha hbm (Kd.C_below hA hb) hac (Kd.C_below hB hb) hbd)
  have k23ab := Aside0.mk (fun W' (hb : Below W.heap.size W W') => alikeN_calls A B c d a b W' ha hbm (Kd.C_below hA hb) (Kd.C_below hB hb))
  have k23ba := Aside0.mk (fun W' (hb : Below W.heap.size W W') => alikeN_calls B A d c b a W' hbm ha (Kd.C_below hB hb) (Kd.C_below hA hb))
  have k22ab := Aside0.mk (fun W' (hb : Below W.heap.size W W') => belowN_calls A B c d a b W' ha hbm hac (Kd.C_below hA hb) (Kd.C_below hB hb))
  have k22ba := Aside0.mk (fun W' (hb : Below W.heap.size W W') => belowN_calls B A d c b a W' hbm ha hbd (Kd.C_below hB hb) (Kd.C_below hA hb))
  have k22aa := Aside0.mk (fun W' (hb : Below W.heap.size W W') => belowN_calls A A c c a a W' ha ha hac (Kd.C_below hA hb) (Kd.C_below hA hb))
  have k25ab := Aside0.mk (fun W' (hb : Below W.heap.size W W') => rbelow_calls A B c d a b W' ha hbm (Kd.C_below hA hb) hac (Kd.C_below hB hb) hbd)
  have k25ba := Aside0.mk (fun W' (hb : Below W.heap.size W W') => rbelow_calls B A d c b a W' hbm ha (Kd.C_below hB hb) hbd (Kd.C_below hA hb) hac)
  have k26a := Aside0.mk (fun W' (hb : Below W.heap.size W W') => key_calls A c a W' ha (Kd.C_below hA hb))
  have k26b := Aside0.mk (fun W' (hb : Below W.heap.size W W') => key_calls B d b W' hbm (Kd.C_below hB hb))
  have k13a := Aside0.mk (fun W' (hb : Below W.heap.size W W') => PDnAlike.right_calls A c a W' ha (Kd.C_below hA hb) hac)
  have k13b := Aside0.mk (fun W' (hb : Below W.heap.size W W') => PDnAlike.right_calls B d b W' hbm (Kd.C_below hB hb) hbd)
  rw [hl] at k10a
  rw [hr] at k10b
  rw [alB_symm b a] at k23ba
  rw [show beB a a = false from beB_short (Nat.lt_irrefl _)] at k22aa
  have hk := fun h1 h2 => key_iff (a := a) (b := b) h1 h2
  obtain ⟨E, hE⟩ : ∃ E, dnErr a = E := ⟨_, rfl⟩
  obtain ⟨F, hF⟩ : ∃ F, dnErr b = F := ⟨_, rfl⟩
  rw [hE] at k26a
  rw [hF] at k26b
  obtain ⟨oka, ho⟩ : ∃ oka, dnOk a = oka := ⟨_, rfl⟩
  obtain ⟨okb, hp⟩ : ∃ okb, dnOk b = okb := ⟨_, rfl⟩
  rw [ho] at k13a hk
  rw [hp] at k13b hk
  have e0 : E = if oka = true then 0 else 2 := by rw [← hE, ← ho]; rfl
  have e1 : F = if okb = true then 0 else 2 := by rw [← hF, ← hp]; rfl
  clear hE hF ho hp
  generalize alB a b = al at *
  generalize beB a b = r1 at *
  generalize beB b a = r2 at *
  generalize keyS a = X at *
  generalize keyS b = Y at *
  generalize a.length = M at *
  generalize b.length = N at *
  clear hA hB hac hbd hl hr ha hbm
  cases oka <;> cases okb
  · obtain rfl : E = 2 := e0
    obtain rfl : F = 2 := e1
    clear hk
    go_enter Try.func8, Try.ntmps8
    go_wp2_with fail
    refine (k10a.out _ hb.out).mono ?_
    rintro e wn ⟨rfl, hbn⟩
    replace hb := Aside0.mk (below_then hb.out hb.out.size hbn)
    clear hbn
    go_wp2_with fail
    refine (k10b.out _ hb.out).mono ?_
    rintro e wn ⟨rfl, hbn⟩
    replace hb := Aside0.mk (below_then hb.out hb.out.size hbn)
    clear hbn
    go_wp2_with fail
    refine (k24.out _ hb.out).mono ?_
    rintro e wn ⟨rfl, hbn⟩
    replace hb := Aside0.mk (below_then hb.out hb.out.size hbn)
    clear hbn
    go_wp2_with fail
    refine (k23ab.out _ hb.out).mono ?_
    rintro e wn ⟨rfl, hbn⟩
    replace hb := Aside0.mk (below_then hb.out hb.out.size hbn)
    clear hbn
    go_wp2_with fail
    refine (k23ba.out _ hb.out).mono ?_
    rintro e wn ⟨rfl, hbn⟩
    replace hb := Aside0.mk (below_then hb.out hb.out.size hbn)
    clear hbn
    go_wp2_with fail
    refine (k22ab.out _ hb.out).mono ?_
    rintro e wn ⟨rfl, hbn⟩
    replace hb := Aside0.mk (below_then hb.out hb.out.size hbn)
    clear hbn
    go_wp2_with fail
    refine (k25ab.out _ hb.out).mono ?_
    rintro e wn ⟨rfl, hbn⟩
    replace hb := Aside0.mk (below_then hb.out hb.out.size hbn)
    clear hbn
    go_wp2_with fail
    refine (k22ba.out _ hb.out).mono ?_
    rintro e wn ⟨rfl, hbn⟩
    replace hb := Aside0.mk (below_then hb.out hb.out.size hbn)
    clear hbn
    go_wp2_with fail
    refine (k25ba.out _ hb.out).mono ?_
    rintro e wn ⟨rfl, hbn⟩
    replace hb := Aside0.mk (below_then hb.out hb.out.size hbn)
    clear hbn
    go_wp2_with fail
    refine (k22aa.out _ hb.out).mono ?_
    rintro e wn ⟨rfl, hbn⟩
    replace hb := Aside0.mk (below_then hb.out hb.out.size hbn)
    clear hbn
    go_wp2_with fail
    refine (k26a.out _ hb.out).mono ?_
    rintro e wn ⟨rfl, hbn⟩
    replace hb := Aside0.mk (below_then hb.out hb.out.size hbn)
    clear hbn
    go_wp2_with fail
    refine (k26b.out _ hb.out).mono ?_
    rintro e wn ⟨rfl, hbn⟩
    replace hb := Aside0.mk (below_then hb.out hb.out.size hbn)
    clear hbn
    go_wp2_with fail
    refine (k13a.out _ hb.out).mono ?_
    rintro e wn ⟨rfl, hbn⟩
    replace hb := Aside0.mk (below_then hb.out hb.out.size hbn)
    clear hbn
    go_wp2_with fail
    refine (k13b.out _ hb.out).mono ?_
    rintro e wn ⟨rfl, hbn⟩
    replace hb := Aside0.mk (below_then hb.out hb.out.size hbn)
    clear hbn
    go_wp2_with fail
    refine (known_calls _).mono ?_
    rintro e wn ⟨rfl, hbn⟩
    replace hb := Aside0.mk (below_then hb.out hb.out.size hbn)
    clear hbn
    go_wp2_with fail
    go_ret
    exact ⟨rfl, hb.out⟩
  · obtain rfl : E = 2 := e0
    obtain rfl : F = 0 := e1
    clear hk
    go_enter Try.func8, Try.ntmps8
    go_wp2_with fail
    refine (k10a.out _ hb.out).mono ?_
    rintro e wn ⟨rfl, hbn⟩
    replace hb := Aside0.mk (below_then hb.out hb.out.size hbn)
    clear hbn
    go_wp2_with fail
    refine (k10b.out _ hb.out).mono ?_
    rintro e wn ⟨rfl, hbn⟩
    replace hb := Aside0.mk (below_then hb.out hb.out.size hbn)
    clear hbn
    go_wp2_with fail
    refine (k24.out _ hb.out).mono ?_
    rintro e wn ⟨rfl, hbn⟩
    replace hb := Aside0.mk (below_then hb.out hb.out.size hbn)
    clear hbn
    go_wp2_with fail
    refine (k23ab.out _ hb.out).mono ?_
    rintro e wn ⟨rfl, hbn⟩
    replace hb := Aside0.mk (below_then hb.out hb.out.size hbn)
    clear hbn
    go_wp2_with fail
    refine (k23ba.out _ hb.out).mono ?_
    rintro e wn ⟨rfl, hbn⟩
    replace hb := Aside0.mk (below_then hb.out hb.out.size hbn)
    clear hbn
    go_wp2_with fail
    refine (k22ab.out _ hb.out).mono ?_
    rintro e wn ⟨rfl, hbn⟩
    replace hb := Aside0.mk (below_then hb.out hb.out.size hbn)
    clear hbn
    go_wp2_with fail
    refine (k25ab.out _ hb.out).mono ?_
    rintro e wn ⟨rfl, hbn⟩
    replace hb := Aside0.mk (below_then hb.out hb.out.size hbn)
    clear hbn
    go_wp2_with fail
    refine (k22ba.out _ hb.out).mono ?_
    rintro e wn ⟨rfl, hbn⟩
    replace hb := Aside0.mk (below_then hb.out hb.out.size hbn)
    clear hbn
    go_wp2_with fail
    refine (k25ba.out _ hb.out).mono ?_
    rintro e wn ⟨rfl, hbn⟩
    replace hb := Aside0.mk (below_then hb.out hb.out.size hbn)
    clear hbn
    go_wp2_with fail
    refine (k22aa.out _ hb.out).mono ?_
    rintro e wn ⟨rfl, hbn⟩
    replace hb := Aside0.mk (below_then hb.out hb.out.size hbn)
    clear hbn
    go_wp2_with fail
    refine (k26a.out _ hb.out).mono ?_
    rintro e wn ⟨rfl, hbn⟩
    replace hb := Aside0.mk (below_then hb.out hb.out.size hbn)
    clear hbn
    go_wp2_with fail
    refine (k26b.out _ hb.out).mono ?_
    rintro e wn ⟨rfl, hbn⟩
    replace hb := Aside0.mk (below_then hb.out hb.out.size hbn)
    clear hbn
    go_wp2_with fail
    refine (k13a.out _ hb.out).mono ?_
    rintro e wn ⟨rfl, hbn⟩
    replace hb := Aside0.mk (below_then hb.out hb.out.size hbn)
    clear hbn
    go_wp2_with fail
    refine (k13b.out _ hb.out).mono ?_
    rintro e wn ⟨rfl, hbn⟩
    replace hb := Aside0.mk (below_then hb.out hb.out.size hbn)
    clear hbn
    go_wp2_with fail
    refine (known_calls _).mono ?_
    rintro e wn ⟨rfl, hbn⟩
    replace hb := Aside0.mk (below_then hb.out hb.out.size hbn)
    clear hbn
    go_wp2_with fail
    go_ret
    exact ⟨rfl, hb.out⟩
  · obtain rfl : E = 0 := e0
    obtain rfl : F = 2 := e1
    clear hk
    go_enter Try.func8, Try.ntmps8
    go_wp2_with fail
    refine (k10a.out _ hb.out).mono ?_
    rintro e wn ⟨rfl, hbn⟩
    replace hb := Aside0.mk (below_then hb.out hb.out.size hbn)
    clear hbn
    go_wp2_with fail
    refine (k10b.out _ hb.out).mono ?_
    rintro e wn ⟨rfl, hbn⟩
    replace hb := Aside0.mk (below_then hb.out hb.out.size hbn)
    clear hbn
    go_wp2_with fail
    refine (k24.out _ hb.out).mono ?_
    rintro e wn ⟨rfl, hbn⟩
    replace hb := Aside0.mk (below_then hb.out hb.out.size hbn)
    clear hbn
    go_wp2_with fail
    refine (k23ab.out _ hb.out).mono ?_
    rintro e wn ⟨rfl, hbn⟩
    replace hb := Aside0.mk (below_then hb.out hb.out.size hbn)
    clear hbn
    go_wp2_with fail
    refine (k23ba.out _ hb.out).mono ?_
    rintro e wn ⟨rfl, hbn⟩
    replace hb := Aside0.mk (below_then hb.out hb.out.size hbn)
    clear hbn
    go_wp2_with fail
    refine (k22ab.out _ hb.out).mono ?_
    rintro e wn ⟨rfl, hbn⟩
    replace hb := Aside0.mk (below_then hb.out hb.out.size hbn)
    clear hbn
    go_wp2_with fail
    refine (k25ab.out _ hb.out).mono ?_
    rintro e wn ⟨rfl, hbn⟩
    replace hb := Aside0.mk (below_then hb.out hb.out.size hbn)
    clear hbn
    go_wp2_with fail
    refine (k22ba.out _ hb.out).mono ?_
    rintro e wn ⟨rfl, hbn⟩
    replace hb := Aside0.mk (below_then hb.out hb.out.size hbn)
    clear hbn
    go_wp2_with fail
    refine (k25ba.out _ hb.out).mono ?_
    rintro e wn ⟨rfl, hbn⟩
    replace hb := Aside0.mk (below_then hb.out hb.out.size hbn)
    clear hbn
    go_wp2_with fail
    refine (k22aa.out _ hb.out).mono ?_
    rintro e wn ⟨rfl, hbn⟩
    replace hb := Aside0.mk (below_then hb.out hb.out.size hbn)
    clear hbn
    go_wp2_with fail
    refine (k26a.out _ hb.out).mono ?_
    rintro e wn ⟨rfl, hbn⟩
    replace hb := Aside0.mk (below_then hb.out hb.out.size hbn)
    clear hbn
    go_wp2_with fail
    refine (k26b.out _ hb.out).mono ?_
    rintro e wn ⟨rfl, hbn⟩
    replace hb := Aside0.mk (below_then hb.out hb.out.size hbn)
    clear hbn
    go_wp2_with fail
    refine (k13a.out _ hb.out).mono ?_
    rintro e wn ⟨rfl, hbn⟩
    replace hb := Aside0.mk (below_then hb.out hb.out.size hbn)
    clear hbn
    go_wp2_with fail
    refine (k13b.out _ hb.out).mono ?_
    rintro e wn ⟨rfl, hbn⟩
    replace hb := Aside0.mk (below_then hb.out hb.out.size hbn)
    clear hbn
    go_wp2_with fail
    refine (known_calls _).mono ?_
    rintro e wn ⟨rfl, hbn⟩
    replace hb := Aside0.mk (below_then hb.out hb.out.size hbn)
    clear hbn
    go_wp2_with fail
    go_ret
    exact ⟨rfl, hb.out⟩
  · obtain rfl : E = 0 := e0
    obtain rfl : F = 0 := e1
    have hxy : (X.toList == Y.toList) = al := hk rfl rfl
    clear hk
    go_enter Try.func8, Try.ntmps8
    go_wp2_with fail
    refine (k10a.out _ hb.out).mono ?_
    rintro e wn ⟨rfl, hbn⟩
    replace hb := Aside0.mk (below_then hb.out hb.out.size hbn)
    clear hbn
    go_wp2_with fail
    refine (k10b.out _ hb.out).mono ?_
    rintro e wn ⟨rfl, hbn⟩
    replace hb := Aside0.mk (below_then hb.out hb.out.size hbn)
    clear hbn
    go_wp2_with fail
    refine (k24.out _ hb.out).mono ?_
    rintro e wn ⟨rfl, hbn⟩
    replace hb := Aside0.mk (below_then hb.out hb.out.size hbn)
    clear hbn
    go_wp2_with fail
    refine (k23ab.out _ hb.out).mono ?_
    rintro e wn ⟨rfl, hbn⟩
    replace hb := Aside0.mk (below_then hb.out hb.out.size hbn)
    clear hbn
    go_wp2_with fail
    refine (k23ba.out _ hb.out).mono ?_
    rintro e wn ⟨rfl, hbn⟩
    replace hb := Aside0.mk (below_then hb.out hb.out.size hbn)
    clear hbn
    go_wp2_with fail
    refine (k22ab.out _ hb.out).mono ?_
    rintro e wn ⟨rfl, hbn⟩
    replace hb := Aside0.mk (below_then hb.out hb.out.size hbn)
    clear hbn
    go_wp2_with fail
    refine (k25ab.out _ hb.out).mono ?_
    rintro e wn ⟨rfl, hbn⟩
    replace hb := Aside0.mk (below_then hb.out hb.out.size hbn)
    clear hbn
    go_wp2_with fail
    refine (k22ba.out _ hb.out).mono ?_
    rintro e wn ⟨rfl, hbn⟩
    replace hb := Aside0.mk (below_then hb.out hb.out.size hbn)
    clear hbn
    go_wp2_with fail
    refine (k25ba.out _ hb.out).mono ?_
    rintro e wn ⟨rfl, hbn⟩
    replace hb := Aside0.mk (below_then hb.out hb.out.size hbn)
    clear hbn
    go_wp2_with fail
    refine (k22aa.out _ hb.out).mono ?_
    rintro e wn ⟨rfl, hbn⟩
    replace hb := Aside0.mk (below_then hb.out hb.out.size hbn)
    clear hbn
    go_wp2_with fail
    refine (k26a.out _ hb.out).mono ?_
    rintro e wn ⟨rfl, hbn⟩
    replace hb := Aside0.mk (below_then hb.out hb.out.size hbn)
    clear hbn
    go_wp2_with fail
    refine (k26b.out _ hb.out).mono ?_
    rintro e wn ⟨rfl, hbn⟩
    replace hb := Aside0.mk (below_then hb.out hb.out.size hbn)
    clear hbn
    go_wp2_with fail
    refine (k13a.out _ hb.out).mono ?_
    rintro e wn ⟨rfl, hbn⟩
    replace hb := Aside0.mk (below_then hb.out hb.out.size hbn)
    clear hbn
    go_wp2_with fail
    refine (k13b.out _ hb.out).mono ?_
    rintro e wn ⟨rfl, hbn⟩
    replace hb := Aside0.mk (below_then hb.out hb.out.size hbn)
    clear hbn
    go_wp2_with fail
    refine (known_calls _).mono ?_
    rintro e wn ⟨rfl, hbn⟩
    replace hb := Aside0.mk (below_then hb.out hb.out.size hbn)
    clear hbn
    go_wp2_with fail
    go_ret
    exact ⟨rfl, hb.out⟩
theorem dnAlike_row (W : World) (A : Option Addr) (c : Nat) (a : List Rdn) (hac : a.length ≤ c) (hcm : c ≤ maxLen) (hA : kr.C W A a.length a) (hG : ∀ y ∈ a, y.t.size ≤ maxLen ∧ y.v.size ≤ maxLen) (B : Option Addr) (d : Nat) (b : List Rdn) (hbd : b.length ≤ d) (hdm : d ≤ maxLen) (hB : kr.C W B b.length b) (hH : ∀ y ∈ b, y.t.size ≤ maxLen ∧ y.v.size ≤ maxLen) :
    Calls Try.prog 8 #[.slice A a.length c, .slice B b.length d] W fun e w' => e = .returned (.bool true) ∧ Below W.heap.size W w' := by
  cases hl : lightB a with
  | false => exact al_x W A c a hac hA B d b hbd hB hl
  | true =>
    cases hr : lightB b with
    | false => exact al_y W A c a hac hA B d b hbd hB hl hr
    | true => exact al_z W A c a hac hA B d b hbd hB hl hr
end Go.Proofs.Ythbjgcmbbdlfkaa
