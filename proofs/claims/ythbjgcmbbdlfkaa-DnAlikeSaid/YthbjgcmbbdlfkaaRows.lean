/-
  No cell of these rows narrows 'for every input' (looked for: loops, veiled, ifaces, maps, wideKeys, modest, calm, conditions, laid).
  DERIVED. THE GIVEN ROWS OF THIS SEAT. 7 by the template 'for every input the law returns true; each argument reads behind the call as it read before'; 0 by the template 'total and deterministic' (their statements: YthbjgcmbbdlfkaaTotals.lean).
  GIVEN WITH THE SEED: the statements are not yours to turn. If you find one false, say at which input.
  Laid BY PROGRAM, IN A SANDBOX (cutbox-rows.mjs): the forced cells as the released guide's own fill.sh prints them over the translation 9f4bc60b274a5f8b… (all of the seat's roots in one cut). By AI agents, Wed Nov 11 2026. No macro, syntax, notation, axiom, sorry.
-/
import Derived.Test.YthbjgcmbbdlfkaaChecked
import GoSem.Claim
import GoSem.ClaimJoined
import GoSem.ClaimMapViews
import Derived.JoinedTies
import Derived.KernelRfl
namespace Go.Proofs.Ythbjgcmbbdlfkaa
/- THE CELL 'sum', in the pinned program and in every row, IS THE sha256 OF THE DUMP (.gsa) THAT YthbjgcmbbdlfkaaProg.lean LOADS. Nothing in Lean hashes anything: it is a label: what it is worth is what the hold of that sum in a sandbox is worth. -/
noncomputable def Try.pinned : Pinned := { name := "ythbjgcmbbdlfkaa", sum := "9f4bc60b274a5f8b29c6c349721874b2989cb2403c42814ecff24000cf67b857", checked := Try.checked }
namespace Rows
def none {H : Type} : Left H := { results := [], args := [] }

/-- 'cardcaselaw06.DnTexts': WHATEVER THE INPUT: true; the input reads as it did. -/
def dnTextsSpec : ChangeSpec := { name := "dnTexts", fn := fun _ => fun
  | [d] => { results := [.lit (.bool true)], args := [d] }
  | _ => none }
def dnTextsRow : OpenClaim := { program := "ythbjgcmbbdlfkaa", sum := "9f4bc60b274a5f8b29c6c349721874b2989cb2403c42814ecff24000cf67b857", func := "cardcase/cardcaselaw06.DnTexts", spec := "dnTexts", unfollowed := true, recurses := true, apart := false }
def DnTextsSaid : Prop := dnTextsRow.holds Try.pinned (OpenSpec.ofChange dnTextsSpec)

/-- ITS FALSE NEIGHBOUR: 'it returns false'. Refute it at one input. -/
def dnTextsWrong : ChangeSpec := { name := "dnTexts", fn := fun _ => fun
  | [d] => { results := [.lit (.bool false)], args := [d] }
  | _ => none }
def DnTextsWrongFalsely : Prop := dnTextsRow.holds Try.pinned (OpenSpec.ofChange dnTextsWrong)

/-- 'cardcaselaw06.DnParses': WHATEVER THE INPUT: true; the input reads as it did. -/
def dnParsesSpec : ChangeSpec := { name := "dnParses", fn := fun _ => fun
  | [d] => { results := [.lit (.bool true)], args := [d] }
  | _ => none }
def dnParsesRow : OpenClaim := { program := "ythbjgcmbbdlfkaa", sum := "9f4bc60b274a5f8b29c6c349721874b2989cb2403c42814ecff24000cf67b857", func := "cardcase/cardcaselaw06.DnParses", spec := "dnParses", unfollowed := true, recurses := true, apart := false }
def DnParsesSaid : Prop := dnParsesRow.holds Try.pinned (OpenSpec.ofChange dnParsesSpec)

/-- ITS FALSE NEIGHBOUR: 'it returns false'. Refute it at one input. -/
def dnParsesWrong : ChangeSpec := { name := "dnParses", fn := fun _ => fun
  | [d] => { results := [.lit (.bool false)], args := [d] }
  | _ => none }
def DnParsesWrongFalsely : Prop := dnParsesRow.holds Try.pinned (OpenSpec.ofChange dnParsesWrong)

/-- 'cardcaselaw06.DnSmall': WHATEVER THE INPUT: true; the input reads as it did. -/
def dnSmallSpec : ChangeSpec := { name := "dnSmall", fn := fun _ => fun
  | [d] => { results := [.lit (.bool true)], args := [d] }
  | _ => none }
def dnSmallRow : OpenClaim := { program := "ythbjgcmbbdlfkaa", sum := "9f4bc60b274a5f8b29c6c349721874b2989cb2403c42814ecff24000cf67b857", func := "cardcase/cardcaselaw06.DnSmall", spec := "dnSmall", unfollowed := true, recurses := true, apart := false }
def DnSmallSaid : Prop := dnSmallRow.holds Try.pinned (OpenSpec.ofChange dnSmallSpec)

/-- ITS FALSE NEIGHBOUR: 'it returns false'. Refute it at one input. -/
def dnSmallWrong : ChangeSpec := { name := "dnSmall", fn := fun _ => fun
  | [d] => { results := [.lit (.bool false)], args := [d] }
  | _ => none }
def DnSmallWrongFalsely : Prop := dnSmallRow.holds Try.pinned (OpenSpec.ofChange dnSmallWrong)

/-- 'cardcaselaw06.DnBytes': WHATEVER THE INPUT: true; the input reads as it did. -/
def dnBytesSpec : ChangeSpec := { name := "dnBytes", fn := fun _ => fun
  | [d1, d2, d3] => { results := [.lit (.bool true)], args := [d1, d2, d3] }
  | _ => none }
def dnBytesRow : OpenClaim := { program := "ythbjgcmbbdlfkaa", sum := "9f4bc60b274a5f8b29c6c349721874b2989cb2403c42814ecff24000cf67b857", func := "cardcase/cardcaselaw06.DnBytes", spec := "dnBytes", unfollowed := true, recurses := true, apart := false }
def DnBytesSaid : Prop := dnBytesRow.holds Try.pinned (OpenSpec.ofChange dnBytesSpec)

/-- ITS FALSE NEIGHBOUR: 'it returns false'. Refute it at one input. -/
def dnBytesWrong : ChangeSpec := { name := "dnBytes", fn := fun _ => fun
  | [d1, d2, d3] => { results := [.lit (.bool false)], args := [d1, d2, d3] }
  | _ => none }
def DnBytesWrongFalsely : Prop := dnBytesRow.holds Try.pinned (OpenSpec.ofChange dnBytesWrong)

/-- 'cardcaselaw06.DnChain': WHATEVER THE INPUT: true; the input reads as it did. -/
def dnChainSpec : ChangeSpec := { name := "dnChain", fn := fun _ => fun
  | [d] => { results := [.lit (.bool true)], args := [d] }
  | _ => none }
def dnChainRow : OpenClaim := { program := "ythbjgcmbbdlfkaa", sum := "9f4bc60b274a5f8b29c6c349721874b2989cb2403c42814ecff24000cf67b857", func := "cardcase/cardcaselaw06.DnChain", spec := "dnChain", unfollowed := true, recurses := true, apart := false }
def DnChainSaid : Prop := dnChainRow.holds Try.pinned (OpenSpec.ofChange dnChainSpec)

/-- ITS FALSE NEIGHBOUR: 'it returns false'. Refute it at one input. -/
def dnChainWrong : ChangeSpec := { name := "dnChain", fn := fun _ => fun
  | [d] => { results := [.lit (.bool false)], args := [d] }
  | _ => none }
def DnChainWrongFalsely : Prop := dnChainRow.holds Try.pinned (OpenSpec.ofChange dnChainWrong)

/-- 'cardcaselaw06.DnAlike': WHATEVER THE INPUT: true; the input reads as it did. -/
def dnAlikeSpec : ChangeSpec := { name := "dnAlike", fn := fun _ => fun
  | [d1, d2] => { results := [.lit (.bool true)], args := [d1, d2] }
  | _ => none }
def dnAlikeRow : OpenClaim := { program := "ythbjgcmbbdlfkaa", sum := "9f4bc60b274a5f8b29c6c349721874b2989cb2403c42814ecff24000cf67b857", func := "cardcase/cardcaselaw06.DnAlike", spec := "dnAlike", unfollowed := true, recurses := true, apart := false }
def DnAlikeSaid : Prop := dnAlikeRow.holds Try.pinned (OpenSpec.ofChange dnAlikeSpec)

/-- ITS FALSE NEIGHBOUR: 'it returns false'. Refute it at one input. -/
def dnAlikeWrong : ChangeSpec := { name := "dnAlike", fn := fun _ => fun
  | [d1, d2] => { results := [.lit (.bool false)], args := [d1, d2] }
  | _ => none }
def DnAlikeWrongFalsely : Prop := dnAlikeRow.holds Try.pinned (OpenSpec.ofChange dnAlikeWrong)

/-- 'cardcaselaw06.DnUps': WHATEVER THE INPUT: true; the input reads as it did. -/
def dnUpsSpec : ChangeSpec := { name := "dnUps", fn := fun _ => fun
  | [d1, d2] => { results := [.lit (.bool true)], args := [d1, d2] }
  | _ => none }
def dnUpsRow : OpenClaim := { program := "ythbjgcmbbdlfkaa", sum := "9f4bc60b274a5f8b29c6c349721874b2989cb2403c42814ecff24000cf67b857", func := "cardcase/cardcaselaw06.DnUps", spec := "dnUps", unfollowed := true, recurses := true, apart := false }
def DnUpsSaid : Prop := dnUpsRow.holds Try.pinned (OpenSpec.ofChange dnUpsSpec)

/-- ITS FALSE NEIGHBOUR: 'it returns false'. Refute it at one input. -/
def dnUpsWrong : ChangeSpec := { name := "dnUps", fn := fun _ => fun
  | [d1, d2] => { results := [.lit (.bool false)], args := [d1, d2] }
  | _ => none }
def DnUpsWrongFalsely : Prop := dnUpsRow.holds Try.pinned (OpenSpec.ofChange dnUpsWrong)

/- THE SECOND FORM. 'bulk': how many values and letters a reading holds, each counted each time it is reached (what is shared counts as often as it is met; a slice's spare places count too). A statement '..UptoSaid' is the law's where the arguments, and the package variables that the reading takes, are together of bulk at most 1048576: NARROWER than '..Said'. Prove '..Said' where nothing that the law and all that it calls make is longer than what came in: it says more and counts as full. Else prove '..UptoSaid'. A law counts once. -/
mutual
def uptoBulk {H : Type} : DataW H → Nat
  | .lit (.string bytes) => bytes.length + 1
  | .lit _ => 1
  | .nil => 1
  | .ptr d => uptoBulk d + 1
  | .slice elems spare => uptoBulkAll elems + uptoBulkAll spare + 1
  | .agg parts => uptoBulkAll parts + 1
  | .iface _ d => uptoBulk d + 1
  | .map entries => uptoBulkEntries entries + 1
  | .held _ => 1
def uptoBulkAll {H : Type} : List (DataW H) → Nat
  | [] => 0
  | d :: r => uptoBulk d + uptoBulkAll r
def uptoBulkEntries {H : Type} : List (Lit × DataW H) → Nat
  | [] => 0
  | x :: r => uptoBulkEntry x + uptoBulkEntries r
def uptoBulkEntry {H : Type} : Lit × DataW H → Nat
  | (.string bytes, d) => bytes.length + uptoBulk d + 1
  | (_, d) => uptoBulk d + 1
 end
def uptoSmall : (H : Type) → List (DataW H) → Bool := fun _ ds => decide (uptoBulkAll ds ≤ 1048576)
def OpenSpec.upto (s : _root_.Go.ChangeSpec) : _root_.Go.OpenSpec := { _root_.Go.OpenSpec.ofChange s with cond := some uptoSmall }

/-- 'cardcaselaw06.DnTexts', WHERE WHAT IT READS IS OF BULK AT MOST 1048576: true; the input reads as it did. -/
def dnTextsUptoRow : OpenClaim := { program := "ythbjgcmbbdlfkaa", sum := "9f4bc60b274a5f8b29c6c349721874b2989cb2403c42814ecff24000cf67b857", func := "cardcase/cardcaselaw06.DnTexts", spec := "dnTexts", unfollowed := true, recurses := true, apart := false, narrowed := true }
def DnTextsUptoSaid : Prop := dnTextsUptoRow.holds Try.pinned (OpenSpec.upto dnTextsSpec)

/-- 'cardcaselaw06.DnParses', WHERE WHAT IT READS IS OF BULK AT MOST 1048576: true; the input reads as it did. -/
def dnParsesUptoRow : OpenClaim := { program := "ythbjgcmbbdlfkaa", sum := "9f4bc60b274a5f8b29c6c349721874b2989cb2403c42814ecff24000cf67b857", func := "cardcase/cardcaselaw06.DnParses", spec := "dnParses", unfollowed := true, recurses := true, apart := false, narrowed := true }
def DnParsesUptoSaid : Prop := dnParsesUptoRow.holds Try.pinned (OpenSpec.upto dnParsesSpec)

/-- 'cardcaselaw06.DnSmall', WHERE WHAT IT READS IS OF BULK AT MOST 1048576: true; the input reads as it did. -/
def dnSmallUptoRow : OpenClaim := { program := "ythbjgcmbbdlfkaa", sum := "9f4bc60b274a5f8b29c6c349721874b2989cb2403c42814ecff24000cf67b857", func := "cardcase/cardcaselaw06.DnSmall", spec := "dnSmall", unfollowed := true, recurses := true, apart := false, narrowed := true }
def DnSmallUptoSaid : Prop := dnSmallUptoRow.holds Try.pinned (OpenSpec.upto dnSmallSpec)

/-- 'cardcaselaw06.DnBytes', WHERE WHAT IT READS IS OF BULK AT MOST 1048576: true; the input reads as it did. -/
def dnBytesUptoRow : OpenClaim := { program := "ythbjgcmbbdlfkaa", sum := "9f4bc60b274a5f8b29c6c349721874b2989cb2403c42814ecff24000cf67b857", func := "cardcase/cardcaselaw06.DnBytes", spec := "dnBytes", unfollowed := true, recurses := true, apart := false, narrowed := true }
def DnBytesUptoSaid : Prop := dnBytesUptoRow.holds Try.pinned (OpenSpec.upto dnBytesSpec)

/-- 'cardcaselaw06.DnChain', WHERE WHAT IT READS IS OF BULK AT MOST 1048576: true; the input reads as it did. -/
def dnChainUptoRow : OpenClaim := { program := "ythbjgcmbbdlfkaa", sum := "9f4bc60b274a5f8b29c6c349721874b2989cb2403c42814ecff24000cf67b857", func := "cardcase/cardcaselaw06.DnChain", spec := "dnChain", unfollowed := true, recurses := true, apart := false, narrowed := true }
def DnChainUptoSaid : Prop := dnChainUptoRow.holds Try.pinned (OpenSpec.upto dnChainSpec)

/-- 'cardcaselaw06.DnAlike', WHERE WHAT IT READS IS OF BULK AT MOST 1048576: true; the input reads as it did. -/
def dnAlikeUptoRow : OpenClaim := { program := "ythbjgcmbbdlfkaa", sum := "9f4bc60b274a5f8b29c6c349721874b2989cb2403c42814ecff24000cf67b857", func := "cardcase/cardcaselaw06.DnAlike", spec := "dnAlike", unfollowed := true, recurses := true, apart := false, narrowed := true }
def DnAlikeUptoSaid : Prop := dnAlikeUptoRow.holds Try.pinned (OpenSpec.upto dnAlikeSpec)

/-- 'cardcaselaw06.DnUps', WHERE WHAT IT READS IS OF BULK AT MOST 1048576: true; the input reads as it did. -/
def dnUpsUptoRow : OpenClaim := { program := "ythbjgcmbbdlfkaa", sum := "9f4bc60b274a5f8b29c6c349721874b2989cb2403c42814ecff24000cf67b857", func := "cardcase/cardcaselaw06.DnUps", spec := "dnUps", unfollowed := true, recurses := true, apart := false, narrowed := true }
def DnUpsUptoSaid : Prop := dnUpsUptoRow.holds Try.pinned (OpenSpec.upto dnUpsSpec)

end Rows
end Go.Proofs.Ythbjgcmbbdlfkaa
