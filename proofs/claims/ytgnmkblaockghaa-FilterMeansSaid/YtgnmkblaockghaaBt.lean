/- Which operations of a region have come up: bits of a number. -/
namespace Go.Proofs.Ytgnmkblaockghaa
/-- The first n bits of x. -/
def B_ (n x : Nat) : Array Bool := ((List.range n).map fun i => Nat.testBit x i).toArray
end Go.Proofs.Ytgnmkblaockghaa
