/- A region that draws its order, walked by a plan that may part in two: where two operations may come up and neither reads alone, both ways are walked. For every order that the region's edges allow. No conditions but those stated. -/
import Derived.Test.YtdggbjlgimcpkaaOld
namespace Go.Proofs.Ytdggbjlgimcpkaa
open Go

/-- an order of operations that may part in two -/
inductive Plan where
  | done
  | held (i : Nat) (r : Plan)
  | move (i : Nat) (r : Plan)
  | fork (i : Nat) (r : Plan) (j : Nat) (q : Plan)
def Plan.size : Plan → Nat
  | .done => 0
  | .held _ r => r.size + 1
  | .move _ r => r.size + 1
  | .fork _ r _ _ => r.size + 1

section
variable {P : Program} {ops : Array Oper} {md : Region.Mode} {Q : Exit → Act → World → Prop} {S : World → Prop}

end
end Go.Proofs.Ytdggbjlgimcpkaa
