/- Segmentations: the longest match at each place, what a segmentation is. qA lists. -/
import Derived.Test.YtjeffognhcbiaaaDoorDcF
namespace Go.Proofs.YtjeffognhcbiaaaDoor
open Go Go.RowKit
structure Pc where
  f : Int
  n : Int
  t : List UInt8
deriving DecidableEq
def cut (l : List Int) (f n : Nat) : List Int := (l.drop f).take n
end Go.Proofs.YtjeffognhcbiaaaDoor
