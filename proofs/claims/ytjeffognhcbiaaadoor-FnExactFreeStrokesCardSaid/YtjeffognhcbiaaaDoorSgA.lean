/- Segmentations: the longest match at each place, what a segmentation is. Plain lists. -/
import Derived.Test.YtjeffognhcbiaaaDoorDcF
namespace Go.Proofs.YtjeffognhcbiaaaDoor
open Go Go.RowKit
structure Pc where
  f : Int
  n : Int
  t : List UInt8
deriving DecidableEq
def isO (o : List Int) (e : Ent) : Bool := decide (e.o = o)
def hasE (es : List Ent) (o : List Int) : Bool := es.any (isO o)
def idxE (es : List Ent) (o : List Int) : Nat := es.findIdx (isO o)
def atE (es : List Ent) (o : List Int) : Int := if hasE es o then ((idxE es o : Nat) : Int) else -1
def cut (l : List Int) (f n : Nat) : List Int := (l.drop f).take n
end Go.Proofs.YtjeffognhcbiaaaDoor
