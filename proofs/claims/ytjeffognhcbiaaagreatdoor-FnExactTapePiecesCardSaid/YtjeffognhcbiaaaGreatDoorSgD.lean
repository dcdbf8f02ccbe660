/- Pieces compared; IsSegmentation and CountUntranslated of impl. -/
import Derived.Test.YtjeffognhcbiaaaGreatDoorCmpS
import Derived.Test.YtjeffognhcbiaaaGreatDoorSgC
namespace Go.Proofs.YtjeffognhcbiaaaGreatDoor
open Go Go.RowKit
end Go.Proofs.YtjeffognhcbiaaaGreatDoor
