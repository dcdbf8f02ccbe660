/- A list of integers is copied, vY of texts are held: package laws. -/
import Derived.Test.YtjeffognhcbiaaaGreatDoorStrs
namespace Go.Proofs.YtjeffognhcbiaaaGreatDoor
open Go Go.RowKit
end Go.Proofs.YtjeffognhcbiaaaGreatDoor
