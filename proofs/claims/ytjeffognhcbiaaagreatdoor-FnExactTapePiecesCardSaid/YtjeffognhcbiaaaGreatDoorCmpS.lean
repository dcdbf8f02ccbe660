/- The abstract machine: structs compared by '==' and '!='. -/
import Derived.Test.YtjeffognhcbiaaaGreatDoorAbs3
import Derived.Laws.StructEq
namespace Go.Proofs.YtjeffognhcbiaaaGreatDoor
open Go Go.RowKit
section
variable {P : Program} {E : Env} {ops : Array Oper} {o : Oper} {s : AS}
variable {K : AS → Prop} {draw : Bool} {r : List Oper} {acc : List (Upd × Foot)} {tm : List (Nat × AVal)} {ob : List (Nat × Option AObj)} {nx d ty : Nat} {pos : String} {aft : Array Edge} {g : Option (Nat × Bool)}
end
end Go.Proofs.YtjeffognhcbiaaaGreatDoor
