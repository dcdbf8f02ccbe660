/- An entry is put in its place in a dictionary. No conditions but bounds of lengths. -/
import Derived.Test.YtchpdclknbmdoaaDoorDcF
namespace Go.Proofs.YtchpdclknbmdoaaDoor
open Go Go.RowKit
theorem All2.appE {α β : Type} {R : α → β → Prop} {c : List α} {d : List β} (h' : All2 R c d) : ∀ {a : List α} {b : List β}, All2 R a b → All2 R (a ++ c) (b ++ d)
  | _, _, .nil => h'
  | _, _, .cons h hs => .cons h (All2.appE h' hs)
theorem fc_refl (o : Nat) (els : List (List Cell)) (l : List (List Cell)) : All2 (All2 (FC o els)) l l := All2.refl (fun l => All2.refl (fun c => .same c) l) l
end Go.Proofs.YtchpdclknbmdoaaDoor
