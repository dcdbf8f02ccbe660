/- FewestPieces of impl. -/
import Derived.Test.YtchpdclknbmdoaaGreatDoorFwB
import Derived.Test.YtchpdclknbmdoaaGreatDoorSgC
namespace Go.Proofs.YtchpdclknbmdoaaGreatDoor
open Go Go.RowKit
theorem pcC_zero (es : List Ent) (l : List Int) (i : Nat) : pcC es l i 0 = ⟨i, 1, []⟩ := by rw [pcC, if_neg (by omega)]
theorem pcC_pos (es : List Ent) (l : List Int) (i n : Nat) : pcC es l i (n + 1) = ⟨i, ((n + 1 : Nat) : Int), qC es (cut l i (n + 1))⟩ := by rw [pcC, if_pos (by omega)]
def z0 : Pc := ⟨0, 0, []⟩
def fwO (es : List Ent) (l : List Int) : AObj := ⟨55, 3, (few es l).map xQ⟩
def cK (W : Nat) (es : List Ent) (l : List Int) (k : Nat) : List (List Cell) := (vN (l.length + 1) (gok k (ctW W es l) 0)).map yU
def cI (W : Nat) (es : List Ent) (l : List Int) (i : Nat) (x : Int) : List (List Cell) := (vN (l.length + 1) (gfi i x (ctW W es l) 0)).map yU
theorem cK_len (W : Nat) (es : List Ent) (l : List Int) (k : Nat) : (cK W es l k).length = l.length + 1 := by rw [cK, List.length_map, wT]
theorem cI_len (W : Nat) (es : List Ent) (l : List Int) (k : Nat) (x : Int) : (cI W es l k x).length = l.length + 1 := by rw [cI, List.length_map, wT]
theorem cK_at {W : Nat} {es : List Ent} {l : List Int} {k j : Nat} (h : k ≤ j) (hj : j ≤ l.length) : (cK W es l k)[j]? = some [int (ctW W es l j)] := by
  have := wW (n := l.length + 1) (gok k (ctW W es l) 0) (j := j) (by omega)
  rw [gok_up _ _ h] at this
  exact xS this
theorem cI_up {W : Nat} {es : List Ent} {l : List Int} {k j : Nat} {x : Int} (h : k < j) (hj : j ≤ l.length) : (cI W es l k x)[j]? = some [int (ctW W es l j)] := by
  have := wW (n := l.length + 1) (gfi k x (ctW W es l) 0) (j := j) (by omega)
  rw [gfi_up _ _ _ h] at this
  exact xS this
theorem cI_me {W : Nat} {es : List Ent} {l : List Int} {i : Nat} {x : Int} (h : i ≤ l.length) : (cI W es l i x)[i]? = some [int x] := by
  have := wW (n := l.length + 1) (gfi i x (ctW W es l) 0) (j := i) (by omega)
  rw [gfi_at] at this
  exact xS this
theorem cK_low {W : Nat} {es : List Ent} {l : List Int} {i : Nat} (h : i ≤ l.length) : (cK W es l (i + 1))[i]? = some [int 0] := by
  have := wW (n := l.length + 1) (gok (i + 1) (ctW W es l) 0) (j := i) (by omega)
  rw [show gok (i + 1) (ctW W es l) 0 i = 0 from if_neg (by omega)] at this
  exact xS this
theorem cK_sc (W : Nat) (es : List Ent) (l : List Int) (k : Nat) : AllSc (cK W es l k) := xI _
theorem cI_sc (W : Nat) (es : List Ent) (l : List Int) (k : Nat) (x : Int) : AllSc (cI W es l k x) := xI _
theorem cK_new {W : Nat} {es : List Ent} {l : List Int} {i : Nat} {x : Int} : (cK W es l (i + 1)).set i [int x] = cI W es l i x := by
  rw [cK, cI, ← tabA_new]; exact (List.map_set ..).symm
theorem cI_set {W : Nat} {es : List Ent} {l : List Int} {i : Nat} {x y : Int} : (cI W es l i x).set i [int y] = cI W es l i y := by
  show ((vN (l.length + 1) (gfi i x (ctW W es l) 0)).map yU).set i (yU y) = _
  rw [← List.map_set, tabA_again]; rfl
theorem cI_done {W : Nat} {es : List Ent} {l : List Int} {i : Nat} : cI W es l i (ctW W es l i) = cK W es l i := by rw [cI, cK, tabA_done]
theorem cK_zero {W : Nat} {es : List Ent} {l : List Int} : List.replicate (l.length + 1) [int 0] = cK W es l l.length := by
  rw [cK, ← tabA_zero (ctW W es l) 0 (fun j _ h => ctW_end W h), List.map_replicate]; rfl
end Go.Proofs.YtchpdclknbmdoaaGreatDoor
