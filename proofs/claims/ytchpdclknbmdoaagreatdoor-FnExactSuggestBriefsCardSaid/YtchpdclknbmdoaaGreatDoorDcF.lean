/- Dictionaries: entries are put in their places. No conditions but bounds of lengths. -/
import Derived.Test.YtchpdclknbmdoaaGreatDoorDcE
namespace Go.Proofs.YtchpdclknbmdoaaGreatDoor
open Go Go.RowKit
structure Ent where
  o : List Int
  t : List UInt8
instance : Inhabited Ent := ⟨⟨[], []⟩⟩
def xN (e : Ent) : List Cell := [.sl (e.o.map yQ), str e.t]
def vE (l : List Ent) : List Cell := [.sl (l.map xN)]
def vT : List Int → List Int → Int
  | [], [] => 0
  | [], _ :: _ => -1
  | _ :: _, [] => 1
  | x :: xs, y :: ys => if x < y then -1 else if y < x then 1 else vT xs ys
theorem kG {l : List Int} {k : Nat} {c : Int} (hc : l[k]? = some c) : l.drop k = c :: l.drop (k + 1) := by
  obtain ⟨h1, h2⟩ := List.getElem?_eq_some_iff.1 hc
  rw [List.drop_eq_getElem_cons h1, h2]
theorem l4Compare_pf (a b : List Int) (ha : a.length ≤ 4000000) (hb : b.length ≤ 4000000) : PF Tryz.prog 132 [.c (.sl (a.map yQ)), .c (.sl (b.map yQ))] [] (.c (int (vT a b))) := by
  have hLa : (a.map yQ).length = a.length := List.length_map _
  have hLb : (b.map yQ).length = b.length := List.length_map _
  refine PF.enter (xS _ _) Tryz.func132 rfl (by kernel_rfl) _ _ rfl rfl rfl (fun w0 mu I0 β0 gi dis => ?_)
  (repeat' (first|(apply xW;((exact Want.none_ rfl)))|(apply xF zI;exact rfl;exact rfl)|apply zQ|apply AWp.Q|apply zG|apply AWp.G|apply AWp.B))
  refine AWp.U (σ := Nat) (fun k => ⟨[(0, .c (.sl (a.map yQ))), (1, .c (.sl (b.map yQ))), (5, .c (int k))], [], 0⟩) (fun k => k ≤ a.length ∧ k ≤ b.length ∧ vT a b = vT (a.drop k) (b.drop k)) (fun k => a.length - k) 0 ⟨Nat.zero_le _, Nat.zero_le _, rfl⟩ ?_ ?_
  · refine Weak.of [] rfl ?_ ?_ <;> (repeat' (first|exact trivial|exact rfl|apply And.intro))
  · rintro k ⟨hka, hkb, hcm⟩
    by_cases hlt : k < a.length ∧ k < b.length
    · obtain ⟨x, hx⟩ := xQ hlt.1
      obtain ⟨y, hy⟩ := xQ hlt.2
      have hx' : (a.map yQ)[k]? = some (yQ x) := xM hx
      have hy' : (b.map yQ)[k]? = some (yQ y) := xM hy
      have h1 : (k : Int) < ((a.map yQ).length : Int) := by omega
      have h2 : (k : Int) < ((b.map yQ).length : Int) := by omega
      rw [kG hx, kG hy, vT] at hcm
      by_cases hxy : x < y
      · rw [if_pos hxy] at hcm
        rw [hcm]
        (repeat' (first|(apply xW;(first|exact Want.none_ rfl|(refine zW rfl rfl rfl rfl ?_;((exact dT ‹_›)))))|(apply xF zI;exact rfl;exact rfl)|(((apply yB;exact rfl;exact rfl))<;>(first|exact zI|exact Nat.zero_add _|exact rfl|refine yH ?_|assumption))|(apply yX;exact rfl;exact rfl;((exact dT ‹_›));exact rfl;exact rfl)|apply zQ|(refine y3 ?_ ?_;kernel_rfl)|apply AWp.Q|apply zG|apply AWp.G|apply AWp.B|apply AWp.J|apply AWp.R|apply zK|apply zM|(refine AWp.D ?_ ?_;kernel_rfl)|(apply AWp.T;exact rfl;((exact dT ‹_›)))))
        (((refine zX _ [] (.cons (zP rfl) .nil) ?_ rfl ?_)) <;> (repeat' (first|exact trivial|exact rfl)))
      · by_cases hyx : y < x
        · rw [if_neg hxy, if_pos hyx] at hcm
          rw [hcm]
          (repeat' (first|(apply xW;(first|exact Want.none_ rfl|(refine zW rfl rfl rfl rfl ?_;((exact dT ‹_›)))))|(apply xF zI;exact rfl;exact rfl)|(((apply yB;exact rfl;exact rfl))<;>(first|exact zI|exact Nat.zero_add _|exact rfl|refine yH ?_|assumption))|(apply yX;exact rfl;exact rfl;((exact dT ‹_›));exact rfl;exact rfl)|apply zQ|(refine y3 ?_ ?_;kernel_rfl)|apply AWp.Q|apply zG|apply AWp.G|apply AWp.B|apply AWp.J|apply AWp.R|apply zK|apply zM|(refine AWp.D ?_ ?_;kernel_rfl)|(apply AWp.T;exact rfl;((exact dT ‹_›)))|(apply AWp.F;exact rfl;((exact dF ‹_›)))))
          (((refine zX _ [] (.cons (zP rfl) .nil) ?_ rfl ?_)) <;> (repeat' (first|exact trivial|exact rfl)))
        · rw [if_neg hxy, if_neg hyx] at hcm
          (repeat' (first|(apply xW;(first|exact Want.none_ rfl|(refine zW rfl rfl rfl rfl ?_;((exact dT ‹_›)))))|(apply xF zI;exact rfl;exact rfl)|((first|apply yE|(apply yB;exact rfl;exact rfl))<;>(first|exact zI|exact Nat.zero_add _|exact rfl|refine yH ?_|assumption|omega))|(apply yX;exact rfl;exact rfl;((exact dT ‹_›));exact rfl;exact rfl)|apply zQ|(refine y3 ?_ ?_;kernel_rfl)|apply AWp.Q|apply zG|apply AWp.G|apply AWp.B|apply AWp.J|apply zH|(refine AWp.D ?_ ?_;kernel_rfl)|(apply AWp.T;exact rfl;((exact dT ‹_›)))|(apply AWp.F;exact rfl;((exact dF ‹_›)))))
          refine ⟨k + 1, ⟨by omega, by omega, hcm⟩, by omega, ?_⟩
          refine Weak.of [] rfl ?_ ?_ <;> (repeat' (first|exact trivial|exact rfl|apply And.intro))
    · rcases Nat.lt_or_ge k a.length with hka' | hka'
      · obtain rfl : k = b.length := by omega
        have h1 : ((b.length : Nat) : Int) < ((a.map yQ).length : Int) := by omega
        have h2 : ¬ ((b.length : Nat) : Int) < ((b.map yQ).length : Int) := by omega
        have h3 : ¬ ((a.map yQ).length : Int) < ((b.map yQ).length : Int) := by omega
        have h4 : ((b.map yQ).length : Int) < ((a.map yQ).length : Int) := by omega
        obtain ⟨x, hx⟩ := xQ hka'
        rw [kG hx, List.drop_of_length_le (Nat.le_refl _), vT] at hcm
        rw [hcm]
        (repeat' (first|(apply xW;(first|exact Want.none_ rfl|(refine zW rfl rfl rfl rfl ?_;((exact dT ‹_›)))))|(apply xF zI;exact rfl;exact rfl)|(apply yX;exact rfl;exact rfl;((exact dT ‹_›));exact rfl;exact rfl)|apply zQ|apply AWp.Q|apply zG|apply AWp.G|apply AWp.B|apply AWp.X|apply AWp.R|apply zN|apply zK|apply zM|apply zL|(apply AWp.T;exact rfl;((exact dT ‹_›)))|(apply AWp.F;exact rfl;((exact dF ‹_›)))))
        (((refine zX _ [] (.cons (zP rfl) .nil) ?_ rfl ?_)) <;> (repeat' (first|exact trivial|exact rfl)))
      · obtain rfl : k = a.length := by omega
        have h1 : ¬ ((a.length : Nat) : Int) < ((a.map yQ).length : Int) := by omega
        rw [List.drop_of_length_le (Nat.le_refl _)] at hcm
        rcases Nat.lt_or_ge a.length b.length with hlb | hlb
        · have h3 : ((a.map yQ).length : Int) < ((b.map yQ).length : Int) := by omega
          obtain ⟨y, hy⟩ := xQ hlb
          rw [kG hy, vT] at hcm
          rw [hcm]
          (repeat' (first|(apply xW;((exact Want.none_ rfl)))|(apply xF zI;exact rfl;exact rfl)|(apply yX;exact rfl;exact rfl;((exact dF ‹_›));exact rfl;exact rfl)|(apply yY;(iterate 5 exact rfl);((exact dF ‹_›)))|apply zQ|apply AWp.Q|apply zG|apply AWp.G|apply AWp.B|apply AWp.X|apply AWp.R|apply zN|apply zK|apply zM|apply zL|(apply AWp.T;exact rfl;((exact dT ‹_›)))|(apply AWp.F;exact rfl;((exact rfl)))))
          (((refine zX _ [] (.cons (zP rfl) .nil) ?_ rfl ?_)) <;> (repeat' (first|exact trivial|exact rfl)))
        · have h3 : ¬ ((a.map yQ).length : Int) < ((b.map yQ).length : Int) := by omega
          have h4 : ¬ ((b.map yQ).length : Int) < ((a.map yQ).length : Int) := by omega
          rw [List.drop_of_length_le hlb, vT] at hcm
          rw [hcm]
          (repeat' (first|(apply xW;((exact Want.none_ rfl)))|(apply xF zI;exact rfl;exact rfl)|(apply yX;exact rfl;exact rfl;((exact dF ‹_›));exact rfl;exact rfl)|(apply yY;(iterate 5 exact rfl);((exact dF ‹_›)))|apply zQ|apply AWp.Q|apply zG|apply AWp.G|apply AWp.B|apply AWp.J|apply AWp.X|apply AWp.R|apply zN|apply zH|apply zL|(apply AWp.F;exact rfl;(first|exact dF ‹_›|exact rfl))))
          (((refine zX _ [] (.cons (zP rfl) .nil) ?_ rfl ?_)) <;> (repeat' (first|exact trivial|exact rfl)))
end Go.Proofs.YtchpdclknbmdoaaGreatDoor
