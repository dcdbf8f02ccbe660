/- Dictionaries: entries are put in their places. No conditions but bounds of lengths. -/
import Derived.Test.YtchpdclknbmdoaaGreatDoorDcE
namespace Go.Proofs.YtchpdclknbmdoaaGreatDoor
open Go Go.RowKit
structure Ent where
  o : List Int
  t : List UInt8
instance : Inhabited Ent := ⟨⟨[], []⟩⟩
def xR (e : Ent) : List Cell := [.sl (e.o.map y4), str e.t]
theorem x8 (l : List Ent) : ∀ x ∈ l.map xR, ∀ c ∈ x, Imm c := by
  intro x hx c hc
  obtain ⟨e, _, rfl⟩ := List.mem_map.1 hx
  simp only [xR, List.mem_cons, List.not_mem_nil, or_false] at hc
  rcases hc with rfl | rfl
  · exact Imm.sl _
  · exact Imm.v _
def wI (l : List Ent) : List Cell := [.sl (l.map xR)]
theorem l1Own_pf (l : List Int) (hl : l.length ≤ 1000000) : PF Tryz.prog 172 [.c (.sl (l.map y4))] [⟨3, 1, l.map y4⟩] (.c (.ref 0 0 l.length)) := by
  have hL : (l.map y4).length = l.length := List.length_map _
  have hsc := xJ l
  have h1 : ∀ x ∈ l.map y4, x.length = 1 := fun x hx => by
    obtain ⟨i, _, rfl⟩ := List.mem_map.1 hx
    rfl
  refine PF.enter (xI _) Tryz.func172 rfl (by kernel_rfl) _ _ rfl rfl rfl (fun w0 mu I0 β0 gi dis => ?_)
  (repeat' (first|(apply xW;((exact Want.none_ rfl)))|(apply xF zK;exact rfl;exact rfl)|((first|apply zQ|(apply yB;exact rfl;exact rfl))<;>(first|exact zK|exact Nat.zero_add _|exact rfl|refine yO ?_|(refine Bd.mk ?_;first|assumption|(simp;omega))))|apply zV|apply AWp.Q|apply zJ|apply AWp.G|apply AWp.R))
  (((refine z6 _ [(0, some 1)] (.cons (zT rfl) .nil) ?_ rfl ?_)) <;> (repeat' (first|exact trivial|exact rfl|apply And.intro|(refine yG ?_;(focus (simp;done)))|refine oWs rfl rfl rfl ?_ ?_|(refine aIm ?_;(assumption)))))
  all_goals first | exact hsc.imm | skip
def wM : List Int → List Int → Int
  | [], [] => 0
  | [], _ :: _ => -1
  | _ :: _, [] => 1
  | x :: xs, y :: ys => if x < y then -1 else if y < x then 1 else wM xs ys
theorem jB {l : List Int} {k : Nat} {c : Int} (hc : l[k]? = some c) : l.drop k = c :: l.drop (k + 1) := by
  obtain ⟨h1, h2⟩ := List.getElem?_eq_some_iff.1 hc
  rw [List.drop_eq_getElem_cons h1, h2]
theorem l4Compare_pf (a b : List Int) (ha : a.length ≤ 4000000) (hb : b.length ≤ 4000000) : PF Tryz.prog 132 [.c (.sl (a.map y4)), .c (.sl (b.map y4))] [] (.c (int (wM a b))) := by
  have hLa : (a.map y4).length = a.length := List.length_map _
  have hLb : (b.map y4).length = b.length := List.length_map _
  refine PF.enter (x5 _ _) Tryz.func132 rfl (by kernel_rfl) _ _ rfl rfl rfl (fun w0 mu I0 β0 gi dis => ?_)
  (repeat' (first|(apply xW;((exact Want.none_ rfl)))|(apply xF zK;exact rfl;exact rfl)|apply zV|apply AWp.Q|apply zJ|apply AWp.G|apply AWp.B))
  refine AWp.U (σ := Nat) (fun k => ⟨[(0, .c (.sl (a.map y4))), (1, .c (.sl (b.map y4))), (5, .c (int k))], [], 0⟩) (fun k => k ≤ a.length ∧ k ≤ b.length ∧ wM a b = wM (a.drop k) (b.drop k)) (fun k => a.length - k) 0 ⟨Nat.zero_le _, Nat.zero_le _, rfl⟩ ?_ ?_
  · refine Weak.of [] rfl ?_ ?_ <;> (repeat' (first|exact trivial|exact rfl|apply And.intro))
  · rintro k ⟨hka, hkb, hcm⟩
    by_cases hlt : k < a.length ∧ k < b.length
    · obtain ⟨x, hx⟩ := xX hlt.1
      obtain ⟨y, hy⟩ := xX hlt.2
      have hx' : (a.map y4)[k]? = some (y4 x) := xZ hx
      have hy' : (b.map y4)[k]? = some (y4 y) := xZ hy
      have h1 : (k : Int) < ((a.map y4).length : Int) := by omega
      have h2 : (k : Int) < ((b.map y4).length : Int) := by omega
      rw [jB hx, jB hy, wM] at hcm
      by_cases hxy : x < y
      · rw [if_pos hxy] at hcm
        rw [hcm]
        (repeat' (first|(apply xW;(first|exact Want.none_ rfl|(refine zZ rfl rfl rfl rfl ?_;((exact dT ‹_›)))))|(apply xF zK;exact rfl;exact rfl)|(((apply yJ;exact rfl;exact rfl))<;>(first|exact zK|exact Nat.zero_add _|exact rfl|refine yO ?_|assumption))|(apply y8;exact rfl;exact rfl;((exact dT ‹_›));exact rfl;exact rfl)|apply zV|(refine yN ?_ ?_;kernel_rfl)|apply AWp.Q|apply zJ|apply AWp.G|apply AWp.B|apply AWp.J|apply AWp.R|apply zM|apply zN|(refine AWp.D ?_ ?_;kernel_rfl)|(apply AWp.T;exact rfl;((exact dT ‹_›)))))
        (((refine z6 _ [] (.cons (zT rfl) .nil) ?_ rfl ?_)) <;> (repeat' (first|exact trivial|exact rfl)))
      · by_cases hyx : y < x
        · rw [if_neg hxy, if_pos hyx] at hcm
          rw [hcm]
          (repeat' (first|(apply xW;(first|exact Want.none_ rfl|(refine zZ rfl rfl rfl rfl ?_;((exact dT ‹_›)))))|(apply xF zK;exact rfl;exact rfl)|(((apply yJ;exact rfl;exact rfl))<;>(first|exact zK|exact Nat.zero_add _|exact rfl|refine yO ?_|assumption))|(apply y8;exact rfl;exact rfl;((exact dT ‹_›));exact rfl;exact rfl)|apply zV|(refine yN ?_ ?_;kernel_rfl)|apply AWp.Q|apply zJ|apply AWp.G|apply AWp.B|apply AWp.J|apply AWp.R|apply zM|apply zN|(refine AWp.D ?_ ?_;kernel_rfl)|(apply AWp.T;exact rfl;((exact dT ‹_›)))|(apply AWp.F;exact rfl;((exact dF ‹_›)))))
          (((refine z6 _ [] (.cons (zT rfl) .nil) ?_ rfl ?_)) <;> (repeat' (first|exact trivial|exact rfl)))
        · rw [if_neg hxy, if_neg hyx] at hcm
          (repeat' (first|(apply xW;(first|exact Want.none_ rfl|(refine zZ rfl rfl rfl rfl ?_;((exact dT ‹_›)))))|(apply xF zK;exact rfl;exact rfl)|((first|apply yF|(apply yJ;exact rfl;exact rfl))<;>(first|exact zK|exact Nat.zero_add _|exact rfl|refine yO ?_|assumption|omega))|(apply y8;exact rfl;exact rfl;((exact dT ‹_›));exact rfl;exact rfl)|apply zV|(refine yN ?_ ?_;kernel_rfl)|apply AWp.Q|apply zJ|apply AWp.G|apply AWp.B|apply AWp.J|apply zL|(refine AWp.D ?_ ?_;kernel_rfl)|(apply AWp.T;exact rfl;((exact dT ‹_›)))|(apply AWp.F;exact rfl;((exact dF ‹_›)))))
          refine ⟨k + 1, ⟨by omega, by omega, hcm⟩, by omega, ?_⟩
          refine Weak.of [] rfl ?_ ?_ <;> (repeat' (first|exact trivial|exact rfl|apply And.intro))
    · rcases Nat.lt_or_ge k a.length with hka' | hka'
      · obtain rfl : k = b.length := by omega
        have h1 : ((b.length : Nat) : Int) < ((a.map y4).length : Int) := by omega
        have h2 : ¬ ((b.length : Nat) : Int) < ((b.map y4).length : Int) := by omega
        have h3 : ¬ ((a.map y4).length : Int) < ((b.map y4).length : Int) := by omega
        have h4 : ((b.map y4).length : Int) < ((a.map y4).length : Int) := by omega
        obtain ⟨x, hx⟩ := xX hka'
        rw [jB hx, List.drop_of_length_le (Nat.le_refl _), wM] at hcm
        rw [hcm]
        (repeat' (first|(apply xW;(first|exact Want.none_ rfl|(refine zZ rfl rfl rfl rfl ?_;((exact dT ‹_›)))))|(apply xF zK;exact rfl;exact rfl)|(apply y8;exact rfl;exact rfl;((exact dT ‹_›));exact rfl;exact rfl)|apply zV|apply AWp.Q|apply zJ|apply AWp.G|apply AWp.B|apply AWp.X|apply AWp.R|apply zU|apply zM|apply zN|apply zR|(apply AWp.T;exact rfl;((exact dT ‹_›)))|(apply AWp.F;exact rfl;((exact dF ‹_›)))))
        (((refine z6 _ [] (.cons (zT rfl) .nil) ?_ rfl ?_)) <;> (repeat' (first|exact trivial|exact rfl)))
      · obtain rfl : k = a.length := by omega
        have h1 : ¬ ((a.length : Nat) : Int) < ((a.map y4).length : Int) := by omega
        rw [List.drop_of_length_le (Nat.le_refl _)] at hcm
        rcases Nat.lt_or_ge a.length b.length with hlb | hlb
        · have h3 : ((a.map y4).length : Int) < ((b.map y4).length : Int) := by omega
          obtain ⟨y, hy⟩ := xX hlb
          rw [jB hy, wM] at hcm
          rw [hcm]
          (repeat' (first|(apply xW;((exact Want.none_ rfl)))|(apply xF zK;exact rfl;exact rfl)|(apply y8;exact rfl;exact rfl;((exact dF ‹_›));exact rfl;exact rfl)|(apply y7;(iterate 5 exact rfl);((exact dF ‹_›)))|apply zV|apply AWp.Q|apply zJ|apply AWp.G|apply AWp.B|apply AWp.X|apply AWp.R|apply zU|apply zM|apply zN|apply zR|(apply AWp.T;exact rfl;((exact dT ‹_›)))|(apply AWp.F;exact rfl;((exact rfl)))))
          (((refine z6 _ [] (.cons (zT rfl) .nil) ?_ rfl ?_)) <;> (repeat' (first|exact trivial|exact rfl)))
        · have h3 : ¬ ((a.map y4).length : Int) < ((b.map y4).length : Int) := by omega
          have h4 : ¬ ((b.map y4).length : Int) < ((a.map y4).length : Int) := by omega
          rw [List.drop_of_length_le hlb, wM] at hcm
          rw [hcm]
          (repeat' (first|(apply xW;((exact Want.none_ rfl)))|(apply xF zK;exact rfl;exact rfl)|(apply y8;exact rfl;exact rfl;((exact dF ‹_›));exact rfl;exact rfl)|(apply y7;(iterate 5 exact rfl);((exact dF ‹_›)))|apply zV|apply AWp.Q|apply zJ|apply AWp.G|apply AWp.B|apply AWp.J|apply AWp.X|apply AWp.R|apply zU|apply zL|apply zR|(apply AWp.F;exact rfl;(first|exact dF ‹_›|exact rfl))))
          (((refine z6 _ [] (.cons (zT rfl) .nil) ?_ rfl ?_)) <;> (repeat' (first|exact trivial|exact rfl)))
end Go.Proofs.YtchpdclknbmdoaaGreatDoor
