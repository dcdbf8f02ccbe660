/- Dictionaries: entries are put in their places. No conditions but bounds of lengths. -/
import Derived.Test.YtjeffognhcbiaaaGreatDoorDcE
namespace Go.Proofs.YtjeffognhcbiaaaGreatDoor
open Go Go.RowKit
structure Ent where
  o : List Int
  t : List UInt8
instance : Inhabited Ent := ⟨⟨[], []⟩⟩
def xS (e : Ent) : List Cell := [.sl (e.o.map xE), str e.t]
theorem wC (l : List Ent) : ∀ x ∈ l.map xS, ∀ c ∈ x, Imm c := by
  intro x hx c hc
  obtain ⟨e, _, rfl⟩ := List.mem_map.1 hx
  simp only [xS, List.mem_cons, List.not_mem_nil, or_false] at hc
  rcases hc with rfl | rfl
  · exact Imm.sl _
  · exact Imm.v _
def wG (l : List Ent) : List Cell := [.sl (l.map xS)]
theorem l1Own_pf (l : List Int) (hl : l.length ≤ 1000000) : PF Tryz.prog 169 [.c (.sl (l.map xE))] [⟨3, 1, l.map xE⟩] (.c (.ref 0 0 l.length)) := by
  have hL : (l.map xE).length = l.length := List.length_map _
  have hsc := xM l
  have h1 : ∀ x ∈ l.map xE, x.length = 1 := fun x hx => by
    obtain ⟨i, _, rfl⟩ := List.mem_map.1 hx
    rfl
  refine PF.enter (xJ _) Tryz.func169 rfl (by kernel_rfl) _ _ rfl rfl rfl (fun w0 mu I0 β0 gi dis => ?_)
  (repeat' (first|(apply xW;((exact Want.none_ rfl)))|(apply xF zI;exact rfl;exact rfl)|((first|apply zU|(apply yZ;exact rfl;exact rfl))<;>(first|exact zI|exact Nat.zero_add _|exact rfl|refine yG ?_|(refine Bd.mk ?_;first|assumption|(simp;omega))))|apply zR|apply AWp.Q|apply zH|apply AWp.G|apply AWp.R))
  (((refine zV _ [(0, some 1)] (.cons (zN rfl) .nil) ?_ rfl ?_)) <;> (repeat' (first|exact trivial|exact rfl|apply And.intro|(refine z8 ?_;(focus (simp;done)))|refine oWs rfl rfl rfl ?_ ?_|(refine aIm ?_;(assumption)))))
  all_goals first | exact hsc.imm | skip
def wP : List Int → List Int → Int
  | [], [] => 0
  | [], _ :: _ => -1
  | _ :: _, [] => 1
  | x :: xs, y :: ys => if x < y then -1 else if y < x then 1 else wP xs ys
theorem kT {l : List Int} {k : Nat} {c : Int} (hc : l[k]? = some c) : l.drop k = c :: l.drop (k + 1) := by
  obtain ⟨h1, h2⟩ := List.getElem?_eq_some_iff.1 hc
  rw [List.drop_eq_getElem_cons h1, h2]
theorem l4Compare_pf (a b : List Int) (ha : a.length ≤ 4000000) (hb : b.length ≤ 4000000) : PF Tryz.prog 57 [.c (.sl (a.map xE)), .c (.sl (b.map xE))] [] (.c (int (wP a b))) := by
  have hLa : (a.map xE).length = a.length := List.length_map _
  have hLb : (b.map xE).length = b.length := List.length_map _
  refine PF.enter (xG _ _) Tryz.func57 rfl (by kernel_rfl) _ _ rfl rfl rfl (fun w0 mu I0 β0 gi dis => ?_)
  (repeat' (first|(apply xW;((exact Want.none_ rfl)))|(apply xF zI;exact rfl;exact rfl)|apply zR|apply AWp.Q|apply zH|apply AWp.G|apply AWp.B))
  refine AWp.U (σ := Nat) (fun k => ⟨[(0, .c (.sl (a.map xE))), (1, .c (.sl (b.map xE))), (5, .c (int k))], [], 0⟩) (fun k => k ≤ a.length ∧ k ≤ b.length ∧ wP a b = wP (a.drop k) (b.drop k)) (fun k => a.length - k) 0 ⟨Nat.zero_le _, Nat.zero_le _, rfl⟩ ?_ ?_
  · refine Weak.of [] rfl ?_ ?_ <;> (repeat' (first|exact trivial|exact rfl|apply And.intro))
  · rintro k ⟨hka, hkb, hcm⟩
    by_cases hlt : k < a.length ∧ k < b.length
    · obtain ⟨x, hx⟩ := xT hlt.1
      obtain ⟨y, hy⟩ := xT hlt.2
      have hx' : (a.map xE)[k]? = some (xE x) := xY hx
      have hy' : (b.map xE)[k]? = some (xE y) := xY hy
      have h1 : (k : Int) < ((a.map xE).length : Int) := by omega
      have h2 : (k : Int) < ((b.map xE).length : Int) := by omega
      rw [kT hx, kT hy, wP] at hcm
      by_cases hxy : x < y
      · rw [if_pos hxy] at hcm
        rw [hcm]
        (repeat' (first|(apply xW;(first|exact Want.none_ rfl|(refine zX rfl rfl rfl rfl ?_;((exact dT ‹_›)))))|(apply xF zI;exact rfl;exact rfl)|(((apply yN;exact rfl;exact rfl))<;>(first|exact zI|exact Nat.zero_add _|exact rfl|refine yG ?_|assumption))|(apply yR;exact rfl;exact rfl;((exact dT ‹_›));exact rfl;exact rfl)|apply zR|(refine yT ?_ ?_;kernel_rfl)|apply AWp.Q|apply zH|apply AWp.G|apply AWp.B|apply AWp.J|apply AWp.R|apply zK|apply zL|(refine AWp.D ?_ ?_;kernel_rfl)|(apply AWp.T;exact rfl;((exact dT ‹_›)))))
        (((refine zV _ [] (.cons (zN rfl) .nil) ?_ rfl ?_)) <;> (repeat' (first|exact trivial|exact rfl)))
      · by_cases hyx : y < x
        · rw [if_neg hxy, if_pos hyx] at hcm
          rw [hcm]
          (repeat' (first|(apply xW;(first|exact Want.none_ rfl|(refine zX rfl rfl rfl rfl ?_;((exact dT ‹_›)))))|(apply xF zI;exact rfl;exact rfl)|(((apply yN;exact rfl;exact rfl))<;>(first|exact zI|exact Nat.zero_add _|exact rfl|refine yG ?_|assumption))|(apply yR;exact rfl;exact rfl;((exact dT ‹_›));exact rfl;exact rfl)|apply zR|(refine yT ?_ ?_;kernel_rfl)|apply AWp.Q|apply zH|apply AWp.G|apply AWp.B|apply AWp.J|apply AWp.R|apply zK|apply zL|(refine AWp.D ?_ ?_;kernel_rfl)|(apply AWp.T;exact rfl;((exact dT ‹_›)))|(apply AWp.F;exact rfl;((exact dF ‹_›)))))
          (((refine zV _ [] (.cons (zN rfl) .nil) ?_ rfl ?_)) <;> (repeat' (first|exact trivial|exact rfl)))
        · rw [if_neg hxy, if_neg hyx] at hcm
          (repeat' (first|(apply xW;(first|exact Want.none_ rfl|(refine zX rfl rfl rfl rfl ?_;((exact dT ‹_›)))))|(apply xF zI;exact rfl;exact rfl)|((first|apply zZ|(apply yN;exact rfl;exact rfl))<;>(first|exact zI|exact Nat.zero_add _|exact rfl|refine yG ?_|assumption|omega))|(apply yR;exact rfl;exact rfl;((exact dT ‹_›));exact rfl;exact rfl)|apply zR|(refine yT ?_ ?_;kernel_rfl)|apply AWp.Q|apply zH|apply AWp.G|apply AWp.B|apply AWp.J|apply zJ|(refine AWp.D ?_ ?_;kernel_rfl)|(apply AWp.T;exact rfl;((exact dT ‹_›)))|(apply AWp.F;exact rfl;((exact dF ‹_›)))))
          refine ⟨k + 1, ⟨by omega, by omega, hcm⟩, by omega, ?_⟩
          refine Weak.of [] rfl ?_ ?_ <;> (repeat' (first|exact trivial|exact rfl|apply And.intro))
    · rcases Nat.lt_or_ge k a.length with hka' | hka'
      · obtain rfl : k = b.length := by omega
        have h1 : ((b.length : Nat) : Int) < ((a.map xE).length : Int) := by omega
        have h2 : ¬ ((b.length : Nat) : Int) < ((b.map xE).length : Int) := by omega
        have h3 : ¬ ((a.map xE).length : Int) < ((b.map xE).length : Int) := by omega
        have h4 : ((b.map xE).length : Int) < ((a.map xE).length : Int) := by omega
        obtain ⟨x, hx⟩ := xT hka'
        rw [kT hx, List.drop_of_length_le (Nat.le_refl _), wP] at hcm
        rw [hcm]
        (repeat' (first|(apply xW;(first|exact Want.none_ rfl|(refine zX rfl rfl rfl rfl ?_;((exact dT ‹_›)))))|(apply xF zI;exact rfl;exact rfl)|(apply yR;exact rfl;exact rfl;((exact dT ‹_›));exact rfl;exact rfl)|apply zR|apply AWp.Q|apply zH|apply AWp.G|apply AWp.B|apply AWp.X|apply AWp.R|apply zQ|apply zK|apply zL|apply zO|(apply AWp.T;exact rfl;((exact dT ‹_›)))|(apply AWp.F;exact rfl;((exact dF ‹_›)))))
        (((refine zV _ [] (.cons (zN rfl) .nil) ?_ rfl ?_)) <;> (repeat' (first|exact trivial|exact rfl)))
      · obtain rfl : k = a.length := by omega
        have h1 : ¬ ((a.length : Nat) : Int) < ((a.map xE).length : Int) := by omega
        rw [List.drop_of_length_le (Nat.le_refl _)] at hcm
        rcases Nat.lt_or_ge a.length b.length with hlb | hlb
        · have h3 : ((a.map xE).length : Int) < ((b.map xE).length : Int) := by omega
          obtain ⟨y, hy⟩ := xT hlb
          rw [kT hy, wP] at hcm
          rw [hcm]
          (repeat' (first|(apply xW;((exact Want.none_ rfl)))|(apply xF zI;exact rfl;exact rfl)|(apply yR;exact rfl;exact rfl;((exact dF ‹_›));exact rfl;exact rfl)|(apply yS;(iterate 5 exact rfl);((exact dF ‹_›)))|apply zR|apply AWp.Q|apply zH|apply AWp.G|apply AWp.B|apply AWp.X|apply AWp.R|apply zQ|apply zK|apply zL|apply zO|(apply AWp.T;exact rfl;((exact dT ‹_›)))|(apply AWp.F;exact rfl;((exact rfl)))))
          (((refine zV _ [] (.cons (zN rfl) .nil) ?_ rfl ?_)) <;> (repeat' (first|exact trivial|exact rfl)))
        · have h3 : ¬ ((a.map xE).length : Int) < ((b.map xE).length : Int) := by omega
          have h4 : ¬ ((b.map xE).length : Int) < ((a.map xE).length : Int) := by omega
          rw [List.drop_of_length_le hlb, wP] at hcm
          rw [hcm]
          (repeat' (first|(apply xW;((exact Want.none_ rfl)))|(apply xF zI;exact rfl;exact rfl)|(apply yR;exact rfl;exact rfl;((exact dF ‹_›));exact rfl;exact rfl)|(apply yS;(iterate 5 exact rfl);((exact dF ‹_›)))|apply zR|apply AWp.Q|apply zH|apply AWp.G|apply AWp.B|apply AWp.J|apply AWp.X|apply AWp.R|apply zQ|apply zJ|apply zO|(apply AWp.F;exact rfl;(first|exact dF ‹_›|exact rfl))))
          (((refine zV _ [] (.cons (zN rfl) .nil) ?_ rfl ?_)) <;> (repeat' (first|exact trivial|exact rfl)))
end Go.Proofs.YtjeffognhcbiaaaGreatDoor
