/- Spelling, by the program: rule, JoinSuffix. No conditions but bounds of lengths. -/
import Derived.Test.YtjeffognhcbiaaaGreatDoorScH
import Derived.Test.YtjeffognhcbiaaaGreatDoorAbs3
namespace Go.Proofs.YtjeffognhcbiaaaGreatDoor
open Go Go.RowKit
def clB (w : List UInt8) : Bool := decide ((3 : Int) ≤ ((w.length : Nat) : Int)) && !vowB (bk w 3) && vowB (bk w 2) && !vowB (bk w 1) && ![[119], [120], [121]].any (endsB w)
theorem ends_one {w : List UInt8} (h : 1 ≤ w.length) (c : UInt8) : endsB w [c] = decide (((bk w 1).toNat : Int) = c.toNat) := by
  have e : w.drop (w.length - 1) = [bk w 1] := by
    have h1 := qR (s := w) (i := 1) h (by omega)
    obtain ⟨h2, h3⟩ := List.getElem?_eq_some_iff.1 h1
    rw [List.drop_eq_getElem_cons h2, h3, List.drop_of_length_le (by omega)]
  rw [endsB, show ([c] : List UInt8).length = 1 from rfl, decide_eq_true h, Bool.true_and, e]
  by_cases hc : bk w 1 = c
  · rw [hc, decide_eq_true rfl, decide_eq_true rfl]
  · rw [decide_eq_false (fun e => hc (List.cons.inj e).1), decide_eq_false (fun e => hc (UInt8.toNat_inj.1 (by omega)))]
theorem db_cl (w : List UInt8) : dbB w = (decide (((grpN w w.length : Nat) : Int) = 1) && clB w) := by
  rw [dbB, clB]
  by_cases h : 3 ≤ w.length
  · rw [decide_eq_true h, decide_eq_true (show (3 : Int) ≤ ((w.length : Nat) : Int) by omega)]
    rw [List.any_cons, List.any_cons, List.any_cons, List.any_nil, ends_one (by omega), ends_one (by omega), ends_one (by omega)]
    rw [show (decide (grpN w w.length = 1)) = decide (((grpN w w.length : Nat) : Int) = 1) from decide_eq_decide.2 (by omega)]
    rw [show (((119 : UInt8).toNat : Nat) : Int) = 119 from rfl, show (((120 : UInt8).toNat : Nat) : Int) = 120 from rfl, show (((121 : UInt8).toNat : Nat) : Int) = 121 from rfl]
    generalize decide (((grpN w w.length : Nat) : Int) = 1) = a
    generalize vowB (bk w 3) = b
    generalize vowB (bk w 2) = c
    generalize vowB (bk w 1) = d
    generalize decide (((bk w 1).toNat : Int) = 119) = e
    generalize decide (((bk w 1).toNat : Int) = 120) = f
    generalize decide (((bk w 1).toNat : Int) = 121) = g
    cases a <;> cases b <;> cases c <;> cases d <;> cases e <;> cases f <;> cases g <;> rfl
  · rw [decide_eq_false h, decide_eq_false (show ¬ (3 : Int) ≤ ((w.length : Nat) : Int) by omega)]
    simp
def oeB (w : List UInt8) : Bool := endsB w [101, 101] || endsB w [111, 101] || endsB w [121, 101]
theorem any_hiss (w : List UInt8) : [[115], [120], [122], [99, 104], [115, 104]].any (endsB w) = hissB w := by simp [hissB, Bool.or_assoc]
theorem any_ie (w : List UInt8) : [[105, 101]].any (endsB w) = endsB w [105, 101] := by simp
theorem any_e (w : List UInt8) : [[101]].any (endsB w) = endsB w [101] := by simp
theorem any_oe (w : List UInt8) : [[101, 101], [111, 101], [121, 101]].any (endsB w) = oeB w := by simp [oeB, Bool.or_assoc]
theorem drop_oe (w : List UInt8) : dropB w = (decide ((2 : Int) ≤ ((w.length : Nat) : Int)) && endsB w [101] && !oeB w) := by
  simp only [dropB, oeB, Bool.not_or, Bool.and_assoc]
set_option maxHeartbeats 4000000 in
theorem rule_pf (w x : List UInt8) (hw : w.length ≤ 4000000) (hx : 1 ≤ x.length) : PF Tryz.prog 198 [.c (str w), .c (str x)] [] (.c (int (wB w x))) := by
  have hb := kK (s := x) (k := 0) (by omega)
  have hv := vD (at0 x 0)
  have hg := groups_pf w hw
  have e1 : PF Tryz.prog 203 [.c (str w), .c (.sl [[str [119]], [str [120]], [str [121]]])] [] (.c (boo ([[119], [120], [121]].any (endsB w)))) := endsWith_pf w [[119], [120], [121]] hw (by simp)
  have e2 : PF Tryz.prog 203 [.c (str w), .c (.sl [[str [115]], [str [120]], [str [122]], [str [99, 104]], [str [115, 104]]])] [] (.c (boo ([[115], [120], [122], [99, 104], [115, 104]].any (endsB w)))) := endsWith_pf w [[115], [120], [122], [99, 104], [115, 104]] hw (by simp)
  have e3 : PF Tryz.prog 203 [.c (str w), .c (.sl [[str [105, 101]]])] [] (.c (boo ([[105, 101]].any (endsB w)))) := endsWith_pf w [[105, 101]] hw (by simp)
  have e4 : PF Tryz.prog 203 [.c (str w), .c (.sl [[str [101]]])] [] (.c (boo ([[101]].any (endsB w)))) := endsWith_pf w [[101]] hw (by simp)
  have e5 : PF Tryz.prog 203 [.c (str w), .c (.sl [[str [101, 101]], [str [111, 101]], [str [121, 101]]])] [] (.c (boo ([[101, 101], [111, 101], [121, 101]].any (endsB w)))) := endsWith_pf w [[101, 101], [111, 101], [121, 101]] hw (by simp)
  have a1 : AllSc [[str [119]], [str [120]], [str [121]]] := x3 [[119], [120], [121]]
  have a2 : AllSc [[str [115]], [str [120]], [str [122]], [str [99, 104]], [str [115, 104]]] := x3 [[115], [120], [122], [99, 104], [115, 104]]
  have a3 : AllSc [[str [105, 101]]] := x3 [[105, 101]]
  have a4 : AllSc [[str [101]]] := x3 [[101]]
  have a5 : AllSc [[str [101, 101]], [str [111, 101]], [str [121, 101]]] := x3 [[101, 101], [111, 101], [121, 101]]
  refine PF.enter (xG _ _) Tryz.func198 rfl (by kernel_rfl) _ _ rfl rfl rfl (fun w0 mu I0 β0 gi dis => ?_)
  (refine AWp.Q ?_;((apply AWp.G));(repeat' (first|(apply xW;((exact Want.none_ rfl)))|(apply xF zI;exact rfl;exact rfl)|apply zR|apply zH)))
  (refine AWp.Q ?_;((apply AWp.G));(repeat' (first|(apply xW;((exact Want.none_ rfl)))|(apply xF zI;exact rfl;exact rfl)|(((apply xD))<;>(first|exact zI|exact rfl|refine yG ?_|assumption))|apply zR|apply zH|(apply yA;(iterate 6 exact rfl);(iterate 2 (focus (repeat (first|exact VAs.nil|apply VAs.cons|apply VA.c|exact VCs.nil|exact VC.imm (Imm.v _)))));((exact hv));(focus (repeat ((exact Flat.v _))));((apply yJ));((exact xB _ _))))))
  refine AWp.cut1 ⟨[(0, .c (str w)), (1, .c (str x)), (5, .c (int w.length)), (6, .c (boo (vowB (at0 x 0)))), (7, .c (boo (cyB w)))], [], 0⟩ ?_ ?_
  · by_cases h : 2 ≤ w.length
    · have h' : (2 : Int) ≤ (w.length : Int) := by omega
      have hz1 : (w.length : Int) - 1 = ((w.length - 1 : Nat) : Int) := by omega
      have hz2 : (w.length : Int) - 2 = ((w.length - 2 : Nat) : Int) := by omega
      have h1 := qR (s := w) (i := 1) (by omega) (by omega)
      have h2 := qR (s := w) (i := 2) (by omega) (by omega)
      have hv2 := vD (bk w 2)
      rw [cyB, decide_eq_true h, Bool.true_and]
      (repeat' (first|(apply xW;(first|exact Want.none_ rfl|(refine zX rfl rfl rfl rfl ?_;((exact dT ‹_›)))))|(apply xF zI;exact rfl;exact rfl)|((first|apply y3|apply xD)<;>(first|exact zI|exact rfl|refine yG ?_|assumption|omega))|(apply yR;exact rfl;exact rfl;(first|exact dT ‹_›|exact dF ‹_›);exact rfl;exact rfl)|(apply yS;(iterate 5 exact rfl);((exact dF ‹_›)))|apply zR|apply AWp.G|(apply yA;(iterate 6 exact rfl);(iterate 2 (focus (repeat (first|exact VAs.nil|apply VAs.cons|apply VA.c|exact VCs.nil|exact VC.imm (Imm.v _)))));((exact hv2));(focus (repeat ((exact Flat.v _))));((apply yJ));((exact xB _ _)))|(((refine zT rfl rfl rfl ?_ ?_))<;>intro hp<;>try (exfalso;omega))))
      all_goals
        refine cutK.mk ?_
        refine Weak.of [] rfl ?_ ?_ <;> (repeat' (first|exact trivial|exact rfl|apply And.intro|refine vwB ?_))
      all_goals clear hv hg e1 e2 e3 e4 e5 hv2
      all_goals first | (simp [*]; done) | skip
    · have h' : ¬ (2 : Int) ≤ (w.length : Int) := by omega
      rw [cyB, decide_eq_false h, Bool.false_and, Bool.false_and]
      (repeat' (first|(apply xW;((exact Want.none_ rfl)))|(apply xF zI;exact rfl;exact rfl)|(apply yR;exact rfl;exact rfl;(first|exact dF ‹_›|exact rfl);exact rfl;exact rfl)|(apply yS;(iterate 5 exact rfl);(first|exact dF ‹_›|exact rfl))|apply zR|apply AWp.G))
      refine cutK.mk ?_
      refine Weak.of [] rfl ?_ ?_ <;> (repeat' (first|exact trivial|exact rfl|apply And.intro))
  refine AWp.cut1 ⟨[(0, .c (str w)), (1, .c (str x)), (5, .c (int w.length)), (6, .c (boo (vowB (at0 x 0)))), (7, .c (boo (cyB w))), (8, .c (boo (clB w)))], [], 0⟩ ?_ ?_
  · generalize hcy : cyB w = cy
    by_cases h : 3 ≤ w.length
    · have h' : (3 : Int) ≤ (w.length : Int) := by omega
      have hz1 : (w.length : Int) - 1 = ((w.length - 1 : Nat) : Int) := by omega
      have hz2 : (w.length : Int) - 2 = ((w.length - 2 : Nat) : Int) := by omega
      have hz3 : (w.length : Int) - 3 = ((w.length - 3 : Nat) : Int) := by omega
      have h1 := qR (s := w) (i := 1) (by omega) (by omega)
      have h2 := qR (s := w) (i := 2) (by omega) (by omega)
      have h3 := qR (s := w) (i := 3) (by omega) (by omega)
      have hv1 := vD (bk w 1)
      have hv2 := vD (bk w 2)
      have hv3 := vD (bk w 3)
      rw [clB, decide_eq_true h', Bool.true_and]
      (repeat' (first|(apply xW;(first|exact Want.none_ rfl|(refine zX rfl rfl rfl rfl ?_;(first|assumption|exact dT ‹_›))))|(apply xF zI;exact rfl;exact rfl)|((first|apply y3|apply xD|apply zU)<;>(first|exact zI|exact rfl|refine yG ?_|assumption|omega))|(apply yR;exact rfl;exact rfl;(first|assumption|exact dT ‹_›|exact rfl);exact rfl;exact rfl)|(apply yS;(iterate 5 exact rfl);(first|assumption|exact rfl))|apply zR|apply AWp.G|(apply yA;(iterate 6 exact rfl);(iterate 2 (focus (repeat (first|exact VAs.nil|apply VAs.cons|apply VA.c|exact VCs.nil|exact VC.imm (Imm.v _)|(apply zA;exact rfl;exact rfl;((exact rfl));exact rfl;((refine aIm ?_;assumption)))))));(first|exact hv1|exact hv2|exact hv3|exact e1);(focus (repeat ((exact Flat.v _))));((apply yJ));((exact xB _ _)))|(((refine zY rfl rfl rfl ?_ ?_))<;>intro hp<;>try (exfalso;omega))))
      all_goals
        refine cutK.mk ?_
        refine Weak.of [] rfl ?_ ?_ <;> (repeat' (first|exact trivial|exact rfl|apply And.intro|refine vwB ?_))
      all_goals clear hv hg e1 e2 e3 e4 e5 hv1 hv2 hv3
      all_goals first | (simp [*]; done) | skip
    · have h' : ¬ (3 : Int) ≤ (w.length : Int) := by omega
      rw [clB, decide_eq_false h', Bool.false_and, Bool.false_and, Bool.false_and, Bool.false_and]
      (repeat' (first|(apply xW;((exact Want.none_ rfl)))|(apply xF zI;exact rfl;exact rfl)|(apply yR;exact rfl;exact rfl;(first|exact dF ‹_›|exact rfl);exact rfl;exact rfl)|(apply yS;(iterate 5 exact rfl);(first|exact dF ‹_›|exact rfl))|apply zR|apply AWp.G))
      refine cutK.mk ?_
      refine Weak.of [] rfl ?_ ?_ <;> (repeat' (first|exact trivial|exact rfl|apply And.intro))
  rw [any_hiss] at e2
  rw [any_ie] at e3
  rw [any_e] at e4
  rw [any_oe] at e5
  have hgl := grpN_le w w.length
  by_cases k1 : x = [115]
  · have k2 : ¬ x = [105, 110, 103] := fun e => by rw [k1] at e; simp at e
    (repeat' (first|(apply xW;(first|exact Want.none_ rfl|(refine zX rfl rfl rfl rfl ?_;(first|assumption|exact dT ‹_›))))|(apply xF zI;exact rfl;exact rfl)|(((apply zU))<;>(first|exact zI|exact rfl|refine yG ?_))|(apply yR;exact rfl;exact rfl;(first|assumption|exact dT ‹_›|exact dF ‹_›|exact rfl);exact rfl;exact rfl)|(apply yS;(iterate 5 exact rfl);(first|assumption|exact dF ‹_›|exact rfl))|apply zR|apply AWp.Q|apply zH|apply AWp.G|apply AWp.B|apply AWp.J|apply AWp.R|apply zK|apply zJ|apply zL|(apply AWp.F;exact rfl;(first|assumption|exact rfl))|(apply yA;(iterate 6 exact rfl);(iterate 2 (focus (repeat (first|exact VAs.nil|apply VAs.cons|apply VA.c|exact VCs.nil|exact VC.imm (Imm.v _)|(apply zA;exact rfl;exact rfl;((exact rfl));exact rfl;((refine aIm ?_;assumption)))))));(first|exact hg|exact e2|exact e4|exact e5);(focus (repeat ((exact Flat.v _))));((apply yJ));((exact xB _ _)))|((first|refine zT rfl rfl rfl ?_ ?_|refine zY rfl rfl rfl ?_ ?_)<;>intro hp<;>try (exfalso;omega))|(((refine AWp.O _ rfl ?_ ?_))<;>intro hp<;>try (exfalso;omega))))
    all_goals
      (((refine zV _ [] (.cons (zN rfl) .nil) ?_ rfl ?_)) <;> (repeat' (first|exact trivial|refine vwI ?_)))
    all_goals clear hv hg e1 e2 e3 e4 e5
    all_goals (rw [wB, db_cl, drop_oe]; generalize vowB (at0 x 0) = v0 at *; generalize at0 x 0 = b0 at *; generalize ((grpN w w.length : Nat) : Int) = q0 at *; clear hb)
    all_goals first | (simp [*]; done) | skip
  by_cases k2 : x = [105, 110, 103]
  · (repeat' (first|(apply xW;(first|exact Want.none_ rfl|(refine zX rfl rfl rfl rfl ?_;(first|assumption|exact dT ‹_›))))|(apply xF zI;exact rfl;exact rfl)|((first|apply xD|apply zU)<;>(first|exact zI|exact rfl|refine yG ?_|assumption))|(apply yR;exact rfl;exact rfl;(first|assumption|exact dT ‹_›|exact dF ‹_›|exact rfl);exact rfl;exact rfl)|(apply yS;(iterate 5 exact rfl);(first|assumption|exact dF ‹_›|exact rfl))|apply zR|apply AWp.Q|apply zH|apply AWp.G|apply AWp.B|apply AWp.J|apply AWp.R|apply zK|apply zJ|apply zL|(apply AWp.F;exact rfl;(first|assumption|exact rfl))|(apply yA;(iterate 6 exact rfl);(iterate 2 (focus (repeat (first|exact VAs.nil|apply VAs.cons|apply VA.c|exact VCs.nil|exact VC.imm (Imm.v _)|(apply zA;exact rfl;exact rfl;((exact rfl));exact rfl;((refine aIm ?_;assumption)))))));(first|exact hg|exact e3|exact e4|exact e5);(focus (repeat ((exact Flat.v _))));((apply yJ));((exact xB _ _)))|((first|refine zT rfl rfl rfl ?_ ?_|refine zY rfl rfl rfl ?_ ?_)<;>intro hp<;>try (exfalso;omega))|((first|refine AWp.C rfl ?_ ?_|refine AWp.O _ rfl ?_ ?_)<;>intro hp<;>try (exfalso;omega))))
    all_goals
      (((refine zV _ [] (.cons (zN rfl) .nil) ?_ rfl ?_)) <;> (repeat' (first|exact trivial|refine vwI ?_)))
    all_goals clear hv hg e1 e2 e3 e4 e5
    all_goals (rw [wB, db_cl, drop_oe]; generalize vowB (at0 x 0) = v0 at *; generalize at0 x 0 = b0 at *; generalize ((grpN w w.length : Nat) : Int) = q0 at *; clear hb)
    all_goals first | (simp [*]; done) | skip
  · (repeat' (first|(apply xW;(first|exact Want.none_ rfl|(refine zX rfl rfl rfl rfl ?_;(first|assumption|exact dT ‹_›))))|(apply xF zI;exact rfl;exact rfl)|((first|apply xD|apply zU)<;>(first|exact zI|exact rfl|refine yG ?_|assumption))|(apply yR;exact rfl;exact rfl;(first|assumption|exact dT ‹_›|exact dF ‹_›|exact rfl);exact rfl;exact rfl)|(apply yS;(iterate 5 exact rfl);(first|assumption|exact dF ‹_›|exact rfl))|apply zR|apply AWp.Q|apply zH|apply AWp.G|apply AWp.B|apply AWp.J|apply AWp.R|apply zK|apply zJ|apply zL|(apply AWp.F;exact rfl;(first|assumption|exact rfl))|(apply yA;(iterate 6 exact rfl);(iterate 2 (focus (repeat (first|exact VAs.nil|apply VAs.cons|apply VA.c|exact VCs.nil|exact VC.imm (Imm.v _)|(apply zA;exact rfl;exact rfl;((exact rfl));exact rfl;((refine aIm ?_;assumption)))))));(first|exact hg|exact e4|exact e5);(focus (repeat ((exact Flat.v _))));((apply yJ));((exact xB _ _)))|((first|refine zT rfl rfl rfl ?_ ?_|refine zY rfl rfl rfl ?_ ?_)<;>intro hp<;>try (exfalso;omega))|((first|refine AWp.C rfl ?_ ?_|refine AWp.O _ rfl ?_ ?_)<;>intro hp<;>try (exfalso;omega))))
    all_goals
      (((refine zV _ [] (.cons (zN rfl) .nil) ?_ rfl ?_)) <;> (repeat' (first|exact trivial|refine vwI ?_)))
    all_goals clear hv hg e1 e2 e3 e4 e5
    all_goals (rw [wB, db_cl, drop_oe]; generalize vowB (at0 x 0) = v0 at *; generalize at0 x 0 = b0 at *; generalize ((grpN w w.length : Nat) : Int) = q0 at *; clear hb)
    all_goals first | (simp [*]; done) | skip
end Go.Proofs.YtjeffognhcbiaaaGreatDoor
