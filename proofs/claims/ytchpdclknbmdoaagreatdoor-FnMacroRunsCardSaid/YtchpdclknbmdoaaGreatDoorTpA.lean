/- Tapes: valid ones, by both programs. No conditions but bounds of lengths. -/
import Derived.Test.YtchpdclknbmdoaaGreatDoorAbs4
namespace Go.Proofs.YtchpdclknbmdoaaGreatDoor
open Go Go.RowKit
structure Itm where
  s : Int
  b : Bool
def xA (i : Itm) : List Cell := [int i.s, boo i.b]
theorem encItm_sc (i : Itm) : ∀ x ∈ xA i, Imm x ∧ Flat x := by
  intro x hx
  simp only [xA, List.mem_cons, List.not_mem_nil, or_false] at hx
  rcases hx with rfl | rfl
  · exact ⟨Imm.v _, Flat.v _⟩
  · exact ⟨Imm.v _, Flat.v _⟩
theorem wW (t : List Itm) : AllSc (t.map xA) := map_sc encItm_sc t
theorem itms_two (t : List Itm) : ∀ x ∈ t.map xA, x.length = 2 := by
  intro x hx
  obtain ⟨i, _, rfl⟩ := List.mem_map.1 hx
  rfl
def xX (t : List Itm) : List Cell := [.sl (t.map xA)]
def okItm (i : Itm) : Bool := inZ i.s 1 8388607
def hdB (t : List Itm) : Bool := match t[0]? with | some i => i.b | none => false
def wF (t : List Itm) : Bool := decide ((t.length : Int) ≤ 60) && !hdB t && t.all okItm
def vY (t : List Itm) : Prop := t.length ≤ 4000000
theorem tapeOk_parts {t : List Itm} (h : wF t = true) : t.length ≤ 60 ∧ hdB t = false ∧ ∀ i ∈ t, okItm i = true := by
  simp only [wF, Bool.and_eq_true, decide_eq_true_eq, Bool.not_eq_true', List.all_eq_true] at h
  exact ⟨by omega, h.1.2, h.2⟩
theorem l2GoodT_pf (x : Int) : PF Tryz.prog 82 [.c (int x)] [] (.c (boo (inZ x 1 8388607))) := by
  refine PF.enter (y9 _) Tryz.func82 rfl (by kernel_rfl) _ _ rfl rfl rfl (fun w0 mu I0 β0 gi dis => ?_)
  (repeat' (first|(apply xW;((exact Want.none_ rfl)))|(apply xF zI;exact rfl;exact rfl)|apply zT|apply AWp.Q|apply zH|apply AWp.G|apply AWp.R|(apply yI;(iterate 6 exact rfl);(iterate 2 (focus (repeat (first|exact VAs.nil|apply VAs.cons|apply VA.c|exact VCs.nil|exact VC.imm (Imm.v _)))));((exact l1In_pf x 1 8388607));(focus (repeat ((exact Flat.v _))));((apply yO));((exact xE _ _)))))
  (((refine z7 _ [] (.cons (zS rfl) .nil) ?_ rfl ?_)) <;> (repeat' (first|exact trivial|exact rfl)))
theorem isStrokeT_pf (x : Int) : PF Tryz.prog 79 [.c (int x)] [] (.c (boo (inZ x 1 8388607))) := by
  refine PF.enter (y9 _) Tryz.func79 rfl (by kernel_rfl) _ _ rfl rfl rfl (fun w0 mu I0 β0 gi dis => ?_)
  (repeat' (first|(apply xW;((exact Want.none_ rfl)))|(apply xF zI;exact rfl;exact rfl)|apply zT|apply AWp.Q|apply zH|apply AWp.G|apply AWp.R|(apply yI;(iterate 6 exact rfl);(iterate 2 (focus (repeat (first|exact VAs.nil|apply VAs.cons|apply VA.c|exact VCs.nil|exact VC.imm (Imm.v _)))));((exact in_pf x 1 8388607));(focus (repeat ((exact Flat.v _))));((apply yO));((exact xE _ _)))))
  (((refine z7 _ [] (.cons (zS rfl) .nil) ?_ rfl ?_)) <;> (repeat' (first|exact trivial|exact rfl)))
theorem specValidT_pf (t : List Itm) (hb : vY t) : PF Tryz.prog 89 [.agg (xX t)] [] (.c (boo (wF t))) := by
  have hb' : t.length ≤ 4000000 := hb
  refine PF.enter (y9 _) Tryz.func89 rfl (by kernel_rfl) _ _ rfl rfl rfl (fun w0 mu I0 β0 gi dis => ?_)
  have hL : (t.map xA).length = t.length := List.length_map _
  (repeat' (first|(apply xW;((exact Want.none_ rfl)))|(apply xF zI;exact rfl;exact rfl)|apply zT|apply AWp.Q|apply zH|apply AWp.G|apply AWp.B|apply AWp.J|apply AWp.R|apply zK|(((refine AWp.C rfl ?_ ?_))<;>intro hp<;>try (exfalso;omega))))
  · (((refine z7 _ [] (.cons (zS rfl) .nil) ?_ rfl ?_)) <;> (repeat' (first|exact trivial|refine vwB ?_)))
    rw [wF, decide_eq_false (by omega), Bool.false_and, Bool.false_and]
  refine AWp.U (σ := Nat) (fun k => ⟨[(1, .c (.ptr 0 0 0)), (3, .c (int k))], [(0, some ⟨45, 1, [xX t]⟩)], 1⟩) (fun k => k ≤ t.length ∧ (t.take k).all okItm = true ∧ (0 < k → hdB t = false)) (fun k => t.length - k) 0 ⟨Nat.zero_le _, rfl, fun h => absurd h (Nat.lt_irrefl _)⟩ ?_ ?_
  · refine Weak.of [(0, some 0)] rfl ?_ ?_ <;> (repeat' (first|exact trivial|exact rfl|apply And.intro|refine ⟨_,rfl,rfl,rfl,OW.one ?_⟩))
  · rintro k ⟨hk, hall, hhd⟩
    by_cases hlt : k < t.length
    · obtain ⟨c, hc⟩ := xP hlt
      have hc' : (t.map xA)[k]? = some (xA c) := xS hc
      have hlt' : (k : Int) < ((t.map xA).length : Int) := by omega
      have hg := l2GoodT_pf c.s
      cases hok : inZ c.s 1 8388607 with
      | false =>
        rw [hok] at hg
        have e : wF t = false := by rw [wF, qO hc (by rw [okItm]; exact hok), Bool.and_false]
        rw [e]
        (repeat' (first|(apply xW;((exact Want.none_ rfl)))|(apply xF zI;exact rfl;exact rfl)|(((apply z6;exact rfl;exact rfl))<;>(first|exact zI|exact rfl|refine yJ ?_|assumption))|(apply yW;exact rfl;exact rfl;((exact rfl));exact rfl;exact rfl)|(apply yV;(iterate 5 exact rfl);((exact rfl)))|(apply yK;(iterate 5 exact rfl))|apply zT|apply AWp.Q|apply zH|apply AWp.G|apply AWp.B|apply AWp.J|apply AWp.R|apply zK|apply zM|(apply AWp.T;exact rfl;(first|exact dT ‹_›|exact rfl))|(apply yI;(iterate 6 exact rfl);(iterate 2 (focus (repeat (first|exact VAs.nil|apply VAs.cons|apply VA.c|exact VCs.nil|exact VC.imm (Imm.v _)))));((exact hg));(focus (repeat ((exact Flat.v _))));((apply yO));((exact xE _ _)))))
        (((refine z7 _ [] (.cons (zS rfl) .nil) ?_ rfl ?_)) <;> (repeat' (first|exact trivial|exact rfl)))
      | true =>
        rw [hok] at hg
        have hall' : (t.take (k + 1)).all okItm = true := by rw [wI hc, hall, okItm, hok]; rfl
        rcases k with _ | j
        · have hh : hdB t = c.b := by rw [hdB, hc]
          cases hcb : c.b with
          | true =>
            have e : wF t = false := by rw [wF, hh, hcb]; simp
            rw [e]
            (repeat' (first|(apply xW;(first|exact Want.none_ rfl|(refine zZ rfl rfl rfl rfl ?_;(first|assumption|exact rfl))))|(apply xF zI;exact rfl;exact rfl)|(((apply z6;exact rfl;exact rfl))<;>(first|exact zI|exact rfl|refine yJ ?_|assumption))|(apply yW;exact rfl;exact rfl;(first|assumption|exact rfl);exact rfl;exact rfl)|apply zT|apply AWp.Q|apply zH|apply AWp.G|apply AWp.B|apply AWp.J|apply AWp.R|apply zK|apply zM|(apply AWp.T;exact rfl;(first|assumption|exact dT ‹_›))|(apply yI;(iterate 6 exact rfl);(iterate 2 (focus (repeat (first|exact VAs.nil|apply VAs.cons|apply VA.c|exact VCs.nil|exact VC.imm (Imm.v _)))));((exact hg));(focus (repeat ((exact Flat.v _))));((apply yO));((exact xE _ _)))))
            all_goals first | (exfalso; simp_all; done) | skip
            (((refine z7 _ [] (.cons (zS rfl) .nil) ?_ rfl ?_)) <;> (repeat' (first|exact trivial|exact rfl)))
          | false =>
            (repeat' (first|(apply xW;(first|exact Want.none_ rfl|(refine zZ rfl rfl rfl rfl ?_;(first|assumption|exact rfl))))|(apply xF zI;exact rfl;exact rfl)|((first|apply zY|(apply z6;exact rfl;exact rfl))<;>(first|exact zI|exact rfl|refine yJ ?_|assumption|omega))|(apply yW;exact rfl;exact rfl;(first|assumption|exact rfl);exact rfl;exact rfl)|apply zT|apply AWp.Q|apply zH|apply AWp.G|apply AWp.B|apply AWp.J|apply zJ|(apply AWp.T;exact rfl;((exact dT ‹_›)))|(apply AWp.F;exact rfl;((assumption)))|(apply yI;(iterate 6 exact rfl);(iterate 2 (focus (repeat (first|exact VAs.nil|apply VAs.cons|apply VA.c|exact VCs.nil|exact VC.imm (Imm.v _)))));((exact hg));(focus (repeat ((exact Flat.v _))));((apply yO));((exact xE _ _)))))
            all_goals first | (exfalso; simp_all; done) | skip
            refine ⟨1, ⟨by omega, hall', fun _ => by rw [hh, hcb]⟩, by omega, ?_⟩
            refine Weak.of [(0, some 0)] rfl ?_ ?_ <;> (repeat' (first|exact trivial|exact rfl|apply And.intro|refine ⟨_,rfl,rfl,rfl,OW.one ?_⟩))
        · have hz : ¬ ((j + 1 : Nat) : Int) = 0 := by omega
          (repeat' (first|(apply xW;(first|exact Want.none_ rfl|(refine zZ rfl rfl rfl rfl ?_;((exact dF ‹_›)))))|(apply xF zI;exact rfl;exact rfl)|((first|apply zY|(apply z6;exact rfl;exact rfl))<;>(first|exact zI|exact rfl|refine yJ ?_|assumption|omega))|(apply yW;exact rfl;exact rfl;((exact dF ‹_›));exact rfl;exact rfl)|(apply yV;(iterate 5 exact rfl);((exact dF ‹_›)))|apply zT|apply AWp.Q|apply zH|apply AWp.G|apply AWp.B|apply AWp.J|apply zJ|(apply AWp.T;exact rfl;((exact dT ‹_›)))|(apply AWp.F;exact rfl;((exact dF ‹_›)))|(apply yI;(iterate 6 exact rfl);(iterate 2 (focus (repeat (first|exact VAs.nil|apply VAs.cons|apply VA.c|exact VCs.nil|exact VC.imm (Imm.v _)))));((exact hg));(focus (repeat ((exact Flat.v _))));((apply yO));((exact xE _ _)))))
          refine ⟨j + 2, ⟨by omega, hall', fun _ => hhd (by omega)⟩, by omega, ?_⟩
          refine Weak.of [(0, some 0)] rfl ?_ ?_ <;> (repeat' (first|exact trivial|exact rfl|apply And.intro|refine ⟨_,rfl,rfl,rfl,OW.one ?_⟩))
    · have hlt' : ¬ (k : Int) < ((t.map xA).length : Int) := by omega
      obtain rfl : k = t.length := by omega
      rw [List.take_of_length_le (Nat.le_refl _)] at hall
      have hh : hdB t = false := by
        rcases Nat.eq_zero_or_pos t.length with h0 | h0
        · rw [hdB, List.getElem?_eq_none (by omega)]
        · exact hhd h0
      have e : wF t = true := by rw [wF, hall, hh, decide_eq_true (by omega)]; rfl
      rw [e]
      (repeat' (first|(apply xW;((exact Want.none_ rfl)))|(apply xF zI;exact rfl;exact rfl)|apply zT|apply AWp.Q|apply zH|apply AWp.G|apply AWp.X|apply AWp.R|apply zP|apply zN|(apply AWp.F;exact rfl;((exact dF ‹_›)))))
      (((refine z7 _ [] (.cons (zS rfl) .nil) ?_ rfl ?_)) <;> (repeat' (first|exact trivial|exact rfl)))
section
variable (t : List Itm) (g : Nat) (p : Itm → Bool)
theorem indexT_pf (caps : List Cell) (hl : t.length ≤ 4000000) (him : ∀ c ∈ caps, Imm c) (hg : ∀ c ∈ t, PF Tryz.prog g (.agg (xA c) :: caps.map AVal.c) [] (.c (boo (p c)))) :
    PF Tryz.prog 179 [.c (.sl (t.map xA)), .c (.fn g caps)] [] (.c (int (if t.any p then ((t.findIdx p : Nat) : Int) else -1))) := by
  refine PF.enter (xY _ _) Tryz.func179 rfl (by kernel_rfl) _ _ rfl rfl rfl (fun w0 mu I0 β0 gi dis => ?_)
  (repeat (first|(apply xW;((exact Want.none_ rfl)))|(apply xF zI;exact rfl;exact rfl)|apply zT|apply AWp.Q|apply zH|apply AWp.G|apply AWp.B))
  refine AWp.U (σ := Nat) (fun k => ⟨[(0, .c (.sl (t.map xA))), (1, .c (.fn g caps)), (7, .c (int t.length)), (8, .c (int k))], [], 0⟩) (fun k => k ≤ t.length ∧ (t.take k).any p = false) (fun k => t.length - k) 0 ⟨Nat.zero_le _, rfl⟩ ?_ ?_
  · refine Weak.of [] rfl ?_ ?_ <;> (repeat' (first|exact trivial|exact rfl|exact oRi ‹_›|apply And.intro|(apply cgI;(simp;done))))
  · rintro k ⟨hk, hall⟩
    by_cases hlt : k < t.length
    · obtain ⟨c, hc⟩ := xP hlt
      have hc' : (t.map xA)[k]? = some (xA c) := xS hc
      have hlt' : (k : Int) < (t.length : Int) := by omega
      have hg' := hg c (List.mem_of_getElem? hc)
      (repeat' (first|(apply xW;((exact Want.none_ rfl)))|(apply xF zI;exact rfl;exact rfl)|((first|apply zY|(apply z6;exact rfl;exact rfl))<;>(first|exact zI|exact rfl|refine yJ ?_|assumption|omega))|apply zT|apply AWp.Q|apply zH|apply AWp.G|apply AWp.B|apply AWp.J|apply AWp.R|apply zK|apply zJ|apply zM|(apply AWp.T;exact rfl;((exact dT ‹_›)))|(apply (wR []);(iterate 5 exact rfl);(iterate 2 (focus (repeat (first|exact VAs.nil|apply VAs.cons|apply VA.agg|exact VCs.nil|(apply VCs.same;assumption)|apply VCs.cons|exact VC.imm (Imm.v _)))));((exact hg'));(focus (repeat ((exact Flat.v _))));((apply yO));((exact xE _ _)))|(((refine AWp.O _ rfl ?_ ?_))<;>intro hp<;>try (exfalso;omega))))
      · (((refine z7 _ [] (.cons (zS rfl) .nil) ?_ rfl ?_)) <;> (repeat' (first|exact trivial|refine vwI ?_)))
        rw [any_at hc (by assumption), if_pos rfl, findIdx_first hc (by assumption) hall]
      · refine ⟨k + 1, ⟨by omega, by rw [any_take_succ hc, hall]; simp [*]⟩, by omega, ?_⟩
        refine Weak.of [] rfl ?_ ?_ <;> (repeat' (first|exact trivial|exact rfl|exact oRi ‹_›|apply And.intro))
    · have hlt' : ¬ (k : Int) < (t.length : Int) := by omega
      (repeat (first|(apply xW;((exact Want.none_ rfl)))|(apply xF zI;exact rfl;exact rfl)|apply zT|apply AWp.Q|apply zH|apply AWp.G|apply AWp.X|apply AWp.R|apply zP|apply zN|(apply AWp.F;exact rfl;((exact dF ‹_›)))))
      (((refine z7 _ [] (.cons (zS rfl) .nil) ?_ rfl ?_)) <;> (repeat' (first|exact trivial|refine vwI ?_)))
      rw [take_all hk hlt] at hall
      simp [hall]
theorem containsT_pf (caps : List Cell) (hl : t.length ≤ 4000000) (him : ∀ c ∈ caps, Imm c) (hg : ∀ c ∈ t, PF Tryz.prog g (.agg (xA c) :: caps.map AVal.c) [] (.c (boo (p c)))) :
    PF Tryz.prog 146 [.c (.sl (t.map xA)), .c (.fn g caps)] [] (.c (boo (t.any p))) := by
  refine PF.enter (xY _ _) Tryz.func146 rfl (by kernel_rfl) _ _ rfl rfl rfl (fun w0 mu I0 β0 gi dis => ?_)
  (repeat' (first|(apply xW;((exact Want.none_ rfl)))|(apply xF zI;exact rfl;exact rfl)|apply zT|apply AWp.Q|apply zH|apply AWp.G|apply AWp.R|(apply (wR []);(iterate 5 exact rfl);(iterate 2 (focus (repeat (first|exact VAs.nil|apply VAs.cons|apply VA.c|exact VCs.nil|(apply VCs.same;assumption)|exact VC.imm (Imm.sl _)|apply VC.fn))));((exact indexT_pf t g p caps hl him hg));(focus (repeat ((exact Flat.v _))));((apply yO));((exact xE _ _)))))
  (((refine z7 _ [] (.cons (zS rfl) .nil) ?_ rfl ?_)) <;> (repeat' (first|exact trivial|refine vwB ?_)))
  cases h : t.any p <;> simp
theorem allNotT_pf (c : Itm) (b : Bool) (hg : PF Tryz.prog g [.agg (xA c)] [] (.c (boo b))) :
    PF Tryz.prog 147 [.agg (xA c), .c (.ip [.fn g []])] [] (.c (boo (!b))) := by
  refine PF.enter (xY _ _) Tryz.func147 rfl (by kernel_rfl) _ _ rfl rfl rfl (fun w0 mu I0 β0 gi dis => ?_)
  (repeat' (first|(apply xW;((exact Want.none_ rfl)))|(apply xF zI;exact rfl;exact rfl)|apply zT|apply AWp.Q|apply zH|apply AWp.G|apply AWp.R|(apply yI;(iterate 6 exact rfl);(iterate 2 (focus (repeat (first|exact VAs.nil|apply VAs.cons|apply VA.agg|exact VCs.nil|apply VCs.cons|exact VC.imm (Imm.v _)))));((exact hg));(focus (repeat ((exact Flat.v _))));((apply yO));((exact xE _ _)))))
  (((refine z7 _ [] (.cons (zS rfl) .nil) ?_ rfl ?_)) <;> (repeat' (first|exact trivial|exact rfl)))
theorem allT_pf (hl : t.length ≤ 4000000) (hg : ∀ c ∈ t, PF Tryz.prog g [.agg (xA c)] [] (.c (boo (p c)))) :
    PF Tryz.prog 93 [.c (.sl (t.map xA)), .c (.fn g [])] [] (.c (boo (t.all p))) := by
  refine PF.enter (xY _ _) Tryz.func93 rfl (by kernel_rfl) _ _ rfl rfl rfl (fun w0 mu I0 β0 gi dis => ?_)
  (repeat' (first|(apply xW;((exact Want.none_ rfl)))|(apply xF zI;exact rfl;exact rfl)|(((apply rx_makeFunc))<;>(first|exact rfl|refine yJ ?_))|apply zT|apply AWp.Q|apply zH|apply AWp.G|apply AWp.R|(apply (wR [0]);(iterate 5 exact rfl);(iterate 2 (focus (repeat (first|exact VAs.nil|apply VAs.cons|apply VA.c|exact VCs.nil|apply VCs.cons|exact VC.imm (Imm.sl _)|apply VC.fn|(apply VC.ptr;(focus (simp;done));exact rfl;exact rfl;exact rfl;(repeat (first|exact wS|exact zA _|refine x5 ?_ ?_)))))));((exact containsT_pf t _ (fun c => !p c) [.ip [.fn g []]] hl (by (repeat (first|exact wS|exact Imm.ip _|refine x5 ?_ ?_))) (fun c hc => allNotT_pf g c (p c) (hg c hc))));(focus (repeat ((exact Flat.v _))));((apply yO));((exact xE _ _)))))
  (((refine z7 _ [] (.cons (zS rfl) .nil) ?_ rfl ?_)) <;> (repeat' (first|exact trivial|refine vwB ?_)))
  rw [List.all_eq_not_any_not]
end
theorem okItm_pf (c : Itm) : PF Tryz.prog 94 [.agg (xA c)] [] (.c (boo (okItm c))) := by
  have h := isStrokeT_pf c.s
  refine PF.enter (y9 _) Tryz.func94 rfl (by kernel_rfl) _ _ rfl rfl rfl (fun w0 mu I0 β0 gi dis => ?_)
  (repeat' (first|(apply xW;((exact Want.none_ rfl)))|(apply xF zI;exact rfl;exact rfl)|apply zT|apply AWp.Q|apply zH|apply AWp.G|apply AWp.R|(apply yI;(iterate 6 exact rfl);(iterate 2 (focus (repeat (first|exact VAs.nil|apply VAs.cons|apply VA.c|exact VCs.nil|exact VC.imm (Imm.v _)))));((exact h));(focus (repeat ((exact Flat.v _))));((apply yO));((exact xE _ _)))))
  (((refine z7 _ [] (.cons (zS rfl) .nil) ?_ rfl ?_)) <;> (repeat' (first|exact trivial|exact rfl)))
theorem x6 (t : List Itm) (hb : vY t) : PF Tryz.prog 31 [.agg (xX t)] [] (.c (boo (wF t))) := by
  have hb' : t.length ≤ 4000000 := hb
  have hL : (t.map xA).length = t.length := List.length_map _
  have ha := allT_pf t 94 okItm hb' (fun c _ => okItm_pf c)
  rcases Nat.eq_zero_or_pos t.length with h0 | h0
  · obtain rfl : t = [] := List.length_eq_zero_iff.1 h0
    refine PF.enter (y9 _) Tryz.func31 rfl (by kernel_rfl) _ _ rfl rfl rfl (fun w0 mu I0 β0 gi dis => ?_)
    (repeat' (first|(apply xW;(first|exact Want.none_ rfl|(refine zZ rfl rfl rfl rfl ?_;((exact rfl)))))|(apply xF zI;exact rfl;exact rfl)|(apply yW;exact rfl;exact rfl;((exact rfl));exact rfl;exact rfl)|(apply yV;(iterate 5 exact rfl);((exact rfl)))|apply zT|apply AWp.Q|apply zH|apply AWp.G|apply AWp.R|(apply yI;(iterate 6 exact rfl);(iterate 2 (focus (repeat (first|exact VAs.nil|apply VAs.cons|apply VA.c|exact VCs.nil|exact VC.imm (Imm.sl _)|apply VC.fn))));((exact ha));(focus (repeat ((exact Flat.v _))));((apply yO));((exact xE _ _)))))
    (((refine z7 _ [] (.cons (zS rfl) .nil) ?_ rfl ?_)) <;> (repeat' (first|exact trivial|exact rfl)))
  · obtain ⟨c, hc⟩ := xP h0
    have hc' : (t.map xA)[0]? = some (xA c) := xS hc
    have hh : hdB t = c.b := by rw [hdB, hc]
    have h0' : ¬ ((t.map xA).length : Int) = 0 := by omega
    rw [wF, hh]
    refine PF.enter (y9 _) Tryz.func31 rfl (by kernel_rfl) _ _ rfl rfl rfl (fun w0 mu I0 β0 gi dis => ?_)
    (repeat' (first|(apply xW;(first|exact Want.none_ rfl|(refine zZ rfl rfl rfl rfl ?_;(first|assumption|exact dT ‹_›|exact dF ‹_›))))|(apply xF zI;exact rfl;exact rfl)|(((apply z6;exact rfl;exact rfl))<;>(first|exact zI|exact rfl|refine yJ ?_|assumption))|(apply yW;exact rfl;exact rfl;(first|assumption|exact dT ‹_›|exact dF ‹_›|exact rfl);exact rfl;exact rfl)|(apply yV;(iterate 5 exact rfl);(first|assumption|exact dF ‹_›|exact rfl))|apply zT|apply AWp.Q|apply zH|apply AWp.G|apply AWp.R|(apply yI;(iterate 6 exact rfl);(iterate 2 (focus (repeat (first|exact VAs.nil|apply VAs.cons|apply VA.c|exact VCs.nil|exact VC.imm (Imm.sl _)|apply VC.fn))));((exact ha));(focus (repeat ((exact Flat.v _))));((apply yO));((exact xE _ _)))|((first|refine z8 rfl rfl rfl ?_ ?_|refine yF rfl rfl rfl ?_ ?_)<;>intro hp<;>try (exfalso;omega))))
    all_goals
      (((refine z7 _ [] (.cons (zS rfl) .nil) ?_ rfl ?_)) <;> (repeat' (first|exact trivial|refine vwB ?_)))
    all_goals
      rw [hL] at *
      simp_all
    all_goals (intro h; exfalso; omega)
end Go.Proofs.YtchpdclknbmdoaaGreatDoor
