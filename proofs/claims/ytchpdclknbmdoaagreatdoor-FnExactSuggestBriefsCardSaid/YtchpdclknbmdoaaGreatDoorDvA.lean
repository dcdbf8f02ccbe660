/- Outlines and dictionaries: which are valid, and the entry with an outline, by both programs. No conditions but bounds of lengths. -/
import Derived.Test.YtchpdclknbmdoaaGreatDoorTrD
import Derived.Test.YtchpdclknbmdoaaGreatDoorSgA
import Derived.Test.YtchpdclknbmdoaaGreatDoorTpA
namespace Go.Proofs.YtchpdclknbmdoaaGreatDoor
open Go Go.RowKit
def okS (x : Int) : Bool := inZ x 1 8388607
def qG (o : List Int) : Bool := inZ o.length 1 6 && o.all okS
theorem okS2_pf (x : Int) : PF Tryz.prog 82 [.c (int x)] [] (.c (boo (okS x))) := l2GoodT_pf x
theorem okSI_pf (x : Int) : PF Tryz.prog 79 [.c (int x)] [] (.c (boo (okS x))) := isStrokeT_pf x
theorem l4Good_pf (o : List Int) (ho : o.length ≤ 4000000) : PF Tryz.prog 171 [.c (.sl (o.map yQ))] [] (.c (boo (qG o))) := by
  have hL : (o.map yQ).length = o.length := List.length_map _
  have hin := v8 ((o.map yQ).length : Nat) 1 6
  cases hi : inZ o.length 1 6 with
  | false =>
    rw [hL, hi, ← hL] at hin
    rw [qG, hi]
    refine PF.enter (xJ _) Tryz.func171 rfl (by kernel_rfl) _ _ rfl rfl rfl (fun w0 mu I0 β0 gi dis => ?_)
    (repeat' (first|(apply xW;((exact Want.none_ rfl)))|(apply xF zI;exact rfl;exact rfl)|apply zQ|apply AWp.Q|apply zG|apply AWp.G|apply AWp.R|apply zK|(apply AWp.T;exact rfl;((exact rfl)))|(apply yC;(iterate 6 exact rfl);(iterate 2 (focus (repeat (first|exact VAs.nil|apply VAs.cons|apply VA.c|exact VCs.nil|exact VC.imm (Imm.v _)))));((exact hin));(focus (repeat ((exact Flat.v _))));((apply yJ));((exact xD _ _)))))
    (((refine zX _ [] (.cons (zP rfl) .nil) ?_ rfl ?_)) <;> (repeat' (first|exact trivial|exact rfl)))
  | true =>
    rw [hL, hi, ← hL] at hin
    refine PF.enter (xJ _) Tryz.func171 rfl (by kernel_rfl) _ _ rfl rfl rfl (fun w0 mu I0 β0 gi dis => ?_)
    (repeat' (first|(apply xW;((exact Want.none_ rfl)))|(apply xF zI;exact rfl;exact rfl)|apply zQ|apply AWp.Q|apply zG|apply AWp.G|apply AWp.B|apply AWp.J|(apply AWp.F;exact rfl;((exact rfl)))|(apply yC;(iterate 6 exact rfl);(iterate 2 (focus (repeat (first|exact VAs.nil|apply VAs.cons|apply VA.c|exact VCs.nil|exact VC.imm (Imm.v _)))));((exact hin));(focus (repeat ((exact Flat.v _))));((apply yJ));((exact xD _ _)))))
    refine AWp.U (σ := Nat) (fun k => ⟨[(0, .c (.sl (o.map yQ))), (3, .c (int k))], [], 0⟩) (fun k => k ≤ o.length ∧ (o.take k).all okS = true) (fun k => o.length - k) 0 ⟨Nat.zero_le _, rfl⟩ ?_ ?_
    · refine Weak.of [] rfl ?_ ?_ <;> (repeat' (first|exact trivial|exact rfl|apply And.intro))
    · rintro k ⟨hk, hall⟩
      by_cases hlt : k < o.length
      · obtain ⟨c, hc⟩ := xQ hlt
        have hc' : (o.map yQ)[k]? = some (yQ c) := xM hc
        have hlt' : (k : Int) < ((o.map yQ).length : Int) := by omega
        have hg := okS2_pf c
        cases hok : okS c with
        | false =>
          rw [hok] at hg
          have e : qG o = false := by rw [qG, kB hc hok, Bool.and_false]
          rw [e]
          (repeat' (first|(apply xW;((exact Want.none_ rfl)))|(apply xF zI;exact rfl;exact rfl)|(((apply yB;exact rfl;exact rfl))<;>(first|exact zI|exact Nat.zero_add _|exact rfl|refine yH ?_|assumption))|apply zQ|apply AWp.Q|apply zG|apply AWp.G|apply AWp.B|apply AWp.J|apply AWp.R|apply zK|apply zM|(apply AWp.T;exact rfl;(first|exact dT ‹_›|exact rfl))|(apply yC;(iterate 6 exact rfl);(iterate 2 (focus (repeat (first|exact VAs.nil|apply VAs.cons|apply VA.c|exact VCs.nil|exact VC.imm (Imm.v _)))));((exact hg));(focus (repeat ((exact Flat.v _))));((apply yJ));((exact xD _ _)))))
          (((refine zX _ [] (.cons (zP rfl) .nil) ?_ rfl ?_)) <;> (repeat' (first|exact trivial|exact rfl)))
        | true =>
          rw [hok] at hg
          have hall' : (o.take (k + 1)).all okS = true := by rw [wD hc, hall, hok]; rfl
          (repeat' (first|(apply xW;((exact Want.none_ rfl)))|(apply xF zI;exact rfl;exact rfl)|((first|apply yE|(apply yB;exact rfl;exact rfl))<;>(first|exact zI|exact Nat.zero_add _|exact rfl|refine yH ?_|assumption|omega))|apply zQ|apply AWp.Q|apply zG|apply AWp.G|apply AWp.B|apply AWp.J|apply zH|(apply AWp.T;exact rfl;((exact dT ‹_›)))|(apply AWp.F;exact rfl;((exact rfl)))|(apply yC;(iterate 6 exact rfl);(iterate 2 (focus (repeat (first|exact VAs.nil|apply VAs.cons|apply VA.c|exact VCs.nil|exact VC.imm (Imm.v _)))));((exact hg));(focus (repeat ((exact Flat.v _))));((apply yJ));((exact xD _ _)))))
          refine ⟨k + 1, ⟨by omega, hall'⟩, by omega, ?_⟩
          refine Weak.of [] rfl ?_ ?_ <;> (repeat' (first|exact trivial|exact rfl|apply And.intro))
      · have hlt' : ¬ (k : Int) < ((o.map yQ).length : Int) := by omega
        obtain rfl : k = o.length := by omega
        rw [List.take_of_length_le (Nat.le_refl _)] at hall
        rw [qG, hi, hall]
        (repeat' (first|(apply xW;((exact Want.none_ rfl)))|(apply xF zI;exact rfl;exact rfl)|apply zQ|apply AWp.Q|apply zG|apply AWp.G|apply AWp.X|apply AWp.R|apply zN|apply zL|(apply AWp.F;exact rfl;((exact dF ‹_›)))))
        (((refine zX _ [] (.cons (zP rfl) .nil) ?_ rfl ?_)) <;> (repeat' (first|exact trivial|exact rfl)))
section
variable (t : List Int) (g : Nat) (p : Int → Bool)
theorem indexI_pf (caps : List Cell) (hl : t.length ≤ 4000000) (him : ∀ c ∈ caps, Imm c) (hg : ∀ c ∈ t, PF Tryz.prog g (.c (int c) :: caps.map AVal.c) [] (.c (boo (p c)))) :
    PF Tryz.prog 209 [.c (.sl (t.map yQ)), .c (.fn g caps)] [] (.c (int (if t.any p then ((t.findIdx p : Nat) : Int) else -1))) := by
  refine PF.enter (xS _ _) Tryz.func209 rfl (by kernel_rfl) _ _ rfl rfl rfl (fun w0 mu I0 β0 gi dis => ?_)
  have hL : (t.map yQ).length = t.length := List.length_map _
  (repeat (first|(apply xW;((exact Want.none_ rfl)))|(apply xF zI;exact rfl;exact rfl)|apply zQ|apply AWp.Q|apply zG|apply AWp.G|apply AWp.B))
  refine AWp.U (σ := Nat) (fun k => ⟨[(0, .c (.sl (t.map yQ))), (1, .c (.fn g caps)), (7, .c (int t.length)), (8, .c (int k))], [], 0⟩) (fun k => k ≤ t.length ∧ (t.take k).any p = false) (fun k => t.length - k) 0 ⟨Nat.zero_le _, rfl⟩ ?_ ?_
  · refine Weak.of [] rfl ?_ ?_ <;> (repeat' (first|exact trivial|exact rfl|exact oRi ‹_›|apply And.intro|(apply cgI;(omega))))
  · rintro k ⟨hk, hall⟩
    by_cases hlt : k < t.length
    · obtain ⟨c, hc⟩ := xQ hlt
      have hc' : (t.map yQ)[k]? = some (yQ c) := xM hc
      have hlt' : (k : Int) < (t.length : Int) := by omega
      have hg' := hg c (List.mem_of_getElem? hc)
      (repeat' (first|(apply xW;((exact Want.none_ rfl)))|(apply xF zI;exact rfl;exact rfl)|((first|apply yE|(apply yB;exact rfl;exact rfl))<;>(first|exact zI|exact Nat.zero_add _|exact rfl|refine yH ?_|assumption|omega))|apply zQ|apply AWp.Q|apply zG|apply AWp.G|apply AWp.B|apply AWp.J|apply AWp.R|apply zK|apply zH|apply zM|(apply AWp.T;exact rfl;((exact dT ‹_›)))|(apply (vC []);(iterate 5 exact rfl);(iterate 2 (focus (repeat (first|exact VAs.nil|apply VAs.cons|apply VA.c|(apply VCs.same;assumption)|exact VC.imm (Imm.v _)))));((exact hg'));(focus (repeat ((exact Flat.v _))));((apply yJ));((exact xD _ _)))|(((refine AWp.O _ rfl ?_ ?_))<;>intro hp<;>try (exfalso;omega))))
      · (((refine zX _ [] (.cons (zP rfl) .nil) ?_ rfl ?_)) <;> (repeat' (first|exact trivial|refine vwI ?_)))
        rw [any_at hc (by assumption), if_pos rfl, findIdx_first hc (by assumption) hall]
      · refine ⟨k + 1, ⟨by omega, by rw [any_take_succ hc, hall]; simp [*]⟩, by omega, ?_⟩
        refine Weak.of [] rfl ?_ ?_ <;> (repeat' (first|exact trivial|exact rfl|exact oRi ‹_›|apply And.intro))
    · have hlt' : ¬ (k : Int) < (t.length : Int) := by omega
      (repeat (first|(apply xW;((exact Want.none_ rfl)))|(apply xF zI;exact rfl;exact rfl)|apply zQ|apply AWp.Q|apply zG|apply AWp.G|apply AWp.X|apply AWp.R|apply zN|apply zL|(apply AWp.F;exact rfl;((exact dF ‹_›)))))
      (((refine zX _ [] (.cons (zP rfl) .nil) ?_ rfl ?_)) <;> (repeat' (first|exact trivial|refine vwI ?_)))
      rw [take_all hk hlt] at hall
      simp [hall]
theorem containsI_pf (caps : List Cell) (hl : t.length ≤ 4000000) (him : ∀ c ∈ caps, Imm c) (hg : ∀ c ∈ t, PF Tryz.prog g (.c (int c) :: caps.map AVal.c) [] (.c (boo (p c)))) :
    PF Tryz.prog 176 [.c (.sl (t.map yQ)), .c (.fn g caps)] [] (.c (boo (t.any p))) := by
  refine PF.enter (xS _ _) Tryz.func176 rfl (by kernel_rfl) _ _ rfl rfl rfl (fun w0 mu I0 β0 gi dis => ?_)
  (repeat' (first|(apply xW;((exact Want.none_ rfl)))|(apply xF zI;exact rfl;exact rfl)|apply zQ|apply AWp.Q|apply zG|apply AWp.G|apply AWp.R|(apply (vC []);(iterate 5 exact rfl);(iterate 2 (focus (repeat (first|exact VAs.nil|apply VAs.cons|apply VA.c|exact VCs.nil|(apply VCs.same;assumption)|exact VC.imm (Imm.sl _)|apply VC.fn))));((exact indexI_pf t g p caps hl him hg));(focus (repeat ((exact Flat.v _))));((apply yJ));((exact xD _ _)))))
  (((refine zX _ [] (.cons (zP rfl) .nil) ?_ rfl ?_)) <;> (repeat' (first|exact trivial|refine vwB ?_)))
  cases h : t.any p <;> simp
theorem allNotI_pf (c : Int) (b : Bool) (hg : PF Tryz.prog g [.c (int c)] [] (.c (boo b))) :
    PF Tryz.prog 177 [.c (int c), .c (.ip [.fn g []])] [] (.c (boo (!b))) := by
  refine PF.enter (xS _ _) Tryz.func177 rfl (by kernel_rfl) _ _ rfl rfl rfl (fun w0 mu I0 β0 gi dis => ?_)
  (repeat' (first|(apply xW;((exact Want.none_ rfl)))|(apply xF zI;exact rfl;exact rfl)|apply zQ|apply AWp.Q|apply zG|apply AWp.G|apply AWp.R|(apply yC;(iterate 6 exact rfl);(iterate 2 (focus (repeat (first|exact VAs.nil|apply VAs.cons|apply VA.c|exact VCs.nil|exact VC.imm (Imm.v _)))));((exact hg));(focus (repeat ((exact Flat.v _))));((apply yJ));((exact xD _ _)))))
  (((refine zX _ [] (.cons (zP rfl) .nil) ?_ rfl ?_)) <;> (repeat' (first|exact trivial|exact rfl)))
theorem allI_pf (hl : t.length ≤ 4000000) (hg : ∀ c ∈ t, PF Tryz.prog g [.c (int c)] [] (.c (boo (p c)))) :
    PF Tryz.prog 144 [.c (.sl (t.map yQ)), .c (.fn g [])] [] (.c (boo (t.all p))) := by
  refine PF.enter (xS _ _) Tryz.func144 rfl (by kernel_rfl) _ _ rfl rfl rfl (fun w0 mu I0 β0 gi dis => ?_)
  (repeat' (first|(apply xW;((exact Want.none_ rfl)))|(apply xF zI;exact rfl;exact rfl)|(((apply rx_makeFunc))<;>(first|exact rfl|refine yH ?_))|apply zQ|apply AWp.Q|apply zG|apply AWp.G|apply AWp.R|(apply (vC [0]);(iterate 5 exact rfl);(iterate 2 (focus (repeat (first|exact VAs.nil|apply VAs.cons|apply VA.c|exact VCs.nil|apply VCs.cons|exact VC.imm (Imm.sl _)|apply VC.fn|(apply VC.ptr;(focus (simp;done));exact rfl;exact rfl;exact rfl;(repeat (first|exact vH|exact zD _|refine wB ?_ ?_)))))));((exact containsI_pf t _ (fun c => !p c) [.ip [.fn g []]] hl (by (repeat (first|exact vH|exact Imm.ip _|refine wB ?_ ?_))) (fun c hc => allNotI_pf g c (p c) (hg c hc))));(focus (repeat ((exact Flat.v _))));((apply yJ));((exact xD _ _)))))
  (((refine zX _ [] (.cons (zP rfl) .nil) ?_ rfl ?_)) <;> (repeat' (first|exact trivial|refine vwB ?_)))
  rw [List.all_eq_not_any_not]
end
theorem implOut_pf (o : List Int) (ho : o.length ≤ 4000000) : PF Tryz.prog 85 [.c (.sl (o.map yQ))] [] (.c (boo (qG o))) := by
  have hL : (o.map yQ).length = o.length := List.length_map _
  have hin := in_pf ((o.map yQ).length : Nat) 1 6
  have ha := allI_pf o 79 okS ho (fun c _ => okSI_pf c)
  cases hi : inZ o.length 1 6 with
  | false =>
    rw [hL, hi, ← hL] at hin
    rw [qG, hi]
    refine PF.enter (xJ _) Tryz.func85 rfl (by kernel_rfl) _ _ rfl rfl rfl (fun w0 mu I0 β0 gi dis => ?_)
    (repeat' (first|(apply xW;((exact Want.none_ rfl)))|(apply xF zI;exact rfl;exact rfl)|(apply yX;exact rfl;exact rfl;((exact rfl));exact rfl;exact rfl)|(apply yY;(iterate 5 exact rfl);((exact rfl)))|apply zQ|apply AWp.Q|apply zG|apply AWp.G|apply AWp.R|(apply yC;(iterate 6 exact rfl);(iterate 2 (focus (repeat (first|exact VAs.nil|apply VAs.cons|apply VA.c|exact VCs.nil|exact VC.imm (Imm.v _)))));((exact hin));(focus (repeat ((exact Flat.v _))));((apply yJ));((exact xD _ _)))))
    (((refine zX _ [] (.cons (zP rfl) .nil) ?_ rfl ?_)) <;> (repeat' (first|exact trivial|exact rfl)))
  | true =>
    rw [hL, hi, ← hL] at hin
    rw [qG, hi]
    refine PF.enter (xJ _) Tryz.func85 rfl (by kernel_rfl) _ _ rfl rfl rfl (fun w0 mu I0 β0 gi dis => ?_)
    (repeat' (first|(apply xW;(first|exact Want.none_ rfl|(refine zW rfl rfl rfl rfl ?_;((exact rfl)))))|(apply xF zI;exact rfl;exact rfl)|(apply yX;exact rfl;exact rfl;((exact rfl));exact rfl;exact rfl)|apply zQ|apply AWp.Q|apply zG|apply AWp.G|apply AWp.R|(apply yC;(iterate 6 exact rfl);(iterate 2 (focus (repeat (first|exact VAs.nil|apply VAs.cons|apply VA.c|exact VCs.nil|exact VC.imm (Imm.v _)|exact VC.imm (Imm.sl _)|apply VC.fn))));(first|exact hin|exact ha);(focus (repeat ((exact Flat.v _))));((apply yJ));((exact xD _ _)))))
    (((refine zX _ [] (.cons (zP rfl) .nil) ?_ rfl ?_)) <;> (repeat' (first|exact trivial|exact rfl)))
def sgnI (x y : Int) : Int := if x < y then -1 else if y < x then 1 else 0
theorem isNaNI_pf (x : Int) : PF Tryz.prog 208 [.c (int x)] [] (.c (boo false)) := by
  refine PF.enter (xJ _) Tryz.func208 rfl (by kernel_rfl) _ _ rfl rfl rfl (fun w0 mu I0 β0 gi dis => ?_)
  (repeat' (first|(apply xW;((exact Want.none_ rfl)))|(apply xF zI;exact rfl;exact rfl)|apply zQ|apply AWp.Q|apply zG|apply AWp.G|apply AWp.R))
  (((refine zX _ [] (.cons (zP rfl) .nil) ?_ rfl ?_)) <;> (repeat' (first|exact trivial|refine vwB ?_)))
  simp
theorem cmpII_pf (x y : Int) : PF Tryz.prog 175 [.c (int x), .c (int y)] [] (.c (int (sgnI x y))) := by
  refine PF.enter (xS _ _) Tryz.func175 rfl (by kernel_rfl) _ _ rfl rfl rfl (fun w0 mu I0 β0 gi dis => ?_)
  (repeat' (first|(apply xW;((exact Want.none_ rfl)))|(apply xF zI;exact rfl;exact rfl)|apply zQ|apply AWp.Q|apply zG|apply AWp.G|apply AWp.J|apply AWp.R|apply zK|(apply AWp.F;exact rfl;((exact rfl)))|(apply yC;(iterate 6 exact rfl);(iterate 2 (focus (repeat (first|exact VAs.nil|apply VAs.cons|apply VA.c|exact VCs.nil|exact VC.imm (Imm.v _)))));(first|exact isNaNI_pf x|exact isNaNI_pf y);(focus (repeat ((exact Flat.v _))));((apply yJ));((exact xD _ _)))|(((refine AWp.C rfl ?_ ?_))<;>intro hp<;>try (exfalso;omega))))
  all_goals
    rw [sgnI]
    first | rw [if_pos (by assumption)] | rw [if_neg (by assumption), if_pos (by assumption)] | rw [if_neg (by assumption), if_neg (by assumption)]
    (((refine zX _ [] (.cons (zP rfl) .nil) ?_ rfl ?_)) <;> (repeat' (first|exact trivial|exact rfl)))
theorem sliceCmp_pf (a b : List Int) (ha : a.length ≤ 4000000) (hb : b.length ≤ 4000000) : PF Tryz.prog 139 [.c (.sl (a.map yQ)), .c (.sl (b.map yQ))] [] (.c (int (vT a b))) := by
  have hLa : (a.map yQ).length = a.length := List.length_map _
  have hLb : (b.map yQ).length = b.length := List.length_map _
  refine PF.enter (xS _ _) Tryz.func139 rfl (by kernel_rfl) _ _ rfl rfl rfl (fun w0 mu I0 β0 gi dis => ?_)
  (repeat' (first|(apply xW;((exact Want.none_ rfl)))|(apply xF zI;exact rfl;exact rfl)|apply zQ|apply AWp.Q|apply zG|apply AWp.G|apply AWp.B))
  refine AWp.U (σ := Nat) (fun k => ⟨[(0, .c (.sl (a.map yQ))), (1, .c (.sl (b.map yQ))), (9, .c (.sl (a.map yQ))), (10, .c (int a.length)), (11, .c (int k))], [], 0⟩) (fun k => k ≤ a.length ∧ k ≤ b.length ∧ vT a b = vT (a.drop k) (b.drop k)) (fun k => a.length - k) 0 ⟨Nat.zero_le _, Nat.zero_le _, rfl⟩ ?_ ?_
  · refine Weak.of [] rfl ?_ ?_ <;> (repeat' (first|exact trivial|exact rfl|apply And.intro|(apply cgI;(omega))))
  · rintro k ⟨hka, hkb, hcm⟩
    by_cases hlt : k < a.length
    · obtain ⟨x, hx⟩ := xQ hlt
      have hx' : (a.map yQ)[k]? = some (yQ x) := xM hx
      have h1 : (k : Int) < (a.length : Int) := by omega
      by_cases hlb : k < b.length
      · obtain ⟨y, hy⟩ := xQ hlb
        have hy' : (b.map yQ)[k]? = some (yQ y) := xM hy
        have h2 : ¬ ((b.map yQ).length : Int) ≤ (k : Int) := by omega
        have hc := cmpII_pf x y
        rw [kG hx, kG hy, vT] at hcm
        rw [sgnI] at hc
        by_cases hxy : x < y
        · rw [if_pos hxy] at hcm hc
          rw [hcm]
          (repeat' (first|(apply xW;((exact Want.none_ rfl)))|(apply xF zI;exact rfl;exact rfl)|(((apply yB;exact rfl;exact rfl))<;>(first|exact zI|exact Nat.zero_add _|exact rfl|refine yH ?_|assumption))|apply zQ|apply AWp.Q|apply zG|apply AWp.G|apply AWp.B|apply AWp.J|apply AWp.R|apply zK|apply zM|(apply AWp.T;exact rfl;(first|exact dT ‹_›|exact rfl))|(apply AWp.F;exact rfl;((exact dF ‹_›)))|(apply yC;(iterate 6 exact rfl);(iterate 2 (focus (repeat (first|exact VAs.nil|apply VAs.cons|apply VA.c|exact VCs.nil|exact VC.imm (Imm.v _)))));((exact hc));(focus (repeat ((exact Flat.v _))));((apply yJ));((exact xD _ _)))))
          (((refine zX _ [] (.cons (zP rfl) .nil) ?_ rfl ?_)) <;> (repeat' (first|exact trivial|exact rfl)))
        · by_cases hyx : y < x
          · rw [if_neg hxy, if_pos hyx] at hcm hc
            rw [hcm]
            (repeat' (first|(apply xW;((exact Want.none_ rfl)))|(apply xF zI;exact rfl;exact rfl)|(((apply yB;exact rfl;exact rfl))<;>(first|exact zI|exact Nat.zero_add _|exact rfl|refine yH ?_|assumption))|apply zQ|apply AWp.Q|apply zG|apply AWp.G|apply AWp.B|apply AWp.J|apply AWp.R|apply zK|apply zM|(apply AWp.T;exact rfl;(first|exact dT ‹_›|exact rfl))|(apply AWp.F;exact rfl;((exact dF ‹_›)))|(apply yC;(iterate 6 exact rfl);(iterate 2 (focus (repeat (first|exact VAs.nil|apply VAs.cons|apply VA.c|exact VCs.nil|exact VC.imm (Imm.v _)))));((exact hc));(focus (repeat ((exact Flat.v _))));((apply yJ));((exact xD _ _)))))
            (((refine zX _ [] (.cons (zP rfl) .nil) ?_ rfl ?_)) <;> (repeat' (first|exact trivial|exact rfl)))
          · rw [if_neg hxy, if_neg hyx] at hcm hc
            (repeat' (first|(apply xW;((exact Want.none_ rfl)))|(apply xF zI;exact rfl;exact rfl)|((first|apply yE|(apply yB;exact rfl;exact rfl))<;>(first|exact zI|exact Nat.zero_add _|exact rfl|refine yH ?_|assumption|omega))|apply zQ|apply AWp.Q|apply zG|apply AWp.G|apply AWp.B|apply AWp.J|apply zH|(apply AWp.T;exact rfl;((exact dT ‹_›)))|(apply AWp.F;exact rfl;(first|exact dF ‹_›|exact rfl))|(apply yC;(iterate 6 exact rfl);(iterate 2 (focus (repeat (first|exact VAs.nil|apply VAs.cons|apply VA.c|exact VCs.nil|exact VC.imm (Imm.v _)))));((exact hc));(focus (repeat ((exact Flat.v _))));((apply yJ));((exact xD _ _)))))
            refine ⟨k + 1, ⟨by omega, by omega, hcm⟩, by omega, ?_⟩
            refine Weak.of [] rfl ?_ ?_ <;> (repeat' (first|exact trivial|exact rfl|apply And.intro))
      · have h2 : ((b.map yQ).length : Int) ≤ (k : Int) := by omega
        rw [kG hx, show b.drop k = [] from List.drop_of_length_le (by omega), vT] at hcm
        rw [hcm]
        (repeat' (first|(apply xW;((exact Want.none_ rfl)))|(apply xF zI;exact rfl;exact rfl)|(((apply yB;exact rfl;exact rfl))<;>(first|exact zI|exact Nat.zero_add _|exact rfl|refine yH ?_|assumption))|apply zQ|apply AWp.Q|apply zG|apply AWp.G|apply AWp.B|apply AWp.J|apply AWp.R|apply zK|apply zM|(apply AWp.T;exact rfl;((exact dT ‹_›)))))
        (((refine zX _ [] (.cons (zP rfl) .nil) ?_ rfl ?_)) <;> (repeat' (first|exact trivial|exact rfl)))
    · obtain rfl : k = a.length := by omega
      have h1 : ¬ ((a.length : Nat) : Int) < (a.length : Int) := by omega
      rw [List.drop_of_length_le (Nat.le_refl _)] at hcm
      rcases Nat.lt_or_ge a.length b.length with hlb | hlb
      · have h3 : ((a.map yQ).length : Int) < ((b.map yQ).length : Int) := by omega
        obtain ⟨y, hy⟩ := xQ hlb
        rw [kG hy, vT] at hcm
        rw [hcm]
        (repeat' (first|(apply xW;((exact Want.none_ rfl)))|(apply xF zI;exact rfl;exact rfl)|apply zQ|apply AWp.Q|apply zG|apply AWp.G|apply AWp.X|apply AWp.R|apply zN|apply zK|apply zL|(apply AWp.T;exact rfl;((exact dT ‹_›)))|(apply AWp.F;exact rfl;((exact dF ‹_›)))))
        (((refine zX _ [] (.cons (zP rfl) .nil) ?_ rfl ?_)) <;> (repeat' (first|exact trivial|exact rfl)))
      · have h3 : ¬ ((a.map yQ).length : Int) < ((b.map yQ).length : Int) := by omega
        rw [List.drop_of_length_le hlb, vT] at hcm
        rw [hcm]
        (repeat' (first|(apply xW;((exact Want.none_ rfl)))|(apply xF zI;exact rfl;exact rfl)|apply zQ|apply AWp.Q|apply zG|apply AWp.G|apply AWp.J|apply AWp.X|apply AWp.R|apply zN|apply zL|(apply AWp.F;exact rfl;((exact dF ‹_›)))))
        (((refine zX _ [] (.cons (zP rfl) .nil) ?_ rfl ?_)) <;> (repeat' (first|exact trivial|exact rfl)))
theorem eqTake {a b : List Int} (h : a.length = b.length) {k : Nat} (h1 : k = a.length) (h2 : a.take k = b.take k) : a = b := by
  subst h1
  rwa [List.take_of_length_le (Nat.le_refl _), List.take_of_length_le (by omega)] at h2
theorem neAt {a b : List Int} {k : Nat} {x y : Int} (hx : a[k]? = some x) (hy : b[k]? = some y) (h : ¬ x = y) : decide (a = b) = false := by
  rw [decide_eq_false_iff_not]; rintro rfl; rw [hx] at hy; exact h (Option.some.inj hy)
theorem neLen {a b : List Int} (h : ¬ a.length = b.length) : decide (a = b) = false := by
  rw [decide_eq_false_iff_not]; rintro rfl; exact h rfl
theorem sliceEq_pf (a b : List Int) (ha : a.length ≤ 4000000) (hb : b.length ≤ 4000000) : PF Tryz.prog 142 [.c (.sl (a.map yQ)), .c (.sl (b.map yQ))] [] (.c (boo (decide (a = b)))) := by
  have hLa : (a.map yQ).length = a.length := List.length_map _
  have hLb : (b.map yQ).length = b.length := List.length_map _
  by_cases hl : a.length = b.length
  · have hl' : ((a.map yQ).length : Int) = ((b.map yQ).length : Int) := by omega
    refine PF.enter (xS _ _) Tryz.func142 rfl (by kernel_rfl) _ _ rfl rfl rfl (fun w0 mu I0 β0 gi dis => ?_)
    (repeat' (first|(apply xW;((exact Want.none_ rfl)))|(apply xF zI;exact rfl;exact rfl)|apply zQ|apply AWp.Q|apply zG|apply AWp.G|apply AWp.B|apply AWp.J|(((refine AWp.C rfl ?_ ?_))<;>intro hp<;>try (exfalso;omega))))
    refine AWp.U (σ := Nat) (fun k => ⟨[(0, .c (.sl (a.map yQ))), (1, .c (.sl (b.map yQ))), (12, .c (int a.length)), (13, .c (int k))], [], 0⟩) (fun k => k ≤ a.length ∧ a.take k = b.take k) (fun k => a.length - k) 0 ⟨Nat.zero_le _, rfl⟩ ?_ ?_
    · refine Weak.of [] rfl ?_ ?_ <;> (repeat' (first|exact trivial|exact rfl|apply And.intro|(apply cgI;(omega))))
    · rintro k ⟨hk, hall⟩
      by_cases hlt : k < a.length
      · obtain ⟨x, hx⟩ := xQ hlt
        obtain ⟨y, hy⟩ := xQ (show k < b.length by omega)
        have hx' : (a.map yQ)[k]? = some (yQ x) := xM hx
        have hy' : (b.map yQ)[k]? = some (yQ y) := xM hy
        have h1 : (k : Int) < (a.length : Int) := by omega
        by_cases hxy : x = y
        · subst hxy
          (repeat' (first|(apply xW;((exact Want.none_ rfl)))|(apply xF zI;exact rfl;exact rfl)|((first|apply yE|(apply yB;exact rfl;exact rfl))<;>(first|exact zI|exact Nat.zero_add _|exact rfl|refine yH ?_|assumption|omega))|apply zQ|(refine y3 ?_ ?_;kernel_rfl)|apply AWp.Q|apply zG|apply AWp.G|apply AWp.B|apply AWp.J|apply zH|(refine AWp.D ?_ ?_;kernel_rfl)|(apply AWp.T;exact rfl;((exact dT ‹_›)))|(((refine AWp.C rfl ?_ ?_))<;>intro hp<;>try (exfalso;omega))))
          all_goals first | (exfalso; simp_all; done) | skip
          refine ⟨k + 1, ⟨by omega, by rw [List.take_add_one, List.take_add_one, hx, hy, hall]⟩, by omega, ?_⟩
          refine Weak.of [] rfl ?_ ?_ <;> (repeat' (first|exact trivial|exact rfl|apply And.intro))
        · rw [neAt hx hy hxy]
          (repeat' (first|(apply xW;((exact Want.none_ rfl)))|(apply xF zI;exact rfl;exact rfl)|(((apply yB;exact rfl;exact rfl))<;>(first|exact zI|exact Nat.zero_add _|exact rfl|refine yH ?_|assumption))|apply zQ|(refine y3 ?_ ?_;kernel_rfl)|apply AWp.Q|apply zG|apply AWp.G|apply AWp.B|apply AWp.J|apply AWp.R|apply zK|apply zM|(refine AWp.D ?_ ?_;kernel_rfl)|(apply AWp.T;exact rfl;((exact dT ‹_›)))))
          (((refine zX _ [] (.cons (zP rfl) .nil) ?_ rfl ?_)) <;> (repeat' (first|exact trivial|exact rfl)))
      · have h1 : ¬ (k : Int) < (a.length : Int) := by omega
        obtain rfl := eqTake hl (by omega) hall
        (repeat' (first|(apply xW;((exact Want.none_ rfl)))|(apply xF zI;exact rfl;exact rfl)|apply zQ|apply AWp.Q|apply zG|apply AWp.G|apply AWp.X|apply AWp.R|apply zN|apply zL|(apply AWp.F;exact rfl;((exact dF ‹_›)))))
        (((refine zX _ [] (.cons (zP rfl) .nil) ?_ rfl ?_)) <;> (repeat' (first|exact trivial|refine vwB ?_)))
        simp
  · have hl' : ¬ ((a.map yQ).length : Int) = ((b.map yQ).length : Int) := by omega
    rw [neLen hl]
    refine PF.enter (xS _ _) Tryz.func142 rfl (by kernel_rfl) _ _ rfl rfl rfl (fun w0 mu I0 β0 gi dis => ?_)
    (repeat' (first|(apply xW;((exact Want.none_ rfl)))|(apply xF zI;exact rfl;exact rfl)|apply zQ|apply AWp.Q|apply zG|apply AWp.G|apply AWp.R|apply zK|(apply AWp.T;exact rfl;((exact dT ‹_›)))))
    (((refine zX _ [] (.cons (zP rfl) .nil) ?_ rfl ?_)) <;> (repeat' (first|exact trivial|exact rfl)))
theorem l1Same_pf (a b : List Int) (ha : a.length ≤ 4000000) (hb : b.length ≤ 4000000) : PF Tryz.prog 143 [.c (.sl (a.map yQ)), .c (.sl (b.map yQ))] [] (.c (boo (decide (a = b)))) := by
  have hLa : (a.map yQ).length = a.length := List.length_map _
  have hLb : (b.map yQ).length = b.length := List.length_map _
  by_cases hl : a.length = b.length
  · have hl' : ((a.map yQ).length : Int) = ((b.map yQ).length : Int) := by omega
    refine PF.enter (xS _ _) Tryz.func143 rfl (by kernel_rfl) _ _ rfl rfl rfl (fun w0 mu I0 β0 gi dis => ?_)
    (repeat' (first|(apply xW;((exact Want.none_ rfl)))|(apply xF zI;exact rfl;exact rfl)|apply zQ|apply AWp.Q|apply zG|apply AWp.G|apply AWp.B|apply AWp.J|(((refine AWp.C rfl ?_ ?_))<;>intro hp<;>try (exfalso;omega))))
    refine AWp.U (σ := Nat) (fun k => ⟨[(0, .c (.sl (a.map yQ))), (1, .c (.sl (b.map yQ))), (5, .c (int k))], [], 0⟩) (fun k => k ≤ a.length ∧ a.take k = b.take k) (fun k => a.length - k) 0 ⟨Nat.zero_le _, rfl⟩ ?_ ?_
    · refine Weak.of [] rfl ?_ ?_ <;> (repeat' (first|exact trivial|exact rfl|apply And.intro))
    · rintro k ⟨hk, hall⟩
      by_cases hlt : k < a.length
      · obtain ⟨x, hx⟩ := xQ hlt
        obtain ⟨y, hy⟩ := xQ (show k < b.length by omega)
        have hx' : (a.map yQ)[k]? = some (yQ x) := xM hx
        have hy' : (b.map yQ)[k]? = some (yQ y) := xM hy
        have h1 : (k : Int) < ((a.map yQ).length : Int) := by omega
        by_cases hxy : x = y
        · subst hxy
          (repeat' (first|(apply xW;((exact Want.none_ rfl)))|(apply xF zI;exact rfl;exact rfl)|((first|apply yE|(apply yB;exact rfl;exact rfl))<;>(first|exact zI|exact Nat.zero_add _|exact rfl|refine yH ?_|assumption|omega))|apply zQ|(refine y3 ?_ ?_;kernel_rfl)|apply AWp.Q|apply zG|apply AWp.G|apply AWp.B|apply AWp.J|apply zH|(refine AWp.D ?_ ?_;kernel_rfl)|(apply AWp.T;exact rfl;((exact dT ‹_›)))|(((refine AWp.C rfl ?_ ?_))<;>intro hp<;>try (exfalso;omega))))
          all_goals first | (exfalso; simp_all; done) | skip
          refine ⟨k + 1, ⟨by omega, by rw [List.take_add_one, List.take_add_one, hx, hy, hall]⟩, by omega, ?_⟩
          refine Weak.of [] rfl ?_ ?_ <;> (repeat' (first|exact trivial|exact rfl|apply And.intro))
        · rw [neAt hx hy hxy]
          (repeat' (first|(apply xW;((exact Want.none_ rfl)))|(apply xF zI;exact rfl;exact rfl)|(((apply yB;exact rfl;exact rfl))<;>(first|exact zI|exact Nat.zero_add _|exact rfl|refine yH ?_|assumption))|apply zQ|(refine y3 ?_ ?_;kernel_rfl)|apply AWp.Q|apply zG|apply AWp.G|apply AWp.B|apply AWp.J|apply AWp.R|apply zK|apply zM|(refine AWp.D ?_ ?_;kernel_rfl)|(apply AWp.T;exact rfl;((exact dT ‹_›)))))
          (((refine zX _ [] (.cons (zP rfl) .nil) ?_ rfl ?_)) <;> (repeat' (first|exact trivial|exact rfl)))
      · have h1 : ¬ (k : Int) < ((a.map yQ).length : Int) := by omega
        obtain rfl := eqTake hl (by omega) hall
        (repeat' (first|(apply xW;((exact Want.none_ rfl)))|(apply xF zI;exact rfl;exact rfl)|apply zQ|apply AWp.Q|apply zG|apply AWp.G|apply AWp.X|apply AWp.R|apply zN|apply zL|(apply AWp.F;exact rfl;((exact dF ‹_›)))))
        (((refine zX _ [] (.cons (zP rfl) .nil) ?_ rfl ?_)) <;> (repeat' (first|exact trivial|refine vwB ?_)))
        simp
  · have hl' : ¬ ((a.map yQ).length : Int) = ((b.map yQ).length : Int) := by omega
    rw [neLen hl]
    refine PF.enter (xS _ _) Tryz.func143 rfl (by kernel_rfl) _ _ rfl rfl rfl (fun w0 mu I0 β0 gi dis => ?_)
    (repeat' (first|(apply xW;((exact Want.none_ rfl)))|(apply xF zI;exact rfl;exact rfl)|apply zQ|apply AWp.Q|apply zG|apply AWp.G|apply AWp.R|apply zK|(apply AWp.T;exact rfl;((exact dT ‹_›)))))
    (((refine zX _ [] (.cons (zP rfl) .nil) ?_ rfl ?_)) <;> (repeat' (first|exact trivial|exact rfl)))
def qQ (es : List Ent) : Prop := es.length ≤ 1048576 ∧ ∀ e ∈ es, e.o.length ≤ 1048576 ∧ e.t.length ≤ 1048576
theorem any_hit {es : List Ent} {o : List Int} {k : Nat} {e : Ent} (he : es[k]? = some e) (ho : e.o = o) (hall : (es.take k).any (isO o) = false) : atE es o = (k : Int) := by
  have h1 : isO o e = true := by rw [isO, decide_eq_true ho]
  rw [atE, hasE, any_at he h1, if_pos rfl, idxE, findIdx_first he h1 hall]
theorem any_none {es : List Ent} {o : List Int} (h : es.any (isO o) = false) : atE es o = -1 := by
  rw [atE, hasE, h]; rfl
theorem l6At_pf (es : List Ent) (o : List Int) (hb : qQ es) (ho : o.length ≤ 4000000) : PF Tryz.prog 84 [.agg (vE es), .c (.sl (o.map yQ))] [] (.c (int (atE es o))) := by
  have hbl := hb.1
  have hL : (es.map xN).length = es.length := List.length_map _
  refine PF.enter (xS _ _) Tryz.func84 rfl (by kernel_rfl) _ _ rfl rfl rfl (fun w0 mu I0 β0 gi dis => ?_)
  (repeat' (first|(apply xW;((exact Want.none_ rfl)))|(apply xF zI;exact rfl;exact rfl)|apply zQ|apply AWp.Q|apply zG|apply AWp.G|apply AWp.B))
  refine AWp.U (σ := Nat) (fun k => ⟨[(1, .c (.sl (o.map yQ))), (2, .c (.ptr 0 0 0)), (5, .c (int k))], [(0, some ⟨26, 1, [vE es]⟩)], 1⟩) (fun k => k ≤ es.length ∧ (es.take k).any (isO o) = false) (fun k => es.length - k) 0 ⟨Nat.zero_le _, rfl⟩ ?_ ?_
  · refine Weak.of [(0, some 0)] rfl ?_ ?_ <;> (repeat' (first|exact trivial|exact rfl|apply And.intro|refine ⟨_,rfl,rfl,rfl,OW.one ?_⟩))
  · rintro k ⟨hk, hall⟩
    by_cases hlt : k < es.length
    · obtain ⟨e, he⟩ := xQ hlt
      have he' : (es.map xN)[k]? = some (xN e) := xM he
      have hlt' : (k : Int) < ((es.map xN).length : Int) := by omega
      have heb := hb.2 e (List.mem_of_getElem? he)
      have hg := l1Same_pf e.o o (by omega) ho
      by_cases hok : e.o = o
      · rw [decide_eq_true hok] at hg
        rw [any_hit he hok hall]
        (repeat' (first|(apply xW;((exact Want.none_ rfl)))|(apply xF zI;exact rfl;exact rfl)|(((apply yB;exact rfl;exact rfl))<;>(first|exact zI|exact rfl|refine yH ?_|assumption))|apply zQ|apply AWp.Q|apply zG|apply AWp.G|apply AWp.B|apply AWp.J|apply AWp.R|apply zK|apply zM|(apply AWp.T;exact rfl;(first|exact dT ‹_›|exact rfl))|(apply yC;(iterate 6 exact rfl);(iterate 2 (focus (repeat (first|exact VAs.nil|apply VAs.cons|apply VA.c|exact VCs.nil|exact VC.imm (Imm.sl _)))));((exact hg));(focus (repeat ((exact Flat.v _))));((apply yJ));((exact xD _ _)))))
        (((refine zX _ [] (.cons (zP rfl) .nil) ?_ rfl ?_)) <;> (repeat' (first|exact trivial|exact rfl)))
      · rw [decide_eq_false hok] at hg
        (repeat' (first|(apply xW;((exact Want.none_ rfl)))|(apply xF zI;exact rfl;exact rfl)|((first|apply yE|(apply yB;exact rfl;exact rfl))<;>(first|exact zI|exact rfl|refine yH ?_|assumption|omega))|apply zQ|apply AWp.Q|apply zG|apply AWp.G|apply AWp.B|apply AWp.J|apply zH|(apply AWp.T;exact rfl;((exact dT ‹_›)))|(apply AWp.F;exact rfl;((exact rfl)))|(apply yC;(iterate 6 exact rfl);(iterate 2 (focus (repeat (first|exact VAs.nil|apply VAs.cons|apply VA.c|exact VCs.nil|exact VC.imm (Imm.sl _)))));((exact hg));(focus (repeat ((exact Flat.v _))));((apply yJ));((exact xD _ _)))))
        refine ⟨k + 1, ⟨by omega, by rw [any_take_succ he, hall, isO, decide_eq_false hok]; rfl⟩, by omega, ?_⟩
        refine Weak.of [(0, some 0)] rfl ?_ ?_ <;> (repeat' (first|exact trivial|exact rfl|apply And.intro|refine ⟨_,rfl,rfl,rfl,OW.one ?_⟩))
    · have hlt' : ¬ (k : Int) < ((es.map xN).length : Int) := by omega
      rw [take_all hk hlt] at hall
      rw [any_none hall]
      (repeat' (first|(apply xW;((exact Want.none_ rfl)))|(apply xF zI;exact rfl;exact rfl)|apply zQ|apply AWp.Q|apply zG|apply AWp.G|apply AWp.X|apply AWp.R|apply zN|apply zL|(apply AWp.F;exact rfl;((exact dF ‹_›)))))
      (((refine zX _ [] (.cons (zP rfl) .nil) ?_ rfl ?_)) <;> (repeat' (first|exact trivial|exact rfl)))
theorem find1_pf (e : Ent) (o : List Int) (he : e.o.length ≤ 4000000) (ho : o.length ≤ 4000000) : PF Tryz.prog 141 [.agg (xN e), .c (.ip [.sl (o.map yQ)])] [] (.c (boo (isO o e))) := by
  have h := sliceEq_pf e.o o he ho
  refine PF.enter (xS _ _) Tryz.func141 rfl (by kernel_rfl) _ _ rfl rfl rfl (fun w0 mu I0 β0 gi dis => ?_)
  (repeat' (first|(apply xW;((exact Want.none_ rfl)))|(apply xF zI;exact rfl;exact rfl)|apply zQ|apply AWp.Q|apply zG|apply AWp.G|apply AWp.R|(apply yC;(iterate 6 exact rfl);(iterate 2 (focus (repeat (first|exact VAs.nil|apply VAs.cons|apply VA.c|exact VCs.nil|exact VC.imm (Imm.sl _)))));((exact h));(focus (repeat ((exact Flat.v _))));((apply yJ));((exact xD _ _)))))
  (((refine zX _ [] (.cons (zP rfl) .nil) ?_ rfl ?_)) <;> (repeat' (first|exact trivial|exact rfl)))
theorem indexE_pf (es : List Ent) (g : Nat) (p : Ent → Bool) (caps : List Cell) (hl : es.length ≤ 4000000) (him : ∀ c ∈ caps, Imm c) (hg : ∀ c ∈ es, PF Tryz.prog g (.agg (xN c) :: caps.map AVal.c) [] (.c (boo (p c)))) :
    PF Tryz.prog 140 [.c (.sl (es.map xN)), .c (.fn g caps)] [] (.c (int (if es.any p then ((es.findIdx p : Nat) : Int) else -1))) := by
  refine PF.enter (xS _ _) Tryz.func140 rfl (by kernel_rfl) _ _ rfl rfl rfl (fun w0 mu I0 β0 gi dis => ?_)
  have hL : (es.map xN).length = es.length := List.length_map _
  (repeat (first|(apply xW;((exact Want.none_ rfl)))|(apply xF zI;exact rfl;exact rfl)|apply zQ|apply AWp.Q|apply zG|apply AWp.G|apply AWp.B))
  refine AWp.U (σ := Nat) (fun k => ⟨[(0, .c (.sl (es.map xN))), (1, .c (.fn g caps)), (7, .c (int es.length)), (8, .c (int k))], [], 0⟩) (fun k => k ≤ es.length ∧ (es.take k).any p = false) (fun k => es.length - k) 0 ⟨Nat.zero_le _, rfl⟩ ?_ ?_
  · refine Weak.of [] rfl ?_ ?_ <;> (repeat' (first|exact trivial|exact rfl|exact oRi ‹_›|apply And.intro|(apply cgI;(omega))))
  · rintro k ⟨hk, hall⟩
    by_cases hlt : k < es.length
    · obtain ⟨c, hc⟩ := xQ hlt
      have hc' : (es.map xN)[k]? = some (xN c) := xM hc
      have hlt' : (k : Int) < (es.length : Int) := by omega
      have hg' := hg c (List.mem_of_getElem? hc)
      (repeat' (first|(apply xW;((exact Want.none_ rfl)))|(apply xF zI;exact rfl;exact rfl)|((first|apply yE|(apply yB;exact rfl;exact rfl))<;>(first|exact zI|exact rfl|refine yH ?_|assumption|omega))|apply zQ|apply AWp.Q|apply zG|apply AWp.G|apply AWp.B|apply AWp.J|apply AWp.R|apply zK|apply zH|apply zM|(apply AWp.T;exact rfl;((exact dT ‹_›)))|(apply (vC []);(iterate 5 exact rfl);(iterate 2 (focus (repeat (first|exact VAs.nil|apply VAs.cons|apply VA.agg|exact VCs.nil|(apply VCs.same;assumption)|apply VCs.cons|exact VC.imm (Imm.v _)|exact VC.imm (Imm.sl _)))));((exact hg'));(focus (repeat ((exact Flat.v _))));((apply yJ));((exact xD _ _)))|(((refine AWp.O _ rfl ?_ ?_))<;>intro hp<;>try (exfalso;omega))))
      · (((refine zX _ [] (.cons (zP rfl) .nil) ?_ rfl ?_)) <;> (repeat' (first|exact trivial|refine vwI ?_)))
        rw [any_at hc (by assumption), if_pos rfl, findIdx_first hc (by assumption) hall]
      · refine ⟨k + 1, ⟨by omega, by rw [any_take_succ hc, hall]; simp [*]⟩, by omega, ?_⟩
        refine Weak.of [] rfl ?_ ?_ <;> (repeat' (first|exact trivial|exact rfl|exact oRi ‹_›|apply And.intro))
    · have hlt' : ¬ (k : Int) < (es.length : Int) := by omega
      (repeat (first|(apply xW;((exact Want.none_ rfl)))|(apply xF zI;exact rfl;exact rfl)|apply zQ|apply AWp.Q|apply zG|apply AWp.G|apply AWp.X|apply AWp.R|apply zN|apply zL|(apply AWp.F;exact rfl;((exact dF ‹_›)))))
      (((refine zX _ [] (.cons (zP rfl) .nil) ?_ rfl ?_)) <;> (repeat' (first|exact trivial|refine vwI ?_)))
      rw [take_all hk hlt] at hall
      simp [hall]
theorem find_pf (es : List Ent) (o : List Int) (hb : qQ es) (ho : o.length ≤ 4000000) : PF Tryz.prog 81 [.agg (vE es), .c (.sl (o.map yQ))] [] (.c (int (atE es o))) := by
  have hbl := hb.1
  refine PF.enter (xS _ _) Tryz.func81 rfl (by kernel_rfl) _ _ rfl rfl rfl (fun w0 mu I0 β0 gi dis => ?_)
  (repeat' (first|(apply xW;((exact Want.none_ rfl)))|(apply xF zI;exact rfl;exact rfl)|(((apply rx_makeFunc))<;>(first|exact rfl|refine yH ?_))|apply zQ|apply AWp.Q|apply zG|apply AWp.G|apply AWp.R|(apply (vC [1]);(iterate 5 exact rfl);(iterate 2 (focus (repeat (first|exact VAs.nil|apply VAs.cons|apply VA.c|exact VCs.nil|apply VCs.cons|exact VC.imm (Imm.sl _)|apply VC.fn|(apply VC.ptr;(focus (simp;done));exact rfl;exact rfl;exact rfl;(repeat (first|exact vH|exact Imm.sl _|refine wB ?_ ?_)))))));((exact indexE_pf es _ (isO o) [.ip [.sl (o.map yQ)]] (by omega) (by (repeat (first|exact vH|exact Imm.ip _|refine wB ?_ ?_))) (fun c hc => find1_pf c o (by have := hb.2 c hc; omega) ho)));(focus (repeat ((exact Flat.v _))));((apply yJ));((exact xD _ _)))))
  (((refine zX _ [] (.cons (zP rfl) .nil) ?_ rfl ?_)) <;> (repeat' (first|exact trivial|exact rfl)))
end Go.Proofs.YtchpdclknbmdoaaGreatDoor
