/- Outlines and dictionaries: which are valid, and the entry with an outline, by both programs. No conditions but bounds of lengths. -/
import Derived.Test.YtjeffognhcbiaaaGreatDoorTrD
import Derived.Test.YtjeffognhcbiaaaGreatDoorSgA
import Derived.Test.YtjeffognhcbiaaaGreatDoorTpA
namespace Go.Proofs.YtjeffognhcbiaaaGreatDoor
open Go Go.RowKit
def okS (x : Int) : Bool := inZ x 1 8388607
def outOk (o : List Int) : Bool := inZ o.length 1 6 && o.all okS
theorem okS2_pf (x : Int) : PF Tryz.prog 58 [.c (int x)] [] (.c (boo (okS x))) := l2GoodT_pf x
theorem okSI_pf (x : Int) : PF Tryz.prog 52 [.c (int x)] [] (.c (boo (okS x))) := isStrokeT_pf x
theorem l4Good_pf (o : List Int) (ho : o.length ≤ 4000000) : PF Tryz.prog 87 [.c (.sl (o.map xE))] [] (.c (boo (outOk o))) := by
  have hL : (o.map xE).length = o.length := List.length_map _
  have hin := vP ((o.map xE).length : Nat) 1 6
  cases hi : inZ o.length 1 6 with
  | false =>
    rw [hL, hi, ← hL] at hin
    rw [outOk, hi]
    refine PF.enter (xJ _) Tryz.func87 rfl (by kernel_rfl) _ _ rfl rfl rfl (fun w0 mu I0 β0 gi dis => ?_)
    (repeat' (first|(apply xW;((exact Want.none_ rfl)))|(apply xF zI;exact rfl;exact rfl)|apply zR|apply AWp.Q|apply zH|apply AWp.G|apply AWp.R|apply zK|(apply AWp.T;exact rfl;((exact rfl)))|(apply yA;(iterate 6 exact rfl);(iterate 2 (focus (repeat (first|exact VAs.nil|apply VAs.cons|apply VA.c|exact VCs.nil|exact VC.imm (Imm.v _)))));((exact hin));(focus (repeat ((exact Flat.v _))));((apply yJ));((exact xB _ _)))))
    (((refine zV _ [] (.cons (zN rfl) .nil) ?_ rfl ?_)) <;> (repeat' (first|exact trivial|exact rfl)))
  | true =>
    rw [hL, hi, ← hL] at hin
    refine PF.enter (xJ _) Tryz.func87 rfl (by kernel_rfl) _ _ rfl rfl rfl (fun w0 mu I0 β0 gi dis => ?_)
    (repeat' (first|(apply xW;((exact Want.none_ rfl)))|(apply xF zI;exact rfl;exact rfl)|apply zR|apply AWp.Q|apply zH|apply AWp.G|apply AWp.B|apply AWp.J|(apply AWp.F;exact rfl;((exact rfl)))|(apply yA;(iterate 6 exact rfl);(iterate 2 (focus (repeat (first|exact VAs.nil|apply VAs.cons|apply VA.c|exact VCs.nil|exact VC.imm (Imm.v _)))));((exact hin));(focus (repeat ((exact Flat.v _))));((apply yJ));((exact xB _ _)))))
    refine AWp.U (σ := Nat) (fun k => ⟨[(0, .c (.sl (o.map xE))), (3, .c (int k))], [], 0⟩) (fun k => k ≤ o.length ∧ (o.take k).all okS = true) (fun k => o.length - k) 0 ⟨Nat.zero_le _, rfl⟩ ?_ ?_
    · refine Weak.of [] rfl ?_ ?_ <;> (repeat' (first|exact trivial|exact rfl|apply And.intro))
    · rintro k ⟨hk, hall⟩
      by_cases hlt : k < o.length
      · obtain ⟨c, hc⟩ := xT hlt
        have hc' : (o.map xE)[k]? = some (xE c) := xY hc
        have hlt' : (k : Int) < ((o.map xE).length : Int) := by omega
        have hg := okS2_pf c
        cases hok : okS c with
        | false =>
          rw [hok] at hg
          have e : outOk o = false := by rw [outOk, vK hc hok, Bool.and_false]
          rw [e]
          (repeat' (first|(apply xW;((exact Want.none_ rfl)))|(apply xF zI;exact rfl;exact rfl)|(((apply yN;exact rfl;exact rfl))<;>(first|exact zI|exact Nat.zero_add _|exact rfl|refine yG ?_|assumption))|apply zR|apply AWp.Q|apply zH|apply AWp.G|apply AWp.B|apply AWp.J|apply AWp.R|apply zK|apply zL|(apply AWp.T;exact rfl;(first|exact dT ‹_›|exact rfl))|(apply yA;(iterate 6 exact rfl);(iterate 2 (focus (repeat (first|exact VAs.nil|apply VAs.cons|apply VA.c|exact VCs.nil|exact VC.imm (Imm.v _)))));((exact hg));(focus (repeat ((exact Flat.v _))));((apply yJ));((exact xB _ _)))))
          (((refine zV _ [] (.cons (zN rfl) .nil) ?_ rfl ?_)) <;> (repeat' (first|exact trivial|exact rfl)))
        | true =>
          rw [hok] at hg
          have hall' : (o.take (k + 1)).all okS = true := by rw [x5 hc, hall, hok]; rfl
          (repeat' (first|(apply xW;((exact Want.none_ rfl)))|(apply xF zI;exact rfl;exact rfl)|((first|apply zZ|(apply yN;exact rfl;exact rfl))<;>(first|exact zI|exact Nat.zero_add _|exact rfl|refine yG ?_|assumption|omega))|apply zR|apply AWp.Q|apply zH|apply AWp.G|apply AWp.B|apply AWp.J|apply zJ|(apply AWp.T;exact rfl;((exact dT ‹_›)))|(apply AWp.F;exact rfl;((exact rfl)))|(apply yA;(iterate 6 exact rfl);(iterate 2 (focus (repeat (first|exact VAs.nil|apply VAs.cons|apply VA.c|exact VCs.nil|exact VC.imm (Imm.v _)))));((exact hg));(focus (repeat ((exact Flat.v _))));((apply yJ));((exact xB _ _)))))
          refine ⟨k + 1, ⟨by omega, hall'⟩, by omega, ?_⟩
          refine Weak.of [] rfl ?_ ?_ <;> (repeat' (first|exact trivial|exact rfl|apply And.intro))
      · have hlt' : ¬ (k : Int) < ((o.map xE).length : Int) := by omega
        obtain rfl : k = o.length := by omega
        rw [List.take_of_length_le (Nat.le_refl _)] at hall
        rw [outOk, hi, hall]
        (repeat' (first|(apply xW;((exact Want.none_ rfl)))|(apply xF zI;exact rfl;exact rfl)|apply zR|apply AWp.Q|apply zH|apply AWp.G|apply AWp.X|apply AWp.R|apply zQ|apply zO|(apply AWp.F;exact rfl;((exact dF ‹_›)))))
        (((refine zV _ [] (.cons (zN rfl) .nil) ?_ rfl ?_)) <;> (repeat' (first|exact trivial|exact rfl)))
section
variable (t : List Int) (g : Nat) (p : Int → Bool)
theorem indexI_pf (caps : List Cell) (hl : t.length ≤ 4000000) (him : ∀ c ∈ caps, Imm c) (hg : ∀ c ∈ t, PF Tryz.prog g (.c (int c) :: caps.map AVal.c) [] (.c (boo (p c)))) :
    PF Tryz.prog 172 [.c (.sl (t.map xE)), .c (.fn g caps)] [] (.c (int (if t.any p then ((t.findIdx p : Nat) : Int) else -1))) := by
  refine PF.enter (xG _ _) Tryz.func172 rfl (by kernel_rfl) _ _ rfl rfl rfl (fun w0 mu I0 β0 gi dis => ?_)
  have hL : (t.map xE).length = t.length := List.length_map _
  (repeat (first|(apply xW;((exact Want.none_ rfl)))|(apply xF zI;exact rfl;exact rfl)|apply zR|apply AWp.Q|apply zH|apply AWp.G|apply AWp.B))
  refine AWp.U (σ := Nat) (fun k => ⟨[(0, .c (.sl (t.map xE))), (1, .c (.fn g caps)), (7, .c (int t.length)), (8, .c (int k))], [], 0⟩) (fun k => k ≤ t.length ∧ (t.take k).any p = false) (fun k => t.length - k) 0 ⟨Nat.zero_le _, rfl⟩ ?_ ?_
  · refine Weak.of [] rfl ?_ ?_ <;> (repeat' (first|exact trivial|exact rfl|exact oRi ‹_›|apply And.intro|(apply cgI;(omega))))
  · rintro k ⟨hk, hall⟩
    by_cases hlt : k < t.length
    · obtain ⟨c, hc⟩ := xT hlt
      have hc' : (t.map xE)[k]? = some (xE c) := xY hc
      have hlt' : (k : Int) < (t.length : Int) := by omega
      have hg' := hg c (List.mem_of_getElem? hc)
      (repeat' (first|(apply xW;((exact Want.none_ rfl)))|(apply xF zI;exact rfl;exact rfl)|((first|apply zZ|(apply yN;exact rfl;exact rfl))<;>(first|exact zI|exact Nat.zero_add _|exact rfl|refine yG ?_|assumption|omega))|apply zR|apply AWp.Q|apply zH|apply AWp.G|apply AWp.B|apply AWp.J|apply AWp.R|apply zK|apply zJ|apply zL|(apply AWp.T;exact rfl;((exact dT ‹_›)))|(apply (wU []);(iterate 5 exact rfl);(iterate 2 (focus (repeat (first|exact VAs.nil|apply VAs.cons|apply VA.c|(apply VCs.same;assumption)|exact VC.imm (Imm.v _)))));((exact hg'));(focus (repeat ((exact Flat.v _))));((apply yJ));((exact xB _ _)))|(((refine AWp.O _ rfl ?_ ?_))<;>intro hp<;>try (exfalso;omega))))
      · (((refine zV _ [] (.cons (zN rfl) .nil) ?_ rfl ?_)) <;> (repeat' (first|exact trivial|refine vwI ?_)))
        rw [any_at hc (by assumption), if_pos rfl, findIdx_first hc (by assumption) hall]
      · refine ⟨k + 1, ⟨by omega, by rw [wK hc, hall]; simp [*]⟩, by omega, ?_⟩
        refine Weak.of [] rfl ?_ ?_ <;> (repeat' (first|exact trivial|exact rfl|exact oRi ‹_›|apply And.intro))
    · have hlt' : ¬ (k : Int) < (t.length : Int) := by omega
      (repeat (first|(apply xW;((exact Want.none_ rfl)))|(apply xF zI;exact rfl;exact rfl)|apply zR|apply AWp.Q|apply zH|apply AWp.G|apply AWp.X|apply AWp.R|apply zQ|apply zO|(apply AWp.F;exact rfl;((exact dF ‹_›)))))
      (((refine zV _ [] (.cons (zN rfl) .nil) ?_ rfl ?_)) <;> (repeat' (first|exact trivial|refine vwI ?_)))
      rw [take_all hk hlt] at hall
      simp [hall]
theorem containsI_pf (caps : List Cell) (hl : t.length ≤ 4000000) (him : ∀ c ∈ caps, Imm c) (hg : ∀ c ∈ t, PF Tryz.prog g (.c (int c) :: caps.map AVal.c) [] (.c (boo (p c)))) :
    PF Tryz.prog 142 [.c (.sl (t.map xE)), .c (.fn g caps)] [] (.c (boo (t.any p))) := by
  refine PF.enter (xG _ _) Tryz.func142 rfl (by kernel_rfl) _ _ rfl rfl rfl (fun w0 mu I0 β0 gi dis => ?_)
  (repeat' (first|(apply xW;((exact Want.none_ rfl)))|(apply xF zI;exact rfl;exact rfl)|apply zR|apply AWp.Q|apply zH|apply AWp.G|apply AWp.R|(apply (wU []);(iterate 5 exact rfl);(iterate 2 (focus (repeat (first|exact VAs.nil|apply VAs.cons|apply VA.c|exact VCs.nil|(apply VCs.same;assumption)|exact VC.imm (Imm.sl _)|apply VC.fn))));((exact indexI_pf t g p caps hl him hg));(focus (repeat ((exact Flat.v _))));((apply yJ));((exact xB _ _)))))
  (((refine zV _ [] (.cons (zN rfl) .nil) ?_ rfl ?_)) <;> (repeat' (first|exact trivial|refine vwB ?_)))
  cases h : t.any p <;> simp
theorem allNotI_pf (c : Int) (b : Bool) (hg : PF Tryz.prog g [.c (int c)] [] (.c (boo b))) :
    PF Tryz.prog 143 [.c (int c), .c (.ip [.fn g []])] [] (.c (boo (!b))) := by
  refine PF.enter (xG _ _) Tryz.func143 rfl (by kernel_rfl) _ _ rfl rfl rfl (fun w0 mu I0 β0 gi dis => ?_)
  (repeat' (first|(apply xW;((exact Want.none_ rfl)))|(apply xF zI;exact rfl;exact rfl)|apply zR|apply AWp.Q|apply zH|apply AWp.G|apply AWp.R|(apply yA;(iterate 6 exact rfl);(iterate 2 (focus (repeat (first|exact VAs.nil|apply VAs.cons|apply VA.c|exact VCs.nil|exact VC.imm (Imm.v _)))));((exact hg));(focus (repeat ((exact Flat.v _))));((apply yJ));((exact xB _ _)))))
  (((refine zV _ [] (.cons (zN rfl) .nil) ?_ rfl ?_)) <;> (repeat' (first|exact trivial|exact rfl)))
theorem allI_pf (hl : t.length ≤ 4000000) (hg : ∀ c ∈ t, PF Tryz.prog g [.c (int c)] [] (.c (boo (p c)))) :
    PF Tryz.prog 107 [.c (.sl (t.map xE)), .c (.fn g [])] [] (.c (boo (t.all p))) := by
  refine PF.enter (xG _ _) Tryz.func107 rfl (by kernel_rfl) _ _ rfl rfl rfl (fun w0 mu I0 β0 gi dis => ?_)
  (repeat' (first|(apply xW;((exact Want.none_ rfl)))|(apply xF zI;exact rfl;exact rfl)|(((apply rx_makeFunc))<;>(first|exact rfl|refine yG ?_))|apply zR|apply AWp.Q|apply zH|apply AWp.G|apply AWp.R|(apply (wU [0]);(iterate 5 exact rfl);(iterate 2 (focus (repeat (first|exact VAs.nil|apply VAs.cons|apply VA.c|exact VCs.nil|apply VCs.cons|exact VC.imm (Imm.sl _)|apply VC.fn|(apply VC.ptr;(focus (simp;done));exact rfl;exact rfl;exact rfl;(repeat (first|exact wX|exact zC _|refine x9 ?_ ?_)))))));((exact containsI_pf t _ (fun c => !p c) [.ip [.fn g []]] hl (by (repeat (first|exact wX|exact Imm.ip _|refine x9 ?_ ?_))) (fun c hc => allNotI_pf g c (p c) (hg c hc))));(focus (repeat ((exact Flat.v _))));((apply yJ));((exact xB _ _)))))
  (((refine zV _ [] (.cons (zN rfl) .nil) ?_ rfl ?_)) <;> (repeat' (first|exact trivial|refine vwB ?_)))
  rw [List.all_eq_not_any_not]
end
theorem implOut_pf (o : List Int) (ho : o.length ≤ 4000000) : PF Tryz.prog 91 [.c (.sl (o.map xE))] [] (.c (boo (outOk o))) := by
  have hL : (o.map xE).length = o.length := List.length_map _
  have hin := jA ((o.map xE).length : Nat) 1 6
  have ha := allI_pf o 52 okS ho (fun c _ => okSI_pf c)
  cases hi : inZ o.length 1 6 with
  | false =>
    rw [hL, hi, ← hL] at hin
    rw [outOk, hi]
    refine PF.enter (xJ _) Tryz.func91 rfl (by kernel_rfl) _ _ rfl rfl rfl (fun w0 mu I0 β0 gi dis => ?_)
    (repeat' (first|(apply xW;((exact Want.none_ rfl)))|(apply xF zI;exact rfl;exact rfl)|(apply yR;exact rfl;exact rfl;((exact rfl));exact rfl;exact rfl)|(apply yS;(iterate 5 exact rfl);((exact rfl)))|apply zR|apply AWp.Q|apply zH|apply AWp.G|apply AWp.R|(apply yA;(iterate 6 exact rfl);(iterate 2 (focus (repeat (first|exact VAs.nil|apply VAs.cons|apply VA.c|exact VCs.nil|exact VC.imm (Imm.v _)))));((exact hin));(focus (repeat ((exact Flat.v _))));((apply yJ));((exact xB _ _)))))
    (((refine zV _ [] (.cons (zN rfl) .nil) ?_ rfl ?_)) <;> (repeat' (first|exact trivial|exact rfl)))
  | true =>
    rw [hL, hi, ← hL] at hin
    rw [outOk, hi]
    refine PF.enter (xJ _) Tryz.func91 rfl (by kernel_rfl) _ _ rfl rfl rfl (fun w0 mu I0 β0 gi dis => ?_)
    (repeat' (first|(apply xW;(first|exact Want.none_ rfl|(refine zX rfl rfl rfl rfl ?_;((exact rfl)))))|(apply xF zI;exact rfl;exact rfl)|(apply yR;exact rfl;exact rfl;((exact rfl));exact rfl;exact rfl)|apply zR|apply AWp.Q|apply zH|apply AWp.G|apply AWp.R|(apply yA;(iterate 6 exact rfl);(iterate 2 (focus (repeat (first|exact VAs.nil|apply VAs.cons|apply VA.c|exact VCs.nil|exact VC.imm (Imm.v _)|exact VC.imm (Imm.sl _)|apply VC.fn))));(first|exact hin|exact ha);(focus (repeat ((exact Flat.v _))));((apply yJ));((exact xB _ _)))))
    (((refine zV _ [] (.cons (zN rfl) .nil) ?_ rfl ?_)) <;> (repeat' (first|exact trivial|exact rfl)))
def sgnI (x y : Int) : Int := if x < y then -1 else if y < x then 1 else 0
theorem isNaNI_pf (x : Int) : PF Tryz.prog 133 [.c (int x)] [] (.c (boo false)) := by
  refine PF.enter (xJ _) Tryz.func133 rfl (by kernel_rfl) _ _ rfl rfl rfl (fun w0 mu I0 β0 gi dis => ?_)
  (repeat' (first|(apply xW;((exact Want.none_ rfl)))|(apply xF zI;exact rfl;exact rfl)|apply zR|apply AWp.Q|apply zH|apply AWp.G|apply AWp.R))
  (((refine zV _ [] (.cons (zN rfl) .nil) ?_ rfl ?_)) <;> (repeat' (first|exact trivial|refine vwB ?_)))
  simp
theorem cmpII_pf (x y : Int) : PF Tryz.prog 93 [.c (int x), .c (int y)] [] (.c (int (sgnI x y))) := by
  refine PF.enter (xG _ _) Tryz.func93 rfl (by kernel_rfl) _ _ rfl rfl rfl (fun w0 mu I0 β0 gi dis => ?_)
  (repeat' (first|(apply xW;((exact Want.none_ rfl)))|(apply xF zI;exact rfl;exact rfl)|apply zR|apply AWp.Q|apply zH|apply AWp.G|apply AWp.J|apply AWp.R|apply zK|(apply AWp.F;exact rfl;((exact rfl)))|(apply yA;(iterate 6 exact rfl);(iterate 2 (focus (repeat (first|exact VAs.nil|apply VAs.cons|apply VA.c|exact VCs.nil|exact VC.imm (Imm.v _)))));(first|exact isNaNI_pf x|exact isNaNI_pf y);(focus (repeat ((exact Flat.v _))));((apply yJ));((exact xB _ _)))|(((refine AWp.C rfl ?_ ?_))<;>intro hp<;>try (exfalso;omega))))
  all_goals
    rw [sgnI]
    first | rw [if_pos (by assumption)] | rw [if_neg (by assumption), if_pos (by assumption)] | rw [if_neg (by assumption), if_neg (by assumption)]
    (((refine zV _ [] (.cons (zN rfl) .nil) ?_ rfl ?_)) <;> (repeat' (first|exact trivial|exact rfl)))
theorem sliceCmp_pf (a b : List Int) (ha : a.length ≤ 4000000) (hb : b.length ≤ 4000000) : PF Tryz.prog 63 [.c (.sl (a.map xE)), .c (.sl (b.map xE))] [] (.c (int (wP a b))) := by
  have hLa : (a.map xE).length = a.length := List.length_map _
  have hLb : (b.map xE).length = b.length := List.length_map _
  refine PF.enter (xG _ _) Tryz.func63 rfl (by kernel_rfl) _ _ rfl rfl rfl (fun w0 mu I0 β0 gi dis => ?_)
  (repeat' (first|(apply xW;((exact Want.none_ rfl)))|(apply xF zI;exact rfl;exact rfl)|apply zR|apply AWp.Q|apply zH|apply AWp.G|apply AWp.B))
  refine AWp.U (σ := Nat) (fun k => ⟨[(0, .c (.sl (a.map xE))), (1, .c (.sl (b.map xE))), (9, .c (.sl (a.map xE))), (10, .c (int a.length)), (11, .c (int k))], [], 0⟩) (fun k => k ≤ a.length ∧ k ≤ b.length ∧ wP a b = wP (a.drop k) (b.drop k)) (fun k => a.length - k) 0 ⟨Nat.zero_le _, Nat.zero_le _, rfl⟩ ?_ ?_
  · refine Weak.of [] rfl ?_ ?_ <;> (repeat' (first|exact trivial|exact rfl|apply And.intro|(apply cgI;(omega))))
  · rintro k ⟨hka, hkb, hcm⟩
    by_cases hlt : k < a.length
    · obtain ⟨x, hx⟩ := xT hlt
      have hx' : (a.map xE)[k]? = some (xE x) := xY hx
      have h1 : (k : Int) < (a.length : Int) := by omega
      by_cases hlb : k < b.length
      · obtain ⟨y, hy⟩ := xT hlb
        have hy' : (b.map xE)[k]? = some (xE y) := xY hy
        have h2 : ¬ ((b.map xE).length : Int) ≤ (k : Int) := by omega
        have hc := cmpII_pf x y
        rw [kT hx, kT hy, wP] at hcm
        rw [sgnI] at hc
        by_cases hxy : x < y
        · rw [if_pos hxy] at hcm hc
          rw [hcm]
          (repeat' (first|(apply xW;((exact Want.none_ rfl)))|(apply xF zI;exact rfl;exact rfl)|(((apply yN;exact rfl;exact rfl))<;>(first|exact zI|exact Nat.zero_add _|exact rfl|refine yG ?_|assumption))|apply zR|apply AWp.Q|apply zH|apply AWp.G|apply AWp.B|apply AWp.J|apply AWp.R|apply zK|apply zL|(apply AWp.T;exact rfl;(first|exact dT ‹_›|exact rfl))|(apply AWp.F;exact rfl;((exact dF ‹_›)))|(apply yA;(iterate 6 exact rfl);(iterate 2 (focus (repeat (first|exact VAs.nil|apply VAs.cons|apply VA.c|exact VCs.nil|exact VC.imm (Imm.v _)))));((exact hc));(focus (repeat ((exact Flat.v _))));((apply yJ));((exact xB _ _)))))
          (((refine zV _ [] (.cons (zN rfl) .nil) ?_ rfl ?_)) <;> (repeat' (first|exact trivial|exact rfl)))
        · by_cases hyx : y < x
          · rw [if_neg hxy, if_pos hyx] at hcm hc
            rw [hcm]
            (repeat' (first|(apply xW;((exact Want.none_ rfl)))|(apply xF zI;exact rfl;exact rfl)|(((apply yN;exact rfl;exact rfl))<;>(first|exact zI|exact Nat.zero_add _|exact rfl|refine yG ?_|assumption))|apply zR|apply AWp.Q|apply zH|apply AWp.G|apply AWp.B|apply AWp.J|apply AWp.R|apply zK|apply zL|(apply AWp.T;exact rfl;(first|exact dT ‹_›|exact rfl))|(apply AWp.F;exact rfl;((exact dF ‹_›)))|(apply yA;(iterate 6 exact rfl);(iterate 2 (focus (repeat (first|exact VAs.nil|apply VAs.cons|apply VA.c|exact VCs.nil|exact VC.imm (Imm.v _)))));((exact hc));(focus (repeat ((exact Flat.v _))));((apply yJ));((exact xB _ _)))))
            (((refine zV _ [] (.cons (zN rfl) .nil) ?_ rfl ?_)) <;> (repeat' (first|exact trivial|exact rfl)))
          · rw [if_neg hxy, if_neg hyx] at hcm hc
            (repeat' (first|(apply xW;((exact Want.none_ rfl)))|(apply xF zI;exact rfl;exact rfl)|((first|apply zZ|(apply yN;exact rfl;exact rfl))<;>(first|exact zI|exact Nat.zero_add _|exact rfl|refine yG ?_|assumption|omega))|apply zR|apply AWp.Q|apply zH|apply AWp.G|apply AWp.B|apply AWp.J|apply zJ|(apply AWp.T;exact rfl;((exact dT ‹_›)))|(apply AWp.F;exact rfl;(first|exact dF ‹_›|exact rfl))|(apply yA;(iterate 6 exact rfl);(iterate 2 (focus (repeat (first|exact VAs.nil|apply VAs.cons|apply VA.c|exact VCs.nil|exact VC.imm (Imm.v _)))));((exact hc));(focus (repeat ((exact Flat.v _))));((apply yJ));((exact xB _ _)))))
            refine ⟨k + 1, ⟨by omega, by omega, hcm⟩, by omega, ?_⟩
            refine Weak.of [] rfl ?_ ?_ <;> (repeat' (first|exact trivial|exact rfl|apply And.intro))
      · have h2 : ((b.map xE).length : Int) ≤ (k : Int) := by omega
        rw [kT hx, show b.drop k = [] from List.drop_of_length_le (by omega), wP] at hcm
        rw [hcm]
        (repeat' (first|(apply xW;((exact Want.none_ rfl)))|(apply xF zI;exact rfl;exact rfl)|(((apply yN;exact rfl;exact rfl))<;>(first|exact zI|exact Nat.zero_add _|exact rfl|refine yG ?_|assumption))|apply zR|apply AWp.Q|apply zH|apply AWp.G|apply AWp.B|apply AWp.J|apply AWp.R|apply zK|apply zL|(apply AWp.T;exact rfl;((exact dT ‹_›)))))
        (((refine zV _ [] (.cons (zN rfl) .nil) ?_ rfl ?_)) <;> (repeat' (first|exact trivial|exact rfl)))
    · obtain rfl : k = a.length := by omega
      have h1 : ¬ ((a.length : Nat) : Int) < (a.length : Int) := by omega
      rw [List.drop_of_length_le (Nat.le_refl _)] at hcm
      rcases Nat.lt_or_ge a.length b.length with hlb | hlb
      · have h3 : ((a.map xE).length : Int) < ((b.map xE).length : Int) := by omega
        obtain ⟨y, hy⟩ := xT hlb
        rw [kT hy, wP] at hcm
        rw [hcm]
        (repeat' (first|(apply xW;((exact Want.none_ rfl)))|(apply xF zI;exact rfl;exact rfl)|apply zR|apply AWp.Q|apply zH|apply AWp.G|apply AWp.X|apply AWp.R|apply zQ|apply zK|apply zO|(apply AWp.T;exact rfl;((exact dT ‹_›)))|(apply AWp.F;exact rfl;((exact dF ‹_›)))))
        (((refine zV _ [] (.cons (zN rfl) .nil) ?_ rfl ?_)) <;> (repeat' (first|exact trivial|exact rfl)))
      · have h3 : ¬ ((a.map xE).length : Int) < ((b.map xE).length : Int) := by omega
        rw [List.drop_of_length_le hlb, wP] at hcm
        rw [hcm]
        (repeat' (first|(apply xW;((exact Want.none_ rfl)))|(apply xF zI;exact rfl;exact rfl)|apply zR|apply AWp.Q|apply zH|apply AWp.G|apply AWp.J|apply AWp.X|apply AWp.R|apply zQ|apply zO|(apply AWp.F;exact rfl;((exact dF ‹_›)))))
        (((refine zV _ [] (.cons (zN rfl) .nil) ?_ rfl ?_)) <;> (repeat' (first|exact trivial|exact rfl)))
theorem eqTake {a b : List Int} (h : a.length = b.length) {k : Nat} (h1 : k = a.length) (h2 : a.take k = b.take k) : a = b := by
  subst h1
  rwa [List.take_of_length_le (Nat.le_refl _), List.take_of_length_le (by omega)] at h2
theorem neAt {a b : List Int} {k : Nat} {x y : Int} (hx : a[k]? = some x) (hy : b[k]? = some y) (h : ¬ x = y) : decide (a = b) = false := by
  rw [decide_eq_false_iff_not]; rintro rfl; rw [hx] at hy; exact h (Option.some.inj hy)
theorem neLen {a b : List Int} (h : ¬ a.length = b.length) : decide (a = b) = false := by
  rw [decide_eq_false_iff_not]; rintro rfl; exact h rfl
theorem sliceEq_pf (a b : List Int) (ha : a.length ≤ 4000000) (hb : b.length ≤ 4000000) : PF Tryz.prog 168 [.c (.sl (a.map xE)), .c (.sl (b.map xE))] [] (.c (boo (decide (a = b)))) := by
  have hLa : (a.map xE).length = a.length := List.length_map _
  have hLb : (b.map xE).length = b.length := List.length_map _
  by_cases hl : a.length = b.length
  · have hl' : ((a.map xE).length : Int) = ((b.map xE).length : Int) := by omega
    refine PF.enter (xG _ _) Tryz.func168 rfl (by kernel_rfl) _ _ rfl rfl rfl (fun w0 mu I0 β0 gi dis => ?_)
    (repeat' (first|(apply xW;((exact Want.none_ rfl)))|(apply xF zI;exact rfl;exact rfl)|apply zR|apply AWp.Q|apply zH|apply AWp.G|apply AWp.B|apply AWp.J|(((refine AWp.C rfl ?_ ?_))<;>intro hp<;>try (exfalso;omega))))
    refine AWp.U (σ := Nat) (fun k => ⟨[(0, .c (.sl (a.map xE))), (1, .c (.sl (b.map xE))), (12, .c (int a.length)), (13, .c (int k))], [], 0⟩) (fun k => k ≤ a.length ∧ a.take k = b.take k) (fun k => a.length - k) 0 ⟨Nat.zero_le _, rfl⟩ ?_ ?_
    · refine Weak.of [] rfl ?_ ?_ <;> (repeat' (first|exact trivial|exact rfl|apply And.intro|(apply cgI;(omega))))
    · rintro k ⟨hk, hall⟩
      by_cases hlt : k < a.length
      · obtain ⟨x, hx⟩ := xT hlt
        obtain ⟨y, hy⟩ := xT (show k < b.length by omega)
        have hx' : (a.map xE)[k]? = some (xE x) := xY hx
        have hy' : (b.map xE)[k]? = some (xE y) := xY hy
        have h1 : (k : Int) < (a.length : Int) := by omega
        by_cases hxy : x = y
        · subst hxy
          (repeat' (first|(apply xW;((exact Want.none_ rfl)))|(apply xF zI;exact rfl;exact rfl)|((first|apply zZ|(apply yN;exact rfl;exact rfl))<;>(first|exact zI|exact Nat.zero_add _|exact rfl|refine yG ?_|assumption|omega))|apply zR|(refine yT ?_ ?_;kernel_rfl)|apply AWp.Q|apply zH|apply AWp.G|apply AWp.B|apply AWp.J|apply zJ|(refine AWp.D ?_ ?_;kernel_rfl)|(apply AWp.T;exact rfl;((exact dT ‹_›)))|(((refine AWp.C rfl ?_ ?_))<;>intro hp<;>try (exfalso;omega))))
          all_goals first | (exfalso; simp_all; done) | skip
          refine ⟨k + 1, ⟨by omega, by rw [List.take_add_one, List.take_add_one, hx, hy, hall]⟩, by omega, ?_⟩
          refine Weak.of [] rfl ?_ ?_ <;> (repeat' (first|exact trivial|exact rfl|apply And.intro))
        · rw [neAt hx hy hxy]
          (repeat' (first|(apply xW;((exact Want.none_ rfl)))|(apply xF zI;exact rfl;exact rfl)|(((apply yN;exact rfl;exact rfl))<;>(first|exact zI|exact Nat.zero_add _|exact rfl|refine yG ?_|assumption))|apply zR|(refine yT ?_ ?_;kernel_rfl)|apply AWp.Q|apply zH|apply AWp.G|apply AWp.B|apply AWp.J|apply AWp.R|apply zK|apply zL|(refine AWp.D ?_ ?_;kernel_rfl)|(apply AWp.T;exact rfl;((exact dT ‹_›)))))
          (((refine zV _ [] (.cons (zN rfl) .nil) ?_ rfl ?_)) <;> (repeat' (first|exact trivial|exact rfl)))
      · have h1 : ¬ (k : Int) < (a.length : Int) := by omega
        obtain rfl := eqTake hl (by omega) hall
        (repeat' (first|(apply xW;((exact Want.none_ rfl)))|(apply xF zI;exact rfl;exact rfl)|apply zR|apply AWp.Q|apply zH|apply AWp.G|apply AWp.X|apply AWp.R|apply zQ|apply zO|(apply AWp.F;exact rfl;((exact dF ‹_›)))))
        (((refine zV _ [] (.cons (zN rfl) .nil) ?_ rfl ?_)) <;> (repeat' (first|exact trivial|refine vwB ?_)))
        simp
  · have hl' : ¬ ((a.map xE).length : Int) = ((b.map xE).length : Int) := by omega
    rw [neLen hl]
    refine PF.enter (xG _ _) Tryz.func168 rfl (by kernel_rfl) _ _ rfl rfl rfl (fun w0 mu I0 β0 gi dis => ?_)
    (repeat' (first|(apply xW;((exact Want.none_ rfl)))|(apply xF zI;exact rfl;exact rfl)|apply zR|apply AWp.Q|apply zH|apply AWp.G|apply AWp.R|apply zK|(apply AWp.T;exact rfl;((exact dT ‹_›)))))
    (((refine zV _ [] (.cons (zN rfl) .nil) ?_ rfl ?_)) <;> (repeat' (first|exact trivial|exact rfl)))
theorem l1Same_pf (a b : List Int) (ha : a.length ≤ 4000000) (hb : b.length ≤ 4000000) : PF Tryz.prog 165 [.c (.sl (a.map xE)), .c (.sl (b.map xE))] [] (.c (boo (decide (a = b)))) := by
  have hLa : (a.map xE).length = a.length := List.length_map _
  have hLb : (b.map xE).length = b.length := List.length_map _
  by_cases hl : a.length = b.length
  · have hl' : ((a.map xE).length : Int) = ((b.map xE).length : Int) := by omega
    refine PF.enter (xG _ _) Tryz.func165 rfl (by kernel_rfl) _ _ rfl rfl rfl (fun w0 mu I0 β0 gi dis => ?_)
    (repeat' (first|(apply xW;((exact Want.none_ rfl)))|(apply xF zI;exact rfl;exact rfl)|apply zR|apply AWp.Q|apply zH|apply AWp.G|apply AWp.B|apply AWp.J|(((refine AWp.C rfl ?_ ?_))<;>intro hp<;>try (exfalso;omega))))
    refine AWp.U (σ := Nat) (fun k => ⟨[(0, .c (.sl (a.map xE))), (1, .c (.sl (b.map xE))), (5, .c (int k))], [], 0⟩) (fun k => k ≤ a.length ∧ a.take k = b.take k) (fun k => a.length - k) 0 ⟨Nat.zero_le _, rfl⟩ ?_ ?_
    · refine Weak.of [] rfl ?_ ?_ <;> (repeat' (first|exact trivial|exact rfl|apply And.intro))
    · rintro k ⟨hk, hall⟩
      by_cases hlt : k < a.length
      · obtain ⟨x, hx⟩ := xT hlt
        obtain ⟨y, hy⟩ := xT (show k < b.length by omega)
        have hx' : (a.map xE)[k]? = some (xE x) := xY hx
        have hy' : (b.map xE)[k]? = some (xE y) := xY hy
        have h1 : (k : Int) < ((a.map xE).length : Int) := by omega
        by_cases hxy : x = y
        · subst hxy
          (repeat' (first|(apply xW;((exact Want.none_ rfl)))|(apply xF zI;exact rfl;exact rfl)|((first|apply zZ|(apply yN;exact rfl;exact rfl))<;>(first|exact zI|exact Nat.zero_add _|exact rfl|refine yG ?_|assumption|omega))|apply zR|(refine yT ?_ ?_;kernel_rfl)|apply AWp.Q|apply zH|apply AWp.G|apply AWp.B|apply AWp.J|apply zJ|(refine AWp.D ?_ ?_;kernel_rfl)|(apply AWp.T;exact rfl;((exact dT ‹_›)))|(((refine AWp.C rfl ?_ ?_))<;>intro hp<;>try (exfalso;omega))))
          all_goals first | (exfalso; simp_all; done) | skip
          refine ⟨k + 1, ⟨by omega, by rw [List.take_add_one, List.take_add_one, hx, hy, hall]⟩, by omega, ?_⟩
          refine Weak.of [] rfl ?_ ?_ <;> (repeat' (first|exact trivial|exact rfl|apply And.intro))
        · rw [neAt hx hy hxy]
          (repeat' (first|(apply xW;((exact Want.none_ rfl)))|(apply xF zI;exact rfl;exact rfl)|(((apply yN;exact rfl;exact rfl))<;>(first|exact zI|exact Nat.zero_add _|exact rfl|refine yG ?_|assumption))|apply zR|(refine yT ?_ ?_;kernel_rfl)|apply AWp.Q|apply zH|apply AWp.G|apply AWp.B|apply AWp.J|apply AWp.R|apply zK|apply zL|(refine AWp.D ?_ ?_;kernel_rfl)|(apply AWp.T;exact rfl;((exact dT ‹_›)))))
          (((refine zV _ [] (.cons (zN rfl) .nil) ?_ rfl ?_)) <;> (repeat' (first|exact trivial|exact rfl)))
      · have h1 : ¬ (k : Int) < ((a.map xE).length : Int) := by omega
        obtain rfl := eqTake hl (by omega) hall
        (repeat' (first|(apply xW;((exact Want.none_ rfl)))|(apply xF zI;exact rfl;exact rfl)|apply zR|apply AWp.Q|apply zH|apply AWp.G|apply AWp.X|apply AWp.R|apply zQ|apply zO|(apply AWp.F;exact rfl;((exact dF ‹_›)))))
        (((refine zV _ [] (.cons (zN rfl) .nil) ?_ rfl ?_)) <;> (repeat' (first|exact trivial|refine vwB ?_)))
        simp
  · have hl' : ¬ ((a.map xE).length : Int) = ((b.map xE).length : Int) := by omega
    rw [neLen hl]
    refine PF.enter (xG _ _) Tryz.func165 rfl (by kernel_rfl) _ _ rfl rfl rfl (fun w0 mu I0 β0 gi dis => ?_)
    (repeat' (first|(apply xW;((exact Want.none_ rfl)))|(apply xF zI;exact rfl;exact rfl)|apply zR|apply AWp.Q|apply zH|apply AWp.G|apply AWp.R|apply zK|(apply AWp.T;exact rfl;((exact dT ‹_›)))))
    (((refine zV _ [] (.cons (zN rfl) .nil) ?_ rfl ?_)) <;> (repeat' (first|exact trivial|exact rfl)))
def qG (es : List Ent) : Prop := es.length ≤ 1048576 ∧ ∀ e ∈ es, e.o.length ≤ 1048576 ∧ e.t.length ≤ 1048576
theorem any_hit {es : List Ent} {o : List Int} {k : Nat} {e : Ent} (he : es[k]? = some e) (ho : e.o = o) (hall : (es.take k).any (isO o) = false) : atE es o = (k : Int) := by
  have h1 : isO o e = true := by rw [isO, decide_eq_true ho]
  rw [atE, hasE, any_at he h1, if_pos rfl, idxE, findIdx_first he h1 hall]
theorem any_none {es : List Ent} {o : List Int} (h : es.any (isO o) = false) : atE es o = -1 := by
  rw [atE, hasE, h]; rfl
theorem l6At_pf (es : List Ent) (o : List Int) (hb : qG es) (ho : o.length ≤ 4000000) : PF Tryz.prog 132 [.agg (wG es), .c (.sl (o.map xE))] [] (.c (int (atE es o))) := by
  have hbl := hb.1
  have hL : (es.map xS).length = es.length := List.length_map _
  refine PF.enter (xG _ _) Tryz.func132 rfl (by kernel_rfl) _ _ rfl rfl rfl (fun w0 mu I0 β0 gi dis => ?_)
  (repeat' (first|(apply xW;((exact Want.none_ rfl)))|(apply xF zI;exact rfl;exact rfl)|apply zR|apply AWp.Q|apply zH|apply AWp.G|apply AWp.B))
  refine AWp.U (σ := Nat) (fun k => ⟨[(1, .c (.sl (o.map xE))), (2, .c (.ptr 0 0 0)), (5, .c (int k))], [(0, some ⟨35, 1, [wG es]⟩)], 1⟩) (fun k => k ≤ es.length ∧ (es.take k).any (isO o) = false) (fun k => es.length - k) 0 ⟨Nat.zero_le _, rfl⟩ ?_ ?_
  · refine Weak.of [(0, some 0)] rfl ?_ ?_ <;> (repeat' (first|exact trivial|exact rfl|apply And.intro|refine ⟨_,rfl,rfl,rfl,OW.one ?_⟩))
  · rintro k ⟨hk, hall⟩
    by_cases hlt : k < es.length
    · obtain ⟨e, he⟩ := xT hlt
      have he' : (es.map xS)[k]? = some (xS e) := xY he
      have hlt' : (k : Int) < ((es.map xS).length : Int) := by omega
      have heb := hb.2 e (List.mem_of_getElem? he)
      have hg := l1Same_pf e.o o (by omega) ho
      by_cases hok : e.o = o
      · rw [decide_eq_true hok] at hg
        rw [any_hit he hok hall]
        (repeat' (first|(apply xW;((exact Want.none_ rfl)))|(apply xF zI;exact rfl;exact rfl)|(((apply yN;exact rfl;exact rfl))<;>(first|exact zI|exact rfl|refine yG ?_|assumption))|apply zR|apply AWp.Q|apply zH|apply AWp.G|apply AWp.B|apply AWp.J|apply AWp.R|apply zK|apply zL|(apply AWp.T;exact rfl;(first|exact dT ‹_›|exact rfl))|(apply yA;(iterate 6 exact rfl);(iterate 2 (focus (repeat (first|exact VAs.nil|apply VAs.cons|apply VA.c|exact VCs.nil|exact VC.imm (Imm.sl _)))));((exact hg));(focus (repeat ((exact Flat.v _))));((apply yJ));((exact xB _ _)))))
        (((refine zV _ [] (.cons (zN rfl) .nil) ?_ rfl ?_)) <;> (repeat' (first|exact trivial|exact rfl)))
      · rw [decide_eq_false hok] at hg
        (repeat' (first|(apply xW;((exact Want.none_ rfl)))|(apply xF zI;exact rfl;exact rfl)|((first|apply zZ|(apply yN;exact rfl;exact rfl))<;>(first|exact zI|exact rfl|refine yG ?_|assumption|omega))|apply zR|apply AWp.Q|apply zH|apply AWp.G|apply AWp.B|apply AWp.J|apply zJ|(apply AWp.T;exact rfl;((exact dT ‹_›)))|(apply AWp.F;exact rfl;((exact rfl)))|(apply yA;(iterate 6 exact rfl);(iterate 2 (focus (repeat (first|exact VAs.nil|apply VAs.cons|apply VA.c|exact VCs.nil|exact VC.imm (Imm.sl _)))));((exact hg));(focus (repeat ((exact Flat.v _))));((apply yJ));((exact xB _ _)))))
        refine ⟨k + 1, ⟨by omega, by rw [wK he, hall, isO, decide_eq_false hok]; rfl⟩, by omega, ?_⟩
        refine Weak.of [(0, some 0)] rfl ?_ ?_ <;> (repeat' (first|exact trivial|exact rfl|apply And.intro|refine ⟨_,rfl,rfl,rfl,OW.one ?_⟩))
    · have hlt' : ¬ (k : Int) < ((es.map xS).length : Int) := by omega
      rw [take_all hk hlt] at hall
      rw [any_none hall]
      (repeat' (first|(apply xW;((exact Want.none_ rfl)))|(apply xF zI;exact rfl;exact rfl)|apply zR|apply AWp.Q|apply zH|apply AWp.G|apply AWp.X|apply AWp.R|apply zQ|apply zO|(apply AWp.F;exact rfl;((exact dF ‹_›)))))
      (((refine zV _ [] (.cons (zN rfl) .nil) ?_ rfl ?_)) <;> (repeat' (first|exact trivial|exact rfl)))
theorem find1_pf (e : Ent) (o : List Int) (he : e.o.length ≤ 4000000) (ho : o.length ≤ 4000000) : PF Tryz.prog 167 [.agg (xS e), .c (.ip [.sl (o.map xE)])] [] (.c (boo (isO o e))) := by
  have h := sliceEq_pf e.o o he ho
  refine PF.enter (xG _ _) Tryz.func167 rfl (by kernel_rfl) _ _ rfl rfl rfl (fun w0 mu I0 β0 gi dis => ?_)
  (repeat' (first|(apply xW;((exact Want.none_ rfl)))|(apply xF zI;exact rfl;exact rfl)|apply zR|apply AWp.Q|apply zH|apply AWp.G|apply AWp.R|(apply yA;(iterate 6 exact rfl);(iterate 2 (focus (repeat (first|exact VAs.nil|apply VAs.cons|apply VA.c|exact VCs.nil|exact VC.imm (Imm.sl _)))));((exact h));(focus (repeat ((exact Flat.v _))));((apply yJ));((exact xB _ _)))))
  (((refine zV _ [] (.cons (zN rfl) .nil) ?_ rfl ?_)) <;> (repeat' (first|exact trivial|exact rfl)))
theorem indexE_pf (es : List Ent) (g : Nat) (p : Ent → Bool) (caps : List Cell) (hl : es.length ≤ 4000000) (him : ∀ c ∈ caps, Imm c) (hg : ∀ c ∈ es, PF Tryz.prog g (.agg (xS c) :: caps.map AVal.c) [] (.c (boo (p c)))) :
    PF Tryz.prog 166 [.c (.sl (es.map xS)), .c (.fn g caps)] [] (.c (int (if es.any p then ((es.findIdx p : Nat) : Int) else -1))) := by
  refine PF.enter (xG _ _) Tryz.func166 rfl (by kernel_rfl) _ _ rfl rfl rfl (fun w0 mu I0 β0 gi dis => ?_)
  have hL : (es.map xS).length = es.length := List.length_map _
  (repeat (first|(apply xW;((exact Want.none_ rfl)))|(apply xF zI;exact rfl;exact rfl)|apply zR|apply AWp.Q|apply zH|apply AWp.G|apply AWp.B))
  refine AWp.U (σ := Nat) (fun k => ⟨[(0, .c (.sl (es.map xS))), (1, .c (.fn g caps)), (7, .c (int es.length)), (8, .c (int k))], [], 0⟩) (fun k => k ≤ es.length ∧ (es.take k).any p = false) (fun k => es.length - k) 0 ⟨Nat.zero_le _, rfl⟩ ?_ ?_
  · refine Weak.of [] rfl ?_ ?_ <;> (repeat' (first|exact trivial|exact rfl|exact oRi ‹_›|apply And.intro|(apply cgI;(omega))))
  · rintro k ⟨hk, hall⟩
    by_cases hlt : k < es.length
    · obtain ⟨c, hc⟩ := xT hlt
      have hc' : (es.map xS)[k]? = some (xS c) := xY hc
      have hlt' : (k : Int) < (es.length : Int) := by omega
      have hg' := hg c (List.mem_of_getElem? hc)
      (repeat' (first|(apply xW;((exact Want.none_ rfl)))|(apply xF zI;exact rfl;exact rfl)|((first|apply zZ|(apply yN;exact rfl;exact rfl))<;>(first|exact zI|exact rfl|refine yG ?_|assumption|omega))|apply zR|apply AWp.Q|apply zH|apply AWp.G|apply AWp.B|apply AWp.J|apply AWp.R|apply zK|apply zJ|apply zL|(apply AWp.T;exact rfl;((exact dT ‹_›)))|(apply (wU []);(iterate 5 exact rfl);(iterate 2 (focus (repeat (first|exact VAs.nil|apply VAs.cons|apply VA.agg|exact VCs.nil|(apply VCs.same;assumption)|apply VCs.cons|exact VC.imm (Imm.v _)|exact VC.imm (Imm.sl _)))));((exact hg'));(focus (repeat ((exact Flat.v _))));((apply yJ));((exact xB _ _)))|(((refine AWp.O _ rfl ?_ ?_))<;>intro hp<;>try (exfalso;omega))))
      · (((refine zV _ [] (.cons (zN rfl) .nil) ?_ rfl ?_)) <;> (repeat' (first|exact trivial|refine vwI ?_)))
        rw [any_at hc (by assumption), if_pos rfl, findIdx_first hc (by assumption) hall]
      · refine ⟨k + 1, ⟨by omega, by rw [wK hc, hall]; simp [*]⟩, by omega, ?_⟩
        refine Weak.of [] rfl ?_ ?_ <;> (repeat' (first|exact trivial|exact rfl|exact oRi ‹_›|apply And.intro))
    · have hlt' : ¬ (k : Int) < (es.length : Int) := by omega
      (repeat (first|(apply xW;((exact Want.none_ rfl)))|(apply xF zI;exact rfl;exact rfl)|apply zR|apply AWp.Q|apply zH|apply AWp.G|apply AWp.X|apply AWp.R|apply zQ|apply zO|(apply AWp.F;exact rfl;((exact dF ‹_›)))))
      (((refine zV _ [] (.cons (zN rfl) .nil) ?_ rfl ?_)) <;> (repeat' (first|exact trivial|refine vwI ?_)))
      rw [take_all hk hlt] at hall
      simp [hall]
theorem find_pf (es : List Ent) (o : List Int) (hb : qG es) (ho : o.length ≤ 4000000) : PF Tryz.prog 135 [.agg (wG es), .c (.sl (o.map xE))] [] (.c (int (atE es o))) := by
  have hbl := hb.1
  refine PF.enter (xG _ _) Tryz.func135 rfl (by kernel_rfl) _ _ rfl rfl rfl (fun w0 mu I0 β0 gi dis => ?_)
  (repeat' (first|(apply xW;((exact Want.none_ rfl)))|(apply xF zI;exact rfl;exact rfl)|(((apply rx_makeFunc))<;>(first|exact rfl|refine yG ?_))|apply zR|apply AWp.Q|apply zH|apply AWp.G|apply AWp.R|(apply (wU [1]);(iterate 5 exact rfl);(iterate 2 (focus (repeat (first|exact VAs.nil|apply VAs.cons|apply VA.c|exact VCs.nil|apply VCs.cons|exact VC.imm (Imm.sl _)|apply VC.fn|(apply VC.ptr;(focus (simp;done));exact rfl;exact rfl;exact rfl;(repeat (first|exact wX|exact Imm.sl _|refine x9 ?_ ?_)))))));((exact indexE_pf es _ (isO o) [.ip [.sl (o.map xE)]] (by omega) (by (repeat (first|exact wX|exact Imm.ip _|refine x9 ?_ ?_))) (fun c hc => find1_pf c o (by have := hb.2 c hc; omega) ho)));(focus (repeat ((exact Flat.v _))));((apply yJ));((exact xB _ _)))))
  (((refine zV _ [] (.cons (zN rfl) .nil) ?_ rfl ?_)) <;> (repeat' (first|exact trivial|exact rfl)))
theorem atE_nat {es : List Ent} {o : List Int} : (hasE es o = true ∧ atE es o = ((idxE es o : Nat) : Int)) ∨ (hasE es o = false ∧ atE es o = -1) := by
  cases h : hasE es o with
  | true => exact .inl ⟨rfl, by rw [atE, h]; rfl⟩
  | false => exact .inr ⟨rfl, by rw [atE, h]; rfl⟩
theorem l6Find_pf (es : List Ent) (o : List Int) (hb : qG es) (ho : o.length ≤ 4000000) : PF Tryz.prog 89 [.agg (wG es), .c (.sl (o.map xE))] [] (.tup [.c (str (txtE es o)), .c (boo (hasE es o))]) := by
  have h := l6At_pf es o hb ho
  rcases atE_nat (es := es) (o := o) with ⟨h1, h2⟩ | ⟨h1, h2⟩
  · obtain ⟨e, he, _, ht⟩ := hasE_at h1
    have he' : (es.map xS)[idxE es o]? = some (xS e) := xY he
    rw [h1, ht]
    rw [h2] at h
    have hn : ¬ ((idxE es o : Nat) : Int) < 0 := by omega
    refine PF.enter (xG _ _) Tryz.func89 rfl (by kernel_rfl) _ _ rfl rfl rfl (fun w0 mu I0 β0 gi dis => ?_)
    (repeat' (first|(apply xW;((exact Want.none_ rfl)))|(apply xF zI;exact rfl;exact rfl)|(((apply yN;exact rfl;exact rfl))<;>(first|exact zI|exact rfl|refine yG ?_|assumption))|apply zR|apply AWp.Q|apply zH|apply AWp.G|apply AWp.J|apply AWp.R|(apply AWp.F;exact rfl;((exact dF ‹_›)))|(apply yA;(iterate 6 exact rfl);(iterate 2 (focus (repeat (first|exact VAs.nil|apply VAs.cons|apply VA.c|apply VA.agg|exact VCs.nil|apply VCs.cons|exact VC.imm (Imm.sl _)))));((exact h));(focus (repeat ((exact Flat.v _))));((apply yJ));((exact xB _ _)))))
    (((refine zV _ [] (.cons (zN rfl) (.cons (zN rfl) .nil)) ?_ rfl ?_)) <;> (repeat' (first|exact trivial|exact rfl|apply And.intro)))
  · rw [h1, hasE_no h1]
    rw [h2] at h
    refine PF.enter (xG _ _) Tryz.func89 rfl (by kernel_rfl) _ _ rfl rfl rfl (fun w0 mu I0 β0 gi dis => ?_)
    (repeat' (first|(apply xW;((exact Want.none_ rfl)))|(apply xF zI;exact rfl;exact rfl)|apply zR|apply AWp.Q|apply zH|apply AWp.G|apply AWp.R|apply zK|(apply AWp.T;exact rfl;((exact rfl)))|(apply yA;(iterate 6 exact rfl);(iterate 2 (focus (repeat (first|exact VAs.nil|apply VAs.cons|apply VA.c|apply VA.agg|exact VCs.nil|apply VCs.cons|exact VC.imm (Imm.sl _)))));((exact h));(focus (repeat ((exact Flat.v _))));((apply yJ));((exact xB _ _)))))
    (((refine zV _ [] (.cons (zN rfl) (.cons (zN rfl) .nil)) ?_ rfl ?_)) <;> (repeat' (first|exact trivial|exact rfl|apply And.intro)))
theorem lookup_pf (es : List Ent) (o : List Int) (hb : qG es) (ho : o.length ≤ 4000000) : PF Tryz.prog 96 [.agg (wG es), .c (.sl (o.map xE))] [] (.tup [.c (str (txtE es o)), .c (boo (hasE es o))]) := by
  have h := find_pf es o hb ho
  rcases atE_nat (es := es) (o := o) with ⟨h1, h2⟩ | ⟨h1, h2⟩
  · obtain ⟨e, he, _, ht⟩ := hasE_at h1
    have he' : (es.map xS)[idxE es o]? = some (xS e) := xY he
    rw [h1, ht]
    rw [h2] at h
    have hn : ¬ ((idxE es o : Nat) : Int) < 0 := by omega
    refine PF.enter (xG _ _) Tryz.func96 rfl (by kernel_rfl) _ _ rfl rfl rfl (fun w0 mu I0 β0 gi dis => ?_)
    (repeat' (first|(apply xW;((exact Want.none_ rfl)))|(apply xF zI;exact rfl;exact rfl)|(((apply yN;exact rfl;exact rfl))<;>(first|exact zI|exact rfl|refine yG ?_|assumption))|apply zR|apply AWp.Q|apply zH|apply AWp.G|apply AWp.J|apply AWp.R|(apply AWp.F;exact rfl;((exact dF ‹_›)))|(apply yA;(iterate 6 exact rfl);(iterate 2 (focus (repeat (first|exact VAs.nil|apply VAs.cons|apply VA.c|apply VA.agg|exact VCs.nil|apply VCs.cons|exact VC.imm (Imm.sl _)))));((exact h));(focus (repeat ((exact Flat.v _))));((apply yJ));((exact xB _ _)))))
    (((refine zV _ [] (.cons (zN rfl) (.cons (zN rfl) .nil)) ?_ rfl ?_)) <;> (repeat' (first|exact trivial|exact rfl|apply And.intro)))
  · rw [h1, hasE_no h1]
    rw [h2] at h
    refine PF.enter (xG _ _) Tryz.func96 rfl (by kernel_rfl) _ _ rfl rfl rfl (fun w0 mu I0 β0 gi dis => ?_)
    (repeat' (first|(apply xW;((exact Want.none_ rfl)))|(apply xF zI;exact rfl;exact rfl)|apply zR|apply AWp.Q|apply zH|apply AWp.G|apply AWp.R|apply zK|(apply AWp.T;exact rfl;((exact rfl)))|(apply yA;(iterate 6 exact rfl);(iterate 2 (focus (repeat (first|exact VAs.nil|apply VAs.cons|apply VA.c|apply VA.agg|exact VCs.nil|apply VCs.cons|exact VC.imm (Imm.sl _)))));((exact h));(focus (repeat ((exact Flat.v _))));((apply yJ));((exact xB _ _)))))
    (((refine zV _ [] (.cons (zN rfl) (.cons (zN rfl) .nil)) ?_ rfl ?_)) <;> (repeat' (first|exact trivial|exact rfl|apply And.intro)))
end Go.Proofs.YtjeffognhcbiaaaGreatDoor
