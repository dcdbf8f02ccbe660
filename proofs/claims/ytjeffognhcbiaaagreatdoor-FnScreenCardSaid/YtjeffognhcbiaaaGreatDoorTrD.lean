/- Translations read by both programs: l5Parse, ParseTranslation, isTranslation. No conditions but bounds of lengths. -/
import Derived.Test.YtjeffognhcbiaaaGreatDoorTrC
import Derived.Test.YtjeffognhcbiaaaGreatDoorSplL
namespace Go.Proofs.YtjeffognhcbiaaaGreatDoor
open Go Go.RowKit
def trR (s : List UInt8) : List Atm := if vY s then trL s else []
theorem trOk_of {s : List UInt8} (h1 : s.length ≤ 60) (h2 : (wds s).all okA = true) : vY s = decide ((wds s).length ≤ 10) := by
  rw [vY, h2, decide_eq_true h1]; rfl
theorem qC {s : List UInt8} (h : vY s = true) : s.length ≤ 60 ∧ (wds s).length ≤ 10 ∧ (wds s).all okA = true := by
  rw [vY, Bool.and_eq_true, Bool.and_eq_true, decide_eq_true_eq, decide_eq_true_eq] at h
  exact ⟨h.1.1, h.2, h.1.2⟩
def trK (s : List UInt8) (k : Nat) : List Atm := ((wds s).take k).map wJ
theorem trK_succ {s w : List UInt8} {k : Nat} (h : (wds s)[k]? = some w) (ho : okA w = true) : trK s (k + 1) = trK s k ++ [resA w] := by
  rw [trK, trK, List.take_add_one, h, List.map_append, resA, if_pos ho]; rfl
theorem trK_all (s : List UInt8) : trK s (wds s).length = trL s := by rw [trK, List.take_of_length_le (Nat.le_refl _)]; rfl
theorem trK_len {s : List UInt8} {k : Nat} (h : k ≤ (wds s).length) : (trK s k).length = k := by simp [trK]; omega
theorem trL_bd {s : List UInt8} (h1 : s.length ≤ 60) (h2 : (wds s).all okA = true) : AtB (trL s) := by
  have hl := kB 32 s
  refine ⟨by rw [trL, List.length_map]; show (spl 32 s).length ≤ 1000; omega, fun a ha => ?_⟩
  obtain ⟨w, hw, rfl⟩ := List.mem_map.1 ha
  have := okA_len (List.all_eq_true.1 h2 w hw)
  omega
theorem l5Parse_pf (s : List UInt8) (hs : s.length ≤ 1048576) : PF Tryz.prog 86 [.c (str s)] [] (.tup [.c (.sl ((trR s).map xL)), .c (boo (vY s))]) := by
  by_cases hbig : 60 < s.length
  · have hb' : (60 : Int) < (s.length : Int) := by omega
    have e : vY s = false := by
      cases h : vY s with
      | false => rfl
      | true => have := qC h; omega
    rw [trR, e, if_neg (by simp)]
    refine PF.enter (xJ _) Tryz.func86 rfl (by kernel_rfl) _ _ rfl rfl rfl (fun w0 mu I0 β0 gi dis => ?_)
    (repeat' (first|(apply xW;((exact Want.none_ rfl)))|(apply xF zI;exact rfl;exact rfl)|(((apply zU))<;>(first|exact zI|exact rfl|refine yG ?_))|apply zR|apply AWp.Q|apply zH|apply AWp.G|(apply AWp.T;exact rfl;((exact dT ‹_›)))))
    refine AWp.frz (obj := ⟨63, 2, []⟩) (n := 0) 2 0 qF rfl rfl rfl (by intro x hx; cases hx) ?_
    apply AWp.R
    repeat (first | apply zK | apply zL)
    (((refine zV _ [] (.cons (zN rfl) (.cons (zN rfl) .nil)) ?_ rfl ?_)) <;> (repeat' (first|exact trivial|exact rfl|apply And.intro)))
  · have hb' : ¬ (60 : Int) < (s.length : Int) := by omega
    have h1 := l1Split_pf s 32 (by omega)
    have hsl := kB 32 s
    have hsm := spl_mem 32 s
    have hsc := x3 (wds s)
    have hLr : ((wds s).map wE).length = (wds s).length := List.length_map _
    have hwn : (wds s).length ≤ s.length + 1 := hsl.2
    refine PF.enter (xJ _) Tryz.func86 rfl (by kernel_rfl) _ _ rfl rfl rfl (fun w0 mu I0 β0 gi dis => ?_)
    (repeat' (first|(apply xW;((exact Want.none_ rfl)))|(apply xF zI;exact rfl;exact rfl)|(((apply zU))<;>(first|exact zI|exact rfl|refine yG ?_))|apply zR|apply AWp.Q|apply zH|apply AWp.G|apply AWp.B|apply AWp.J|(apply AWp.F;exact rfl;((exact dF ‹_›)))|(apply yA;(iterate 6 exact rfl);(iterate 2 (focus (repeat (first|exact VAs.nil|apply VAs.cons|apply VA.c|exact VCs.nil|exact VC.imm (Imm.v _)))));((exact h1));(focus (repeat ((exact Flat.ref _ _ _))));((apply yK;(focus (repeat (first|exact trivial|apply And.intro|((assumption)))))));((exact xA _ _ _ _)))))
    refine AWp.U (σ := Nat) (fun k => ⟨[(4, .c (.ref 0 0 k)), (5, .c (.ref 1 0 (wds s).length)), (6, .c (int k))], [(0, some ⟨63, 2, (trK s k).map xL⟩), (1, some ⟨9, 1, (wds s).map wE⟩)], 2⟩) (fun k => k ≤ (wds s).length ∧ ((wds s).take k).all okA = true) (fun k => (wds s).length - k) 0 ⟨Nat.zero_le _, rfl⟩ ?_ ?_
    · refine Weak.of [(0, some 0), (1, some 1)] rfl ?_ ?_ <;> (repeat' (first|exact trivial|exact rfl|apply And.intro|refine oWs rfl rfl rfl ?_ ?_|(refine aIm ?_;first|exact AllSc.nil|assumption)))
      all_goals exact hsc.imm
    · rintro k ⟨hk, hall⟩
      have hsI := xZ (trK s k)
      have hJk := trK_len hk
      have hLI : ((trK s k).map xL).length = k := by rw [List.length_map, trK_len hk]
      by_cases hlt : k < (wds s).length
      · obtain ⟨w, hw⟩ := xT hlt
        have hw' : ((wds s).map wE)[k]? = some (wE w) := xY hw
        have hlt' : (k : Int) < ((wds s).length : Int) := by omega
        have hwm := hsm w (List.mem_of_getElem? hw)
        have hp := specAtom_pf w (by omega)
        cases ho : okA w with
        | false =>
          rw [ho] at hp
          have e : vY s = false := by rw [vY, vK hw ho]; simp
          rw [trR, e, if_neg (by simp)]
          (repeat' (first|(apply xW;((exact Want.none_ rfl)))|(apply xF zI;exact rfl;exact rfl)|((first|apply yD|(apply z7;exact rfl;exact rfl;exact zI;exact rfl;exact rfl)|apply zU|apply yB|apply yH)<;>(first|exact zI|exact Nat.zero_add _|exact rfl|refine yG ?_|assumption|exact lb rfl))|apply zR|apply AWp.Q|apply zH|apply AWp.G|apply AWp.B|apply AWp.J|(apply AWp.T;exact rfl;(first|exact dT ‹_›|exact rfl))|(apply yA;(iterate 6 exact rfl);(iterate 2 (focus (repeat (first|exact VAs.nil|apply VAs.cons|apply VA.c|exact VCs.nil|exact VC.imm (Imm.v _)))));((exact hp));(focus (repeat (first|exact trivial|exact Flat.v _|apply And.intro)));((apply yJ));((exact rfl)))))
          refine AWp.frz (obj := ⟨63, 2, []⟩) (n := 0) 2 3 qF rfl rfl rfl (by intro x hx; cases hx) ?_
          apply AWp.R
          repeat (first | apply zK | apply zL)
          (((refine zV _ [] (.cons (zN rfl) (.cons (zN rfl) .nil)) ?_ rfl ?_)) <;> (repeat' (first|exact trivial|exact rfl|apply And.intro)))
        | true =>
          rw [ho] at hp
          have hall' : ((wds s).take (k + 1)).all okA = true := by rw [x5 hw, hall, ho]; rfl
          have hnx := trK_succ hw ho
          generalize trK s k = J at hsI hLI hnx hJk
          (repeat' (first|(apply xW;((exact Want.none_ rfl)))|(apply xF zI;exact rfl;exact rfl)|((first|apply zZ|apply yD|(apply z7;exact rfl;exact rfl;exact zI;exact rfl;exact rfl)|apply zU|apply yB|(apply yZ;exact rfl;exact rfl)|apply yH)<;>(first|exact zI|exact Nat.zero_add _|exact rfl|refine yG ?_|assumption|omega|exact lb rfl|(refine Bd.mk ?_;(simp;omega))))|apply zR|apply AWp.Q|apply zH|apply AWp.G|apply AWp.B|apply AWp.J|apply zJ|(apply AWp.T;exact rfl;((exact dT ‹_›)))|(apply AWp.F;exact rfl;((exact rfl)))|(apply yA;(iterate 6 exact rfl);(iterate 2 (focus (repeat (first|exact VAs.nil|apply VAs.cons|apply VA.c|exact VCs.nil|exact VC.imm (Imm.v _)))));((exact hp));(focus (repeat (first|exact trivial|exact Flat.v _|apply And.intro)));((apply yJ));((exact rfl)))))
          refine ⟨k + 1, ⟨by omega, hall'⟩, by omega, ?_⟩
          rw [hnx, wI]
          refine Weak.of [(0, some 4), (1, some 1)] rfl ?_ ?_ <;> (repeat' (first|exact trivial|exact rfl|apply And.intro|refine oWs rfl rfl rfl ?_ ?_|(refine aIm ?_;(assumption))))
          all_goals first | exact hsc.imm | (rw [← wI]; exact (xZ _).imm) | (rw [hLI]; rfl) | skip
      · have hlt' : ¬ (k : Int) < ((wds s).length : Int) := by omega
        obtain rfl : k = (wds s).length := by omega
        rw [List.take_of_length_le (Nat.le_refl _)] at hall
        rw [trK_all] at hsI hLI hJk ⊢
        have hb := trL_bd (by omega) hall
        have hli := l5List_pf (trL s) hb
        rw [list_tr (by omega) hall, ← trOk_of (by omega) hall] at hli
        rw [trR]
        cases ht : vY s with
        | false =>
          rw [ht] at hli
          rw [if_neg (by simp)]
          (repeat' (first|(apply xW;((exact Want.none_ rfl)))|(apply xF zI;exact rfl;exact rfl)|(((apply zU))<;>(first|exact zI|exact rfl|refine yG ?_))|apply zR|apply AWp.Q|apply zH|apply AWp.G|apply AWp.X|apply zQ|apply zO|(apply AWp.T;exact rfl;((exact rfl)))|(apply AWp.F;exact rfl;((exact dF ‹_›)))|(apply yA;(iterate 6 exact rfl);(iterate 2 (focus (repeat (first|exact VAs.nil|apply VAs.cons|apply VA.c|exact VCs.nil|(apply zA;exact rfl;exact rfl;((focus (simp only [lA,lB,lC,lD,lE];omega)));exact rfl;((refine aIm ?_;assumption)))))));((exact hli));(focus (repeat ((exact Flat.v _))));((apply yJ));((exact xB _ _)))))
          refine AWp.frz (obj := ⟨63, 2, []⟩) (n := 0) 2 2 qF rfl rfl rfl (by intro x hx; cases hx) ?_
          apply AWp.R
          repeat (first | apply zK | apply zL)
          (((refine zV _ [] (.cons (zN rfl) (.cons (zN rfl) .nil)) ?_ rfl ?_)) <;> (repeat' (first|exact trivial|exact rfl|apply And.intro)))
        | true =>
          rw [ht] at hli
          rw [if_pos rfl]
          (repeat' (first|(apply xW;((exact Want.none_ rfl)))|(apply xF zI;exact rfl;exact rfl)|apply zR|apply AWp.Q|apply zH|apply AWp.G|apply AWp.J|apply AWp.X|apply zQ|apply zO|(apply AWp.F;exact rfl;(first|exact dF ‹_›|exact rfl))|(apply yA;(iterate 6 exact rfl);(iterate 2 (focus (repeat (first|exact VAs.nil|apply VAs.cons|apply VA.c|exact VCs.nil|(apply zA;exact rfl;exact rfl;((focus (simp only [lA,lB,lC,lD,lE];omega)));exact rfl;((refine aIm ?_;assumption)))))));((exact hli));(focus (repeat ((exact Flat.v _))));((apply yJ));((exact xB _ _)))))
          refine AWp.frz (obj := ⟨63, 2, (trL s).map xL⟩) (n := (wds s).length) 2 0 qF rfl rfl (by rw [hLI]) hsI.imm ?_
          apply AWp.R
          repeat (first | apply zK | apply zL)
          (((refine zV _ [] (.cons (zN rfl) (.cons (zN rfl) .nil)) ?_ rfl ?_)) <;> (repeat' (first|exact trivial|exact rfl|apply And.intro)))
def trI (s : List UInt8) : Cell := if vY s then .sl ((trL s).map xL) else .nil
theorem parseTr_pf (s : List UInt8) (hs : s.length ≤ 1048576) : PF Tryz.prog 24 [.c (str s)] [] (.tup [.c (trI s), .c (boo (vY s))]) := by
  by_cases hbig : 60 < s.length
  · have hb' : (60 : Int) < (s.length : Int) := by omega
    have e : vY s = false := by
      cases h : vY s with
      | false => rfl
      | true => have := qC h; omega
    rw [trI, e, if_neg (by simp)]
    refine PF.enter (xJ _) Tryz.func24 rfl (by kernel_rfl) _ _ rfl rfl rfl (fun w0 mu I0 β0 gi dis => ?_)
    (repeat' (first|(apply xW;((exact Want.none_ rfl)))|(apply xF zI;exact rfl;exact rfl)|apply zR|apply AWp.Q|apply zH|apply AWp.G|apply AWp.R|apply zK|(apply AWp.T;exact rfl;((exact dT ‹_›)))))
    (((refine zV _ [] (.cons (zN rfl) (.cons (zN rfl) .nil)) ?_ rfl ?_)) <;> (repeat' (first|exact trivial|exact rfl|apply And.intro)))
  · have hb' : ¬ (60 : Int) < (s.length : Int) := by omega
    have h1 := split_pf s [32] (by omega) (Nat.le_refl _)
    rw [splitL_one] at h1
    have hsl := kB 32 s
    have hsm := spl_mem 32 s
    have hsc := x3 (wds s)
    have hLr : ((wds s).map wE).length = (wds s).length := List.length_map _
    have hwn : (wds s).length ≤ s.length + 1 := hsl.2
    refine PF.enter (xJ _) Tryz.func24 rfl (by kernel_rfl) _ _ rfl rfl rfl (fun w0 mu I0 β0 gi dis => ?_)
    (repeat' (first|(apply xW;((exact Want.none_ rfl)))|(apply xF zI;exact rfl;exact rfl)|(((apply zU))<;>(first|exact zI|exact rfl|refine yG ?_))|apply zR|apply AWp.Q|apply zH|apply AWp.G|apply AWp.B|apply AWp.J|(apply AWp.F;exact rfl;((exact dF ‹_›)))|(apply yA;(iterate 6 exact rfl);(iterate 2 (focus (repeat (first|exact VAs.nil|apply VAs.cons|apply VA.c|exact VCs.nil|exact VC.imm (Imm.v _)))));((exact h1));(focus (repeat ((exact Flat.ref _ _ _))));((apply yK;(focus (repeat (first|exact trivial|apply And.intro|((assumption)))))));((exact xA _ _ _ _)))))
    refine AWp.U (σ := Nat) (fun k => ⟨[(4, .c (.ref 0 0 k)), (14, .c (.ref 1 0 (wds s).length)), (15, .c (int (wds s).length)), (16, .c (int k))], [(0, some ⟨63, 2, (trK s k).map xL⟩), (1, some ⟨9, 1, (wds s).map wE⟩)], 2⟩) (fun k => k ≤ (wds s).length ∧ ((wds s).take k).all okA = true) (fun k => (wds s).length - k) 0 ⟨Nat.zero_le _, rfl⟩ ?_ ?_
    · refine Weak.of [(0, some 0), (1, some 1)] rfl ?_ ?_ <;> (repeat' (first|exact trivial|exact rfl|apply And.intro|refine oWs rfl rfl rfl ?_ ?_|(refine aIm ?_;first|exact AllSc.nil|assumption)))
      all_goals exact hsc.imm
    · rintro k ⟨hk, hall⟩
      have hsI := xZ (trK s k)
      have hJk := trK_len hk
      have hLI : ((trK s k).map xL).length = k := by rw [List.length_map, trK_len hk]
      by_cases hlt : k < (wds s).length
      · obtain ⟨w, hw⟩ := xT hlt
        have hw' : ((wds s).map wE)[k]? = some (wE w) := xY hw
        have hlt' : (k : Int) < ((wds s).length : Int) := by omega
        have hwm := hsm w (List.mem_of_getElem? hw)
        have hp := implAtom_pf w (by omega)
        cases ho : okA w with
        | false =>
          rw [ho] at hp
          have e : vY s = false := by rw [vY, vK hw ho]; simp
          rw [trI, e, if_neg (by simp)]
          (repeat' (first|(apply xW;((exact Want.none_ rfl)))|(apply xF zI;exact rfl;exact rfl)|((first|apply yD|(apply z7;exact rfl;exact rfl;exact zI;exact rfl;exact rfl)|apply yB|apply yH)<;>(first|exact zI|exact Nat.zero_add _|exact rfl|refine yG ?_|assumption|exact lb rfl))|apply zR|apply AWp.Q|apply zH|apply AWp.G|apply AWp.B|apply AWp.J|apply AWp.R|apply zK|apply zL|(apply AWp.T;exact rfl;(first|exact dT ‹_›|exact rfl))|(apply yA;(iterate 6 exact rfl);(iterate 2 (focus (repeat (first|exact VAs.nil|apply VAs.cons|apply VA.c|exact VCs.nil|exact VC.imm (Imm.v _)))));((exact hp));(focus (repeat (first|exact trivial|exact Flat.v _|apply And.intro)));((apply yJ));((exact rfl)))))
          (((refine zV _ [] (.cons (zN rfl) (.cons (zN rfl) .nil)) ?_ rfl ?_)) <;> (repeat' (first|exact trivial|exact rfl|apply And.intro)))
        | true =>
          rw [ho] at hp
          have hall' : ((wds s).take (k + 1)).all okA = true := by rw [x5 hw, hall, ho]; rfl
          have hnx := trK_succ hw ho
          generalize trK s k = J at hsI hLI hnx hJk
          (repeat' (first|(apply xW;((exact Want.none_ rfl)))|(apply xF zI;exact rfl;exact rfl)|((first|apply zZ|apply yD|(apply z7;exact rfl;exact rfl;exact zI;exact rfl;exact rfl)|apply zU|apply yB|(apply yZ;exact rfl;exact rfl)|apply yH)<;>(first|exact zI|exact Nat.zero_add _|exact rfl|refine yG ?_|assumption|omega|exact lb rfl|(refine Bd.mk ?_;(simp;omega))))|apply zR|apply AWp.Q|apply zH|apply AWp.G|apply AWp.B|apply AWp.J|apply zJ|(apply AWp.T;exact rfl;((exact dT ‹_›)))|(apply AWp.F;exact rfl;((exact rfl)))|(apply yA;(iterate 6 exact rfl);(iterate 2 (focus (repeat (first|exact VAs.nil|apply VAs.cons|apply VA.c|exact VCs.nil|exact VC.imm (Imm.v _)))));((exact hp));(focus (repeat (first|exact trivial|exact Flat.v _|apply And.intro)));((apply yJ));((exact rfl)))))
          refine ⟨k + 1, ⟨by omega, hall'⟩, by omega, ?_⟩
          rw [hnx, wI]
          refine Weak.of [(0, some 4), (1, some 1)] rfl ?_ ?_ <;> (repeat' (first|exact trivial|exact rfl|apply And.intro|refine oWs rfl rfl rfl ?_ ?_|(refine aIm ?_;(assumption))))
          all_goals first | exact hsc.imm | (rw [← wI]; exact (xZ _).imm) | (rw [hLI]; rfl) | skip
      · have hlt' : ¬ (k : Int) < ((wds s).length : Int) := by omega
        obtain rfl : k = (wds s).length := by omega
        rw [List.take_of_length_le (Nat.le_refl _)] at hall
        rw [trK_all] at hsI hLI hJk ⊢
        have ho := trOk_of (by omega) hall
        rw [trI]
        cases ht : vY s with
        | false =>
          rw [ht] at ho
          have h10 : ¬ (wds s).length ≤ 10 := by simpa using ho.symm
          rw [if_neg (by simp)]
          (repeat' (first|(apply xW;((exact Want.none_ rfl)))|(apply xF zI;exact rfl;exact rfl)|apply zR|apply AWp.Q|apply zH|apply AWp.G|apply AWp.X|apply AWp.R|apply zQ|apply zK|apply zO|(apply AWp.F;exact rfl;((exact dF ‹_›)))|(((refine AWp.C rfl ?_ ?_))<;>intro hp<;>try (exfalso;omega))))
          (((refine zV _ [] (.cons (zN rfl) (.cons (zN rfl) .nil)) ?_ rfl ?_)) <;> (repeat' (first|exact trivial|exact rfl|apply And.intro)))
        | true =>
          rw [ht] at ho
          have h10 : (wds s).length ≤ 10 := by simpa using ho.symm
          rw [if_pos rfl]
          (repeat' (first|(apply xW;((exact Want.none_ rfl)))|(apply xF zI;exact rfl;exact rfl)|apply zR|apply AWp.Q|apply zH|apply AWp.G|apply AWp.J|apply AWp.X|apply zQ|apply zO|(apply AWp.F;exact rfl;((exact dF ‹_›)))|(((refine AWp.C rfl ?_ ?_))<;>intro hp<;>try (exfalso;omega))))
          refine AWp.frz (obj := ⟨63, 2, (trL s).map xL⟩) (n := (wds s).length) 2 0 qF rfl rfl (by rw [hLI]) hsI.imm ?_
          apply AWp.R
          repeat (first | apply zK | apply zL)
          (((refine zV _ [] (.cons (zN rfl) (.cons (zN rfl) .nil)) ?_ rfl ?_)) <;> (repeat' (first|exact trivial|exact rfl|apply And.intro)))
theorem isTr_pf (s : List UInt8) (hs : s.length ≤ 1048576) : PF Tryz.prog 92 [.c (str s)] [] (.c (boo (vY s))) := by
  have h1 := parseTr_pf s hs
  have i0 : ∀ obj : AObj, some obj ∈ ([] : List (Option AObj)) → ∀ x ∈ obj.els, ∀ c ∈ x, Imm c := fun _ h => by cases h
  refine PF.enter (xJ _) Tryz.func92 rfl (by kernel_rfl) _ _ rfl rfl rfl (fun w0 mu I0 β0 gi dis => ?_)
  (repeat' (first|(apply xW;((exact Want.none_ rfl)))|(apply xF zI;exact rfl;exact rfl)|apply zR|apply AWp.Q|apply zH|apply AWp.G|apply AWp.R|(apply (yP (h1));(iterate 7 exact rfl);(focus (repeat ((exact All2.nil))));exact rfl;(focus (repeat (first|exact MAs.nil|apply MAs.cons|apply MA.c|exact MC.vc (VC.imm (Imm.v _)))));((assumption));((exact xP));exact rfl;exact rfl)))
  (((refine zV _ [] (.cons (zN rfl) .nil) ?_ rfl ?_)) <;> (repeat' (first|exact trivial|exact rfl)))
end Go.Proofs.YtjeffognhcbiaaaGreatDoor
