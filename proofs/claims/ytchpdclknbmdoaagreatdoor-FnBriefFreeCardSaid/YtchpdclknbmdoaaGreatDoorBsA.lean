/- What is drawn for briefs: a dictionary and an outline. -/
import Derived.Test.YtchpdclknbmdoaaGreatDoorDvC
namespace Go.Proofs.YtchpdclknbmdoaaGreatDoor
open Go Go.RowKit
section
variable {P : Program} {E : Env} {ops : Array Oper} {K : AS → Prop} {draw : Bool}
variable {r : List Oper} {acc : List (Upd × Foot)} {tm : List (Nat × AVal)} {ob : List (Nat × Option AObj)} {nx d ty : Nat} {pos : String} {aft : Array Edge} {g : Option (Nat × Bool)}
theorem vT (hd : xQ (some d) E.n = true)
    (h : regX P E ops K draw r ((xU (some d) (.c (.v (.pointer none))), ⟨(Oper.mk (some d) (.assign (.const (.pointer none))) ty pos aft g).looksAt ops, []⟩) :: acc) ⟨(d, .c (.v (.pointer none))) :: tm, ob, nx⟩) : regY P E ops K draw ⟨some d, .assign (.const (.pointer none)), ty, pos, aft, g⟩ r acc ⟨tm, ob, nx⟩ := by
  refine ⟨fun hw => ?_⟩
  exact regX.cons _ _ (StepOk.move (.inr rfl) hw hd rfl) rfl h
end
def SLb (o : List Int) : Prop := o.length ≤ 9 ∧ DS o
set_option maxHeartbeats 4000000 in
theorem l17Draw_ex (code : List UInt8) (hl : code.length ≤ 65536) : ∃ (c' : Cur) (es : List Ent) (o : List Int), c'.a ≤ 5000 ∧ (es.length ≤ 41 ∧ ∀ x ∈ es, EO8 x) ∧ SLb o ∧
    PF Tryz.prog 74 [.c (.sl (code.map vE))] [xT code c'] (.tup [.c (.ptr 0 0 0), .agg (wI es), .c (.sl (o.map y4))]) := by
  have a0 : c00.a = 0 := rfl
  obtain ⟨c1, es, a1, ⟨hes, heo⟩, p1⟩ := dictionary_ex code c00 hl (by omega)
  obtain ⟨c2, l, a2, ⟨hl8, hds⟩, p2⟩ := known_ex code c1 hl (by omega) es (by omega) heo
  obtain ⟨c3, v, a3, hv, p3⟩ := vB code c2 hl (by omega) 5 (by omega)
  obtain ⟨c4, l4, a4, ⟨h48, hds4⟩, p4⟩ := anyOutline_ex code c3 hl (by omega)
  obtain ⟨c4', y, a4', hy, p4'⟩ := few_ex code c3 hl (by omega)
  have hsl := xJ l
  have hLl : (l.map y4).length = l.length := List.length_map _
  have h1l : ∀ x ∈ l.map y4, x.length = 1 := fun x hx => by
    obtain ⟨i, _, rfl⟩ := List.mem_map.1 hx
    rfl
  have hcl : ∀ q : Cur, ∀ x ∈ (xT code q).els, ∀ c ∈ x, Imm c := fun q => yL code q
  have i1 := y5 (hcl c1)
  have i2 := qF (b := ⟨3, 1, l.map y4⟩) (hcl c2) hsl.imm
  have i3 := y5 (hcl c3)
  have i4 := qF (b := ⟨3, 1, l4.map y4⟩) (hcl c4) (xJ l4).imm
  have i4' := y5 (hcl c4')
  have j0 := wE (hcl c00)
  have j1 := wE (hcl c1)
  have j2 := wE (hcl c2)
  have j3 := wE (hcl c3)
  have j4 := wE (hcl c4)
  have j4' := wE (hcl c4')
  have st1 : ∃ (cm : Cur) (o : List Int), cm.a ≤ 1500 ∧ SLb o ∧ ((v = 0 ∧ c4 = cm ∧ l4 = o) ∨ (v = 1 ∧ c4' = cm ∧ l ++ [y] = o) ∨ (v = 2 ∧ 1 < l.length ∧ c3 = cm ∧ (l.drop 0).take (l.length - 1) = o) ∨ (2 ≤ v ∧ (v = 2 → l.length ≤ 1) ∧ c3 = cm ∧ l = o)) := by
    have hc : v = 0 ∨ v = 1 ∨ (v = 2 ∧ 1 < l.length) ∨ (2 ≤ v ∧ (v = 2 → l.length ≤ 1)) := by omega
    rcases hc with h | h | h | h
    · exact ⟨c4, l4, by omega, ⟨by omega, hds4⟩, .inl ⟨h, rfl, rfl⟩⟩
    · exact ⟨c4', l ++ [y], by omega, ⟨by simp; omega, hds.snoc (by omega)⟩, .inr (.inl ⟨h, rfl, rfl⟩)⟩
    · exact ⟨c3, (l.drop 0).take (l.length - 1), by omega, ⟨by simp; omega, fun x hx => hds x (List.mem_of_mem_drop (List.mem_of_mem_take hx))⟩, .inr (.inr (.inl ⟨h.1, h.2, rfl, rfl⟩))⟩
    · exact ⟨c3, l, by omega, ⟨by omega, hds⟩, .inr (.inr (.inr ⟨h.1, h.2, rfl, rfl⟩))⟩
  obtain ⟨cm, o, am, ho, hcase⟩ := st1
  obtain ⟨c5, b, a5, p5⟩ := kN code cm hl (by omega) 20 (by omega)
  have i5 := y5 (hcl c5)
  have j5 := wE (hcl c5)
  have jm := wE (hcl cm)
  have st2 : ∃ (cf : Cur) (ef : List Ent), cf.a ≤ 5000 ∧ (ef.length ≤ 41 ∧ ∀ x ∈ ef, EO8 x) ∧ ((b = false ∧ c5 = cf ∧ es = ef) ∨ (b = true ∧ PFM Tryz.prog 87 [xT code c5] [.c (.ptr 0 0 0)] [some (xT code cf)] (.agg (wI ef)))) := by
    cases b with
    | false => exact ⟨c5, es, by omega, ⟨by omega, fun x hx => (heo x hx).to8⟩, .inl ⟨rfl, rfl, rfl⟩⟩
    | true =>
      obtain ⟨cf, ef, af, hef, pf⟩ := anyDictionary_ex code c5 hl (by omega)
      exact ⟨cf, ef, by omega, hef, .inr ⟨rfl, pf⟩⟩
  obtain ⟨cf, ef, af, hef, hcase2⟩ := st2
  have i6 := y5 (hcl cf)
  refine ⟨cf, ef, o, af, hef, ho, ?_⟩
  have hvz : ∀ k : Nat, v = k → (v : Int) = (k : Int) := fun k h => by rw [h]
  rcases hcase2 with ⟨rfl, rfl, rfl⟩ | ⟨rfl, p6⟩
  · rcases hcase with ⟨rfl, rfl, rfl⟩ | ⟨rfl, rfl, rfl⟩ | ⟨rfl, h2, rfl, rfl⟩ | ⟨h1, h2, rfl, rfl⟩
    · have hLy : (l4.map y4).length = l4.length := List.length_map _
      refine PF.enter (xI _) Tryz.func74 rfl (by kernel_rfl) _ _ rfl rfl rfl (fun w0 mu I0 β0 gi dis => ?_)
      (repeat (first|(apply xW;((exact Want.none_ rfl)))|apply AWp.Q|apply AWp.G))
      apply vT
      exact rfl
      (repeat' (first|(apply xW;((exact Want.none_ rfl)))|(apply xF zK;exact rfl;exact rfl)|((first|apply yS|apply zQ|apply zX|(apply yB;exact rfl;exact rfl)|apply yD)<;>(first|exact zK|exact Nat.zero_add _|exact rfl|refine yO ?_|exact lb rfl|(refine Bd.mk ?_;first|assumption|(focus (simp;done))|(simp;omega))|exact yP rfl (by (simp;done))))|apply zV|(refine yN ?_ ?_;kernel_rfl)|apply AWp.Q|apply zJ|apply AWp.G|apply AWp.B|apply AWp.J|apply zL|(refine AWp.D ?_ ?_;kernel_rfl)|(apply AWp.T;exact rfl;((exact rfl)))|(apply AWp.F;exact rfl;((exact rfl)))|(apply (zY (p1));(iterate 7 exact rfl);(focus (repeat (first|exact All2.nil|refine All2.cons rfl ?_)));exact rfl;(focus (repeat (first|exact MAs.nil|apply MAs.cons|apply MA.c|exact MC.ptr rfl)));((assumption));((assumption));exact rfl;exact rfl)|(apply (zY (p2));(iterate 7 exact rfl);(focus (repeat (first|exact All2.nil|refine All2.cons rfl ?_)));exact rfl;(focus (repeat (first|exact MAs.nil|apply MAs.cons|apply MA.c|apply MA.agg|exact MCs.nil|apply MCs.cons|exact MC.ptr rfl|exact MC.vc (VC.imm (Imm.sl _)))));((assumption));((assumption));exact rfl;exact rfl)|(apply (zY (p3));(iterate 7 exact rfl);(focus (repeat (first|exact All2.nil|refine All2.cons rfl ?_)));exact rfl;(focus (repeat (first|exact MAs.nil|apply MAs.cons|apply MA.c|exact MC.ptr rfl|exact MC.vc (VC.imm (Imm.v _)))));((assumption));((assumption));exact rfl;exact rfl)|(apply (zY (p4));(iterate 7 exact rfl);(focus (repeat (first|exact All2.nil|refine All2.cons rfl ?_)));exact rfl;(focus (repeat (first|exact MAs.nil|apply MAs.cons|apply MA.c|exact MC.ptr rfl)));((assumption));((assumption));exact rfl;exact rfl)|(apply (zY (p5));(iterate 7 exact rfl);(focus (repeat (first|exact All2.nil|refine All2.cons rfl ?_)));exact rfl;(focus (repeat (first|exact MAs.nil|apply MAs.cons|apply MA.c|exact MC.ptr rfl|exact MC.vc (VC.imm (Imm.v _)))));((assumption));((assumption));exact rfl;exact rfl)))
      refine AWp.frz (obj := ⟨3, 1, l4.map y4⟩) (n := l4.length) 4 6 wJ rfl rfl hLy.symm (xJ _).imm ?_
      apply AWp.R
      repeat (first | apply zM | apply zN)
      (((refine z6 _ [(0, some 1)] (.cons (zT rfl) (.cons (xC rfl rfl rfl zK rfl rfl rfl) (.cons (zT rfl) .nil))) ?_ rfl ?_)) <;> (repeat' (first|exact trivial|exact rfl|apply And.intro|refine ⟨_,rfl,rfl,rfl,OW.one ?_⟩)))
      all_goals exact hcl _
    · refine PF.enter (xI _) Tryz.func74 rfl (by kernel_rfl) _ _ rfl rfl rfl (fun w0 mu I0 β0 gi dis => ?_)
      (repeat (first|(apply xW;((exact Want.none_ rfl)))|apply AWp.Q|apply AWp.G))
      apply vT
      exact rfl
      (repeat' (first|(apply xW;((exact Want.none_ rfl)))|(apply xF zK;exact rfl;exact rfl)|((first|apply yS|apply zQ|apply zX|(apply yB;exact rfl;exact rfl)|apply yD)<;>(first|exact zK|exact Nat.zero_add _|exact rfl|refine yO ?_|exact lb rfl|(refine Bd.mk ?_;first|assumption|(focus (simp;done))|(simp;omega))|exact yP rfl (by (simp;done))))|apply zV|(refine yN ?_ ?_;kernel_rfl)|apply AWp.Q|apply zJ|apply AWp.G|apply AWp.B|apply AWp.J|apply zL|(refine AWp.D ?_ ?_;kernel_rfl)|(apply AWp.T;exact rfl;((exact rfl)))|(apply AWp.F;exact rfl;((exact rfl)))|(apply (zY (p1));(iterate 7 exact rfl);(focus (repeat (first|exact All2.nil|refine All2.cons rfl ?_)));exact rfl;(focus (repeat (first|exact MAs.nil|apply MAs.cons|apply MA.c|exact MC.ptr rfl)));((assumption));((assumption));exact rfl;exact rfl)|(apply (zY (p2));(iterate 7 exact rfl);(focus (repeat (first|exact All2.nil|refine All2.cons rfl ?_)));exact rfl;(focus (repeat (first|exact MAs.nil|apply MAs.cons|apply MA.c|apply MA.agg|exact MCs.nil|apply MCs.cons|exact MC.ptr rfl|exact MC.vc (VC.imm (Imm.sl _)))));((assumption));((assumption));exact rfl;exact rfl)|(apply (zY (p3));(iterate 7 exact rfl);(focus (repeat (first|exact All2.nil|refine All2.cons rfl ?_)));exact rfl;(focus (repeat (first|exact MAs.nil|apply MAs.cons|apply MA.c|exact MC.ptr rfl|exact MC.vc (VC.imm (Imm.v _)))));((assumption));((assumption));exact rfl;exact rfl)|(apply (zY (p4'));(iterate 7 exact rfl);(focus (repeat (first|exact All2.nil|refine All2.cons rfl ?_)));exact rfl;(focus (repeat (first|exact MAs.nil|apply MAs.cons|apply MA.c|exact MC.ptr rfl)));((assumption));((assumption));exact rfl;exact rfl)|(apply (zY (p5));(iterate 7 exact rfl);(focus (repeat (first|exact All2.nil|refine All2.cons rfl ?_)));exact rfl;(focus (repeat (first|exact MAs.nil|apply MAs.cons|apply MA.c|exact MC.ptr rfl|exact MC.vc (VC.imm (Imm.v _)))));((assumption));((assumption));exact rfl;exact rfl)))
      refine AWp.frz (obj := ⟨3, 1, l.map y4 ++ [y4 y]⟩) (n := (l.map y4).length + 1) 4 7 wJ rfl rfl (by simp) (by rw [show l.map y4 ++ [y4 y] = (l ++ [y]).map y4 from (wB l y).symm]; exact (xJ _).imm) ?_
      apply AWp.R
      repeat (first | apply zM | apply zN)
      rw [wB]
      (((refine z6 _ [(0, some 1)] (.cons (zT rfl) (.cons (xC rfl rfl rfl zK rfl rfl rfl) (.cons (zT rfl) .nil))) ?_ rfl ?_)) <;> (repeat' (first|exact trivial|exact rfl|apply And.intro|refine ⟨_,rfl,rfl,rfl,OW.one ?_⟩)))
      all_goals exact hcl _
    · have hz : ((l.map y4).length : Int) - 1 = ((l.length - 1 : Nat) : Int) := by omega
      have h1 : 1 < ((l.map y4).length : Int) := by omega
      rw [show ((l.drop 0).take (l.length - 1)).map y4 = ((l.map y4).drop 0).take (l.length - 1) by rw [List.map_take, List.map_drop]]
      refine PF.enter (xI _) Tryz.func74 rfl (by kernel_rfl) _ _ rfl rfl rfl (fun w0 mu I0 β0 gi dis => ?_)
      (repeat (first|(apply xW;((exact Want.none_ rfl)))|apply AWp.Q|apply AWp.G))
      apply vT
      exact rfl
      (repeat (first|(apply xW;((exact Want.none_ rfl)))|(apply xF zK;exact rfl;exact rfl)|(((apply zX))<;>(first|exact zK|exact rfl|refine yO ?_))|apply zV|apply zJ))
      (refine AWp.Q ?_;((apply AWp.G));(repeat' (first|(apply xW;((exact Want.none_ rfl)))|(apply xF zK;exact rfl;exact rfl)|(((apply yS))<;>(first|exact zK|exact rfl|refine yO ?_|(refine Bd.mk ?_;(focus (simp;done)))))|apply zV|apply zJ)))
      (refine AWp.Q ?_;((apply AWp.G));(repeat' (first|(apply xW;((exact Want.none_ rfl)))|(apply xF zK;exact rfl;exact rfl)|((first|apply zX|apply yD)<;>(first|exact zK|exact rfl|refine yO ?_|exact lb rfl))|apply zV|apply zJ|(apply (zY (p1));(iterate 7 exact rfl);(focus (repeat (first|exact All2.nil|refine All2.cons rfl ?_)));exact rfl;(focus (repeat (first|exact MAs.nil|apply MAs.cons|apply MA.c|exact MC.ptr rfl)));((assumption));((assumption));exact rfl;exact rfl))))
      (refine AWp.Q ?_;((apply AWp.G));(repeat' (first|(apply xW;((exact Want.none_ rfl)))|(apply xF zK;exact rfl;exact rfl)|((first|apply zQ|(apply yB;exact rfl;exact rfl))<;>(first|exact zK|exact Nat.zero_add _|exact rfl|refine yO ?_|(refine Bd.mk ?_;first|assumption|(simp;omega))|exact yP rfl (by (simp;done))))|apply zV|apply zJ|(apply (zY (p2));(iterate 7 exact rfl);(focus (repeat (first|exact All2.nil|refine All2.cons rfl ?_)));exact rfl;(focus (repeat (first|exact MAs.nil|apply MAs.cons|apply MA.c|apply MA.agg|exact MCs.nil|apply MCs.cons|exact MC.ptr rfl|exact MC.vc (VC.imm (Imm.sl _)))));((assumption));((assumption));exact rfl;exact rfl))))
      refine AWp.frz (obj := ⟨3, 1, l.map y4⟩) (n := (l.map y4).length) 7 5 wJ rfl rfl rfl hsl.imm ?_
      (repeat' (first|(apply xW;((exact Want.none_ rfl)))|(apply xF zK;exact rfl;exact rfl)|((first|apply yW|(apply yR;exact rfl;exact rfl)|apply yD)<;>(first|exact zK|exact rfl|refine yO ?_|omega|exact ⟨rfl⟩|exact lb rfl|(refine Bd.mk ?_;(assumption))|(focus (apply oI;exact rfl;exact rfl;assumption))|(focus (simp;done))|(simp;omega)))|apply zV|(refine yN ?_ ?_;kernel_rfl)|apply AWp.Q|apply zJ|apply AWp.G|apply AWp.B|apply AWp.J|apply AWp.R|apply zL|(refine AWp.D ?_ ?_;kernel_rfl)|(apply AWp.T;exact rfl;(first|exact dT ‹_›|exact rfl))|(apply AWp.F;exact rfl;((exact rfl)))|(apply (zY (p3));(iterate 7 exact rfl);(focus (repeat (first|exact All2.nil|refine All2.cons rfl ?_)));exact rfl;(focus (repeat (first|exact MAs.nil|apply MAs.cons|apply MA.c|exact MC.ptr rfl|exact MC.vc (VC.imm (Imm.v _)))));((assumption));((assumption));exact rfl;exact rfl)|(apply (zY (p5));(iterate 7 exact rfl);(focus (repeat (first|exact All2.nil|refine All2.cons rfl ?_)));exact rfl;(focus (repeat (first|exact MAs.nil|apply MAs.cons|apply MA.c|exact MC.ptr rfl|exact MC.vc (VC.imm (Imm.v _)))));((assumption));((assumption));exact rfl;exact rfl)))
      (((refine z6 _ [(0, some 1)] (.cons (zT rfl) (.cons (xC rfl rfl rfl zK rfl rfl rfl) (.cons (zT rfl) .nil))) ?_ rfl ?_)) <;> (repeat' (first|exact trivial|exact rfl|apply And.intro|refine ⟨_,rfl,rfl,rfl,OW.one ?_⟩)))
      all_goals exact hcl _
    · by_cases v2 : v = 2
      · subst v2
        have hle : ¬ 1 < ((l.map y4).length : Int) := by have := h2 rfl; omega
        refine PF.enter (xI _) Tryz.func74 rfl (by kernel_rfl) _ _ rfl rfl rfl (fun w0 mu I0 β0 gi dis => ?_)
        (repeat (first|(apply xW;((exact Want.none_ rfl)))|apply AWp.Q|apply AWp.G))
        apply vT
        exact rfl
        (repeat (first|(apply xW;((exact Want.none_ rfl)))|(apply xF zK;exact rfl;exact rfl)|(((apply zX))<;>(first|exact zK|exact rfl|refine yO ?_))|apply zV|apply zJ))
        (refine AWp.Q ?_;((apply AWp.G));(repeat' (first|(apply xW;((exact Want.none_ rfl)))|(apply xF zK;exact rfl;exact rfl)|(((apply yS))<;>(first|exact zK|exact rfl|refine yO ?_|(refine Bd.mk ?_;(focus (simp;done)))))|apply zV|apply zJ)))
        (refine AWp.Q ?_;((apply AWp.G));(repeat' (first|(apply xW;((exact Want.none_ rfl)))|(apply xF zK;exact rfl;exact rfl)|((first|apply zX|apply yD)<;>(first|exact zK|exact rfl|refine yO ?_|exact lb rfl))|apply zV|apply zJ|(apply (zY (p1));(iterate 7 exact rfl);(focus (repeat (first|exact All2.nil|refine All2.cons rfl ?_)));exact rfl;(focus (repeat (first|exact MAs.nil|apply MAs.cons|apply MA.c|exact MC.ptr rfl)));((assumption));((assumption));exact rfl;exact rfl))))
        (refine AWp.Q ?_;((apply AWp.G));(repeat' (first|(apply xW;((exact Want.none_ rfl)))|(apply xF zK;exact rfl;exact rfl)|((first|apply zQ|(apply yB;exact rfl;exact rfl))<;>(first|exact zK|exact Nat.zero_add _|exact rfl|refine yO ?_|(refine Bd.mk ?_;first|assumption|(simp;omega))|exact yP rfl (by (simp;done))))|apply zV|apply zJ|(apply (zY (p2));(iterate 7 exact rfl);(focus (repeat (first|exact All2.nil|refine All2.cons rfl ?_)));exact rfl;(focus (repeat (first|exact MAs.nil|apply MAs.cons|apply MA.c|apply MA.agg|exact MCs.nil|apply MCs.cons|exact MC.ptr rfl|exact MC.vc (VC.imm (Imm.sl _)))));((assumption));((assumption));exact rfl;exact rfl))))
        refine AWp.frz (obj := ⟨3, 1, l.map y4⟩) (n := (l.map y4).length) 7 5 wJ rfl rfl rfl hsl.imm ?_
        (repeat' (first|(apply xW;((exact Want.none_ rfl)))|(apply xF zK;exact rfl;exact rfl)|(((apply yD))<;>(first|exact zK|exact rfl|refine yO ?_|exact lb rfl))|apply zV|(refine yN ?_ ?_;kernel_rfl)|apply AWp.Q|apply zJ|apply AWp.G|apply AWp.B|apply AWp.J|apply AWp.R|apply zL|(refine AWp.D ?_ ?_;kernel_rfl)|(apply AWp.T;exact rfl;((exact rfl)))|(apply AWp.F;exact rfl;(first|exact dF ‹_›|exact rfl))|(apply (zY (p3));(iterate 7 exact rfl);(focus (repeat (first|exact All2.nil|refine All2.cons rfl ?_)));exact rfl;(focus (repeat (first|exact MAs.nil|apply MAs.cons|apply MA.c|exact MC.ptr rfl|exact MC.vc (VC.imm (Imm.v _)))));((assumption));((assumption));exact rfl;exact rfl)|(apply (zY (p5));(iterate 7 exact rfl);(focus (repeat (first|exact All2.nil|refine All2.cons rfl ?_)));exact rfl;(focus (repeat (first|exact MAs.nil|apply MAs.cons|apply MA.c|exact MC.ptr rfl|exact MC.vc (VC.imm (Imm.v _)))));((assumption));((assumption));exact rfl;exact rfl)))
        (((refine z6 _ [(0, some 1)] (.cons (zT rfl) (.cons (xC rfl rfl rfl zK rfl rfl rfl) (.cons (zT rfl) .nil))) ?_ rfl ?_)) <;> (repeat' (first|exact trivial|exact rfl|apply And.intro|refine ⟨_,rfl,rfl,rfl,OW.one ?_⟩)))
        all_goals exact hcl _
      · have v2' : ¬ (v : Int) = 2 := by omega
        refine PF.enter (xI _) Tryz.func74 rfl (by kernel_rfl) _ _ rfl rfl rfl (fun w0 mu I0 β0 gi dis => ?_)
        (repeat (first|(apply xW;((exact Want.none_ rfl)))|apply AWp.Q|apply AWp.G))
        apply vT
        exact rfl
        (repeat (first|(apply xW;((exact Want.none_ rfl)))|(apply xF zK;exact rfl;exact rfl)|(((apply zX))<;>(first|exact zK|exact rfl|refine yO ?_))|apply zV|apply zJ))
        (refine AWp.Q ?_;((apply AWp.G));(repeat' (first|(apply xW;((exact Want.none_ rfl)))|(apply xF zK;exact rfl;exact rfl)|(((apply yS))<;>(first|exact zK|exact rfl|refine yO ?_|(refine Bd.mk ?_;(focus (simp;done)))))|apply zV|apply zJ)))
        (refine AWp.Q ?_;((apply AWp.G));(repeat' (first|(apply xW;((exact Want.none_ rfl)))|(apply xF zK;exact rfl;exact rfl)|((first|apply zX|apply yD)<;>(first|exact zK|exact rfl|refine yO ?_|exact lb rfl))|apply zV|apply zJ|(apply (zY (p1));(iterate 7 exact rfl);(focus (repeat (first|exact All2.nil|refine All2.cons rfl ?_)));exact rfl;(focus (repeat (first|exact MAs.nil|apply MAs.cons|apply MA.c|exact MC.ptr rfl)));((assumption));((assumption));exact rfl;exact rfl))))
        (refine AWp.Q ?_;((apply AWp.G));(repeat' (first|(apply xW;((exact Want.none_ rfl)))|(apply xF zK;exact rfl;exact rfl)|((first|apply zQ|(apply yB;exact rfl;exact rfl))<;>(first|exact zK|exact Nat.zero_add _|exact rfl|refine yO ?_|(refine Bd.mk ?_;first|assumption|(simp;omega))|exact yP rfl (by (simp;done))))|apply zV|apply zJ|(apply (zY (p2));(iterate 7 exact rfl);(focus (repeat (first|exact All2.nil|refine All2.cons rfl ?_)));exact rfl;(focus (repeat (first|exact MAs.nil|apply MAs.cons|apply MA.c|apply MA.agg|exact MCs.nil|apply MCs.cons|exact MC.ptr rfl|exact MC.vc (VC.imm (Imm.sl _)))));((assumption));((assumption));exact rfl;exact rfl))))
        refine AWp.frz (obj := ⟨3, 1, l.map y4⟩) (n := (l.map y4).length) 7 5 wJ rfl rfl rfl hsl.imm ?_
        (repeat' (first|(apply xW;((exact Want.none_ rfl)))|(apply xF zK;exact rfl;exact rfl)|(((apply yD))<;>(first|exact zK|exact rfl|refine yO ?_|exact lb rfl))|apply zV|(refine yN ?_ ?_;kernel_rfl)|apply AWp.Q|apply zJ|apply AWp.G|apply AWp.B|apply AWp.J|apply AWp.R|apply zL|(refine AWp.D ?_ ?_;kernel_rfl)|(apply AWp.F;exact rfl;(first|exact dF ‹_›|exact rfl))|(apply (zY (p3));(iterate 7 exact rfl);(focus (repeat (first|exact All2.nil|refine All2.cons rfl ?_)));exact rfl;(focus (repeat (first|exact MAs.nil|apply MAs.cons|apply MA.c|exact MC.ptr rfl|exact MC.vc (VC.imm (Imm.v _)))));((assumption));((assumption));exact rfl;exact rfl)|(apply (zY (p5));(iterate 7 exact rfl);(focus (repeat (first|exact All2.nil|refine All2.cons rfl ?_)));exact rfl;(focus (repeat (first|exact MAs.nil|apply MAs.cons|apply MA.c|exact MC.ptr rfl|exact MC.vc (VC.imm (Imm.v _)))));((assumption));((assumption));exact rfl;exact rfl)|(((refine AWp.C rfl ?_ ?_))<;>intro hp<;>try (exfalso;omega))))
        (((refine z6 _ [(0, some 1)] (.cons (zT rfl) (.cons (xC rfl rfl rfl zK rfl rfl rfl) (.cons (zT rfl) .nil))) ?_ rfl ?_)) <;> (repeat' (first|exact trivial|exact rfl|apply And.intro|refine ⟨_,rfl,rfl,rfl,OW.one ?_⟩)))
        all_goals exact hcl _
  · rcases hcase with ⟨rfl, rfl, rfl⟩ | ⟨rfl, rfl, rfl⟩ | ⟨rfl, h2, rfl, rfl⟩ | ⟨h1, h2, rfl, rfl⟩
    · have hLy : (l4.map y4).length = l4.length := List.length_map _
      refine PF.enter (xI _) Tryz.func74 rfl (by kernel_rfl) _ _ rfl rfl rfl (fun w0 mu I0 β0 gi dis => ?_)
      (repeat (first|(apply xW;((exact Want.none_ rfl)))|apply AWp.Q|apply AWp.G))
      apply vT
      exact rfl
      (repeat' (first|(apply xW;((exact Want.none_ rfl)))|(apply xF zK;exact rfl;exact rfl)|((first|apply yS|apply zQ|apply zX|(apply yB;exact rfl;exact rfl)|apply yD)<;>(first|exact zK|exact Nat.zero_add _|exact rfl|refine yO ?_|exact lb rfl|(refine Bd.mk ?_;first|assumption|(focus (simp;done))|(simp;omega))|exact yP rfl (by (simp;done))))|apply zV|(refine yN ?_ ?_;kernel_rfl)|apply AWp.Q|apply zJ|apply AWp.G|apply AWp.B|apply zL|(refine AWp.D ?_ ?_;kernel_rfl)|(apply AWp.T;exact rfl;((exact rfl)))|(apply (zY (p1));(iterate 7 exact rfl);(focus (repeat (first|exact All2.nil|refine All2.cons rfl ?_)));exact rfl;(focus (repeat (first|exact MAs.nil|apply MAs.cons|apply MA.c|exact MC.ptr rfl)));((assumption));((assumption));exact rfl;exact rfl)|(apply (zY (p2));(iterate 7 exact rfl);(focus (repeat (first|exact All2.nil|refine All2.cons rfl ?_)));exact rfl;(focus (repeat (first|exact MAs.nil|apply MAs.cons|apply MA.c|apply MA.agg|exact MCs.nil|apply MCs.cons|exact MC.ptr rfl|exact MC.vc (VC.imm (Imm.sl _)))));((assumption));((assumption));exact rfl;exact rfl)|(apply (zY (p3));(iterate 7 exact rfl);(focus (repeat (first|exact All2.nil|refine All2.cons rfl ?_)));exact rfl;(focus (repeat (first|exact MAs.nil|apply MAs.cons|apply MA.c|exact MC.ptr rfl|exact MC.vc (VC.imm (Imm.v _)))));((assumption));((assumption));exact rfl;exact rfl)|(apply (zY (p4));(iterate 7 exact rfl);(focus (repeat (first|exact All2.nil|refine All2.cons rfl ?_)));exact rfl;(focus (repeat (first|exact MAs.nil|apply MAs.cons|apply MA.c|exact MC.ptr rfl)));((assumption));((assumption));exact rfl;exact rfl)|(apply (zY (p5));(iterate 7 exact rfl);(focus (repeat (first|exact All2.nil|refine All2.cons rfl ?_)));exact rfl;(focus (repeat (first|exact MAs.nil|apply MAs.cons|apply MA.c|exact MC.ptr rfl|exact MC.vc (VC.imm (Imm.v _)))));((assumption));((assumption));exact rfl;exact rfl)|(apply (zY (p6));(iterate 7 exact rfl);(focus (repeat (first|exact All2.nil|refine All2.cons rfl ?_)));exact rfl;(focus (repeat (first|exact MAs.nil|apply MAs.cons|apply MA.c|exact MC.ptr rfl)));((assumption));((assumption));exact rfl;exact rfl)))
      refine AWp.frz (obj := ⟨3, 1, l4.map y4⟩) (n := l4.length) 4 6 wJ rfl rfl hLy.symm (xJ _).imm ?_
      apply AWp.R
      repeat (first | apply zM | apply zN)
      (((refine z6 _ [(0, some 1)] (.cons (zT rfl) (.cons (xC rfl rfl rfl zK rfl rfl rfl) (.cons (zT rfl) .nil))) ?_ rfl ?_)) <;> (repeat' (first|exact trivial|exact rfl|apply And.intro|refine ⟨_,rfl,rfl,rfl,OW.one ?_⟩)))
      all_goals exact hcl _
    · refine PF.enter (xI _) Tryz.func74 rfl (by kernel_rfl) _ _ rfl rfl rfl (fun w0 mu I0 β0 gi dis => ?_)
      (repeat (first|(apply xW;((exact Want.none_ rfl)))|apply AWp.Q|apply AWp.G))
      apply vT
      exact rfl
      (repeat' (first|(apply xW;((exact Want.none_ rfl)))|(apply xF zK;exact rfl;exact rfl)|((first|apply yS|apply zQ|apply zX|(apply yB;exact rfl;exact rfl)|apply yD)<;>(first|exact zK|exact Nat.zero_add _|exact rfl|refine yO ?_|exact lb rfl|(refine Bd.mk ?_;first|assumption|(focus (simp;done))|(simp;omega))|exact yP rfl (by (simp;done))))|apply zV|(refine yN ?_ ?_;kernel_rfl)|apply AWp.Q|apply zJ|apply AWp.G|apply AWp.B|apply zL|(refine AWp.D ?_ ?_;kernel_rfl)|(apply AWp.T;exact rfl;((exact rfl)))|(apply AWp.F;exact rfl;((exact rfl)))|(apply (zY (p1));(iterate 7 exact rfl);(focus (repeat (first|exact All2.nil|refine All2.cons rfl ?_)));exact rfl;(focus (repeat (first|exact MAs.nil|apply MAs.cons|apply MA.c|exact MC.ptr rfl)));((assumption));((assumption));exact rfl;exact rfl)|(apply (zY (p2));(iterate 7 exact rfl);(focus (repeat (first|exact All2.nil|refine All2.cons rfl ?_)));exact rfl;(focus (repeat (first|exact MAs.nil|apply MAs.cons|apply MA.c|apply MA.agg|exact MCs.nil|apply MCs.cons|exact MC.ptr rfl|exact MC.vc (VC.imm (Imm.sl _)))));((assumption));((assumption));exact rfl;exact rfl)|(apply (zY (p3));(iterate 7 exact rfl);(focus (repeat (first|exact All2.nil|refine All2.cons rfl ?_)));exact rfl;(focus (repeat (first|exact MAs.nil|apply MAs.cons|apply MA.c|exact MC.ptr rfl|exact MC.vc (VC.imm (Imm.v _)))));((assumption));((assumption));exact rfl;exact rfl)|(apply (zY (p4'));(iterate 7 exact rfl);(focus (repeat (first|exact All2.nil|refine All2.cons rfl ?_)));exact rfl;(focus (repeat (first|exact MAs.nil|apply MAs.cons|apply MA.c|exact MC.ptr rfl)));((assumption));((assumption));exact rfl;exact rfl)|(apply (zY (p5));(iterate 7 exact rfl);(focus (repeat (first|exact All2.nil|refine All2.cons rfl ?_)));exact rfl;(focus (repeat (first|exact MAs.nil|apply MAs.cons|apply MA.c|exact MC.ptr rfl|exact MC.vc (VC.imm (Imm.v _)))));((assumption));((assumption));exact rfl;exact rfl)|(apply (zY (p6));(iterate 7 exact rfl);(focus (repeat (first|exact All2.nil|refine All2.cons rfl ?_)));exact rfl;(focus (repeat (first|exact MAs.nil|apply MAs.cons|apply MA.c|exact MC.ptr rfl)));((assumption));((assumption));exact rfl;exact rfl)))
      refine AWp.frz (obj := ⟨3, 1, l.map y4 ++ [y4 y]⟩) (n := (l.map y4).length + 1) 4 7 wJ rfl rfl (by simp) (by rw [show l.map y4 ++ [y4 y] = (l ++ [y]).map y4 from (wB l y).symm]; exact (xJ _).imm) ?_
      apply AWp.R
      repeat (first | apply zM | apply zN)
      rw [wB]
      (((refine z6 _ [(0, some 1)] (.cons (zT rfl) (.cons (xC rfl rfl rfl zK rfl rfl rfl) (.cons (zT rfl) .nil))) ?_ rfl ?_)) <;> (repeat' (first|exact trivial|exact rfl|apply And.intro|refine ⟨_,rfl,rfl,rfl,OW.one ?_⟩)))
      all_goals exact hcl _
    · have hz : ((l.map y4).length : Int) - 1 = ((l.length - 1 : Nat) : Int) := by omega
      have h1 : 1 < ((l.map y4).length : Int) := by omega
      rw [show ((l.drop 0).take (l.length - 1)).map y4 = ((l.map y4).drop 0).take (l.length - 1) by rw [List.map_take, List.map_drop]]
      refine PF.enter (xI _) Tryz.func74 rfl (by kernel_rfl) _ _ rfl rfl rfl (fun w0 mu I0 β0 gi dis => ?_)
      (repeat (first|(apply xW;((exact Want.none_ rfl)))|apply AWp.Q|apply AWp.G))
      apply vT
      exact rfl
      (repeat (first|(apply xW;((exact Want.none_ rfl)))|(apply xF zK;exact rfl;exact rfl)|(((apply zX))<;>(first|exact zK|exact rfl|refine yO ?_))|apply zV|apply zJ))
      (refine AWp.Q ?_;((apply AWp.G));(repeat' (first|(apply xW;((exact Want.none_ rfl)))|(apply xF zK;exact rfl;exact rfl)|(((apply yS))<;>(first|exact zK|exact rfl|refine yO ?_|(refine Bd.mk ?_;(focus (simp;done)))))|apply zV|apply zJ)))
      (refine AWp.Q ?_;((apply AWp.G));(repeat' (first|(apply xW;((exact Want.none_ rfl)))|(apply xF zK;exact rfl;exact rfl)|((first|apply zX|apply yD)<;>(first|exact zK|exact rfl|refine yO ?_|exact lb rfl))|apply zV|apply zJ|(apply (zY (p1));(iterate 7 exact rfl);(focus (repeat (first|exact All2.nil|refine All2.cons rfl ?_)));exact rfl;(focus (repeat (first|exact MAs.nil|apply MAs.cons|apply MA.c|exact MC.ptr rfl)));((assumption));((assumption));exact rfl;exact rfl))))
      (refine AWp.Q ?_;((apply AWp.G));(repeat' (first|(apply xW;((exact Want.none_ rfl)))|(apply xF zK;exact rfl;exact rfl)|((first|apply zQ|(apply yB;exact rfl;exact rfl))<;>(first|exact zK|exact Nat.zero_add _|exact rfl|refine yO ?_|(refine Bd.mk ?_;first|assumption|(simp;omega))|exact yP rfl (by (simp;done))))|apply zV|apply zJ|(apply (zY (p2));(iterate 7 exact rfl);(focus (repeat (first|exact All2.nil|refine All2.cons rfl ?_)));exact rfl;(focus (repeat (first|exact MAs.nil|apply MAs.cons|apply MA.c|apply MA.agg|exact MCs.nil|apply MCs.cons|exact MC.ptr rfl|exact MC.vc (VC.imm (Imm.sl _)))));((assumption));((assumption));exact rfl;exact rfl))))
      refine AWp.frz (obj := ⟨3, 1, l.map y4⟩) (n := (l.map y4).length) 7 5 wJ rfl rfl rfl hsl.imm ?_
      (repeat' (first|(apply xW;((exact Want.none_ rfl)))|(apply xF zK;exact rfl;exact rfl)|((first|apply yW|(apply yR;exact rfl;exact rfl)|apply yD)<;>(first|exact zK|exact rfl|refine yO ?_|omega|exact ⟨rfl⟩|exact lb rfl|(refine Bd.mk ?_;(assumption))|(focus (apply oI;exact rfl;exact rfl;assumption))|(focus (simp;done))|(simp;omega)))|apply zV|(refine yN ?_ ?_;kernel_rfl)|apply AWp.Q|apply zJ|apply AWp.G|apply AWp.B|apply AWp.R|apply zL|(refine AWp.D ?_ ?_;kernel_rfl)|(apply AWp.T;exact rfl;(first|exact dT ‹_›|exact rfl))|(apply AWp.F;exact rfl;((exact rfl)))|(apply (zY (p3));(iterate 7 exact rfl);(focus (repeat (first|exact All2.nil|refine All2.cons rfl ?_)));exact rfl;(focus (repeat (first|exact MAs.nil|apply MAs.cons|apply MA.c|exact MC.ptr rfl|exact MC.vc (VC.imm (Imm.v _)))));((assumption));((assumption));exact rfl;exact rfl)|(apply (zY (p5));(iterate 7 exact rfl);(focus (repeat (first|exact All2.nil|refine All2.cons rfl ?_)));exact rfl;(focus (repeat (first|exact MAs.nil|apply MAs.cons|apply MA.c|exact MC.ptr rfl|exact MC.vc (VC.imm (Imm.v _)))));((assumption));((assumption));exact rfl;exact rfl)|(apply (zY (p6));(iterate 7 exact rfl);(focus (repeat (first|exact All2.nil|refine All2.cons rfl ?_)));exact rfl;(focus (repeat (first|exact MAs.nil|apply MAs.cons|apply MA.c|exact MC.ptr rfl)));((assumption));((assumption));exact rfl;exact rfl)))
      (((refine z6 _ [(0, some 1)] (.cons (zT rfl) (.cons (xC rfl rfl rfl zK rfl rfl rfl) (.cons (zT rfl) .nil))) ?_ rfl ?_)) <;> (repeat' (first|exact trivial|exact rfl|apply And.intro|refine ⟨_,rfl,rfl,rfl,OW.one ?_⟩)))
      all_goals exact hcl _
    · by_cases v2 : v = 2
      · subst v2
        have hle : ¬ 1 < ((l.map y4).length : Int) := by have := h2 rfl; omega
        refine PF.enter (xI _) Tryz.func74 rfl (by kernel_rfl) _ _ rfl rfl rfl (fun w0 mu I0 β0 gi dis => ?_)
        (repeat (first|(apply xW;((exact Want.none_ rfl)))|apply AWp.Q|apply AWp.G))
        apply vT
        exact rfl
        (repeat (first|(apply xW;((exact Want.none_ rfl)))|(apply xF zK;exact rfl;exact rfl)|(((apply zX))<;>(first|exact zK|exact rfl|refine yO ?_))|apply zV|apply zJ))
        (refine AWp.Q ?_;((apply AWp.G));(repeat' (first|(apply xW;((exact Want.none_ rfl)))|(apply xF zK;exact rfl;exact rfl)|(((apply yS))<;>(first|exact zK|exact rfl|refine yO ?_|(refine Bd.mk ?_;(focus (simp;done)))))|apply zV|apply zJ)))
        (refine AWp.Q ?_;((apply AWp.G));(repeat' (first|(apply xW;((exact Want.none_ rfl)))|(apply xF zK;exact rfl;exact rfl)|((first|apply zX|apply yD)<;>(first|exact zK|exact rfl|refine yO ?_|exact lb rfl))|apply zV|apply zJ|(apply (zY (p1));(iterate 7 exact rfl);(focus (repeat (first|exact All2.nil|refine All2.cons rfl ?_)));exact rfl;(focus (repeat (first|exact MAs.nil|apply MAs.cons|apply MA.c|exact MC.ptr rfl)));((assumption));((assumption));exact rfl;exact rfl))))
        (refine AWp.Q ?_;((apply AWp.G));(repeat' (first|(apply xW;((exact Want.none_ rfl)))|(apply xF zK;exact rfl;exact rfl)|((first|apply zQ|(apply yB;exact rfl;exact rfl))<;>(first|exact zK|exact Nat.zero_add _|exact rfl|refine yO ?_|(refine Bd.mk ?_;first|assumption|(simp;omega))|exact yP rfl (by (simp;done))))|apply zV|apply zJ|(apply (zY (p2));(iterate 7 exact rfl);(focus (repeat (first|exact All2.nil|refine All2.cons rfl ?_)));exact rfl;(focus (repeat (first|exact MAs.nil|apply MAs.cons|apply MA.c|apply MA.agg|exact MCs.nil|apply MCs.cons|exact MC.ptr rfl|exact MC.vc (VC.imm (Imm.sl _)))));((assumption));((assumption));exact rfl;exact rfl))))
        refine AWp.frz (obj := ⟨3, 1, l.map y4⟩) (n := (l.map y4).length) 7 5 wJ rfl rfl rfl hsl.imm ?_
        (repeat' (first|(apply xW;((exact Want.none_ rfl)))|(apply xF zK;exact rfl;exact rfl)|(((apply yD))<;>(first|exact zK|exact rfl|refine yO ?_|exact lb rfl))|apply zV|(refine yN ?_ ?_;kernel_rfl)|apply AWp.Q|apply zJ|apply AWp.G|apply AWp.B|apply AWp.J|apply AWp.R|apply zL|(refine AWp.D ?_ ?_;kernel_rfl)|(apply AWp.T;exact rfl;((exact rfl)))|(apply AWp.F;exact rfl;(first|exact dF ‹_›|exact rfl))|(apply (zY (p3));(iterate 7 exact rfl);(focus (repeat (first|exact All2.nil|refine All2.cons rfl ?_)));exact rfl;(focus (repeat (first|exact MAs.nil|apply MAs.cons|apply MA.c|exact MC.ptr rfl|exact MC.vc (VC.imm (Imm.v _)))));((assumption));((assumption));exact rfl;exact rfl)|(apply (zY (p5));(iterate 7 exact rfl);(focus (repeat (first|exact All2.nil|refine All2.cons rfl ?_)));exact rfl;(focus (repeat (first|exact MAs.nil|apply MAs.cons|apply MA.c|exact MC.ptr rfl|exact MC.vc (VC.imm (Imm.v _)))));((assumption));((assumption));exact rfl;exact rfl)|(apply (zY (p6));(iterate 7 exact rfl);(focus (repeat (first|exact All2.nil|refine All2.cons rfl ?_)));exact rfl;(focus (repeat (first|exact MAs.nil|apply MAs.cons|apply MA.c|exact MC.ptr rfl)));((assumption));((assumption));exact rfl;exact rfl)))
        (((refine z6 _ [(0, some 1)] (.cons (zT rfl) (.cons (xC rfl rfl rfl zK rfl rfl rfl) (.cons (zT rfl) .nil))) ?_ rfl ?_)) <;> (repeat' (first|exact trivial|exact rfl|apply And.intro|refine ⟨_,rfl,rfl,rfl,OW.one ?_⟩)))
        all_goals exact hcl _
      · have v2' : ¬ (v : Int) = 2 := by omega
        refine PF.enter (xI _) Tryz.func74 rfl (by kernel_rfl) _ _ rfl rfl rfl (fun w0 mu I0 β0 gi dis => ?_)
        (repeat (first|(apply xW;((exact Want.none_ rfl)))|apply AWp.Q|apply AWp.G))
        apply vT
        exact rfl
        (repeat (first|(apply xW;((exact Want.none_ rfl)))|(apply xF zK;exact rfl;exact rfl)|(((apply zX))<;>(first|exact zK|exact rfl|refine yO ?_))|apply zV|apply zJ))
        (refine AWp.Q ?_;((apply AWp.G));(repeat' (first|(apply xW;((exact Want.none_ rfl)))|(apply xF zK;exact rfl;exact rfl)|(((apply yS))<;>(first|exact zK|exact rfl|refine yO ?_|(refine Bd.mk ?_;(focus (simp;done)))))|apply zV|apply zJ)))
        (refine AWp.Q ?_;((apply AWp.G));(repeat' (first|(apply xW;((exact Want.none_ rfl)))|(apply xF zK;exact rfl;exact rfl)|((first|apply zX|apply yD)<;>(first|exact zK|exact rfl|refine yO ?_|exact lb rfl))|apply zV|apply zJ|(apply (zY (p1));(iterate 7 exact rfl);(focus (repeat (first|exact All2.nil|refine All2.cons rfl ?_)));exact rfl;(focus (repeat (first|exact MAs.nil|apply MAs.cons|apply MA.c|exact MC.ptr rfl)));((assumption));((assumption));exact rfl;exact rfl))))
        (refine AWp.Q ?_;((apply AWp.G));(repeat' (first|(apply xW;((exact Want.none_ rfl)))|(apply xF zK;exact rfl;exact rfl)|((first|apply zQ|(apply yB;exact rfl;exact rfl))<;>(first|exact zK|exact Nat.zero_add _|exact rfl|refine yO ?_|(refine Bd.mk ?_;first|assumption|(simp;omega))|exact yP rfl (by (simp;done))))|apply zV|apply zJ|(apply (zY (p2));(iterate 7 exact rfl);(focus (repeat (first|exact All2.nil|refine All2.cons rfl ?_)));exact rfl;(focus (repeat (first|exact MAs.nil|apply MAs.cons|apply MA.c|apply MA.agg|exact MCs.nil|apply MCs.cons|exact MC.ptr rfl|exact MC.vc (VC.imm (Imm.sl _)))));((assumption));((assumption));exact rfl;exact rfl))))
        refine AWp.frz (obj := ⟨3, 1, l.map y4⟩) (n := (l.map y4).length) 7 5 wJ rfl rfl rfl hsl.imm ?_
        (repeat' (first|(apply xW;((exact Want.none_ rfl)))|(apply xF zK;exact rfl;exact rfl)|(((apply yD))<;>(first|exact zK|exact rfl|refine yO ?_|exact lb rfl))|apply zV|(refine yN ?_ ?_;kernel_rfl)|apply AWp.Q|apply zJ|apply AWp.G|apply AWp.B|apply AWp.J|apply AWp.R|apply zL|(refine AWp.D ?_ ?_;kernel_rfl)|(apply AWp.T;exact rfl;((exact rfl)))|(apply AWp.F;exact rfl;((exact dF ‹_›)))|(apply (zY (p3));(iterate 7 exact rfl);(focus (repeat (first|exact All2.nil|refine All2.cons rfl ?_)));exact rfl;(focus (repeat (first|exact MAs.nil|apply MAs.cons|apply MA.c|exact MC.ptr rfl|exact MC.vc (VC.imm (Imm.v _)))));((assumption));((assumption));exact rfl;exact rfl)|(apply (zY (p5));(iterate 7 exact rfl);(focus (repeat (first|exact All2.nil|refine All2.cons rfl ?_)));exact rfl;(focus (repeat (first|exact MAs.nil|apply MAs.cons|apply MA.c|exact MC.ptr rfl|exact MC.vc (VC.imm (Imm.v _)))));((assumption));((assumption));exact rfl;exact rfl)|(apply (zY (p6));(iterate 7 exact rfl);(focus (repeat (first|exact All2.nil|refine All2.cons rfl ?_)));exact rfl;(focus (repeat (first|exact MAs.nil|apply MAs.cons|apply MA.c|exact MC.ptr rfl)));((assumption));((assumption));exact rfl;exact rfl)|(((refine AWp.C rfl ?_ ?_))<;>intro hp<;>try (exfalso;omega))))
        (((refine z6 _ [(0, some 1)] (.cons (zT rfl) (.cons (xC rfl rfl rfl zK rfl rfl rfl) (.cons (zT rfl) .nil))) ?_ rfl ?_)) <;> (repeat' (first|exact trivial|exact rfl|apply And.intro|refine ⟨_,rfl,rfl,rfl,OW.one ?_⟩)))
        all_goals exact hcl _
end Go.Proofs.YtchpdclknbmdoaaGreatDoor
