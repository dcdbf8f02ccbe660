/- What is drawn for IsSegmentation. -/
import Derived.Test.YtchpdclknbmdoaaGreatDoorSgG
import Derived.Test.YtchpdclknbmdoaaGreatDoorFwD
namespace Go.Proofs.YtchpdclknbmdoaaGreatDoor
open Go Go.RowKit
def PB (p : Pc) : Prop := (0 ≤ p.f ∧ p.f ≤ 1000000) ∧ 0 ≤ p.n ∧ p.n ≤ 1000000
theorem fwF_mem {es : List Ent} {l : List Int} : ∀ (k f : Nat), l.length ≤ f + k → ∀ p ∈ fwF es l f, ∃ a : Nat, a < l.length ∧ p = kT es l a
  | 0, f, h, p, hp => by rw [fwF_end (by omega)] at hp; cases hp
  | k + 1, f, h, p, hp => by
    by_cases hf : f < l.length
    · rw [fwF_step hf] at hp
      rcases List.mem_cons.1 hp with rfl | hp
      · exact ⟨f, hf, rfl⟩
      · have := (q9 es l f).1
        exact fwF_mem k _ (by omega) p hp
    · rw [fwF_end (by omega)] at hp; cases hp
theorem few_PB {es : List Ent} {l : List Int} (hl : l.length ≤ 1000) : ∀ p ∈ few es l, PB p := fun p hp => by
  obtain ⟨a, ha, rfl⟩ := fwF_mem l.length 0 (by omega) p hp
  obtain ⟨_, _, h3, h4⟩ := q9 es l a
  have := h3 (by omega)
  have hf : (kT es l a).f = (a : Int) := by unfold kT pcC; split <;> rfl
  refine ⟨⟨by omega, by omega⟩, by omega, by omega⟩
theorem seg_PB {es : List Ent} {l : List Int} (hl : l.length ≤ 1000) : ∀ p ∈ seg es l, PB p := fun p hp => by
  obtain ⟨a, h1, h2, rfl⟩ := segF_mem l.length 0 (by omega) p hp
  obtain ⟨c1, c2, c3, c4, _⟩ := vI es l a
  refine ⟨⟨by omega, by omega⟩, by omega, by omega⟩
section
variable (es : List Ent) (l : List Int) (hb : wX es) (hl : l.length ≤ 102)
include hb hl
theorem segAny_ex : ∃ (B : List Pc) (m : Bool), B.length ≤ 102 ∧ (∀ p ∈ B, PB p) ∧ PF Tryz.prog 43 [.agg (x3 es), .c (.sl (l.map yU))] [⟨55, 3, B.map xQ⟩] (.tup [.c (.ref 0 0 B.length), .c (boo m)]) := by
  cases h : mchOk es l with
  | true => exact ⟨seg es l, true, by have := segF_len es l 0; unfold seg; omega, seg_PB (by omega), specSegY_pf es l hb (by omega) h⟩
  | false => exact ⟨[], false, by simp, (fun p hp => by cases hp), specSegN_pf es l hb (by omega) h⟩
theorem specFewN_pf (h : mchOk es l = false) : PF Tryz.prog 14 [.agg (x3 es), .c (.sl (l.map yU))] [⟨55, 3, []⟩] (.tup [.c (.ref 0 0 0), .c (boo false)]) := by
  have h1 := vD es hb
  have h2 := wI l (by omega)
  rcases mchOk_no h with e1 | ⟨e1, e2⟩
  · rw [e1] at h1
    refine PF.enter (xX _ _) Tryz.func14 rfl (by kernel_rfl) _ _ rfl rfl rfl (fun w0 mu I0 β0 gi dis => ?_)
    (repeat' (first|(apply xW;((exact Want.none_ rfl)))|(apply xF zI;exact rfl;exact rfl)|(((apply zT))<;>(first|exact zI|exact rfl|refine yI ?_))|(apply y4;exact rfl;exact rfl;((exact rfl));exact rfl;exact rfl)|(apply y3;(iterate 5 exact rfl);((exact rfl)))|apply zS|apply AWp.Q|apply zH|apply AWp.G|apply AWp.R|apply zK|(apply AWp.T;exact rfl;((exact rfl)))|(apply yD;(iterate 6 exact rfl);(iterate 2 (focus (repeat (first|exact VAs.nil|apply VAs.cons|apply VA.agg|exact VCs.nil|apply VCs.cons|exact VC.imm (Imm.sl _)))));((exact h1));(focus (repeat ((exact Flat.v _))));((apply yM));((exact xE _ _)))))
    (((refine zX _ [(0, some 1)] (.cons (zP rfl) (.cons (zP rfl) .nil)) ?_ rfl ?_)) <;> (repeat' (first|exact trivial|exact rfl|apply And.intro|refine oWs rfl rfl rfl ?_ ?_|(refine aIm ?_;(exact AllSc.nil)))))
  · rw [e1] at h1
    rw [e2] at h2
    refine PF.enter (xX _ _) Tryz.func14 rfl (by kernel_rfl) _ _ rfl rfl rfl (fun w0 mu I0 β0 gi dis => ?_)
    (repeat' (first|(apply xW;(first|exact Want.none_ rfl|(refine z6 rfl rfl rfl rfl ?_;((exact rfl)))))|(apply xF zI;exact rfl;exact rfl)|(((apply zT))<;>(first|exact zI|exact rfl|refine yI ?_))|(apply y4;exact rfl;exact rfl;((exact rfl));exact rfl;exact rfl)|apply zS|apply AWp.Q|apply zH|apply AWp.G|apply AWp.R|apply zK|(apply AWp.T;exact rfl;((exact rfl)))|(apply yD;(iterate 6 exact rfl);(iterate 2 (focus (repeat (first|exact VAs.nil|apply VAs.cons|apply VA.c|apply VA.agg|exact VCs.nil|apply VCs.cons|exact VC.imm (Imm.sl _)))));(first|exact h1|exact h2);(focus (repeat ((exact Flat.v _))));((apply yM));((exact xE _ _)))))
    (((refine zX _ [(0, some 1)] (.cons (zP rfl) (.cons (zP rfl) .nil)) ?_ rfl ?_)) <;> (repeat' (first|exact trivial|exact rfl|apply And.intro|refine oWs rfl rfl rfl ?_ ?_|(refine aIm ?_;(exact AllSc.nil)))))
theorem fewAny_ex : ∃ (B : List Pc) (m : Bool), B.length ≤ 102 ∧ (∀ p ∈ B, PB p) ∧ PF Tryz.prog 14 [.agg (x3 es), .c (.sl (l.map yU))] [⟨55, 3, B.map xQ⟩] (.tup [.c (.ref 0 0 B.length), .c (boo m)]) := by
  cases h : mchOk es l with
  | true => exact ⟨few es l, true, by have := fwF_len es l 0; unfold few; omega, few_PB (by omega), specFew_pf es l hb (by omega) h⟩
  | false => exact ⟨[], false, by simp, (fun p hp => by cases hp), specFewN_pf es l hb hl h⟩
end
theorem PB_at {A : List Pc} {k : Nat} {p : Pc} (h : ∀ p ∈ A, PB p) (hp : A[k]? = some p) : PB p := h p (List.mem_of_getElem? hp)
set_option maxHeartbeats 16000000 in
theorem drawIs_ex (code : List UInt8) (hl : code.length ≤ 65536) : ∃ (es : List Ent) (l : List Int) (ps : List Pc) (n : Nat), wX es ∧ l.length ≤ 102 ∧ ps.length ≤ 102 ∧ n ≤ ps.length ∧
    PF Tryz.prog 47 [.c (.sl (code.map wR))] [⟨3, 1, l.map yU⟩, ⟨55, 3, ps.map xQ⟩] (.tup [.agg (x3 es), .c (.ref 0 0 l.length), .c (.ref 1 0 n)]) := by
  have a0 : c00.a = 0 := rfl
  obtain ⟨c1, es, a1, ⟨hes, he8⟩, p1⟩ := anyDictionary_ex code c00 hl (by omega)
  obtain ⟨c2, l, a2, hll, p2⟩ := anyStrokes_ex code hl es hes he8 c1 (by omega)
  obtain ⟨c3, b, a3, p3⟩ := qV code c2 hl (by omega) 2 (by omega)
  have hB : wX es := ⟨by omega, fun e he => ⟨by have := (he8 e he).1; omega, by have := (he8 e he).2.2; omega⟩⟩
  obtain ⟨B, m1, hB1, hB2, hS⟩ := segAny_ex es l hB hll
  obtain ⟨C, m2, hC1, hC2, hF⟩ := fewAny_ex es l hB hll
  have hcl : ∀ q : Cur, ∀ x ∈ (xR code q).els, ∀ c ∈ x, Imm c := fun q => yG code q
  have hsc := xI l
  have hsB := wA B
  have hsC := wA C
  have i1 := y6 (hcl c1)
  have i2 := vP (b := ⟨3, 1, l.map yU⟩) (hcl c2) hsc.imm
  have i3 := y6 (hcl c3)
  have j0 := x6 (hcl c00)
  have j1 := x6 (hcl c1)
  have j2 := x6 (hcl c2)
  have j3 := x6 (hcl c3)
  have st : ∃ A : List Pc, A.length ≤ 102 ∧ (∀ p ∈ A, PB p) ∧ ((b = false ∧ A = B) ∨ (b = true ∧ A = C)) := by
    cases b with
    | false => exact ⟨B, hB1, hB2, .inl ⟨rfl, rfl⟩⟩
    | true => exact ⟨C, hC1, hC2, .inr ⟨rfl, rfl⟩⟩
  obtain ⟨A, hA1, hA2, hcase⟩ := st
  have hsA := wA A
  have hLA : (A.map xQ).length = A.length := List.length_map _
  by_cases h0 : 0 < A.length
  · have h0' : (0 : Int) < (A.length : Int) := by omega
    obtain ⟨c4, b4, a4, p4⟩ := qV code c3 hl (by omega) 2 (by omega)
    have i4 := y6 (hcl c4)
    have j4 := x6 (hcl c4)
    cases b4 with
    | false =>
      refine ⟨es, l, A, A.length, hB, hll, hA1, Nat.le_refl _, ?_⟩
      rcases hcase with ⟨rfl, rfl⟩ | ⟨rfl, rfl⟩
      all_goals refine PF.enter (xM _) Tryz.func47 rfl (by kernel_rfl) _ _ rfl rfl rfl (fun w0 mu I0 β0 gi dis => ?_)
      all_goals (repeat' (first|(apply xW;(first|exact Want.none_ rfl|(refine z6 rfl rfl rfl rfl ?_;((exact dT ‹_›)))))|(apply xF zI;exact rfl;exact rfl)|((first|apply yS|apply zV|apply yE)<;>(first|exact zI|exact rfl|refine yI ?_|exact lb rfl|(refine Bd.mk ?_;(focus (simp;done)))))|(apply y4;exact rfl;exact rfl;((exact dT ‹_›));exact rfl;exact rfl)|apply zS|apply AWp.Q|apply zH|apply AWp.G|apply AWp.J|apply AWp.R|(apply AWp.T;exact rfl;((exact rfl)))|(apply AWp.F;exact rfl;((exact rfl)))|(apply (zZ (p1));(iterate 7 exact rfl);(focus (repeat (first|exact All2.nil|refine All2.cons rfl ?_)));exact rfl;(focus (repeat (first|exact MAs.nil|apply MAs.cons|apply MA.c|exact MC.ptr rfl)));((assumption));((assumption));exact rfl;exact rfl)|(apply (zZ (p2));(iterate 7 exact rfl);(focus (repeat (first|exact All2.nil|refine All2.cons rfl ?_)));exact rfl;(focus (repeat (first|exact MAs.nil|apply MAs.cons|apply MA.c|apply MA.agg|exact MCs.nil|apply MCs.cons|exact MC.ptr rfl|exact MC.vc (VC.imm (Imm.sl _)))));((assumption));((assumption));exact rfl;exact rfl)|(apply (zZ (p3));(iterate 7 exact rfl);(focus (repeat (first|exact All2.nil|refine All2.cons rfl ?_)));exact rfl;(focus (repeat (first|exact MAs.nil|apply MAs.cons|apply MA.c|exact MC.ptr rfl|exact MC.vc (VC.imm (Imm.v _)))));((assumption));((assumption));exact rfl;exact rfl)|(apply (zZ (p4));(iterate 7 exact rfl);(focus (repeat (first|exact All2.nil|refine All2.cons rfl ?_)));exact rfl;(focus (repeat (first|exact MAs.nil|apply MAs.cons|apply MA.c|exact MC.ptr rfl|exact MC.vc (VC.imm (Imm.v _)))));((assumption));((assumption));exact rfl;exact rfl)|(apply yD;(iterate 6 exact rfl);(iterate 2 (focus (repeat (first|exact VAs.nil|apply VAs.cons|apply VA.c|apply VA.agg|exact VCs.nil|apply VCs.cons|exact VC.imm (Imm.sl _)|(apply zB;exact rfl;exact rfl;((focus (simp;done)));exact rfl;((refine aIm ?_;assumption)))))));(first|exact hS|exact hF);(focus (repeat (first|exact trivial|exact Flat.v _|exact Flat.ref _ _ _|apply And.intro)));((apply yK;(focus (repeat (first|exact trivial|apply And.intro|((assumption)))))));((exact yX _ _ _ _ _)))))
      · (((refine zX _ [(0, some 3), (1, some 4)] (.cons (yY rfl rfl rfl zI rfl rfl rfl) (.cons (zP rfl) (.cons (zP rfl) .nil))) ?_ rfl ?_)) <;> (repeat' (first|exact trivial|exact rfl|apply And.intro|refine oWs rfl rfl rfl ?_ ?_|(refine aIm ?_;(assumption)))))
        all_goals first | exact hsc.imm | exact hsA.imm | skip
      · (((refine zX _ [(0, some 3), (1, some 5)] (.cons (yY rfl rfl rfl zI rfl rfl rfl) (.cons (zP rfl) (.cons (zP rfl) .nil))) ?_ rfl ?_)) <;> (repeat' (first|exact trivial|exact rfl|apply And.intro|refine oWs rfl rfl rfl ?_ ?_|(refine aIm ?_;(assumption)))))
        all_goals first | exact hsc.imm | exact hsA.imm | skip
    | true =>
      obtain ⟨c5, k, a5, hk, p5⟩ := wD code c4 hl (by omega) A.length (by omega)
      obtain ⟨c6, w, a6, hw, p6⟩ := wD code c5 hl (by omega) 4 (by omega)
      have i5 := y6 (hcl c5)
      have j5 := x6 (hcl c5)
      have i6 := y6 (hcl c6)
      have j6 := x6 (hcl c6)
      obtain ⟨p, hp⟩ := xY hk
      have hp' : (A.map xQ)[k]? = some (xQ p) := xS hp
      obtain ⟨⟨q1, q2⟩, q3, q4⟩ := PB_at hA2 hp
      have hw4 : w = 0 ∨ w = 1 ∨ w = 2 ∨ w = 3 := by omega
      rcases hw4 with rfl | rfl | rfl | rfl
      · refine ⟨es, l, A.set k ⟨p.f, p.n + 1, p.t⟩, A.length, hB, hll, by rw [List.length_set]; omega, by rw [List.length_set]; omega, ?_⟩
        rcases hcase with ⟨rfl, rfl⟩ | ⟨rfl, rfl⟩
        all_goals refine PF.enter (xM _) Tryz.func47 rfl (by kernel_rfl) _ _ rfl rfl rfl (fun w0 mu I0 β0 gi dis => ?_)
        all_goals (repeat' (first|(apply xW;(first|exact Want.none_ rfl|(refine z6 rfl rfl rfl rfl ?_;((exact dT ‹_›)))))|(apply xF zI;exact rfl;exact rfl)|((first|apply z8|apply zW|(apply zU;exact rfl;exact rfl;exact zI;exact rfl;exact rfl)|apply yS|apply zV|apply yE)<;>(first|exact zI|exact Nat.zero_add _|exact rfl|refine yI ?_|assumption|omega|exact lb rfl|(refine Bd.mk ?_;(focus (simp;done)))))|(apply y4;exact rfl;exact rfl;((exact dT ‹_›));exact rfl;exact rfl)|apply zS|apply AWp.Q|apply zH|apply AWp.G|apply AWp.B|apply AWp.J|apply AWp.R|apply zJ|(apply AWp.T;exact rfl;((exact rfl)))|(apply AWp.F;exact rfl;((exact rfl)))|(apply (zZ (p1));(iterate 7 exact rfl);(focus (repeat (first|exact All2.nil|refine All2.cons rfl ?_)));exact rfl;(focus (repeat (first|exact MAs.nil|apply MAs.cons|apply MA.c|exact MC.ptr rfl)));((assumption));((assumption));exact rfl;exact rfl)|(apply (zZ (p2));(iterate 7 exact rfl);(focus (repeat (first|exact All2.nil|refine All2.cons rfl ?_)));exact rfl;(focus (repeat (first|exact MAs.nil|apply MAs.cons|apply MA.c|apply MA.agg|exact MCs.nil|apply MCs.cons|exact MC.ptr rfl|exact MC.vc (VC.imm (Imm.sl _)))));((assumption));((assumption));exact rfl;exact rfl)|(apply (zZ (p3));(iterate 7 exact rfl);(focus (repeat (first|exact All2.nil|refine All2.cons rfl ?_)));exact rfl;(focus (repeat (first|exact MAs.nil|apply MAs.cons|apply MA.c|exact MC.ptr rfl|exact MC.vc (VC.imm (Imm.v _)))));((assumption));((assumption));exact rfl;exact rfl)|(apply (zZ (p4));(iterate 7 exact rfl);(focus (repeat (first|exact All2.nil|refine All2.cons rfl ?_)));exact rfl;(focus (repeat (first|exact MAs.nil|apply MAs.cons|apply MA.c|exact MC.ptr rfl|exact MC.vc (VC.imm (Imm.v _)))));((assumption));((assumption));exact rfl;exact rfl)|(apply (zZ (p5));(iterate 7 exact rfl);(focus (repeat (first|exact All2.nil|refine All2.cons rfl ?_)));exact rfl;(focus (repeat (first|exact MAs.nil|apply MAs.cons|apply MA.c|exact MC.ptr rfl|exact MC.vc (VC.imm (Imm.v _)))));((assumption));((assumption));exact rfl;exact rfl)|(apply (zZ (p6));(iterate 7 exact rfl);(focus (repeat (first|exact All2.nil|refine All2.cons rfl ?_)));exact rfl;(focus (repeat (first|exact MAs.nil|apply MAs.cons|apply MA.c|exact MC.ptr rfl|exact MC.vc (VC.imm (Imm.v _)))));((assumption));((assumption));exact rfl;exact rfl)|(apply yD;(iterate 6 exact rfl);(iterate 2 (focus (repeat (first|exact VAs.nil|apply VAs.cons|apply VA.c|apply VA.agg|exact VCs.nil|apply VCs.cons|exact VC.imm (Imm.sl _)|(apply zB;exact rfl;exact rfl;((focus (simp;done)));exact rfl;((refine aIm ?_;assumption)))))));(first|exact hS|exact hF);(focus (repeat (first|exact trivial|exact Flat.v _|exact Flat.ref _ _ _|apply And.intro)));((apply yK;(focus (repeat (first|exact trivial|apply And.intro|((assumption)))))));((exact yX _ _ _ _ _)))))
        · (((refine zX _ [(0, some 3), (1, some 4)] (.cons (yY rfl rfl rfl zI rfl rfl rfl) (.cons (zP rfl) (.cons (zP rfl) .nil))) ?_ rfl ?_)) <;> (repeat' (first|exact trivial|exact rfl|apply And.intro|refine oWs rfl rfl rfl ?_ ?_|(refine aIm ?_;(assumption)))))
          all_goals first | exact hsc.imm | exact (wA _).imm | (show (A.map xQ).set k (xQ ⟨p.f, p.n + 1, p.t⟩) = _; exact (List.map_set ..).symm) | skip
        · (((refine zX _ [(0, some 3), (1, some 5)] (.cons (yY rfl rfl rfl zI rfl rfl rfl) (.cons (zP rfl) (.cons (zP rfl) .nil))) ?_ rfl ?_)) <;> (repeat' (first|exact trivial|exact rfl|apply And.intro|refine oWs rfl rfl rfl ?_ ?_|(refine aIm ?_;(assumption)))))
          all_goals first | exact hsc.imm | exact (wA _).imm | (show (A.map xQ).set k (xQ ⟨p.f, p.n + 1, p.t⟩) = _; exact (List.map_set ..).symm) | skip
      · obtain ⟨c7, x, a7, _, p7⟩ := qX code c6 hl (by omega) [[], [99, 97, 116]] (by decide)
        have i7 := vP (b := ⟨9, 1, [[], [99, 97, 116]].map wG⟩) (hcl c7) (x4 [[], [99, 97, 116]]).imm
        have j7 := kF (b := ⟨9, 1, [[], [99, 97, 116]].map wG⟩) (hcl c6) (x4 [[], [99, 97, 116]]).imm
        refine ⟨es, l, A.set k ⟨p.f, p.n, x⟩, A.length, hB, hll, by rw [List.length_set]; omega, by rw [List.length_set]; omega, ?_⟩
        rcases hcase with ⟨rfl, rfl⟩ | ⟨rfl, rfl⟩
        all_goals refine PF.enter (xM _) Tryz.func47 rfl (by kernel_rfl) _ _ rfl rfl rfl (fun w0 mu I0 β0 gi dis => ?_)
        all_goals (repeat' (first|(apply xW;(first|exact Want.none_ rfl|(refine z6 rfl rfl rfl rfl ?_;((exact dT ‹_›)))))|(apply xF zI;exact rfl;exact rfl)|((first|apply zW|apply yS|apply zT|apply zV|apply yE)<;>(first|exact zI|exact Nat.zero_add _|exact rfl|refine yI ?_|assumption|exact lb rfl|(refine Bd.mk ?_;(focus (simp;done)))))|(apply y4;exact rfl;exact rfl;((exact dT ‹_›));exact rfl;exact rfl)|apply zS|apply AWp.Q|apply zH|apply AWp.G|apply AWp.B|apply AWp.J|apply AWp.R|apply zJ|(apply AWp.T;exact rfl;((exact rfl)))|(apply AWp.F;exact rfl;((exact rfl)))|(apply (zZ (p1));(iterate 7 exact rfl);(focus (repeat (first|exact All2.nil|refine All2.cons rfl ?_)));exact rfl;(focus (repeat (first|exact MAs.nil|apply MAs.cons|apply MA.c|exact MC.ptr rfl)));((assumption));((assumption));exact rfl;exact rfl)|(apply (zZ (p2));(iterate 7 exact rfl);(focus (repeat (first|exact All2.nil|refine All2.cons rfl ?_)));exact rfl;(focus (repeat (first|exact MAs.nil|apply MAs.cons|apply MA.c|apply MA.agg|exact MCs.nil|apply MCs.cons|exact MC.ptr rfl|exact MC.vc (VC.imm (Imm.sl _)))));((assumption));((assumption));exact rfl;exact rfl)|(apply (zZ (p3));(iterate 7 exact rfl);(focus (repeat (first|exact All2.nil|refine All2.cons rfl ?_)));exact rfl;(focus (repeat (first|exact MAs.nil|apply MAs.cons|apply MA.c|exact MC.ptr rfl|exact MC.vc (VC.imm (Imm.v _)))));((assumption));((assumption));exact rfl;exact rfl)|(apply (zZ (p4));(iterate 7 exact rfl);(focus (repeat (first|exact All2.nil|refine All2.cons rfl ?_)));exact rfl;(focus (repeat (first|exact MAs.nil|apply MAs.cons|apply MA.c|exact MC.ptr rfl|exact MC.vc (VC.imm (Imm.v _)))));((assumption));((assumption));exact rfl;exact rfl)|(apply (zZ (p5));(iterate 7 exact rfl);(focus (repeat (first|exact All2.nil|refine All2.cons rfl ?_)));exact rfl;(focus (repeat (first|exact MAs.nil|apply MAs.cons|apply MA.c|exact MC.ptr rfl|exact MC.vc (VC.imm (Imm.v _)))));((assumption));((assumption));exact rfl;exact rfl)|(apply (zZ (p6));(iterate 7 exact rfl);(focus (repeat (first|exact All2.nil|refine All2.cons rfl ?_)));exact rfl;(focus (repeat (first|exact MAs.nil|apply MAs.cons|apply MA.c|exact MC.ptr rfl|exact MC.vc (VC.imm (Imm.v _)))));((assumption));((assumption));exact rfl;exact rfl)|(apply (zZ (p7));(iterate 7 exact rfl);(focus (repeat (first|exact All2.nil|refine All2.cons rfl ?_)));exact rfl;(focus (repeat (first|exact MAs.nil|apply MAs.cons|apply MA.c|exact MC.ref rfl|exact MC.ptr rfl)));((assumption));((assumption));exact rfl;exact rfl)|(apply yD;(iterate 6 exact rfl);(iterate 2 (focus (repeat (first|exact VAs.nil|apply VAs.cons|apply VA.c|apply VA.agg|exact VCs.nil|apply VCs.cons|exact VC.imm (Imm.sl _)|(apply zB;exact rfl;exact rfl;((focus (simp;done)));exact rfl;((refine aIm ?_;assumption)))))));(first|exact hS|exact hF);(focus (repeat (first|exact trivial|exact Flat.v _|exact Flat.ref _ _ _|apply And.intro)));((apply yK;(focus (repeat (first|exact trivial|apply And.intro|((assumption)))))));((exact yX _ _ _ _ _)))))
        · (((refine zX _ [(0, some 3), (1, some 4)] (.cons (yY rfl rfl rfl zI rfl rfl rfl) (.cons (zP rfl) (.cons (zP rfl) .nil))) ?_ rfl ?_)) <;> (repeat' (first|exact trivial|exact rfl|apply And.intro|refine oWs rfl rfl rfl ?_ ?_|(refine aIm ?_;(assumption)))))
          all_goals first | exact hsc.imm | exact (wA _).imm | (show (A.map xQ).set k (xQ ⟨p.f, p.n, x⟩) = _; exact (List.map_set ..).symm) | skip
        · (((refine zX _ [(0, some 3), (1, some 5)] (.cons (yY rfl rfl rfl zI rfl rfl rfl) (.cons (zP rfl) (.cons (zP rfl) .nil))) ?_ rfl ?_)) <;> (repeat' (first|exact trivial|exact rfl|apply And.intro|refine oWs rfl rfl rfl ?_ ?_|(refine aIm ?_;(assumption)))))
          all_goals first | exact hsc.imm | exact (wA _).imm | (show (A.map xQ).set k (xQ ⟨p.f, p.n, x⟩) = _; exact (List.map_set ..).symm) | skip
      · refine ⟨es, l, A, k, hB, hll, hA1, by omega, ?_⟩
        rcases hcase with ⟨rfl, rfl⟩ | ⟨rfl, rfl⟩
        all_goals refine PF.enter (xM _) Tryz.func47 rfl (by kernel_rfl) _ _ rfl rfl rfl (fun w0 mu I0 β0 gi dis => ?_)
        all_goals (repeat' (first|(apply xW;(first|exact Want.none_ rfl|(refine z6 rfl rfl rfl rfl ?_;((exact dT ‹_›)))))|(apply xF zI;exact rfl;exact rfl)|((first|apply yS|apply zV|apply yP|apply yE)<;>(first|exact zI|exact rfl|refine yI ?_|omega|exact ⟨rfl⟩|exact ⟨rfl,_,_,rfl,rfl⟩|exact lb rfl|(refine Bd.mk ?_;(focus (simp;done)))))|(apply y4;exact rfl;exact rfl;((exact dT ‹_›));exact rfl;exact rfl)|apply zS|apply AWp.Q|apply zH|apply AWp.G|apply AWp.B|apply AWp.J|apply AWp.R|apply zJ|(apply AWp.T;exact rfl;((exact rfl)))|(apply AWp.F;exact rfl;((exact rfl)))|(apply (zZ (p1));(iterate 7 exact rfl);(focus (repeat (first|exact All2.nil|refine All2.cons rfl ?_)));exact rfl;(focus (repeat (first|exact MAs.nil|apply MAs.cons|apply MA.c|exact MC.ptr rfl)));((assumption));((assumption));exact rfl;exact rfl)|(apply (zZ (p2));(iterate 7 exact rfl);(focus (repeat (first|exact All2.nil|refine All2.cons rfl ?_)));exact rfl;(focus (repeat (first|exact MAs.nil|apply MAs.cons|apply MA.c|apply MA.agg|exact MCs.nil|apply MCs.cons|exact MC.ptr rfl|exact MC.vc (VC.imm (Imm.sl _)))));((assumption));((assumption));exact rfl;exact rfl)|(apply (zZ (p3));(iterate 7 exact rfl);(focus (repeat (first|exact All2.nil|refine All2.cons rfl ?_)));exact rfl;(focus (repeat (first|exact MAs.nil|apply MAs.cons|apply MA.c|exact MC.ptr rfl|exact MC.vc (VC.imm (Imm.v _)))));((assumption));((assumption));exact rfl;exact rfl)|(apply (zZ (p4));(iterate 7 exact rfl);(focus (repeat (first|exact All2.nil|refine All2.cons rfl ?_)));exact rfl;(focus (repeat (first|exact MAs.nil|apply MAs.cons|apply MA.c|exact MC.ptr rfl|exact MC.vc (VC.imm (Imm.v _)))));((assumption));((assumption));exact rfl;exact rfl)|(apply (zZ (p5));(iterate 7 exact rfl);(focus (repeat (first|exact All2.nil|refine All2.cons rfl ?_)));exact rfl;(focus (repeat (first|exact MAs.nil|apply MAs.cons|apply MA.c|exact MC.ptr rfl|exact MC.vc (VC.imm (Imm.v _)))));((assumption));((assumption));exact rfl;exact rfl)|(apply (zZ (p6));(iterate 7 exact rfl);(focus (repeat (first|exact All2.nil|refine All2.cons rfl ?_)));exact rfl;(focus (repeat (first|exact MAs.nil|apply MAs.cons|apply MA.c|exact MC.ptr rfl|exact MC.vc (VC.imm (Imm.v _)))));((assumption));((assumption));exact rfl;exact rfl)|(apply yD;(iterate 6 exact rfl);(iterate 2 (focus (repeat (first|exact VAs.nil|apply VAs.cons|apply VA.c|apply VA.agg|exact VCs.nil|apply VCs.cons|exact VC.imm (Imm.sl _)|(apply zB;exact rfl;exact rfl;((focus (simp;done)));exact rfl;((refine aIm ?_;assumption)))))));(first|exact hS|exact hF);(focus (repeat (first|exact trivial|exact Flat.v _|exact Flat.ref _ _ _|apply And.intro)));((apply yK;(focus (repeat (first|exact trivial|apply And.intro|((assumption)))))));((exact yX _ _ _ _ _)))))
        · (((refine zX _ [(0, some 3), (1, some 4)] (.cons (yY rfl rfl rfl zI rfl rfl rfl) (.cons (zP rfl) (.cons (zP rfl) .nil))) ?_ rfl ?_)) <;> (repeat' (first|exact trivial|exact rfl|apply And.intro|refine oWs rfl rfl rfl ?_ ?_|(refine aIm ?_;(assumption)))))
          all_goals first | exact hsc.imm | exact hsA.imm | skip
        · (((refine zX _ [(0, some 3), (1, some 5)] (.cons (yY rfl rfl rfl zI rfl rfl rfl) (.cons (zP rfl) (.cons (zP rfl) .nil))) ?_ rfl ?_)) <;> (repeat' (first|exact trivial|exact rfl|apply And.intro|refine oWs rfl rfl rfl ?_ ?_|(refine aIm ?_;(assumption)))))
          all_goals first | exact hsc.imm | exact hsA.imm | skip
      · refine ⟨es, l, A.set k ⟨p.f - 1, p.n, p.t⟩, A.length, hB, hll, by rw [List.length_set]; omega, by rw [List.length_set]; omega, ?_⟩
        rcases hcase with ⟨rfl, rfl⟩ | ⟨rfl, rfl⟩
        all_goals refine PF.enter (xM _) Tryz.func47 rfl (by kernel_rfl) _ _ rfl rfl rfl (fun w0 mu I0 β0 gi dis => ?_)
        all_goals (repeat' (first|(apply xW;(first|exact Want.none_ rfl|(refine z6 rfl rfl rfl rfl ?_;((exact dT ‹_›)))))|(apply xF zI;exact rfl;exact rfl)|((first|apply yZ|apply zW|(apply zU;exact rfl;exact rfl;exact zI;exact rfl;exact rfl)|apply yS|apply zV|apply yE)<;>(first|exact zI|exact Nat.zero_add _|exact rfl|refine yI ?_|assumption|omega|exact lb rfl|(refine Bd.mk ?_;(focus (simp;done)))))|(apply y4;exact rfl;exact rfl;((exact dT ‹_›));exact rfl;exact rfl)|apply zS|apply AWp.Q|apply zH|apply AWp.G|apply AWp.B|apply AWp.J|apply AWp.R|apply zJ|(apply AWp.T;exact rfl;((exact rfl)))|(apply AWp.F;exact rfl;((exact rfl)))|(apply (zZ (p1));(iterate 7 exact rfl);(focus (repeat (first|exact All2.nil|refine All2.cons rfl ?_)));exact rfl;(focus (repeat (first|exact MAs.nil|apply MAs.cons|apply MA.c|exact MC.ptr rfl)));((assumption));((assumption));exact rfl;exact rfl)|(apply (zZ (p2));(iterate 7 exact rfl);(focus (repeat (first|exact All2.nil|refine All2.cons rfl ?_)));exact rfl;(focus (repeat (first|exact MAs.nil|apply MAs.cons|apply MA.c|apply MA.agg|exact MCs.nil|apply MCs.cons|exact MC.ptr rfl|exact MC.vc (VC.imm (Imm.sl _)))));((assumption));((assumption));exact rfl;exact rfl)|(apply (zZ (p3));(iterate 7 exact rfl);(focus (repeat (first|exact All2.nil|refine All2.cons rfl ?_)));exact rfl;(focus (repeat (first|exact MAs.nil|apply MAs.cons|apply MA.c|exact MC.ptr rfl|exact MC.vc (VC.imm (Imm.v _)))));((assumption));((assumption));exact rfl;exact rfl)|(apply (zZ (p4));(iterate 7 exact rfl);(focus (repeat (first|exact All2.nil|refine All2.cons rfl ?_)));exact rfl;(focus (repeat (first|exact MAs.nil|apply MAs.cons|apply MA.c|exact MC.ptr rfl|exact MC.vc (VC.imm (Imm.v _)))));((assumption));((assumption));exact rfl;exact rfl)|(apply (zZ (p5));(iterate 7 exact rfl);(focus (repeat (first|exact All2.nil|refine All2.cons rfl ?_)));exact rfl;(focus (repeat (first|exact MAs.nil|apply MAs.cons|apply MA.c|exact MC.ptr rfl|exact MC.vc (VC.imm (Imm.v _)))));((assumption));((assumption));exact rfl;exact rfl)|(apply (zZ (p6));(iterate 7 exact rfl);(focus (repeat (first|exact All2.nil|refine All2.cons rfl ?_)));exact rfl;(focus (repeat (first|exact MAs.nil|apply MAs.cons|apply MA.c|exact MC.ptr rfl|exact MC.vc (VC.imm (Imm.v _)))));((assumption));((assumption));exact rfl;exact rfl)|(apply yD;(iterate 6 exact rfl);(iterate 2 (focus (repeat (first|exact VAs.nil|apply VAs.cons|apply VA.c|apply VA.agg|exact VCs.nil|apply VCs.cons|exact VC.imm (Imm.sl _)|(apply zB;exact rfl;exact rfl;((focus (simp;done)));exact rfl;((refine aIm ?_;assumption)))))));(first|exact hS|exact hF);(focus (repeat (first|exact trivial|exact Flat.v _|exact Flat.ref _ _ _|apply And.intro)));((apply yK;(focus (repeat (first|exact trivial|apply And.intro|((assumption)))))));((exact yX _ _ _ _ _)))))
        · (((refine zX _ [(0, some 3), (1, some 4)] (.cons (yY rfl rfl rfl zI rfl rfl rfl) (.cons (zP rfl) (.cons (zP rfl) .nil))) ?_ rfl ?_)) <;> (repeat' (first|exact trivial|exact rfl|apply And.intro|refine oWs rfl rfl rfl ?_ ?_|(refine aIm ?_;(assumption)))))
          all_goals first | exact hsc.imm | exact (wA _).imm | (show (A.map xQ).set k (xQ ⟨p.f - 1, p.n, p.t⟩) = _; exact (List.map_set ..).symm) | skip
        · (((refine zX _ [(0, some 3), (1, some 5)] (.cons (yY rfl rfl rfl zI rfl rfl rfl) (.cons (zP rfl) (.cons (zP rfl) .nil))) ?_ rfl ?_)) <;> (repeat' (first|exact trivial|exact rfl|apply And.intro|refine oWs rfl rfl rfl ?_ ?_|(refine aIm ?_;(assumption)))))
          all_goals first | exact hsc.imm | exact (wA _).imm | (show (A.map xQ).set k (xQ ⟨p.f - 1, p.n, p.t⟩) = _; exact (List.map_set ..).symm) | skip
  · have h0' : ¬ (0 : Int) < (A.length : Int) := by omega
    refine ⟨es, l, A, A.length, hB, hll, hA1, Nat.le_refl _, ?_⟩
    rcases hcase with ⟨rfl, rfl⟩ | ⟨rfl, rfl⟩
    all_goals refine PF.enter (xM _) Tryz.func47 rfl (by kernel_rfl) _ _ rfl rfl rfl (fun w0 mu I0 β0 gi dis => ?_)
    all_goals (repeat' (first|(apply xW;((exact Want.none_ rfl)))|(apply xF zI;exact rfl;exact rfl)|((first|apply yS|apply zV|apply yE)<;>(first|exact zI|exact rfl|refine yI ?_|exact lb rfl|(refine Bd.mk ?_;(focus (simp;done)))))|(apply y4;exact rfl;exact rfl;((exact dF ‹_›));exact rfl;exact rfl)|(apply y3;(iterate 5 exact rfl);((exact dF ‹_›)))|apply zS|apply AWp.Q|apply zH|apply AWp.G|apply AWp.J|apply AWp.R|(apply AWp.T;exact rfl;((exact rfl)))|(apply AWp.F;exact rfl;((exact rfl)))|(apply (zZ (p1));(iterate 7 exact rfl);(focus (repeat (first|exact All2.nil|refine All2.cons rfl ?_)));exact rfl;(focus (repeat (first|exact MAs.nil|apply MAs.cons|apply MA.c|exact MC.ptr rfl)));((assumption));((assumption));exact rfl;exact rfl)|(apply (zZ (p2));(iterate 7 exact rfl);(focus (repeat (first|exact All2.nil|refine All2.cons rfl ?_)));exact rfl;(focus (repeat (first|exact MAs.nil|apply MAs.cons|apply MA.c|apply MA.agg|exact MCs.nil|apply MCs.cons|exact MC.ptr rfl|exact MC.vc (VC.imm (Imm.sl _)))));((assumption));((assumption));exact rfl;exact rfl)|(apply (zZ (p3));(iterate 7 exact rfl);(focus (repeat (first|exact All2.nil|refine All2.cons rfl ?_)));exact rfl;(focus (repeat (first|exact MAs.nil|apply MAs.cons|apply MA.c|exact MC.ptr rfl|exact MC.vc (VC.imm (Imm.v _)))));((assumption));((assumption));exact rfl;exact rfl)|(apply yD;(iterate 6 exact rfl);(iterate 2 (focus (repeat (first|exact VAs.nil|apply VAs.cons|apply VA.c|apply VA.agg|exact VCs.nil|apply VCs.cons|exact VC.imm (Imm.sl _)|(apply zB;exact rfl;exact rfl;((focus (simp;done)));exact rfl;((refine aIm ?_;assumption)))))));(first|exact hS|exact hF);(focus (repeat (first|exact trivial|exact Flat.v _|exact Flat.ref _ _ _|apply And.intro)));((apply yK;(focus (repeat (first|exact trivial|apply And.intro|((assumption)))))));((exact yX _ _ _ _ _)))))
    · (((refine zX _ [(0, some 3), (1, some 4)] (.cons (yY rfl rfl rfl zI rfl rfl rfl) (.cons (zP rfl) (.cons (zP rfl) .nil))) ?_ rfl ?_)) <;> (repeat' (first|exact trivial|exact rfl|apply And.intro|refine oWs rfl rfl rfl ?_ ?_|(refine aIm ?_;(assumption)))))
      all_goals first | exact hsc.imm | exact hsA.imm | skip
    · (((refine zX _ [(0, some 3), (1, some 5)] (.cons (yY rfl rfl rfl zI rfl rfl rfl) (.cons (zP rfl) (.cons (zP rfl) .nil))) ?_ rfl ?_)) <;> (repeat' (first|exact trivial|exact rfl|apply And.intro|refine oWs rfl rfl rfl ?_ ?_|(refine aIm ?_;(assumption)))))
      all_goals first | exact hsc.imm | exact hsA.imm | skip
end Go.Proofs.YtchpdclknbmdoaaGreatDoor
