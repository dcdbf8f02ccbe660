/- Any strokes drawn; what is drawn for Segment. -/
import Derived.Test.YtjeffognhcbiaaaGreatDoorDvC
import Derived.Test.YtjeffognhcbiaaaGreatDoorSgC
namespace Go.Proofs.YtjeffognhcbiaaaGreatDoor
open Go Go.RowKit
def kX (xs : Nat → List Int) : Nat → List Int
  | 0 => []
  | j + 1 => kX xs j ++ xs j
theorem catK_len {xs : Nat → List Int} {b : Nat} : ∀ k, (∀ j, j < k → (xs j).length ≤ b) → (kX xs k).length ≤ b * k
  | 0, _ => Nat.zero_le _
  | k + 1, h => by
    have h1 := catK_len k (fun j hj => h j (by omega))
    have h2 := h k (by omega)
    rw [kX, List.length_append, Nat.mul_succ]
    omega
theorem ints_app (l m : List Int) : (l ++ m).map xE = l.map xE ++ m.map xE := List.map_append
def chunk (code : List UInt8) (es : List Ent) (c c' : Cur) (x : List Int) : Prop := x.length ≤ 8 ∧
  ((∃ (c1 : Cur) (k : Nat) (e : Ent), 0 < es.length ∧ k < es.length ∧ es[k]? = some e ∧ x = e.o ∧ PFM Tryz.prog 103 [xV code c] [.c (.ptr 0 0 0), .c (int (4 : Nat))] [some (xV code c1)] (.c (boo false)) ∧ PFM Tryz.prog 99 [xV code c1] [.c (.ptr 0 0 0), .c (int (es.length : Nat))] [some (xV code c')] (.c (int (k : Nat))))
  ∨ (∃ (c1 : Cur) (y : Int), 0 < es.length ∧ x = [y] ∧ PFM Tryz.prog 103 [xV code c] [.c (.ptr 0 0 0), .c (int (4 : Nat))] [some (xV code c1)] (.c (boo true)) ∧ PFM Tryz.prog 106 [xV code c1] [.c (.ptr 0 0 0)] [some (xV code c')] (.c (int y)))
  ∨ (∃ (y : Int), ¬ 0 < es.length ∧ x = [y] ∧ PFM Tryz.prog 106 [xV code c] [.c (.ptr 0 0 0)] [some (xV code c')] (.c (int y))))
section
variable (code : List UInt8) (hl : code.length ≤ 65536) (es : List Ent) (hes : es.length ≤ 41) (he8 : ∀ x ∈ es, EO8 x)
include hl hes he8
theorem chunk_ex (c : Cur) (hc : c.a ≤ 3000000) : ∃ (c' : Cur) (x : List Int), c'.a ≤ c.a + 3 ∧ chunk code es c c' x := by
  by_cases h0 : 0 < es.length
  · obtain ⟨c1, b, a1, p1⟩ := one_ex code c hl (by omega) 4 (by omega)
    cases b with
    | true =>
      obtain ⟨c2, y, a2, hy, p2⟩ := few_ex code c1 hl (by omega)
      exact ⟨c2, [y], by omega, by simp, .inr (.inl ⟨c1, y, h0, rfl, p1, p2⟩)⟩
    | false =>
      obtain ⟨c2, k, a2, hk, p2⟩ := wZ code c1 hl (by omega) es.length (by omega)
      obtain ⟨e, he⟩ := xT hk
      exact ⟨c2, e.o, by omega, (he8 e (List.mem_of_getElem? he)).1, .inl ⟨c1, k, e, h0, hk, he, rfl, p1, p2⟩⟩
  · obtain ⟨c2, y, a2, hy, p2⟩ := few_ex code c hl (by omega)
    exact ⟨c2, [y], by omega, by simp, .inr (.inr ⟨y, h0, rfl, p2⟩)⟩
theorem strokes_ex (c : Cur) (hc : c.a ≤ 2000000) : ∃ (c' : Cur) (l : List Int), c'.a ≤ c.a + 30 ∧ l.length ≤ 40 ∧ PFM Tryz.prog 104 [xV code c] [.c (.ptr 0 0 0), .agg (wG es)] [some (xV code c'), some ⟨3, 1, l.map xE⟩] (.c (.ref 1 0 l.length)) := by
  have hL : (es.map xS).length = es.length := List.length_map _
  obtain ⟨c1, n0, a1, hn0, p1⟩ := wZ code c hl (by omega) 6 (by omega)
  have i1 := xK (yQ code c1)
  have j1 := wD (yQ code c)
  obtain ⟨cs, xs, hc0, hcs⟩ := kG (X := List Int) (chunk code es) 3 3000000 (fun c hc => chunk_ex code hl es hes he8 c hc) c1 n0 (by omega)
  subst hc0
  have aN := (hcs n0 (Nat.le_refl _)).1
  have hx8 : ∀ j, j < n0 → (xs j).length ≤ 8 := fun j hj => (hcs j (by omega)).2.2.1
  have hlN := catK_len (b := 8) n0 hx8
  refine ⟨cs n0, kX xs n0, by omega, by omega, ?_⟩
  refine zD (xG _ _) (xQ _) rfl Tryz.func104 rfl (by kernel_rfl) _ _ rfl rfl rfl (fun w0 mu I0 β0 gi dis => ?_)
  (repeat' (first|(apply xW;((exact Want.none_ rfl)))|(apply xF zI;exact rfl;exact rfl)|(((apply zU))<;>(first|exact zI|exact rfl|refine yG ?_))|apply zR|apply AWp.Q|apply zH|apply AWp.G|apply AWp.B|(apply (yP (p1));(iterate 7 exact rfl);(focus (repeat (first|exact All2.nil|refine All2.cons rfl ?_)));exact rfl;(focus (repeat (first|exact MAs.nil|apply MAs.cons|apply MA.c|exact MC.ptr rfl|exact MC.vc (VC.imm (Imm.v _)))));((assumption));((assumption));exact rfl;exact rfl)))
  refine AWp.U (σ := Nat) (fun j => ⟨[(0, .c (.ptr 0 0 0)), (3, .c (.ptr 1 0 0)), (5, .c (.ref 2 0 (kX xs j).length)), (6, .c (int ((n0 : Int) - j)))], [(0, some (xV code (cs j))), (1, some ⟨35, 1, [wG es]⟩), (2, some ⟨3, 1, (kX xs j).map xE⟩)], 3⟩) (fun j => j ≤ n0) (fun j => n0 - j) 0 (Nat.zero_le _) ?_ ?_
  · rw [show (n0 : Int) - ((0 : Nat) : Int) = (n0 : Int) by omega]
    refine Weak.of [(0, some 0), (1, some 1), (2, some 2)] rfl ?_ ?_ <;> (repeat' (first|exact trivial|exact rfl|apply And.intro|refine ⟨_,rfl,rfl,rfl,OW.one ?_⟩|refine oWs rfl rfl rfl ?_ ?_|(refine aIm ?_;(exact AllSc.nil))))
    all_goals first | exact yQ _ _ | exact (xM []).imm
  · intro j hj
    have hlj := catK_len (b := 8) j (fun i hi => hx8 i (by omega))
    have hLl : ((kX xs j).map xE).length = (kX xs j).length := List.length_map _
    have hscj := xM (kX xs j)
    have m1 := wD (yQ code (cs j))
    have k1 := xK (yQ code (cs (j + 1)))
    by_cases hlt : j < n0
    · have hlt' : (0 : Int) < (n0 : Int) - j := by omega
      have hsub : (n0 : Int) - j - 1 = (n0 : Int) - ((j + 1 : Nat) : Int) := by omega
      obtain ⟨_, _, hx, hch⟩ := hcs j (by omega)
      rcases hch with ⟨ca, k, e, h0, hk, he, hxe, q1, q2⟩ | ⟨ca, y, h0, hxe, q1, q2⟩ | ⟨y, h0, hxe, q1⟩
      · have h0' : (0 : Int) < ((es.map xS).length : Int) := by omega
        have he' : (es.map xS)[k]? = some (xS e) := xY he
        have k2 := xK (yQ code ca)
        have m2 := wD (yQ code ca)
        have hsx := xM e.o
        have h1x := ints_one e.o
        have hLx : (e.o.map xE).length = e.o.length := List.length_map _
        have hxl : e.o.length ≤ 8 := by rw [← hxe]; exact hx
        rw [← hL] at q2
        (repeat' (first|(apply xW;(first|exact Want.none_ rfl|(refine zX rfl rfl rfl rfl ?_;((exact dT ‹_›)))))|(apply xF zI;exact rfl;exact rfl)|((first|apply y3|(apply yN;exact rfl;exact rfl)|(apply yZ;exact rfl;exact rfl))<;>(first|exact zI|exact rfl|refine yG ?_|assumption|omega|(refine Bd.mk ?_;first|assumption|omega)))|(apply yR;exact rfl;exact rfl;((exact dT ‹_›));exact rfl;exact rfl)|apply zR|(refine yT ?_ ?_;kernel_rfl)|apply AWp.Q|apply zH|apply AWp.G|apply AWp.B|apply AWp.J|apply zJ|(refine AWp.D ?_ ?_;kernel_rfl)|(apply AWp.T;exact rfl;(first|exact dT ‹_›|exact rfl))|(apply (yP (q1));(iterate 7 exact rfl);(focus (repeat (first|exact All2.nil|refine All2.cons rfl ?_)));exact rfl;(focus (repeat (first|exact MAs.nil|apply MAs.cons|apply MA.c|exact MC.ptr rfl|exact MC.vc (VC.imm (Imm.v _)))));((assumption));((assumption));exact rfl;exact rfl)|(apply (yP (q2));(iterate 7 exact rfl);(focus (repeat (first|exact All2.nil|refine All2.cons rfl ?_)));exact rfl;(focus (repeat (first|exact MAs.nil|apply MAs.cons|apply MA.c|exact MC.ptr rfl|exact MC.vc (VC.imm (Imm.v _)))));((assumption));((assumption));exact rfl;exact rfl)))
        refine ⟨j + 1, by omega, by omega, ?_⟩
        rw [kX, hxe, ints_app, ← hsub]
        refine Weak.of [(0, some 0), (1, some 1), (2, some 3)] rfl ?_ ?_ <;> (repeat' (first|exact trivial|exact rfl|apply And.intro|(refine z8 ?_;(focus (simp;done)))|refine ⟨_,rfl,rfl,rfl,OW.one ?_⟩|refine oWs rfl rfl rfl ?_ ?_))
        all_goals first | exact yQ _ _ | (rw [← ints_app]; exact (xM _).imm) | (rw [hLl, hLx]; simp; done) | (simp; done) | skip
      · have h0' : (0 : Int) < ((es.map xS).length : Int) := by omega
        have k2 := xK (yQ code ca)
        have m2 := wD (yQ code ca)
        (repeat' (first|(apply xW;(first|exact Want.none_ rfl|(refine zX rfl rfl rfl rfl ?_;((exact dT ‹_›)))))|(apply xF zI;exact rfl;exact rfl)|((first|apply y3|apply zU|(apply yZ;exact rfl;exact rfl))<;>(first|exact zI|exact rfl|refine yG ?_|omega|(refine Bd.mk ?_;first|(focus (simp;done))|(simp;omega))))|(apply yR;exact rfl;exact rfl;((exact dT ‹_›));exact rfl;exact rfl)|apply zR|apply AWp.Q|apply zH|apply AWp.G|apply AWp.B|apply AWp.J|apply zJ|(apply AWp.T;exact rfl;((exact dT ‹_›)))|(apply AWp.F;exact rfl;((exact rfl)))|(apply (yP (q1));(iterate 7 exact rfl);(focus (repeat (first|exact All2.nil|refine All2.cons rfl ?_)));exact rfl;(focus (repeat (first|exact MAs.nil|apply MAs.cons|apply MA.c|exact MC.ptr rfl|exact MC.vc (VC.imm (Imm.v _)))));((assumption));((assumption));exact rfl;exact rfl)|(apply (yP (q2));(iterate 7 exact rfl);(focus (repeat (first|exact All2.nil|refine All2.cons rfl ?_)));exact rfl;(focus (repeat (first|exact MAs.nil|apply MAs.cons|apply MA.c|exact MC.ptr rfl)));((assumption));((assumption));exact rfl;exact rfl)))
        refine ⟨j + 1, by omega, by omega, ?_⟩
        rw [kX, hxe, ints_app, ← hsub]
        refine Weak.of [(0, some 0), (1, some 1), (2, some 4)] rfl ?_ ?_ <;> (repeat' (first|exact trivial|exact rfl|apply And.intro|(refine z8 ?_;(focus (simp;done)))|refine ⟨_,rfl,rfl,rfl,OW.one ?_⟩|refine oWs rfl rfl rfl ?_ ?_))
        all_goals first | exact yQ _ _ | (rw [← ints_app]; exact (xM _).imm) | (simp; done) | skip
      · have h0' : ¬ (0 : Int) < ((es.map xS).length : Int) := by omega
        (repeat' (first|(apply xW;((exact Want.none_ rfl)))|(apply xF zI;exact rfl;exact rfl)|((first|apply y3|apply zU|(apply yZ;exact rfl;exact rfl))<;>(first|exact zI|exact rfl|refine yG ?_|omega|(refine Bd.mk ?_;first|(focus (simp;done))|(simp;omega))))|(apply yR;exact rfl;exact rfl;((exact dF ‹_›));exact rfl;exact rfl)|(apply yS;(iterate 5 exact rfl);((exact dF ‹_›)))|apply zR|apply AWp.Q|apply zH|apply AWp.G|apply AWp.B|apply AWp.J|apply zJ|(apply AWp.T;exact rfl;((exact dT ‹_›)))|(apply AWp.F;exact rfl;((exact rfl)))|(apply (yP (q1));(iterate 7 exact rfl);(focus (repeat (first|exact All2.nil|refine All2.cons rfl ?_)));exact rfl;(focus (repeat (first|exact MAs.nil|apply MAs.cons|apply MA.c|exact MC.ptr rfl)));((assumption));((assumption));exact rfl;exact rfl)))
        refine ⟨j + 1, by omega, by omega, ?_⟩
        rw [kX, hxe, ints_app, ← hsub]
        refine Weak.of [(0, some 0), (1, some 1), (2, some 4)] rfl ?_ ?_ <;> (repeat' (first|exact trivial|exact rfl|apply And.intro|(refine z8 ?_;(focus (simp;done)))|refine ⟨_,rfl,rfl,rfl,OW.one ?_⟩|refine oWs rfl rfl rfl ?_ ?_))
        all_goals first | exact yQ _ _ | (rw [← ints_app]; exact (xM _).imm) | (simp; done) | skip
    · have hlt' : ¬ (0 : Int) < (n0 : Int) - j := by omega
      obtain rfl : j = n0 := by omega
      (repeat' (first|(apply xW;((exact Want.none_ rfl)))|(apply xF zI;exact rfl;exact rfl)|apply zR|apply AWp.Q|apply zH|apply AWp.G|apply AWp.X|apply AWp.R|apply zQ|apply zO|(apply AWp.F;exact rfl;((exact dF ‹_›)))))
      (((refine zV _ [(0, some 0), (1, some 2)] (.cons (zN rfl) .nil) ?_ rfl ?_)) <;> (repeat' (first|exact trivial|exact rfl|apply And.intro|refine ⟨_,rfl,rfl,rfl,OW.one ?_⟩|refine oWs rfl rfl rfl ?_ ?_|(refine aIm ?_;(assumption)))))
      all_goals first | exact yQ _ _ | exact (xM _).imm
end
end Go.Proofs.YtjeffognhcbiaaaGreatDoor
namespace Go.Proofs.YtjeffognhcbiaaaGreatDoor
open Go Go.RowKit
theorem first_ex (p : Nat → Prop) [DecidablePred p] : ∀ n, p n → ∃ k, k ≤ n ∧ p k ∧ ∀ j, j < k → ¬ p j
  | 0, h => ⟨0, Nat.le_refl _, h, fun _ hj => by omega⟩
  | n + 1, h => by
    by_cases h' : ∃ j, j ≤ n ∧ p j
    · obtain ⟨j, hj, hp⟩ := h'
      clear h
      induction j using Nat.strongRecOn with
      | ind j ih =>
        by_cases h2 : ∃ i, i < j ∧ p i
        · obtain ⟨i, hi, hpi⟩ := h2
          exact ih i hi (by omega) hpi
        · exact ⟨j, by omega, hp, fun i hi hpi => h2 ⟨i, hi, hpi⟩⟩
    · exact ⟨n + 1, Nat.le_refl _, h, fun j hj hp => h' ⟨j, by omega, hp⟩⟩
def snK (l : List Int) (ys : Nat → Int) : Nat → List Int
  | 0 => l
  | j + 1 => snK l ys j ++ [ys j]
theorem snK_len (l : List Int) (ys : Nat → Int) : ∀ j, (snK l ys j).length = l.length + j
  | 0 => rfl
  | j + 1 => by rw [snK, List.length_append, snK_len l ys j]; rfl
section
variable (code : List UInt8) (hl : code.length ≤ 65536) (es : List Ent) (hes : es.length ≤ 41) (he8 : ∀ x ∈ es, EO8 x)
include hl hes he8
theorem anyStrokes_ex (c : Cur) (hc : c.a ≤ 1000000) : ∃ (c' : Cur) (l : List Int), c'.a ≤ c.a + 300 ∧ l.length ≤ 102 ∧ PFM Tryz.prog 71 [xV code c] [.c (.ptr 0 0 0), .agg (wG es)] [some (xV code c'), some ⟨3, 1, l.map xE⟩] (.c (.ref 1 0 l.length)) := by
  obtain ⟨c1, l, a1, hl40, p1⟩ := strokes_ex code hl es hes he8 c (by omega)
  obtain ⟨c2, w, a2, hw, p2⟩ := wZ code c1 hl (by omega) 24 (by omega)
  have i1 := qP (b := ⟨3, 1, l.map xE⟩) (yQ code c1) (xM l).imm
  have i2 := xK (yQ code c2)
  have j1 := wD (yQ code c)
  have j2 := wD (yQ code c1)
  have hsc := xM l
  have hLl : (l.map xE).length = l.length := List.length_map _
  by_cases w0 : w = 0
  · subst w0
    obtain ⟨c3, y, a3, hy, p3⟩ := anyStroke_ex code c2 hl (by omega)
    have i3 := xK (yQ code c3)
    have j3 := wD (yQ code c2)
    refine ⟨c3, l ++ [y], by omega, by simp; omega, ?_⟩
    refine zD (xG _ _) (xQ _) rfl Tryz.func71 rfl (by kernel_rfl) _ _ rfl rfl rfl (fun w0 mu I0 β0 gi dis => ?_)
    (repeat' (first|(apply xW;((exact Want.none_ rfl)))|(apply xF zI;exact rfl;exact rfl)|((first|apply zU|(apply yZ;exact rfl;exact rfl))<;>(first|exact zI|exact rfl|refine yG ?_|omega|(refine Bd.mk ?_;first|(focus (simp;done))|(simp;omega))))|apply zR|apply AWp.Q|apply zH|apply AWp.G|apply AWp.B|apply AWp.R|apply zJ|(apply AWp.T;exact rfl;((exact rfl)))|(apply (yP (p1));(iterate 7 exact rfl);(focus (repeat (first|exact All2.nil|refine All2.cons rfl ?_)));exact rfl;(focus (repeat (first|exact MAs.nil|apply MAs.cons|apply MA.c|apply MA.agg|exact MCs.nil|apply MCs.cons|exact MC.ptr rfl|exact MC.vc (VC.imm (Imm.sl _)))));((assumption));((assumption));exact rfl;exact rfl)|(apply (yP (p2));(iterate 7 exact rfl);(focus (repeat (first|exact All2.nil|refine All2.cons rfl ?_)));exact rfl;(focus (repeat (first|exact MAs.nil|apply MAs.cons|apply MA.c|exact MC.ptr rfl|exact MC.vc (VC.imm (Imm.v _)))));((assumption));((assumption));exact rfl;exact rfl)|(apply (yP (p3));(iterate 7 exact rfl);(focus (repeat (first|exact All2.nil|refine All2.cons rfl ?_)));exact rfl;(focus (repeat (first|exact MAs.nil|apply MAs.cons|apply MA.c|exact MC.ptr rfl)));((assumption));((assumption));exact rfl;exact rfl)))
    (((refine zV _ [(0, some 0), (1, some 4)] (.cons (zN rfl) .nil) ?_ rfl ?_)) <;> (repeat' (first|exact trivial|exact rfl|apply And.intro|(refine z8 ?_;(focus (simp;done)))|refine ⟨_,rfl,rfl,rfl,OW.one ?_⟩|refine oWs rfl rfl rfl ?_ ?_)))
    all_goals first | exact yQ _ _ | exact (xM _).imm | (rw [wV]; rfl) | skip
  · have w0' : ¬ (w : Int) = 0 := by omega
    by_cases w1 : w = 1
    · subst w1
      haveI : Inhabited (Cur × Nat × Int) := ⟨(c00, 0, 0)⟩
      obtain ⟨cs, xs, hc0, hcs⟩ := kG (X := Cur × Nat × Int) (fun c c' x => x.2.1 < 2 ∧ x.1.a ≤ c.a + 2 ∧ PFM Tryz.prog 99 [xV code c] [.c (.ptr 0 0 0), .c (int (2 : Nat))] [some (xV code x.1)] (.c (int (x.2.1 : Nat))) ∧ PFM Tryz.prog 106 [xV code x.1] [.c (.ptr 0 0 0)] [some (xV code c')] (.c (int x.2.2))) 3 2000000 (fun c hc => by
        obtain ⟨ca, v, b1, hv, q1⟩ := wZ code c hl (by omega) 2 (by omega)
        obtain ⟨cb, y, b2, hy, q2⟩ := few_ex code ca hl (by omega)
        exact ⟨cb, (ca, v, y), by omega, hv, b1, q1, q2⟩) c2 61 (by omega)
      subst hc0
      obtain ⟨K, hK, hp, hnp⟩ := first_ex (fun k => 60 + (xs k).2.1 ≤ l.length + k) 61 (by have := (hcs 61 (Nat.le_refl _)).2.2.1; omega)
      obtain ⟨aK, _, hvK, aK2, qK, _⟩ := hcs K hK
      refine ⟨(xs K).1, snK l (fun j => (xs j).2.2) K, by omega, by rw [snK_len]; omega, ?_⟩
      refine zD (xG _ _) (xQ _) rfl Tryz.func71 rfl (by kernel_rfl) _ _ rfl rfl rfl (fun w0 mu I0 β0 gi dis => ?_)
      (repeat' (first|(apply xW;((exact Want.none_ rfl)))|(apply xF zI;exact rfl;exact rfl)|apply zR|apply AWp.Q|apply zH|apply AWp.G|apply AWp.B|(apply AWp.T;exact rfl;((exact rfl)))|(apply AWp.F;exact rfl;((exact dF ‹_›)))|(apply (yP (p1));(iterate 7 exact rfl);(focus (repeat (first|exact All2.nil|refine All2.cons rfl ?_)));exact rfl;(focus (repeat (first|exact MAs.nil|apply MAs.cons|apply MA.c|apply MA.agg|exact MCs.nil|apply MCs.cons|exact MC.ptr rfl|exact MC.vc (VC.imm (Imm.sl _)))));((assumption));((assumption));exact rfl;exact rfl)|(apply (yP (p2));(iterate 7 exact rfl);(focus (repeat (first|exact All2.nil|refine All2.cons rfl ?_)));exact rfl;(focus (repeat (first|exact MAs.nil|apply MAs.cons|apply MA.c|exact MC.ptr rfl|exact MC.vc (VC.imm (Imm.v _)))));((assumption));((assumption));exact rfl;exact rfl)))
      refine AWp.U (σ := Nat) (fun j => ⟨[(0, .c (.ptr 0 0 0)), (5, .c (.ref 1 0 (snK l (fun j => (xs j).2.2) j).length))], [(0, some (xV code (cs j))), (1, some ⟨3, 1, (snK l (fun j => (xs j).2.2) j).map xE⟩)], 2⟩) (fun j => j ≤ K) (fun j => K - j) 0 (Nat.zero_le _) ?_ ?_
      · refine Weak.of [(0, some 0), (1, some 2)] rfl ?_ ?_ <;> (repeat' (first|exact trivial|exact rfl|apply And.intro|refine ⟨_,rfl,rfl,rfl,OW.one ?_⟩|refine oWs rfl rfl rfl ?_ ?_|(refine aIm ?_;(assumption))))
        all_goals first | exact yQ _ _ | exact (xM _).imm
      · intro j hj
        obtain ⟨_, _, hv, _, q1, q2⟩ := hcs j (by omega)
        have hlen := snK_len l (fun j => (xs j).2.2) j
        have hsj := xM (snK l (fun j => (xs j).2.2) j)
        have hLj : ((snK l (fun j => (xs j).2.2) j).map xE).length = (snK l (fun j => (xs j).2.2) j).length := List.length_map _
        have m1 := wD (yQ code (cs j))
        have k1 := xK (yQ code (xs j).1)
        have m2 := wD (yQ code (xs j).1)
        have k2 := xK (yQ code (cs (j + 1)))
        by_cases hlt : j < K
        · have hn := hnp j hlt
          have hlt' : ((snK l (fun j => (xs j).2.2) j).length : Int) < 60 + ((xs j).2.1 : Int) := by omega
          have e1 : snK l (fun j => (xs j).2.2) (j + 1) = snK l (fun j => (xs j).2.2) j ++ [(xs j).2.2] := rfl
          generalize (xs j).1 = ca at *
          generalize (xs j).2.1 = v at *
          generalize (xs j).2.2 = y at *
          (repeat' (first|(apply xW;((exact Want.none_ rfl)))|(apply xF zI;exact rfl;exact rfl)|((first|apply zZ|apply zU|(apply yZ;exact rfl;exact rfl))<;>(first|exact zI|exact rfl|refine yG ?_|omega|(refine Bd.mk ?_;first|(focus (simp;done))|(simp;omega))))|apply zR|apply AWp.Q|apply zH|apply AWp.G|apply AWp.B|apply AWp.J|apply zJ|(apply AWp.T;exact rfl;((exact dT ‹_›)))|(apply (yP (q1));(iterate 7 exact rfl);(focus (repeat (first|exact All2.nil|refine All2.cons rfl ?_)));exact rfl;(focus (repeat (first|exact MAs.nil|apply MAs.cons|apply MA.c|exact MC.ptr rfl|exact MC.vc (VC.imm (Imm.v _)))));((assumption));((assumption));exact rfl;exact rfl)|(apply (yP (q2));(iterate 7 exact rfl);(focus (repeat (first|exact All2.nil|refine All2.cons rfl ?_)));exact rfl;(focus (repeat (first|exact MAs.nil|apply MAs.cons|apply MA.c|exact MC.ptr rfl)));((assumption));((assumption));exact rfl;exact rfl)))
          refine ⟨j + 1, by omega, by omega, ?_⟩
          rw [e1, wV]
          refine Weak.of [(0, some 0), (1, some 3)] rfl ?_ ?_ <;> (repeat' (first|exact trivial|exact rfl|apply And.intro|(refine z8 ?_;(focus (simp;done)))|refine ⟨_,rfl,rfl,rfl,OW.one ?_⟩|refine oWs rfl rfl rfl ?_ ?_))
          all_goals first | exact yQ _ _ | (rw [← wV]; exact (xM _).imm) | (simp; done) | skip
        · obtain rfl : j = K := by omega
          have hlt' : ¬ ((snK l (fun j => (xs j).2.2) j).length : Int) < 60 + ((xs j).2.1 : Int) := by omega
          (repeat' (first|(apply xW;((exact Want.none_ rfl)))|(apply xF zI;exact rfl;exact rfl)|(((apply zZ))<;>(first|exact rfl|refine yG ?_|omega))|apply zR|apply AWp.Q|apply zH|apply AWp.G|apply AWp.X|apply AWp.R|apply zQ|apply zJ|apply zO|(apply AWp.F;exact rfl;((exact dF ‹_›)))|(apply (yP (q1));(iterate 7 exact rfl);(focus (repeat (first|exact All2.nil|refine All2.cons rfl ?_)));exact rfl;(focus (repeat (first|exact MAs.nil|apply MAs.cons|apply MA.c|exact MC.ptr rfl|exact MC.vc (VC.imm (Imm.v _)))));((assumption));((assumption));exact rfl;exact rfl)))
          (((refine zV _ [(0, some 0), (1, some 1)] (.cons (zN rfl) .nil) ?_ rfl ?_)) <;> (repeat' (first|exact trivial|exact rfl|apply And.intro|refine ⟨_,rfl,rfl,rfl,OW.one ?_⟩|refine oWs rfl rfl rfl ?_ ?_|(refine aIm ?_;(assumption)))))
          all_goals first | exact yQ _ _ | exact (xM _).imm
    · have w1' : ¬ (w : Int) = 1 := by omega
      refine ⟨c2, l, by omega, by omega, ?_⟩
      refine zD (xG _ _) (xQ _) rfl Tryz.func71 rfl (by kernel_rfl) _ _ rfl rfl rfl (fun w0 mu I0 β0 gi dis => ?_)
      (repeat' (first|(apply xW;((exact Want.none_ rfl)))|(apply xF zI;exact rfl;exact rfl)|apply zR|apply AWp.Q|apply zH|apply AWp.G|apply AWp.B|apply AWp.J|apply AWp.R|apply zJ|(apply AWp.F;exact rfl;((exact dF ‹_›)))|(apply (yP (p1));(iterate 7 exact rfl);(focus (repeat (first|exact All2.nil|refine All2.cons rfl ?_)));exact rfl;(focus (repeat (first|exact MAs.nil|apply MAs.cons|apply MA.c|apply MA.agg|exact MCs.nil|apply MCs.cons|exact MC.ptr rfl|exact MC.vc (VC.imm (Imm.sl _)))));((assumption));((assumption));exact rfl;exact rfl)|(apply (yP (p2));(iterate 7 exact rfl);(focus (repeat (first|exact All2.nil|refine All2.cons rfl ?_)));exact rfl;(focus (repeat (first|exact MAs.nil|apply MAs.cons|apply MA.c|exact MC.ptr rfl|exact MC.vc (VC.imm (Imm.v _)))));((assumption));((assumption));exact rfl;exact rfl)))
      (((refine zV _ [(0, some 0), (1, some 2)] (.cons (zN rfl) .nil) ?_ rfl ?_)) <;> (repeat' (first|exact trivial|exact rfl|apply And.intro|refine ⟨_,rfl,rfl,rfl,OW.one ?_⟩|refine oWs rfl rfl rfl ?_ ?_|(refine aIm ?_;(assumption)))))
      all_goals first | exact yQ _ _ | exact (xM _).imm
end
end Go.Proofs.YtjeffognhcbiaaaGreatDoor
