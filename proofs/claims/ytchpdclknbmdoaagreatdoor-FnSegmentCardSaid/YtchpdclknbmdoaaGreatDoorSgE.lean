/- Drawn strokes for a dictionary; what is drawn for Segment; a valid dictionary and valid strokes. -/
import Derived.Test.YtchpdclknbmdoaaGreatDoorDvC
import Derived.Test.YtchpdclknbmdoaaGreatDoorSgC
namespace Go.Proofs.YtchpdclknbmdoaaGreatDoor
open Go Go.RowKit
def kG (xs : Nat → List Int) : Nat → List Int
  | 0 => []
  | j + 1 => kG xs j ++ xs j
theorem catK_len {xs : Nat → List Int} {b : Nat} : ∀ k, (∀ j, j < k → (xs j).length ≤ b) → (kG xs k).length ≤ b * k
  | 0, _ => Nat.zero_le _
  | k + 1, h => by
    have h1 := catK_len k (fun j hj => h j (by omega))
    have h2 := h k (by omega)
    rw [kG, List.length_append, Nat.mul_succ]
    omega
theorem ints_app (l m : List Int) : (l ++ m).map yU = l.map yU ++ m.map yU := List.map_append
def chunk (code : List UInt8) (es : List Ent) (c c' : Cur) (x : List Int) : Prop := x.length ≤ 8 ∧
  ((∃ (c1 : Cur) (k : Nat) (e : Ent), 0 < es.length ∧ k < es.length ∧ es[k]? = some e ∧ x = e.o ∧ PFM Tryz.prog 75 [xR code c] [.c (.ptr 0 0 0), .c (int (4 : Nat))] [some (xR code c1)] (.c (boo false)) ∧ PFM Tryz.prog 77 [xR code c1] [.c (.ptr 0 0 0), .c (int (es.length : Nat))] [some (xR code c')] (.c (int (k : Nat))))
  ∨ (∃ (c1 : Cur) (y : Int), 0 < es.length ∧ x = [y] ∧ PFM Tryz.prog 75 [xR code c] [.c (.ptr 0 0 0), .c (int (4 : Nat))] [some (xR code c1)] (.c (boo true)) ∧ PFM Tryz.prog 136 [xR code c1] [.c (.ptr 0 0 0)] [some (xR code c')] (.c (int y)))
  ∨ (∃ (y : Int), ¬ 0 < es.length ∧ x = [y] ∧ PFM Tryz.prog 136 [xR code c] [.c (.ptr 0 0 0)] [some (xR code c')] (.c (int y))))
section
variable (code : List UInt8) (hl : code.length ≤ 65536) (es : List Ent) (hes : es.length ≤ 41) (he8 : ∀ x ∈ es, EO8 x)
include hl hes he8
theorem chunk_ex (c : Cur) (hc : c.a ≤ 3000000) : ∃ (c' : Cur) (x : List Int), c'.a ≤ c.a + 3 ∧ chunk code es c c' x := by
  by_cases h0 : 0 < es.length
  · obtain ⟨c1, b, a1, p1⟩ := qV code c hl (by omega) 4 (by omega)
    cases b with
    | true =>
      obtain ⟨c2, y, a2, hy, p2⟩ := few_ex code c1 hl (by omega)
      exact ⟨c2, [y], by omega, by simp, .inr (.inl ⟨c1, y, h0, rfl, p1, p2⟩)⟩
    | false =>
      obtain ⟨c2, k, a2, hk, p2⟩ := wD code c1 hl (by omega) es.length (by omega)
      obtain ⟨e, he⟩ := xY hk
      exact ⟨c2, e.o, by omega, (he8 e (List.mem_of_getElem? he)).1, .inl ⟨c1, k, e, h0, hk, he, rfl, p1, p2⟩⟩
  · obtain ⟨c2, y, a2, hy, p2⟩ := few_ex code c hl (by omega)
    exact ⟨c2, [y], by omega, by simp, .inr (.inr ⟨y, h0, rfl, p2⟩)⟩
theorem strokes_ex (c : Cur) (hc : c.a ≤ 2000000) : ∃ (c' : Cur) (l : List Int), c'.a ≤ c.a + 30 ∧ l.length ≤ 40 ∧ PFM Tryz.prog 153 [xR code c] [.c (.ptr 0 0 0), .agg (x3 es)] [some (xR code c'), some ⟨3, 1, l.map yU⟩] (.c (.ref 1 0 l.length)) := by
  have hL : (es.map xO).length = es.length := List.length_map _
  obtain ⟨c1, n0, a1, hn0, p1⟩ := wD code c hl (by omega) 6 (by omega)
  have i1 := y6 (yG code c1)
  have j1 := x6 (yG code c)
  obtain ⟨cs, xs, hc0, hcs⟩ := qU (X := List Int) (chunk code es) 3 3000000 (fun c hc => chunk_ex code hl es hes he8 c hc) c1 n0 (by omega)
  subst hc0
  have aN := (hcs n0 (Nat.le_refl _)).1
  have hx8 : ∀ j, j < n0 → (xs j).length ≤ 8 := fun j hj => (hcs j (by omega)).2.2.1
  have hlN := catK_len (b := 8) n0 hx8
  refine ⟨cs n0, kG xs n0, by omega, by omega, ?_⟩
  refine zD (xX _ _) (xU _) rfl Tryz.func153 rfl (by kernel_rfl) _ _ rfl rfl rfl (fun w0 mu I0 β0 gi dis => ?_)
  (repeat' (first|(apply xW;((exact Want.none_ rfl)))|(apply xF zI;exact rfl;exact rfl)|(((apply zT))<;>(first|exact zI|exact rfl|refine yI ?_))|apply zS|apply AWp.Q|apply zH|apply AWp.G|apply AWp.B|(apply (zZ (p1));(iterate 7 exact rfl);(focus (repeat (first|exact All2.nil|refine All2.cons rfl ?_)));exact rfl;(focus (repeat (first|exact MAs.nil|apply MAs.cons|apply MA.c|exact MC.ptr rfl|exact MC.vc (VC.imm (Imm.v _)))));((assumption));((assumption));exact rfl;exact rfl)))
  refine AWp.U (σ := Nat) (fun j => ⟨[(0, .c (.ptr 0 0 0)), (3, .c (.ptr 1 0 0)), (5, .c (.ref 2 0 (kG xs j).length)), (6, .c (int ((n0 : Int) - j)))], [(0, some (xR code (cs j))), (1, some ⟨26, 1, [x3 es]⟩), (2, some ⟨3, 1, (kG xs j).map yU⟩)], 3⟩) (fun j => j ≤ n0) (fun j => n0 - j) 0 (Nat.zero_le _) ?_ ?_
  · rw [show (n0 : Int) - ((0 : Nat) : Int) = (n0 : Int) by omega]
    refine Weak.of [(0, some 0), (1, some 1), (2, some 2)] rfl ?_ ?_ <;> (repeat' (first|exact trivial|exact rfl|apply And.intro|refine ⟨_,rfl,rfl,rfl,OW.one ?_⟩|refine oWs rfl rfl rfl ?_ ?_|(refine aIm ?_;(exact AllSc.nil))))
    all_goals first | exact yG _ _ | exact (xI []).imm
  · intro j hj
    have hlj := catK_len (b := 8) j (fun i hi => hx8 i (by omega))
    have hLl : ((kG xs j).map yU).length = (kG xs j).length := List.length_map _
    have hscj := xI (kG xs j)
    have m1 := x6 (yG code (cs j))
    have k1 := y6 (yG code (cs (j + 1)))
    by_cases hlt : j < n0
    · have hlt' : (0 : Int) < (n0 : Int) - j := by omega
      have hsub : (n0 : Int) - j - 1 = (n0 : Int) - ((j + 1 : Nat) : Int) := by omega
      obtain ⟨_, _, hx, hch⟩ := hcs j (by omega)
      rcases hch with ⟨ca, k, e, h0, hk, he, hxe, q1, q2⟩ | ⟨ca, y, h0, hxe, q1, q2⟩ | ⟨y, h0, hxe, q1⟩
      · have h0' : (0 : Int) < ((es.map xO).length : Int) := by omega
        have he' : (es.map xO)[k]? = some (xO e) := xS he
        have k2 := y6 (yG code ca)
        have m2 := x6 (yG code ca)
        have hsx := xI e.o
        have h1x := vV e.o
        have hLx : (e.o.map yU).length = e.o.length := List.length_map _
        have hxl : e.o.length ≤ 8 := by rw [← hxe]; exact hx
        rw [← hL] at q2
        (repeat' (first|(apply xW;(first|exact Want.none_ rfl|(refine z6 rfl rfl rfl rfl ?_;((exact dT ‹_›)))))|(apply xF zI;exact rfl;exact rfl)|((first|apply yZ|(apply yC;exact rfl;exact rfl)|(apply yQ;exact rfl;exact rfl))<;>(first|exact zI|exact rfl|refine yI ?_|assumption|omega|(refine Bd.mk ?_;first|assumption|omega)))|(apply y4;exact rfl;exact rfl;((exact dT ‹_›));exact rfl;exact rfl)|apply zS|(refine yN ?_ ?_;kernel_rfl)|apply AWp.Q|apply zH|apply AWp.G|apply AWp.B|apply AWp.J|apply zJ|(refine AWp.D ?_ ?_;kernel_rfl)|(apply AWp.T;exact rfl;(first|exact dT ‹_›|exact rfl))|(apply (zZ (q1));(iterate 7 exact rfl);(focus (repeat (first|exact All2.nil|refine All2.cons rfl ?_)));exact rfl;(focus (repeat (first|exact MAs.nil|apply MAs.cons|apply MA.c|exact MC.ptr rfl|exact MC.vc (VC.imm (Imm.v _)))));((assumption));((assumption));exact rfl;exact rfl)|(apply (zZ (q2));(iterate 7 exact rfl);(focus (repeat (first|exact All2.nil|refine All2.cons rfl ?_)));exact rfl;(focus (repeat (first|exact MAs.nil|apply MAs.cons|apply MA.c|exact MC.ptr rfl|exact MC.vc (VC.imm (Imm.v _)))));((assumption));((assumption));exact rfl;exact rfl)))
        refine ⟨j + 1, by omega, by omega, ?_⟩
        rw [kG, hxe, ints_app, ← hsub]
        refine Weak.of [(0, some 0), (1, some 1), (2, some 3)] rfl ?_ ?_ <;> (repeat' (first|exact trivial|exact rfl|apply And.intro|(refine yB ?_;(focus (simp;done)))|refine ⟨_,rfl,rfl,rfl,OW.one ?_⟩|refine oWs rfl rfl rfl ?_ ?_))
        all_goals first | exact yG _ _ | (rw [← ints_app]; exact (xI _).imm) | (rw [hLl, hLx]; simp; done) | (simp; done) | skip
      · have h0' : (0 : Int) < ((es.map xO).length : Int) := by omega
        have k2 := y6 (yG code ca)
        have m2 := x6 (yG code ca)
        (repeat' (first|(apply xW;(first|exact Want.none_ rfl|(refine z6 rfl rfl rfl rfl ?_;((exact dT ‹_›)))))|(apply xF zI;exact rfl;exact rfl)|((first|apply yZ|apply zT|(apply yQ;exact rfl;exact rfl))<;>(first|exact zI|exact rfl|refine yI ?_|omega|(refine Bd.mk ?_;first|(focus (simp;done))|(simp;omega))))|(apply y4;exact rfl;exact rfl;((exact dT ‹_›));exact rfl;exact rfl)|apply zS|apply AWp.Q|apply zH|apply AWp.G|apply AWp.B|apply AWp.J|apply zJ|(apply AWp.T;exact rfl;((exact dT ‹_›)))|(apply AWp.F;exact rfl;((exact rfl)))|(apply (zZ (q1));(iterate 7 exact rfl);(focus (repeat (first|exact All2.nil|refine All2.cons rfl ?_)));exact rfl;(focus (repeat (first|exact MAs.nil|apply MAs.cons|apply MA.c|exact MC.ptr rfl|exact MC.vc (VC.imm (Imm.v _)))));((assumption));((assumption));exact rfl;exact rfl)|(apply (zZ (q2));(iterate 7 exact rfl);(focus (repeat (first|exact All2.nil|refine All2.cons rfl ?_)));exact rfl;(focus (repeat (first|exact MAs.nil|apply MAs.cons|apply MA.c|exact MC.ptr rfl)));((assumption));((assumption));exact rfl;exact rfl)))
        refine ⟨j + 1, by omega, by omega, ?_⟩
        rw [kG, hxe, ints_app, ← hsub]
        refine Weak.of [(0, some 0), (1, some 1), (2, some 4)] rfl ?_ ?_ <;> (repeat' (first|exact trivial|exact rfl|apply And.intro|(refine yB ?_;(focus (simp;done)))|refine ⟨_,rfl,rfl,rfl,OW.one ?_⟩|refine oWs rfl rfl rfl ?_ ?_))
        all_goals first | exact yG _ _ | (rw [← ints_app]; exact (xI _).imm) | (simp; done) | skip
      · have h0' : ¬ (0 : Int) < ((es.map xO).length : Int) := by omega
        (repeat' (first|(apply xW;((exact Want.none_ rfl)))|(apply xF zI;exact rfl;exact rfl)|((first|apply yZ|apply zT|(apply yQ;exact rfl;exact rfl))<;>(first|exact zI|exact rfl|refine yI ?_|omega|(refine Bd.mk ?_;first|(focus (simp;done))|(simp;omega))))|(apply y4;exact rfl;exact rfl;((exact dF ‹_›));exact rfl;exact rfl)|(apply y3;(iterate 5 exact rfl);((exact dF ‹_›)))|apply zS|apply AWp.Q|apply zH|apply AWp.G|apply AWp.B|apply AWp.J|apply zJ|(apply AWp.T;exact rfl;((exact dT ‹_›)))|(apply AWp.F;exact rfl;((exact rfl)))|(apply (zZ (q1));(iterate 7 exact rfl);(focus (repeat (first|exact All2.nil|refine All2.cons rfl ?_)));exact rfl;(focus (repeat (first|exact MAs.nil|apply MAs.cons|apply MA.c|exact MC.ptr rfl)));((assumption));((assumption));exact rfl;exact rfl)))
        refine ⟨j + 1, by omega, by omega, ?_⟩
        rw [kG, hxe, ints_app, ← hsub]
        refine Weak.of [(0, some 0), (1, some 1), (2, some 4)] rfl ?_ ?_ <;> (repeat' (first|exact trivial|exact rfl|apply And.intro|(refine yB ?_;(focus (simp;done)))|refine ⟨_,rfl,rfl,rfl,OW.one ?_⟩|refine oWs rfl rfl rfl ?_ ?_))
        all_goals first | exact yG _ _ | (rw [← ints_app]; exact (xI _).imm) | (simp; done) | skip
    · have hlt' : ¬ (0 : Int) < (n0 : Int) - j := by omega
      obtain rfl : j = n0 := by omega
      (repeat' (first|(apply xW;((exact Want.none_ rfl)))|(apply xF zI;exact rfl;exact rfl)|apply zS|apply AWp.Q|apply zH|apply AWp.G|apply AWp.X|apply AWp.R|apply zR|apply zO|(apply AWp.F;exact rfl;((exact dF ‹_›)))))
      (((refine zX _ [(0, some 0), (1, some 2)] (.cons (zP rfl) .nil) ?_ rfl ?_)) <;> (repeat' (first|exact trivial|exact rfl|apply And.intro|refine ⟨_,rfl,rfl,rfl,OW.one ?_⟩|refine oWs rfl rfl rfl ?_ ?_|(refine aIm ?_;(assumption)))))
      all_goals first | exact yG _ _ | exact (xI _).imm
end
end Go.Proofs.YtchpdclknbmdoaaGreatDoor
