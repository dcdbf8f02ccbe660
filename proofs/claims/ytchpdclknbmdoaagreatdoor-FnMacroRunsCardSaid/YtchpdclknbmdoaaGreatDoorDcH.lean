/- Drawn dictionaries and known outlines. -/
import Derived.Test.YtchpdclknbmdoaaGreatDoorDcG
namespace Go.Proofs.YtchpdclknbmdoaaGreatDoor
open Go Go.RowKit
theorem psS_one (e x : Ent) (s : List Ent × Bool) (k : Nat) (h : s.1.length ≤ k + if s.2 then 1 else 0) : (psS e x s).1.length ≤ k + 1 + if (psS e x s).2 then 1 else 0 := by
  obtain ⟨O, p⟩ := s
  by_cases hc : wM x.o e.o = 0
  · cases p with
    | true => rw [psS_B hc]; simp at h ⊢; omega
    | false => rw [psS_A hc]; simp at h ⊢; omega
  · by_cases hp : 0 ≤ wM x.o e.o ∧ p = false
    · obtain ⟨hge, rfl⟩ := hp
      rw [psS_C hc hge]; simp at h ⊢; omega
    · rw [psS_D hc hp]
      cases p <;> simp at h ⊢ <;> omega
theorem psT_one (es : List Ent) (e : Ent) : ∀ k, k ≤ es.length → (psT es e k).1.length ≤ k + if (psT es e k).2 then 1 else 0
  | 0, _ => Nat.zero_le _
  | k + 1, hk => by
    obtain ⟨x, hx⟩ := xP (show k < es.length by omega)
    rw [psT_succ hx]
    exact psS_one e x _ k (psT_one es e k (by omega))
theorem putE_one (es : List Ent) (e : Ent) : (kE es e).length ≤ es.length + 1 := by
  have h := psT_one es e es.length (Nat.le_refl _)
  rw [kE]
  split
  · rename_i h1; rw [h1] at h; simpa using h
  · rename_i h1
    rw [if_neg h1] at h
    rw [List.length_append]; simp; omega
def EO (e : Ent) : Prop := e.o.length ≤ 3 ∧ DS e.o ∧ e.t.length ≤ 100
def qC (xs : Nat → Ent) : Nat → List Ent
  | 0 => []
  | j + 1 => kE (qC xs j) (xs j)
theorem dicT_len (xs : Nat → Ent) : ∀ j, (qC xs j).length ≤ j
  | 0 => Nat.le_refl _
  | j + 1 => by
    have h1 := dicT_len xs j
    have h2 := putE_one (qC xs j) (xs j)
    rw [qC]; omega
theorem dicT_mem {xs : Nat → Ent} {n : Nat} (h : ∀ j, j < n → EO (xs j)) : ∀ j, j ≤ n → ∀ y ∈ qC xs j, EO y
  | 0, _, y, hy => by simp [qC] at hy
  | j + 1, hj, y, hy => putE_mem (P := EO) (h j (by omega)) (dicT_mem h j (by omega)) y hy
theorem psS_ge (e x : Ent) (s : List Ent × Bool) : s.1.length ≤ (psS e x s).1.length := by
  obtain ⟨O, p⟩ := s
  by_cases hc : wM x.o e.o = 0
  · cases p with
    | true => rw [psS_B hc]; exact Nat.le_refl _
    | false => rw [psS_A hc]; simp
  · by_cases hp : 0 ≤ wM x.o e.o ∧ p = false
    · obtain ⟨hge, rfl⟩ := hp
      rw [psS_C hc hge]; simp
    · rw [psS_D hc hp]; simp
theorem psT_flag (es : List Ent) (e : Ent) : ∀ k, (psT es e k).2 = true → 1 ≤ (psT es e k).1.length
  | 0, h => by cases h
  | k + 1, h => by
    rw [psT] at h ⊢
    cases hk : es[k]? with
    | none => rw [hk] at h; exact psT_flag es e k h
    | some x =>
      rw [hk] at h
      dsimp only at h ⊢
      cases hp : (psT es e k).2 with
      | true => exact Nat.le_trans (psT_flag es e k hp) (psS_ge e x _)
      | false =>
        generalize psT es e k = st at h hp ⊢
        obtain ⟨O, p⟩ := st
        dsimp only at hp
        subst hp
        by_cases hc : wM x.o e.o = 0
        · rw [psS_A hc]; simp
        · by_cases hg : 0 ≤ wM x.o e.o
          · rw [psS_C hc hg]; simp
          · rw [psS_D hc (fun h => hg h.1)] at h; cases h
theorem putE_pos (es : List Ent) (e : Ent) : 1 ≤ (kE es e).length := by
  rw [kE]
  split
  · rename_i h; exact psT_flag es e _ h
  · simp
theorem dicT_pos (xs : Nat → Ent) {j : Nat} (h : 1 ≤ j) : 1 ≤ (qC xs j).length := by
  obtain ⟨k, rfl⟩ : ∃ k, j = k + 1 := ⟨j - 1, by omega⟩
  rw [qC]; exact putE_pos _ _
section
variable (code : List UInt8) (c : Cur) (hl : code.length ≤ 65536) (hc : c.a ≤ 3500000)
include hl hc
theorem entry_ex : ∃ (c' : Cur) (e : Ent), c'.a ≤ c.a + 62 ∧ EO e ∧ PFM Tryz.prog 145 [xQ code c] [.c (.ptr 0 0 0)] [some (xQ code c')] (.agg (xN e)) := by
  obtain ⟨c1, o, a1, ho, p1⟩ := outline_ex code c hl (by omega)
  obtain ⟨c2, t, a2, ht, p2⟩ := translation_ex code c1 hl (by omega)
  have i1 := vX (b := ⟨3, 1, o.map yX⟩) (yC code c1) (y8 o).imm
  have i2 := y7 (yC code c2)
  have j1 := wD (yC code c)
  have j2 := wD (yC code c1)
  have hsc := y8 o
  refine ⟨c2, ⟨o, t⟩, by omega, ⟨ho.2.1, ho.2.2, ht⟩, ?_⟩
  refine zD (y9 _) (xV _) rfl Tryz.func145 rfl (by kernel_rfl) _ _ rfl rfl rfl (fun w0 mu I0 β0 gi dis => ?_)
  (repeat' (first|(apply xW;((exact Want.none_ rfl)))|(apply xF zI;exact rfl;exact rfl)|((first|apply yT|apply zW|apply yE)<;>(first|exact zI|exact rfl|refine yJ ?_|exact lb rfl|((try refine Bd.mk ?_);(focus (simp;done)))))|apply zT|apply AWp.Q|apply zH|apply AWp.G|(apply (yD (p1));(iterate 7 exact rfl);(focus (repeat (first|exact All2.nil|refine All2.cons rfl ?_)));exact rfl;(focus (repeat (first|exact MAs.nil|apply MAs.cons|apply MA.c|exact MC.ptr rfl)));((assumption));((assumption));exact rfl;exact rfl)|(apply (yD (p2));(iterate 7 exact rfl);(focus (repeat (first|exact All2.nil|refine All2.cons rfl ?_)));exact rfl;(focus (repeat (first|exact MAs.nil|apply MAs.cons|apply MA.c|exact MC.ptr rfl)));((assumption));((assumption));exact rfl;exact rfl)))
  refine AWp.weaken (Weak.frz 2 1 (out' := ⟨98, 2, [[.sl (o.map yX), str t]]⟩) (wU rfl rfl) rfl rfl rfl hsc.imm rfl rfl ?_ (Weak.refl _ _)) ?_
  · show All2 _ [[Cell.ref 2 0 o.length, str t]] [[.sl (o.map yX), str t]]
    exact .cons (.cons (.ref _ (by simp)) (.cons (.same _) .nil)) .nil
  apply AWp.R
  (((refine z7 _ [(0, some 0)] (.cons (y4 rfl rfl rfl zI rfl rfl rfl) .nil) ?_ rfl ?_)) <;> (repeat' (first|exact trivial|exact rfl|apply And.intro|refine ⟨_,rfl,rfl,rfl,OW.one ?_⟩)))
  all_goals first | exact yC _ _ | skip
end
section
variable (code : List UInt8) (c : Cur) (hl : code.length ≤ 65536) (hc : c.a ≤ 3000000)
include hl hc
theorem dictionaryO_ex : ∃ (c' : Cur) (es : List Ent), c'.a ≤ c.a + 700 ∧ (es.length ≤ 9 ∧ 1 ≤ es.length ∧ ∀ x ∈ es, EO x) ∧ PFM Tryz.prog 133 [xQ code c] [.c (.ptr 0 0 0)] [some (xQ code c'), some ⟨98, 2, es.map xN⟩] (.agg [.ref 1 0 es.length]) := by
  obtain ⟨c1, n0, a1, hn0, p1⟩ := wT code c hl (by omega) 7 (by omega)
  have i1 := y7 (yC code c1)
  have j1 := wD (yC code c)
  obtain ⟨cs, xs, hc0, hcs⟩ := seq_ex (X := Ent) (fun c c' e => EO e ∧ PFM Tryz.prog 145 [xQ code c] [.c (.ptr 0 0 0)] [some (xQ code c')] (.agg (xN e))) 62 3400000 (fun c hc => entry_ex code c hl (by omega)) c1 (3 + n0) (by omega)
  subst hc0
  have aN := (hcs (3 + n0) (Nat.le_refl _)).1
  have hE : ∀ j, j < 3 + n0 → EO (xs j) := fun j hj => (hcs j (by omega)).2.2.1
  have hM := dicT_mem hE
  have hN := dicT_len xs
  refine ⟨cs (3 + n0), qC xs (3 + n0), by omega, ⟨by have := hN (3 + n0); omega, dicT_pos xs (by omega), hM _ (Nat.le_refl _)⟩, ?_⟩
  refine zD (y9 _) (xV _) rfl Tryz.func133 rfl (by kernel_rfl) _ _ rfl rfl rfl (fun w0 mu I0 β0 gi dis => ?_)
  (repeat' (first|(apply xW;((exact Want.none_ rfl)))|(apply xF zI;exact rfl;exact rfl)|((first|apply zY|apply yT|apply zW|apply yE)<;>(first|exact zI|exact rfl|refine yJ ?_|omega|exact lb rfl|((try refine Bd.mk ?_);(focus (simp;done)))))|apply zT|apply AWp.Q|apply zH|apply AWp.G|apply AWp.B|(apply (yD (p1));(iterate 7 exact rfl);(focus (repeat (first|exact All2.nil|refine All2.cons rfl ?_)));exact rfl;(focus (repeat (first|exact MAs.nil|apply MAs.cons|apply MA.c|exact MC.ptr rfl|exact MC.vc (VC.imm (Imm.v _)))));((assumption));((assumption));exact rfl;exact rfl)))
  refine AWp.U (σ := Nat) (fun j => ⟨[(0, .c (.ptr 0 0 0)), (2, .c (.ptr 1 0 0)), (3, .c (.ptr 2 0 0)), (4, .c (int (3 + (n0 : Int) - j)))], [(0, some (xQ code (cs j))), (1, some ⟨26, 1, [[.nil]]⟩), (2, some ⟨26, 1, [[.ref 3 0 (qC xs j).length]]⟩), (3, some ⟨98, 2, (qC xs j).map xN⟩)], 4⟩) (fun j => j ≤ 3 + n0) (fun j => 3 + n0 - j) 0 (Nat.zero_le _) ?_ ?_
  · refine Weak.of [(0, some 0), (1, some 1), (2, some 2), (3, none)] rfl ?_ ?_ <;> (repeat' (first|exact trivial|exact rfl|apply And.intro|refine ⟨_,rfl,rfl,rfl,OW.one ?_⟩))
    all_goals first | exact yC _ _ | skip
  · intro j hj
    obtain ⟨ha, hb, ⟨he1, he2, he3⟩, q⟩ := hcs j hj
    have hlen := hN j
    have hLD : ((qC xs j).map xN).length = (qC xs j).length := List.length_map _
    by_cases hlt : j < 3 + n0
    · have hlt' : (0 : Int) < 3 + (n0 : Int) - j := by omega
      have hput := l6PutO_pf (qC xs j) (xs j) ⟨by omega, fun x hx => by have := (hM j (by omega) x hx).1; omega⟩ (by omega)
      have hz : qC xs (j + 1) = kE (qC xs j) (xs j) := rfl
      rw [← hz] at hput
      have k2 := y7 (yC code (cs (j + 1)))
      have m1 := wD (yC code (cs j))
      have k3 := y7 (o := ⟨98, 2, (qC xs (j + 1)).map xN⟩) (x8 _)
      refine AWp.weaken (Weak.frz 3 2 (out' := ⟨26, 1, [wG (qC xs j)]⟩) (wU rfl rfl) rfl rfl rfl (x8 _) rfl rfl (.cons (.cons (.ref _ hLD.symm) .nil) .nil) (Weak.refl _ _)) ?_
      (repeat' (first|(apply xW;((exact Want.none_ rfl)))|(apply xF zI;exact rfl;exact rfl)|((first|apply y6|apply yE)<;>(first|exact zI|exact rfl|refine yJ ?_|omega|exact lb rfl))|apply zT|(refine yL ?_ ?_;kernel_rfl)|apply AWp.Q|apply zH|apply AWp.G|apply AWp.B|apply AWp.J|apply zJ|(refine AWp.D ?_ ?_;kernel_rfl)|(apply AWp.T;exact rfl;((exact dT ‹_›)))|(apply (yD (q));(iterate 7 exact rfl);(focus (repeat (first|exact All2.nil|refine All2.cons rfl ?_)));exact rfl;(focus (repeat (first|exact MAs.nil|apply MAs.cons|apply MA.c|exact MC.ptr rfl)));((assumption));((assumption));exact rfl;exact rfl)|(apply (yD (hput));(iterate 7 exact rfl);(focus (repeat ((exact All2.nil))));exact rfl;(focus (repeat (first|exact MAs.nil|apply MAs.cons|apply MA.agg|exact MCs.nil|apply MCs.cons|exact MC.vc (VC.imm (Imm.v _))|exact MC.vc (VC.imm (Imm.sl _)))));((assumption));((exact xH));exact rfl;exact rfl)))
      refine ⟨j + 1, by omega, by omega, ?_⟩
      refine Weak.of [(0, some 0), (1, some 1), (2, some 2), (3, some 4)] rfl ?_ ?_ <;> (repeat' (first|exact trivial|exact rfl|apply And.intro|(apply cgI;(omega))|refine ⟨_,rfl,rfl,rfl,OW.one ?_⟩|refine oWs rfl rfl rfl ?_ ?_))
      all_goals first | exact yC _ _ | exact x8 _ | skip
    · have hlt' : ¬ (0 : Int) < 3 + (n0 : Int) - j := by omega
      obtain rfl : j = 3 + n0 := by omega
      (repeat' (first|(apply xW;((exact Want.none_ rfl)))|(apply xF zI;exact rfl;exact rfl)|(((apply yE))<;>(first|exact zI|exact rfl|refine yJ ?_|exact lb rfl))|apply zT|apply AWp.Q|apply zH|apply AWp.G|apply AWp.X|apply AWp.R|apply zP|apply zN|(apply AWp.F;exact rfl;((exact dF ‹_›)))))
      (((refine z7 _ [(0, some 0), (1, some 3)] (.cons (y4 rfl rfl rfl zI rfl rfl rfl) .nil) ?_ rfl ?_)) <;> (repeat' (first|exact trivial|exact rfl|apply And.intro|refine ⟨_,rfl,rfl,rfl,OW.one ?_⟩|refine oWs rfl rfl rfl ?_ ?_)))
      all_goals first | exact yC _ _ | exact x8 _ | skip
theorem dictionary_ex : ∃ (c' : Cur) (es : List Ent), c'.a ≤ c.a + 700 ∧ (es.length ≤ 9 ∧ ∀ x ∈ es, EO x) ∧ PFM Tryz.prog 133 [xQ code c] [.c (.ptr 0 0 0)] [some (xQ code c')] (.agg (wG es)) := by
  obtain ⟨c', es, h1, ⟨h2, _, h3⟩, p⟩ := dictionaryO_ex code c hl hc
  refine ⟨c', es, h1, ⟨h2, h3⟩, PFM.frzL (outs := [some (xQ code c')]) p (by simp) (x8 _) (fun i h => ?_) (fun o h => ?_)⟩
  · obtain rfl : i = 0 := by simpa using h
    exact ⟨_, rfl⟩
  · have e : o = xQ code c' := by simpa using h
    subst e
    exact yC code c'
end
section
variable (code : List UInt8) (c : Cur) (hl : code.length ≤ 65536) (hc : c.a ≤ 3000000) (es : List Ent) (hn : es.length ≤ 100) (he : ∀ x ∈ es, EO x)
include hl hc hn he
theorem known_ex : ∃ (c' : Cur) (l : List Int), c'.a ≤ c.a + 75 ∧ (l.length ≤ 8 ∧ DS l) ∧ PFM Tryz.prog 134 [xQ code c] [.c (.ptr 0 0 0), .agg (wG es)] [some (xQ code c'), some ⟨3, 1, l.map yX⟩] (.c (.ref 1 0 l.length)) := by
  have hL : (es.map xN).length = es.length := List.length_map _
  have j1 := wD (yC code c)
  rcases Nat.eq_zero_or_pos es.length with h0 | h0
  · obtain ⟨c1, l, a1, hll, p1⟩ := anyOutline_ex code c hl (by omega)
    have i1 := vX (b := ⟨3, 1, l.map yX⟩) (yC code c1) (y8 l).imm
    have h0' : ¬ (0 : Int) < ((es.map xN).length : Int) := by omega
    refine ⟨c1, l, by omega, hll, ?_⟩
    refine zD (xY _ _) (xV _) rfl Tryz.func134 rfl (by kernel_rfl) _ _ rfl rfl rfl (fun w0 mu I0 β0 gi dis => ?_)
    (repeat' (first|(apply xW;((exact Want.none_ rfl)))|(apply xF zI;exact rfl;exact rfl)|(apply yW;exact rfl;exact rfl;((exact dF ‹_›));exact rfl;exact rfl)|(apply yV;(iterate 5 exact rfl);((exact dF ‹_›)))|apply zT|apply AWp.Q|apply zH|apply AWp.G|apply AWp.J|apply AWp.R|(apply AWp.F;exact rfl;((exact rfl)))|(apply (yD (p1));(iterate 7 exact rfl);(focus (repeat (first|exact All2.nil|refine All2.cons rfl ?_)));exact rfl;(focus (repeat (first|exact MAs.nil|apply MAs.cons|apply MA.c|exact MC.ptr rfl)));((assumption));((assumption));exact rfl;exact rfl)))
    (((refine z7 _ [(0, some 0), (1, some 2)] (.cons (zS rfl) .nil) ?_ rfl ?_)) <;> (repeat' (first|exact trivial|exact rfl|apply And.intro|refine ⟨_,rfl,rfl,rfl,OW.one ?_⟩|refine oWs rfl rfl rfl ?_ ?_)))
    all_goals first | exact yC _ _ | exact (y8 _).imm
  · have h0' : (0 : Int) < ((es.map xN).length : Int) := by omega
    obtain ⟨c1, b, a1, p1⟩ := qH code c hl (by omega) 3 (by omega)
    have i1 := y7 (yC code c1)
    have j2 := wD (yC code c1)
    cases b with
    | true =>
      obtain ⟨c2, l, a2, hll, p2⟩ := anyOutline_ex code c1 hl (by omega)
      have i2 := vX (b := ⟨3, 1, l.map yX⟩) (yC code c2) (y8 l).imm
      refine ⟨c2, l, by omega, hll, ?_⟩
      refine zD (xY _ _) (xV _) rfl Tryz.func134 rfl (by kernel_rfl) _ _ rfl rfl rfl (fun w0 mu I0 β0 gi dis => ?_)
      (repeat' (first|(apply xW;(first|exact Want.none_ rfl|(refine zZ rfl rfl rfl rfl ?_;((exact dT ‹_›)))))|(apply xF zI;exact rfl;exact rfl)|(apply yW;exact rfl;exact rfl;((exact dT ‹_›));exact rfl;exact rfl)|apply zT|apply AWp.Q|apply zH|apply AWp.G|apply AWp.J|apply AWp.R|(apply AWp.F;exact rfl;((exact rfl)))|(apply (yD (p1));(iterate 7 exact rfl);(focus (repeat (first|exact All2.nil|refine All2.cons rfl ?_)));exact rfl;(focus (repeat (first|exact MAs.nil|apply MAs.cons|apply MA.c|exact MC.ptr rfl|exact MC.vc (VC.imm (Imm.v _)))));((assumption));((assumption));exact rfl;exact rfl)|(apply (yD (p2));(iterate 7 exact rfl);(focus (repeat (first|exact All2.nil|refine All2.cons rfl ?_)));exact rfl;(focus (repeat (first|exact MAs.nil|apply MAs.cons|apply MA.c|exact MC.ptr rfl)));((assumption));((assumption));exact rfl;exact rfl)))
      (((refine z7 _ [(0, some 0), (1, some 2)] (.cons (zS rfl) .nil) ?_ rfl ?_)) <;> (repeat' (first|exact trivial|exact rfl|apply And.intro|refine ⟨_,rfl,rfl,rfl,OW.one ?_⟩|refine oWs rfl rfl rfl ?_ ?_)))
      all_goals first | exact yC _ _ | exact (y8 _).imm
    | false =>
      obtain ⟨c2, k, a2, hk, p2⟩ := wT code c1 hl (by omega) es.length (by omega)
      rw [← hL] at p2
      have i2 := y7 (yC code c2)
      obtain ⟨x, hx⟩ := xP hk
      have hx' : (es.map xN)[k]? = some (xN x) := xS hx
      obtain ⟨e1, e2, e3⟩ := he x (List.mem_of_getElem? hx)
      have p3 := l1Own_pf x.o (by omega)
      have hsx := y8 x.o
      have hLx : (x.o.map yX).length = x.o.length := List.length_map _
      refine ⟨c2, x.o, by omega, ⟨by omega, e2⟩, ?_⟩
      refine zD (xY _ _) (xV _) rfl Tryz.func134 rfl (by kernel_rfl) _ _ rfl rfl rfl (fun w0 mu I0 β0 gi dis => ?_)
      (repeat' (first|(apply xW;(first|exact Want.none_ rfl|(refine zZ rfl rfl rfl rfl ?_;((exact dT ‹_›)))))|(apply xF zI;exact rfl;exact rfl)|(((apply z6;exact rfl;exact rfl))<;>(first|exact zI|exact rfl|refine yJ ?_|assumption))|(apply yW;exact rfl;exact rfl;((exact dT ‹_›));exact rfl;exact rfl)|apply zT|(refine yL ?_ ?_;kernel_rfl)|apply AWp.Q|apply zH|apply AWp.G|apply AWp.R|apply zK|(refine AWp.D ?_ ?_;kernel_rfl)|(apply AWp.T;exact rfl;((exact rfl)))|(apply (yD (p1));(iterate 7 exact rfl);(focus (repeat (first|exact All2.nil|refine All2.cons rfl ?_)));exact rfl;(focus (repeat (first|exact MAs.nil|apply MAs.cons|apply MA.c|exact MC.ptr rfl|exact MC.vc (VC.imm (Imm.v _)))));((assumption));((assumption));exact rfl;exact rfl)|(apply (yD (p2));(iterate 7 exact rfl);(focus (repeat (first|exact All2.nil|refine All2.cons rfl ?_)));exact rfl;(focus (repeat (first|exact MAs.nil|apply MAs.cons|apply MA.c|exact MC.ptr rfl|exact MC.vc (VC.imm (Imm.v _)))));((assumption));((assumption));exact rfl;exact rfl)|(apply yI;(iterate 6 exact rfl);(iterate 2 (focus (repeat (first|exact VAs.nil|apply VAs.cons|apply VA.c|exact VCs.nil|exact VC.imm (Imm.sl _)))));((exact p3));(focus (repeat ((exact Flat.ref _ _ _))));((apply yP;(focus (repeat (first|exact trivial|apply And.intro|((assumption)))))));((exact xD _ _ _ _)))))
      (((refine z7 _ [(0, some 0), (1, some 2)] (.cons (zS rfl) .nil) ?_ rfl ?_)) <;> (repeat' (first|exact trivial|exact rfl|apply And.intro|refine ⟨_,rfl,rfl,rfl,OW.one ?_⟩|refine oWs rfl rfl rfl ?_ ?_|(refine aIm ?_;(assumption)))))
      all_goals first | exact yC _ _ | exact (y8 _).imm
end
end Go.Proofs.YtchpdclknbmdoaaGreatDoor
