/- Drawn dictionaries and known outlines. -/
import Derived.Test.YtchpdclknbmdoaaGreatDoorDcG
namespace Go.Proofs.YtchpdclknbmdoaaGreatDoor
open Go Go.RowKit
theorem psS_one (e x : Ent) (s : List Ent × Bool) (k : Nat) (h : s.1.length ≤ k + if s.2 then 1 else 0) : (psS e x s).1.length ≤ k + 1 + if (psS e x s).2 then 1 else 0 := by
  obtain ⟨O, p⟩ := s
  by_cases hc : wM x.o e.o = 0
  · cases p with
    | true => rw [psS_B hc]; simp at h ⊢; omega
    | false => rw [psS_A hc]; simp at h ⊢; omega
  · by_cases hp : 0 ≤ wM x.o e.o ∧ p = false
    · obtain ⟨hge, rfl⟩ := hp
      rw [psS_C hc hge]; simp at h ⊢; omega
    · rw [psS_D hc hp]
      cases p <;> simp at h ⊢ <;> omega
theorem psT_one (es : List Ent) (e : Ent) : ∀ k, k ≤ es.length → (psT es e k).1.length ≤ k + if (psT es e k).2 then 1 else 0
  | 0, _ => Nat.zero_le _
  | k + 1, hk => by
    obtain ⟨x, hx⟩ := xX (show k < es.length by omega)
    rw [psT_succ hx]
    exact psS_one e x _ k (psT_one es e k (by omega))
theorem putE_one (es : List Ent) (e : Ent) : (putE es e).length ≤ es.length + 1 := by
  have h := psT_one es e es.length (Nat.le_refl _)
  rw [putE]
  split
  · rename_i h1; rw [h1] at h; simpa using h
  · rename_i h1
    rw [if_neg h1] at h
    rw [List.length_append]; simp; omega
def EO (e : Ent) : Prop := e.o.length ≤ 3 ∧ DS e.o ∧ e.t.length ≤ 100
def qW (xs : Nat → Ent) : Nat → List Ent
  | 0 => []
  | j + 1 => putE (qW xs j) (xs j)
theorem dicT_len (xs : Nat → Ent) : ∀ j, (qW xs j).length ≤ j
  | 0 => Nat.le_refl _
  | j + 1 => by
    have h1 := dicT_len xs j
    have h2 := putE_one (qW xs j) (xs j)
    rw [qW]; omega
theorem dicT_mem {xs : Nat → Ent} {n : Nat} (h : ∀ j, j < n → EO (xs j)) : ∀ j, j ≤ n → ∀ y ∈ qW xs j, EO y
  | 0, _, y, hy => by simp [qW] at hy
  | j + 1, hj, y, hy => putE_mem (P := EO) (h j (by omega)) (dicT_mem h j (by omega)) y hy
theorem psS_ge (e x : Ent) (s : List Ent × Bool) : s.1.length ≤ (psS e x s).1.length := by
  obtain ⟨O, p⟩ := s
  by_cases hc : wM x.o e.o = 0
  · cases p with
    | true => rw [psS_B hc]; exact Nat.le_refl _
    | false => rw [psS_A hc]; simp
  · by_cases hp : 0 ≤ wM x.o e.o ∧ p = false
    · obtain ⟨hge, rfl⟩ := hp
      rw [psS_C hc hge]; simp
    · rw [psS_D hc hp]; simp
theorem psT_flag (es : List Ent) (e : Ent) : ∀ k, (psT es e k).2 = true → 1 ≤ (psT es e k).1.length
  | 0, h => by cases h
  | k + 1, h => by
    rw [psT] at h ⊢
    cases hk : es[k]? with
    | none => rw [hk] at h; exact psT_flag es e k h
    | some x =>
      rw [hk] at h
      dsimp only at h ⊢
      cases hp : (psT es e k).2 with
      | true => exact Nat.le_trans (psT_flag es e k hp) (psS_ge e x _)
      | false =>
        generalize psT es e k = st at h hp ⊢
        obtain ⟨O, p⟩ := st
        dsimp only at hp
        subst hp
        by_cases hc : wM x.o e.o = 0
        · rw [psS_A hc]; simp
        · by_cases hg : 0 ≤ wM x.o e.o
          · rw [psS_C hc hg]; simp
          · rw [psS_D hc (fun h => hg h.1)] at h; cases h
theorem putE_pos (es : List Ent) (e : Ent) : 1 ≤ (putE es e).length := by
  rw [putE]
  split
  · rename_i h; exact psT_flag es e _ h
  · simp
theorem dicT_pos (xs : Nat → Ent) {j : Nat} (h : 1 ≤ j) : 1 ≤ (qW xs j).length := by
  obtain ⟨k, rfl⟩ : ∃ k, j = k + 1 := ⟨j - 1, by omega⟩
  rw [qW]; exact putE_pos _ _
section
variable (code : List UInt8) (c : Cur) (hl : code.length ≤ 65536) (hc : c.a ≤ 3500000)
include hl hc
theorem entry_ex : ∃ (c' : Cur) (e : Ent), c'.a ≤ c.a + 62 ∧ EO e ∧ PFM Tryz.prog 145 [xT code c] [.c (.ptr 0 0 0)] [some (xT code c')] (.agg (xR e)) := by
  obtain ⟨c1, o, a1, ho, p1⟩ := outline_ex code c hl (by omega)
  obtain ⟨c2, t, a2, ht, p2⟩ := translation_ex code c1 hl (by omega)
  have i1 := qF (b := ⟨3, 1, o.map y4⟩) (yL code c1) (xJ o).imm
  have i2 := y5 (yL code c2)
  have j1 := wE (yL code c)
  have j2 := wE (yL code c1)
  have hsc := xJ o
  refine ⟨c2, ⟨o, t⟩, by omega, ⟨ho.2.1, ho.2.2, ht⟩, ?_⟩
  refine zD (xI _) (xV _) rfl Tryz.func145 rfl (by kernel_rfl) _ _ rfl rfl rfl (fun w0 mu I0 β0 gi dis => ?_)
  (repeat' (first|(apply xW;((exact Want.none_ rfl)))|(apply xF zK;exact rfl;exact rfl)|((first|apply yS|apply zX|apply yD)<;>(first|exact zK|exact rfl|refine yO ?_|exact lb rfl|((try refine Bd.mk ?_);(focus (simp;done)))))|apply zV|apply AWp.Q|apply zJ|apply AWp.G|(apply (zY (p1));(iterate 7 exact rfl);(focus (repeat (first|exact All2.nil|refine All2.cons rfl ?_)));exact rfl;(focus (repeat (first|exact MAs.nil|apply MAs.cons|apply MA.c|exact MC.ptr rfl)));((assumption));((assumption));exact rfl;exact rfl)|(apply (zY (p2));(iterate 7 exact rfl);(focus (repeat (first|exact All2.nil|refine All2.cons rfl ?_)));exact rfl;(focus (repeat (first|exact MAs.nil|apply MAs.cons|apply MA.c|exact MC.ptr rfl)));((assumption));((assumption));exact rfl;exact rfl)))
  refine AWp.weaken (Weak.frz 2 1 (out' := ⟨98, 2, [[.sl (o.map y4), str t]]⟩) (vX rfl rfl) rfl rfl rfl hsc.imm rfl rfl ?_ (Weak.refl _ _)) ?_
  · show All2 _ [[Cell.ref 2 0 o.length, str t]] [[.sl (o.map y4), str t]]
    exact .cons (.cons (.ref _ (by simp)) (.cons (.same _) .nil)) .nil
  apply AWp.R
  (((refine z6 _ [(0, some 0)] (.cons (xC rfl rfl rfl zK rfl rfl rfl) .nil) ?_ rfl ?_)) <;> (repeat' (first|exact trivial|exact rfl|apply And.intro|refine ⟨_,rfl,rfl,rfl,OW.one ?_⟩)))
  all_goals first | exact yL _ _ | skip
end
section
variable (code : List UInt8) (c : Cur) (hl : code.length ≤ 65536) (hc : c.a ≤ 3000000)
include hl hc
theorem dictionaryO_ex : ∃ (c' : Cur) (es : List Ent), c'.a ≤ c.a + 700 ∧ (es.length ≤ 9 ∧ 1 ≤ es.length ∧ ∀ x ∈ es, EO x) ∧ PFM Tryz.prog 133 [xT code c] [.c (.ptr 0 0 0)] [some (xT code c'), some ⟨98, 2, es.map xR⟩] (.agg [.ref 1 0 es.length]) := by
  obtain ⟨c1, n0, a1, hn0, p1⟩ := vB code c hl (by omega) 7 (by omega)
  have i1 := y5 (yL code c1)
  have j1 := wE (yL code c)
  obtain ⟨cs, xs, hc0, hcs⟩ := seq_ex (X := Ent) (fun c c' e => EO e ∧ PFM Tryz.prog 145 [xT code c] [.c (.ptr 0 0 0)] [some (xT code c')] (.agg (xR e))) 62 3400000 (fun c hc => entry_ex code c hl (by omega)) c1 (3 + n0) (by omega)
  subst hc0
  have aN := (hcs (3 + n0) (Nat.le_refl _)).1
  have hE : ∀ j, j < 3 + n0 → EO (xs j) := fun j hj => (hcs j (by omega)).2.2.1
  have hM := dicT_mem hE
  have hN := dicT_len xs
  refine ⟨cs (3 + n0), qW xs (3 + n0), by omega, ⟨by have := hN (3 + n0); omega, dicT_pos xs (by omega), hM _ (Nat.le_refl _)⟩, ?_⟩
  refine zD (xI _) (xV _) rfl Tryz.func133 rfl (by kernel_rfl) _ _ rfl rfl rfl (fun w0 mu I0 β0 gi dis => ?_)
  (repeat' (first|(apply xW;((exact Want.none_ rfl)))|(apply xF zK;exact rfl;exact rfl)|((first|apply yF|apply yS|apply zX|apply yD)<;>(first|exact zK|exact rfl|refine yO ?_|omega|exact lb rfl|((try refine Bd.mk ?_);(focus (simp;done)))))|apply zV|apply AWp.Q|apply zJ|apply AWp.G|apply AWp.B|(apply (zY (p1));(iterate 7 exact rfl);(focus (repeat (first|exact All2.nil|refine All2.cons rfl ?_)));exact rfl;(focus (repeat (first|exact MAs.nil|apply MAs.cons|apply MA.c|exact MC.ptr rfl|exact MC.vc (VC.imm (Imm.v _)))));((assumption));((assumption));exact rfl;exact rfl)))
  refine AWp.U (σ := Nat) (fun j => ⟨[(0, .c (.ptr 0 0 0)), (2, .c (.ptr 1 0 0)), (3, .c (.ptr 2 0 0)), (4, .c (int (3 + (n0 : Int) - j)))], [(0, some (xT code (cs j))), (1, some ⟨26, 1, [[.nil]]⟩), (2, some ⟨26, 1, [[.ref 3 0 (qW xs j).length]]⟩), (3, some ⟨98, 2, (qW xs j).map xR⟩)], 4⟩) (fun j => j ≤ 3 + n0) (fun j => 3 + n0 - j) 0 (Nat.zero_le _) ?_ ?_
  · refine Weak.of [(0, some 0), (1, some 1), (2, some 2), (3, none)] rfl ?_ ?_ <;> (repeat' (first|exact trivial|exact rfl|apply And.intro|refine ⟨_,rfl,rfl,rfl,OW.one ?_⟩))
    all_goals first | exact yL _ _ | skip
  · intro j hj
    obtain ⟨ha, hb, ⟨he1, he2, he3⟩, q⟩ := hcs j hj
    have hlen := hN j
    have hLD : ((qW xs j).map xR).length = (qW xs j).length := List.length_map _
    by_cases hlt : j < 3 + n0
    · have hlt' : (0 : Int) < 3 + (n0 : Int) - j := by omega
      have hput := l6PutO_pf (qW xs j) (xs j) ⟨by omega, fun x hx => by have := (hM j (by omega) x hx).1; omega⟩ (by omega)
      have hz : qW xs (j + 1) = putE (qW xs j) (xs j) := rfl
      rw [← hz] at hput
      have k2 := y5 (yL code (cs (j + 1)))
      have m1 := wE (yL code (cs j))
      have k3 := y5 (o := ⟨98, 2, (qW xs (j + 1)).map xR⟩) (x8 _)
      refine AWp.weaken (Weak.frz 3 2 (out' := ⟨26, 1, [wI (qW xs j)]⟩) (vX rfl rfl) rfl rfl rfl (x8 _) rfl rfl (.cons (.cons (.ref _ hLD.symm) .nil) .nil) (Weak.refl _ _)) ?_
      (repeat' (first|(apply xW;((exact Want.none_ rfl)))|(apply xF zK;exact rfl;exact rfl)|((first|apply yW|apply yD)<;>(first|exact zK|exact rfl|refine yO ?_|omega|exact lb rfl))|apply zV|(refine yN ?_ ?_;kernel_rfl)|apply AWp.Q|apply zJ|apply AWp.G|apply AWp.B|apply AWp.J|apply zL|(refine AWp.D ?_ ?_;kernel_rfl)|(apply AWp.T;exact rfl;((exact dT ‹_›)))|(apply (zY (q));(iterate 7 exact rfl);(focus (repeat (first|exact All2.nil|refine All2.cons rfl ?_)));exact rfl;(focus (repeat (first|exact MAs.nil|apply MAs.cons|apply MA.c|exact MC.ptr rfl)));((assumption));((assumption));exact rfl;exact rfl)|(apply (zY (hput));(iterate 7 exact rfl);(focus (repeat ((exact All2.nil))));exact rfl;(focus (repeat (first|exact MAs.nil|apply MAs.cons|apply MA.agg|exact MCs.nil|apply MCs.cons|exact MC.vc (VC.imm (Imm.v _))|exact MC.vc (VC.imm (Imm.sl _)))));((assumption));((exact xE));exact rfl;exact rfl)))
      refine ⟨j + 1, by omega, by omega, ?_⟩
      refine Weak.of [(0, some 0), (1, some 1), (2, some 2), (3, some 4)] rfl ?_ ?_ <;> (repeat' (first|exact trivial|exact rfl|apply And.intro|(apply cgI;(omega))|refine ⟨_,rfl,rfl,rfl,OW.one ?_⟩|refine oWs rfl rfl rfl ?_ ?_))
      all_goals first | exact yL _ _ | exact x8 _ | skip
    · have hlt' : ¬ (0 : Int) < 3 + (n0 : Int) - j := by omega
      obtain rfl : j = 3 + n0 := by omega
      (repeat' (first|(apply xW;((exact Want.none_ rfl)))|(apply xF zK;exact rfl;exact rfl)|(((apply yD))<;>(first|exact zK|exact rfl|refine yO ?_|exact lb rfl))|apply zV|apply AWp.Q|apply zJ|apply AWp.G|apply AWp.X|apply AWp.R|apply zU|apply zR|(apply AWp.F;exact rfl;((exact dF ‹_›)))))
      (((refine z6 _ [(0, some 0), (1, some 3)] (.cons (xC rfl rfl rfl zK rfl rfl rfl) .nil) ?_ rfl ?_)) <;> (repeat' (first|exact trivial|exact rfl|apply And.intro|refine ⟨_,rfl,rfl,rfl,OW.one ?_⟩|refine oWs rfl rfl rfl ?_ ?_)))
      all_goals first | exact yL _ _ | exact x8 _ | skip
theorem dictionary_ex : ∃ (c' : Cur) (es : List Ent), c'.a ≤ c.a + 700 ∧ (es.length ≤ 9 ∧ ∀ x ∈ es, EO x) ∧ PFM Tryz.prog 133 [xT code c] [.c (.ptr 0 0 0)] [some (xT code c')] (.agg (wI es)) := by
  obtain ⟨c', es, h1, ⟨h2, _, h3⟩, p⟩ := dictionaryO_ex code c hl hc
  refine ⟨c', es, h1, ⟨h2, h3⟩, PFM.frzL (outs := [some (xT code c')]) p (by simp) (x8 _) (fun i h => ?_) (fun o h => ?_)⟩
  · obtain rfl : i = 0 := by simpa using h
    exact ⟨_, rfl⟩
  · have e : o = xT code c' := by simpa using h
    subst e
    exact yL code c'
end
section
variable (code : List UInt8) (c : Cur) (hl : code.length ≤ 65536) (hc : c.a ≤ 3000000) (es : List Ent) (hn : es.length ≤ 100) (he : ∀ x ∈ es, EO x)
include hl hc hn he
theorem known_ex : ∃ (c' : Cur) (l : List Int), c'.a ≤ c.a + 75 ∧ (l.length ≤ 8 ∧ DS l) ∧ PFM Tryz.prog 134 [xT code c] [.c (.ptr 0 0 0), .agg (wI es)] [some (xT code c'), some ⟨3, 1, l.map y4⟩] (.c (.ref 1 0 l.length)) := by
  have hL : (es.map xR).length = es.length := List.length_map _
  have j1 := wE (yL code c)
  rcases Nat.eq_zero_or_pos es.length with h0 | h0
  · obtain ⟨c1, l, a1, hll, p1⟩ := anyOutline_ex code c hl (by omega)
    have i1 := qF (b := ⟨3, 1, l.map y4⟩) (yL code c1) (xJ l).imm
    have h0' : ¬ (0 : Int) < ((es.map xR).length : Int) := by omega
    refine ⟨c1, l, by omega, hll, ?_⟩
    refine zD (x5 _ _) (xV _) rfl Tryz.func134 rfl (by kernel_rfl) _ _ rfl rfl rfl (fun w0 mu I0 β0 gi dis => ?_)
    (repeat' (first|(apply xW;((exact Want.none_ rfl)))|(apply xF zK;exact rfl;exact rfl)|(apply y8;exact rfl;exact rfl;((exact dF ‹_›));exact rfl;exact rfl)|(apply y7;(iterate 5 exact rfl);((exact dF ‹_›)))|apply zV|apply AWp.Q|apply zJ|apply AWp.G|apply AWp.J|apply AWp.R|(apply AWp.F;exact rfl;((exact rfl)))|(apply (zY (p1));(iterate 7 exact rfl);(focus (repeat (first|exact All2.nil|refine All2.cons rfl ?_)));exact rfl;(focus (repeat (first|exact MAs.nil|apply MAs.cons|apply MA.c|exact MC.ptr rfl)));((assumption));((assumption));exact rfl;exact rfl)))
    (((refine z6 _ [(0, some 0), (1, some 2)] (.cons (zT rfl) .nil) ?_ rfl ?_)) <;> (repeat' (first|exact trivial|exact rfl|apply And.intro|refine ⟨_,rfl,rfl,rfl,OW.one ?_⟩|refine oWs rfl rfl rfl ?_ ?_)))
    all_goals first | exact yL _ _ | exact (xJ _).imm
  · have h0' : (0 : Int) < ((es.map xR).length : Int) := by omega
    obtain ⟨c1, b, a1, p1⟩ := kN code c hl (by omega) 3 (by omega)
    have i1 := y5 (yL code c1)
    have j2 := wE (yL code c1)
    cases b with
    | true =>
      obtain ⟨c2, l, a2, hll, p2⟩ := anyOutline_ex code c1 hl (by omega)
      have i2 := qF (b := ⟨3, 1, l.map y4⟩) (yL code c2) (xJ l).imm
      refine ⟨c2, l, by omega, hll, ?_⟩
      refine zD (x5 _ _) (xV _) rfl Tryz.func134 rfl (by kernel_rfl) _ _ rfl rfl rfl (fun w0 mu I0 β0 gi dis => ?_)
      (repeat' (first|(apply xW;(first|exact Want.none_ rfl|(refine zZ rfl rfl rfl rfl ?_;((exact dT ‹_›)))))|(apply xF zK;exact rfl;exact rfl)|(apply y8;exact rfl;exact rfl;((exact dT ‹_›));exact rfl;exact rfl)|apply zV|apply AWp.Q|apply zJ|apply AWp.G|apply AWp.J|apply AWp.R|(apply AWp.F;exact rfl;((exact rfl)))|(apply (zY (p1));(iterate 7 exact rfl);(focus (repeat (first|exact All2.nil|refine All2.cons rfl ?_)));exact rfl;(focus (repeat (first|exact MAs.nil|apply MAs.cons|apply MA.c|exact MC.ptr rfl|exact MC.vc (VC.imm (Imm.v _)))));((assumption));((assumption));exact rfl;exact rfl)|(apply (zY (p2));(iterate 7 exact rfl);(focus (repeat (first|exact All2.nil|refine All2.cons rfl ?_)));exact rfl;(focus (repeat (first|exact MAs.nil|apply MAs.cons|apply MA.c|exact MC.ptr rfl)));((assumption));((assumption));exact rfl;exact rfl)))
      (((refine z6 _ [(0, some 0), (1, some 2)] (.cons (zT rfl) .nil) ?_ rfl ?_)) <;> (repeat' (first|exact trivial|exact rfl|apply And.intro|refine ⟨_,rfl,rfl,rfl,OW.one ?_⟩|refine oWs rfl rfl rfl ?_ ?_)))
      all_goals first | exact yL _ _ | exact (xJ _).imm
    | false =>
      obtain ⟨c2, k, a2, hk, p2⟩ := vB code c1 hl (by omega) es.length (by omega)
      rw [← hL] at p2
      have i2 := y5 (yL code c2)
      obtain ⟨x, hx⟩ := xX hk
      have hx' : (es.map xR)[k]? = some (xR x) := xZ hx
      obtain ⟨e1, e2, e3⟩ := he x (List.mem_of_getElem? hx)
      have p3 := l1Own_pf x.o (by omega)
      have hsx := xJ x.o
      have hLx : (x.o.map y4).length = x.o.length := List.length_map _
      refine ⟨c2, x.o, by omega, ⟨by omega, e2⟩, ?_⟩
      refine zD (x5 _ _) (xV _) rfl Tryz.func134 rfl (by kernel_rfl) _ _ rfl rfl rfl (fun w0 mu I0 β0 gi dis => ?_)
      (repeat' (first|(apply xW;(first|exact Want.none_ rfl|(refine zZ rfl rfl rfl rfl ?_;((exact dT ‹_›)))))|(apply xF zK;exact rfl;exact rfl)|(((apply yJ;exact rfl;exact rfl))<;>(first|exact zK|exact rfl|refine yO ?_|assumption))|(apply y8;exact rfl;exact rfl;((exact dT ‹_›));exact rfl;exact rfl)|apply zV|(refine yN ?_ ?_;kernel_rfl)|apply AWp.Q|apply zJ|apply AWp.G|apply AWp.R|apply zM|(refine AWp.D ?_ ?_;kernel_rfl)|(apply AWp.T;exact rfl;((exact rfl)))|(apply (zY (p1));(iterate 7 exact rfl);(focus (repeat (first|exact All2.nil|refine All2.cons rfl ?_)));exact rfl;(focus (repeat (first|exact MAs.nil|apply MAs.cons|apply MA.c|exact MC.ptr rfl|exact MC.vc (VC.imm (Imm.v _)))));((assumption));((assumption));exact rfl;exact rfl)|(apply (zY (p2));(iterate 7 exact rfl);(focus (repeat (first|exact All2.nil|refine All2.cons rfl ?_)));exact rfl;(focus (repeat (first|exact MAs.nil|apply MAs.cons|apply MA.c|exact MC.ptr rfl|exact MC.vc (VC.imm (Imm.v _)))));((assumption));((assumption));exact rfl;exact rfl)|(apply yM;(iterate 6 exact rfl);(iterate 2 (focus (repeat (first|exact VAs.nil|apply VAs.cons|apply VA.c|exact VCs.nil|exact VC.imm (Imm.sl _)))));((exact p3));(focus (repeat ((exact Flat.ref _ _ _))));((apply yZ;(focus (repeat (first|exact trivial|apply And.intro|((assumption)))))));((exact xP _ _ _ _)))))
      (((refine z6 _ [(0, some 0), (1, some 2)] (.cons (zT rfl) .nil) ?_ rfl ?_)) <;> (repeat' (first|exact trivial|exact rfl|apply And.intro|refine ⟨_,rfl,rfl,rfl,OW.one ?_⟩|refine oWs rfl rfl rfl ?_ ?_|(refine aIm ?_;(assumption)))))
      all_goals first | exact yL _ _ | exact (xJ _).imm
end
end Go.Proofs.YtchpdclknbmdoaaGreatDoor
