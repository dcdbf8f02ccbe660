/- Drawn dictionaries and known outlines. -/
import Derived.Test.YtchpdclknbmdoaaGreatDoorDcG
namespace Go.Proofs.YtchpdclknbmdoaaGreatDoor
open Go Go.RowKit
theorem psS_one (e x : Ent) (s : List Ent × Bool) (k : Nat) (h : s.1.length ≤ k + if s.2 then 1 else 0) : (psS e x s).1.length ≤ k + 1 + if (psS e x s).2 then 1 else 0 := by
  obtain ⟨O, p⟩ := s
  by_cases hc : wK x.o e.o = 0
  · cases p with
    | true => rw [psS_B hc]; simp at h ⊢; omega
    | false => rw [psS_A hc]; simp at h ⊢; omega
  · by_cases hp : 0 ≤ wK x.o e.o ∧ p = false
    · obtain ⟨hge, rfl⟩ := hp
      rw [psS_C hc hge]; simp at h ⊢; omega
    · rw [psS_D hc hp]
      cases p <;> simp at h ⊢ <;> omega
theorem psT_one (es : List Ent) (e : Ent) : ∀ k, k ≤ es.length → (psT es e k).1.length ≤ k + if (psT es e k).2 then 1 else 0
  | 0, _ => Nat.zero_le _
  | k + 1, hk => by
    obtain ⟨x, hx⟩ := xY (show k < es.length by omega)
    rw [psT_succ hx]
    exact psS_one e x _ k (psT_one es e k (by omega))
theorem putE_one (es : List Ent) (e : Ent) : (kL es e).length ≤ es.length + 1 := by
  have h := psT_one es e es.length (Nat.le_refl _)
  rw [kL]
  split
  · rename_i h1; rw [h1] at h; simpa using h
  · rename_i h1
    rw [if_neg h1] at h
    rw [List.length_append]; simp; omega
def EO (e : Ent) : Prop := e.o.length ≤ 3 ∧ DS e.o ∧ e.t.length ≤ 100
def qD (xs : Nat → Ent) : Nat → List Ent
  | 0 => []
  | j + 1 => kL (qD xs j) (xs j)
theorem dicT_len (xs : Nat → Ent) : ∀ j, (qD xs j).length ≤ j
  | 0 => Nat.le_refl _
  | j + 1 => by
    have h1 := dicT_len xs j
    have h2 := putE_one (qD xs j) (xs j)
    rw [qD]; omega
theorem dicT_mem {xs : Nat → Ent} {n : Nat} (h : ∀ j, j < n → EO (xs j)) : ∀ j, j ≤ n → ∀ y ∈ qD xs j, EO y
  | 0, _, y, hy => by simp [qD] at hy
  | j + 1, hj, y, hy => putE_mem (P := EO) (h j (by omega)) (dicT_mem h j (by omega)) y hy
theorem psS_ge (e x : Ent) (s : List Ent × Bool) : s.1.length ≤ (psS e x s).1.length := by
  obtain ⟨O, p⟩ := s
  by_cases hc : wK x.o e.o = 0
  · cases p with
    | true => rw [psS_B hc]; exact Nat.le_refl _
    | false => rw [psS_A hc]; simp
  · by_cases hp : 0 ≤ wK x.o e.o ∧ p = false
    · obtain ⟨hge, rfl⟩ := hp
      rw [psS_C hc hge]; simp
    · rw [psS_D hc hp]; simp
theorem psT_flag (es : List Ent) (e : Ent) : ∀ k, (psT es e k).2 = true → 1 ≤ (psT es e k).1.length
  | 0, h => by cases h
  | k + 1, h => by
    rw [psT] at h ⊢
    cases hk : es[k]? with
    | none => rw [hk] at h; exact psT_flag es e k h
    | some x =>
      rw [hk] at h
      dsimp only at h ⊢
      cases hp : (psT es e k).2 with
      | true => exact Nat.le_trans (psT_flag es e k hp) (psS_ge e x _)
      | false =>
        generalize psT es e k = st at h hp ⊢
        obtain ⟨O, p⟩ := st
        dsimp only at hp
        subst hp
        by_cases hc : wK x.o e.o = 0
        · rw [psS_A hc]; simp
        · by_cases hg : 0 ≤ wK x.o e.o
          · rw [psS_C hc hg]; simp
          · rw [psS_D hc (fun h => hg h.1)] at h; cases h
theorem putE_pos (es : List Ent) (e : Ent) : 1 ≤ (kL es e).length := by
  rw [kL]
  split
  · rename_i h; exact psT_flag es e _ h
  · simp
theorem dicT_pos (xs : Nat → Ent) {j : Nat} (h : 1 ≤ j) : 1 ≤ (qD xs j).length := by
  obtain ⟨k, rfl⟩ : ∃ k, j = k + 1 := ⟨j - 1, by omega⟩
  rw [qD]; exact putE_pos _ _
section
variable (code : List UInt8) (c : Cur) (hl : code.length ≤ 65536) (hc : c.a ≤ 3500000)
include hl hc
theorem entry_ex : ∃ (c' : Cur) (e : Ent), c'.a ≤ c.a + 62 ∧ EO e ∧ PFM Tryz.prog 145 [xR code c] [.c (.ptr 0 0 0)] [some (xR code c')] (.agg (xO e)) := by
  obtain ⟨c1, o, a1, ho, p1⟩ := outline_ex code c hl (by omega)
  obtain ⟨c2, t, a2, ht, p2⟩ := translation_ex code c1 hl (by omega)
  have i1 := vP (b := ⟨3, 1, o.map yU⟩) (yG code c1) (xI o).imm
  have i2 := y6 (yG code c2)
  have j1 := x6 (yG code c)
  have j2 := x6 (yG code c1)
  have hsc := xI o
  refine ⟨c2, ⟨o, t⟩, by omega, ⟨ho.2.1, ho.2.2, ht⟩, ?_⟩
  refine zD (xM _) (xU _) rfl Tryz.func145 rfl (by kernel_rfl) _ _ rfl rfl rfl (fun w0 mu I0 β0 gi dis => ?_)
  (repeat' (first|(apply xW;((exact Want.none_ rfl)))|(apply xF zI;exact rfl;exact rfl)|((first|apply yS|apply zV|apply yE)<;>(first|exact zI|exact rfl|refine yI ?_|exact lb rfl|((try refine Bd.mk ?_);(focus (simp;done)))))|apply zS|apply AWp.Q|apply zH|apply AWp.G|(apply (zZ (p1));(iterate 7 exact rfl);(focus (repeat (first|exact All2.nil|refine All2.cons rfl ?_)));exact rfl;(focus (repeat (first|exact MAs.nil|apply MAs.cons|apply MA.c|exact MC.ptr rfl)));((assumption));((assumption));exact rfl;exact rfl)|(apply (zZ (p2));(iterate 7 exact rfl);(focus (repeat (first|exact All2.nil|refine All2.cons rfl ?_)));exact rfl;(focus (repeat (first|exact MAs.nil|apply MAs.cons|apply MA.c|exact MC.ptr rfl)));((assumption));((assumption));exact rfl;exact rfl)))
  refine AWp.weaken (Weak.frz 2 1 (out' := ⟨98, 2, [[.sl (o.map yU), str t]]⟩) (vH rfl rfl) rfl rfl rfl hsc.imm rfl rfl ?_ (Weak.refl _ _)) ?_
  · show All2 _ [[Cell.ref 2 0 o.length, str t]] [[.sl (o.map yU), str t]]
    exact .cons (.cons (.ref _ (by simp)) (.cons (.same _) .nil)) .nil
  apply AWp.R
  (((refine zX _ [(0, some 0)] (.cons (yY rfl rfl rfl zI rfl rfl rfl) .nil) ?_ rfl ?_)) <;> (repeat' (first|exact trivial|exact rfl|apply And.intro|refine ⟨_,rfl,rfl,rfl,OW.one ?_⟩)))
  all_goals first | exact yG _ _ | skip
end
section
variable (code : List UInt8) (c : Cur) (hl : code.length ≤ 65536) (hc : c.a ≤ 3000000)
include hl hc
theorem dictionaryO_ex : ∃ (c' : Cur) (es : List Ent), c'.a ≤ c.a + 700 ∧ (es.length ≤ 9 ∧ 1 ≤ es.length ∧ ∀ x ∈ es, EO x) ∧ PFM Tryz.prog 133 [xR code c] [.c (.ptr 0 0 0)] [some (xR code c'), some ⟨98, 2, es.map xO⟩] (.agg [.ref 1 0 es.length]) := by
  obtain ⟨c1, n0, a1, hn0, p1⟩ := wD code c hl (by omega) 7 (by omega)
  have i1 := y6 (yG code c1)
  have j1 := x6 (yG code c)
  obtain ⟨cs, xs, hc0, hcs⟩ := qU (X := Ent) (fun c c' e => EO e ∧ PFM Tryz.prog 145 [xR code c] [.c (.ptr 0 0 0)] [some (xR code c')] (.agg (xO e))) 62 3400000 (fun c hc => entry_ex code c hl (by omega)) c1 (3 + n0) (by omega)
  subst hc0
  have aN := (hcs (3 + n0) (Nat.le_refl _)).1
  have hE : ∀ j, j < 3 + n0 → EO (xs j) := fun j hj => (hcs j (by omega)).2.2.1
  have hM := dicT_mem hE
  have hN := dicT_len xs
  refine ⟨cs (3 + n0), qD xs (3 + n0), by omega, ⟨by have := hN (3 + n0); omega, dicT_pos xs (by omega), hM _ (Nat.le_refl _)⟩, ?_⟩
  refine zD (xM _) (xU _) rfl Tryz.func133 rfl (by kernel_rfl) _ _ rfl rfl rfl (fun w0 mu I0 β0 gi dis => ?_)
  (repeat' (first|(apply xW;((exact Want.none_ rfl)))|(apply xF zI;exact rfl;exact rfl)|((first|apply z8|apply yS|apply zV|apply yE)<;>(first|exact zI|exact rfl|refine yI ?_|omega|exact lb rfl|((try refine Bd.mk ?_);(focus (simp;done)))))|apply zS|apply AWp.Q|apply zH|apply AWp.G|apply AWp.B|(apply (zZ (p1));(iterate 7 exact rfl);(focus (repeat (first|exact All2.nil|refine All2.cons rfl ?_)));exact rfl;(focus (repeat (first|exact MAs.nil|apply MAs.cons|apply MA.c|exact MC.ptr rfl|exact MC.vc (VC.imm (Imm.v _)))));((assumption));((assumption));exact rfl;exact rfl)))
  refine AWp.U (σ := Nat) (fun j => ⟨[(0, .c (.ptr 0 0 0)), (2, .c (.ptr 1 0 0)), (3, .c (.ptr 2 0 0)), (4, .c (int (3 + (n0 : Int) - j)))], [(0, some (xR code (cs j))), (1, some ⟨26, 1, [[.nil]]⟩), (2, some ⟨26, 1, [[.ref 3 0 (qD xs j).length]]⟩), (3, some ⟨98, 2, (qD xs j).map xO⟩)], 4⟩) (fun j => j ≤ 3 + n0) (fun j => 3 + n0 - j) 0 (Nat.zero_le _) ?_ ?_
  · refine Weak.of [(0, some 0), (1, some 1), (2, some 2), (3, none)] rfl ?_ ?_ <;> (repeat' (first|exact trivial|exact rfl|apply And.intro|refine ⟨_,rfl,rfl,rfl,OW.one ?_⟩))
    all_goals first | exact yG _ _ | skip
  · intro j hj
    obtain ⟨ha, hb, ⟨he1, he2, he3⟩, q⟩ := hcs j hj
    have hlen := hN j
    have hLD : ((qD xs j).map xO).length = (qD xs j).length := List.length_map _
    by_cases hlt : j < 3 + n0
    · have hlt' : (0 : Int) < 3 + (n0 : Int) - j := by omega
      have hput := l6PutO_pf (qD xs j) (xs j) ⟨by omega, fun x hx => by have := (hM j (by omega) x hx).1; omega⟩ (by omega)
      have hz : qD xs (j + 1) = kL (qD xs j) (xs j) := rfl
      rw [← hz] at hput
      have k2 := y6 (yG code (cs (j + 1)))
      have m1 := x6 (yG code (cs j))
      have k3 := y6 (o := ⟨98, 2, (qD xs (j + 1)).map xO⟩) (x7 _)
      refine AWp.weaken (Weak.frz 3 2 (out' := ⟨26, 1, [x3 (qD xs j)]⟩) (vH rfl rfl) rfl rfl rfl (x7 _) rfl rfl (.cons (.cons (.ref _ hLD.symm) .nil) .nil) (Weak.refl _ _)) ?_
      (repeat' (first|(apply xW;((exact Want.none_ rfl)))|(apply xF zI;exact rfl;exact rfl)|((first|apply yZ|apply yE)<;>(first|exact zI|exact rfl|refine yI ?_|omega|exact lb rfl))|apply zS|(refine yN ?_ ?_;kernel_rfl)|apply AWp.Q|apply zH|apply AWp.G|apply AWp.B|apply AWp.J|apply zJ|(refine AWp.D ?_ ?_;kernel_rfl)|(apply AWp.T;exact rfl;((exact dT ‹_›)))|(apply (zZ (q));(iterate 7 exact rfl);(focus (repeat (first|exact All2.nil|refine All2.cons rfl ?_)));exact rfl;(focus (repeat (first|exact MAs.nil|apply MAs.cons|apply MA.c|exact MC.ptr rfl)));((assumption));((assumption));exact rfl;exact rfl)|(apply (zZ (hput));(iterate 7 exact rfl);(focus (repeat ((exact All2.nil))));exact rfl;(focus (repeat (first|exact MAs.nil|apply MAs.cons|apply MA.agg|exact MCs.nil|apply MCs.cons|exact MC.vc (VC.imm (Imm.v _))|exact MC.vc (VC.imm (Imm.sl _)))));((assumption));((exact xJ));exact rfl;exact rfl)))
      refine ⟨j + 1, by omega, by omega, ?_⟩
      refine Weak.of [(0, some 0), (1, some 1), (2, some 2), (3, some 4)] rfl ?_ ?_ <;> (repeat' (first|exact trivial|exact rfl|apply And.intro|(apply cgI;(omega))|refine ⟨_,rfl,rfl,rfl,OW.one ?_⟩|refine oWs rfl rfl rfl ?_ ?_))
      all_goals first | exact yG _ _ | exact x7 _ | skip
    · have hlt' : ¬ (0 : Int) < 3 + (n0 : Int) - j := by omega
      obtain rfl : j = 3 + n0 := by omega
      (repeat' (first|(apply xW;((exact Want.none_ rfl)))|(apply xF zI;exact rfl;exact rfl)|(((apply yE))<;>(first|exact zI|exact rfl|refine yI ?_|exact lb rfl))|apply zS|apply AWp.Q|apply zH|apply AWp.G|apply AWp.X|apply AWp.R|apply zR|apply zO|(apply AWp.F;exact rfl;((exact dF ‹_›)))))
      (((refine zX _ [(0, some 0), (1, some 3)] (.cons (yY rfl rfl rfl zI rfl rfl rfl) .nil) ?_ rfl ?_)) <;> (repeat' (first|exact trivial|exact rfl|apply And.intro|refine ⟨_,rfl,rfl,rfl,OW.one ?_⟩|refine oWs rfl rfl rfl ?_ ?_)))
      all_goals first | exact yG _ _ | exact x7 _ | skip
end
section
variable (code : List UInt8) (c : Cur) (hl : code.length ≤ 65536) (hc : c.a ≤ 3000000) (es : List Ent) (hn : es.length ≤ 100) (he : ∀ x ∈ es, EO x)
include hl hc hn he
end
end Go.Proofs.YtchpdclknbmdoaaGreatDoor
