/- Strokes parsed loosely, by both programs. No conditions but bounds of lengths. -/
import Derived.Test.YtchpdclknbmdoaaDoorTpF
namespace Go.Proofs.YtchpdclknbmdoaaDoor
open Go Go.RowKit
def vD (c : UInt8) : Nat → Nat → Nat
  | 0, k => k
  | f + 1, k => if k < 23 ∧ qP[k]? ≠ some c then vD c f (k + 1) else k
theorem fstF_in (c : UInt8) : ∀ (f k : Nat), k ≤ 23 → k ≤ vD c f k ∧ vD c f k ≤ 23
  | 0, k, h => ⟨Nat.le_refl _, h⟩
  | f + 1, k, h => by
    rw [vD]
    split
    · have := fstF_in c f (k + 1) (by omega); omega
    · omega
structure Ls where
  s : Nat
  nx : Nat
  d : Bool
def lsS (c : UInt8) : Option Ls → Option Ls
  | none => none
  | some l => if c = 45 then (if l.d = true ∨ 13 < l.nx then none else some ⟨l.s, 13, true⟩)
    else if vD c 23 l.nx = 23 then none else some ⟨l.s ||| 2 ^ vD c 23 l.nx, vD c 23 l.nx + 1, l.d⟩
def lsK (t : List UInt8) : Nat → Option Ls
  | 0 => some ⟨0, 0, false⟩
  | k + 1 => match t[k]? with
    | some c => lsS c (lsK t k)
    | none => lsK t k
theorem lsK_succ {t : List UInt8} {k : Nat} {c : UInt8} (h : t[k]? = some c) : lsK t (k + 1) = lsS c (lsK t k) := by rw [lsK, h]
theorem lsK_none {t : List UInt8} {k : Nat} (h : lsK t k = none) : ∀ j, lsK t (k + j) = none
  | 0 => h
  | j + 1 => by
    have ih := lsK_none h j
    rw [← Nat.add_assoc, lsK, ih]
    cases t[k + j]? <;> rfl
theorem lsK_end {t : List UInt8} {k : Nat} (h : lsK t k = none) (hk : k ≤ t.length) : lsK t t.length = none := by
  have := lsK_none h (t.length - k)
  rwa [show k + (t.length - k) = t.length by omega] at this
theorem lsK_ok (t : List UInt8) : ∀ (k : Nat) (l : Ls), lsK t k = some l → l.s < 8388608 ∧ l.nx ≤ 23
  | 0, l, h => by
    rw [lsK] at h; cases h
    exact ⟨by show 0 < 8388608; decide, Nat.zero_le _⟩
  | k + 1, l, h => by
    rw [lsK] at h
    cases hc : t[k]? with
    | none => rw [hc] at h; exact lsK_ok t k l h
    | some c =>
      rw [hc] at h
      dsimp only at h
      cases hl : lsK t k with
      | none => rw [hl] at h; cases h
      | some m =>
        obtain ⟨h1, h2⟩ := lsK_ok t k m hl
        have h3 := fstF_in c 23 m.nx h2
        rw [hl, lsS] at h
        split at h
        · split at h
          · cases h
          · cases h; exact ⟨h1, by show 13 ≤ 23; decide⟩
        · split at h
          · cases h
          · cases h
            have h4 : 2 ^ vD c 23 m.nx < 2 ^ 23 := Nat.pow_lt_pow_right (by omega) (by omega)
            exact ⟨Nat.or_lt_two_pow (n := 23) h1 h4, by dsimp only; omega⟩
def lsV (t : List UInt8) : Nat := match lsK t t.length with
  | some l => l.s
  | none => 0
def lsB (t : List UInt8) : Bool := decide (lsV t ≠ 0)
theorem lsV_lt (t : List UInt8) : lsV t < 8388608 := by
  unfold lsV
  split
  · rename_i l h; exact (lsK_ok t _ l h).1
  · decide
theorem l2Loose_pf (t : List UInt8) (ht : t.length ≤ 4000000) : PF Tryd.prog 85 [.c (str t)] [] (.tup [.c (int (lsV t)), .c (boo (lsB t))]) := by
  refine PF.enter (xM _) Tryd.func85 rfl (by kernel_rfl) _ _ rfl rfl rfl (fun w0 mu I0 β0 gi dis => ?_)
  (repeat' (first|(apply xW;(first|exact Want.none_ rfl|(refine yA rfl rfl rfl rfl ?_;(first|assumption|exact dT ‹_›|exact dF ‹_›|exact rfl))))|(apply xF zH;exact rfl;exact rfl)|((first|(apply z6;exact rfl;exact rfl)|apply z7|apply x9)<;>(first|exact zH|exact Nat.zero_add _|exact rfl|refine yN ?_|assumption|omega|exact ⟨rfl⟩|exact ⟨rfl,_,_,rfl,rfl⟩|exact lb rfl|(refine Bd.mk ?_;first|assumption|omega|(focus (simp;done))|(simp;omega)|decide)|(focus (simp;done))|(simp;omega)|(simp only [lA,lB,lC,lD,lE];omega)))|(apply yW;exact rfl;exact rfl;(first|assumption|exact dT ‹_›|exact dF ‹_›|exact rfl);exact rfl;exact rfl)|(apply yV;(iterate 5 exact rfl);(first|assumption|exact dT ‹_›|exact dF ‹_›|exact rfl))|(apply yL;(iterate 5 exact rfl))|apply zS|(refine yQ ?_ ?_;kernel_rfl)|apply AWp.Q|apply zG|apply AWp.G|apply AWp.B|apply AWp.J|apply AWp.X|apply AWp.R|apply zO|apply zJ|apply zI|apply zL|apply zM|(refine AWp.D ?_ ?_;kernel_rfl)|(refine zK rfl ?_)|(apply AWp.T;exact rfl;(first|assumption|exact dT ‹_›|exact dF ‹_›|exact rfl))|(apply AWp.F;exact rfl;(first|assumption|exact dT ‹_›|exact dF ‹_›|exact rfl))|((first|refine zT rfl rfl rfl ?_ ?_|refine zX rfl rfl rfl ?_ ?_)<;>intro hp<;>(try (exfalso;omega)))|((first|refine AWp.C rfl ?_ ?_|refine AWp.O _ rfl ?_ ?_)<;>intro hp<;>(try (exfalso;omega)))))
  refine AWp.U (σ := Nat × Ls) (fun q => ⟨[(0, .c (str t)), (4, .c (int q.2.s)), (5, .c (int q.2.nx)), (6, .c (boo q.2.d)), (7, .c (int q.1))], [], 0⟩) (fun q => q.1 ≤ t.length ∧ lsK t q.1 = some q.2) (fun q => t.length - q.1) (0, ⟨0, 0, false⟩) ⟨Nat.zero_le _, rfl⟩ ?_ ?_
  · refine Weak.of [] rfl ?_ ?_ <;> (repeat' (first|exact trivial|exact rfl|exact Or.inr ⟨rfl,‹_›⟩|exact Or.inl ⟨rfl,trivial⟩|apply And.intro|exact congrArg (Value.int .i64) (by first|omega|(simp;done)|(simp;omega))|(refine yD ?_;first|(focus (simp;done))|omega|(simp only [lA,lB,lC,lD,lE];omega))|(refine ⟨_,rfl,rfl,rfl,OW.one ?_⟩)|(refine ⟨_,rfl,rfl,rfl,OW.same ?_ ?_⟩)|refine vwB ?_|refine vwS ?_|refine vwI ?_|refine fwB ?_|refine fwS ?_|refine fwI ?_|(refine aIm ?_;first|exact AllSc.nil|assumption)))
  · rintro ⟨k, l⟩ ⟨hk, hl⟩
    dsimp only at hk hl ⊢
    obtain ⟨hs, hn⟩ := lsK_ok t k l hl
    by_cases hlt : k < t.length
    · obtain ⟨c, hc⟩ := xR hlt
      have hlt' : (k : Int) < (t.length : Int) := by omega
      have hsu := lsK_succ hc
      rw [hl, lsS] at hsu
      by_cases hc45 : c = 45
      · subst hc45
        rw [if_pos rfl] at hsu
        by_cases hd : l.d = true ∨ 13 < l.nx
        · rw [if_pos hd] at hsu
          have hend := lsK_end hsu (by omega)
          have e1 : lsV t = 0 := by rw [lsV, hend]
          have e2 : lsB t = false := by rw [lsB, e1]; rfl
          rw [e1, e2]
          rcases hd with hd | hd
          · rw [hd]
            (repeat' (first|(apply xW;(first|exact Want.none_ rfl|(refine yA rfl rfl rfl rfl ?_;(first|assumption|exact dT ‹_›|exact dF ‹_›|exact rfl))))|(apply xF zH;exact rfl;exact rfl)|((first|(apply z6;exact rfl;exact rfl)|apply z7|apply x9)<;>(first|exact zH|exact Nat.zero_add _|exact rfl|refine yN ?_|assumption|omega|exact ⟨rfl⟩|exact ⟨rfl,_,_,rfl,rfl⟩|exact lb rfl|(refine Bd.mk ?_;first|assumption|omega|(focus (simp;done))|(simp;omega)|decide)|(focus (simp;done))|(simp;omega)|(simp only [lA,lB,lC,lD,lE];omega)))|(apply yW;exact rfl;exact rfl;(first|assumption|exact dT ‹_›|exact dF ‹_›|exact rfl);exact rfl;exact rfl)|(apply yV;(iterate 5 exact rfl);(first|assumption|exact dT ‹_›|exact dF ‹_›|exact rfl))|(apply yL;(iterate 5 exact rfl))|apply zS|(refine yQ ?_ ?_;kernel_rfl)|apply AWp.Q|apply zG|apply AWp.G|apply AWp.B|apply AWp.J|apply AWp.X|apply AWp.R|apply zO|apply zJ|apply zI|apply zL|apply zM|(refine AWp.D ?_ ?_;kernel_rfl)|(refine zK rfl ?_)|(apply AWp.T;exact rfl;(first|assumption|exact dT ‹_›|exact dF ‹_›|exact rfl))|(apply AWp.F;exact rfl;(first|assumption|exact dT ‹_›|exact dF ‹_›|exact rfl))|((first|refine zT rfl rfl rfl ?_ ?_|refine zX rfl rfl rfl ?_ ?_)<;>intro hp<;>(try (exfalso;omega)))|((first|refine AWp.C rfl ?_ ?_|refine AWp.O _ rfl ?_ ?_)<;>intro hp<;>(try (exfalso;omega)))))
            ((first|refine yE _ [] (.cons (zR rfl) (.cons (zR rfl) .nil)) ?_ rfl ?_|refine yF _ [] (.cons (zR rfl) (.cons (zR rfl) .nil)) ?_ rfl ?_) <;> (repeat' (first|exact trivial|exact rfl|exact Or.inr ⟨rfl,‹_›⟩|exact Or.inl ⟨rfl,trivial⟩|apply And.intro|exact congrArg (Value.int .i64) (by first|omega|(simp;done)|(simp;omega))|(refine yD ?_;first|(focus (simp;done))|omega|(simp only [lA,lB,lC,lD,lE];omega))|(refine ⟨_,rfl,rfl,rfl,OW.one ?_⟩)|(refine ⟨_,rfl,rfl,rfl,OW.same ?_ ?_⟩)|refine vwB ?_|refine vwS ?_|refine vwI ?_|refine fwB ?_|refine fwS ?_|refine fwI ?_|(refine aIm ?_;first|exact AllSc.nil|assumption))))
          · have hd' : (13 : Int) < (l.nx : Int) := by omega
            (repeat' (first|(apply xW;(first|exact Want.none_ rfl|(refine yA rfl rfl rfl rfl ?_;(first|assumption|exact dT ‹_›|exact dF ‹_›|exact rfl))))|(apply xF zH;exact rfl;exact rfl)|((first|(apply z6;exact rfl;exact rfl)|apply z7|apply x9)<;>(first|exact zH|exact Nat.zero_add _|exact rfl|refine yN ?_|assumption|omega|exact ⟨rfl⟩|exact ⟨rfl,_,_,rfl,rfl⟩|exact lb rfl|(refine Bd.mk ?_;first|assumption|omega|(focus (simp;done))|(simp;omega)|decide)|(focus (simp;done))|(simp;omega)|(simp only [lA,lB,lC,lD,lE];omega)))|(apply yW;exact rfl;exact rfl;(first|assumption|exact dT ‹_›|exact dF ‹_›|exact rfl);exact rfl;exact rfl)|(apply yV;(iterate 5 exact rfl);(first|assumption|exact dT ‹_›|exact dF ‹_›|exact rfl))|(apply yL;(iterate 5 exact rfl))|apply zS|(refine yQ ?_ ?_;kernel_rfl)|apply AWp.Q|apply zG|apply AWp.G|apply AWp.B|apply AWp.J|apply AWp.X|apply AWp.R|apply zO|apply zJ|apply zI|apply zL|apply zM|(refine AWp.D ?_ ?_;kernel_rfl)|(refine zK rfl ?_)|(apply AWp.T;exact rfl;(first|assumption|exact dT ‹_›|exact dF ‹_›|exact rfl))|(apply AWp.F;exact rfl;(first|assumption|exact dT ‹_›|exact dF ‹_›|exact rfl))|((first|refine zT rfl rfl rfl ?_ ?_|refine zX rfl rfl rfl ?_ ?_)<;>intro hp<;>(try (exfalso;omega)))|((first|refine AWp.C rfl ?_ ?_|refine AWp.O _ rfl ?_ ?_)<;>intro hp<;>(try (exfalso;omega)))))
            all_goals
              ((first|refine yE _ [] (.cons (zR rfl) (.cons (zR rfl) .nil)) ?_ rfl ?_|refine yF _ [] (.cons (zR rfl) (.cons (zR rfl) .nil)) ?_ rfl ?_) <;> (repeat' (first|exact trivial|exact rfl|exact Or.inr ⟨rfl,‹_›⟩|exact Or.inl ⟨rfl,trivial⟩|apply And.intro|exact congrArg (Value.int .i64) (by first|omega|(simp;done)|(simp;omega))|(refine yD ?_;first|(focus (simp;done))|omega|(simp only [lA,lB,lC,lD,lE];omega))|(refine ⟨_,rfl,rfl,rfl,OW.one ?_⟩)|(refine ⟨_,rfl,rfl,rfl,OW.same ?_ ?_⟩)|refine vwB ?_|refine vwS ?_|refine vwI ?_|refine fwB ?_|refine fwS ?_|refine fwI ?_|(refine aIm ?_;first|exact AllSc.nil|assumption))))
        · rw [if_neg hd] at hsu
          have hd1 : l.d = false := by cases h : l.d <;> simp_all
          have hd2 : ¬ (13 : Int) < (l.nx : Int) := by
            have : ¬ 13 < l.nx := fun h => hd (.inr h)
            omega
          rw [hd1]
          (repeat' (first|(apply xW;(first|exact Want.none_ rfl|(refine yA rfl rfl rfl rfl ?_;(first|assumption|exact dT ‹_›|exact dF ‹_›|exact rfl))))|(apply xF zH;exact rfl;exact rfl)|((first|(apply z6;exact rfl;exact rfl)|apply z7|apply x9)<;>(first|exact zH|exact Nat.zero_add _|exact rfl|refine yN ?_|assumption|omega|exact ⟨rfl⟩|exact ⟨rfl,_,_,rfl,rfl⟩|exact lb rfl|(refine Bd.mk ?_;first|assumption|omega|(focus (simp;done))|(simp;omega)|decide)|(focus (simp;done))|(simp;omega)|(simp only [lA,lB,lC,lD,lE];omega)))|(apply yW;exact rfl;exact rfl;(first|assumption|exact dT ‹_›|exact dF ‹_›|exact rfl);exact rfl;exact rfl)|(apply yV;(iterate 5 exact rfl);(first|assumption|exact dT ‹_›|exact dF ‹_›|exact rfl))|(apply yL;(iterate 5 exact rfl))|apply zS|(refine yQ ?_ ?_;kernel_rfl)|apply AWp.Q|apply zG|apply AWp.G|apply AWp.B|apply AWp.J|apply AWp.X|apply AWp.R|apply zO|apply zJ|apply zI|apply zL|apply zM|(refine AWp.D ?_ ?_;kernel_rfl)|(refine zK rfl ?_)|(apply AWp.T;exact rfl;(first|assumption|exact dT ‹_›|exact dF ‹_›|exact rfl))|(apply AWp.F;exact rfl;(first|assumption|exact dT ‹_›|exact dF ‹_›|exact rfl))|((first|refine zT rfl rfl rfl ?_ ?_|refine zX rfl rfl rfl ?_ ?_)<;>intro hp<;>(try (exfalso;omega)))|((first|refine AWp.C rfl ?_ ?_|refine AWp.O _ rfl ?_ ?_)<;>intro hp<;>(try (exfalso;omega)))))
          refine ⟨(k + 1, ⟨l.s, 13, true⟩), ⟨by dsimp only; omega, hsu⟩, by dsimp only; omega, ?_⟩
          refine Weak.of [] rfl ?_ ?_ <;> (repeat' (first|exact trivial|exact rfl|exact Or.inr ⟨rfl,‹_›⟩|exact Or.inl ⟨rfl,trivial⟩|apply And.intro|exact congrArg (Value.int .i64) (by first|omega|(simp;done)|(simp;omega))|(refine yD ?_;first|(focus (simp;done))|omega|(simp only [lA,lB,lC,lD,lE];omega))|(refine ⟨_,rfl,rfl,rfl,OW.one ?_⟩)|(refine ⟨_,rfl,rfl,rfl,OW.same ?_ ?_⟩)|refine vwB ?_|refine vwS ?_|refine vwI ?_|refine fwB ?_|refine fwS ?_|refine fwI ?_|(refine aIm ?_;first|exact AllSc.nil|assumption)))
      · rw [if_neg hc45] at hsu
        have hc45' : ¬ ((c.toNat : Nat) : Int) = 45 := fun e => hc45 (UInt8.toNat_inj.1 (by show c.toNat = 45; omega))
        have hF := fstF_in c 23 l.nx hn
        (repeat' (first|(apply xW;(first|exact Want.none_ rfl|(refine yA rfl rfl rfl rfl ?_;(first|assumption|exact dT ‹_›|exact dF ‹_›|exact rfl))))|(apply xF zH;exact rfl;exact rfl)|((first|(apply z6;exact rfl;exact rfl)|apply z7|apply x9)<;>(first|exact zH|exact Nat.zero_add _|exact rfl|refine yN ?_|assumption|omega|exact ⟨rfl⟩|exact ⟨rfl,_,_,rfl,rfl⟩|exact lb rfl|(refine Bd.mk ?_;first|assumption|omega|(focus (simp;done))|(simp;omega)|decide)|(focus (simp;done))|(simp;omega)|(simp only [lA,lB,lC,lD,lE];omega)))|(apply yW;exact rfl;exact rfl;(first|assumption|exact dT ‹_›|exact dF ‹_›|exact rfl);exact rfl;exact rfl)|(apply yV;(iterate 5 exact rfl);(first|assumption|exact dT ‹_›|exact dF ‹_›|exact rfl))|(apply yL;(iterate 5 exact rfl))|apply zS|(refine yQ ?_ ?_;kernel_rfl)|apply AWp.Q|apply zG|apply AWp.G|apply AWp.B|apply AWp.J|apply AWp.X|apply AWp.R|apply zO|apply zJ|apply zI|apply zL|apply zM|(refine AWp.D ?_ ?_;kernel_rfl)|(refine zK rfl ?_)|(apply AWp.T;exact rfl;(first|assumption|exact dT ‹_›|exact dF ‹_›|exact rfl))|(apply AWp.F;exact rfl;(first|assumption|exact dT ‹_›|exact dF ‹_›|exact rfl))|((first|refine zT rfl rfl rfl ?_ ?_|refine zX rfl rfl rfl ?_ ?_)<;>intro hp<;>(try (exfalso;omega)))|((first|refine AWp.C rfl ?_ ?_|refine AWp.O _ rfl ?_ ?_)<;>intro hp<;>(try (exfalso;omega)))))
        refine AWp.U (σ := Nat × Nat) (fun p => ⟨[(0, .c (str t)), (4, .c (int l.s)), (6, .c (boo l.d)), (7, .c (int k)), (8, .c (int p.2))], [], 0⟩) (fun p => p.2 ≤ 23 ∧ 23 ≤ p.2 + p.1 ∧ vD c 23 l.nx = vD c p.1 p.2) (fun p => p.1) (23, l.nx) ⟨hn, by dsimp only; omega, rfl⟩ ?_ ?_
        · refine Weak.of [] rfl ?_ ?_ <;> (repeat' (first|exact trivial|exact rfl|exact Or.inr ⟨rfl,‹_›⟩|exact Or.inl ⟨rfl,trivial⟩|apply And.intro|exact congrArg (Value.int .i64) (by first|omega|(simp;done)|(simp;omega))|(refine yD ?_;first|(focus (simp;done))|omega|(simp only [lA,lB,lC,lD,lE];omega))|(refine ⟨_,rfl,rfl,rfl,OW.one ?_⟩)|(refine ⟨_,rfl,rfl,rfl,OW.same ?_ ?_⟩)|refine vwB ?_|refine vwS ?_|refine vwI ?_|refine fwB ?_|refine fwS ?_|refine fwI ?_|(refine aIm ?_;first|exact AllSc.nil|assumption)))
        · rintro ⟨f, j⟩ ⟨hj, hfj, hfe⟩
          dsimp only at hj hfj hfe ⊢
          by_cases hgo : j < 23 ∧ qP[j]? ≠ some c
          · obtain ⟨f, rfl⟩ : ∃ q, f = q + 1 := ⟨f - 1, by omega⟩
            have hst : vD c (f + 1) j = vD c f (j + 1) := by rw [vD, if_pos hgo]
            rw [hst] at hfe
            obtain ⟨x, hx⟩ := xR (show j < qP.length from hgo.1)
            have hxc : ¬ ((x.toNat : Nat) : Int) = ((c.toNat : Nat) : Int) := fun e => hgo.2 (by rw [hx, UInt8.toNat_inj.1 (show x.toNat = c.toNat by omega)])
            have hj' : (j : Int) < 23 := by omega
            (repeat' (first|(apply xW;(first|exact Want.none_ rfl|(refine yA rfl rfl rfl rfl ?_;(first|assumption|exact dT ‹_›|exact dF ‹_›|exact rfl))))|(apply xF zH;exact rfl;exact rfl)|((first|(apply z6;exact rfl;exact rfl)|apply z7|apply x9)<;>(first|exact zH|exact Nat.zero_add _|exact rfl|refine yN ?_|assumption|omega|exact ⟨rfl⟩|exact ⟨rfl,_,_,rfl,rfl⟩|exact lb rfl|(refine Bd.mk ?_;first|assumption|omega|(focus (simp;done))|(simp;omega)|decide)|(focus (simp;done))|(simp;omega)|(simp only [lA,lB,lC,lD,lE];omega)))|(apply yW;exact rfl;exact rfl;(first|assumption|exact dT ‹_›|exact dF ‹_›|exact rfl);exact rfl;exact rfl)|(apply yV;(iterate 5 exact rfl);(first|assumption|exact dT ‹_›|exact dF ‹_›|exact rfl))|(apply yL;(iterate 5 exact rfl))|apply zS|(refine yQ ?_ ?_;kernel_rfl)|apply AWp.Q|apply zG|apply AWp.G|apply AWp.B|apply AWp.J|apply AWp.X|apply AWp.R|apply zO|apply zJ|apply zI|apply zL|apply zM|(refine AWp.D ?_ ?_;kernel_rfl)|(refine zK rfl ?_)|(apply AWp.T;exact rfl;(first|assumption|exact dT ‹_›|exact dF ‹_›|exact rfl))|(apply AWp.F;exact rfl;(first|assumption|exact dT ‹_›|exact dF ‹_›|exact rfl))|((first|refine zT rfl rfl rfl ?_ ?_|refine zX rfl rfl rfl ?_ ?_)<;>intro hp<;>(try (exfalso;omega)))|((first|refine AWp.C rfl ?_ ?_|refine AWp.O _ rfl ?_ ?_)<;>intro hp<;>(try (exfalso;omega)))))
            refine ⟨(f, j + 1), ⟨by dsimp only; omega, by dsimp only; omega, hfe⟩, by dsimp only; omega, ?_⟩
            refine Weak.of [] rfl ?_ ?_ <;> (repeat' (first|exact trivial|exact rfl|exact Or.inr ⟨rfl,‹_›⟩|exact Or.inl ⟨rfl,trivial⟩|apply And.intro|exact congrArg (Value.int .i64) (by first|omega|(simp;done)|(simp;omega))|(refine yD ?_;first|(focus (simp;done))|omega|(simp only [lA,lB,lC,lD,lE];omega))|(refine ⟨_,rfl,rfl,rfl,OW.one ?_⟩)|(refine ⟨_,rfl,rfl,rfl,OW.same ?_ ?_⟩)|refine vwB ?_|refine vwS ?_|refine vwI ?_|refine fwB ?_|refine fwS ?_|refine fwI ?_|(refine aIm ?_;first|exact AllSc.nil|assumption)))
          · have hst : vD c f j = j := by
              cases f with
              | zero => rfl
              | succ f => rw [vD, if_neg hgo]
            rw [hst] at hfe
            by_cases hj23 : j < 23
            · have hx : qP[j]? = some c := by
                apply Decidable.byContradiction
                intro h
                exact hgo ⟨hj23, h⟩
              have hj' : (j : Int) < 23 := by omega
              have hje : ¬ (j : Int) = 23 := by omega
              have hw : IntKind.u64.wrap (j : Int) = (j : Int) := by
                show (j : Int) % 18446744073709551616 = j
                omega
              have hpw : 2 ^ j < 2 ^ 23 := Nat.pow_lt_pow_right (by omega) hj23
              rw [hfe, if_neg (by omega)] at hsu
              (repeat' (first|(apply xW;(first|exact Want.none_ rfl|(refine yA rfl rfl rfl rfl ?_;(first|assumption|exact dT ‹_›|exact dF ‹_›|exact rfl))))|(apply xF zH;exact rfl;exact rfl)|((first|(apply z6;exact rfl;exact rfl)|apply z7|apply x9)<;>(first|exact zH|exact Nat.zero_add _|exact rfl|refine yN ?_|assumption|omega|exact ⟨rfl⟩|exact ⟨rfl,_,_,rfl,rfl⟩|exact lb rfl|(refine Bd.mk ?_;first|assumption|omega|(focus (simp;done))|(simp;omega)|decide)|(focus (simp;done))|(simp;omega)|(simp only [lA,lB,lC,lD,lE];omega)))|(apply yW;exact rfl;exact rfl;(first|assumption|exact dT ‹_›|exact dF ‹_›|exact rfl);exact rfl;exact rfl)|(apply yV;(iterate 5 exact rfl);(first|assumption|exact dT ‹_›|exact dF ‹_›|exact rfl))|(apply yL;(iterate 5 exact rfl))|apply zS|(refine yQ ?_ ?_;kernel_rfl)|apply AWp.Q|apply zG|apply AWp.G|apply AWp.B|apply AWp.J|apply AWp.X|apply AWp.R|apply zO|apply zJ|apply zI|apply zL|apply zM|(refine AWp.D ?_ ?_;kernel_rfl)|(refine zK rfl ?_)|(apply AWp.T;exact rfl;(first|assumption|exact dT ‹_›|exact dF ‹_›|exact rfl))|(apply AWp.F;exact rfl;(first|assumption|exact dT ‹_›|exact dF ‹_›|exact rfl))|((first|(apply vP;exact rfl;exact rfl;exact rfl)|(apply vZ;exact rfl;exact rfl;exact rfl)|(apply vO;exact rfl;exact rfl;exact rfl)|(apply wS;exact rfl;exact rfl;exact rfl)|(apply vN;exact rfl;exact rfl;exact rfl;(first|assumption|exact rfl))|(apply vR;exact rfl;exact rfl;exact rfl;(first|assumption|exact rfl)))<;>(first|exact zH|exact Nat.zero_add _|exact rfl|refine yN ?_|assumption|omega|exact ⟨rfl⟩|exact ⟨rfl,_,_,rfl,rfl⟩|exact lb rfl|(refine Bd.mk ?_;first|assumption|omega|(focus (simp;done))|(simp;omega)|decide)|(focus (simp;done))|(simp;omega)|(simp only [lA,lB,lC,lD,lE];omega)))|((first|refine zT rfl rfl rfl ?_ ?_|refine zX rfl rfl rfl ?_ ?_)<;>intro hp<;>(try (exfalso;omega)))|((first|refine AWp.C rfl ?_ ?_|refine AWp.O _ rfl ?_ ?_)<;>intro hp<;>(try (exfalso;omega)))))
              refine ⟨(k + 1, ⟨l.s ||| 2 ^ j, j + 1, l.d⟩), ⟨by dsimp only; omega, hsu⟩, by dsimp only; omega, ?_⟩
              refine Weak.of [] rfl ?_ ?_ <;> (repeat' (first|exact trivial|exact rfl|exact Or.inr ⟨rfl,‹_›⟩|exact Or.inl ⟨rfl,trivial⟩|apply And.intro|exact congrArg (Value.int .i64) (by first|omega|(simp;done)|(simp;omega))|(refine yD ?_;first|(focus (simp;done))|omega|(simp only [lA,lB,lC,lD,lE];omega))|(refine ⟨_,rfl,rfl,rfl,OW.one ?_⟩)|(refine ⟨_,rfl,rfl,rfl,OW.same ?_ ?_⟩)|refine vwB ?_|refine vwS ?_|refine vwI ?_|refine fwB ?_|refine fwS ?_|refine fwI ?_|(refine aIm ?_;first|exact AllSc.nil|assumption)))
            · have hj' : ¬ (j : Int) < 23 := by omega
              have hje : (j : Int) = 23 := by omega
              rw [hfe, if_pos (by omega)] at hsu
              have hend := lsK_end hsu (by omega)
              have e1 : lsV t = 0 := by rw [lsV, hend]
              have e2 : lsB t = false := by rw [lsB, e1]; rfl
              rw [e1, e2]
              (repeat' (first|(apply xW;(first|exact Want.none_ rfl|(refine yA rfl rfl rfl rfl ?_;(first|assumption|exact dT ‹_›|exact dF ‹_›|exact rfl))))|(apply xF zH;exact rfl;exact rfl)|((first|(apply z6;exact rfl;exact rfl)|apply z7|apply x9)<;>(first|exact zH|exact Nat.zero_add _|exact rfl|refine yN ?_|assumption|omega|exact ⟨rfl⟩|exact ⟨rfl,_,_,rfl,rfl⟩|exact lb rfl|(refine Bd.mk ?_;first|assumption|omega|(focus (simp;done))|(simp;omega)|decide)|(focus (simp;done))|(simp;omega)|(simp only [lA,lB,lC,lD,lE];omega)))|(apply yW;exact rfl;exact rfl;(first|assumption|exact dT ‹_›|exact dF ‹_›|exact rfl);exact rfl;exact rfl)|(apply yV;(iterate 5 exact rfl);(first|assumption|exact dT ‹_›|exact dF ‹_›|exact rfl))|(apply yL;(iterate 5 exact rfl))|apply zS|(refine yQ ?_ ?_;kernel_rfl)|apply AWp.Q|apply zG|apply AWp.G|apply AWp.B|apply AWp.J|apply AWp.X|apply AWp.R|apply zO|apply zJ|apply zI|apply zL|apply zM|(refine AWp.D ?_ ?_;kernel_rfl)|(refine zK rfl ?_)|(apply AWp.T;exact rfl;(first|assumption|exact dT ‹_›|exact dF ‹_›|exact rfl))|(apply AWp.F;exact rfl;(first|assumption|exact dT ‹_›|exact dF ‹_›|exact rfl))|((first|refine zT rfl rfl rfl ?_ ?_|refine zX rfl rfl rfl ?_ ?_)<;>intro hp<;>(try (exfalso;omega)))|((first|refine AWp.C rfl ?_ ?_|refine AWp.O _ rfl ?_ ?_)<;>intro hp<;>(try (exfalso;omega)))))
              ((first|refine yE _ [] (.cons (zR rfl) (.cons (zR rfl) .nil)) ?_ rfl ?_|refine yF _ [] (.cons (zR rfl) (.cons (zR rfl) .nil)) ?_ rfl ?_) <;> (repeat' (first|exact trivial|exact rfl|exact Or.inr ⟨rfl,‹_›⟩|exact Or.inl ⟨rfl,trivial⟩|apply And.intro|exact congrArg (Value.int .i64) (by first|omega|(simp;done)|(simp;omega))|(refine yD ?_;first|(focus (simp;done))|omega|(simp only [lA,lB,lC,lD,lE];omega))|(refine ⟨_,rfl,rfl,rfl,OW.one ?_⟩)|(refine ⟨_,rfl,rfl,rfl,OW.same ?_ ?_⟩)|refine vwB ?_|refine vwS ?_|refine vwI ?_|refine fwB ?_|refine fwS ?_|refine fwI ?_|(refine aIm ?_;first|exact AllSc.nil|assumption))))
    · have hlt' : ¬ (k : Int) < (t.length : Int) := by omega
      obtain rfl : k = t.length := by omega
      have e1 : lsV t = l.s := by rw [lsV, hl]
      have e2 : lsB t = decide (l.s ≠ 0) := by rw [lsB, e1]
      rw [e1, e2]
      (repeat' (first|(apply xW;(first|exact Want.none_ rfl|(refine yA rfl rfl rfl rfl ?_;(first|assumption|exact dT ‹_›|exact dF ‹_›|exact rfl))))|(apply xF zH;exact rfl;exact rfl)|((first|(apply z6;exact rfl;exact rfl)|apply z7|apply x9)<;>(first|exact zH|exact Nat.zero_add _|exact rfl|refine yN ?_|assumption|omega|exact ⟨rfl⟩|exact ⟨rfl,_,_,rfl,rfl⟩|exact lb rfl|(refine Bd.mk ?_;first|assumption|omega|(focus (simp;done))|(simp;omega)|decide)|(focus (simp;done))|(simp;omega)|(simp only [lA,lB,lC,lD,lE];omega)))|(apply yW;exact rfl;exact rfl;(first|assumption|exact dT ‹_›|exact dF ‹_›|exact rfl);exact rfl;exact rfl)|(apply yV;(iterate 5 exact rfl);(first|assumption|exact dT ‹_›|exact dF ‹_›|exact rfl))|(apply yL;(iterate 5 exact rfl))|apply zS|(refine yQ ?_ ?_;kernel_rfl)|apply AWp.Q|apply zG|apply AWp.G|apply AWp.B|apply AWp.J|apply AWp.X|apply AWp.R|apply zO|apply zJ|apply zI|apply zL|apply zM|(refine AWp.D ?_ ?_;kernel_rfl)|(refine zK rfl ?_)|(apply AWp.T;exact rfl;(first|assumption|exact dT ‹_›|exact dF ‹_›|exact rfl))|(apply AWp.F;exact rfl;(first|assumption|exact dT ‹_›|exact dF ‹_›|exact rfl))|((first|refine zT rfl rfl rfl ?_ ?_|refine zX rfl rfl rfl ?_ ?_)<;>intro hp<;>(try (exfalso;omega)))|((first|refine AWp.C rfl ?_ ?_|refine AWp.O _ rfl ?_ ?_)<;>intro hp<;>(try (exfalso;omega)))))
      ((first|refine yE _ [] (.cons (zR rfl) (.cons (zR rfl) .nil)) ?_ rfl ?_|refine yF _ [] (.cons (zR rfl) (.cons (zR rfl) .nil)) ?_ rfl ?_) <;> (repeat' (first|exact trivial|exact rfl|exact Or.inr ⟨rfl,‹_›⟩|exact Or.inl ⟨rfl,trivial⟩|apply And.intro|exact congrArg (Value.int .i64) (by first|omega|(simp;done)|(simp;omega))|(refine yD ?_;first|(focus (simp;done))|omega|(simp only [lA,lB,lC,lD,lE];omega))|(refine ⟨_,rfl,rfl,rfl,OW.one ?_⟩)|(refine ⟨_,rfl,rfl,rfl,OW.same ?_ ?_⟩)|refine vwB ?_|refine vwS ?_|refine vwI ?_|refine fwB ?_|refine fwS ?_|refine fwI ?_|(refine aIm ?_;first|exact AllSc.nil|assumption))))
      all_goals exact decide_eq_decide.2 (by omega)
end Go.Proofs.YtchpdclknbmdoaaDoor
