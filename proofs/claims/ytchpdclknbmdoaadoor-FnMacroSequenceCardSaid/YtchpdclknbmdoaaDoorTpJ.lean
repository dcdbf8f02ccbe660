/- A tape's notation, FormatTape of both programs. No conditions but bounds. -/
import Derived.Test.YtchpdclknbmdoaaDoorTpH
namespace Go.Proofs.YtchpdclknbmdoaaDoor
open Go Go.RowKit
def rsK (t : List Itm) (k : Nat) : List (List Nat) := if k = 0 then [] else (rsP t k).1 ++ [(rsP t k).2]
def txK (t : List Itm) (k : Nat) : List UInt8 := Lib.join ((rsK t k).map outl) [124]
def w9 (t : List Itm) : List UInt8 := Lib.join ((runsT t).map outl) [124]
theorem rsP_ne (t : List Itm) : ∀ k, k < t.length → (rsP t (k + 1)).2 ≠ []
  | 0, h => by
    obtain ⟨c, hc⟩ := xR h
    rw [rsP_one hc]; simp
  | k + 1, h => by
    obtain ⟨c, hc⟩ := xR h
    cases hb : c.b with
    | true => rw [rsP_bar hc hb]; simp
    | false => rw [rsP_non hc hb]; simp
theorem outl_snoc {r : List Nat} (h : r ≠ []) (s : Nat) : outl (r ++ [s]) = outl r ++ [47] ++ fmt s := by
  rw [outl, outl, List.map_append]
  exact join_snoc 47 (r.map fmt) (fmt s) (by simpa using h)
theorem outl_one (s : Nat) : outl [s] = fmt s := by simp [outl, Lib.join]
theorem join_last (D : List (List UInt8)) (a b : List UInt8) : Lib.join (D ++ [a ++ b]) [124] = Lib.join (D ++ [a]) [124] ++ b := by
  cases D with
  | nil => simp [Lib.join]
  | cons x r => rw [join_snoc 124 _ _ (by simp), join_snoc 124 _ _ (by simp)]; simp
theorem tx_one {t : List Itm} {c : Itm} (h : t[0]? = some c) : txK t 1 = fmt (nS c) := by
  rw [txK, rsK, if_neg (by omega), rsP_one h]
  simp [Lib.join, outl_one]
theorem tx_bar {t : List Itm} {k : Nat} {c : Itm} (h : t[k + 1]? = some c) (hb : c.b = true) : txK t (k + 2) = txK t (k + 1) ++ [124] ++ fmt (nS c) := by
  rw [txK, rsK, if_neg (by omega), rsP_bar h hb, txK, rsK, if_neg (by omega)]
  rw [List.map_append, List.map_cons, List.map_nil, outl_one]
  exact join_snoc 124 _ _ (by simp)
theorem tx_non {t : List Itm} {k : Nat} {c : Itm} (h : t[k + 1]? = some c) (hk : k < t.length) (hb : c.b = false) : txK t (k + 2) = txK t (k + 1) ++ [47] ++ fmt (nS c) := by
  rw [txK, rsK, if_neg (by omega), rsP_non h hb, txK, rsK, if_neg (by omega)]
  rw [List.map_append, List.map_append, List.map_cons, List.map_nil, List.map_cons, List.map_nil, outl_snoc (rsP_ne t k hk), List.append_assoc, join_last, List.append_assoc]
theorem tx_len (t : List Itm) : ∀ k, k ≤ t.length → (txK t k).length ≤ 47 * k
  | 0, _ => Nat.le_refl _
  | 1, h => by
    obtain ⟨c, hc⟩ := xR (show 0 < t.length by omega)
    have := qH (nS c)
    rw [tx_one hc]; omega
  | k + 2, h => by
    obtain ⟨c, hc⟩ := xR (show k + 1 < t.length by omega)
    have ih := tx_len t (k + 1) (by omega)
    have := qH (nS c)
    cases hb : c.b with
    | true =>
      rw [tx_bar hc hb, List.length_append, List.length_append]
      simp only [List.length_cons, List.length_nil]; omega
    | false =>
      rw [tx_non hc (by omega) hb, List.length_append, List.length_append]
      simp only [List.length_cons, List.length_nil]; omega
theorem l16Text_pf (t : List Itm) (hl : t.length ≤ 4000000) (hv : ∀ i ∈ t, okItm i = true) : PF Tryd.prog 48 [.agg (y9 t)] [] (.c (str (w9 t))) := by
  have hL : (t.map yI).length = t.length := List.length_map _
  refine PF.enter (xM _) Tryd.func48 rfl (by kernel_rfl) _ _ rfl rfl rfl (fun w0 mu I0 β0 gi dis => ?_)
  (repeat' (first|(apply xW;(first|exact Want.none_ rfl|(refine yA rfl rfl rfl rfl ?_;(first|assumption|exact dT ‹_›|exact dF ‹_›|exact rfl))))|(apply xF zH;exact rfl;exact rfl)|((first|(apply z6;exact rfl;exact rfl)|apply z7|(apply z8;exact rfl;exact rfl)|apply zU|(apply zV;exact rfl;exact rfl;exact zH;exact rfl;exact rfl)|apply zN|apply zZ)<;>(first|exact zH|exact Nat.zero_add _|exact rfl|refine yN ?_|assumption|omega|exact ⟨rfl⟩|exact ⟨rfl,_,_,rfl,rfl⟩|exact lb rfl|(refine Bd.mk ?_;first|assumption|omega|(focus (simp;done))|(simp;omega)|decide)|(focus (simp;done))|(simp;omega)|(simp only [lA,lB,lC,lD,lE];omega)))|apply zS|apply AWp.Q|apply zG|apply AWp.G|apply AWp.B|apply AWp.J|apply AWp.X|apply AWp.R|apply zO|apply zJ|apply zI|apply zL|apply zM|(refine zK rfl ?_)|(apply AWp.T;exact rfl;(first|assumption|exact dT ‹_›|exact dF ‹_›|exact rfl))|(apply AWp.F;exact rfl;(first|assumption|exact dT ‹_›|exact dF ‹_›|exact rfl))|((first|refine AWp.C rfl ?_ ?_|refine AWp.O _ rfl ?_ ?_)<;>intro hp<;>(try (exfalso;omega)))))
  refine AWp.U (σ := Nat) (fun k => ⟨[(1, .c (.ptr 0 0 0)), (3, .c (str (txK t k))), (4, .c (int k))], [(0, some ⟨24, 1, [y9 t]⟩)], 1⟩) (fun k => k ≤ t.length) (fun k => t.length - k) 0 (Nat.zero_le _) ?_ ?_
  · refine Weak.of [(0, some 0)] rfl ?_ ?_ <;> (repeat' (first|exact trivial|exact rfl|exact Or.inr ⟨rfl,‹_›⟩|exact Or.inl ⟨rfl,trivial⟩|apply And.intro|exact congrArg (Value.int .i64) (by first|omega|(simp;done)|(simp;omega))|(refine yD ?_;first|(focus (simp;done))|omega|(simp only [lA,lB,lC,lD,lE];omega))|(refine ⟨_,rfl,rfl,rfl,OW.one ?_⟩)|(refine ⟨_,rfl,rfl,rfl,OW.same ?_ ?_⟩)|refine vwB ?_|refine vwS ?_|refine vwI ?_|refine fwB ?_|refine fwS ?_|refine fwI ?_|(refine aIm ?_;first|exact AllSc.nil|assumption)))
  · intro k hk
    have htl := tx_len t k hk
    by_cases hlt : k < t.length
    · obtain ⟨c, hc⟩ := xR hlt
      have hc' : (t.map yI)[k]? = some (yI c) := x5 hc
      have hlt' : (k : Int) < ((t.map yI).length : Int) := by omega
      have hok := hv c (List.mem_of_getElem? hc)
      rw [okItm, inZ, decide_eq_true_eq] at hok
      have hs : c.s = ((nS c : Nat) : Int) := by rw [nS]; omega
      have hf := l2Format_pf (nS c) (by omega)
      rw [← hs] at hf
      have hfl := qH (nS c)
      rcases k with _ | k
      · (repeat' (first|(apply xW;(first|exact Want.none_ rfl|(refine yA rfl rfl rfl rfl ?_;(first|assumption|exact dT ‹_›|exact dF ‹_›|exact rfl))))|(apply xF zH;exact rfl;exact rfl)|((first|(apply z6;exact rfl;exact rfl)|apply z7|(apply z8;exact rfl;exact rfl)|apply zU|(apply zV;exact rfl;exact rfl;exact zH;exact rfl;exact rfl)|apply zN|apply zZ)<;>(first|exact zH|exact Nat.zero_add _|exact rfl|refine yN ?_|assumption|omega|exact ⟨rfl⟩|exact ⟨rfl,_,_,rfl,rfl⟩|exact lb rfl|(refine Bd.mk ?_;first|assumption|omega|(focus (simp;done))|(simp;omega)|decide)|(focus (simp;done))|(simp;omega)|(simp only [lA,lB,lC,lD,lE];omega)))|apply zS|apply AWp.Q|apply zG|apply AWp.G|apply AWp.B|apply AWp.J|apply AWp.X|apply AWp.R|apply zO|apply zJ|apply zI|apply zL|apply zM|(refine zK rfl ?_)|(apply AWp.T;exact rfl;(first|assumption|exact dT ‹_›|exact dF ‹_›|exact rfl))|(apply AWp.F;exact rfl;(first|assumption|exact dT ‹_›|exact dF ‹_›|exact rfl))|(apply yH;(iterate 6 exact rfl);(iterate 2 (focus (repeat (first|exact VAs.nil|apply VAs.cons|apply VA.c|apply VA.agg|exact VCs.nil|(apply VCs.same;assumption)|apply VCs.cons|exact VC.imm (Imm.v _)|exact VC.imm (Imm.sl _)|exact VC.imm (Imm.ip _)|exact VC.imm ‹_›|exact VC.nil|(apply zB;exact rfl;exact rfl;(first|exact rfl|(focus (simp;done))|omega|(focus (simp only [lA,lB,lC,lD,lE];omega)));exact rfl;(first|assumption|(refine aIm ?_;assumption)))|(apply zC;exact rfl;exact rfl;(first|assumption|omega|(focus (simp only [lA,lB,lC,lD,lE];omega))|(focus (simp;done))|(focus (simp;omega)));exact rfl;(first|assumption|(refine aIm ?_;assumption)))|assumption))));(first|exact hf);(focus (repeat (first|exact trivial|exact Flat.v _|exact Flat.dead|exact Flat.ref _ _ _|exact Flat.nil|apply And.intro)));(first|apply yS|(apply yR;(focus (repeat (first|exact trivial|apply And.intro|(first|exact AllSc.nil|assumption))))));(first|exact xG _ _|exact xJ _ _ _|exact xK _ _ _ _|exact y3 _ _ _ _ _|exact xH _|exact y5 _ _|exact y4 _ _ _ _|exact yU _ _ _ _ _|exact yT _ _|exact xI _ _ _ _|exact rfl))|((first|refine AWp.C rfl ?_ ?_|refine AWp.O _ rfl ?_ ?_)<;>intro hp<;>(try (exfalso;omega)))))
        refine ⟨1, by omega, by omega, ?_⟩
        rw [tx_one hc]
        refine Weak.of [(0, some 0)] rfl ?_ ?_ <;> (repeat' (first|exact trivial|exact rfl|exact Or.inr ⟨rfl,‹_›⟩|exact Or.inl ⟨rfl,trivial⟩|apply And.intro|exact congrArg (Value.int .i64) (by first|omega|(simp;done)|(simp;omega))|(refine yD ?_;first|(focus (simp;done))|omega|(simp only [lA,lB,lC,lD,lE];omega))|(refine ⟨_,rfl,rfl,rfl,OW.one ?_⟩)|(refine ⟨_,rfl,rfl,rfl,OW.same ?_ ?_⟩)|refine vwB ?_|refine vwS ?_|refine vwI ?_|refine fwB ?_|refine fwS ?_|refine fwI ?_|(refine aIm ?_;first|exact AllSc.nil|assumption)))
      · have hz : (0 : Int) < ((k + 1 : Nat) : Int) := by omega
        cases hb : c.b with
        | true =>
          (repeat' (first|(apply xW;(first|exact Want.none_ rfl|(refine yA rfl rfl rfl rfl ?_;(first|assumption|exact dT ‹_›|exact dF ‹_›|exact rfl))))|(apply xF zH;exact rfl;exact rfl)|((first|(apply z6;exact rfl;exact rfl)|apply z7|(apply z8;exact rfl;exact rfl)|apply zU|(apply zV;exact rfl;exact rfl;exact zH;exact rfl;exact rfl)|apply zN|apply zZ)<;>(first|exact zH|exact Nat.zero_add _|exact rfl|refine yN ?_|assumption|omega|exact ⟨rfl⟩|exact ⟨rfl,_,_,rfl,rfl⟩|exact lb rfl|(refine Bd.mk ?_;first|assumption|omega|(focus (simp;done))|(simp;omega)|decide)|(focus (simp;done))|(simp;omega)|(simp only [lA,lB,lC,lD,lE];omega)))|apply zS|apply AWp.Q|apply zG|apply AWp.G|apply AWp.B|apply AWp.J|apply AWp.X|apply AWp.R|apply zO|apply zJ|apply zI|apply zL|apply zM|(refine zK rfl ?_)|(apply AWp.T;exact rfl;(first|assumption|exact dT ‹_›|exact dF ‹_›|exact rfl))|(apply AWp.F;exact rfl;(first|assumption|exact dT ‹_›|exact dF ‹_›|exact rfl))|(apply yH;(iterate 6 exact rfl);(iterate 2 (focus (repeat (first|exact VAs.nil|apply VAs.cons|apply VA.c|apply VA.agg|exact VCs.nil|(apply VCs.same;assumption)|apply VCs.cons|exact VC.imm (Imm.v _)|exact VC.imm (Imm.sl _)|exact VC.imm (Imm.ip _)|exact VC.imm ‹_›|exact VC.nil|(apply zB;exact rfl;exact rfl;(first|exact rfl|(focus (simp;done))|omega|(focus (simp only [lA,lB,lC,lD,lE];omega)));exact rfl;(first|assumption|(refine aIm ?_;assumption)))|(apply zC;exact rfl;exact rfl;(first|assumption|omega|(focus (simp only [lA,lB,lC,lD,lE];omega))|(focus (simp;done))|(focus (simp;omega)));exact rfl;(first|assumption|(refine aIm ?_;assumption)))|assumption))));(first|exact hf);(focus (repeat (first|exact trivial|exact Flat.v _|exact Flat.dead|exact Flat.ref _ _ _|exact Flat.nil|apply And.intro)));(first|apply yS|(apply yR;(focus (repeat (first|exact trivial|apply And.intro|(first|exact AllSc.nil|assumption))))));(first|exact xG _ _|exact xJ _ _ _|exact xK _ _ _ _|exact y3 _ _ _ _ _|exact xH _|exact y5 _ _|exact y4 _ _ _ _|exact yU _ _ _ _ _|exact yT _ _|exact xI _ _ _ _|exact rfl))|((first|refine AWp.C rfl ?_ ?_|refine AWp.O _ rfl ?_ ?_)<;>intro hp<;>(try (exfalso;omega)))))
          refine ⟨k + 2, by omega, by omega, ?_⟩
          rw [tx_bar hc hb]
          refine Weak.of [(0, some 0)] rfl ?_ ?_ <;> (repeat' (first|exact trivial|exact rfl|exact Or.inr ⟨rfl,‹_›⟩|exact Or.inl ⟨rfl,trivial⟩|apply And.intro|exact congrArg (Value.int .i64) (by first|omega|(simp;done)|(simp;omega))|(refine yD ?_;first|(focus (simp;done))|omega|(simp only [lA,lB,lC,lD,lE];omega))|(refine ⟨_,rfl,rfl,rfl,OW.one ?_⟩)|(refine ⟨_,rfl,rfl,rfl,OW.same ?_ ?_⟩)|refine vwB ?_|refine vwS ?_|refine vwI ?_|refine fwB ?_|refine fwS ?_|refine fwI ?_|(refine aIm ?_;first|exact AllSc.nil|assumption)))
        | false =>
          (repeat' (first|(apply xW;(first|exact Want.none_ rfl|(refine yA rfl rfl rfl rfl ?_;(first|assumption|exact dT ‹_›|exact dF ‹_›|exact rfl))))|(apply xF zH;exact rfl;exact rfl)|((first|(apply z6;exact rfl;exact rfl)|apply z7|(apply z8;exact rfl;exact rfl)|apply zU|(apply zV;exact rfl;exact rfl;exact zH;exact rfl;exact rfl)|apply zN|apply zZ)<;>(first|exact zH|exact Nat.zero_add _|exact rfl|refine yN ?_|assumption|omega|exact ⟨rfl⟩|exact ⟨rfl,_,_,rfl,rfl⟩|exact lb rfl|(refine Bd.mk ?_;first|assumption|omega|(focus (simp;done))|(simp;omega)|decide)|(focus (simp;done))|(simp;omega)|(simp only [lA,lB,lC,lD,lE];omega)))|apply zS|apply AWp.Q|apply zG|apply AWp.G|apply AWp.B|apply AWp.J|apply AWp.X|apply AWp.R|apply zO|apply zJ|apply zI|apply zL|apply zM|(refine zK rfl ?_)|(apply AWp.T;exact rfl;(first|assumption|exact dT ‹_›|exact dF ‹_›|exact rfl))|(apply AWp.F;exact rfl;(first|assumption|exact dT ‹_›|exact dF ‹_›|exact rfl))|(apply yH;(iterate 6 exact rfl);(iterate 2 (focus (repeat (first|exact VAs.nil|apply VAs.cons|apply VA.c|apply VA.agg|exact VCs.nil|(apply VCs.same;assumption)|apply VCs.cons|exact VC.imm (Imm.v _)|exact VC.imm (Imm.sl _)|exact VC.imm (Imm.ip _)|exact VC.imm ‹_›|exact VC.nil|(apply zB;exact rfl;exact rfl;(first|exact rfl|(focus (simp;done))|omega|(focus (simp only [lA,lB,lC,lD,lE];omega)));exact rfl;(first|assumption|(refine aIm ?_;assumption)))|(apply zC;exact rfl;exact rfl;(first|assumption|omega|(focus (simp only [lA,lB,lC,lD,lE];omega))|(focus (simp;done))|(focus (simp;omega)));exact rfl;(first|assumption|(refine aIm ?_;assumption)))|assumption))));(first|exact hf);(focus (repeat (first|exact trivial|exact Flat.v _|exact Flat.dead|exact Flat.ref _ _ _|exact Flat.nil|apply And.intro)));(first|apply yS|(apply yR;(focus (repeat (first|exact trivial|apply And.intro|(first|exact AllSc.nil|assumption))))));(first|exact xG _ _|exact xJ _ _ _|exact xK _ _ _ _|exact y3 _ _ _ _ _|exact xH _|exact y5 _ _|exact y4 _ _ _ _|exact yU _ _ _ _ _|exact yT _ _|exact xI _ _ _ _|exact rfl))|((first|refine AWp.C rfl ?_ ?_|refine AWp.O _ rfl ?_ ?_)<;>intro hp<;>(try (exfalso;omega)))))
          refine ⟨k + 2, by omega, by omega, ?_⟩
          rw [tx_non hc (by omega) hb]
          refine Weak.of [(0, some 0)] rfl ?_ ?_ <;> (repeat' (first|exact trivial|exact rfl|exact Or.inr ⟨rfl,‹_›⟩|exact Or.inl ⟨rfl,trivial⟩|apply And.intro|exact congrArg (Value.int .i64) (by first|omega|(simp;done)|(simp;omega))|(refine yD ?_;first|(focus (simp;done))|omega|(simp only [lA,lB,lC,lD,lE];omega))|(refine ⟨_,rfl,rfl,rfl,OW.one ?_⟩)|(refine ⟨_,rfl,rfl,rfl,OW.same ?_ ?_⟩)|refine vwB ?_|refine vwS ?_|refine vwI ?_|refine fwB ?_|refine fwS ?_|refine fwI ?_|(refine aIm ?_;first|exact AllSc.nil|assumption)))
    · have hlt' : ¬ (k : Int) < ((t.map yI).length : Int) := by omega
      obtain rfl : k = t.length := by omega
      have e : w9 t = txK t t.length := by rw [w9, txK, runsT, rsK]
      rw [e]
      (repeat' (first|(apply xW;(first|exact Want.none_ rfl|(refine yA rfl rfl rfl rfl ?_;(first|assumption|exact dT ‹_›|exact dF ‹_›|exact rfl))))|(apply xF zH;exact rfl;exact rfl)|((first|(apply z6;exact rfl;exact rfl)|apply z7|(apply z8;exact rfl;exact rfl)|apply zU|(apply zV;exact rfl;exact rfl;exact zH;exact rfl;exact rfl)|apply zN|apply zZ)<;>(first|exact zH|exact Nat.zero_add _|exact rfl|refine yN ?_|assumption|omega|exact ⟨rfl⟩|exact ⟨rfl,_,_,rfl,rfl⟩|exact lb rfl|(refine Bd.mk ?_;first|assumption|omega|(focus (simp;done))|(simp;omega)|decide)|(focus (simp;done))|(simp;omega)|(simp only [lA,lB,lC,lD,lE];omega)))|apply zS|apply AWp.Q|apply zG|apply AWp.G|apply AWp.B|apply AWp.J|apply AWp.X|apply AWp.R|apply zO|apply zJ|apply zI|apply zL|apply zM|(refine zK rfl ?_)|(apply AWp.T;exact rfl;(first|assumption|exact dT ‹_›|exact dF ‹_›|exact rfl))|(apply AWp.F;exact rfl;(first|assumption|exact dT ‹_›|exact dF ‹_›|exact rfl))|((first|refine AWp.C rfl ?_ ?_|refine AWp.O _ rfl ?_ ?_)<;>intro hp<;>(try (exfalso;omega)))))
      ((first|refine yE _ [] (.cons (zR rfl) .nil) ?_ rfl ?_|refine yF _ [] (.cons (zR rfl) .nil) ?_ rfl ?_) <;> (repeat' (first|exact trivial|exact rfl|exact Or.inr ⟨rfl,‹_›⟩|exact Or.inl ⟨rfl,trivial⟩|apply And.intro|exact congrArg (Value.int .i64) (by first|omega|(simp;done)|(simp;omega))|(refine yD ?_;first|(focus (simp;done))|omega|(simp only [lA,lB,lC,lD,lE];omega))|(refine ⟨_,rfl,rfl,rfl,OW.one ?_⟩)|(refine ⟨_,rfl,rfl,rfl,OW.same ?_ ?_⟩)|refine vwB ?_|refine vwS ?_|refine vwI ?_|refine fwB ?_|refine fwS ?_|refine fwI ?_|(refine aIm ?_;first|exact AllSc.nil|assumption))))
def qN (t : List Itm) : AVal := if xZ t = true then .tup [.c (str (w9 t)), .c (boo true)] else .tup [.c (str []), .c (boo false)]
theorem runs_mem (t : List Itm) (hv : ∀ i ∈ t, okItm i = true) : ∀ k, k ≤ t.length → (∀ r ∈ (rsP t k).1, strk r ∧ r.length ≤ k) ∧ strk (rsP t k).2 ∧ (rsP t k).2.length ≤ k
  | 0, _ => ⟨fun r h => by simp [rsP] at h, fun r h => by simp [rsP] at h, Nat.le_refl _⟩
  | k + 1, h => by
    obtain ⟨c, hc⟩ := xR (show k < t.length by omega)
    obtain ⟨h1, h2, h3⟩ := runs_mem t hv k (by omega)
    have hok := hv c (List.mem_of_getElem? hc)
    rw [okItm, inZ, decide_eq_true_eq] at hok
    have hsc : 1 ≤ nS c ∧ nS c < 8388608 := by rw [nS]; omega
    rw [rsP, hc]
    dsimp only
    split
    · exact ⟨fun r h => by simp at h, fun s hs => by rw [List.mem_singleton.1 hs]; exact hsc, by simp⟩
    · split
      · refine ⟨fun r hr => ?_, fun s hs => by rw [List.mem_singleton.1 hs]; exact hsc, by simp⟩
        rcases List.mem_append.1 hr with hr | hr
        · exact ⟨(h1 r hr).1, by have := (h1 r hr).2; omega⟩
        · rw [List.mem_singleton.1 hr]; exact ⟨h2, by omega⟩
      · refine ⟨fun r hr => ⟨(h1 r hr).1, by have := (h1 r hr).2; omega⟩, fun s hs => ?_, by simp; omega⟩
        rcases List.mem_append.1 hs with hs | hs
        · exact h2 s hs
        · rw [List.mem_singleton.1 hs]; exact hsc
theorem runsT_mem {t : List Itm} (hv : ∀ i ∈ t, okItm i = true) : ∀ r ∈ runsT t, strk r ∧ r.length ≤ t.length := by
  intro r hr
  obtain ⟨h1, h2, h3⟩ := runs_mem t hv t.length (Nat.le_refl _)
  rw [runsT] at hr
  split at hr
  · simp at hr
  · rcases List.mem_append.1 hr with hr | hr
    · exact h1 r hr
    · rw [List.mem_singleton.1 hr]; exact ⟨h2, h3⟩
theorem runsT_len (t : List Itm) : (runsT t).length ≤ t.length := by
  have h := rsP_len t (t.length - 1)
  rw [runsT]
  split
  · simp
  · rename_i h0
    obtain ⟨n, hn⟩ : ∃ n, t.length = n + 1 := ⟨t.length - 1, by omega⟩
    rw [hn] at h ⊢
    simp only [Nat.add_sub_cancel] at h
    rw [List.length_append, List.length_cons, List.length_nil]
    have h2 : (rsP t (n + 1)).1.length ≤ n := by
      clear h
      have : ∀ m, (rsP t (m + 1)).1.length ≤ m := by
        intro m
        induction m with
        | zero => rw [rsP]; cases t[0]? <;> simp [rsP]
        | succ m ih =>
          rw [rsP]
          cases t[m + 1]? with
          | none => exact Nat.le_succ_of_le ih
          | some c =>
            dsimp only
            split
            · exact Nat.zero_le _
            · split
              · rw [List.length_append]; simp; omega
              · exact Nat.le_succ_of_le ih
      exact this n
    omega
theorem implFormat_pf (t : List Itm) (hb : wX t) : PF Tryd.prog 21 [.agg (y9 t)] [] (qN t) := by
  have hv := implValidT_pf t hb
  cases h : xZ t with
  | false =>
    rw [h] at hv
    rw [qN, if_neg (by rw [h]; simp)]
    refine PF.enter (xM _) Tryd.func21 rfl (by kernel_rfl) _ _ rfl rfl rfl (fun w0 mu I0 β0 gi dis => ?_)
    (repeat' (first|(apply xW;(first|exact Want.none_ rfl|(refine yA rfl rfl rfl rfl ?_;(first|assumption|exact dT ‹_›|exact dF ‹_›|exact rfl))))|(apply xF zH;exact rfl;exact rfl)|((first|(apply z6;exact rfl;exact rfl)|apply z7|(apply z8;exact rfl;exact rfl)|apply zU|(apply zV;exact rfl;exact rfl;exact zH;exact rfl;exact rfl)|apply zN|apply zQ|apply zZ|(apply yB;exact rfl;exact rfl)|apply yC)<;>(first|exact zH|exact Nat.zero_add _|exact rfl|refine yN ?_|assumption|omega|exact ⟨rfl⟩|exact ⟨rfl,_,_,rfl,rfl⟩|exact lb rfl|(refine Bd.mk ?_;first|assumption|omega|(focus (simp;done))|(simp;omega)|decide)|exact yO rfl|exact xE ‹_›|(focus (simp;done))|(simp;omega)|(simp only [lA,lB,lC,lD,lE];omega)|exact yK rfl (by first|rfl|(simp;done)|(simp only [lA,lB,lC,lD,lE];omega))|exact yJ rfl (by first|assumption|omega|(simp only [lA,lB,lC,lD,lE];omega))))|apply zS|apply AWp.Q|apply zG|apply AWp.G|apply AWp.B|apply AWp.J|apply AWp.X|apply AWp.R|apply zO|apply zJ|apply zI|apply zL|apply zM|(refine zK rfl ?_)|(apply AWp.T;exact rfl;(first|assumption|exact dT ‹_›|exact dF ‹_›|exact rfl))|(apply AWp.F;exact rfl;(first|assumption|exact dT ‹_›|exact dF ‹_›|exact rfl))|(apply yH;(iterate 6 exact rfl);(iterate 2 (focus (repeat (first|exact VAs.nil|apply VAs.cons|apply VA.c|apply VA.agg|exact VCs.nil|(apply VCs.same;assumption)|apply VCs.cons|exact VC.imm (Imm.v _)|exact VC.imm (Imm.sl _)|exact VC.imm (Imm.ip _)|exact VC.imm ‹_›|exact VC.nil|(apply zB;exact rfl;exact rfl;(first|exact rfl|(focus (simp;done))|omega|(focus (simp only [lA,lB,lC,lD,lE];omega)));exact rfl;(first|assumption|(refine aIm ?_;assumption)))|(apply zC;exact rfl;exact rfl;(first|assumption|omega|(focus (simp only [lA,lB,lC,lD,lE];omega))|(focus (simp;done))|(focus (simp;omega)));exact rfl;(first|assumption|(refine aIm ?_;assumption)))|assumption))));(first|exact hv);(focus (repeat (first|exact trivial|exact Flat.v _|exact Flat.dead|exact Flat.ref _ _ _|exact Flat.nil|apply And.intro)));(first|apply yS|(apply yR;(focus (repeat (first|exact trivial|apply And.intro|(first|exact AllSc.nil|assumption))))));(first|exact xG _ _|exact xJ _ _ _|exact xK _ _ _ _|exact y3 _ _ _ _ _|exact xH _|exact y5 _ _|exact y4 _ _ _ _|exact yU _ _ _ _ _|exact yT _ _|exact xI _ _ _ _|exact rfl))|((first|refine AWp.C rfl ?_ ?_|refine AWp.O _ rfl ?_ ?_)<;>intro hp<;>(try (exfalso;omega)))))
    ((first|refine yE _ [] (.cons (zR rfl) (.cons (zR rfl) .nil)) ?_ rfl ?_|refine yF _ [] (.cons (zR rfl) (.cons (zR rfl) .nil)) ?_ rfl ?_) <;> (repeat' (first|exact trivial|exact rfl|exact Or.inr ⟨rfl,‹_›⟩|exact Or.inl ⟨rfl,trivial⟩|apply And.intro|exact congrArg (Value.int .i64) (by first|omega|(simp;done)|(simp;omega))|(refine yD ?_;first|(focus (simp;done))|omega|(simp only [lA,lB,lC,lD,lE];omega))|(refine ⟨_,rfl,rfl,rfl,OW.one ?_⟩)|(refine ⟨_,rfl,rfl,rfl,OW.same ?_ ?_⟩)|refine vwB ?_|refine vwS ?_|refine vwI ?_|refine fwB ?_|refine fwS ?_|refine fwI ?_|(refine aIm ?_;first|exact AllSc.nil|assumption))))
  | true =>
    rw [h] at hv
    obtain ⟨h60, _, hok⟩ := xV h
    have hrm := runsT_mem hok
    have hrl := runsT_len t
    have hju : ((runsT t).map outl).length = (runsT t).length := List.length_map _
    have hjl := join_le (m := 47 * 60) 124 (r := (runsT t).map outl) (fun l hl => by
      obtain ⟨r, hr, rfl⟩ := List.mem_map.1 hl
      have := outl_le r
      have := (hrm r hr).2
      omega)
    rw [hju] at hjl
    have hj2 := sJoin_pf ((runsT t).map outl) [124] (by omega) (by omega)
    rw [← w9] at hj2
    have him : ∀ obj, some obj ∈ [some (AObj.mk 32 1 ((runsT t).map eR))] → ∀ x ∈ obj.els, ∀ c ∈ x, Imm c := by
      intro obj hm
      rw [List.mem_singleton] at hm
      cases hm
      exact eR_im _
    rw [qN, if_pos h]
    refine PF.enter (xM _) Tryd.func21 rfl (by kernel_rfl) _ _ rfl rfl rfl (fun w0 mu I0 β0 gi dis => ?_)
    (repeat' (first|(apply xW;(first|exact Want.none_ rfl|(refine yA rfl rfl rfl rfl ?_;(first|assumption|exact dT ‹_›|exact dF ‹_›|exact rfl))))|(apply xF zH;exact rfl;exact rfl)|((first|(apply z6;exact rfl;exact rfl)|apply z7|(apply z8;exact rfl;exact rfl)|apply zU|(apply zV;exact rfl;exact rfl;exact zH;exact rfl;exact rfl)|apply zN|apply zQ|apply zZ|(apply yB;exact rfl;exact rfl)|apply yC)<;>(first|exact zH|exact Nat.zero_add _|exact rfl|refine yN ?_|assumption|omega|exact ⟨rfl⟩|exact ⟨rfl,_,_,rfl,rfl⟩|exact lb rfl|(refine Bd.mk ?_;first|assumption|omega|(focus (simp;done))|(simp;omega)|decide)|exact yO rfl|exact xE ‹_›|(focus (simp;done))|(simp;omega)|(simp only [lA,lB,lC,lD,lE];omega)|exact yK rfl (by first|rfl|(simp;done)|(simp only [lA,lB,lC,lD,lE];omega))|exact yJ rfl (by first|assumption|omega|(simp only [lA,lB,lC,lD,lE];omega))))|apply zS|apply AWp.Q|apply zG|apply AWp.G|apply AWp.B|apply AWp.J|apply AWp.X|apply AWp.R|apply zO|apply zJ|apply zI|apply zL|apply zM|(refine zK rfl ?_)|(apply AWp.T;exact rfl;(first|assumption|exact dT ‹_›|exact dF ‹_›|exact rfl))|(apply AWp.F;exact rfl;(first|assumption|exact dT ‹_›|exact dF ‹_›|exact rfl))|(apply (zY (runs_pf t hb hok));(iterate 7 exact rfl);(focus (repeat (first|exact All2.nil|refine All2.cons rfl ?_)));exact rfl;(focus (repeat (first|exact MC.vc (VC.imm (zA _))|exact MC.vc (VC.imm (Imm.fn _ _ ‹_›))|exact MAs.nil|apply MAs.cons|apply MA.c|apply MA.agg|exact MCs.nil|apply MCs.cons|exact MC.ref rfl|exact MC.ptr rfl|exact MC.vc (VC.imm (Imm.v _))|exact MC.vc (VC.imm (Imm.sl _))|exact MC.vc (VC.imm (Imm.ip _))|exact MC.vc VC.nil)));(first|assumption|(apply xC;assumption)|(apply y7;assumption));(first|exact xD|assumption|(apply xB;assumption));exact rfl;exact rfl)|(apply yH;(iterate 6 exact rfl);(iterate 2 (focus (repeat (first|exact VAs.nil|apply VAs.cons|apply VA.c|apply VA.agg|exact VCs.nil|(apply VCs.same;assumption)|apply VCs.cons|exact VC.imm (Imm.v _)|exact VC.imm (Imm.sl _)|exact VC.imm (Imm.ip _)|exact VC.imm ‹_›|exact VC.nil|(apply zB;exact rfl;exact rfl;(first|exact rfl|(focus (simp;done))|omega|(focus (simp only [lA,lB,lC,lD,lE];omega)));exact rfl;(first|assumption|(refine aIm ?_;assumption)))|(apply zC;exact rfl;exact rfl;(first|assumption|omega|(focus (simp only [lA,lB,lC,lD,lE];omega))|(focus (simp;done))|(focus (simp;omega)));exact rfl;(first|assumption|(refine aIm ?_;assumption)))|assumption))));(first|exact hv);(focus (repeat (first|exact trivial|exact Flat.v _|exact Flat.dead|exact Flat.ref _ _ _|exact Flat.nil|apply And.intro)));(first|apply yS|(apply yR;(focus (repeat (first|exact trivial|apply And.intro|(first|exact AllSc.nil|assumption))))));(first|exact xG _ _|exact xJ _ _ _|exact xK _ _ _ _|exact y3 _ _ _ _ _|exact xH _|exact y5 _ _|exact y4 _ _ _ _|exact yU _ _ _ _ _|exact yT _ _|exact xI _ _ _ _|exact rfl))|((first|refine AWp.C rfl ?_ ?_|refine AWp.O _ rfl ?_ ?_)<;>intro hp<;>(try (exfalso;omega)))))
    refine AWp.U (σ := Nat) (fun k => ⟨[(4, .c (.ref 0 0 k)), (12, .c (.ref 1 0 (runsT t).length)), (13, .c (int (runsT t).length)), (14, .c (int k))], [(0, some ⟨9, 1, (((runsT t).map outl).take k).map x4⟩), (1, some ⟨32, 1, (runsT t).map eR⟩)], 2⟩) (fun k => k ≤ (runsT t).length) (fun k => (runsT t).length - k) 0 (Nat.zero_le _) ?_ ?_
    · refine Weak.of [(0, some 1), (1, some 2)] rfl ?_ ?_ <;> (repeat' (first|exact trivial|exact rfl|exact Or.inr ⟨rfl,‹_›⟩|exact Or.inl ⟨rfl,trivial⟩|apply And.intro|exact congrArg (Value.int .i64) (by first|omega|(simp;done)|(simp;omega))|(refine yD ?_;first|(focus (simp;done))|omega|(simp only [lA,lB,lC,lD,lE];omega))|(refine ⟨_,rfl,rfl,rfl,OW.one ?_⟩)|(refine ⟨_,rfl,rfl,rfl,OW.same ?_ ?_⟩)|refine vwB ?_|refine vwS ?_|refine vwI ?_|refine fwB ?_|refine fwS ?_|refine fwI ?_|(refine aIm ?_;first|exact AllSc.nil|assumption)))
      exact eR_im _
    · intro k hk
      by_cases hlt : k < (runsT t).length
      · obtain ⟨r, hr⟩ := xR hlt
        have hzz : ((runsT t).map eR)[k]? = some (eR r) := x5 hr
        have hlt' : (k : Int) < ((runsT t).length : Int) := by omega
        obtain ⟨hr1, hr2⟩ := hrm r (List.mem_of_getElem? hr)
        have hf := notation_pf r hr1 (by omega)
        have hfl := outl_le r
        have hts : ((runsT t).map outl).take (k + 1) = ((runsT t).map outl).take k ++ [outl r] := by rw [List.take_add_one, List.getElem?_map, hr]; rfl
        have htl : (((runsT t).map outl).take k).length = k := by simp; omega
        (repeat' (first|(apply xW;(first|exact Want.none_ rfl|(refine yA rfl rfl rfl rfl ?_;(first|assumption|exact dT ‹_›|exact dF ‹_›|exact rfl))))|(apply xF zH;exact rfl;exact rfl)|((first|(apply z6;exact rfl;exact rfl)|apply z7|(apply z8;exact rfl;exact rfl)|apply zU|(apply zV;exact rfl;exact rfl;exact zH;exact rfl;exact rfl)|apply zN|apply zQ|apply zZ|(apply yB;exact rfl;exact rfl)|apply yC)<;>(first|exact zH|exact Nat.zero_add _|exact rfl|refine yN ?_|assumption|omega|exact ⟨rfl⟩|exact ⟨rfl,_,_,rfl,rfl⟩|exact lb rfl|(refine Bd.mk ?_;first|assumption|omega|(focus (simp;done))|(simp;omega)|decide)|exact yO rfl|exact xE ‹_›|(focus (simp;done))|(simp;omega)|(simp only [lA,lB,lC,lD,lE];omega)|exact yK rfl (by first|rfl|(simp;done)|(simp only [lA,lB,lC,lD,lE];omega))|exact yJ rfl (by first|assumption|omega|(simp only [lA,lB,lC,lD,lE];omega))))|apply zS|apply AWp.Q|apply zG|apply AWp.G|apply AWp.B|apply AWp.J|apply AWp.X|apply AWp.R|apply zO|apply zJ|apply zI|apply zL|apply zM|(refine zK rfl ?_)|(apply AWp.T;exact rfl;(first|assumption|exact dT ‹_›|exact dF ‹_›|exact rfl))|(apply AWp.F;exact rfl;(first|assumption|exact dT ‹_›|exact dF ‹_›|exact rfl))|(apply yH;(iterate 6 exact rfl);(iterate 2 (focus (repeat (first|exact VAs.nil|apply VAs.cons|apply VA.c|apply VA.agg|exact VCs.nil|(apply VCs.same;assumption)|apply VCs.cons|exact VC.imm (Imm.v _)|exact VC.imm (Imm.sl _)|exact VC.imm (Imm.ip _)|exact VC.imm ‹_›|exact VC.nil|(apply zB;exact rfl;exact rfl;(first|exact rfl|(focus (simp;done))|omega|(focus (simp only [lA,lB,lC,lD,lE];omega)));exact rfl;(first|assumption|(refine aIm ?_;assumption)))|(apply zC;exact rfl;exact rfl;(first|assumption|omega|(focus (simp only [lA,lB,lC,lD,lE];omega))|(focus (simp;done))|(focus (simp;omega)));exact rfl;(first|assumption|(refine aIm ?_;assumption)))|assumption))));(first|exact hf);(focus (repeat (first|exact trivial|exact Flat.v _|exact Flat.dead|exact Flat.ref _ _ _|exact Flat.nil|apply And.intro)));(first|apply yS|(apply yR;(focus (repeat (first|exact trivial|apply And.intro|(first|exact AllSc.nil|assumption))))));(first|exact xG _ _|exact xJ _ _ _|exact xK _ _ _ _|exact y3 _ _ _ _ _|exact xH _|exact y5 _ _|exact y4 _ _ _ _|exact yU _ _ _ _ _|exact yT _ _|exact xI _ _ _ _|exact rfl))|((first|refine AWp.C rfl ?_ ?_|refine AWp.O _ rfl ?_ ?_)<;>intro hp<;>(try (exfalso;omega)))))
        refine ⟨k + 1, by omega, by omega, ?_⟩
        rw [hts]
        refine Weak.of [(0, some 3), (1, some 1)] rfl ?_ ?_ <;> (repeat' (first|exact trivial|exact rfl|exact Or.inr ⟨rfl,‹_›⟩|exact Or.inl ⟨rfl,trivial⟩|apply And.intro|exact congrArg (Value.int .i64) (by first|omega|(simp;done)|(simp;omega))|(refine yD ?_;first|(focus (simp;done))|omega|(simp only [lA,lB,lC,lD,lE];omega))|(refine ⟨_,rfl,rfl,rfl,OW.one ?_⟩)|(refine ⟨_,rfl,rfl,rfl,OW.same ?_ ?_⟩)|refine vwB ?_|refine vwS ?_|refine vwI ?_|refine fwB ?_|refine fwS ?_|refine fwI ?_|(refine aIm ?_;first|exact AllSc.nil|assumption)))
        all_goals first | (rw [List.map_append]; rfl) | exact strs_imm _ | exact eR_im _ | (rw [List.length_map, htl]; rfl)
      · have hlt' : ¬ (k : Int) < ((runsT t).length : Int) := by omega
        obtain rfl : k = (runsT t).length := by omega
        rw [List.take_of_length_le (by simp)]
        refine AWp.frz 4 0 wE rfl rfl (by simp) (strs_imm _) ?_
        (repeat' (first|(apply xW;(first|exact Want.none_ rfl|(refine yA rfl rfl rfl rfl ?_;(first|assumption|exact dT ‹_›|exact dF ‹_›|exact rfl))))|(apply xF zH;exact rfl;exact rfl)|((first|(apply z6;exact rfl;exact rfl)|apply z7|(apply z8;exact rfl;exact rfl)|apply zU|(apply zV;exact rfl;exact rfl;exact zH;exact rfl;exact rfl)|apply zN|apply zQ|apply zZ|(apply yB;exact rfl;exact rfl)|apply yC)<;>(first|exact zH|exact Nat.zero_add _|exact rfl|refine yN ?_|assumption|omega|exact ⟨rfl⟩|exact ⟨rfl,_,_,rfl,rfl⟩|exact lb rfl|(refine Bd.mk ?_;first|assumption|omega|(focus (simp;done))|(simp;omega)|decide)|exact yO rfl|exact xE ‹_›|(focus (simp;done))|(simp;omega)|(simp only [lA,lB,lC,lD,lE];omega)|exact yK rfl (by first|rfl|(simp;done)|(simp only [lA,lB,lC,lD,lE];omega))|exact yJ rfl (by first|assumption|omega|(simp only [lA,lB,lC,lD,lE];omega))))|apply zS|apply AWp.Q|apply zG|apply AWp.G|apply AWp.B|apply AWp.J|apply AWp.X|apply AWp.R|apply zO|apply zJ|apply zI|apply zL|apply zM|(refine zK rfl ?_)|(apply AWp.T;exact rfl;(first|assumption|exact dT ‹_›|exact dF ‹_›|exact rfl))|(apply AWp.F;exact rfl;(first|assumption|exact dT ‹_›|exact dF ‹_›|exact rfl))|(apply yH;(iterate 6 exact rfl);(iterate 2 (focus (repeat (first|exact VAs.nil|apply VAs.cons|apply VA.c|apply VA.agg|exact VCs.nil|(apply VCs.same;assumption)|apply VCs.cons|exact VC.imm (Imm.v _)|exact VC.imm (Imm.sl _)|exact VC.imm (Imm.ip _)|exact VC.imm ‹_›|exact VC.nil|(apply zB;exact rfl;exact rfl;(first|exact rfl|(focus (simp;done))|omega|(focus (simp only [lA,lB,lC,lD,lE];omega)));exact rfl;(first|assumption|(refine aIm ?_;assumption)))|(apply zC;exact rfl;exact rfl;(first|assumption|omega|(focus (simp only [lA,lB,lC,lD,lE];omega))|(focus (simp;done))|(focus (simp;omega)));exact rfl;(first|assumption|(refine aIm ?_;assumption)))|assumption))));(first|exact hj2);(focus (repeat (first|exact trivial|exact Flat.v _|exact Flat.dead|exact Flat.ref _ _ _|exact Flat.nil|apply And.intro)));(first|apply yS|(apply yR;(focus (repeat (first|exact trivial|apply And.intro|(first|exact AllSc.nil|assumption))))));(first|exact xG _ _|exact xJ _ _ _|exact xK _ _ _ _|exact y3 _ _ _ _ _|exact xH _|exact y5 _ _|exact y4 _ _ _ _|exact yU _ _ _ _ _|exact yT _ _|exact xI _ _ _ _|exact rfl))|((first|refine AWp.C rfl ?_ ?_|refine AWp.O _ rfl ?_ ?_)<;>intro hp<;>(try (exfalso;omega)))))
        ((first|refine yE _ [] (.cons (zR rfl) (.cons (zR rfl) .nil)) ?_ rfl ?_|refine yF _ [] (.cons (zR rfl) (.cons (zR rfl) .nil)) ?_ rfl ?_) <;> (repeat' (first|exact trivial|exact rfl|exact Or.inr ⟨rfl,‹_›⟩|exact Or.inl ⟨rfl,trivial⟩|apply And.intro|exact congrArg (Value.int .i64) (by first|omega|(simp;done)|(simp;omega))|(refine yD ?_;first|(focus (simp;done))|omega|(simp only [lA,lB,lC,lD,lE];omega))|(refine ⟨_,rfl,rfl,rfl,OW.one ?_⟩)|(refine ⟨_,rfl,rfl,rfl,OW.same ?_ ?_⟩)|refine vwB ?_|refine vwS ?_|refine vwI ?_|refine fwB ?_|refine fwS ?_|refine fwI ?_|(refine aIm ?_;first|exact AllSc.nil|assumption))))
end Go.Proofs.YtchpdclknbmdoaaDoor
