/- TapeRuns by both programs, and what its law calls, in a concrete walk. -/
import Derived.Test.YtjeffognhcbiaaaNsW
import Derived.Test.YtjeffognhcbiaaaNsH
import Derived.Test.YtjeffognhcbiaaaTpS
import Derived.Test.YtjeffognhcbiaaaMrB
namespace Go.Proofs.Ytjeffognhcbiaaa
open Go Go.RowKit
theorem itms_plain (l : List Itm) : vH (l.map zK) := fun x hx c hc => by
  obtain ⟨i, _, rfl⟩ := List.mem_map.1 hx
  simp only [zK, List.mem_cons, List.not_mem_nil, or_false] at hc
  rcases hc with rfl | rfl
  · exact ⟨_, rfl, rfl⟩
  · exact ⟨_, rfl, rfl⟩
theorem specRunsY_pf (t : List Itm) (hb : wF t) (h : yT t = true) : PF Try.prog 5 [.agg (yK t)] [⟨44, 1, (runsT t).map eR⟩] (.tup [.c (.ref 0 0 (runsT t).length), .c (boo true)]) := by
  have h1 := specValidT_pf t hb
  rw [h] at h1
  have h2 := l16Runs_pf t hb
  have i1 := imO2 (o := ⟨44, 1, (runsT t).map eR⟩) (eR_im (runsT t))
  refine PF.enter (wC _) Try.func5 rfl (by kernel_rfl) _ _ rfl rfl rfl (fun w0 mu I0 β0 gi dis => ?_)
  (repeat' (first|(apply xW;(first|exact Want.none_ rfl|(refine zZ rfl rfl rfl rfl ?_;(first|assumption|exact dT ‹_›|exact dF ‹_›|exact rfl))))|(apply xF zH;exact rfl;exact rfl)|((first|(apply zU;exact rfl;exact rfl;exact zH;exact rfl;exact rfl)|apply zL|apply yB)<;>(first|exact zH|exact Nat.zero_add _|exact rfl|refine yJ ?_|assumption|omega|exact ⟨rfl⟩|exact ⟨rfl,_,_,rfl,rfl⟩|exact lb rfl|((try refine Bd.mk ?_);first|assumption|omega|(focus (simp;done))|(simp;omega)|decide|(simp only [lA,lB,lC,lD,lE];omega))))|apply zT|apply AWp.Q|apply zG|apply AWp.G|apply AWp.J|apply AWp.R|apply zI|(apply AWp.T;exact rfl;(first|assumption|exact dT ‹_›|exact dF ‹_›|exact rfl))|(apply AWp.F;exact rfl;(first|assumption|exact dT ‹_›|exact dF ‹_›|exact rfl))|(apply (rx_callMR (h2));(iterate 7 exact rfl);(focus (repeat (first|exact All2.nil|refine All2.cons rfl ?_)));exact rfl;(focus (repeat (first|exact MC.vc (VC.imm (zF _))|exact MC.vc (VC.imm (Imm.fn _ _ ‹_›))|exact MAs.nil|apply MAs.cons|apply MA.c|apply MA.agg|exact MCs.nil|apply MCs.cons|exact MC.ref rfl|exact MC.ptr rfl|exact MC.vc (VC.imm (Imm.v _))|exact MC.vc (VC.imm (Imm.sl _))|exact MC.vc (VC.imm (Imm.ip _))|exact MC.vc VC.nil)));(first|assumption|(apply imO1;assumption)|(apply imO2;assumption));(first|exact imI0|assumption|(apply imI1;assumption));exact rfl;exact rfl)|(apply yG;(iterate 6 exact rfl);(iterate 2 (focus (repeat (first|exact VAs.nil|apply VAs.cons|apply VA.c|apply VA.agg|exact VCs.nil|(apply VCs.same;assumption)|apply VCs.cons|exact VC.imm (Imm.v _)|exact VC.imm (Imm.sl _)|exact VC.imm (Imm.ip _)|exact VC.imm ‹_›|exact VC.nil|(apply zB;exact rfl;exact rfl;(first|exact rfl|(focus (simp;done))|omega|(focus (simp only [lA,lB,lC,lD,lE];omega)));exact rfl;(first|assumption|(refine aIm ?_;assumption)))|(apply zC;exact rfl;exact rfl;(first|assumption|omega|(focus (simp only [lA,lB,lC,lD,lE];omega))|(focus (simp;done))|(focus (simp;omega)));exact rfl;(first|assumption|(refine aIm ?_;assumption)))|assumption))));(first|exact h1);(focus (repeat (first|exact trivial|exact Flat.v _|exact Flat.dead|exact Flat.ref _ _ _|exact Flat.nil|apply And.intro)));(first|apply yP|(apply yN;(focus (repeat (first|exact trivial|apply And.intro|(first|exact AllSc.nil|assumption))))));(first|exact x3 _ _|exact xY _ _ _|exact xT _ _ _ _|exact y6 _ _ _ _ _|exact xZ _|exact y9 _ _|exact y8 _ _ _ _|exact yQ _ _ _ _ _|exact yO _ _|exact xX _ _ _ _|exact rfl))|((first|refine AWp.C rfl ?_ ?_|refine AWp.O _ rfl ?_ ?_)<;>intro hp<;>try (exfalso;omega))))
  ((first|refine zY _ [(0, some 1)] (.cons (zR rfl) (.cons (zR rfl) .nil)) ?_ rfl ?_|refine yC _ [(0, some 1)] (.cons (zR rfl) (.cons (zR rfl) .nil)) ?_ rfl ?_) <;> (repeat' (first|exact trivial|exact rfl|exact oRi ‹_›|exact oLi|apply And.intro|(apply cgI;first|omega|(simp;done)|(simp;omega))|(refine yA ?_;first|(focus (simp;done))|omega|(simp only [lA,lB,lC,lD,lE];omega))|refine ⟨_,rfl,rfl,rfl,OW.one ?_⟩|refine oWs rfl rfl rfl ?_ ?_|refine vwB ?_|refine vwS ?_|refine vwI ?_|refine fwB ?_|refine fwS ?_|refine fwI ?_|(refine aIm ?_;first|exact AllSc.nil|assumption))))
  all_goals exact eR_im _
theorem specRunsN_pf (t : List Itm) (hb : wF t) (h : yT t = false) : PF Try.prog 5 [.agg (yK t)] [] (.tup [.c .nil, .c (boo false)]) := by
  have h1 := specValidT_pf t hb
  rw [h] at h1
  refine PF.enter (wC _) Try.func5 rfl (by kernel_rfl) _ _ rfl rfl rfl (fun w0 mu I0 β0 gi dis => ?_)
  (repeat' (first|(apply xW;(first|exact Want.none_ rfl|(refine zZ rfl rfl rfl rfl ?_;(first|assumption|exact dT ‹_›|exact dF ‹_›|exact rfl))))|(apply xF zH;exact rfl;exact rfl)|((first|(apply zU;exact rfl;exact rfl;exact zH;exact rfl;exact rfl)|apply zL|apply yB)<;>(first|exact zH|exact Nat.zero_add _|exact rfl|refine yJ ?_|assumption|omega|exact ⟨rfl⟩|exact ⟨rfl,_,_,rfl,rfl⟩|exact lb rfl|((try refine Bd.mk ?_);first|assumption|omega|(focus (simp;done))|(simp;omega)|decide|(simp only [lA,lB,lC,lD,lE];omega))))|apply zT|apply AWp.Q|apply zG|apply AWp.G|apply AWp.J|apply AWp.R|apply zI|(apply AWp.T;exact rfl;(first|assumption|exact dT ‹_›|exact dF ‹_›|exact rfl))|(apply AWp.F;exact rfl;(first|assumption|exact dT ‹_›|exact dF ‹_›|exact rfl))|(apply yG;(iterate 6 exact rfl);(iterate 2 (focus (repeat (first|exact VAs.nil|apply VAs.cons|apply VA.c|apply VA.agg|exact VCs.nil|(apply VCs.same;assumption)|apply VCs.cons|exact VC.imm (Imm.v _)|exact VC.imm (Imm.sl _)|exact VC.imm (Imm.ip _)|exact VC.imm ‹_›|exact VC.nil|(apply zB;exact rfl;exact rfl;(first|exact rfl|(focus (simp;done))|omega|(focus (simp only [lA,lB,lC,lD,lE];omega)));exact rfl;(first|assumption|(refine aIm ?_;assumption)))|(apply zC;exact rfl;exact rfl;(first|assumption|omega|(focus (simp only [lA,lB,lC,lD,lE];omega))|(focus (simp;done))|(focus (simp;omega)));exact rfl;(first|assumption|(refine aIm ?_;assumption)))|assumption))));(first|exact h1);(focus (repeat (first|exact trivial|exact Flat.v _|exact Flat.dead|exact Flat.ref _ _ _|exact Flat.nil|apply And.intro)));(first|apply yP|(apply yN;(focus (repeat (first|exact trivial|apply And.intro|(first|exact AllSc.nil|assumption))))));(first|exact x3 _ _|exact xY _ _ _|exact xT _ _ _ _|exact y6 _ _ _ _ _|exact xZ _|exact y9 _ _|exact y8 _ _ _ _|exact yQ _ _ _ _ _|exact yO _ _|exact xX _ _ _ _|exact rfl))|((first|refine AWp.C rfl ?_ ?_|refine AWp.O _ rfl ?_ ?_)<;>intro hp<;>try (exfalso;omega))))
  ((first|refine zY _ [] (.cons (zR rfl) (.cons (zR rfl) .nil)) ?_ rfl ?_|refine yC _ [] (.cons (zR rfl) (.cons (zR rfl) .nil)) ?_ rfl ?_) <;> (repeat' (first|exact trivial|exact rfl|exact oRi ‹_›|exact oLi|apply And.intro|(apply cgI;first|omega|(simp;done)|(simp;omega))|(refine yA ?_;first|(focus (simp;done))|omega|(simp only [lA,lB,lC,lD,lE];omega))|refine ⟨_,rfl,rfl,rfl,OW.one ?_⟩|refine oWs rfl rfl rfl ?_ ?_|refine vwB ?_|refine vwS ?_|refine vwI ?_|refine fwB ?_|refine fwS ?_|refine fwI ?_|(refine aIm ?_;first|exact AllSc.nil|assumption))))
theorem implRunsN_pf (t : List Itm) (hb : wF t) (h : yT t = false) : PF Try.prog 7 [.agg (yK t)] [] (.tup [.c .nil, .c (boo false)]) := by
  have h1 := implValidT_pf t hb
  rw [h] at h1
  refine PF.enter (wC _) Try.func7 rfl (by kernel_rfl) _ _ rfl rfl rfl (fun w0 mu I0 β0 gi dis => ?_)
  (repeat' (first|(apply xW;(first|exact Want.none_ rfl|(refine zZ rfl rfl rfl rfl ?_;(first|assumption|exact dT ‹_›|exact dF ‹_›|exact rfl))))|(apply xF zH;exact rfl;exact rfl)|((first|(apply zU;exact rfl;exact rfl;exact zH;exact rfl;exact rfl)|apply zL|apply yB)<;>(first|exact zH|exact Nat.zero_add _|exact rfl|refine yJ ?_|assumption|omega|exact ⟨rfl⟩|exact ⟨rfl,_,_,rfl,rfl⟩|exact lb rfl|((try refine Bd.mk ?_);first|assumption|omega|(focus (simp;done))|(simp;omega)|decide|(simp only [lA,lB,lC,lD,lE];omega))))|apply zT|apply AWp.Q|apply zG|apply AWp.G|apply AWp.J|apply AWp.R|apply zI|(apply AWp.T;exact rfl;(first|assumption|exact dT ‹_›|exact dF ‹_›|exact rfl))|(apply AWp.F;exact rfl;(first|assumption|exact dT ‹_›|exact dF ‹_›|exact rfl))|(apply yG;(iterate 6 exact rfl);(iterate 2 (focus (repeat (first|exact VAs.nil|apply VAs.cons|apply VA.c|apply VA.agg|exact VCs.nil|(apply VCs.same;assumption)|apply VCs.cons|exact VC.imm (Imm.v _)|exact VC.imm (Imm.sl _)|exact VC.imm (Imm.ip _)|exact VC.imm ‹_›|exact VC.nil|(apply zB;exact rfl;exact rfl;(first|exact rfl|(focus (simp;done))|omega|(focus (simp only [lA,lB,lC,lD,lE];omega)));exact rfl;(first|assumption|(refine aIm ?_;assumption)))|(apply zC;exact rfl;exact rfl;(first|assumption|omega|(focus (simp only [lA,lB,lC,lD,lE];omega))|(focus (simp;done))|(focus (simp;omega)));exact rfl;(first|assumption|(refine aIm ?_;assumption)))|assumption))));(first|exact h1);(focus (repeat (first|exact trivial|exact Flat.v _|exact Flat.dead|exact Flat.ref _ _ _|exact Flat.nil|apply And.intro)));(first|apply yP|(apply yN;(focus (repeat (first|exact trivial|apply And.intro|(first|exact AllSc.nil|assumption))))));(first|exact x3 _ _|exact xY _ _ _|exact xT _ _ _ _|exact y6 _ _ _ _ _|exact xZ _|exact y9 _ _|exact y8 _ _ _ _|exact yQ _ _ _ _ _|exact yO _ _|exact xX _ _ _ _|exact rfl))|((first|refine AWp.C rfl ?_ ?_|refine AWp.O _ rfl ?_ ?_)<;>intro hp<;>try (exfalso;omega))))
  ((first|refine zY _ [] (.cons (zR rfl) (.cons (zR rfl) .nil)) ?_ rfl ?_|refine yC _ [] (.cons (zR rfl) (.cons (zR rfl) .nil)) ?_ rfl ?_) <;> (repeat' (first|exact trivial|exact rfl|exact oRi ‹_›|exact oLi|apply And.intro|(apply cgI;first|omega|(simp;done)|(simp;omega))|(refine yA ?_;first|(focus (simp;done))|omega|(simp only [lA,lB,lC,lD,lE];omega))|refine ⟨_,rfl,rfl,rfl,OW.one ?_⟩|refine oWs rfl rfl rfl ?_ ?_|refine vwB ?_|refine vwS ?_|refine vwI ?_|refine fwB ?_|refine fwS ?_|refine fwI ?_|(refine aIm ?_;first|exact AllSc.nil|assumption))))
theorem flat_bd {m : Nat} : ∀ {L : List (List Int)}, (∀ o ∈ L, o.length ≤ m) → L.flatten.length ≤ L.length * m
  | [], _ => by simp
  | o :: L, h => by
    have ih := flat_bd (L := L) fun p hp => h p (List.mem_cons_of_mem _ hp)
    have := h o (List.mem_cons_self ..)
    rw [List.flatten_cons, List.length_append, List.length_cons, Nat.succ_mul]
    omega
structure AgR (W : World) (A : Option Addr) (c : Nat) (t : List Itm) (w : World) : Prop where
  bt : Below W.heap.size W w
  lt : W.heap.size < w.heap.size
  bx : w.cell? ⟨W.heap.size, 0, none⟩ = some (.slice A t.length c)
  rt : RepI (fun b => b < W.heap.size) w (.sl (t.map zK)) (.slice A t.length c)
section
variable {W w w' : World} {A : Option Addr} {c : Nat} {t : List Itm}
theorem AgR.below (h : AgR W A c t w) (hb : Below w.heap.size w w') : AgR W A c t w' :=
  ⟨h.bt.trans (hb.mono (Nat.le_of_lt h.lt)), Nat.lt_of_lt_of_le h.lt hb.size, (hb.cell (p := ⟨W.heap.size, 0, none⟩) h.lt).trans h.bx, h.rt.mono (fun _ h => h) (fun b hb' => hb.block b (by have := h.lt; omega))⟩
theorem AgR.fr {lo hi : Nat} (h : AgR W A c t w) (hf : Fr lo hi w w') (hlo : W.heap.size < lo) : AgR W A c t w' := by
  have hb : Below (W.heap.size + 1) w w' := ⟨hf.os, hf.tape, hf.output, hf.size, fun k hk => hf.block k (by have := h.lt; omega) (by omega)⟩
  exact ⟨h.bt.trans (hb.mono (Nat.le_succ _)), Nat.lt_of_lt_of_le h.lt hf.size, (hb.cell (p := ⟨W.heap.size, 0, none⟩) (Nat.lt_succ_self _)).trans h.bx, h.rt.mono (fun _ h => h) (fun b hb' => hb.block b (by omega))⟩
theorem AgR.nowt (h : AgR W A c t w) : Rep (fun b => b < w.heap.size) (fun _ => none) w (.sl (t.map zK)) (.slice A t.length c) := Rep.imm (h.rt.mono (fun b hb => by have := h.lt; omega) (fun _ _ => rfl))
theorem AgR.gi (h : AgR W A c t w) (gi : GI (fun b => b < W.heap.size) W) : GI (fun b => b < w.heap.size) w := GI.up gi (fun b hb => h.bt.block b hb) (Nat.le_of_lt h.lt)
theorem AgR.glo {lo : Nat} (h : AgR W A c t w) (gi : GI (fun b => b < W.heap.size) W) (hlo : W.heap.size ≤ lo) : GI (fun b => b < lo) w :=
  gi.mono (fun b hb _ => Nat.lt_of_lt_of_le hb hlo) (fun b hb _ => h.bt.block b hb)
end
section
variable {t : List Itm} {A2 : Option Addr} {c2 : Nat}
theorem x7 {w : World} {I : Nat → Prop} {β : Nat → Option BI} {u : Value} (h : Rep I β w (.sl (t.map zK)) u) : RepF I β w (.agg (yK t)) (.agg #[u]) := ⟨[_], rfl, .cons h .nil⟩
theorem szTape_call {w : World} {l : Int} (hm : wT t) (h0 : 0 ≤ l) (hl : l ≤ 1048576) (hr : Rep (fun b => b < w.heap.size) (fun _ => none) w (.sl (t.map zK)) (.slice A2 t.length c2)) (gi : GI (fun b => b < w.heap.size) w) :
    Calls Try.prog 4 #[.agg #[.slice A2 t.length c2], .int .i64 l] w fun e w' => e = .returned (.int .i64 (szT t l)) ∧ Below w.heap.size w w' :=
  pf_val (szTape_pf t l hm h0 hl) gi (vals := [_, .int .i64 l]) (.cons (x7 hr) (.cons (Rep.imm (.v _ rfl)) .nil))
def CpT (lo hi : Nat) (w : World) (A : Option Addr) (c : Nat) (t : List Itm) : Prop := GotF 50 2 lo hi w (t.map zK) t.length (.slice A t.length c)
theorem yW {w : World} (hB : t.length ≤ 1048576) (hr : Rep (fun b => b < w.heap.size) (fun _ => none) w (.sl (t.map zK)) (.slice A2 t.length c2)) (gi : GI (fun b => b < w.heap.size) w) :
    Calls Try.prog 6 #[.agg #[.slice A2 t.length c2]] w fun e w' => ∃ A c, e = .returned (.agg #[.slice A t.length c]) ∧ CpT w.heap.size w'.heap.size w' A c t ∧ Below w.heap.size w w' := by
  refine (pf_call (toTape_pf t hB) gi (vals := [_]) (.cons (x7 hr) .nil)).mono ?_
  rintro e w' ⟨v, I', β', rfl, hv, hb, _, ho⟩
  obtain ⟨u, rfl, hg⟩ := gotF_agg (itms_plain t) hv (by rw [List.length_map]; exact Nat.le_refl _) (ho 0 _ rfl)
  obtain ⟨A, c, rfl⟩ := hg.sl
  exact ⟨A, c, rfl, hg, hb⟩
theorem CpT.rep {lo hi : Nat} {w : World} {A : Option Addr} {c : Nat} (h : CpT lo hi w A c t) (hh : hi ≤ w.heap.size) : Rep (fun b => b < w.heap.size) (fun _ => none) w (.sl (t.map zK)) (.slice A t.length c) := GotF.rep' h (by rw [← List.length_map (f := zK), List.take_length]) hh
theorem CpT.below {lo hi : Nat} {w w' : World} {A : Option Addr} {c : Nat} (h : CpT lo hi w A c t) (hh : hi ≤ w.heap.size) (hb : Below w.heap.size w w') : CpT lo hi w' A c t := GotF.below h hh hb
theorem CpT.fr {lo hi lo' hi' : Nat} {w w' : World} {A : Option Addr} {c : Nat} (h : CpT lo hi w A c t) (hh : hi ≤ w.heap.size) (hf : Fr lo' hi' w w') (hd : hi ≤ lo' ∨ hi' ≤ lo) : CpT lo hi w' A c t := GotF.fr h hh hf hd
theorem eqTape_call {w : World} {A A' : Option Addr} {c c' : Nat} (hB : t.length ≤ 4000000) (hr : Rep (fun b => b < w.heap.size) (fun _ => none) w (.sl (t.map zK)) (.slice A t.length c)) (hr' : Rep (fun b => b < w.heap.size) (fun _ => none) w (.sl (t.map zK)) (.slice A' t.length c')) (gi : GI (fun b => b < w.heap.size) w) :
    Calls Try.prog 9 #[.agg #[.slice A t.length c], .agg #[.slice A' t.length c']] w fun e w' => e = .returned (.bool true) ∧ Below w.heap.size w w' :=
  pf_val (eqTape_pf t hB) gi (vals := [_, _]) (.cons (x7 hr) (.cons (x7 hr') .nil))
theorem markTape_call {w : World} {lo hi k : Nat} {A : Option Addr} {c : Nat} (h : CpT lo hi w A c t) (hB : t.length ≤ 4000000) (hk : k ≤ 1000000000) (gi : GI (fun b => b < lo) w) (hlo : lo ≤ w.heap.size) :
    Calls Try.prog 10 #[.agg #[.slice A t.length c], .int .i64 (k : Int)] w fun e w' => e = .returned (.int .i64 ((k + 2 * t.length : Nat) : Int)) ∧ Fr lo hi w w' :=
  (markF (markTape_pfm t k hB hk) h (fun h => ⟨[_], rfl, .cons h .nil⟩) (by simp [mkTs_len]) (itms_plain _) gi hlo).mono fun e w' h => ⟨h.1, h.2.2⟩
end
def GivesS (t : List Itm) (L : List (List Int)) (b : Bool) : Prop := ∀ (W : World) (A : Option Addr) (c : Nat), Rep (fun b => b < W.heap.size) (fun _ => none) W (.sl (t.map zK)) (.slice A t.length c) → GI (fun b => b < W.heap.size) W →
  Calls Try.prog 5 #[.agg #[.slice A t.length c]] W fun e W' => ∃ u, e = .returned (.tuple #[u, .bool b]) ∧ GotW W'.heap.size W' L u ∧ Below W.heap.size W W'
def GivesR (t : List Itm) (L : List (List Int)) (b : Bool) : Prop := ∀ (W : World) (A : Option Addr) (c : Nat), Rep (fun b => b < W.heap.size) (fun _ => none) W (.sl (t.map zK)) (.slice A t.length c) → GI (fun b => b < W.heap.size) W →
  Calls Try.prog 7 #[.agg #[.slice A t.length c]] W fun e W' => ∃ u, e = .returned (.tuple #[u, .bool b]) ∧ GotN W.heap.size W'.heap.size W' L u ∧ Below W.heap.size W W'
theorem givesS_yes {t : List Itm} (hb : wF t) (h : yT t = true) : GivesS t (runsT t) true := fun W A c ht gi => by
  refine (pf_call (specRunsY_pf t hb h) gi (vals := [_]) (.cons (x7 ht) .nil)).mono ?_
  rintro e w' ⟨v, I', β', rfl, hv, hb, hI, ho⟩
  obtain ⟨u, rfl, hg⟩ := gotW_tup hI hv (ho 0 _ rfl)
  exact ⟨u, rfl, hg, hb⟩
theorem givesS_no {t : List Itm} (hb : wF t) (h : yT t = false) : GivesS t [] false := fun W A c ht gi => by
  refine (pf_call (specRunsN_pf t hb h) gi (vals := [_]) (.cons (x7 ht) .nil)).mono ?_
  rintro e w' ⟨v, I', β', rfl, hv, hb, _, _⟩
  rw [nil_tup hv]
  exact ⟨_, rfl, GotW.nil _ _, hb⟩
theorem givesR_no {t : List Itm} (hb : wF t) (h : yT t = false) : GivesR t [] false := fun W A c ht gi => by
  refine (pf_call (implRunsN_pf t hb h) gi (vals := [_]) (.cons (x7 ht) .nil)).mono ?_
  rintro e w' ⟨v, I', β', rfl, hv, hb, _, _⟩
  rw [nil_tup hv]
  exact ⟨_, rfl, GotN.nil _ _ _, hb⟩
theorem implValid_call {t : List Itm} (hb : wF t) {w : World} {A : Option Addr} {c : Nat} (hr : Rep (fun b => b < w.heap.size) (fun _ => none) w (.sl (t.map zK)) (.slice A t.length c)) (gi : GI (fun b => b < w.heap.size) w) :
    Calls Try.prog 17 #[.agg #[.slice A t.length c]] w fun e w' => e = .returned (.bool (yT t)) ∧ Below w.heap.size w w' :=
  pf_val (implValidT_pf t hb) gi (vals := [_]) (.cons (x7 hr) .nil)
theorem rep_up {w w' : World} {t : List Itm} {v : Value} (h : Rep (fun b => b < w.heap.size) (fun _ => none) w (.sl (t.map zK)) v) (hb : Below w.heap.size w w') : Rep (fun b => b < w'.heap.size) (fun _ => none) w' (.sl (t.map zK)) v := by
  cases h with
  | imm h => exact Rep.imm (h.mono (fun b hk => Nat.lt_of_lt_of_le hk hb.size) (fun b hk => hb.block b hk))
set_option maxRecDepth 100000 in
theorem givesR_yes {t : List Itm} (hb : wF t) (h : yT t = true) : GivesR t (runsT t) true := fun W A c ht gi => by
  have h60 := (tapeOk_parts h).1
  have HT : Hid (∀ W1, Below W.heap.size W W1 → Rep (fun b => b < W1.heap.size) (fun _ => none) W1 (.sl (t.map zK)) (.slice A t.length c)) := Lib.hid fun W1 hb => rep_up ht hb
  have HG : Hid (∀ W1, Below W.heap.size W W1 → GI (fun b => b < W1.heap.size) W1) := Lib.hid fun W1 hb => GI.up gi (fun b hk => hb.block b hk) hb.size
  have HB := Lib.hid hb
  have HOK := Lib.hid h
  clear ht gi hb h
  go_enter Try.func7, Try.ntmps7
  go_wp2_with fail
  refine (implValid_call HB.out (HT.out _ (by repeat (first | exact Below.refl _ _ | assumption | refine Below.alloc ?_ (by first | (simp; done) | (simp; omega) | omega) _ | refine Below.setCell ?_ (by first | (simp; done) | (simp; omega) | omega) _ | refine Below.drew ?_))) (HG.out _ (by repeat (first | exact Below.refl _ _ | assumption | refine Below.alloc ?_ (by first | (simp; done) | (simp; omega) | omega) _ | refine Below.setCell ?_ (by first | (simp; done) | (simp; omega) | omega) _ | refine Below.drew ?_)))).mono ?_
  rintro e w1 ⟨rfl, hb1⟩
  rw [HOK.out]
  have hbl : Below W.heap.size W w1 := (show Below W.heap.size W _ by repeat (first | exact Below.refl _ _ | assumption | refine Below.alloc ?_ (by first | (simp; done) | (simp; omega) | omega) _ | refine Below.setCell ?_ (by first | (simp; done) | (simp; omega) | omega) _ | refine Below.drew ?_)).trans (hb1.mono (by simp))
  have c0 := (hb1.cell (p := ⟨W.heap.size, 0, none⟩) (by first | (simp; done) | (simp; omega) | omega)).trans (show World.cell? _ ⟨W.heap.size, 0, none⟩ = some (.slice A t.length c) by go_simp)
  have HBL := Lib.hid hbl
  clear hb1 hbl
  go_wp2_with fail
  refine (runs_any A c t _ (by omega) (by
    have := HT.out w1 HBL.out
    cases this with
    | imm h => exact rep_itms h (fun b hb => hb))).mono ?_
  rintro e w2 ⟨v, rfl, hg, hb2⟩
  have HG2 := Lib.hid hg
  have HB2 := Lib.hid (HBL.out.trans (hb2.mono HBL.out.size))
  have HSZ := Lib.hid HBL.out.size
  clear hg hb2
  go_wp2
  refine bodyPost_ret (v := .tuple #[v, .bool true]) (by simp [results, Try.results7, go_sem]) rfl ?_
  obtain ⟨S, n1, n2, n3⟩ := HG2.out
  exact ⟨v, rfl, ⟨S, ⟨n1.len, n1.out.mono HSZ.out, fun k s o hs ho => ⟨(n1.inn k s o hs ho).1, (n1.inn k s o hs ho).2.mono HSZ.out⟩, n1.dis, n1.ne⟩, fun k s b hs hbk => n2 k s b hs hbk, n3⟩, HB2.out⟩
end Go.Proofs.Ytjeffognhcbiaaa
