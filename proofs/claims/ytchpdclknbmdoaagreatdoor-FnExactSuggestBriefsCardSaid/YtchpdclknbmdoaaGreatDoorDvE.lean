/- The functions of package laws that measure, copy and compare dictionaries; what a readable one looks like. No conditions but bounds of lengths. -/
import Derived.Test.YtchpdclknbmdoaaGreatDoorDvB
import Derived.Test.YtchpdclknbmdoaaGreatDoorIntS
import Derived.Test.YtchpdclknbmdoaaGreatDoorWdZ
namespace Go.Proofs.YtchpdclknbmdoaaGreatDoor
open Go Go.RowKit Go.ChangeShapes Go.WideShapes Go.ChangeAt Go.Deep
def szI (o : List Int) (l : Int) : Int := if l - o.length < 0 then -1 else l - o.length
def szE (e : Ent) (l : Int) : Int := if szI e.o l < 0 then -1 else if szI e.o l - e.t.length < 0 then -1 else szI e.o l - e.t.length
def kM : List Ent → Int → Int
  | [], l => l
  | e :: es, l => if szE e l < 0 then -1 else kM es (szE e l)
def vR (es : List Ent) (l : Int) : Int := if l - es.length < 0 then -1 else kM es (l - es.length)
def EntM (e : Ent) : Prop := e.o.length ≤ 9223372036854775807 ∧ e.t.length ≤ 9223372036854775807 ∧ ∀ n ∈ e.o, -9223372036854775808 ≤ n ∧ n ≤ 9223372036854775807
def kW (es : List Ent) : Prop := es.length ≤ 9223372036854775807 ∧ ∀ e ∈ es, EntM e
theorem szI_ge {o : List Int} {l : Int} (h : 0 ≤ l) : -1 ≤ szI o l ∧ szI o l ≤ l ∧ (0 ≤ szI o l → (o.length : Int) ≤ l) := by
  unfold szI; split <;> omega
theorem szE_ge {e : Ent} {l : Int} (h : 0 ≤ l) : -1 ≤ szE e l ∧ szE e l ≤ l ∧ (0 ≤ szE e l → (e.o.length : Int) ≤ l ∧ (e.t.length : Int) ≤ l) := by
  have h1 := szI_ge (o := e.o) h
  unfold szE
  split
  · omega
  · split <;> omega
theorem szEs_ge : ∀ {es : List Ent} {l : Int}, 0 ≤ l → -1 ≤ kM es l ∧ kM es l ≤ l
  | [], l, h => by rw [kM]; omega
  | e :: es, l, h => by
    have h1 := szE_ge (e := e) h
    rw [kM]
    split
    · omega
    · have := szEs_ge (es := es) (l := szE e l) (by omega); omega
theorem szEs_ok : ∀ {es : List Ent} {l : Int}, 0 ≤ l → 0 ≤ kM es l → ∀ e ∈ es, (e.o.length : Int) ≤ l ∧ (e.t.length : Int) ≤ l
  | [], _, _, _, e, he => by simp at he
  | x :: es, l, h0, h, e, he => by
    have h1 := szE_ge (e := x) h0
    rw [kM] at h
    split at h
    · omega
    · rcases List.mem_cons.1 he with rfl | he
      · exact h1.2.2 (by omega)
      · have := szEs_ok (by omega) h e he; omega
theorem szDi_ge {es : List Ent} {l : Int} (h : 0 ≤ l) : -1 ≤ vR es l ∧ vR es l ≤ l := by
  unfold vR
  split
  · omega
  · have := szEs_ge (es := es) (l := l - es.length) (by omega); omega
theorem szDi_ok {es : List Ent} {l : Int} (h : 0 ≤ vR es l) (hl : l ≤ 1048576) : qQ es := by
  unfold vR at h
  split at h
  · omega
  · refine ⟨by omega, fun e he => ?_⟩
    have := szEs_ok (by omega) h e he
    omega
theorem szIntS_pf (o : List Int) (l : Int) (hb : o.length ≤ 9223372036854775807) (h0 : 0 ≤ l) (h1 : l ≤ 1048576) : PF Tryz.prog 180 [.c (.sl (o.map yQ)), .c (int l)] [] (.c (int (szI o l))) := by
  have hL : (o.map yQ).length = o.length := List.length_map _
  refine PF.enter (xS _ _) Tryz.func180 rfl (by kernel_rfl) _ _ rfl rfl rfl (fun w0 mu I0 β0 gi dis => ?_)
  (repeat' (first|(apply xW;((exact Want.none_ rfl)))|(apply xF zI;exact rfl;exact rfl)|(((apply y6))<;>(first|exact rfl|refine yH ?_|omega))|apply zQ|apply AWp.Q|apply zG|apply AWp.G|apply AWp.J|apply AWp.R|apply zK|(((refine AWp.C rfl ?_ ?_))<;>intro hp<;>try (exfalso;omega))))
  all_goals
    (((refine zX _ [] (.cons (zP rfl) .nil) ?_ rfl ?_)) <;> (repeat' (first|exact trivial|refine vwI ?_)))
  all_goals first | (rw [hL] at *; simp [szI, *]; done) | skip
theorem szEntry_pf (e : Ent) (l : Int) (hb : EntM e) (h0 : 0 ≤ l) (h1 : l ≤ 1048576) : PF Tryz.prog 148 [.agg (xN e), .c (int l)] [] (.c (int (szE e l))) := by
  have h2 := szIntS_pf e.o l hb.1 h0 h1
  have h3 := szI_ge (o := e.o) h0
  have h4 := hb.2.1
  refine PF.enter (xS _ _) Tryz.func148 rfl (by kernel_rfl) _ _ rfl rfl rfl (fun w0 mu I0 β0 gi dis => ?_)
  (repeat' (first|(apply xW;((exact Want.none_ rfl)))|(apply xF zI;exact rfl;exact rfl)|(((apply y6))<;>(first|exact rfl|refine yH ?_|omega))|apply zQ|apply AWp.Q|apply zG|apply AWp.G|apply AWp.J|apply AWp.R|apply zK|(apply yC;(iterate 6 exact rfl);(iterate 2 (focus (repeat (first|exact VAs.nil|apply VAs.cons|apply VA.c|exact VCs.nil|exact VC.imm (Imm.v _)|exact VC.imm (Imm.sl _)))));((exact h2));(focus (repeat ((exact Flat.v _))));((apply yJ));((exact xD _ _)))|(((refine AWp.C rfl ?_ ?_))<;>intro hp<;>try (exfalso;omega))))
  all_goals
    (((refine zX _ [] (.cons (zP rfl) .nil) ?_ rfl ?_)) <;> (repeat' (first|exact trivial|refine vwI ?_)))
  all_goals first | (simp [szE, *]; done) | skip
theorem szEntryS_pf (es : List Ent) (l : Int) (hb : kW es) (h0 : 0 ≤ l) (h1 : l ≤ 1048576) : PF Tryz.prog 95 [.c (.sl (es.map xN)), .c (int l)] [] (.c (int (vR es l))) := by
  have hbl := hb.1
  refine PF.enter (xS _ _) Tryz.func95 rfl (by kernel_rfl) _ _ rfl rfl rfl (fun w0 mu I0 β0 gi dis => ?_)
  have hL : (es.map xN).length = es.length := List.length_map _
  (repeat' (first|(apply xW;((exact Want.none_ rfl)))|(apply xF zI;exact rfl;exact rfl)|(((apply y6))<;>(first|exact rfl|refine yH ?_|omega))|apply zQ|apply AWp.Q|apply zG|apply AWp.G|apply AWp.B|apply AWp.J|apply AWp.R|apply zK|(((refine AWp.C rfl ?_ ?_))<;>intro hp<;>try (exfalso;omega))))
  · rw [hL] at hp
    (((refine zX _ [] (.cons (zP rfl) .nil) ?_ rfl ?_)) <;> (repeat' (first|exact trivial|refine vwI ?_)))
    simp [vR, hp]
  refine AWp.U (σ := Nat × Int) (fun k => ⟨[(0, .c (.sl (es.map xN))), (1, .c (int k.2)), (5, .c (int k.1))], [], 0⟩) (fun k => k.1 ≤ es.length ∧ 0 ≤ k.2 ∧ k.2 ≤ 1048576 ∧ vR es l = kM (es.drop k.1) k.2) (fun k => es.length - k.1) (0, l - es.length) ⟨Nat.zero_le _, by dsimp only; omega, by dsimp only; omega, by dsimp only; rw [vR, if_neg (by omega)]; rfl⟩ ?_ ?_
  · refine Weak.of [] rfl ?_ ?_ <;> (repeat' (first|exact trivial|exact rfl|apply And.intro|(apply cgI;(omega))))
  · rintro ⟨k, m⟩ ⟨hk, hm0, hm1, hall⟩
    dsimp only at hk hm0 hm1 hall ⊢
    by_cases hlt : k < es.length
    · obtain ⟨c, hc⟩ := xQ hlt
      have hc' : (es.map xN)[k]? = some (xN c) := xM hc
      have hlt' : (k : Int) < ((es.map xN).length : Int) := by omega
      have hcb := hb.2 c (List.mem_of_getElem? hc)
      have hge := szE_ge (e := c) hm0
      rw [drop_cons hc, kM] at hall
      (repeat' (first|(apply xW;((exact Want.none_ rfl)))|(apply xF zI;exact rfl;exact rfl)|((first|apply yE|(apply yB;exact rfl;exact rfl))<;>(first|exact zI|exact rfl|refine yH ?_|assumption|omega))|apply zQ|apply AWp.Q|apply zG|apply AWp.G|apply AWp.B|apply AWp.J|apply AWp.R|apply zK|apply zH|apply zM|(apply AWp.T;exact rfl;((exact dT ‹_›)))|(apply yC;(iterate 6 exact rfl);(iterate 2 (focus (repeat (first|exact VAs.nil|apply VAs.cons|apply VA.c|apply VA.agg|exact VCs.nil|apply VCs.cons|exact VC.imm (Imm.v _)|exact VC.imm (Imm.sl _)))));((exact szEntry_pf c m hcb hm0 hm1));(focus (repeat ((exact Flat.v _))));((apply yJ));((exact xD _ _)))|(((refine AWp.C rfl ?_ ?_))<;>intro hp<;>try (exfalso;omega))))
      · rw [if_pos hp] at hall
        (((refine zX _ [] (.cons (zP rfl) .nil) ?_ rfl ?_)) <;> (repeat' (first|exact trivial|(apply cgI;(omega)))))
      · rw [if_neg hp] at hall
        refine ⟨(k + 1, szE c m), ⟨by dsimp only; omega, by dsimp only; omega, by dsimp only; omega, hall⟩, by dsimp only; omega, ?_⟩
        refine Weak.of [] rfl ?_ ?_ <;> (repeat' (first|exact trivial|exact rfl|apply And.intro))
    · have hlt' : ¬ (k : Int) < ((es.map xN).length : Int) := by omega
      (repeat (first|(apply xW;((exact Want.none_ rfl)))|(apply xF zI;exact rfl;exact rfl)|apply zQ|apply AWp.Q|apply zG|apply AWp.G|apply AWp.X|apply AWp.R|apply zN|apply zL|(apply AWp.F;exact rfl;((exact dF ‹_›)))))
      rw [List.drop_eq_nil_of_le (by omega)] at hall
      (((refine zX _ [] (.cons (zP rfl) .nil) ?_ rfl ?_)) <;> (repeat' (first|exact trivial|refine vwI ?_)))
      exact hall.symm
theorem szDictionary_pf (es : List Ent) (l : Int) (hb : kW es) (h0 : 0 ≤ l) (h1 : l ≤ 1048576) : PF Tryz.prog 32 [.agg (vE es), .c (int l)] [] (.c (int (vR es l))) := by
  have hge := szDi_ge (es := es) h0
  refine PF.enter (xS _ _) Tryz.func32 rfl (by kernel_rfl) _ _ rfl rfl rfl (fun w0 mu I0 β0 gi dis => ?_)
  (repeat' (first|(apply xW;((exact Want.none_ rfl)))|(apply xF zI;exact rfl;exact rfl)|apply zQ|apply AWp.Q|apply zG|apply AWp.G|apply AWp.J|apply AWp.R|apply zK|(apply yC;(iterate 6 exact rfl);(iterate 2 (focus (repeat (first|exact VAs.nil|apply VAs.cons|apply VA.c|exact VCs.nil|exact VC.imm (Imm.v _)|exact VC.imm (Imm.sl _)))));((exact szEntryS_pf es l hb h0 h1));(focus (repeat ((exact Flat.v _))));((apply yJ));((exact xD _ _)))|(((refine AWp.C rfl ?_ ?_))<;>intro hp<;>try (exfalso;omega))))
  all_goals
    (((refine zX _ [] (.cons (zP rfl) .nil) ?_ rfl ?_)) <;> (repeat' (first|exact trivial|exact rfl|(apply cgI;(omega)))))
  all_goals (first | (show _ = _; omega) | skip)
theorem eqEntry_pf (e : Ent) (hb : e.o.length ≤ 1048576) : PF Tryz.prog 151 [.agg (xN e), .agg (xN e)] [] (.c (boo true)) := by
  refine PF.enter (xS _ _) Tryz.func151 rfl (by kernel_rfl) _ _ rfl rfl rfl (fun w0 mu I0 β0 gi dis => ?_)
  (repeat' (first|(apply xW;((exact Want.none_ rfl)))|(apply xF zI;exact rfl;exact rfl)|apply zQ|apply AWp.Q|apply zG|apply AWp.G|apply AWp.J|apply AWp.R|apply zK|(apply AWp.F;exact rfl;((exact rfl)))|(apply yC;(iterate 6 exact rfl);(iterate 2 (focus (repeat (first|exact VAs.nil|apply VAs.cons|apply VA.c|exact VCs.nil|exact VC.imm (Imm.sl _)))));((exact eqIntS_pf e.o (by omega)));(focus (repeat ((exact Flat.v _))));((apply yJ));((exact xD _ _)))|(((refine AWp.C rfl ?_ ?_))<;>intro hp<;>try (exfalso;omega))))
  all_goals first | (exfalso; simp at *; done) | skip
  (((refine zX _ [] (.cons (zP rfl) .nil) ?_ rfl ?_)) <;> (repeat' (first|exact trivial|exact rfl)))
theorem eqEntryS_pf (es : List Ent) (hb : qQ es) : PF Tryz.prog 100 [.c (.sl (es.map xN)), .c (.sl (es.map xN))] [] (.c (boo true)) := by
  have hbl := hb.1
  refine PF.enter (xS _ _) Tryz.func100 rfl (by kernel_rfl) _ _ rfl rfl rfl (fun w0 mu I0 β0 gi dis => ?_)
  have hL : (es.map xN).length = es.length := List.length_map _
  (repeat' (first|(apply xW;((exact Want.none_ rfl)))|(apply xF zI;exact rfl;exact rfl)|apply zQ|apply AWp.Q|apply zG|apply AWp.G|apply AWp.B|apply AWp.J|(((refine AWp.C rfl ?_ ?_))<;>intro hp<;>try (exfalso;omega))))
  refine AWp.U (σ := Nat) (fun k => ⟨[(0, .c (.sl (es.map xN))), (1, .c (.sl (es.map xN))), (5, .c (int k))], [], 0⟩) (fun k => k ≤ es.length) (fun k => es.length - k) 0 (Nat.zero_le _) ?_ ?_
  · refine Weak.of [] rfl ?_ ?_ <;> (repeat' (first|exact trivial|exact rfl|apply And.intro))
  · rintro k hk
    by_cases hlt : k < es.length
    · obtain ⟨c, hc⟩ := xQ hlt
      have hc' : (es.map xN)[k]? = some (xN c) := xM hc
      have hlt' : (k : Int) < ((es.map xN).length : Int) := by omega
      (repeat' (first|(apply xW;((exact Want.none_ rfl)))|(apply xF zI;exact rfl;exact rfl)|((first|apply yE|(apply yB;exact rfl;exact rfl))<;>(first|exact zI|exact rfl|refine yH ?_|assumption|omega))|apply zQ|(refine y3 ?_ ?_;kernel_rfl)|apply AWp.Q|apply zG|apply AWp.G|apply AWp.B|apply AWp.J|apply zH|(refine AWp.D ?_ ?_;kernel_rfl)|(apply AWp.T;exact rfl;((exact dT ‹_›)))|(apply AWp.F;exact rfl;((exact rfl)))|(apply yC;(iterate 6 exact rfl);(iterate 2 (focus (repeat (first|exact VAs.nil|apply VAs.cons|apply VA.agg|exact VCs.nil|apply VCs.cons|exact VC.imm (Imm.v _)|exact VC.imm (Imm.sl _)))));((exact eqEntry_pf c (hb.2 c (List.mem_of_getElem? hc)).1));(focus (repeat ((exact Flat.v _))));((apply yJ));((exact xD _ _)))))
      all_goals first | (exfalso; simp at *; done) | skip
      refine ⟨k + 1, by omega, by omega, ?_⟩
      refine Weak.of [] rfl ?_ ?_ <;> (repeat' (first|exact trivial|exact rfl|apply And.intro))
    · have hlt' : ¬ (k : Int) < ((es.map xN).length : Int) := by omega
      (repeat (first|(apply xW;((exact Want.none_ rfl)))|(apply xF zI;exact rfl;exact rfl)|apply zQ|apply AWp.Q|apply zG|apply AWp.G|apply AWp.X|apply AWp.R|apply zN|apply zL|(apply AWp.F;exact rfl;((exact dF ‹_›)))))
      (((refine zX _ [] (.cons (zP rfl) .nil) ?_ rfl ?_)) <;> (repeat' (first|exact trivial|exact rfl)))
theorem eqDictionary_pf (es : List Ent) (hb : qQ es) : PF Tryz.prog 37 [.agg (vE es), .agg (vE es)] [] (.c (boo true)) := by
  refine PF.enter (xS _ _) Tryz.func37 rfl (by kernel_rfl) _ _ rfl rfl rfl (fun w0 mu I0 β0 gi dis => ?_)
  (repeat' (first|(apply xW;((exact Want.none_ rfl)))|(apply xF zI;exact rfl;exact rfl)|apply zQ|apply AWp.Q|apply zG|apply AWp.G|apply AWp.J|apply AWp.R|(apply AWp.F;exact rfl;((exact rfl)))|(apply yC;(iterate 6 exact rfl);(iterate 2 (focus (repeat (first|exact VAs.nil|apply VAs.cons|apply VA.c|exact VCs.nil|exact VC.imm (Imm.sl _)))));((exact eqEntryS_pf es hb));(focus (repeat ((exact Flat.v _))));((apply yJ));((exact xD _ _)))))
  all_goals first | (exfalso; simp at *; done) | skip
  (((refine zX _ [] (.cons (zP rfl) .nil) ?_ rfl ?_)) <;> (repeat' (first|exact trivial|exact rfl)))
theorem reads_Ent (w : World) : Reads Tryz.prog w 165 (fun cells => ∃ e : Ent, cells = xN e ∧ EntM e) := by
  refine (reads_struct2 Tryz.underlying165 rfl (by kernel_rfl) (by kernel_rfl) (reads_Ints w) (reads_str Tryz.underlying9)).mono ?_
  rintro cells ⟨a, b, rfl, ⟨l, rfl, hl⟩, ⟨t, rfl, ht⟩⟩
  exact ⟨⟨l, t⟩, rfl, hl.1, ht, hl.2⟩
theorem reads_Dict (w : World) : Reads Tryz.prog w 60 (fun cells => ∃ es, cells = vE es ∧ kW es) := by
  refine (reads_struct1 Tryz.underlying60 rfl (by kernel_rfl) (reads_slice Tryz.underlying58 (of_decide_eq_true (by kernel_rfl)) (reads_Ent w))).mono ?_
  rintro cells ⟨xs, rfl, hl, hx⟩
  obtain ⟨es, rfl, hes⟩ := lift_list hx
  exact ⟨es, rfl, by simpa using hl, hes⟩
end Go.Proofs.YtchpdclknbmdoaaGreatDoor
