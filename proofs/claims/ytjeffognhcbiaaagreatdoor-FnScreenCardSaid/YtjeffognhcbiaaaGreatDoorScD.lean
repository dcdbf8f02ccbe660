/- States, by the model: l12Good, l12New, l12Case. No conditions but bounds of lengths. -/
import Derived.Test.YtjeffognhcbiaaaGreatDoorScC
import Derived.Test.YtjeffognhcbiaaaGreatDoorAbs3
namespace Go.Proofs.YtjeffognhcbiaaaGreatDoor
open Go Go.RowKit
theorem l12Plain_pf (s : List UInt8) (hs : s.length ≤ 4000000) : PF Tryz.prog 114 [.c (str s)] [] (.c (boo (s.all prB))) := by
  refine PF.enter (xJ _) Tryz.func114 rfl (by kernel_rfl) _ _ rfl rfl rfl (fun w0 mu I0 β0 gi dis => ?_)
  (repeat' (first|(apply xW;((exact Want.none_ rfl)))|(apply xF zI;exact rfl;exact rfl)|apply zR|apply AWp.Q|apply zH|apply AWp.G|apply AWp.B))
  refine AWp.U (σ := Nat) (fun k => ⟨[(0, .c (str s)), (3, .c (int k))], [], 0⟩) (fun k => k ≤ s.length ∧ (s.take k).all prB = true) (fun k => s.length - k) 0 ⟨Nat.zero_le _, rfl⟩ ?_ ?_
  · refine Weak.of [] rfl ?_ ?_ <;> (repeat' (first|exact trivial|exact rfl|apply And.intro))
  · rintro k ⟨hk, hall⟩
    by_cases hlt : k < s.length
    · obtain ⟨b, hb⟩ := xT hlt
      have hlt' : (k : Int) < (s.length : Int) := by omega
      have hwb : IntKind.i64.wrap ((b.toNat : Nat) : Int) = b.toNat := IntWalk.i64_in _ (by have := b.toNat_lt; omega)
      have hin : PF Tryz.prog 88 [.c (int (b.toNat : Nat)), .c (int 32), .c (int 126)] [] (.c (boo (prB b))) := vP (b.toNat : Nat) 32 126
      rw [← hwb] at hin
      cases ho : prB b with
      | true =>
        rw [ho] at hin
        have hall' : (s.take (k + 1)).all prB = true := by rw [x5 hb, hall, ho]; rfl
        (repeat' (first|(apply xW;((exact Want.none_ rfl)))|(apply xF zI;exact rfl;exact rfl)|((first|apply zZ|apply xD)<;>(first|exact zI|exact rfl|refine yG ?_|assumption|omega))|apply zR|apply AWp.Q|apply zH|apply AWp.G|apply AWp.B|apply AWp.J|apply zJ|(apply AWp.T;exact rfl;((exact dT ‹_›)))|(apply AWp.F;exact rfl;((exact rfl)))|(apply yA;(iterate 6 exact rfl);(iterate 2 (focus (repeat (first|exact VAs.nil|apply VAs.cons|apply VA.c|exact VCs.nil|exact VC.imm (Imm.v _)))));((exact hin));(focus (repeat ((exact Flat.v _))));((apply yJ));((exact xB _ _)))))
        refine ⟨k + 1, ⟨by omega, hall'⟩, by omega, ?_⟩
        refine Weak.of [] rfl ?_ ?_ <;> (repeat' (first|exact trivial|exact rfl|apply And.intro))
      | false =>
        rw [ho] at hin
        rw [vK hb ho]
        (repeat' (first|(apply xW;((exact Want.none_ rfl)))|(apply xF zI;exact rfl;exact rfl)|(((apply xD))<;>(first|exact zI|exact rfl|refine yG ?_|assumption))|apply zR|apply AWp.Q|apply zH|apply AWp.G|apply AWp.B|apply AWp.J|apply AWp.R|apply zK|apply zL|(apply AWp.T;exact rfl;(first|exact dT ‹_›|exact rfl))|(apply yA;(iterate 6 exact rfl);(iterate 2 (focus (repeat (first|exact VAs.nil|apply VAs.cons|apply VA.c|exact VCs.nil|exact VC.imm (Imm.v _)))));((exact hin));(focus (repeat ((exact Flat.v _))));((apply yJ));((exact xB _ _)))))
        (((refine zV _ [] (.cons (zN rfl) .nil) ?_ rfl ?_)) <;> (repeat' (first|exact trivial|exact rfl)))
    · have hlt' : ¬ (k : Int) < (s.length : Int) := by omega
      obtain rfl : k = s.length := by omega
      rw [List.take_of_length_le (Nat.le_refl _)] at hall
      rw [hall]
      (repeat' (first|(apply xW;((exact Want.none_ rfl)))|(apply xF zI;exact rfl;exact rfl)|apply zR|apply AWp.Q|apply zH|apply AWp.G|apply AWp.X|apply AWp.R|apply zQ|apply zO|(apply AWp.F;exact rfl;((exact dF ‹_›)))))
      (((refine zV _ [] (.cons (zN rfl) .nil) ?_ rfl ?_)) <;> (repeat' (first|exact trivial|exact rfl)))
theorem l12Good_pf (s : StD) (hs : s.t.length ≤ 1000000) : PF Tryz.prog 78 [.agg (v8 s)] [] (.c (boo (stOk s))) := by
  have h1 := l12Plain_pf s.t (by omega)
  have h2 := vP (s.c : Nat) 0 2
  have h3 := vP (s.w : Nat) 0 (s.t.length : Nat)
  by_cases hl : s.t.length ≤ 2000
  · have hl' : (s.t.length : Int) ≤ 2000 := by omega
    rw [stOk, decide_eq_true hl, Bool.true_and]
    refine PF.enter (xJ _) Tryz.func78 rfl (by kernel_rfl) _ _ rfl rfl rfl (fun w0 mu I0 β0 gi dis => ?_)
    (repeat' (first|(apply xW;(first|exact Want.none_ rfl|(refine zX rfl rfl rfl rfl ?_;(first|assumption|exact dT ‹_›))))|(apply xF zI;exact rfl;exact rfl)|(apply yR;exact rfl;exact rfl;(first|assumption|exact dT ‹_›|exact dF ‹_›|exact rfl);exact rfl;exact rfl)|(apply yS;(iterate 5 exact rfl);(first|assumption|exact dF ‹_›|exact rfl))|apply zR|apply AWp.Q|apply zH|apply AWp.G|apply AWp.R|(apply yA;(iterate 6 exact rfl);(iterate 2 (focus (repeat (first|exact VAs.nil|apply VAs.cons|apply VA.c|exact VCs.nil|exact VC.imm (Imm.v _)))));(first|exact h1|exact h2|exact h3);(focus (repeat ((exact Flat.v _))));((apply yJ));((exact xB _ _)))|((first|refine zT rfl rfl rfl ?_ ?_|refine zY rfl rfl rfl ?_ ?_)<;>intro hp<;>try (exfalso;omega))))
    all_goals
      (((refine zV _ [] (.cons (zN rfl) .nil) ?_ rfl ?_)) <;> (repeat' (first|exact trivial|refine vwB ?_)))
    all_goals clear h1 h2 h3
    all_goals first | (simp only [*, Bool.false_and]; done) | (simp_all [inZ]; done) | (rw [show inZ (s.c : Nat) 0 2 = false from decide_eq_false (by assumption)]; simp) | skip
  · have hl' : ¬ (s.t.length : Int) ≤ 2000 := by omega
    rw [stOk_long hl]
    refine PF.enter (xJ _) Tryz.func78 rfl (by kernel_rfl) _ _ rfl rfl rfl (fun w0 mu I0 β0 gi dis => ?_)
    (repeat' (first|(apply xW;((exact Want.none_ rfl)))|(apply xF zI;exact rfl;exact rfl)|(apply yR;exact rfl;exact rfl;(first|exact dF ‹_›|exact rfl);exact rfl;exact rfl)|(apply yS;(iterate 5 exact rfl);(first|exact dF ‹_›|exact rfl))|apply zR|apply AWp.Q|apply zH|apply AWp.G|apply AWp.R))
    all_goals
      (((refine zV _ [] (.cons (zN rfl) .nil) ?_ rfl ?_)) <;> (repeat' (first|exact trivial|exact rfl)))
theorem l12New_pf : PF Tryz.prog 74 [.c (str [])] [] (.agg (v8 stZ)) := by
  refine PF.enter (xJ _) Tryz.func74 rfl (by kernel_rfl) _ _ rfl rfl rfl (fun w0 mu I0 β0 gi dis => ?_)
  (repeat' (first|(apply xW;((exact Want.none_ rfl)))|(apply xF zI;exact rfl;exact rfl)|((first|apply y4|apply yB|apply yH)<;>(first|exact zI|exact rfl|refine yG ?_|exact lb rfl|((try refine Bd.mk ?_);(focus (simp;done)))))|apply zR|apply AWp.Q|apply zH|apply AWp.G|apply AWp.R))
  (((refine zV _ [] (.cons (y5 rfl rfl rfl zI rfl rfl rfl) .nil) ?_ rfl ?_)) <;> (repeat' (first|exact trivial|exact rfl|apply And.intro)))
theorem add32 {b : UInt8} (h : kP b = true) : IntKind.u8.wrap (((b.toNat : Nat) : Int) + 32) = (((b + 32 : UInt8).toNat : Nat) : Int) := by
  rw [kP, Bool.and_eq_true, decide_eq_true_eq, decide_eq_true_eq] at h
  rw [IntWalk.u8_in _ (by omega), UInt8.toNat_add, show (32 : UInt8).toNat = 32 from rfl, Nat.mod_eq_of_lt (by omega)]
  omega
theorem sub32 {b : UInt8} (h : vU b = true) : ((b.toNat : Nat) : Int) - 32 = (((b - 32 : UInt8).toNat : Nat) : Int) := by
  rw [vU, Bool.and_eq_true, decide_eq_true_eq, decide_eq_true_eq] at h
  rw [UInt8.toNat_sub_of_le _ _ (by rw [UInt8.le_iff_toNat_le]; show 32 ≤ b.toNat; omega), show (32 : UInt8).toNat = 32 from rfl]
  omega
theorem l12Case_pf (x : List UInt8) (c : Nat) (hx : x.length ≤ 1000000) : PF Tryz.prog 113 [.c (str x), .c (int (c : Nat))] [] (.c (str (casL c x))) := by
  cases x with
  | nil =>
    have e : casL c [] = [] := by
      have := casL_len c []
      exact List.length_eq_zero_iff.1 this
    rw [e]
    refine PF.enter (xG _ _) Tryz.func113 rfl (by kernel_rfl) _ _ rfl rfl rfl (fun w0 mu I0 β0 gi dis => ?_)
    (repeat' (first|(apply xW;((exact Want.none_ rfl)))|(apply xF zI;exact rfl;exact rfl)|apply zR|apply AWp.Q|apply zH|apply AWp.G|apply AWp.R|apply zK|(apply AWp.T;exact rfl;((exact rfl)))))
    (((refine zV _ [] (.cons (zN rfl) .nil) ?_ rfl ?_)) <;> (repeat' (first|exact trivial|exact rfl)))
  | cons b r =>
    have hne : ¬ (b :: r) = [] := by simp
    have hb : (b :: r)[0]? = some b := rfl
    have hl1 : 1 ≤ (b :: r).length := by simp
    have hr : r.length ≤ 1000000 := by simp at hx; omega
    by_cases hc : c = 1
    · subst hc
      have c1' : (((1 : Nat) : Int)) = 1 := rfl
      have c2' : ¬ (((1 : Nat) : Int)) = 2 := by omega
      cases hl : vU b with
      | true =>
        have hl' := hl
        rw [vU, Bool.and_eq_true, decide_eq_true_eq, decide_eq_true_eq] at hl'
        obtain ⟨g1, g2⟩ := hl'
        have hs := sub32 hl
        refine PF.enter (xG _ _) Tryz.func113 rfl (by kernel_rfl) _ _ rfl rfl rfl (fun w0 mu I0 β0 gi dis => ?_)
        (repeat' (first|(apply xW;(first|exact Want.none_ rfl|(refine zX rfl rfl rfl rfl ?_;((exact dT ‹_›)))))|(apply xF zI;exact rfl;exact rfl)|((first|(apply yO;exact rfl;exact rfl;exact rfl)|apply xD|apply zU)<;>(first|exact zI|exact rfl|refine yG ?_|omega))|(apply yR;exact rfl;exact rfl;(first|exact dT ‹_›|exact dF ‹_›);exact rfl;exact rfl)|(apply yS;(iterate 5 exact rfl);((exact dF ‹_›)))|apply zR|apply AWp.Q|apply zH|apply AWp.G|apply AWp.J|(refine AWp.D ?_ ?_;kernel_rfl)|(apply AWp.T;exact rfl;((exact dT ‹_›)))|(apply AWp.F;exact rfl;((exact dF ‹_›)))))
        apply (vO [b - 32])
        exact rfl
        exact rfl
        exact zI
        exact rfl
        exact rfl
        exact rfl
        exact rfl
        exact rfl
        exact rfl
        exact rfl
        · show [[Cell.v (Value.int .u8 (((b.toNat : Nat) : Int) - 32))]] = [[Cell.v (Value.int .u8 (((b - 32 : UInt8).toNat : Nat) : Int))]]
          rw [hs]
        · simp
        (repeat' (first|(apply xW;((exact Want.none_ rfl)))|(apply xF zI;exact rfl;exact rfl)|((first|(apply z6;exact rfl;exact rfl)|(apply yM;exact rfl;exact rfl))<;>(first|exact zI|exact rfl|refine yG ?_|assumption|omega|exact ⟨rfl⟩|exact ⟨rfl,_,_,rfl,rfl⟩|(refine Bd.mk ?_;(simp;omega))))|(refine yT ?_ ?_;kernel_rfl)|apply zH|apply AWp.R))
        (((refine zV _ [] (.cons (zN rfl) .nil) ?_ rfl ?_)) <;> (repeat' (first|exact trivial|refine vwS ?_)))
        all_goals first | (simp [casL, upL, hl]; done) | skip
      | false =>
        have hl' := hl
        rw [vU, Bool.and_eq_false_iff, decide_eq_false_iff_not, decide_eq_false_iff_not] at hl'
        by_cases g1 : (97 : Int) ≤ ((b.toNat : Nat) : Int)
        · have g2 : ¬ ((b.toNat : Nat) : Int) ≤ 122 := hl'.resolve_left (fun h => h g1)
          refine PF.enter (xG _ _) Tryz.func113 rfl (by kernel_rfl) _ _ rfl rfl rfl (fun w0 mu I0 β0 gi dis => ?_)
          (repeat' (first|(apply xW;(first|exact Want.none_ rfl|(refine zX rfl rfl rfl rfl ?_;((exact dT ‹_›)))))|(apply xF zI;exact rfl;exact rfl)|((first|apply xD|apply zU)<;>(first|exact zI|exact rfl|refine yG ?_))|(apply yR;exact rfl;exact rfl;(first|exact dT ‹_›|exact dF ‹_›|exact rfl);exact rfl;exact rfl)|(apply yS;(iterate 5 exact rfl);(first|exact dF ‹_›|exact rfl))|apply zR|apply AWp.Q|apply zH|apply AWp.G|apply AWp.J|(refine AWp.D ?_ ?_;kernel_rfl)|(apply AWp.F;exact rfl;(first|exact dF ‹_›|exact rfl))))
          apply (vO [b])
          exact rfl
          exact rfl
          exact zI
          exact rfl
          exact rfl
          exact rfl
          exact rfl
          exact rfl
          exact rfl
          exact rfl
          · show [[Cell.v (Value.int .u8 (((b.toNat : Nat) : Int)))]] = [[Cell.v (Value.int .u8 (((b : UInt8).toNat : Nat) : Int))]]
            rfl
          · simp
          (repeat' (first|(apply xW;((exact Want.none_ rfl)))|(apply xF zI;exact rfl;exact rfl)|((first|(apply z6;exact rfl;exact rfl)|(apply yM;exact rfl;exact rfl))<;>(first|exact zI|exact rfl|refine yG ?_|assumption|omega|exact ⟨rfl⟩|exact ⟨rfl,_,_,rfl,rfl⟩|(refine Bd.mk ?_;(simp;omega))))|(refine yT ?_ ?_;kernel_rfl)|apply zH|apply AWp.R))
          (((refine zV _ [] (.cons (zN rfl) .nil) ?_ rfl ?_)) <;> (repeat' (first|exact trivial|refine vwS ?_)))
          all_goals first | (simp [casL, upL, hl]; done) | skip
        · skip
          refine PF.enter (xG _ _) Tryz.func113 rfl (by kernel_rfl) _ _ rfl rfl rfl (fun w0 mu I0 β0 gi dis => ?_)
          (repeat' (first|(apply xW;(first|exact Want.none_ rfl|(refine zX rfl rfl rfl rfl ?_;((exact dT ‹_›)))))|(apply xF zI;exact rfl;exact rfl)|((first|apply xD|apply zU)<;>(first|exact zI|exact rfl|refine yG ?_))|(apply yR;exact rfl;exact rfl;(first|exact dT ‹_›|exact dF ‹_›|exact rfl);exact rfl;exact rfl)|(apply yS;(iterate 5 exact rfl);(first|exact dF ‹_›|exact rfl))|apply zR|apply AWp.Q|apply zH|apply AWp.G|apply AWp.J|(refine AWp.D ?_ ?_;kernel_rfl)|(apply AWp.F;exact rfl;(first|exact dF ‹_›|exact rfl))))
          apply (vO [b])
          exact rfl
          exact rfl
          exact zI
          exact rfl
          exact rfl
          exact rfl
          exact rfl
          exact rfl
          exact rfl
          exact rfl
          · show [[Cell.v (Value.int .u8 (((b.toNat : Nat) : Int)))]] = [[Cell.v (Value.int .u8 (((b : UInt8).toNat : Nat) : Int))]]
            rfl
          · simp
          (repeat' (first|(apply xW;((exact Want.none_ rfl)))|(apply xF zI;exact rfl;exact rfl)|((first|(apply z6;exact rfl;exact rfl)|(apply yM;exact rfl;exact rfl))<;>(first|exact zI|exact rfl|refine yG ?_|assumption|omega|exact ⟨rfl⟩|exact ⟨rfl,_,_,rfl,rfl⟩|(refine Bd.mk ?_;(simp;omega))))|(refine yT ?_ ?_;kernel_rfl)|apply zH|apply AWp.R))
          (((refine zV _ [] (.cons (zN rfl) .nil) ?_ rfl ?_)) <;> (repeat' (first|exact trivial|refine vwS ?_)))
          all_goals first | (simp [casL, upL, hl]; done) | skip
    by_cases hc2 : c = 2
    · subst hc2
      have c1' : ¬ (((2 : Nat) : Int)) = 1 := by omega
      have c2' : (((2 : Nat) : Int)) = 2 := rfl
      cases hl : kP b with
      | true =>
        have hl' := hl
        rw [kP, Bool.and_eq_true, decide_eq_true_eq, decide_eq_true_eq] at hl'
        obtain ⟨g1, g2⟩ := hl'
        have hs := add32 hl
        refine PF.enter (xG _ _) Tryz.func113 rfl (by kernel_rfl) _ _ rfl rfl rfl (fun w0 mu I0 β0 gi dis => ?_)
        (repeat' (first|(apply xW;(first|exact Want.none_ rfl|(refine zX rfl rfl rfl rfl ?_;((exact dT ‹_›)))))|(apply xF zI;exact rfl;exact rfl)|((first|apply zZ|apply xD)<;>(first|exact zI|exact rfl|refine yG ?_))|(apply yR;exact rfl;exact rfl;(first|exact dT ‹_›|exact dF ‹_›);exact rfl;exact rfl)|(apply yS;(iterate 5 exact rfl);((exact dF ‹_›)))|apply zR|apply AWp.Q|apply zH|apply AWp.G|apply AWp.J|(apply AWp.T;exact rfl;((exact dT ‹_›)))|(apply AWp.F;exact rfl;((exact dF ‹_›)))))
        apply qN
        exact rfl
        exact rfl
        exact rfl
        (repeat' (first|(apply xW;((exact Want.none_ rfl)))|(apply xF zI;exact rfl;exact rfl)|(((apply zU))<;>(first|exact zI|exact rfl|refine yG ?_))|apply zR|apply AWp.Q|apply zH|(refine AWp.D ?_ ?_;kernel_rfl)))
        apply (vO [b + 32])
        exact rfl
        exact rfl
        exact zI
        exact rfl
        exact rfl
        exact rfl
        exact rfl
        exact rfl
        exact rfl
        exact rfl
        · show [[Cell.v (Value.int .u8 (IntKind.u8.wrap (((b.toNat : Nat) : Int) + 32)))]] = [[Cell.v (Value.int .u8 (((b + 32 : UInt8).toNat : Nat) : Int))]]
          rw [hs]
        · simp
        (repeat' (first|(apply xW;((exact Want.none_ rfl)))|(apply xF zI;exact rfl;exact rfl)|((first|(apply z6;exact rfl;exact rfl)|(apply yM;exact rfl;exact rfl))<;>(first|exact zI|exact rfl|refine yG ?_|assumption|omega|exact ⟨rfl⟩|exact ⟨rfl,_,_,rfl,rfl⟩|(refine Bd.mk ?_;(simp;omega))))|(refine yT ?_ ?_;kernel_rfl)|apply zH|apply AWp.R))
        (((refine zV _ [] (.cons (zN rfl) .nil) ?_ rfl ?_)) <;> (repeat' (first|exact trivial|refine vwS ?_)))
        all_goals first | (simp [casL, loL, hl]; done) | skip
      | false =>
        have hl' := hl
        rw [kP, Bool.and_eq_false_iff, decide_eq_false_iff_not, decide_eq_false_iff_not] at hl'
        by_cases g1 : (65 : Int) ≤ ((b.toNat : Nat) : Int)
        · have g2 : ¬ ((b.toNat : Nat) : Int) ≤ 90 := hl'.resolve_left (fun h => h g1)
          refine PF.enter (xG _ _) Tryz.func113 rfl (by kernel_rfl) _ _ rfl rfl rfl (fun w0 mu I0 β0 gi dis => ?_)
          (repeat' (first|(apply xW;(first|exact Want.none_ rfl|(refine zX rfl rfl rfl rfl ?_;((exact dT ‹_›)))))|(apply xF zI;exact rfl;exact rfl)|((first|apply xD|apply zU)<;>(first|exact zI|exact rfl|refine yG ?_))|(apply yR;exact rfl;exact rfl;(first|exact dT ‹_›|exact dF ‹_›|exact rfl);exact rfl;exact rfl)|(apply yS;(iterate 5 exact rfl);(first|exact dF ‹_›|exact rfl))|apply zR|apply AWp.Q|apply zH|apply AWp.G|apply AWp.J|(refine AWp.D ?_ ?_;kernel_rfl)|(apply AWp.F;exact rfl;(first|exact dF ‹_›|exact rfl))))
          apply (vO [b])
          exact rfl
          exact rfl
          exact zI
          exact rfl
          exact rfl
          exact rfl
          exact rfl
          exact rfl
          exact rfl
          exact rfl
          · show [[Cell.v (Value.int .u8 (((b.toNat : Nat) : Int)))]] = [[Cell.v (Value.int .u8 (((b : UInt8).toNat : Nat) : Int))]]
            rfl
          · simp
          (repeat' (first|(apply xW;((exact Want.none_ rfl)))|(apply xF zI;exact rfl;exact rfl)|((first|(apply z6;exact rfl;exact rfl)|(apply yM;exact rfl;exact rfl))<;>(first|exact zI|exact rfl|refine yG ?_|assumption|omega|exact ⟨rfl⟩|exact ⟨rfl,_,_,rfl,rfl⟩|(refine Bd.mk ?_;(simp;omega))))|(refine yT ?_ ?_;kernel_rfl)|apply zH|apply AWp.R))
          (((refine zV _ [] (.cons (zN rfl) .nil) ?_ rfl ?_)) <;> (repeat' (first|exact trivial|refine vwS ?_)))
          all_goals first | (simp [casL, loL, hl]; done) | skip
        · skip
          refine PF.enter (xG _ _) Tryz.func113 rfl (by kernel_rfl) _ _ rfl rfl rfl (fun w0 mu I0 β0 gi dis => ?_)
          (repeat' (first|(apply xW;(first|exact Want.none_ rfl|(refine zX rfl rfl rfl rfl ?_;((exact dT ‹_›)))))|(apply xF zI;exact rfl;exact rfl)|((first|apply xD|apply zU)<;>(first|exact zI|exact rfl|refine yG ?_))|(apply yR;exact rfl;exact rfl;(first|exact dT ‹_›|exact dF ‹_›|exact rfl);exact rfl;exact rfl)|(apply yS;(iterate 5 exact rfl);(first|exact dF ‹_›|exact rfl))|apply zR|apply AWp.Q|apply zH|apply AWp.G|apply AWp.J|(refine AWp.D ?_ ?_;kernel_rfl)|(apply AWp.F;exact rfl;(first|exact dF ‹_›|exact rfl))))
          apply (vO [b])
          exact rfl
          exact rfl
          exact zI
          exact rfl
          exact rfl
          exact rfl
          exact rfl
          exact rfl
          exact rfl
          exact rfl
          · show [[Cell.v (Value.int .u8 (((b.toNat : Nat) : Int)))]] = [[Cell.v (Value.int .u8 (((b : UInt8).toNat : Nat) : Int))]]
            rfl
          · simp
          (repeat' (first|(apply xW;((exact Want.none_ rfl)))|(apply xF zI;exact rfl;exact rfl)|((first|(apply z6;exact rfl;exact rfl)|(apply yM;exact rfl;exact rfl))<;>(first|exact zI|exact rfl|refine yG ?_|assumption|omega|exact ⟨rfl⟩|exact ⟨rfl,_,_,rfl,rfl⟩|(refine Bd.mk ?_;(simp;omega))))|(refine yT ?_ ?_;kernel_rfl)|apply zH|apply AWp.R))
          (((refine zV _ [] (.cons (zN rfl) .nil) ?_ rfl ?_)) <;> (repeat' (first|exact trivial|refine vwS ?_)))
          all_goals first | (simp [casL, loL, hl]; done) | skip
    · have c1' : ¬ ((c : Nat) : Int) = 1 := by omega
      have c2' : ¬ ((c : Nat) : Int) = 2 := by omega
      refine PF.enter (xG _ _) Tryz.func113 rfl (by kernel_rfl) _ _ rfl rfl rfl (fun w0 mu I0 β0 gi dis => ?_)
      (repeat' (first|(apply xW;((exact Want.none_ rfl)))|(apply xF zI;exact rfl;exact rfl)|((first|apply xD|apply zU)<;>(first|exact zI|exact rfl|refine yG ?_))|(apply yR;exact rfl;exact rfl;(first|exact dF ‹_›|exact rfl);exact rfl;exact rfl)|(apply yS;(iterate 5 exact rfl);(first|exact dF ‹_›|exact rfl))|apply zR|apply AWp.Q|apply zH|apply AWp.G|apply AWp.J|(refine AWp.D ?_ ?_;kernel_rfl)|(apply AWp.F;exact rfl;(first|exact dF ‹_›|exact rfl))))
      apply (vO [b])
      exact rfl
      exact rfl
      exact zI
      exact rfl
      exact rfl
      exact rfl
      exact rfl
      exact rfl
      exact rfl
      exact rfl
      · show [[Cell.v (Value.int .u8 (((b.toNat : Nat) : Int)))]] = [[Cell.v (Value.int .u8 (((b : UInt8).toNat : Nat) : Int))]]
        rfl
      · simp
      (repeat' (first|(apply xW;((exact Want.none_ rfl)))|(apply xF zI;exact rfl;exact rfl)|((first|(apply z6;exact rfl;exact rfl)|(apply yM;exact rfl;exact rfl))<;>(first|exact zI|exact rfl|refine yG ?_|assumption|omega|exact ⟨rfl⟩|exact ⟨rfl,_,_,rfl,rfl⟩|(refine Bd.mk ?_;(simp;omega))))|(refine yT ?_ ?_;kernel_rfl)|apply zH|apply AWp.R))
      (((refine zV _ [] (.cons (zN rfl) .nil) ?_ rfl ?_)) <;> (repeat' (first|exact trivial|refine vwS ?_)))
      all_goals first | (simp [casL, hc, hc2]; done) | skip
end Go.Proofs.YtjeffognhcbiaaaGreatDoor
