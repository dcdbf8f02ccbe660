/- Spelling, by the program: IsWord, vowelGroups, endsWith. No conditions but bounds of lengths. -/
import Derived.Test.YtjeffognhcbiaaaGreatDoorScC
import Derived.Test.YtjeffognhcbiaaaGreatDoorSRep
namespace Go.Proofs.YtjeffognhcbiaaaGreatDoor
open Go Go.RowKit
def csV : List UInt8 := [97, 101, 105, 111, 117]
theorem vow_fin : ∀ n : Fin 256, vowB (UInt8.ofNat n.val) = decide (0 ≤ wA csV (UInt8.ofNat n.val)) := by decide +kernel
theorem vow_idx (b : UInt8) : vowB b = decide (0 ≤ wA csV b) := by
  have h := vow_fin ⟨b.toNat, b.toNat_lt⟩
  simpa using h
theorem vD (b : UInt8) : PF Tryz.prog 202 [.c (.v (.int .u8 b.toNat))] [] (.c (boo (vowB b))) := by
  have hix := sIndexB_pf csV b
  rw [vow_idx]
  refine PF.enter (xJ _) Tryz.func202 rfl (by kernel_rfl) _ _ rfl rfl rfl (fun w0 mu I0 β0 gi dis => ?_)
  (repeat' (first|(apply xW;((exact Want.none_ rfl)))|(apply xF zI;exact rfl;exact rfl)|apply zR|apply AWp.Q|apply zH|apply AWp.G|apply AWp.R|(apply yA;(iterate 6 exact rfl);(iterate 2 (focus (repeat (first|exact VAs.nil|apply VAs.cons|apply VA.c|exact VCs.nil|exact VC.imm (Imm.v _)))));((exact hix));(focus (repeat ((exact Flat.v _))));((apply yJ));((exact xB _ _)))))
  (((refine zV _ [] (.cons (zN rfl) .nil) ?_ rfl ?_)) <;> (repeat' (first|exact trivial|exact rfl)))
theorem areLetters_pf (s : List UInt8) (hs : s.length ≤ 4000000) : PF Tryz.prog 201 [.c (str s)] [] (.c (boo (s.all vU))) := by
  refine PF.enter (xJ _) Tryz.func201 rfl (by kernel_rfl) _ _ rfl rfl rfl (fun w0 mu I0 β0 gi dis => ?_)
  (repeat' (first|(apply xW;((exact Want.none_ rfl)))|(apply xF zI;exact rfl;exact rfl)|apply zR|apply AWp.Q|apply zH|apply AWp.G|apply AWp.B))
  refine AWp.U (σ := Nat) (fun k => ⟨[(0, .c (str s)), (5, .c (int s.length)), (6, .c (int k))], [], 0⟩) (fun k => k ≤ s.length ∧ (s.take k).all vU = true) (fun k => s.length - k) 0 ⟨Nat.zero_le _, rfl⟩ ?_ ?_
  · refine Weak.of [] rfl ?_ ?_ <;> (repeat' (first|exact trivial|exact rfl|apply And.intro))
  · rintro k ⟨hk, hall⟩
    by_cases hlt : k < s.length
    · obtain ⟨b, hb⟩ := xT hlt
      have hlt' : (k : Int) < (s.length : Int) := by omega
      by_cases g1 : ((b.toNat : Nat) : Int) < 97
      · rw [vK hb (ltr_lo g1)]
        (repeat' (first|(apply xW;((exact Want.none_ rfl)))|(apply xF zI;exact rfl;exact rfl)|(((apply xD))<;>(first|exact zI|exact rfl|refine yG ?_|assumption))|(apply yR;exact rfl;exact rfl;((exact dT ‹_›));exact rfl;exact rfl)|(apply yS;(iterate 5 exact rfl);((exact dT ‹_›)))|apply zR|apply AWp.Q|apply zH|apply AWp.G|apply AWp.B|apply AWp.J|apply AWp.R|apply zK|apply zL|(apply AWp.T;exact rfl;(first|exact dT ‹_›|exact rfl))))
        (((refine zV _ [] (.cons (zN rfl) .nil) ?_ rfl ?_)) <;> (repeat' (first|exact trivial|exact rfl)))
      · by_cases g2 : (122 : Int) < ((b.toNat : Nat) : Int)
        · rw [vK hb (ltr_hi g2)]
          (repeat' (first|(apply xW;(first|exact Want.none_ rfl|(refine zX rfl rfl rfl rfl ?_;((exact dF ‹_›)))))|(apply xF zI;exact rfl;exact rfl)|(((apply xD))<;>(first|exact zI|exact rfl|refine yG ?_|assumption))|(apply yR;exact rfl;exact rfl;((exact dF ‹_›));exact rfl;exact rfl)|apply zR|apply AWp.Q|apply zH|apply AWp.G|apply AWp.B|apply AWp.J|apply AWp.R|apply zK|apply zL|(apply AWp.T;exact rfl;((exact dT ‹_›)))))
          (((refine zV _ [] (.cons (zN rfl) .nil) ?_ rfl ?_)) <;> (repeat' (first|exact trivial|exact rfl)))
        · have hall' : (s.take (k + 1)).all vU = true := by rw [x5 hb, hall, ltr_in g1 g2]; rfl
          (repeat' (first|(apply xW;(first|exact Want.none_ rfl|(refine zX rfl rfl rfl rfl ?_;((exact dF ‹_›)))))|(apply xF zI;exact rfl;exact rfl)|((first|apply zZ|apply xD)<;>(first|exact zI|exact rfl|refine yG ?_|assumption|omega))|(apply yR;exact rfl;exact rfl;((exact dF ‹_›));exact rfl;exact rfl)|apply zR|apply AWp.Q|apply zH|apply AWp.G|apply AWp.B|apply AWp.J|apply zJ|(apply AWp.T;exact rfl;((exact dT ‹_›)))|(apply AWp.F;exact rfl;((exact dF ‹_›)))))
          refine ⟨k + 1, ⟨by omega, hall'⟩, by omega, ?_⟩
          refine Weak.of [] rfl ?_ ?_ <;> (repeat' (first|exact trivial|exact rfl|apply And.intro))
    · have hlt' : ¬ (k : Int) < (s.length : Int) := by omega
      obtain rfl : k = s.length := by omega
      rw [List.take_of_length_le (Nat.le_refl _)] at hall
      rw [hall]
      (repeat' (first|(apply xW;((exact Want.none_ rfl)))|(apply xF zI;exact rfl;exact rfl)|apply zR|apply AWp.Q|apply zH|apply AWp.G|apply AWp.X|apply AWp.R|apply zQ|apply zO|(apply AWp.F;exact rfl;((exact dF ‹_›)))))
      (((refine zV _ [] (.cons (zN rfl) .nil) ?_ rfl ?_)) <;> (repeat' (first|exact trivial|exact rfl)))
theorem isWord_pf (s : List UInt8) (hs : s.length ≤ 4000000) : PF Tryz.prog 197 [.c (str s)] [] (.c (boo (kF s))) := by
  have h1 := areLetters_pf s hs
  have h2 := jA s.length 1 24
  rw [kF]
  cases hi : inZ s.length 1 24 with
  | false =>
    rw [hi] at h2
    rw [Bool.and_false]
    refine PF.enter (xJ _) Tryz.func197 rfl (by kernel_rfl) _ _ rfl rfl rfl (fun w0 mu I0 β0 gi dis => ?_)
    (repeat' (first|(apply xW;((exact Want.none_ rfl)))|(apply xF zI;exact rfl;exact rfl)|(apply yR;exact rfl;exact rfl;((exact rfl));exact rfl;exact rfl)|(apply yS;(iterate 5 exact rfl);((exact rfl)))|apply zR|apply AWp.Q|apply zH|apply AWp.G|apply AWp.R|(apply yA;(iterate 6 exact rfl);(iterate 2 (focus (repeat (first|exact VAs.nil|apply VAs.cons|apply VA.c|exact VCs.nil|exact VC.imm (Imm.v _)))));((exact h2));(focus (repeat ((exact Flat.v _))));((apply yJ));((exact xB _ _)))))
    (((refine zV _ [] (.cons (zN rfl) .nil) ?_ rfl ?_)) <;> (repeat' (first|exact trivial|exact rfl)))
  | true =>
    rw [hi] at h2
    rw [Bool.and_true]
    refine PF.enter (xJ _) Tryz.func197 rfl (by kernel_rfl) _ _ rfl rfl rfl (fun w0 mu I0 β0 gi dis => ?_)
    (repeat' (first|(apply xW;(first|exact Want.none_ rfl|(refine zX rfl rfl rfl rfl ?_;((exact rfl)))))|(apply xF zI;exact rfl;exact rfl)|(apply yR;exact rfl;exact rfl;((exact rfl));exact rfl;exact rfl)|apply zR|apply AWp.Q|apply zH|apply AWp.G|apply AWp.R|(apply yA;(iterate 6 exact rfl);(iterate 2 (focus (repeat (first|exact VAs.nil|apply VAs.cons|apply VA.c|exact VCs.nil|exact VC.imm (Imm.v _)))));(first|exact h2|exact h1);(focus (repeat ((exact Flat.v _))));((apply yJ));((exact xB _ _)))))
    (((refine zV _ [] (.cons (zN rfl) .nil) ?_ rfl ?_)) <;> (repeat' (first|exact trivial|exact rfl)))
theorem groups_pf (s : List UInt8) (hs : s.length ≤ 4000000) : PF Tryz.prog 204 [.c (str s)] [] (.c (int (grpN s s.length : Nat))) := by
  refine PF.enter (xJ _) Tryz.func204 rfl (by kernel_rfl) _ _ rfl rfl rfl (fun w0 mu I0 β0 gi dis => ?_)
  (repeat' (first|(apply xW;((exact Want.none_ rfl)))|(apply xF zI;exact rfl;exact rfl)|apply zR|apply AWp.Q|apply zH|apply AWp.G|apply AWp.B))
  refine AWp.U (σ := Nat) (fun k => ⟨[(0, .c (str s)), (3, .c (int (grpN s k : Nat))), (6, .c (int s.length)), (7, .c (int k))], [], 0⟩) (fun k => k ≤ s.length) (fun k => s.length - k) 0 (Nat.zero_le _) ?_ ?_
  · refine Weak.of [] rfl ?_ ?_ <;> (repeat' (first|exact trivial|exact rfl|apply And.intro))
  · rintro k hk
    have hgl := grpN_le s k
    by_cases hlt : k < s.length
    · have hb := kK hlt
      have hlt' : (k : Int) < (s.length : Int) := by omega
      have hv := vD (at0 s k)
      cases h1 : vowB (at0 s k) with
      | false =>
        rw [h1] at hv
        have e : grpN s (k + 1) = grpN s k := by rw [grpN, h1]; rfl
        generalize grpN s k = q at *
        (repeat' (first|(apply xW;((exact Want.none_ rfl)))|(apply xF zI;exact rfl;exact rfl)|((first|apply zZ|apply xD)<;>(first|exact zI|exact rfl|refine yG ?_|assumption|omega))|(apply yR;exact rfl;exact rfl;((exact rfl));exact rfl;exact rfl)|(apply yS;(iterate 5 exact rfl);((exact rfl)))|(apply yF;(iterate 5 exact rfl))|apply zR|apply AWp.Q|apply zH|apply AWp.G|apply AWp.B|apply AWp.J|apply zJ|(apply AWp.T;exact rfl;((exact dT ‹_›)))|(apply AWp.F;exact rfl;((exact rfl)))|(apply yA;(iterate 6 exact rfl);(iterate 2 (focus (repeat (first|exact VAs.nil|apply VAs.cons|apply VA.c|exact VCs.nil|exact VC.imm (Imm.v _)))));((exact hv));(focus (repeat ((exact Flat.v _))));((apply yJ));((exact xB _ _)))))
        refine ⟨k + 1, by omega, by omega, ?_⟩
        rw [e]
        refine Weak.of [] rfl ?_ ?_ <;> (repeat' (first|exact trivial|exact rfl|apply And.intro))
      | true =>
        rw [h1] at hv
        by_cases h0 : k = 0
        · subst h0
          have e : grpN s (0 + 1) = 1 := by rw [grpN, grpN, h1]; rfl
          have hz : ((0 : Nat) : Int) = 0 := rfl
          have e0 : grpN s 0 = 0 := rfl
          (repeat' (first|(apply xW;(first|exact Want.none_ rfl|(refine zX rfl rfl rfl rfl ?_;((exact dT ‹_›)))))|(apply xF zI;exact rfl;exact rfl)|((first|apply zZ|apply xD)<;>(first|exact zI|exact rfl|refine yG ?_|assumption|omega))|(apply yR;exact rfl;exact rfl;((exact dT ‹_›));exact rfl;exact rfl)|(apply yS;(iterate 5 exact rfl);((exact dT ‹_›)))|apply zR|apply AWp.Q|apply zH|apply AWp.G|apply AWp.B|apply AWp.J|apply zJ|(apply AWp.T;exact rfl;((exact dT ‹_›)))|(apply yA;(iterate 6 exact rfl);(iterate 2 (focus (repeat (first|exact VAs.nil|apply VAs.cons|apply VA.c|exact VCs.nil|exact VC.imm (Imm.v _)))));((exact hv));(focus (repeat ((exact Flat.v _))));((apply yJ));((exact xB _ _)))))
          refine ⟨0 + 1, by omega, by omega, ?_⟩
          rw [e]
          refine Weak.of [] rfl ?_ ?_ <;> (repeat' (first|exact trivial|exact rfl|apply And.intro))
        · have hz : ¬ (k : Int) = 0 := by omega
          have hkm : (k : Int) - 1 = ((k - 1 : Nat) : Int) := by omega
          have hb2 := kK (s := s) (k := k - 1) (by omega)
          have hv2 := vD (at0 s (k - 1))
          cases h2 : vowB (at0 s (k - 1)) with
          | true =>
            rw [h2] at hv2
            have e : grpN s (k + 1) = grpN s k := by rw [grpN, h1, h2, decide_eq_false h0]; rfl
            generalize grpN s k = q at *
            (repeat' (first|(apply xW;(first|exact Want.none_ rfl|(refine zX rfl rfl rfl rfl ?_;(first|exact dF ‹_›|exact rfl))))|(apply xF zI;exact rfl;exact rfl)|((first|apply zZ|apply y3|apply xD)<;>(first|exact zI|exact rfl|refine yG ?_|assumption|omega))|(apply yR;exact rfl;exact rfl;(first|exact dF ‹_›|exact rfl);exact rfl;exact rfl)|apply zR|apply AWp.Q|apply zH|apply AWp.G|apply AWp.B|apply AWp.J|apply zJ|(apply AWp.T;exact rfl;((exact dT ‹_›)))|(apply AWp.F;exact rfl;((exact rfl)))|(apply yA;(iterate 6 exact rfl);(iterate 2 (focus (repeat (first|exact VAs.nil|apply VAs.cons|apply VA.c|exact VCs.nil|exact VC.imm (Imm.v _)))));(first|exact hv|exact hv2);(focus (repeat ((exact Flat.v _))));((apply yJ));((exact xB _ _)))))
            refine ⟨k + 1, by omega, by omega, ?_⟩
            rw [e]
            refine Weak.of [] rfl ?_ ?_ <;> (repeat' (first|exact trivial|exact rfl|apply And.intro))
          | false =>
            rw [h2] at hv2
            have e : grpN s (k + 1) = grpN s k + 1 := by rw [grpN, h1, h2, decide_eq_false h0]; rfl
            generalize grpN s k = q at *
            (repeat' (first|(apply xW;(first|exact Want.none_ rfl|(refine zX rfl rfl rfl rfl ?_;(first|exact dF ‹_›|exact rfl))))|(apply xF zI;exact rfl;exact rfl)|((first|apply zZ|apply y3|apply xD)<;>(first|exact zI|exact rfl|refine yG ?_|assumption|omega))|(apply yR;exact rfl;exact rfl;(first|exact dF ‹_›|exact rfl);exact rfl;exact rfl)|apply zR|apply AWp.Q|apply zH|apply AWp.G|apply AWp.B|apply AWp.J|apply zJ|(apply AWp.T;exact rfl;(first|exact dT ‹_›|exact rfl))|(apply yA;(iterate 6 exact rfl);(iterate 2 (focus (repeat (first|exact VAs.nil|apply VAs.cons|apply VA.c|exact VCs.nil|exact VC.imm (Imm.v _)))));(first|exact hv|exact hv2);(focus (repeat ((exact Flat.v _))));((apply yJ));((exact xB _ _)))))
            refine ⟨k + 1, by omega, by omega, ?_⟩
            rw [e]
            refine Weak.of [] rfl ?_ ?_ <;> (repeat' (first|exact trivial|exact rfl|apply And.intro))
    · have hlt' : ¬ (k : Int) < (s.length : Int) := by omega
      obtain rfl : k = s.length := by omega
      (repeat' (first|(apply xW;((exact Want.none_ rfl)))|(apply xF zI;exact rfl;exact rfl)|apply zR|apply AWp.Q|apply zH|apply AWp.G|apply AWp.X|apply AWp.R|apply zQ|apply zO|(apply AWp.F;exact rfl;((exact dF ‹_›)))))
      (((refine zV _ [] (.cons (zN rfl) .nil) ?_ rfl ?_)) <;> (repeat' (first|exact trivial|exact rfl)))
theorem suf_ends (s e : List UInt8) : Lib.hasSuffix s e = endsB s e := by
  rw [Lib.hasSuffix, endsB, Bool.eq_iff_iff, List.isSuffixOf_iff_suffix, Bool.and_eq_true, decide_eq_true_eq, decide_eq_true_eq]
  constructor
  · intro h
    exact ⟨h.length_le, (List.suffix_iff_eq_drop.1 h).symm⟩
  · rintro ⟨_, h⟩
    exact List.suffix_iff_eq_drop.2 h.symm
section
variable (t : List (List UInt8)) (g : Nat) (p : List UInt8 → Bool)
theorem indexS_pf (caps : List Cell) (hl : t.length ≤ 4000000) (him : ∀ c ∈ caps, Imm c) (hg : ∀ c ∈ t, PF Tryz.prog g (.c (str c) :: caps.map AVal.c) [] (.c (boo (p c)))) :
    PF Tryz.prog 208 [.c (.sl (t.map wE)), .c (.fn g caps)] [] (.c (int (if t.any p then ((t.findIdx p : Nat) : Int) else -1))) := by
  refine PF.enter (xG _ _) Tryz.func208 rfl (by kernel_rfl) _ _ rfl rfl rfl (fun w0 mu I0 β0 gi dis => ?_)
  have hL : (t.map wE).length = t.length := List.length_map _
  (repeat (first|(apply xW;((exact Want.none_ rfl)))|(apply xF zI;exact rfl;exact rfl)|apply zR|apply AWp.Q|apply zH|apply AWp.G|apply AWp.B))
  refine AWp.U (σ := Nat) (fun k => ⟨[(0, .c (.sl (t.map wE))), (1, .c (.fn g caps)), (7, .c (int t.length)), (8, .c (int k))], [], 0⟩) (fun k => k ≤ t.length ∧ (t.take k).any p = false) (fun k => t.length - k) 0 ⟨Nat.zero_le _, rfl⟩ ?_ ?_
  · refine Weak.of [] rfl ?_ ?_ <;> (repeat' (first|exact trivial|exact rfl|exact oRi ‹_›|apply And.intro|(apply cgI;(omega))))
  · rintro k ⟨hk, hall⟩
    by_cases hlt : k < t.length
    · obtain ⟨c, hc⟩ := xT hlt
      have hc' : (t.map wE)[k]? = some (wE c) := xY hc
      have hlt' : (k : Int) < (t.length : Int) := by omega
      have hg' := hg c (List.mem_of_getElem? hc)
      (repeat' (first|(apply xW;((exact Want.none_ rfl)))|(apply xF zI;exact rfl;exact rfl)|((first|apply zZ|(apply yN;exact rfl;exact rfl))<;>(first|exact zI|exact Nat.zero_add _|exact rfl|refine yG ?_|assumption|omega))|apply zR|apply AWp.Q|apply zH|apply AWp.G|apply AWp.B|apply AWp.J|apply AWp.R|apply zK|apply zJ|apply zL|(apply AWp.T;exact rfl;((exact dT ‹_›)))|(apply (wU []);(iterate 5 exact rfl);(iterate 2 (focus (repeat (first|exact VAs.nil|apply VAs.cons|apply VA.c|(apply VCs.same;assumption)|exact VC.imm (Imm.v _)))));((exact hg'));(focus (repeat ((exact Flat.v _))));((apply yJ));((exact xB _ _)))|(((refine AWp.O _ rfl ?_ ?_))<;>intro hp<;>try (exfalso;omega))))
      · (((refine zV _ [] (.cons (zN rfl) .nil) ?_ rfl ?_)) <;> (repeat' (first|exact trivial|refine vwI ?_)))
        rw [any_at hc (by assumption), if_pos rfl, findIdx_first hc (by assumption) hall]
      · refine ⟨k + 1, ⟨by omega, by rw [wK hc, hall]; simp [*]⟩, by omega, ?_⟩
        refine Weak.of [] rfl ?_ ?_ <;> (repeat' (first|exact trivial|exact rfl|exact oRi ‹_›|apply And.intro))
    · have hlt' : ¬ (k : Int) < (t.length : Int) := by omega
      (repeat (first|(apply xW;((exact Want.none_ rfl)))|(apply xF zI;exact rfl;exact rfl)|apply zR|apply AWp.Q|apply zH|apply AWp.G|apply AWp.X|apply AWp.R|apply zQ|apply zO|(apply AWp.F;exact rfl;((exact dF ‹_›)))))
      (((refine zV _ [] (.cons (zN rfl) .nil) ?_ rfl ?_)) <;> (repeat' (first|exact trivial|refine vwI ?_)))
      rw [take_all hk hlt] at hall
      simp [hall]
theorem containsS_pf (caps : List Cell) (hl : t.length ≤ 4000000) (him : ∀ c ∈ caps, Imm c) (hg : ∀ c ∈ t, PF Tryz.prog g (.c (str c) :: caps.map AVal.c) [] (.c (boo (p c)))) :
    PF Tryz.prog 205 [.c (.sl (t.map wE)), .c (.fn g caps)] [] (.c (boo (t.any p))) := by
  refine PF.enter (xG _ _) Tryz.func205 rfl (by kernel_rfl) _ _ rfl rfl rfl (fun w0 mu I0 β0 gi dis => ?_)
  (repeat' (first|(apply xW;((exact Want.none_ rfl)))|(apply xF zI;exact rfl;exact rfl)|apply zR|apply AWp.Q|apply zH|apply AWp.G|apply AWp.R|(apply (wU []);(iterate 5 exact rfl);(iterate 2 (focus (repeat (first|exact VAs.nil|apply VAs.cons|apply VA.c|exact VCs.nil|(apply VCs.same;assumption)|exact VC.imm (Imm.sl _)|apply VC.fn))));((exact indexS_pf t g p caps hl him hg));(focus (repeat ((exact Flat.v _))));((apply yJ));((exact xB _ _)))))
  (((refine zV _ [] (.cons (zN rfl) .nil) ?_ rfl ?_)) <;> (repeat' (first|exact trivial|refine vwB ?_)))
  cases h : t.any p <;> simp
end
theorem ends1_pf (s e : List UInt8) (hs : s.length ≤ 4000000) : PF Tryz.prog 206 [.c (str e), .c (.ip [str s])] [] (.c (boo (endsB s e))) := by
  have h := hasSuffix_pf s e hs
  rw [suf_ends] at h
  refine PF.enter (xG _ _) Tryz.func206 rfl (by kernel_rfl) _ _ rfl rfl rfl (fun w0 mu I0 β0 gi dis => ?_)
  (repeat' (first|(apply xW;((exact Want.none_ rfl)))|(apply xF zI;exact rfl;exact rfl)|apply zR|apply AWp.Q|apply zH|apply AWp.G|apply AWp.R|(apply yA;(iterate 6 exact rfl);(iterate 2 (focus (repeat (first|exact VAs.nil|apply VAs.cons|apply VA.c|exact VCs.nil|exact VC.imm (Imm.v _)))));((exact h));(focus (repeat ((exact Flat.v _))));((apply yJ));((exact xB _ _)))))
  (((refine zV _ [] (.cons (zN rfl) .nil) ?_ rfl ?_)) <;> (repeat' (first|exact trivial|exact rfl)))
theorem endsWith_pf (s : List UInt8) (l : List (List UInt8)) (hs : s.length ≤ 4000000) (hl : l.length ≤ 1000) : PF Tryz.prog 203 [.c (str s), .c (.sl (l.map wE))] [] (.c (boo (l.any (endsB s)))) := by
  refine PF.enter (xG _ _) Tryz.func203 rfl (by kernel_rfl) _ _ rfl rfl rfl (fun w0 mu I0 β0 gi dis => ?_)
  (repeat' (first|(apply xW;((exact Want.none_ rfl)))|(apply xF zI;exact rfl;exact rfl)|(((apply rx_makeFunc))<;>(first|exact rfl|refine yG ?_))|apply zR|apply AWp.Q|apply zH|apply AWp.G|apply AWp.R|(apply (wU [0]);(iterate 5 exact rfl);(iterate 2 (focus (repeat (first|exact VAs.nil|apply VAs.cons|apply VA.c|exact VCs.nil|apply VCs.cons|exact VC.imm (Imm.sl _)|apply VC.fn|(apply VC.ptr;(focus (simp;done));exact rfl;exact rfl;exact rfl;(repeat (first|exact wX|exact Imm.v _|refine x9 ?_ ?_)))))));((exact containsS_pf l _ (endsB s) [.ip [str s]] (by omega) (by (repeat (first|exact wX|exact Imm.ip _|refine x9 ?_ ?_))) (fun c _ => ends1_pf s c hs)));(focus (repeat ((exact Flat.v _))));((apply yJ));((exact xB _ _)))))
  (((refine zV _ [] (.cons (zN rfl) .nil) ?_ rfl ?_)) <;> (repeat' (first|exact trivial|exact rfl)))
end Go.Proofs.YtjeffognhcbiaaaGreatDoor
