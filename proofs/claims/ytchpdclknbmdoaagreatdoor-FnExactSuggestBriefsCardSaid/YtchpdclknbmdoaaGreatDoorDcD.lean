/- Translations: which atoms are good, and their notation. No conditions but bounds of lengths. -/
import Derived.Test.YtchpdclknbmdoaaGreatDoorDcC
namespace Go.Proofs.YtchpdclknbmdoaaGreatDoor
open Go Go.RowKit
def okC (b : UInt8) : Bool := inZ b.toNat 33 126 && !decide (((b.toNat : Nat) : Int) = 123) && !decide (((b.toNat : Nat) : Int) = 125) && !decide (((b.toNat : Nat) : Int) = 94) && !decide (((b.toNat : Nat) : Int) = 38) && !decide (((b.toNat : Nat) : Int) = 35) && !decide (((b.toNat : Nat) : Int) = 62)
def wZ (s : List UInt8) : Bool := s.all okC && inZ s.length 1 20
theorem l5Word_pf (s : List UInt8) (hs : s.length ≤ 4000000) : PF Tryz.prog 186 [.c (str s)] [] (.c (boo (wZ s))) := by
  refine PF.enter (xJ _) Tryz.func186 rfl (by kernel_rfl) _ _ rfl rfl rfl (fun w0 mu I0 β0 gi dis => ?_)
  (repeat' (first|(apply xW;((exact Want.none_ rfl)))|(apply xF zI;exact rfl;exact rfl)|apply zQ|apply AWp.Q|apply zG|apply AWp.G|apply AWp.B))
  refine AWp.U (σ := Nat) (fun k => ⟨[(0, .c (str s)), (3, .c (int k))], [], 0⟩) (fun k => k ≤ s.length ∧ (s.take k).all okC = true) (fun k => s.length - k) 0 ⟨Nat.zero_le _, rfl⟩ ?_ ?_
  · refine Weak.of [] rfl ?_ ?_ <;> (repeat' (first|exact trivial|exact rfl|apply And.intro))
  · rintro k ⟨hk, hall⟩
    by_cases hlt : k < s.length
    · obtain ⟨b, hb⟩ := xQ hlt
      have hlt' : (k : Int) < (s.length : Int) := by omega
      have hwb : IntKind.i64.wrap ((b.toNat : Nat) : Int) = b.toNat := IntWalk.i64_in _ (by have := b.toNat_lt; omega)
      have hin := v8 (b.toNat : Nat) 33 126
      rw [← hwb] at hin
      cases ho : okC b with
      | true =>
        have hall' : (s.take (k + 1)).all okC = true := by rw [wD hb, hall, ho]; rfl
        (repeat' (first|(apply xW;(first|exact Want.none_ rfl|(refine zW rfl rfl rfl rfl ?_;(first|assumption|exact dF ‹_›))))|(apply xF zI;exact rfl;exact rfl)|((first|apply yE|apply xZ)<;>(first|exact zI|exact rfl|refine yH ?_|assumption|omega))|(apply yX;exact rfl;exact rfl;(first|assumption|exact dT ‹_›|exact dF ‹_›|exact rfl);exact rfl;exact rfl)|(apply yY;(iterate 5 exact rfl);(first|assumption|exact dT ‹_›|exact rfl))|apply zQ|apply AWp.Q|apply zG|apply AWp.G|apply AWp.B|apply AWp.J|apply AWp.R|apply zK|apply zH|apply zM|(apply AWp.T;exact rfl;(first|exact dT ‹_›|exact rfl))|(apply yC;(iterate 6 exact rfl);(iterate 2 (focus (repeat (first|exact VAs.nil|apply VAs.cons|apply VA.c|exact VCs.nil|exact VC.imm (Imm.v _)))));((exact hin));(focus (repeat ((exact Flat.v _))));((apply yJ));((exact xD _ _)))|((first|refine zU rfl rfl rfl ?_ ?_|refine yF rfl rfl rfl ?_ ?_)<;>intro hp<;>try (exfalso;omega))|(((refine AWp.C rfl ?_ ?_))<;>intro hp<;>try (exfalso;omega))))
        all_goals first | (exfalso; simp_all [okC]; done) | skip
        refine ⟨k + 1, ⟨by omega, hall'⟩, by omega, ?_⟩
        refine Weak.of [] rfl ?_ ?_ <;> (repeat' (first|exact trivial|exact rfl|apply And.intro))
      | false =>
        have e : wZ s = false := by rw [wZ, kB hb ho, Bool.false_and]
        rw [e]
        (repeat' (first|(apply xW;(first|exact Want.none_ rfl|(refine zW rfl rfl rfl rfl ?_;(first|assumption|exact dF ‹_›))))|(apply xF zI;exact rfl;exact rfl)|((first|apply yE|apply xZ)<;>(first|exact zI|exact rfl|refine yH ?_|assumption|omega))|(apply yX;exact rfl;exact rfl;(first|assumption|exact dT ‹_›|exact dF ‹_›|exact rfl);exact rfl;exact rfl)|(apply yY;(iterate 5 exact rfl);(first|assumption|exact dT ‹_›|exact rfl))|apply zQ|apply AWp.Q|apply zG|apply AWp.G|apply AWp.B|apply AWp.J|apply AWp.R|apply zK|apply zH|apply zM|(apply AWp.T;exact rfl;(first|exact dT ‹_›|exact rfl))|(apply yC;(iterate 6 exact rfl);(iterate 2 (focus (repeat (first|exact VAs.nil|apply VAs.cons|apply VA.c|exact VCs.nil|exact VC.imm (Imm.v _)))));((exact hin));(focus (repeat ((exact Flat.v _))));((apply yJ));((exact xD _ _)))|((first|refine zU rfl rfl rfl ?_ ?_|refine yF rfl rfl rfl ?_ ?_)<;>intro hp<;>try (exfalso;omega))|(((refine AWp.C rfl ?_ ?_))<;>intro hp<;>try (exfalso;omega))))
        all_goals first | (exfalso; simp_all [okC]; done) | skip
        all_goals
          (((refine zX _ [] (.cons (zP rfl) .nil) ?_ rfl ?_)) <;> (repeat' (first|exact trivial|exact rfl)))
    · have hlt' : ¬ (k : Int) < (s.length : Int) := by omega
      obtain rfl : k = s.length := by omega
      rw [List.take_of_length_le (Nat.le_refl _)] at hall
      have h := v8 s.length 1 20
      (repeat' (first|(apply xW;((exact Want.none_ rfl)))|(apply xF zI;exact rfl;exact rfl)|apply zQ|apply AWp.Q|apply zG|apply AWp.G|apply AWp.X|apply AWp.R|apply zN|apply zL|(apply AWp.F;exact rfl;((exact dF ‹_›)))|(apply yC;(iterate 6 exact rfl);(iterate 2 (focus (repeat (first|exact VAs.nil|apply VAs.cons|apply VA.c|exact VCs.nil|exact VC.imm (Imm.v _)))));((exact h));(focus (repeat ((exact Flat.v _))));((apply yJ));((exact xD _ _)))))
      (((refine zX _ [] (.cons (zP rfl) .nil) ?_ rfl ?_)) <;> (repeat' (first|exact trivial|refine vwB ?_)))
      rw [wZ, hall, Bool.true_and]
def x8 (a : Atm) : Bool :=
  if a.k = 1 then wZ a.t else if a.k = 2 then wZ a.t else if a.k = 3 then wZ a.t else if a.k = 4 then wZ a.t else if a.k = 5 then wZ a.t
  else if a.k = 6 then decide (a.t = [46]) || decide (a.t = [33]) || decide (a.t = [63])
  else if a.k = 7 then decide (a.t = [44]) || decide (a.t = [59]) || decide (a.t = [58])
  else if a.k = 8 then decide (a.t = []) else if a.k = 9 then decide (a.t = []) else if a.k = 10 then decide (a.t = [])
  else false
def wT (a : Atm) : List UInt8 :=
  if a.k = 1 then a.t
  else if a.k = 2 then [123, 94] ++ a.t ++ [125]
  else if a.k = 3 then [123] ++ a.t ++ [94, 125]
  else if a.k = 4 then [123, 94] ++ a.t ++ [94, 125]
  else if a.k = 5 then [123, 38] ++ a.t ++ [125]
  else if a.k = 8 then [123, 45, 124, 125]
  else if a.k = 9 then [123, 62, 125]
  else if a.k = 10 then [123, 42, 45, 124, 125]
  else [123] ++ a.t ++ [125]
theorem fmtA_len (a : Atm) : (wT a).length ≤ a.t.length + 5 := by
  unfold wT
  repeat' split
  all_goals first | omega | (simp only [List.length_append, List.length_cons, List.length_nil]; omega)
theorem l5Good_pf (a : Atm) (ha : a.t.length ≤ 1000000) : PF Tryz.prog 162 [.agg (xK a)] [] (.c (boo (x8 a))) := by
  have hw := l5Word_pf a.t (by omega)
  refine PF.enter (xJ _) Tryz.func162 rfl (by kernel_rfl) _ _ rfl rfl rfl (fun w0 mu I0 β0 gi dis => ?_)
  (repeat' (first|(apply xW;(first|exact Want.none_ rfl|(refine zW rfl rfl rfl rfl ?_;((exact dF ‹_›)))))|(apply xF zI;exact rfl;exact rfl)|(apply yX;exact rfl;exact rfl;(first|exact dT ‹_›|exact dF ‹_›|exact rfl);exact rfl;exact rfl)|(apply yY;(iterate 5 exact rfl);(first|exact dT ‹_›|exact rfl))|apply zQ|apply AWp.Q|apply zG|apply AWp.G|apply AWp.B|apply AWp.J|apply AWp.R|apply zK|apply zH|apply zM|(apply AWp.T;exact rfl;((exact dT ‹_›)))|(apply yC;(iterate 6 exact rfl);(iterate 2 (focus (repeat (first|exact VAs.nil|apply VAs.cons|apply VA.c|exact VCs.nil|exact VC.imm (Imm.v _)))));((exact hw));(focus (repeat ((exact Flat.v _))));((apply yJ));((exact xD _ _)))|(((refine zU rfl rfl rfl ?_ ?_))<;>intro hp<;>try (exfalso;omega))|(((refine AWp.C rfl ?_ ?_))<;>intro hp<;>try (exfalso;omega))))
  all_goals
    (((refine zX _ [] (.cons (zP rfl) .nil) ?_ rfl ?_)) <;> (repeat' (first|exact trivial|refine vwB ?_)))
  all_goals first | (simp [x8, *]; done) | skip
theorem l5Format_pf (a : Atm) (ha : a.t.length ≤ 1000000) : PF Tryz.prog 233 [.agg (xK a)] [] (.c (str (wT a))) := by
  refine PF.enter (xJ _) Tryz.func233 rfl (by kernel_rfl) _ _ rfl rfl rfl (fun w0 mu I0 β0 gi dis => ?_)
  (repeat' (first|(apply xW;((exact Want.none_ rfl)))|(apply xF zI;exact rfl;exact rfl)|(((apply yD;exact rfl;exact rfl))<;>(first|exact rfl|refine yH ?_|((try refine Bd.mk ?_);(simp;omega))))|apply zQ|apply AWp.Q|apply zG|apply AWp.G|apply AWp.B|apply AWp.J|apply AWp.R|apply zK|apply zH|apply zM|(((refine AWp.C rfl ?_ ?_))<;>intro hp<;>try (exfalso;omega))))
  all_goals
    (((refine zX _ [] (.cons (zP rfl) .nil) ?_ rfl ?_)) <;> (repeat' (first|exact trivial|refine vwS ?_)))
  all_goals first | (simp [wT, *]; done) | skip
def AtB (l : List Atm) : Prop := l.length ≤ 1000 ∧ ∀ a ∈ l, a.t.length ≤ 1000
def lnA (l : List Atm) (k : Nat) : Nat := ((l.take k).map fun a => (wT a).length).sum
theorem lnA_succ {l : List Atm} {k : Nat} {a : Atm} (h : l[k]? = some a) : lnA l (k + 1) = lnA l k + (wT a).length := by
  rw [lnA, lnA, List.take_add_one, h, List.map_append, List.sum_append]
  simp
theorem lnA_le {l : List Atm} (h : AtB l) : ∀ k, k ≤ l.length → lnA l k ≤ 1005 * k
  | 0, _ => Nat.le_refl _
  | k + 1, hk => by
    obtain ⟨a, ha⟩ := xQ (show k < l.length by omega)
    have h1 := lnA_le h k (by omega)
    have h2 := fmtA_len a
    have h3 := h.2 a (List.mem_of_getElem? ha)
    rw [lnA_succ ha]; omega
def kQ (l : List Atm) : Bool := inZ l.length 1 10 && l.all x8 && decide ((l.length : Int) - 1 + lnA l l.length ≤ 60)
theorem l5List_pf (l : List Atm) (hb : AtB l) : PF Tryz.prog 207 [.c (.sl (l.map xK))] [] (.c (boo (kQ l))) := by
  have hl := hb.1
  have hL : (l.map xK).length = l.length := List.length_map _
  have hin := v8 l.length 1 10
  rw [← hL] at hin
  cases hc : inZ l.length 1 10 with
  | false =>
    rw [hL, hc] at hin
    rw [← hL] at hin
    rw [kQ, hc, Bool.false_and, Bool.false_and]
    refine PF.enter (xJ _) Tryz.func207 rfl (by kernel_rfl) _ _ rfl rfl rfl (fun w0 mu I0 β0 gi dis => ?_)
    (repeat' (first|(apply xW;((exact Want.none_ rfl)))|(apply xF zI;exact rfl;exact rfl)|apply zQ|apply AWp.Q|apply zG|apply AWp.G|apply AWp.R|apply zK|(apply AWp.T;exact rfl;((exact rfl)))|(apply yC;(iterate 6 exact rfl);(iterate 2 (focus (repeat (first|exact VAs.nil|apply VAs.cons|apply VA.c|exact VCs.nil|exact VC.imm (Imm.v _)))));((exact hin));(focus (repeat ((exact Flat.v _))));((apply yJ));((exact xD _ _)))))
    (((refine zX _ [] (.cons (zP rfl) .nil) ?_ rfl ?_)) <;> (repeat' (first|exact trivial|exact rfl)))
  | true =>
    rw [hL, hc] at hin
    rw [← hL] at hin
    refine PF.enter (xJ _) Tryz.func207 rfl (by kernel_rfl) _ _ rfl rfl rfl (fun w0 mu I0 β0 gi dis => ?_)
    (repeat' (first|(apply xW;((exact Want.none_ rfl)))|(apply xF zI;exact rfl;exact rfl)|(((apply y6))<;>(first|exact rfl|refine yH ?_|omega))|apply zQ|apply AWp.Q|apply zG|apply AWp.G|apply AWp.B|apply AWp.J|(apply AWp.F;exact rfl;((exact rfl)))|(apply yC;(iterate 6 exact rfl);(iterate 2 (focus (repeat (first|exact VAs.nil|apply VAs.cons|apply VA.c|exact VCs.nil|exact VC.imm (Imm.v _)))));((exact hin));(focus (repeat ((exact Flat.v _))));((apply yJ));((exact xD _ _)))))
    refine AWp.U (σ := Nat) (fun k => ⟨[(0, .c (.sl (l.map xK))), (3, .c (int ((l.length : Int) - 1 + lnA l k))), (4, .c (int k))], [], 0⟩) (fun k => k ≤ l.length ∧ (l.take k).all x8 = true) (fun k => l.length - k) 0 ⟨Nat.zero_le _, rfl⟩ ?_ ?_
    · refine Weak.of [] rfl ?_ ?_ <;> (repeat' (first|exact trivial|exact rfl|apply And.intro|refine vwI ?_))
      rw [hL]
      show _ = _ + (((0 : Nat) : Int))
      omega
    · rintro k ⟨hk, hall⟩
      have hle := lnA_le hb k hk
      by_cases hlt : k < l.length
      · obtain ⟨a, ha⟩ := xQ hlt
        have ha' : (l.map xK)[k]? = some (xK a) := xM ha
        have hlt' : (k : Int) < ((l.map xK).length : Int) := by omega
        have h3 := hb.2 a (List.mem_of_getElem? ha)
        have hfl := fmtA_len a
        have hf := l5Format_pf a (by omega)
        have hg := l5Good_pf a (by omega)
        cases hga : x8 a with
        | true =>
          rw [hga] at hg
          have hall' : (l.take (k + 1)).all x8 = true := by rw [wD ha, hall, hga]; rfl
          (repeat' (first|(apply xW;((exact Want.none_ rfl)))|(apply xF zI;exact rfl;exact rfl)|((first|apply yE|(apply yB;exact rfl;exact rfl))<;>(first|exact zI|exact rfl|refine yH ?_|assumption|omega))|apply zQ|apply AWp.Q|apply zG|apply AWp.G|apply AWp.B|apply AWp.J|apply zH|(apply AWp.T;exact rfl;((exact dT ‹_›)))|(apply AWp.F;exact rfl;((exact rfl)))|(apply yC;(iterate 6 exact rfl);(iterate 2 (focus (repeat (first|exact VAs.nil|apply VAs.cons|apply VA.agg|exact VCs.nil|apply VCs.cons|exact VC.imm (Imm.v _)))));(first|exact hg|exact hf);(focus (repeat ((exact Flat.v _))));((apply yJ));((exact xD _ _)))))
          refine ⟨k + 1, ⟨by omega, hall'⟩, by omega, ?_⟩
          rw [lnA_succ ha]
          refine Weak.of [] rfl ?_ ?_ <;> (repeat' (first|exact trivial|exact rfl|apply And.intro|(apply cgI;(omega))))
        | false =>
          rw [hga] at hg
          have e : kQ l = false := by rw [kQ, kB ha hga, Bool.and_false, Bool.false_and]
          rw [e]
          (repeat' (first|(apply xW;((exact Want.none_ rfl)))|(apply xF zI;exact rfl;exact rfl)|(((apply yB;exact rfl;exact rfl))<;>(first|exact zI|exact rfl|refine yH ?_|assumption))|apply zQ|apply AWp.Q|apply zG|apply AWp.G|apply AWp.B|apply AWp.J|apply AWp.R|apply zK|apply zM|(apply AWp.T;exact rfl;(first|exact dT ‹_›|exact rfl))|(apply yC;(iterate 6 exact rfl);(iterate 2 (focus (repeat (first|exact VAs.nil|apply VAs.cons|apply VA.agg|exact VCs.nil|apply VCs.cons|exact VC.imm (Imm.v _)))));((exact hg));(focus (repeat ((exact Flat.v _))));((apply yJ));((exact xD _ _)))))
          (((refine zX _ [] (.cons (zP rfl) .nil) ?_ rfl ?_)) <;> (repeat' (first|exact trivial|exact rfl)))
      · have hlt' : ¬ (k : Int) < ((l.map xK).length : Int) := by omega
        obtain rfl : k = l.length := by omega
        rw [List.take_of_length_le (Nat.le_refl _)] at hall
        (repeat' (first|(apply xW;((exact Want.none_ rfl)))|(apply xF zI;exact rfl;exact rfl)|apply zQ|apply AWp.Q|apply zG|apply AWp.G|apply AWp.X|apply AWp.R|apply zN|apply zL|(apply AWp.F;exact rfl;((exact dF ‹_›)))))
        (((refine zX _ [] (.cons (zP rfl) .nil) ?_ rfl ?_)) <;> (repeat' (first|exact trivial|refine vwB ?_)))
        rw [kQ, hc, hall]; rfl
end Go.Proofs.YtchpdclknbmdoaaGreatDoor
