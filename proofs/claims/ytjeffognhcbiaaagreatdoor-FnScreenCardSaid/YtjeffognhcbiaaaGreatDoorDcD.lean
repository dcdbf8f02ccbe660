/- Translations: which atoms are good, and their notation. No conditions but bounds of lengths. -/
import Derived.Test.YtjeffognhcbiaaaGreatDoorDcC
namespace Go.Proofs.YtjeffognhcbiaaaGreatDoor
open Go Go.RowKit
def okC (b : UInt8) : Bool := inZ b.toNat 33 126 && !decide (((b.toNat : Nat) : Int) = 123) && !decide (((b.toNat : Nat) : Int) = 125) && !decide (((b.toNat : Nat) : Int) = 94) && !decide (((b.toNat : Nat) : Int) = 38) && !decide (((b.toNat : Nat) : Int) = 35) && !decide (((b.toNat : Nat) : Int) = 62)
def vC (s : List UInt8) : Bool := s.all okC && inZ s.length 1 20
theorem l5Word_pf (s : List UInt8) (hs : s.length ≤ 4000000) : PF Tryz.prog 110 [.c (str s)] [] (.c (boo (vC s))) := by
  refine PF.enter (xJ _) Tryz.func110 rfl (by kernel_rfl) _ _ rfl rfl rfl (fun w0 mu I0 β0 gi dis => ?_)
  (repeat' (first|(apply xW;((exact Want.none_ rfl)))|(apply xF zI;exact rfl;exact rfl)|apply zR|apply AWp.Q|apply zH|apply AWp.G|apply AWp.B))
  refine AWp.U (σ := Nat) (fun k => ⟨[(0, .c (str s)), (3, .c (int k))], [], 0⟩) (fun k => k ≤ s.length ∧ (s.take k).all okC = true) (fun k => s.length - k) 0 ⟨Nat.zero_le _, rfl⟩ ?_ ?_
  · refine Weak.of [] rfl ?_ ?_ <;> (repeat' (first|exact trivial|exact rfl|apply And.intro))
  · rintro k ⟨hk, hall⟩
    by_cases hlt : k < s.length
    · obtain ⟨b, hb⟩ := xT hlt
      have hlt' : (k : Int) < (s.length : Int) := by omega
      have hwb : IntKind.i64.wrap ((b.toNat : Nat) : Int) = b.toNat := IntWalk.i64_in _ (by have := b.toNat_lt; omega)
      have hin := vP (b.toNat : Nat) 33 126
      rw [← hwb] at hin
      cases ho : okC b with
      | true =>
        have hall' : (s.take (k + 1)).all okC = true := by rw [x5 hb, hall, ho]; rfl
        (repeat' (first|(apply xW;(first|exact Want.none_ rfl|(refine zX rfl rfl rfl rfl ?_;(first|assumption|exact dF ‹_›))))|(apply xF zI;exact rfl;exact rfl)|((first|apply zZ|apply xD)<;>(first|exact zI|exact rfl|refine yG ?_|assumption|omega))|(apply yR;exact rfl;exact rfl;(first|assumption|exact dT ‹_›|exact dF ‹_›|exact rfl);exact rfl;exact rfl)|(apply yS;(iterate 5 exact rfl);(first|assumption|exact dT ‹_›|exact rfl))|apply zR|apply AWp.Q|apply zH|apply AWp.G|apply AWp.B|apply AWp.J|apply AWp.R|apply zK|apply zJ|apply zL|(apply AWp.T;exact rfl;(first|exact dT ‹_›|exact rfl))|(apply yA;(iterate 6 exact rfl);(iterate 2 (focus (repeat (first|exact VAs.nil|apply VAs.cons|apply VA.c|exact VCs.nil|exact VC.imm (Imm.v _)))));((exact hin));(focus (repeat ((exact Flat.v _))));((apply yJ));((exact xB _ _)))|((first|refine zT rfl rfl rfl ?_ ?_|refine zY rfl rfl rfl ?_ ?_)<;>intro hp<;>try (exfalso;omega))|(((refine AWp.C rfl ?_ ?_))<;>intro hp<;>try (exfalso;omega))))
        all_goals first | (exfalso; simp_all [okC]; done) | skip
        refine ⟨k + 1, ⟨by omega, hall'⟩, by omega, ?_⟩
        refine Weak.of [] rfl ?_ ?_ <;> (repeat' (first|exact trivial|exact rfl|apply And.intro))
      | false =>
        have e : vC s = false := by rw [vC, vK hb ho, Bool.false_and]
        rw [e]
        (repeat' (first|(apply xW;(first|exact Want.none_ rfl|(refine zX rfl rfl rfl rfl ?_;(first|assumption|exact dF ‹_›))))|(apply xF zI;exact rfl;exact rfl)|((first|apply zZ|apply xD)<;>(first|exact zI|exact rfl|refine yG ?_|assumption|omega))|(apply yR;exact rfl;exact rfl;(first|assumption|exact dT ‹_›|exact dF ‹_›|exact rfl);exact rfl;exact rfl)|(apply yS;(iterate 5 exact rfl);(first|assumption|exact dT ‹_›|exact rfl))|apply zR|apply AWp.Q|apply zH|apply AWp.G|apply AWp.B|apply AWp.J|apply AWp.R|apply zK|apply zJ|apply zL|(apply AWp.T;exact rfl;(first|exact dT ‹_›|exact rfl))|(apply yA;(iterate 6 exact rfl);(iterate 2 (focus (repeat (first|exact VAs.nil|apply VAs.cons|apply VA.c|exact VCs.nil|exact VC.imm (Imm.v _)))));((exact hin));(focus (repeat ((exact Flat.v _))));((apply yJ));((exact xB _ _)))|((first|refine zT rfl rfl rfl ?_ ?_|refine zY rfl rfl rfl ?_ ?_)<;>intro hp<;>try (exfalso;omega))|(((refine AWp.C rfl ?_ ?_))<;>intro hp<;>try (exfalso;omega))))
        all_goals first | (exfalso; simp_all [okC]; done) | skip
        all_goals
          (((refine zV _ [] (.cons (zN rfl) .nil) ?_ rfl ?_)) <;> (repeat' (first|exact trivial|exact rfl)))
    · have hlt' : ¬ (k : Int) < (s.length : Int) := by omega
      obtain rfl : k = s.length := by omega
      rw [List.take_of_length_le (Nat.le_refl _)] at hall
      have h := vP s.length 1 20
      (repeat' (first|(apply xW;((exact Want.none_ rfl)))|(apply xF zI;exact rfl;exact rfl)|apply zR|apply AWp.Q|apply zH|apply AWp.G|apply AWp.X|apply AWp.R|apply zQ|apply zO|(apply AWp.F;exact rfl;((exact dF ‹_›)))|(apply yA;(iterate 6 exact rfl);(iterate 2 (focus (repeat (first|exact VAs.nil|apply VAs.cons|apply VA.c|exact VCs.nil|exact VC.imm (Imm.v _)))));((exact h));(focus (repeat ((exact Flat.v _))));((apply yJ));((exact xB _ _)))))
      (((refine zV _ [] (.cons (zN rfl) .nil) ?_ rfl ?_)) <;> (repeat' (first|exact trivial|refine vwB ?_)))
      rw [vC, hall, Bool.true_and]
def x6 (a : Atm) : Bool :=
  if a.k = 1 then vC a.t else if a.k = 2 then vC a.t else if a.k = 3 then vC a.t else if a.k = 4 then vC a.t else if a.k = 5 then vC a.t
  else if a.k = 6 then decide (a.t = [46]) || decide (a.t = [33]) || decide (a.t = [63])
  else if a.k = 7 then decide (a.t = [44]) || decide (a.t = [59]) || decide (a.t = [58])
  else if a.k = 8 then decide (a.t = []) else if a.k = 9 then decide (a.t = []) else if a.k = 10 then decide (a.t = [])
  else false
def vB (a : Atm) : List UInt8 :=
  if a.k = 1 then a.t
  else if a.k = 2 then [123, 94] ++ a.t ++ [125]
  else if a.k = 3 then [123] ++ a.t ++ [94, 125]
  else if a.k = 4 then [123, 94] ++ a.t ++ [94, 125]
  else if a.k = 5 then [123, 38] ++ a.t ++ [125]
  else if a.k = 8 then [123, 45, 124, 125]
  else if a.k = 9 then [123, 62, 125]
  else if a.k = 10 then [123, 42, 45, 124, 125]
  else [123] ++ a.t ++ [125]
theorem fmtA_len (a : Atm) : (vB a).length ≤ a.t.length + 5 := by
  unfold vB
  repeat' split
  all_goals first | omega | (simp only [List.length_append, List.length_cons, List.length_nil]; omega)
theorem l5Good_pf (a : Atm) (ha : a.t.length ≤ 1000000) : PF Tryz.prog 76 [.agg (xL a)] [] (.c (boo (x6 a))) := by
  have hw := l5Word_pf a.t (by omega)
  refine PF.enter (xJ _) Tryz.func76 rfl (by kernel_rfl) _ _ rfl rfl rfl (fun w0 mu I0 β0 gi dis => ?_)
  (repeat' (first|(apply xW;(first|exact Want.none_ rfl|(refine zX rfl rfl rfl rfl ?_;((exact dF ‹_›)))))|(apply xF zI;exact rfl;exact rfl)|(apply yR;exact rfl;exact rfl;(first|exact dT ‹_›|exact dF ‹_›|exact rfl);exact rfl;exact rfl)|(apply yS;(iterate 5 exact rfl);(first|exact dT ‹_›|exact rfl))|apply zR|apply AWp.Q|apply zH|apply AWp.G|apply AWp.B|apply AWp.J|apply AWp.R|apply zK|apply zJ|apply zL|(apply AWp.T;exact rfl;((exact dT ‹_›)))|(apply yA;(iterate 6 exact rfl);(iterate 2 (focus (repeat (first|exact VAs.nil|apply VAs.cons|apply VA.c|exact VCs.nil|exact VC.imm (Imm.v _)))));((exact hw));(focus (repeat ((exact Flat.v _))));((apply yJ));((exact xB _ _)))|(((refine zT rfl rfl rfl ?_ ?_))<;>intro hp<;>try (exfalso;omega))|(((refine AWp.C rfl ?_ ?_))<;>intro hp<;>try (exfalso;omega))))
  all_goals
    (((refine zV _ [] (.cons (zN rfl) .nil) ?_ rfl ?_)) <;> (repeat' (first|exact trivial|refine vwB ?_)))
  all_goals first | (simp [x6, *]; done) | skip
theorem l5Format_pf (a : Atm) (ha : a.t.length ≤ 1000000) : PF Tryz.prog 164 [.agg (xL a)] [] (.c (str (vB a))) := by
  refine PF.enter (xJ _) Tryz.func164 rfl (by kernel_rfl) _ _ rfl rfl rfl (fun w0 mu I0 β0 gi dis => ?_)
  (repeat' (first|(apply xW;((exact Want.none_ rfl)))|(apply xF zI;exact rfl;exact rfl)|(((apply z6;exact rfl;exact rfl))<;>(first|exact rfl|refine yG ?_|((try refine Bd.mk ?_);(simp;omega))))|apply zR|apply AWp.Q|apply zH|apply AWp.G|apply AWp.B|apply AWp.J|apply AWp.R|apply zK|apply zJ|apply zL|(((refine AWp.C rfl ?_ ?_))<;>intro hp<;>try (exfalso;omega))))
  all_goals
    (((refine zV _ [] (.cons (zN rfl) .nil) ?_ rfl ?_)) <;> (repeat' (first|exact trivial|refine vwS ?_)))
  all_goals first | (simp [vB, *]; done) | skip
def AtB (l : List Atm) : Prop := l.length ≤ 1000 ∧ ∀ a ∈ l, a.t.length ≤ 1000
def lnA (l : List Atm) (k : Nat) : Nat := ((l.take k).map fun a => (vB a).length).sum
theorem lnA_succ {l : List Atm} {k : Nat} {a : Atm} (h : l[k]? = some a) : lnA l (k + 1) = lnA l k + (vB a).length := by
  rw [lnA, lnA, List.take_add_one, h, List.map_append, List.sum_append]
  simp
theorem lnA_le {l : List Atm} (h : AtB l) : ∀ k, k ≤ l.length → lnA l k ≤ 1005 * k
  | 0, _ => Nat.le_refl _
  | k + 1, hk => by
    obtain ⟨a, ha⟩ := xT (show k < l.length by omega)
    have h1 := lnA_le h k (by omega)
    have h2 := fmtA_len a
    have h3 := h.2 a (List.mem_of_getElem? ha)
    rw [lnA_succ ha]; omega
def kU (l : List Atm) : Bool := inZ l.length 1 10 && l.all x6 && decide ((l.length : Int) - 1 + lnA l l.length ≤ 60)
theorem l5List_pf (l : List Atm) (hb : AtB l) : PF Tryz.prog 131 [.c (.sl (l.map xL))] [] (.c (boo (kU l))) := by
  have hl := hb.1
  have hL : (l.map xL).length = l.length := List.length_map _
  have hin := vP l.length 1 10
  rw [← hL] at hin
  cases hc : inZ l.length 1 10 with
  | false =>
    rw [hL, hc] at hin
    rw [← hL] at hin
    rw [kU, hc, Bool.false_and, Bool.false_and]
    refine PF.enter (xJ _) Tryz.func131 rfl (by kernel_rfl) _ _ rfl rfl rfl (fun w0 mu I0 β0 gi dis => ?_)
    (repeat' (first|(apply xW;((exact Want.none_ rfl)))|(apply xF zI;exact rfl;exact rfl)|apply zR|apply AWp.Q|apply zH|apply AWp.G|apply AWp.R|apply zK|(apply AWp.T;exact rfl;((exact rfl)))|(apply yA;(iterate 6 exact rfl);(iterate 2 (focus (repeat (first|exact VAs.nil|apply VAs.cons|apply VA.c|exact VCs.nil|exact VC.imm (Imm.v _)))));((exact hin));(focus (repeat ((exact Flat.v _))));((apply yJ));((exact xB _ _)))))
    (((refine zV _ [] (.cons (zN rfl) .nil) ?_ rfl ?_)) <;> (repeat' (first|exact trivial|exact rfl)))
  | true =>
    rw [hL, hc] at hin
    rw [← hL] at hin
    refine PF.enter (xJ _) Tryz.func131 rfl (by kernel_rfl) _ _ rfl rfl rfl (fun w0 mu I0 β0 gi dis => ?_)
    (repeat' (first|(apply xW;((exact Want.none_ rfl)))|(apply xF zI;exact rfl;exact rfl)|(((apply y3))<;>(first|exact rfl|refine yG ?_|omega))|apply zR|apply AWp.Q|apply zH|apply AWp.G|apply AWp.B|apply AWp.J|(apply AWp.F;exact rfl;((exact rfl)))|(apply yA;(iterate 6 exact rfl);(iterate 2 (focus (repeat (first|exact VAs.nil|apply VAs.cons|apply VA.c|exact VCs.nil|exact VC.imm (Imm.v _)))));((exact hin));(focus (repeat ((exact Flat.v _))));((apply yJ));((exact xB _ _)))))
    refine AWp.U (σ := Nat) (fun k => ⟨[(0, .c (.sl (l.map xL))), (3, .c (int ((l.length : Int) - 1 + lnA l k))), (4, .c (int k))], [], 0⟩) (fun k => k ≤ l.length ∧ (l.take k).all x6 = true) (fun k => l.length - k) 0 ⟨Nat.zero_le _, rfl⟩ ?_ ?_
    · refine Weak.of [] rfl ?_ ?_ <;> (repeat' (first|exact trivial|exact rfl|apply And.intro|refine vwI ?_))
      rw [hL]
      show _ = _ + (((0 : Nat) : Int))
      omega
    · rintro k ⟨hk, hall⟩
      have hle := lnA_le hb k hk
      by_cases hlt : k < l.length
      · obtain ⟨a, ha⟩ := xT hlt
        have ha' : (l.map xL)[k]? = some (xL a) := xY ha
        have hlt' : (k : Int) < ((l.map xL).length : Int) := by omega
        have h3 := hb.2 a (List.mem_of_getElem? ha)
        have hfl := fmtA_len a
        have hf := l5Format_pf a (by omega)
        have hg := l5Good_pf a (by omega)
        cases hga : x6 a with
        | true =>
          rw [hga] at hg
          have hall' : (l.take (k + 1)).all x6 = true := by rw [x5 ha, hall, hga]; rfl
          (repeat' (first|(apply xW;((exact Want.none_ rfl)))|(apply xF zI;exact rfl;exact rfl)|((first|apply zZ|(apply yN;exact rfl;exact rfl))<;>(first|exact zI|exact rfl|refine yG ?_|assumption|omega))|apply zR|apply AWp.Q|apply zH|apply AWp.G|apply AWp.B|apply AWp.J|apply zJ|(apply AWp.T;exact rfl;((exact dT ‹_›)))|(apply AWp.F;exact rfl;((exact rfl)))|(apply yA;(iterate 6 exact rfl);(iterate 2 (focus (repeat (first|exact VAs.nil|apply VAs.cons|apply VA.agg|exact VCs.nil|apply VCs.cons|exact VC.imm (Imm.v _)))));(first|exact hg|exact hf);(focus (repeat ((exact Flat.v _))));((apply yJ));((exact xB _ _)))))
          refine ⟨k + 1, ⟨by omega, hall'⟩, by omega, ?_⟩
          rw [lnA_succ ha]
          refine Weak.of [] rfl ?_ ?_ <;> (repeat' (first|exact trivial|exact rfl|apply And.intro|(apply cgI;(omega))))
        | false =>
          rw [hga] at hg
          have e : kU l = false := by rw [kU, vK ha hga, Bool.and_false, Bool.false_and]
          rw [e]
          (repeat' (first|(apply xW;((exact Want.none_ rfl)))|(apply xF zI;exact rfl;exact rfl)|(((apply yN;exact rfl;exact rfl))<;>(first|exact zI|exact rfl|refine yG ?_|assumption))|apply zR|apply AWp.Q|apply zH|apply AWp.G|apply AWp.B|apply AWp.J|apply AWp.R|apply zK|apply zL|(apply AWp.T;exact rfl;(first|exact dT ‹_›|exact rfl))|(apply yA;(iterate 6 exact rfl);(iterate 2 (focus (repeat (first|exact VAs.nil|apply VAs.cons|apply VA.agg|exact VCs.nil|apply VCs.cons|exact VC.imm (Imm.v _)))));((exact hg));(focus (repeat ((exact Flat.v _))));((apply yJ));((exact xB _ _)))))
          (((refine zV _ [] (.cons (zN rfl) .nil) ?_ rfl ?_)) <;> (repeat' (first|exact trivial|exact rfl)))
      · have hlt' : ¬ (k : Int) < ((l.map xL).length : Int) := by omega
        obtain rfl : k = l.length := by omega
        rw [List.take_of_length_le (Nat.le_refl _)] at hall
        (repeat' (first|(apply xW;((exact Want.none_ rfl)))|(apply xF zI;exact rfl;exact rfl)|apply zR|apply AWp.Q|apply zH|apply AWp.G|apply AWp.X|apply AWp.R|apply zQ|apply zO|(apply AWp.F;exact rfl;((exact dF ‹_›)))))
        (((refine zV _ [] (.cons (zN rfl) .nil) ?_ rfl ?_)) <;> (repeat' (first|exact trivial|refine vwB ?_)))
        rw [kU, hc, hall]; rfl
def tkA (l : List Atm) : Nat → List UInt8
  | 0 => []
  | k + 1 => match l[k]? with
    | some a => (if k = 0 then tkA l k else tkA l k ++ [32]) ++ vB a
    | none => tkA l k
theorem tkA_succ {l : List Atm} {k : Nat} {a : Atm} (h : l[k]? = some a) : tkA l (k + 1) = (if k = 0 then tkA l k else tkA l k ++ [32]) ++ vB a := by
  rw [tkA, h]
theorem tkA_le {l : List Atm} {m : Nat} (h : ∀ a ∈ l, a.t.length ≤ m) : ∀ k, k ≤ l.length → (tkA l k).length ≤ (m + 6) * k
  | 0, _ => Nat.le_refl _
  | k + 1, hk => by
    obtain ⟨a, ha⟩ := xT (show k < l.length by omega)
    have h1 := tkA_le h k (by omega)
    have h2 := fmtA_len a
    have h3 := h a (List.mem_of_getElem? ha)
    rw [tkA_succ ha, List.length_append, Nat.mul_succ]
    split
    · omega
    · rw [List.length_append, List.length_cons, List.length_nil]; omega
theorem l5Text_pf (l : List Atm) (hb : AtB l) : PF Tryz.prog 171 [.c (.sl (l.map xL))] [] (.c (str (tkA l l.length))) := by
  have hl := hb.1
  have hL : (l.map xL).length = l.length := List.length_map _
  refine PF.enter (xJ _) Tryz.func171 rfl (by kernel_rfl) _ _ rfl rfl rfl (fun w0 mu I0 β0 gi dis => ?_)
  (repeat' (first|(apply xW;((exact Want.none_ rfl)))|(apply xF zI;exact rfl;exact rfl)|apply zR|apply AWp.Q|apply zH|apply AWp.G|apply AWp.B))
  refine AWp.U (σ := Nat) (fun k => ⟨[(0, .c (.sl (l.map xL))), (3, .c (str (tkA l k))), (4, .c (int k))], [], 0⟩) (fun k => k ≤ l.length) (fun k => l.length - k) 0 (Nat.zero_le _) ?_ ?_
  · refine Weak.of [] rfl ?_ ?_ <;> (repeat' (first|exact trivial|exact rfl|apply And.intro))
  · rintro k hk
    have hle := tkA_le hb.2 k hk
    by_cases hlt : k < l.length
    · obtain ⟨a, ha⟩ := xT hlt
      have ha' : (l.map xL)[k]? = some (xL a) := xY ha
      have hlt' : (k : Int) < ((l.map xL).length : Int) := by omega
      have h3 := hb.2 a (List.mem_of_getElem? ha)
      have hfl := fmtA_len a
      have hf := l5Format_pf a (by omega)
      have hsu := tkA_succ ha
      by_cases h0 : k = 0
      · subst h0
        rw [if_pos rfl] at hsu
        (repeat' (first|(apply xW;((exact Want.none_ rfl)))|(apply xF zI;exact rfl;exact rfl)|((first|(apply z6;exact rfl;exact rfl)|apply zZ|(apply yN;exact rfl;exact rfl))<;>(first|exact zI|exact rfl|refine yG ?_|assumption|omega|((try refine Bd.mk ?_);(omega))))|apply zR|apply AWp.Q|apply zH|apply AWp.G|apply AWp.B|apply AWp.J|apply zJ|(apply AWp.T;exact rfl;((exact dT ‹_›)))|(apply AWp.F;exact rfl;((exact rfl)))|(apply yA;(iterate 6 exact rfl);(iterate 2 (focus (repeat (first|exact VAs.nil|apply VAs.cons|apply VA.agg|exact VCs.nil|apply VCs.cons|exact VC.imm (Imm.v _)))));((exact hf));(focus (repeat ((exact Flat.v _))));((apply yJ));((exact xB _ _)))))
        refine ⟨1, by omega, by omega, ?_⟩
        rw [hsu]
        refine Weak.of [] rfl ?_ ?_ <;> (repeat' (first|exact trivial|exact rfl|apply And.intro))
      · have h0' : (0 : Int) < (k : Int) := by omega
        rw [if_neg h0] at hsu
        (repeat' (first|(apply xW;((exact Want.none_ rfl)))|(apply xF zI;exact rfl;exact rfl)|((first|(apply z6;exact rfl;exact rfl)|apply zZ|(apply yN;exact rfl;exact rfl))<;>(first|exact zI|exact rfl|refine yG ?_|assumption|omega|((try refine Bd.mk ?_);(simp;omega))))|apply zR|apply AWp.Q|apply zH|apply AWp.G|apply AWp.B|apply AWp.J|apply zJ|(apply AWp.T;exact rfl;((exact dT ‹_›)))|(apply yA;(iterate 6 exact rfl);(iterate 2 (focus (repeat (first|exact VAs.nil|apply VAs.cons|apply VA.agg|exact VCs.nil|apply VCs.cons|exact VC.imm (Imm.v _)))));((exact hf));(focus (repeat ((exact Flat.v _))));((apply yJ));((exact xB _ _)))))
        refine ⟨k + 1, by omega, by omega, ?_⟩
        rw [hsu]
        refine Weak.of [] rfl ?_ ?_ <;> (repeat' (first|exact trivial|exact rfl|apply And.intro))
    · have hlt' : ¬ (k : Int) < ((l.map xL).length : Int) := by omega
      obtain rfl : k = l.length := by omega
      (repeat' (first|(apply xW;((exact Want.none_ rfl)))|(apply xF zI;exact rfl;exact rfl)|apply zR|apply AWp.Q|apply zH|apply AWp.G|apply AWp.X|apply AWp.R|apply zQ|apply zO|(apply AWp.F;exact rfl;((exact dF ‹_›)))))
      (((refine zV _ [] (.cons (zN rfl) .nil) ?_ rfl ?_)) <;> (repeat' (first|exact trivial|exact rfl)))
end Go.Proofs.YtjeffognhcbiaaaGreatDoor
