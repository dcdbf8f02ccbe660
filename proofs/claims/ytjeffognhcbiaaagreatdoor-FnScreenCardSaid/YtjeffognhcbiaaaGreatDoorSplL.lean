/- strings.Split and strings.Cut at one byte, in plain words. No conditions. -/
import Derived.Test.YtjeffognhcbiaaaGreatDoorStrs
import Derived.Test.YtjeffognhcbiaaaGreatDoorSLib
namespace Go.Proofs.YtjeffognhcbiaaaGreatDoor
open Go Go.RowKit
def joinHd (p : List UInt8) : List (List UInt8) → List (List UInt8)
  | [] => []
  | h :: t => (p ++ h) :: t
def spl (b : UInt8) : List UInt8 → List (List UInt8)
  | [] => [[]]
  | c :: r => if c = b then [] :: spl b r else joinHd [c] (spl b r)
theorem joinHd_nil (x : List (List UInt8)) : joinHd [] x = x := by cases x <;> simp [joinHd]
theorem joinHd_join (p q : List UInt8) (x : List (List UInt8)) : joinHd p (joinHd q x) = joinHd (p ++ q) x := by cases x <;> simp [joinHd]
theorem joinHd_len (p : List UInt8) (x : List (List UInt8)) : (joinHd p x).length = x.length := by cases x <;> simp [joinHd]
theorem kB (b : UInt8) : ∀ l : List UInt8, 1 ≤ (spl b l).length ∧ (spl b l).length ≤ l.length + 1
  | [] => by simp [spl]
  | c :: r => by
    have := kB b r
    rw [spl]
    split
    · simp only [List.length_cons]; omega
    · simp only [joinHd_len, List.length_cons]; omega
theorem spl_mem (b : UInt8) : ∀ (l : List UInt8), ∀ x ∈ spl b l, x.length ≤ l.length
  | [], x, hx => by simp [spl] at hx; simp [hx]
  | c :: r, x, hx => by
    have ih := spl_mem b r
    rw [spl] at hx
    split at hx
    · rcases List.mem_cons.1 hx with rfl | hx
      · simp
      · have := ih x hx; simp only [List.length_cons]; omega
    · cases hs : spl b r with
      | nil => rw [hs] at hx; simp [joinHd] at hx
      | cons h t =>
        rw [hs] at hx ih
        rcases List.mem_cons.1 hx with rfl | hx
        · have := ih h (by simp); simp only [List.length_append, List.length_nil, List.length_cons]; omega
        · have := ih x (by simp [hx]); simp only [List.length_cons]; omega
theorem spl_no {b : UInt8} : ∀ {p : List UInt8}, b ∉ p → spl b p = [p]
  | [], _ => rfl
  | c :: p, h => by
    simp only [List.mem_cons, not_or] at h
    rw [spl, if_neg (fun e => h.1 e.symm), spl_no h.2]
    rfl
theorem spl_hit {b : UInt8} (r : List UInt8) : ∀ {p : List UInt8}, b ∉ p → spl b (p ++ b :: r) = p :: spl b r
  | [], _ => by rw [List.nil_append, spl, if_pos rfl]
  | c :: p, h => by
    simp only [List.mem_cons, not_or] at h
    rw [List.cons_append, spl, if_neg (fun e => h.1 e.symm), spl_hit r h.2]
    rfl
theorem piece_succ {l : List UInt8} {f k : Nat} {c : UInt8} (hf : f ≤ k) (hc : l[k]? = some c) : (l.drop f).take (k + 1 - f) = (l.drop f).take (k - f) ++ [c] := by
  rw [show k + 1 - f = (k - f) + 1 by omega, List.take_add_one, List.getElem?_drop, show f + (k - f) = k by omega, hc]
  rfl
theorem dropAt {l : List UInt8} {k : Nat} {c : UInt8} (hc : l[k]? = some c) : l.drop k = c :: l.drop (k + 1) := by
  obtain ⟨h1, h2⟩ := List.getElem?_eq_some_iff.1 hc
  rw [List.drop_eq_getElem_cons h1, h2]
theorem l1Split_pf (l : List UInt8) (b : UInt8) (hl : l.length ≤ 4000000) : PF Tryz.prog 129 [.c (str l), .c (.v (.int .u8 b.toNat))] [⟨9, 1, (spl b l).map wE⟩] (.c (.ref 0 0 (spl b l).length)) := by
  refine PF.enter (xG _ _) Tryz.func129 rfl (by kernel_rfl) _ _ rfl rfl rfl (fun w0 mu I0 β0 gi dis => ?_)
  (repeat' (first|(apply xW;((exact Want.none_ rfl)))|(apply xF zI;exact rfl;exact rfl)|(((apply zU))<;>(first|exact zI|exact rfl|refine yG ?_))|apply zR|apply AWp.Q|apply zH|apply AWp.G|apply AWp.B))
  refine AWp.U (σ := Nat × Nat × List (List UInt8)) (fun s => ⟨[(0, .c (str l)), (1, .c (.v (.int .u8 b.toNat))), (5, .c (.ref 0 0 s.2.2.length)), (6, .c (int s.2.1)), (7, .c (int s.1))], [(0, some ⟨9, 1, s.2.2.map wE⟩)], 1⟩)
    (fun s => s.2.1 ≤ s.1 ∧ s.1 ≤ l.length ∧ s.2.2.length ≤ s.1 ∧ spl b l = s.2.2 ++ joinHd ((l.drop s.2.1).take (s.1 - s.2.1)) (spl b (l.drop s.1))) (fun s => l.length - s.1) (0, 0, []) ⟨Nat.le_refl _, Nat.zero_le _, Nat.le_refl _, by simp [joinHd_nil]⟩ ?_ ?_
  · refine Weak.of [(0, some 0)] rfl ?_ ?_ <;> (repeat' (first|exact trivial|exact rfl|apply And.intro|refine oWs rfl rfl rfl ?_ ?_|(refine aIm ?_;(exact AllSc.nil))))
  · rintro ⟨k, f, out⟩ ⟨hf, hk, ho, he⟩
    dsimp only at hf hk ho he ⊢
    by_cases hlt : k < l.length
    · obtain ⟨c, hc⟩ := xT hlt
      have hlt' : (k : Int) < (l.length : Int) := by omega
      have hL : (out.map wE).length = out.length := List.length_map _
      have hd := dropAt hc
      by_cases hcb : c = b
      · have hb' : (c.toNat : Int) = (b.toNat : Int) := by rw [hcb]
        (repeat' (first|(apply xW;((exact Want.none_ rfl)))|(apply xF zI;exact rfl;exact rfl)|((first|apply zZ|apply xD|apply zU|(apply yZ;exact rfl;exact rfl)|(apply yM;exact rfl;exact rfl))<;>(first|exact zI|exact rfl|refine yG ?_|assumption|omega|exact ⟨rfl,_,_,rfl,rfl⟩|(refine Bd.mk ?_;first|(focus (simp;done))|(simp;omega))))|apply zR|apply AWp.Q|apply zH|apply AWp.G|apply AWp.B|apply AWp.J|apply zJ|(apply AWp.T;exact rfl;((exact dT ‹_›)))))
        refine ⟨(k + 1, k + 1, out ++ [(l.drop f).take (k - f)]), ⟨Nat.le_refl _, by omega, by simp; omega, ?_⟩, by dsimp only; omega, ?_⟩
        · rw [he, hd, spl, if_pos hcb, joinHd, Nat.sub_self, List.take_zero, joinHd_nil, List.append_nil]
          simp
        · refine Weak.of [(0, some 2)] rfl ?_ ?_ <;> (repeat' (first|exact trivial|exact rfl|apply And.intro|(refine z8 ?_;(focus (simp;done)))|refine oWs rfl rfl rfl ?_ ?_))
          · simp [wE]
          · exact (x3 _).imm
      · have hb' : ¬ (c.toNat : Int) = (b.toNat : Int) := fun e => hcb (by
          have : c.toNat = b.toNat := by omega
          exact UInt8.toNat_inj.1 this)
        (repeat' (first|(apply xW;((exact Want.none_ rfl)))|(apply xF zI;exact rfl;exact rfl)|((first|apply zZ|apply xD)<;>(first|exact zI|exact rfl|refine yG ?_|assumption|omega))|apply zR|apply AWp.Q|apply zH|apply AWp.G|apply AWp.B|apply AWp.J|apply zJ|(apply AWp.T;exact rfl;((exact dT ‹_›)))|(apply AWp.F;exact rfl;((exact dF ‹_›)))))
        refine ⟨(k + 1, f, out), ⟨by dsimp only; omega, by omega, by dsimp only; omega, ?_⟩, by dsimp only; omega, ?_⟩
        · dsimp only
          rw [he, hd, spl, if_neg hcb, joinHd_join, piece_succ hf hc]
        · refine Weak.of [(0, some 0)] rfl ?_ ?_ <;> (repeat' (first|exact trivial|exact rfl|apply And.intro|refine oWs rfl rfl rfl ?_ ?_))
          exact (x3 _).imm
    · have hlt' : ¬ (k : Int) < (l.length : Int) := by omega
      have hkl : k = l.length := by omega
      subst hkl
      have hL : (out.map wE).length = out.length := List.length_map _
      have e : spl b l = out ++ [(l.drop f).take (l.length - f)] := by
        rw [he, List.drop_length]
        simp [spl, joinHd]
      rw [e]
      (repeat' (first|(apply xW;((exact Want.none_ rfl)))|(apply xF zI;exact rfl;exact rfl)|((first|apply zU|(apply yZ;exact rfl;exact rfl)|(apply yM;exact rfl;exact rfl))<;>(first|exact zI|exact rfl|refine yG ?_|assumption|omega|exact ⟨rfl⟩|exact ⟨rfl,_,_,rfl,rfl⟩|(refine Bd.mk ?_;first|(focus (simp;done))|(simp;omega))))|apply zR|apply AWp.Q|apply zH|apply AWp.G|apply AWp.X|apply AWp.R|apply zQ|apply zO|(apply AWp.F;exact rfl;((exact dF ‹_›)))))
      (((refine zV _ [(0, some 2)] (.cons (zN rfl) .nil) ?_ rfl ?_)) <;> (repeat' (first|exact trivial|exact rfl|apply And.intro|(refine z8 ?_;(focus (simp;done)))|refine oWs rfl rfl rfl ?_ ?_)))
      · simp [wE]
      · exact (x3 _).imm
end Go.Proofs.YtjeffognhcbiaaaGreatDoor
namespace Go.Proofs.YtjeffognhcbiaaaGreatDoor
open Go Go.RowKit
theorem ixB_no {b : UInt8} : ∀ {p : List UInt8}, b ∉ p → Lib.indexByte p b = -1
  | [], _ => rfl
  | c :: p, h => by
    simp only [List.mem_cons, not_or] at h
    rw [Lib.indexByte, if_neg (by simpa using fun e => h.1 e.symm), ixB_no h.2]
    rfl
theorem ixB_hit {b : UInt8} (r : List UInt8) : ∀ {p : List UInt8}, b ∉ p → Lib.indexByte (p ++ b :: r) b = p.length
  | [], _ => by rw [List.nil_append, Lib.indexByte, if_pos (by simp)]; rfl
  | c :: p, h => by
    simp only [List.mem_cons, not_or] at h
    rw [List.cons_append, Lib.indexByte, if_neg (by simpa using fun e => h.1 e.symm), ixB_hit r h.2, if_neg (by simp), List.length_cons]
    omega
theorem splK {b : UInt8} : ∀ (n : Nat) (l : List UInt8), l.length < n → Lib.countFrom [b] n l + 1 = (spl b l).length ∧ ∀ k, (spl b l).length ≤ k + 1 → Lib.splitK [b] 0 k l = spl b l
  | 0, l, h => absurd h (Nat.not_lt_zero _)
  | n + 1, l, h => by
    by_cases hb : b ∈ l
    · obtain ⟨p, r, rfl, hp⟩ := List.eq_append_cons_of_mem hb
      have hl : r.length < n := by simp only [List.length_append, List.length_cons] at h; omega
      obtain ⟨h1, h2⟩ := splK (b := b) n r hl
      have hd : (p ++ b :: r).drop (p.length + 1) = r := by simp [List.drop_append]
      have hx : ¬ ((p.length : Int) == -1) = true := by simp
      rw [spl_hit r hp, List.length_cons]
      refine ⟨?_, fun k hk => ?_⟩
      · rw [Lib.countFrom, Lib.index_one, ixB_hit r hp, if_neg hx, Int.toNat_natCast, List.length_singleton, hd]
        omega
      · obtain ⟨k, rfl⟩ : ∃ j, k = j + 1 := ⟨k - 1, by have := (kB b r).1; omega⟩
        rw [Lib.splitK, Lib.index_one, ixB_hit r hp, if_neg hx, Int.toNat_natCast, List.length_singleton, hd, h2 k (by omega), Nat.add_zero, List.take_left' rfl]
    · rw [spl_no hb]
      refine ⟨?_, fun k _ => ?_⟩
      · rw [Lib.countFrom, Lib.index_one, ixB_no hb]; rfl
      · cases k with
        | zero => rfl
        | succ k => rw [Lib.splitK, Lib.index_one, ixB_no hb]; rfl
theorem splitL_one (l : List UInt8) (b : UInt8) : wS l [b] = spl b l := by
  rw [wS, Lib.splitB_data]
  obtain ⟨h1, h2⟩ := splK (b := b) (l.length + 1) l (Nat.lt_succ_self _)
  exact h2 _ (by rw [← h1]; exact Nat.le_refl _)
end Go.Proofs.YtjeffognhcbiaaaGreatDoor
