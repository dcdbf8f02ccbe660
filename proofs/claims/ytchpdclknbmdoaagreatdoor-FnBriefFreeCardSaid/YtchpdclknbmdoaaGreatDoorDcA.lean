/- Drawn strokes and outlines, of which the bounds alone matter. -/
import Derived.Test.YtchpdclknbmdoaaGreatDoorCur3
import Derived.Test.YtchpdclknbmdoaaGreatDoorRL
namespace Go.Proofs.YtchpdclknbmdoaaGreatDoor
open Go Go.RowKit
def fewL : List Int := [524552, 260, 1048576, 262144]
def strL : List Int := [524552, 260, 1048576, 262144, 4194304, 514, 8, 2064, 2097152]
def badL : List Int := [0, -1, 8388608, 8388607, 1, 1099511627776]
theorem dor {a b : Nat} (ha : a < 8388608) (hb : b < 8388608) : a ||| b < 8388608 := Nat.or_lt_two_pow (n := 23) ha hb
def skS (xs : Nat → Nat) : Nat → Nat
  | 0 => 0
  | k + 1 => skS xs k ||| 2 ^ xs k
theorem skS_lt {xs : Nat → Nat} {n : Nat} (h : ∀ j, j < n → xs j < 23) : ∀ k, k ≤ n → skS xs k < 8388608
  | 0, _ => by show 0 < 8388608; decide
  | k + 1, hk => by
    have h1 : 2 ^ xs k < 2 ^ 23 := Nat.pow_lt_pow_right (by omega) (h k (by omega))
    exact dor (skS_lt h k (by omega)) h1
section
variable (code : List UInt8) (c : Cur) (hl : code.length ≤ 65536) (hc : c.a ≤ 7000000)
include hl hc
theorem few_ex : ∃ (c' : Cur) (x : Int), c'.a ≤ c.a + 1 ∧ (0 ≤ x ∧ x < 8388608) ∧ PFM Tryz.prog 136 [xT code c] [.c (.ptr 0 0 0)] [some (xT code c')] (.c (int x)) := by
  obtain ⟨c1, x, a1, hx, p1⟩ := among_ex code c hl (by omega) fewL 4 (by omega) (by decide)
  have i1 := qF (b := ⟨3, 1, fewL.map y4⟩) (yL code c1) (xJ fewL).imm
  have j1 := kQ (b := ⟨3, 1, fewL.map y4⟩) (yL code c) (xJ fewL).imm
  refine ⟨c1, x, a1, ?_, ?_⟩
  · have h : ∀ y ∈ fewL, 0 ≤ y ∧ y < 8388608 := by decide
    exact h x hx
  refine zD (xI _) (xV _) rfl Tryz.func136 rfl (by kernel_rfl) _ _ rfl rfl rfl (fun w0 mu I0 β0 gi dis => ?_)
  (repeat' (first|(apply xW;((exact Want.none_ rfl)))|(apply xF zK;exact rfl;exact rfl)|(((apply zQ))<;>(first|exact zK|exact rfl|refine yO ?_))|apply zV|apply AWp.Q|apply zJ|apply AWp.G|apply AWp.R|(apply (zY (p1));(iterate 7 exact rfl);(focus (repeat (first|exact All2.nil|refine All2.cons rfl ?_)));exact rfl;(focus (repeat (first|exact MAs.nil|apply MAs.cons|apply MA.c|exact MC.ref rfl|exact MC.ptr rfl)));((assumption));((assumption));exact rfl;exact rfl)))
  (((refine z6 _ [(0, some 0)] (.cons (zT rfl) .nil) ?_ rfl ?_)) <;> (repeat' (first|exact trivial|exact rfl|apply And.intro|refine ⟨_,rfl,rfl,rfl,OW.one ?_⟩)))
  all_goals exact yL _ _
theorem stroke_ex : ∃ (c' : Cur) (x : Int), c'.a ≤ c.a + 12 ∧ (0 ≤ x ∧ x < 8388608) ∧ PFM Tryz.prog 182 [xT code c] [.c (.ptr 0 0 0)] [some (xT code c')] (.c (int x)) := by
  obtain ⟨c1, b, a1, p1⟩ := kN code c hl (by omega) 2 (by omega)
  have i1 := y5 (yL code c1)
  have j1 := wE (yL code c)
  cases b with
  | true =>
    obtain ⟨c2, x, a2, hx, p2⟩ := among_ex code c1 hl (by omega) strL 9 (by omega) (by decide)
    have i2 := qF (b := ⟨3, 1, strL.map y4⟩) (yL code c2) (xJ strL).imm
    have j2 := kQ (b := ⟨3, 1, strL.map y4⟩) (yL code c1) (xJ strL).imm
    refine ⟨c2, x, by omega, ?_, ?_⟩
    · have h : ∀ y ∈ strL, 0 ≤ y ∧ y < 8388608 := by decide
      exact h x hx
    refine zD (xI _) (xV _) rfl Tryz.func182 rfl (by kernel_rfl) _ _ rfl rfl rfl (fun w0 mu I0 β0 gi dis => ?_)
    (repeat' (first|(apply xW;((exact Want.none_ rfl)))|(apply xF zK;exact rfl;exact rfl)|(((apply zQ))<;>(first|exact zK|exact rfl|refine yO ?_))|apply zV|apply AWp.Q|apply zJ|apply AWp.G|apply AWp.R|apply zM|(apply AWp.T;exact rfl;((exact rfl)))|(apply (zY (p1));(iterate 7 exact rfl);(focus (repeat (first|exact All2.nil|refine All2.cons rfl ?_)));exact rfl;(focus (repeat (first|exact MAs.nil|apply MAs.cons|apply MA.c|exact MC.ptr rfl|exact MC.vc (VC.imm (Imm.v _)))));((assumption));((assumption));exact rfl;exact rfl)|(apply (zY (p2));(iterate 7 exact rfl);(focus (repeat (first|exact All2.nil|refine All2.cons rfl ?_)));exact rfl;(focus (repeat (first|exact MAs.nil|apply MAs.cons|apply MA.c|exact MC.ref rfl|exact MC.ptr rfl)));((assumption));((assumption));exact rfl;exact rfl)))
    (((refine z6 _ [(0, some 0)] (.cons (zT rfl) .nil) ?_ rfl ?_)) <;> (repeat' (first|exact trivial|exact rfl|apply And.intro|refine ⟨_,rfl,rfl,rfl,OW.one ?_⟩)))
    all_goals exact yL _ _
  | false =>
    obtain ⟨c2, n0, a2, hn0, p2⟩ := vB code c1 hl (by omega) 4 (by omega)
    have i2 := y5 (yL code c2)
    have j2 := wE (yL code c1)
    obtain ⟨cs, xs, hc0, hcs⟩ := seq_ex (X := Nat) (fun c c' s => s < 23 ∧ PFM Tryz.prog 77 [xT code c] [.c (.ptr 0 0 0), .c (int ((23 : Nat) : Int))] [some (xT code c')] (.c (int (s : Nat)))) 2 9000000 (fun c hc => vB code c hl (by omega) 23 (by omega)) c2 (1 + n0) (by omega)
    subst hc0
    have hx : ∀ j, j < 1 + n0 → xs j < 23 := fun j hj => (hcs j (by omega)).2.2.1
    have aN := (hcs (1 + n0) (Nat.le_refl _)).1
    have hS := skS_lt hx
    refine ⟨cs (1 + n0), (skS xs (1 + n0) : Nat), by omega, ⟨by omega, by have := hS (1 + n0) (Nat.le_refl _); omega⟩, ?_⟩
    refine zD (xI _) (xV _) rfl Tryz.func182 rfl (by kernel_rfl) _ _ rfl rfl rfl (fun w0 mu I0 β0 gi dis => ?_)
    (repeat' (first|(apply xW;((exact Want.none_ rfl)))|(apply xF zK;exact rfl;exact rfl)|(((apply yF))<;>(first|exact rfl|refine yO ?_|omega))|apply zV|apply AWp.Q|apply zJ|apply AWp.G|apply AWp.B|apply AWp.J|(apply AWp.F;exact rfl;((exact rfl)))|(apply (zY (p1));(iterate 7 exact rfl);(focus (repeat (first|exact All2.nil|refine All2.cons rfl ?_)));exact rfl;(focus (repeat (first|exact MAs.nil|apply MAs.cons|apply MA.c|exact MC.ptr rfl|exact MC.vc (VC.imm (Imm.v _)))));((assumption));((assumption));exact rfl;exact rfl)|(apply (zY (p2));(iterate 7 exact rfl);(focus (repeat (first|exact All2.nil|refine All2.cons rfl ?_)));exact rfl;(focus (repeat (first|exact MAs.nil|apply MAs.cons|apply MA.c|exact MC.ptr rfl|exact MC.vc (VC.imm (Imm.v _)))));((assumption));((assumption));exact rfl;exact rfl)))
    refine AWp.U (σ := Nat) (fun j => ⟨[(0, .c (.ptr 0 0 0)), (3, .c (int (skS xs j : Nat))), (4, .c (int (1 + (n0 : Int) - j)))], [(0, some (xT code (cs j)))], 1⟩) (fun j => j ≤ 1 + n0) (fun j => 1 + n0 - j) 0 (Nat.zero_le _) ?_ ?_
    · refine Weak.of [(0, some 0)] rfl ?_ ?_ <;> (repeat' (first|exact trivial|exact rfl|apply And.intro|refine ⟨_,rfl,rfl,rfl,OW.one ?_⟩))
      all_goals exact yL _ _
    · intro j hj
      have hb := hS j hj
      obtain ⟨ha, hb2, hx2, hpf⟩ := hcs j hj
      by_cases hlt : j < 1 + n0
      · have hlt' : (0 : Int) < 1 + (n0 : Int) - j := by omega
        have hz : skS xs (j + 1) = skS xs j ||| 2 ^ xs j := rfl
        have hpw : 2 ^ xs j < 2 ^ 23 := Nat.pow_lt_pow_right (by omega) hx2
        have hw : IntKind.u64.wrap (xs j : Int) = (xs j : Int) := by
          show (xs j : Int) % 18446744073709551616 = xs j
          omega
        have k1 := y5 (yL code (cs (j + 1)))
        have m1 := wE (yL code (cs j))
        (repeat' (first|(apply xW;((exact Want.none_ rfl)))|(apply xF zK;exact rfl;exact rfl)|(((apply yW))<;>(first|exact rfl|refine yO ?_|omega))|apply zV|apply AWp.Q|apply zJ|apply AWp.G|apply AWp.B|apply AWp.J|apply zL|(apply AWp.T;exact rfl;((exact dT ‹_›)))|(apply (zY (hpf));(iterate 7 exact rfl);(focus (repeat (first|exact All2.nil|refine All2.cons rfl ?_)));exact rfl;(focus (repeat (first|exact MAs.nil|apply MAs.cons|apply MA.c|exact MC.ptr rfl|exact MC.vc (VC.imm (Imm.v _)))));((assumption));((assumption));exact rfl;exact rfl)|((first|(apply vO;exact rfl;exact rfl;exact rfl)|(apply wU;exact rfl;exact rfl;exact rfl;((assumption))))<;>(first|refine yO ?_|((try refine Bd.mk ?_);(omega))))))
        refine ⟨j + 1, by omega, by omega, ?_⟩
        rw [hz]
        refine Weak.of [(0, some 0)] rfl ?_ ?_ <;> (repeat' (first|exact trivial|exact rfl|apply And.intro|(apply cgI;(omega))|refine ⟨_,rfl,rfl,rfl,OW.one ?_⟩))
        all_goals exact yL _ _
      · have hlt' : ¬ (0 : Int) < 1 + (n0 : Int) - j := by omega
        obtain rfl : j = 1 + n0 := by omega
        (repeat' (first|(apply xW;((exact Want.none_ rfl)))|(apply xF zK;exact rfl;exact rfl)|apply zV|apply AWp.Q|apply zJ|apply AWp.G|apply AWp.X|apply AWp.R|apply zU|apply zR|(apply AWp.F;exact rfl;((exact dF ‹_›)))))
        (((refine z6 _ [(0, some 0)] (.cons (zT rfl) .nil) ?_ rfl ?_)) <;> (repeat' (first|exact trivial|exact rfl|apply And.intro|refine ⟨_,rfl,rfl,rfl,OW.one ?_⟩)))
        all_goals exact yL _ _
end
theorem rng_len (xs : Nat → Int) (j : Nat) : ((List.range j).map xs).length = j := by simp
theorem rng_succ (xs : Nat → Int) (j : Nat) : (List.range (j + 1)).map xs = (List.range j).map xs ++ [xs j] := by rw [List.range_succ, List.map_append]; rfl
theorem wB (l : List Int) (y : Int) : (l ++ [y]).map y4 = l.map y4 ++ [[int y]] := by rw [List.map_append]; rfl
def DS (l : List Int) : Prop := ∀ x ∈ l, -1 ≤ x ∧ x ≤ 1099511627776
section
variable (code : List UInt8) (c : Cur) (hl : code.length ≤ 65536) (hc : c.a ≤ 6000000)
include hl hc
theorem anyStroke_ex : ∃ (c' : Cur) (x : Int), c'.a ≤ c.a + 13 ∧ (-1 ≤ x ∧ x ≤ 1099511627776) ∧ PFM Tryz.prog 154 [xT code c] [.c (.ptr 0 0 0)] [some (xT code c')] (.c (int x)) := by
  obtain ⟨c1, b, a1, p1⟩ := kN code c hl (by omega) 12 (by omega)
  have i1 := y5 (yL code c1)
  have j1 := wE (yL code c)
  cases b with
  | true =>
    obtain ⟨c2, x, a2, hx, p2⟩ := among_ex code c1 hl (by omega) badL 6 (by omega) (by decide)
    have i2 := qF (b := ⟨3, 1, badL.map y4⟩) (yL code c2) (xJ badL).imm
    have j2 := kQ (b := ⟨3, 1, badL.map y4⟩) (yL code c1) (xJ badL).imm
    refine ⟨c2, x, by omega, ?_, ?_⟩
    · have h : ∀ y ∈ badL, -1 ≤ y ∧ y ≤ 1099511627776 := by decide
      exact h x hx
    refine zD (xI _) (xV _) rfl Tryz.func154 rfl (by kernel_rfl) _ _ rfl rfl rfl (fun w0 mu I0 β0 gi dis => ?_)
    (repeat' (first|(apply xW;((exact Want.none_ rfl)))|(apply xF zK;exact rfl;exact rfl)|(((apply zQ))<;>(first|exact zK|exact rfl|refine yO ?_))|apply zV|apply AWp.Q|apply zJ|apply AWp.G|apply AWp.R|apply zM|(apply AWp.T;exact rfl;((exact rfl)))|(apply (zY (p1));(iterate 7 exact rfl);(focus (repeat (first|exact All2.nil|refine All2.cons rfl ?_)));exact rfl;(focus (repeat (first|exact MAs.nil|apply MAs.cons|apply MA.c|exact MC.ptr rfl|exact MC.vc (VC.imm (Imm.v _)))));((assumption));((assumption));exact rfl;exact rfl)|(apply (zY (p2));(iterate 7 exact rfl);(focus (repeat (first|exact All2.nil|refine All2.cons rfl ?_)));exact rfl;(focus (repeat (first|exact MAs.nil|apply MAs.cons|apply MA.c|exact MC.ref rfl|exact MC.ptr rfl)));((assumption));((assumption));exact rfl;exact rfl)))
    (((refine z6 _ [(0, some 0)] (.cons (zT rfl) .nil) ?_ rfl ?_)) <;> (repeat' (first|exact trivial|exact rfl|apply And.intro|refine ⟨_,rfl,rfl,rfl,OW.one ?_⟩)))
    all_goals exact yL _ _
  | false =>
    obtain ⟨c2, x, a2, hx, p2⟩ := stroke_ex code c1 hl (by omega)
    have i2 := y5 (yL code c2)
    have j2 := wE (yL code c1)
    refine ⟨c2, x, by omega, by omega, ?_⟩
    refine zD (xI _) (xV _) rfl Tryz.func154 rfl (by kernel_rfl) _ _ rfl rfl rfl (fun w0 mu I0 β0 gi dis => ?_)
    (repeat' (first|(apply xW;((exact Want.none_ rfl)))|(apply xF zK;exact rfl;exact rfl)|apply zV|apply AWp.Q|apply zJ|apply AWp.G|apply AWp.J|apply AWp.R|(apply AWp.F;exact rfl;((exact rfl)))|(apply (zY (p1));(iterate 7 exact rfl);(focus (repeat (first|exact All2.nil|refine All2.cons rfl ?_)));exact rfl;(focus (repeat (first|exact MAs.nil|apply MAs.cons|apply MA.c|exact MC.ptr rfl|exact MC.vc (VC.imm (Imm.v _)))));((assumption));((assumption));exact rfl;exact rfl)|(apply (zY (p2));(iterate 7 exact rfl);(focus (repeat (first|exact All2.nil|refine All2.cons rfl ?_)));exact rfl;(focus (repeat (first|exact MAs.nil|apply MAs.cons|apply MA.c|exact MC.ptr rfl)));((assumption));((assumption));exact rfl;exact rfl)))
    (((refine z6 _ [(0, some 0)] (.cons (zT rfl) .nil) ?_ rfl ?_)) <;> (repeat' (first|exact trivial|exact rfl|apply And.intro|refine ⟨_,rfl,rfl,rfl,OW.one ?_⟩)))
    all_goals exact yL _ _
theorem outline_ex : ∃ (c' : Cur) (l : List Int), c'.a ≤ c.a + 42 ∧ (1 ≤ l.length ∧ l.length ≤ 3 ∧ DS l) ∧ PFM Tryz.prog 173 [xT code c] [.c (.ptr 0 0 0)] [some (xT code c'), some ⟨3, 1, l.map y4⟩] (.c (.ref 1 0 l.length)) := by
  obtain ⟨c1, n0, a1, hn0, p1⟩ := vB code c hl (by omega) 3 (by omega)
  have i1 := y5 (yL code c1)
  have j1 := wE (yL code c)
  obtain ⟨cs, xs, hc0, hcs⟩ := seq_ex (X := Int) (fun c c' x => (-1 ≤ x ∧ x ≤ 1099511627776) ∧ ∃ (b : Bool) (cm : Cur), PFM Tryz.prog 75 [xT code c] [.c (.ptr 0 0 0), .c (int ((5 : Nat) : Int))] [some (xT code cm)] (.c (boo b)) ∧
      (b = true → PFM Tryz.prog 182 [xT code cm] [.c (.ptr 0 0 0)] [some (xT code c')] (.c (int x))) ∧ (b = false → PFM Tryz.prog 136 [xT code cm] [.c (.ptr 0 0 0)] [some (xT code c')] (.c (int x)))) 13 6000100 (fun c hc => by
    obtain ⟨cm, b, am, pm⟩ := kN code c hl (by omega) 5 (by omega)
    cases b with
    | true =>
      obtain ⟨c2, x, a2, hx, p2⟩ := stroke_ex code cm hl (by omega)
      exact ⟨c2, x, by omega, by omega, true, cm, pm, fun _ => p2, fun h => by cases h⟩
    | false =>
      obtain ⟨c2, x, a2, hx, p2⟩ := few_ex code cm hl (by omega)
      exact ⟨c2, x, by omega, by omega, false, cm, pm, fun h => (by cases h), fun _ => p2⟩) c1 (1 + n0) (by omega)
  subst hc0
  have aN := (hcs (1 + n0) (Nat.le_refl _)).1
  refine ⟨cs (1 + n0), (List.range (1 + n0)).map xs, by omega, ⟨by rw [rng_len]; omega, by rw [rng_len]; omega, ?_⟩, ?_⟩
  · intro x hx
    obtain ⟨j, hj, rfl⟩ := List.mem_map.1 hx
    exact (hcs j (by have := List.mem_range.1 hj; omega)).2.2.1
  refine zD (xI _) (xV _) rfl Tryz.func173 rfl (by kernel_rfl) _ _ rfl rfl rfl (fun w0 mu I0 β0 gi dis => ?_)
  (repeat' (first|(apply xW;((exact Want.none_ rfl)))|(apply xF zK;exact rfl;exact rfl)|((first|apply yF|apply zQ)<;>(first|exact zK|exact rfl|refine yO ?_|omega))|apply zV|apply AWp.Q|apply zJ|apply AWp.G|apply AWp.B|(apply (zY (p1));(iterate 7 exact rfl);(focus (repeat (first|exact All2.nil|refine All2.cons rfl ?_)));exact rfl;(focus (repeat (first|exact MAs.nil|apply MAs.cons|apply MA.c|exact MC.ptr rfl|exact MC.vc (VC.imm (Imm.v _)))));((assumption));((assumption));exact rfl;exact rfl)))
  refine AWp.U (σ := Nat) (fun j => ⟨[(0, .c (.ptr 0 0 0)), (3, .c (.ref 1 0 j)), (4, .c (int (1 + (n0 : Int) - j)))], [(0, some (xT code (cs j))), (1, some ⟨3, 1, ((List.range j).map xs).map y4⟩)], 2⟩) (fun j => j ≤ 1 + n0) (fun j => 1 + n0 - j) 0 (Nat.zero_le _) ?_ ?_
  · refine Weak.of [(0, some 0), (1, some 1)] rfl ?_ ?_ <;> (repeat' (first|exact trivial|exact rfl|apply And.intro|refine ⟨_,rfl,rfl,rfl,OW.one ?_⟩|refine oWs rfl rfl rfl ?_ ?_|(refine aIm ?_;(exact AllSc.nil))))
    all_goals first | exact yL _ _ | exact (xJ _).imm
  · intro j hj
    obtain ⟨ha, hb, hx, b, cm, pm, h1, h2⟩ := hcs j hj
    have hLl : (((List.range j).map xs).map y4).length = j := by simp
    have hsc := xJ ((List.range j).map xs)
    by_cases hlt : j < 1 + n0
    · have hlt' : (0 : Int) < 1 + (n0 : Int) - j := by omega
      have k1 := y5 (yL code cm)
      have k2 := y5 (yL code (cs (j + 1)))
      have m1 := wE (yL code (cs j))
      have m2 := wE (yL code cm)
      cases b with
      | true =>
        have q := h1 rfl
        (repeat' (first|(apply xW;((exact Want.none_ rfl)))|(apply xF zK;exact rfl;exact rfl)|((first|apply yW|apply zQ|(apply yB;exact rfl;exact rfl))<;>(first|exact zK|exact rfl|refine yO ?_|omega|(refine Bd.mk ?_;first|(focus (simp;done))|(simp;omega))))|apply zV|apply AWp.Q|apply zJ|apply AWp.G|apply AWp.B|apply AWp.J|apply zL|(apply AWp.T;exact rfl;(first|exact dT ‹_›|exact rfl))|(apply (zY (pm));(iterate 7 exact rfl);(focus (repeat (first|exact All2.nil|refine All2.cons rfl ?_)));exact rfl;(focus (repeat (first|exact MAs.nil|apply MAs.cons|apply MA.c|exact MC.ptr rfl|exact MC.vc (VC.imm (Imm.v _)))));((assumption));((assumption));exact rfl;exact rfl)|(apply (zY (q));(iterate 7 exact rfl);(focus (repeat (first|exact All2.nil|refine All2.cons rfl ?_)));exact rfl;(focus (repeat (first|exact MAs.nil|apply MAs.cons|apply MA.c|exact MC.ptr rfl)));((assumption));((assumption));exact rfl;exact rfl)))
        refine ⟨j + 1, by omega, by omega, ?_⟩
        rw [rng_succ, wB]
        refine Weak.of [(0, some 0), (1, some 3)] rfl ?_ ?_ <;> (repeat' (first|exact trivial|exact rfl|apply And.intro|(apply cgI;(omega))|(refine yG ?_;(focus (simp;done)))|refine ⟨_,rfl,rfl,rfl,OW.one ?_⟩|refine oWs rfl rfl rfl ?_ ?_))
        all_goals first | exact yL _ _ | (rw [← wB]; exact (xJ _).imm) | (rw [hLl]; rfl) | skip
      | false =>
        have q := h2 rfl
        (repeat' (first|(apply xW;((exact Want.none_ rfl)))|(apply xF zK;exact rfl;exact rfl)|((first|apply yW|apply zQ|(apply yB;exact rfl;exact rfl))<;>(first|exact zK|exact rfl|refine yO ?_|omega|(refine Bd.mk ?_;first|(focus (simp;done))|(simp;omega))))|apply zV|apply AWp.Q|apply zJ|apply AWp.G|apply AWp.B|apply AWp.J|apply zL|(apply AWp.T;exact rfl;((exact dT ‹_›)))|(apply AWp.F;exact rfl;((exact rfl)))|(apply (zY (pm));(iterate 7 exact rfl);(focus (repeat (first|exact All2.nil|refine All2.cons rfl ?_)));exact rfl;(focus (repeat (first|exact MAs.nil|apply MAs.cons|apply MA.c|exact MC.ptr rfl|exact MC.vc (VC.imm (Imm.v _)))));((assumption));((assumption));exact rfl;exact rfl)|(apply (zY (q));(iterate 7 exact rfl);(focus (repeat (first|exact All2.nil|refine All2.cons rfl ?_)));exact rfl;(focus (repeat (first|exact MAs.nil|apply MAs.cons|apply MA.c|exact MC.ptr rfl)));((assumption));((assumption));exact rfl;exact rfl)))
        refine ⟨j + 1, by omega, by omega, ?_⟩
        rw [rng_succ, wB]
        refine Weak.of [(0, some 0), (1, some 3)] rfl ?_ ?_ <;> (repeat' (first|exact trivial|exact rfl|apply And.intro|(apply cgI;(omega))|(refine yG ?_;(focus (simp;done)))|refine ⟨_,rfl,rfl,rfl,OW.one ?_⟩|refine oWs rfl rfl rfl ?_ ?_))
        all_goals first | exact yL _ _ | (rw [← wB]; exact (xJ _).imm) | (rw [hLl]; rfl) | skip
    · have hlt' : ¬ (0 : Int) < 1 + (n0 : Int) - j := by omega
      obtain rfl : j = 1 + n0 := by omega
      rw [rng_len]
      (repeat' (first|(apply xW;((exact Want.none_ rfl)))|(apply xF zK;exact rfl;exact rfl)|apply zV|apply AWp.Q|apply zJ|apply AWp.G|apply AWp.X|apply AWp.R|apply zU|apply zR|(apply AWp.F;exact rfl;((exact dF ‹_›)))))
      (((refine z6 _ [(0, some 0), (1, some 1)] (.cons (zT rfl) .nil) ?_ rfl ?_)) <;> (repeat' (first|exact trivial|exact rfl|apply And.intro|refine ⟨_,rfl,rfl,rfl,OW.one ?_⟩|refine oWs rfl rfl rfl ?_ ?_|(refine aIm ?_;(assumption)))))
      all_goals first | exact yL _ _ | exact (xJ _).imm
end
end Go.Proofs.YtchpdclknbmdoaaGreatDoor
