/- Drawn outlines that may be invalid. -/
import Derived.Test.YtjeffognhcbiaaaGreatDoorAbs4
import Derived.Test.YtjeffognhcbiaaaGreatDoorAbs3
namespace Go.Proofs.YtjeffognhcbiaaaGreatDoor
open Go Go.RowKit
structure Cur where
  a : Nat
  s : Int
def xV (code : List UInt8) (c : Cur) : AObj := ⟨115, 3, [[.sl (code.map wY), int c.a, .v (.int .u64 c.s)]]⟩
theorem yQ (code : List UInt8) (c : Cur) : ∀ x ∈ (xV code c).els, ∀ y ∈ x, Imm y := by
  intro x hx y hy
  simp only [xV, List.mem_cons, List.not_mem_nil, or_false] at hx
  subst hx
  simp only [List.mem_cons, List.not_mem_nil, or_false] at hy
  rcases hy with rfl | rfl | rfl
  · exact Imm.sl _
  · exact Imm.v _
  · exact Imm.v _
theorem qP {a b : AObj} (h1 : ∀ x ∈ a.els, ∀ c ∈ x, Imm c) (h2 : ∀ x ∈ b.els, ∀ c ∈ x, Imm c) : ∀ obj, some obj ∈ [some a, some b] → ∀ x ∈ obj.els, ∀ c ∈ x, Imm c := fun obj hm => by
  simp at hm
  rcases hm with rfl | rfl
  · exact h1
  · exact h2
theorem k9 {a b : AObj} (h1 : ∀ x ∈ a.els, ∀ c ∈ x, Imm c) (h2 : ∀ x ∈ b.els, ∀ c ∈ x, Imm c) : ∀ obj ∈ [a, b], ∀ x ∈ obj.els, ∀ c ∈ x, Imm c := fun obj hm => by
  simp at hm
  rcases hm with rfl | rfl
  · exact h1
  · exact h2
theorem wD {a : AObj} (h1 : ∀ x ∈ a.els, ∀ c ∈ x, Imm c) : ∀ obj ∈ [a], ∀ x ∈ obj.els, ∀ c ∈ x, Imm c := fun obj hm => by
  simp at hm; subst hm; exact h1
def byt (code : List UInt8) (c : Cur) : Nat := (code[c.a]?.map (·.toNat)).getD 0
theorem byt_le (code : List UInt8) (c : Cur) : byt code c ≤ 255 := by
  unfold byt
  cases code[c.a]? with
  | none => simp
  | some b => have := b.toNat_lt; simp only [Option.map_some, Option.getD_some]; omega
def nxC (code : List UInt8) (c : Cur) : Cur := ⟨c.a + 1, IntKind.u64.wrap (IntKind.u64.wrap (IntKind.u64.wrap (c.s * 6364136223846793005) + IntKind.u64.wrap (byt code c)) + 882882)⟩
def nxV (code : List UInt8) (c : Cur) : Int := if c.a + 1 ≤ code.length then byt code c else IntKind.i64.wrap (bits .and .u64 ((nxC code c).s / 2 ^ (min (40 : Int).toNat IntKind.u64.bits)) 255)
theorem and255 (x : Int) : ∃ v : Nat, v ≤ 255 ∧ bits .and .u64 x 255 = (v : Int) := by
  refine ⟨(BitVec.ofInt 64 x &&& BitVec.ofInt 64 255).toNat, ?_, ?_⟩
  · rw [BitVec.toNat_and]
    exact Nat.le_trans Nat.and_le_right (by decide)
  · have h : (BitVec.ofInt 64 x &&& BitVec.ofInt 64 255).toNat ≤ 255 := by
      rw [BitVec.toNat_and]
      exact Nat.le_trans Nat.and_le_right (by decide)
    show IntKind.u64.wrap ((BitVec.ofInt 64 x &&& BitVec.ofInt 64 255).toNat : Int) = _
    generalize (BitVec.ofInt 64 x &&& BitVec.ofInt 64 255).toNat = v at h
    show ((v : Int) % 18446744073709551616) = v
    omega
theorem nxV_in (code : List UInt8) (c : Cur) : 0 ≤ nxV code c ∧ nxV code c ≤ 255 := by
  unfold nxV
  split
  · have := byt_le code c; omega
  · obtain ⟨v, h, e⟩ := and255 ((nxC code c).s / 2 ^ (min (40 : Int).toNat IntKind.u64.bits))
    rw [e, IntWalk.i64_in _ (by omega)]
    omega
theorem next_pfm (code : List UInt8) (c : Cur) (hl : code.length ≤ 65536) (hc : c.a ≤ 1000000000) :
    PFM Tryz.prog 137 [xV code c] [.c (.ptr 0 0 0)] [some (xV code (nxC code c))] (.c (int (nxV code c))) := by
  have hL : (code.map wY).length = code.length := List.length_map _
  have him := yQ code (nxC code c)
  refine zD (xJ _) (xQ _) rfl Tryz.func137 rfl (by kernel_rfl) _ _ rfl rfl rfl (fun w0 mu I0 β0 gi dis => ?_)
  by_cases hlt : c.a < code.length
  · obtain ⟨b, hb⟩ := xT hlt
    have hb' : (code.map wY)[c.a]? = some (wY b) := xY hb
    have hbyt : byt code c = b.toNat := by simp [byt, hb]
    have h1 : (c.a : Int) < ((code.map wY).length : Int) := by omega
    have h2 : (c.a : Int) + 1 ≤ ((code.map wY).length : Int) := by omega
    have hv : nxV code c = b.toNat := by rw [nxV, if_pos (by omega), hbyt]
    have hn : nxC code c = ⟨c.a + 1, IntKind.u64.wrap (IntKind.u64.wrap (IntKind.u64.wrap (c.s * 6364136223846793005) + IntKind.u64.wrap (b.toNat : Nat)) + 882882)⟩ := by rw [nxC, hbyt]
    have hwb : IntKind.i64.wrap ((b.toNat : Nat) : Int) = b.toNat := IntWalk.i64_in _ (by have := b.toNat_lt; omega)
    (repeat' (first|(apply xW;((exact Want.none_ rfl)))|(apply xF zI;exact rfl;exact rfl)|((first|apply zZ|apply vM|(apply yN;exact rfl;exact rfl)|apply yH)<;>(first|exact zI|exact Nat.zero_add _|exact rfl|refine yG ?_|assumption|omega|exact lb rfl))|apply zR|(refine yT ?_ ?_;kernel_rfl)|apply AWp.Q|apply zH|apply AWp.G|(refine AWp.D ?_ ?_;kernel_rfl)|(apply AWp.T;exact rfl;((exact dT ‹_›)))))
    rw [hwb]
    apply rx_mulk
    exact rfl
    exact rfl
    exact rfl
    (repeat' (first|(apply xW;((exact Want.none_ rfl)))|(apply xF zI;exact rfl;exact rfl)))
    apply qN
    exact rfl
    exact rfl
    exact rfl
    (repeat' ((apply xW;((exact Want.none_ rfl)))))
    apply qN
    exact rfl
    exact rfl
    exact rfl
    (repeat' (first|(apply xW;((exact Want.none_ rfl)))|(apply xF zI;exact rfl;exact rfl)|(((apply yH))<;>(first|exact zI|exact rfl|refine yG ?_|exact lb rfl))|apply zR|(refine yT ?_ ?_;kernel_rfl)|apply AWp.Q|apply zH|apply AWp.G|apply AWp.R|apply zK|(refine AWp.D ?_ ?_;kernel_rfl)|(apply AWp.T;exact rfl;((exact dT ‹_›)))))
    rw [hv, hn]
    (((refine zV _ [(0, some 0)] (.cons (zN rfl) .nil) ?_ rfl ?_)) <;> (repeat' (first|exact trivial|exact rfl|apply And.intro|refine ⟨_,rfl,rfl,rfl,OW.one ?_⟩)))
  · have h1 : ¬ (c.a : Int) < ((code.map wY).length : Int) := by omega
    have h2 : ¬ (c.a : Int) + 1 ≤ ((code.map wY).length : Int) := by omega
    have hbyt : byt code c = 0 := by simp [byt, List.getElem?_eq_none (show code.length ≤ c.a by omega)]
    have hn : nxC code c = ⟨c.a + 1, IntKind.u64.wrap (IntKind.u64.wrap (IntKind.u64.wrap (c.s * 6364136223846793005) + IntKind.u64.wrap 0) + 882882)⟩ := by rw [nxC, hbyt]; rfl
    have hv : nxV code c = IntKind.i64.wrap (bits .and .u64 ((nxC code c).s / 2 ^ (min (40 : Int).toNat IntKind.u64.bits)) 255) := by rw [nxV, if_neg (by omega)]
    (repeat' (first|(apply xW;((exact Want.none_ rfl)))|(apply xF zI;exact rfl;exact rfl)|((first|apply zZ|apply vM|apply yH)<;>(first|exact zI|exact rfl|refine yG ?_|omega|exact lb rfl))|apply zR|(refine yT ?_ ?_;kernel_rfl)|apply AWp.Q|apply zH|apply AWp.G|apply AWp.J|(refine AWp.D ?_ ?_;kernel_rfl)|(apply AWp.F;exact rfl;((exact dF ‹_›)))))
    apply rx_mulk
    exact rfl
    exact rfl
    exact rfl
    (repeat' (first|(apply xW;((exact Want.none_ rfl)))|(apply xF zI;exact rfl;exact rfl)))
    apply qN
    exact rfl
    exact rfl
    exact rfl
    (repeat' ((apply xW;((exact Want.none_ rfl)))))
    apply qN
    exact rfl
    exact rfl
    exact rfl
    (repeat' (first|(apply xW;((exact Want.none_ rfl)))|(apply xF zI;exact rfl;exact rfl)|(((apply yH))<;>(first|exact zI|exact rfl|refine yG ?_|exact lb rfl))|apply zR|(refine yT ?_ ?_;kernel_rfl)|apply AWp.Q|apply zH|apply AWp.G|apply AWp.J|(refine AWp.D ?_ ?_;kernel_rfl)|(apply AWp.F;exact rfl;((exact dF ‹_›)))))
    apply rx_shr
    exact rfl
    exact rfl
    exact rfl
    exact by decide
    (repeat' ((apply xW;((exact Want.none_ rfl)))))
    apply rx_and
    exact rfl
    exact rfl
    exact rfl
    (repeat' (first|(apply xW;((exact Want.none_ rfl)))|(apply xF zI;exact rfl;exact rfl)|apply zR|apply zH|apply AWp.R))
    rw [hv, hn]
    (((refine zV _ [(0, some 0)] (.cons (zN rfl) .nil) ?_ rfl ?_)) <;> (repeat' (first|exact trivial|exact rfl|apply And.intro|refine ⟨_,rfl,rfl,rfl,OW.one ?_⟩)))
def pkC (code : List UInt8) (c : Cur) (n : Nat) : Cur := if n ≤ 1 then c else nxC code c
def pkV (code : List UInt8) (c : Cur) (n : Nat) : Int := if n ≤ 1 then 0 else nxV code c % n
theorem jB (code : List UInt8) (c : Cur) (n : Nat) : (pkC code c n).a ≤ c.a + 1 := by
  unfold pkC
  split
  · omega
  · exact Nat.le_refl _
theorem kM (code : List UInt8) (c : Cur) {n : Nat} (hn : 1 ≤ n) : 0 ≤ pkV code c n ∧ pkV code c n < n := by
  unfold pkV
  split
  · omega
  · exact ⟨Int.emod_nonneg _ (by omega), Int.emod_lt_of_pos _ (by omega)⟩
section
variable (code : List UInt8) (c : Cur) (hl : code.length ≤ 65536) (hc : c.a ≤ 100000000)
include hl hc
theorem pick_pfm (n : Nat) (hn : n ≤ 200) : PFM Tryz.prog 99 [xV code c] [.c (.ptr 0 0 0), .c (int n)] [some (xV code (pkC code c n))] (.c (int (pkV code c n))) := by
  have him := yQ code c
  have him2 := xK (yQ code (nxC code c))
  have hii := wD (yQ code c)
  have hv := nxV_in code c
  refine zD (xG _ _) (xQ _) rfl Tryz.func99 rfl (by kernel_rfl) _ _ rfl rfl rfl (fun w0 mu I0 β0 gi dis => ?_)
  by_cases h1 : n ≤ 1
  · have h1' : (n : Int) ≤ 1 := by omega
    (repeat' (first|(apply xW;((exact Want.none_ rfl)))|(apply xF zI;exact rfl;exact rfl)|apply zR|apply AWp.Q|apply zH|apply AWp.G|apply AWp.R|apply zK|(apply AWp.T;exact rfl;((exact dT ‹_›)))))
    rw [pkC, pkV, if_pos h1, if_pos h1]
    (((refine zV _ [(0, some 0)] (.cons (zN rfl) .nil) ?_ rfl ?_)) <;> (repeat' (first|exact trivial|exact rfl|apply And.intro|refine ⟨_,rfl,rfl,rfl,OW.one ?_⟩)))
  · have h1' : ¬ (n : Int) ≤ 1 := by omega
    have h2' : ¬ (200 : Int) < (n : Int) := by omega
    (repeat' (first|(apply xW;((exact Want.none_ rfl)))|(apply xF zI;exact rfl;exact rfl)|(((apply rx_rem))<;>(first|exact rfl|refine yG ?_|omega))|apply zR|apply AWp.Q|apply zH|apply AWp.G|apply AWp.J|apply AWp.R|(apply AWp.F;exact rfl;((exact dF ‹_›)))|(apply (yP (next_pfm code c hl (by omega)));(iterate 7 exact rfl);(focus (repeat (first|exact All2.nil|refine All2.cons rfl ?_)));exact rfl;(focus (repeat (first|exact MAs.nil|apply MAs.cons|apply MA.c|exact MC.ptr rfl)));((assumption));((assumption));exact rfl;exact rfl)))
    rw [pkC, pkV, if_neg h1, if_neg h1]
    have him3 := yQ code (nxC code c)
    (((refine zV _ [(0, some 0)] (.cons (zN rfl) .nil) ?_ rfl ?_)) <;> (repeat' (first|exact trivial|exact rfl|apply And.intro|refine ⟨_,rfl,rfl,rfl,OW.one ?_⟩)))
theorem one_pfm (n : Nat) (hn : n ≤ 200) : PFM Tryz.prog 103 [xV code c] [.c (.ptr 0 0 0), .c (int n)] [some (xV code (pkC code c n))] (.c (boo (decide (pkV code c n = 0)))) := by
  have him2 := xK (yQ code (pkC code c n))
  have hii := wD (yQ code c)
  have him3 := yQ code (pkC code c n)
  refine zD (xG _ _) (xQ _) rfl Tryz.func103 rfl (by kernel_rfl) _ _ rfl rfl rfl (fun w0 mu I0 β0 gi dis => ?_)
  (repeat' (first|(apply xW;((exact Want.none_ rfl)))|(apply xF zI;exact rfl;exact rfl)|apply zR|apply AWp.Q|apply zH|apply AWp.G|apply AWp.R|(apply (yP (pick_pfm code c hl hc n hn));(iterate 7 exact rfl);(focus (repeat (first|exact All2.nil|refine All2.cons rfl ?_)));exact rfl;(focus (repeat (first|exact MAs.nil|apply MAs.cons|apply MA.c|exact MC.ptr rfl|exact MC.vc (VC.imm (Imm.v _)))));((assumption));((assumption));exact rfl;exact rfl)))
  (((refine zV _ [(0, some 0)] (.cons (zN rfl) .nil) ?_ rfl ?_)) <;> (repeat' (first|exact trivial|exact rfl|apply And.intro|refine ⟨_,rfl,rfl,rfl,OW.one ?_⟩)))
def ofV (code : List UInt8) (c : Cur) (l : List (List UInt8)) : List UInt8 := (l[(pkV code c l.length).toNat]?).getD []
def amV (code : List UInt8) (c : Cur) (l : List Int) (m : Nat) : Int := (l[(pkV code c m).toNat]?).getD 0
theorem of_pfm (l : List (List UInt8)) (hn : 1 ≤ l.length ∧ l.length ≤ 200) : PFM Tryz.prog 101 [xV code c, ⟨9, 1, l.map wE⟩] [.c (.ptr 0 0 0), .c (.ref 1 0 l.length)] [some (xV code (pkC code c l.length)), some ⟨9, 1, l.map wE⟩] (.c (str (ofV code c l))) := by
  have him2 := xK (yQ code (pkC code c l.length))
  have hii := wD (yQ code c)
  have him3 := yQ code (pkC code c l.length)
  have hsl := (x3 l).imm
  have hv := kM code c hn.1
  obtain ⟨k, hk⟩ : ∃ k : Nat, pkV code c l.length = (k : Int) := ⟨(pkV code c l.length).toNat, by omega⟩
  obtain ⟨x, hx⟩ := xT (show k < l.length by omega)
  have hx' : (l.map wE)[k]? = some (wE x) := xY hx
  have hof : ofV code c l = x := by rw [ofV, hk, Int.toNat_natCast, hx]; rfl
  refine zD (xG _ _) (enumM2 _ _) rfl Tryz.func101 rfl (by kernel_rfl) _ _ rfl rfl rfl (fun w0 mu I0 β0 gi dis => ?_)
  (repeat' (first|(apply xW;((exact Want.none_ rfl)))|(apply xF zI;exact rfl;exact rfl)|((first|apply yD|(apply z7;exact rfl;exact rfl;exact zI;exact rfl;exact rfl))<;>(first|exact zI|exact Nat.zero_add _|exact rfl|refine yG ?_|assumption|omega))|apply zR|apply AWp.Q|apply zH|apply AWp.G|apply AWp.R|(apply (yP (pick_pfm code c hl hc l.length hn.2));(iterate 7 exact rfl);(focus (repeat (first|exact All2.nil|refine All2.cons rfl ?_)));exact rfl;(focus (repeat (first|exact MAs.nil|apply MAs.cons|apply MA.c|exact MC.ptr rfl|exact MC.vc (VC.imm (Imm.v _)))));((assumption));((assumption));exact rfl;exact rfl)))
  rw [hof]
  (((refine zV _ [(0, some 0), (1, some 1)] (.cons (zN rfl) .nil) ?_ rfl ?_)) <;> (repeat' (first|exact trivial|exact rfl|apply And.intro|refine ⟨_,rfl,rfl,rfl,OW.one ?_⟩|refine oWs rfl rfl rfl ?_ ?_)))
  exact hsl
theorem among_pfm (l : List Int) (m : Nat) (hn : 1 ≤ m ∧ m ≤ 200) (hm : m ≤ l.length) : PFM Tryz.prog 140 [xV code c, ⟨3, 1, l.map xE⟩] [.c (.ptr 0 0 0), .c (.ref 1 0 m)] [some (xV code (pkC code c m)), some ⟨3, 1, l.map xE⟩] (.c (int (amV code c l m))) := by
  have him2 := xK (yQ code (pkC code c m))
  have hii := wD (yQ code c)
  have him3 := yQ code (pkC code c m)
  have hsl := (xM l).imm
  have hv := kM code c hn.1
  obtain ⟨k, hk⟩ : ∃ k : Nat, pkV code c m = (k : Int) := ⟨(pkV code c m).toNat, by omega⟩
  obtain ⟨x, hx⟩ := xT (show k < l.length by omega)
  have hx' : (l.map xE)[k]? = some (xE x) := xY hx
  have hof : amV code c l m = x := by rw [amV, hk, Int.toNat_natCast, hx]; rfl
  refine zD (xG _ _) (enumM2 _ _) rfl Tryz.func140 rfl (by kernel_rfl) _ _ rfl rfl rfl (fun w0 mu I0 β0 gi dis => ?_)
  (repeat' (first|(apply xW;((exact Want.none_ rfl)))|(apply xF zI;exact rfl;exact rfl)|((first|apply yD|(apply z7;exact rfl;exact rfl;exact zI;exact rfl;exact rfl))<;>(first|exact zI|exact Nat.zero_add _|exact rfl|refine yG ?_|assumption|omega))|apply zR|apply AWp.Q|apply zH|apply AWp.G|apply AWp.R|(apply (yP (pick_pfm code c hl hc m hn.2));(iterate 7 exact rfl);(focus (repeat (first|exact All2.nil|refine All2.cons rfl ?_)));exact rfl;(focus (repeat (first|exact MAs.nil|apply MAs.cons|apply MA.c|exact MC.ptr rfl|exact MC.vc (VC.imm (Imm.v _)))));((assumption));((assumption));exact rfl;exact rfl)))
  rw [hof]
  (((refine zV _ [(0, some 0), (1, some 1)] (.cons (zN rfl) .nil) ?_ rfl ?_)) <;> (repeat' (first|exact trivial|exact rfl|apply And.intro|refine ⟨_,rfl,rfl,rfl,OW.one ?_⟩|refine oWs rfl rfl rfl ?_ ?_)))
  exact hsl
end
end Go.Proofs.YtjeffognhcbiaaaGreatDoor
namespace Go.Proofs.YtjeffognhcbiaaaGreatDoor
open Go Go.RowKit
section
variable (code : List UInt8) (c : Cur) (hl : code.length ≤ 65536) (hc : c.a ≤ 10000000)
include hl hc
theorem wZ (n : Nat) (hn : 1 ≤ n ∧ n ≤ 4000000) : ∃ (c' : Cur) (v : Nat), c'.a ≤ c.a + 2 ∧ v < n ∧ PFM Tryz.prog 99 [xV code c] [.c (.ptr 0 0 0), .c (int n)] [some (xV code c')] (.c (int v)) := by
  by_cases h : n ≤ 200
  · have hv := kM code c hn.1
    have ha := jB code c n
    have hp := pick_pfm code c hl (by omega) n h
    have e : pkV code c n = ((pkV code c n).toNat : Int) := by omega
    rw [e] at hp
    exact ⟨pkC code c n, (pkV code c n).toNat, by omega, by omega, hp⟩
  · have h1 := nxV_in code c
    have h2 := nxV_in code (nxC code c)
    have hr1 := Int.emod_nonneg (nxV code c * 256 + nxV code (nxC code c)) (show (n : Int) ≠ 0 by omega)
    have hr2 := Int.emod_lt_of_pos (nxV code c * 256 + nxV code (nxC code c)) (show (0 : Int) < (n : Int) by omega)
    obtain ⟨v, hv⟩ : ∃ v : Nat, (nxV code c * 256 + nxV code (nxC code c)) % n = (v : Int) := ⟨((nxV code c * 256 + nxV code (nxC code c)) % n).toNat, by omega⟩
    refine ⟨nxC code (nxC code c), v, ?_, by omega, ?_⟩
    · show c.a + 1 + 1 ≤ c.a + 2; omega
    have h1' : ¬ (n : Int) ≤ 1 := by omega
    have h2' : (200 : Int) < (n : Int) := by omega
    have a1 : (nxC code c).a = c.a + 1 := rfl
    have i1 := xK (yQ code (nxC code c))
    have i2 := xK (yQ code (nxC code (nxC code c)))
    have j0 := wD (yQ code c)
    have j1 := wD (yQ code (nxC code c))
    have i3 := yQ code (nxC code (nxC code c))
    refine zD (xG _ _) (xQ _) rfl Tryz.func99 rfl (by kernel_rfl) _ _ rfl rfl rfl (fun w0 mu I0 β0 gi dis => ?_)
    (repeat' (first|(apply xW;((exact Want.none_ rfl)))|(apply xF zI;exact rfl;exact rfl)|((first|apply zZ|apply vM|apply rx_rem)<;>(first|exact rfl|refine yG ?_|omega))|apply zR|apply AWp.Q|apply zH|apply AWp.G|apply AWp.J|apply AWp.R|(apply AWp.T;exact rfl;((exact dT ‹_›)))|(apply AWp.F;exact rfl;((exact dF ‹_›)))|(apply (yP (next_pfm code c hl (by omega)));(iterate 7 exact rfl);(focus (repeat (first|exact All2.nil|refine All2.cons rfl ?_)));exact rfl;(focus (repeat (first|exact MAs.nil|apply MAs.cons|apply MA.c|exact MC.ptr rfl)));((assumption));((assumption));exact rfl;exact rfl)|(apply (yP (next_pfm code (nxC code c) hl (by omega)));(iterate 7 exact rfl);(focus (repeat (first|exact All2.nil|refine All2.cons rfl ?_)));exact rfl;(focus (repeat (first|exact MAs.nil|apply MAs.cons|apply MA.c|exact MC.ptr rfl)));((assumption));((assumption));exact rfl;exact rfl)))
    (((refine zV _ [(0, some 0)] (.cons (zN rfl) .nil) ?_ rfl ?_)) <;> (repeat' (first|exact trivial|exact rfl|apply And.intro|(apply cgI;(omega))|refine ⟨_,rfl,rfl,rfl,OW.one ?_⟩)))
theorem one_ex (n : Nat) (hn : 1 ≤ n ∧ n ≤ 200) : ∃ (c' : Cur) (b : Bool), c'.a ≤ c.a + 1 ∧ PFM Tryz.prog 103 [xV code c] [.c (.ptr 0 0 0), .c (int n)] [some (xV code c')] (.c (boo b)) :=
  ⟨_, _, jB code c n, one_pfm code c hl (by omega) n hn.2⟩
theorem kW (l : List (List UInt8)) (hn : 1 ≤ l.length ∧ l.length ≤ 200) : ∃ (c' : Cur) (x : List UInt8), c'.a ≤ c.a + 1 ∧ x ∈ l ∧ PFM Tryz.prog 101 [xV code c, ⟨9, 1, l.map wE⟩] [.c (.ptr 0 0 0), .c (.ref 1 0 l.length)] [some (xV code c'), some ⟨9, 1, l.map wE⟩] (.c (str x)) := by
  refine ⟨_, _, jB code c l.length, ?_, of_pfm code c hl (by omega) l hn⟩
  have hv := kM code c hn.1
  obtain ⟨x, hx⟩ := xT (show (pkV code c l.length).toNat < l.length by omega)
  rw [ofV, hx]
  exact List.mem_of_getElem? hx
theorem among_ex (l : List Int) (m : Nat) (hn : 1 ≤ m ∧ m ≤ 200) (hm : m ≤ l.length) : ∃ (c' : Cur) (x : Int), c'.a ≤ c.a + 1 ∧ x ∈ l ∧ PFM Tryz.prog 140 [xV code c, ⟨3, 1, l.map xE⟩] [.c (.ptr 0 0 0), .c (.ref 1 0 m)] [some (xV code c'), some ⟨3, 1, l.map xE⟩] (.c (int x)) := by
  refine ⟨_, _, jB code c m, ?_, among_pfm code c hl (by omega) l m hn hm⟩
  have hv := kM code c hn.1
  obtain ⟨x, hx⟩ := xT (show (pkV code c m).toNat < l.length by omega)
  rw [amV, hx]
  exact List.mem_of_getElem? hx
end
end Go.Proofs.YtjeffognhcbiaaaGreatDoor
namespace Go.Proofs.YtjeffognhcbiaaaGreatDoor
open Go Go.RowKit
def c00 : Cur := ⟨0, 0⟩
end Go.Proofs.YtjeffognhcbiaaaGreatDoor
namespace Go.Proofs.YtjeffognhcbiaaaGreatDoor
open Go Go.RowKit
theorem kG {X : Type} [Inhabited X] (Q : Cur → Cur → X → Prop) (d B : Nat) (h : ∀ c, c.a ≤ B → ∃ c' x, c'.a ≤ c.a + d ∧ Q c c' x) (c : Cur) (n : Nat) (hn : c.a + d * n ≤ B) :
    ∃ (cs : Nat → Cur) (xs : Nat → X), cs 0 = c ∧ ∀ j, j ≤ n → (cs j).a ≤ c.a + d * j ∧ (cs (j + 1)).a ≤ (cs j).a + d ∧ Q (cs j) (cs (j + 1)) (xs j) := by
  classical
  let f : Cur → Cur × X := fun c => if hc : c.a ≤ B then ⟨Classical.choose (h c hc), Classical.choose (Classical.choose_spec (h c hc))⟩ else ⟨c, default⟩
  have hf : ∀ c, c.a ≤ B → (f c).1.a ≤ c.a + d ∧ Q c (f c).1 (f c).2 := fun c hc => by
    have := Classical.choose_spec (Classical.choose_spec (h c hc))
    simp only [f, hc, dif_pos]
    exact this
  let cs : Nat → Cur := fun j => Nat.rec c (fun _ x => (f x).1) j
  have hs : ∀ j, cs (j + 1) = (f (cs j)).1 := fun _ => rfl
  have hb : ∀ j, j ≤ n → (cs j).a ≤ c.a + d * j := by
    intro j
    induction j with
    | zero => intro _; exact Nat.le_refl _
    | succ j ih =>
      intro hj
      have h1 := ih (by omega)
      have h2 : d * j ≤ d * n := Nat.mul_le_mul_left _ (by omega)
      have h3 := (hf (cs j) (by omega)).1
      rw [hs, Nat.mul_succ]; omega
  refine ⟨cs, fun j => (f (cs j)).2, rfl, fun j hj => ⟨hb j hj, ?_⟩⟩
  have h2 : d * j ≤ d * n := Nat.mul_le_mul_left _ hj
  exact hf (cs j) (by have := hb j hj; omega)
section
variable (code : List UInt8) (c : Cur) (hl : code.length ≤ 65536) (hc : c.a ≤ 9000000)
include hl hc
end
end Go.Proofs.YtjeffognhcbiaaaGreatDoor
namespace Go.Proofs.YtjeffognhcbiaaaGreatDoor
open Go Go.RowKit
def fewL : List Int := [524552, 260, 1048576, 262144]
def strL : List Int := [524552, 260, 1048576, 262144, 4194304, 514, 8, 2064, 2097152]
def badL : List Int := [0, -1, 8388608, 8388607, 1, 1099511627776]
theorem dor {a b : Nat} (ha : a < 8388608) (hb : b < 8388608) : a ||| b < 8388608 := Nat.or_lt_two_pow (n := 23) ha hb
def skS (xs : Nat → Nat) : Nat → Nat
  | 0 => 0
  | k + 1 => skS xs k ||| 2 ^ xs k
theorem skS_lt {xs : Nat → Nat} {n : Nat} (h : ∀ j, j < n → xs j < 23) : ∀ k, k ≤ n → skS xs k < 8388608
  | 0, _ => by show 0 < 8388608; decide
  | k + 1, hk => by
    have h1 : 2 ^ xs k < 2 ^ 23 := Nat.pow_lt_pow_right (by omega) (h k (by omega))
    exact dor (skS_lt h k (by omega)) h1
section
variable (code : List UInt8) (c : Cur) (hl : code.length ≤ 65536) (hc : c.a ≤ 7000000)
include hl hc
theorem few_ex : ∃ (c' : Cur) (x : Int), c'.a ≤ c.a + 1 ∧ (0 ≤ x ∧ x < 8388608) ∧ PFM Tryz.prog 106 [xV code c] [.c (.ptr 0 0 0)] [some (xV code c')] (.c (int x)) := by
  obtain ⟨c1, x, a1, hx, p1⟩ := among_ex code c hl (by omega) fewL 4 (by omega) (by decide)
  have i1 := qP (b := ⟨3, 1, fewL.map xE⟩) (yQ code c1) (xM fewL).imm
  have j1 := k9 (b := ⟨3, 1, fewL.map xE⟩) (yQ code c) (xM fewL).imm
  refine ⟨c1, x, a1, ?_, ?_⟩
  · have h : ∀ y ∈ fewL, 0 ≤ y ∧ y < 8388608 := by decide
    exact h x hx
  refine zD (xJ _) (xQ _) rfl Tryz.func106 rfl (by kernel_rfl) _ _ rfl rfl rfl (fun w0 mu I0 β0 gi dis => ?_)
  (repeat' (first|(apply xW;((exact Want.none_ rfl)))|(apply xF zI;exact rfl;exact rfl)|(((apply zU))<;>(first|exact zI|exact rfl|refine yG ?_))|apply zR|apply AWp.Q|apply zH|apply AWp.G|apply AWp.R|(apply (yP (p1));(iterate 7 exact rfl);(focus (repeat (first|exact All2.nil|refine All2.cons rfl ?_)));exact rfl;(focus (repeat (first|exact MAs.nil|apply MAs.cons|apply MA.c|exact MC.ref rfl|exact MC.ptr rfl)));((assumption));((assumption));exact rfl;exact rfl)))
  (((refine zV _ [(0, some 0)] (.cons (zN rfl) .nil) ?_ rfl ?_)) <;> (repeat' (first|exact trivial|exact rfl|apply And.intro|refine ⟨_,rfl,rfl,rfl,OW.one ?_⟩)))
  all_goals exact yQ _ _
theorem stroke_ex : ∃ (c' : Cur) (x : Int), c'.a ≤ c.a + 12 ∧ (0 ≤ x ∧ x < 8388608) ∧ PFM Tryz.prog 141 [xV code c] [.c (.ptr 0 0 0)] [some (xV code c')] (.c (int x)) := by
  obtain ⟨c1, b, a1, p1⟩ := one_ex code c hl (by omega) 2 (by omega)
  have i1 := xK (yQ code c1)
  have j1 := wD (yQ code c)
  cases b with
  | true =>
    obtain ⟨c2, x, a2, hx, p2⟩ := among_ex code c1 hl (by omega) strL 9 (by omega) (by decide)
    have i2 := qP (b := ⟨3, 1, strL.map xE⟩) (yQ code c2) (xM strL).imm
    have j2 := k9 (b := ⟨3, 1, strL.map xE⟩) (yQ code c1) (xM strL).imm
    refine ⟨c2, x, by omega, ?_, ?_⟩
    · have h : ∀ y ∈ strL, 0 ≤ y ∧ y < 8388608 := by decide
      exact h x hx
    refine zD (xJ _) (xQ _) rfl Tryz.func141 rfl (by kernel_rfl) _ _ rfl rfl rfl (fun w0 mu I0 β0 gi dis => ?_)
    (repeat' (first|(apply xW;((exact Want.none_ rfl)))|(apply xF zI;exact rfl;exact rfl)|(((apply zU))<;>(first|exact zI|exact rfl|refine yG ?_))|apply zR|apply AWp.Q|apply zH|apply AWp.G|apply AWp.R|apply zK|(apply AWp.T;exact rfl;((exact rfl)))|(apply (yP (p1));(iterate 7 exact rfl);(focus (repeat (first|exact All2.nil|refine All2.cons rfl ?_)));exact rfl;(focus (repeat (first|exact MAs.nil|apply MAs.cons|apply MA.c|exact MC.ptr rfl|exact MC.vc (VC.imm (Imm.v _)))));((assumption));((assumption));exact rfl;exact rfl)|(apply (yP (p2));(iterate 7 exact rfl);(focus (repeat (first|exact All2.nil|refine All2.cons rfl ?_)));exact rfl;(focus (repeat (first|exact MAs.nil|apply MAs.cons|apply MA.c|exact MC.ref rfl|exact MC.ptr rfl)));((assumption));((assumption));exact rfl;exact rfl)))
    (((refine zV _ [(0, some 0)] (.cons (zN rfl) .nil) ?_ rfl ?_)) <;> (repeat' (first|exact trivial|exact rfl|apply And.intro|refine ⟨_,rfl,rfl,rfl,OW.one ?_⟩)))
    all_goals exact yQ _ _
  | false =>
    obtain ⟨c2, n0, a2, hn0, p2⟩ := wZ code c1 hl (by omega) 4 (by omega)
    have i2 := xK (yQ code c2)
    have j2 := wD (yQ code c1)
    obtain ⟨cs, xs, hc0, hcs⟩ := kG (X := Nat) (fun c c' s => s < 23 ∧ PFM Tryz.prog 99 [xV code c] [.c (.ptr 0 0 0), .c (int ((23 : Nat) : Int))] [some (xV code c')] (.c (int (s : Nat)))) 2 9000000 (fun c hc => wZ code c hl (by omega) 23 (by omega)) c2 (1 + n0) (by omega)
    subst hc0
    have hx : ∀ j, j < 1 + n0 → xs j < 23 := fun j hj => (hcs j (by omega)).2.2.1
    have aN := (hcs (1 + n0) (Nat.le_refl _)).1
    have hS := skS_lt hx
    refine ⟨cs (1 + n0), (skS xs (1 + n0) : Nat), by omega, ⟨by omega, by have := hS (1 + n0) (Nat.le_refl _); omega⟩, ?_⟩
    refine zD (xJ _) (xQ _) rfl Tryz.func141 rfl (by kernel_rfl) _ _ rfl rfl rfl (fun w0 mu I0 β0 gi dis => ?_)
    (repeat' (first|(apply xW;((exact Want.none_ rfl)))|(apply xF zI;exact rfl;exact rfl)|(((apply zZ))<;>(first|exact rfl|refine yG ?_|omega))|apply zR|apply AWp.Q|apply zH|apply AWp.G|apply AWp.B|apply AWp.J|(apply AWp.F;exact rfl;((exact rfl)))|(apply (yP (p1));(iterate 7 exact rfl);(focus (repeat (first|exact All2.nil|refine All2.cons rfl ?_)));exact rfl;(focus (repeat (first|exact MAs.nil|apply MAs.cons|apply MA.c|exact MC.ptr rfl|exact MC.vc (VC.imm (Imm.v _)))));((assumption));((assumption));exact rfl;exact rfl)|(apply (yP (p2));(iterate 7 exact rfl);(focus (repeat (first|exact All2.nil|refine All2.cons rfl ?_)));exact rfl;(focus (repeat (first|exact MAs.nil|apply MAs.cons|apply MA.c|exact MC.ptr rfl|exact MC.vc (VC.imm (Imm.v _)))));((assumption));((assumption));exact rfl;exact rfl)))
    refine AWp.U (σ := Nat) (fun j => ⟨[(0, .c (.ptr 0 0 0)), (3, .c (int (skS xs j : Nat))), (4, .c (int (1 + (n0 : Int) - j)))], [(0, some (xV code (cs j)))], 1⟩) (fun j => j ≤ 1 + n0) (fun j => 1 + n0 - j) 0 (Nat.zero_le _) ?_ ?_
    · refine Weak.of [(0, some 0)] rfl ?_ ?_ <;> (repeat' (first|exact trivial|exact rfl|apply And.intro|refine ⟨_,rfl,rfl,rfl,OW.one ?_⟩))
      all_goals exact yQ _ _
    · intro j hj
      have hb := hS j hj
      obtain ⟨ha, hb2, hx2, hpf⟩ := hcs j hj
      by_cases hlt : j < 1 + n0
      · have hlt' : (0 : Int) < 1 + (n0 : Int) - j := by omega
        have hz : skS xs (j + 1) = skS xs j ||| 2 ^ xs j := rfl
        have hpw : 2 ^ xs j < 2 ^ 23 := Nat.pow_lt_pow_right (by omega) hx2
        have hw : IntKind.u64.wrap (xs j : Int) = (xs j : Int) := by
          show (xs j : Int) % 18446744073709551616 = xs j
          omega
        have k1 := xK (yQ code (cs (j + 1)))
        have m1 := wD (yQ code (cs j))
        (repeat' (first|(apply xW;((exact Want.none_ rfl)))|(apply xF zI;exact rfl;exact rfl)|(((apply y3))<;>(first|exact rfl|refine yG ?_|omega))|apply zR|apply AWp.Q|apply zH|apply AWp.G|apply AWp.B|apply AWp.J|apply zJ|(apply AWp.T;exact rfl;((exact dT ‹_›)))|(apply (yP (hpf));(iterate 7 exact rfl);(focus (repeat (first|exact All2.nil|refine All2.cons rfl ?_)));exact rfl;(focus (repeat (first|exact MAs.nil|apply MAs.cons|apply MA.c|exact MC.ptr rfl|exact MC.vc (VC.imm (Imm.v _)))));((assumption));((assumption));exact rfl;exact rfl)|((first|(apply kR;exact rfl;exact rfl;exact rfl)|(apply kC;exact rfl;exact rfl;exact rfl;((assumption))))<;>(first|refine yG ?_|((try refine Bd.mk ?_);(omega))))))
        refine ⟨j + 1, by omega, by omega, ?_⟩
        rw [hz]
        refine Weak.of [(0, some 0)] rfl ?_ ?_ <;> (repeat' (first|exact trivial|exact rfl|apply And.intro|(apply cgI;(omega))|refine ⟨_,rfl,rfl,rfl,OW.one ?_⟩))
        all_goals exact yQ _ _
      · have hlt' : ¬ (0 : Int) < 1 + (n0 : Int) - j := by omega
        obtain rfl : j = 1 + n0 := by omega
        (repeat' (first|(apply xW;((exact Want.none_ rfl)))|(apply xF zI;exact rfl;exact rfl)|apply zR|apply AWp.Q|apply zH|apply AWp.G|apply AWp.X|apply AWp.R|apply zQ|apply zO|(apply AWp.F;exact rfl;((exact dF ‹_›)))))
        (((refine zV _ [(0, some 0)] (.cons (zN rfl) .nil) ?_ rfl ?_)) <;> (repeat' (first|exact trivial|exact rfl|apply And.intro|refine ⟨_,rfl,rfl,rfl,OW.one ?_⟩)))
        all_goals exact yQ _ _
end
theorem rng_len (xs : Nat → Int) (j : Nat) : ((List.range j).map xs).length = j := by simp
theorem rng_succ (xs : Nat → Int) (j : Nat) : (List.range (j + 1)).map xs = (List.range j).map xs ++ [xs j] := by rw [List.range_succ, List.map_append]; rfl
theorem wV (l : List Int) (y : Int) : (l ++ [y]).map xE = l.map xE ++ [[int y]] := by rw [List.map_append]; rfl
def DS (l : List Int) : Prop := ∀ x ∈ l, -1 ≤ x ∧ x ≤ 1099511627776
section
variable (code : List UInt8) (c : Cur) (hl : code.length ≤ 65536) (hc : c.a ≤ 6000000)
include hl hc
theorem anyStroke_ex : ∃ (c' : Cur) (x : Int), c'.a ≤ c.a + 13 ∧ (-1 ≤ x ∧ x ≤ 1099511627776) ∧ PFM Tryz.prog 105 [xV code c] [.c (.ptr 0 0 0)] [some (xV code c')] (.c (int x)) := by
  obtain ⟨c1, b, a1, p1⟩ := one_ex code c hl (by omega) 12 (by omega)
  have i1 := xK (yQ code c1)
  have j1 := wD (yQ code c)
  cases b with
  | true =>
    obtain ⟨c2, x, a2, hx, p2⟩ := among_ex code c1 hl (by omega) badL 6 (by omega) (by decide)
    have i2 := qP (b := ⟨3, 1, badL.map xE⟩) (yQ code c2) (xM badL).imm
    have j2 := k9 (b := ⟨3, 1, badL.map xE⟩) (yQ code c1) (xM badL).imm
    refine ⟨c2, x, by omega, ?_, ?_⟩
    · have h : ∀ y ∈ badL, -1 ≤ y ∧ y ≤ 1099511627776 := by decide
      exact h x hx
    refine zD (xJ _) (xQ _) rfl Tryz.func105 rfl (by kernel_rfl) _ _ rfl rfl rfl (fun w0 mu I0 β0 gi dis => ?_)
    (repeat' (first|(apply xW;((exact Want.none_ rfl)))|(apply xF zI;exact rfl;exact rfl)|(((apply zU))<;>(first|exact zI|exact rfl|refine yG ?_))|apply zR|apply AWp.Q|apply zH|apply AWp.G|apply AWp.R|apply zK|(apply AWp.T;exact rfl;((exact rfl)))|(apply (yP (p1));(iterate 7 exact rfl);(focus (repeat (first|exact All2.nil|refine All2.cons rfl ?_)));exact rfl;(focus (repeat (first|exact MAs.nil|apply MAs.cons|apply MA.c|exact MC.ptr rfl|exact MC.vc (VC.imm (Imm.v _)))));((assumption));((assumption));exact rfl;exact rfl)|(apply (yP (p2));(iterate 7 exact rfl);(focus (repeat (first|exact All2.nil|refine All2.cons rfl ?_)));exact rfl;(focus (repeat (first|exact MAs.nil|apply MAs.cons|apply MA.c|exact MC.ref rfl|exact MC.ptr rfl)));((assumption));((assumption));exact rfl;exact rfl)))
    (((refine zV _ [(0, some 0)] (.cons (zN rfl) .nil) ?_ rfl ?_)) <;> (repeat' (first|exact trivial|exact rfl|apply And.intro|refine ⟨_,rfl,rfl,rfl,OW.one ?_⟩)))
    all_goals exact yQ _ _
  | false =>
    obtain ⟨c2, x, a2, hx, p2⟩ := stroke_ex code c1 hl (by omega)
    have i2 := xK (yQ code c2)
    have j2 := wD (yQ code c1)
    refine ⟨c2, x, by omega, by omega, ?_⟩
    refine zD (xJ _) (xQ _) rfl Tryz.func105 rfl (by kernel_rfl) _ _ rfl rfl rfl (fun w0 mu I0 β0 gi dis => ?_)
    (repeat' (first|(apply xW;((exact Want.none_ rfl)))|(apply xF zI;exact rfl;exact rfl)|apply zR|apply AWp.Q|apply zH|apply AWp.G|apply AWp.J|apply AWp.R|(apply AWp.F;exact rfl;((exact rfl)))|(apply (yP (p1));(iterate 7 exact rfl);(focus (repeat (first|exact All2.nil|refine All2.cons rfl ?_)));exact rfl;(focus (repeat (first|exact MAs.nil|apply MAs.cons|apply MA.c|exact MC.ptr rfl|exact MC.vc (VC.imm (Imm.v _)))));((assumption));((assumption));exact rfl;exact rfl)|(apply (yP (p2));(iterate 7 exact rfl);(focus (repeat (first|exact All2.nil|refine All2.cons rfl ?_)));exact rfl;(focus (repeat (first|exact MAs.nil|apply MAs.cons|apply MA.c|exact MC.ptr rfl)));((assumption));((assumption));exact rfl;exact rfl)))
    (((refine zV _ [(0, some 0)] (.cons (zN rfl) .nil) ?_ rfl ?_)) <;> (repeat' (first|exact trivial|exact rfl|apply And.intro|refine ⟨_,rfl,rfl,rfl,OW.one ?_⟩)))
    all_goals exact yQ _ _
theorem outline_ex : ∃ (c' : Cur) (l : List Int), c'.a ≤ c.a + 42 ∧ (1 ≤ l.length ∧ l.length ≤ 3 ∧ DS l) ∧ PFM Tryz.prog 138 [xV code c] [.c (.ptr 0 0 0)] [some (xV code c'), some ⟨3, 1, l.map xE⟩] (.c (.ref 1 0 l.length)) := by
  obtain ⟨c1, n0, a1, hn0, p1⟩ := wZ code c hl (by omega) 3 (by omega)
  have i1 := xK (yQ code c1)
  have j1 := wD (yQ code c)
  obtain ⟨cs, xs, hc0, hcs⟩ := kG (X := Int) (fun c c' x => (-1 ≤ x ∧ x ≤ 1099511627776) ∧ ∃ (b : Bool) (cm : Cur), PFM Tryz.prog 103 [xV code c] [.c (.ptr 0 0 0), .c (int ((5 : Nat) : Int))] [some (xV code cm)] (.c (boo b)) ∧
      (b = true → PFM Tryz.prog 141 [xV code cm] [.c (.ptr 0 0 0)] [some (xV code c')] (.c (int x))) ∧ (b = false → PFM Tryz.prog 106 [xV code cm] [.c (.ptr 0 0 0)] [some (xV code c')] (.c (int x)))) 13 6000100 (fun c hc => by
    obtain ⟨cm, b, am, pm⟩ := one_ex code c hl (by omega) 5 (by omega)
    cases b with
    | true =>
      obtain ⟨c2, x, a2, hx, p2⟩ := stroke_ex code cm hl (by omega)
      exact ⟨c2, x, by omega, by omega, true, cm, pm, fun _ => p2, fun h => by cases h⟩
    | false =>
      obtain ⟨c2, x, a2, hx, p2⟩ := few_ex code cm hl (by omega)
      exact ⟨c2, x, by omega, by omega, false, cm, pm, fun h => (by cases h), fun _ => p2⟩) c1 (1 + n0) (by omega)
  subst hc0
  have aN := (hcs (1 + n0) (Nat.le_refl _)).1
  refine ⟨cs (1 + n0), (List.range (1 + n0)).map xs, by omega, ⟨by rw [rng_len]; omega, by rw [rng_len]; omega, ?_⟩, ?_⟩
  · intro x hx
    obtain ⟨j, hj, rfl⟩ := List.mem_map.1 hx
    exact (hcs j (by have := List.mem_range.1 hj; omega)).2.2.1
  refine zD (xJ _) (xQ _) rfl Tryz.func138 rfl (by kernel_rfl) _ _ rfl rfl rfl (fun w0 mu I0 β0 gi dis => ?_)
  (repeat' (first|(apply xW;((exact Want.none_ rfl)))|(apply xF zI;exact rfl;exact rfl)|((first|apply zZ|apply zU)<;>(first|exact zI|exact rfl|refine yG ?_|omega))|apply zR|apply AWp.Q|apply zH|apply AWp.G|apply AWp.B|(apply (yP (p1));(iterate 7 exact rfl);(focus (repeat (first|exact All2.nil|refine All2.cons rfl ?_)));exact rfl;(focus (repeat (first|exact MAs.nil|apply MAs.cons|apply MA.c|exact MC.ptr rfl|exact MC.vc (VC.imm (Imm.v _)))));((assumption));((assumption));exact rfl;exact rfl)))
  refine AWp.U (σ := Nat) (fun j => ⟨[(0, .c (.ptr 0 0 0)), (3, .c (.ref 1 0 j)), (4, .c (int (1 + (n0 : Int) - j)))], [(0, some (xV code (cs j))), (1, some ⟨3, 1, ((List.range j).map xs).map xE⟩)], 2⟩) (fun j => j ≤ 1 + n0) (fun j => 1 + n0 - j) 0 (Nat.zero_le _) ?_ ?_
  · refine Weak.of [(0, some 0), (1, some 1)] rfl ?_ ?_ <;> (repeat' (first|exact trivial|exact rfl|apply And.intro|refine ⟨_,rfl,rfl,rfl,OW.one ?_⟩|refine oWs rfl rfl rfl ?_ ?_|(refine aIm ?_;(exact AllSc.nil))))
    all_goals first | exact yQ _ _ | exact (xM _).imm
  · intro j hj
    obtain ⟨ha, hb, hx, b, cm, pm, h1, h2⟩ := hcs j hj
    have hLl : (((List.range j).map xs).map xE).length = j := by simp
    have hsc := xM ((List.range j).map xs)
    by_cases hlt : j < 1 + n0
    · have hlt' : (0 : Int) < 1 + (n0 : Int) - j := by omega
      have k1 := xK (yQ code cm)
      have k2 := xK (yQ code (cs (j + 1)))
      have m1 := wD (yQ code (cs j))
      have m2 := wD (yQ code cm)
      cases b with
      | true =>
        have q := h1 rfl
        (repeat' (first|(apply xW;((exact Want.none_ rfl)))|(apply xF zI;exact rfl;exact rfl)|((first|apply y3|apply zU|(apply yZ;exact rfl;exact rfl))<;>(first|exact zI|exact rfl|refine yG ?_|omega|(refine Bd.mk ?_;first|(focus (simp;done))|(simp;omega))))|apply zR|apply AWp.Q|apply zH|apply AWp.G|apply AWp.B|apply AWp.J|apply zJ|(apply AWp.T;exact rfl;(first|exact dT ‹_›|exact rfl))|(apply (yP (pm));(iterate 7 exact rfl);(focus (repeat (first|exact All2.nil|refine All2.cons rfl ?_)));exact rfl;(focus (repeat (first|exact MAs.nil|apply MAs.cons|apply MA.c|exact MC.ptr rfl|exact MC.vc (VC.imm (Imm.v _)))));((assumption));((assumption));exact rfl;exact rfl)|(apply (yP (q));(iterate 7 exact rfl);(focus (repeat (first|exact All2.nil|refine All2.cons rfl ?_)));exact rfl;(focus (repeat (first|exact MAs.nil|apply MAs.cons|apply MA.c|exact MC.ptr rfl)));((assumption));((assumption));exact rfl;exact rfl)))
        refine ⟨j + 1, by omega, by omega, ?_⟩
        rw [rng_succ, wV]
        refine Weak.of [(0, some 0), (1, some 3)] rfl ?_ ?_ <;> (repeat' (first|exact trivial|exact rfl|apply And.intro|(apply cgI;(omega))|(refine z8 ?_;(focus (simp;done)))|refine ⟨_,rfl,rfl,rfl,OW.one ?_⟩|refine oWs rfl rfl rfl ?_ ?_))
        all_goals first | exact yQ _ _ | (rw [← wV]; exact (xM _).imm) | (rw [hLl]; rfl) | skip
      | false =>
        have q := h2 rfl
        (repeat' (first|(apply xW;((exact Want.none_ rfl)))|(apply xF zI;exact rfl;exact rfl)|((first|apply y3|apply zU|(apply yZ;exact rfl;exact rfl))<;>(first|exact zI|exact rfl|refine yG ?_|omega|(refine Bd.mk ?_;first|(focus (simp;done))|(simp;omega))))|apply zR|apply AWp.Q|apply zH|apply AWp.G|apply AWp.B|apply AWp.J|apply zJ|(apply AWp.T;exact rfl;((exact dT ‹_›)))|(apply AWp.F;exact rfl;((exact rfl)))|(apply (yP (pm));(iterate 7 exact rfl);(focus (repeat (first|exact All2.nil|refine All2.cons rfl ?_)));exact rfl;(focus (repeat (first|exact MAs.nil|apply MAs.cons|apply MA.c|exact MC.ptr rfl|exact MC.vc (VC.imm (Imm.v _)))));((assumption));((assumption));exact rfl;exact rfl)|(apply (yP (q));(iterate 7 exact rfl);(focus (repeat (first|exact All2.nil|refine All2.cons rfl ?_)));exact rfl;(focus (repeat (first|exact MAs.nil|apply MAs.cons|apply MA.c|exact MC.ptr rfl)));((assumption));((assumption));exact rfl;exact rfl)))
        refine ⟨j + 1, by omega, by omega, ?_⟩
        rw [rng_succ, wV]
        refine Weak.of [(0, some 0), (1, some 3)] rfl ?_ ?_ <;> (repeat' (first|exact trivial|exact rfl|apply And.intro|(apply cgI;(omega))|(refine z8 ?_;(focus (simp;done)))|refine ⟨_,rfl,rfl,rfl,OW.one ?_⟩|refine oWs rfl rfl rfl ?_ ?_))
        all_goals first | exact yQ _ _ | (rw [← wV]; exact (xM _).imm) | (rw [hLl]; rfl) | skip
    · have hlt' : ¬ (0 : Int) < 1 + (n0 : Int) - j := by omega
      obtain rfl : j = 1 + n0 := by omega
      rw [rng_len]
      (repeat' (first|(apply xW;((exact Want.none_ rfl)))|(apply xF zI;exact rfl;exact rfl)|apply zR|apply AWp.Q|apply zH|apply AWp.G|apply AWp.X|apply AWp.R|apply zQ|apply zO|(apply AWp.F;exact rfl;((exact dF ‹_›)))))
      (((refine zV _ [(0, some 0), (1, some 1)] (.cons (zN rfl) .nil) ?_ rfl ?_)) <;> (repeat' (first|exact trivial|exact rfl|apply And.intro|refine ⟨_,rfl,rfl,rfl,OW.one ?_⟩|refine oWs rfl rfl rfl ?_ ?_|(refine aIm ?_;(assumption)))))
      all_goals first | exact yQ _ _ | exact (xM _).imm
end
end Go.Proofs.YtjeffognhcbiaaaGreatDoor
namespace Go.Proofs.YtjeffognhcbiaaaGreatDoor
open Go Go.RowKit
theorem DS.snoc {l : List Int} {y : Int} (h : DS l) (hy : -1 ≤ y ∧ y ≤ 1099511627776) : DS (l ++ [y]) := fun x hx => by
  rcases List.mem_append.1 hx with hx | hx
  · exact h x hx
  · rw [List.mem_singleton.1 hx]; exact hy
section
variable (code : List UInt8) (c : Cur) (hl : code.length ≤ 65536) (hc : c.a ≤ 5000000)
include hl hc
theorem anyOutline_ex : ∃ (c' : Cur) (l : List Int), c'.a ≤ c.a + 70 ∧ (l.length ≤ 8 ∧ DS l) ∧ PFM Tryz.prog 102 [xV code c] [.c (.ptr 0 0 0)] [some (xV code c'), some ⟨3, 1, l.map xE⟩] (.c (.ref 1 0 l.length)) := by
  obtain ⟨c1, w, a1, hw, p1⟩ := wZ code c hl (by omega) 16 (by omega)
  have i1 := xK (yQ code c1)
  have j1 := wD (yQ code c)
  by_cases w0 : w = 0
  · subst w0
    refine ⟨c1, [], by omega, ⟨by simp, fun x hx => by simp at hx⟩, ?_⟩
    refine zD (xJ _) (xQ _) rfl Tryz.func102 rfl (by kernel_rfl) _ _ rfl rfl rfl (fun w0 mu I0 β0 gi dis => ?_)
    (repeat' (first|(apply xW;((exact Want.none_ rfl)))|(apply xF zI;exact rfl;exact rfl)|(((apply zU))<;>(first|exact zI|exact rfl|refine yG ?_))|apply zR|apply AWp.Q|apply zH|apply AWp.G|apply AWp.B|apply AWp.R|apply zK|apply zL|(apply AWp.T;exact rfl;((exact rfl)))|(apply (yP (p1));(iterate 7 exact rfl);(focus (repeat (first|exact All2.nil|refine All2.cons rfl ?_)));exact rfl;(focus (repeat (first|exact MAs.nil|apply MAs.cons|apply MA.c|exact MC.ptr rfl|exact MC.vc (VC.imm (Imm.v _)))));((assumption));((assumption));exact rfl;exact rfl)))
    (((refine zV _ [(0, some 0), (1, some 1)] (.cons (zN rfl) .nil) ?_ rfl ?_)) <;> (repeat' (first|exact trivial|exact rfl|apply And.intro|refine ⟨_,rfl,rfl,rfl,OW.one ?_⟩|refine oWs rfl rfl rfl ?_ ?_|(refine aIm ?_;(exact AllSc.nil)))))
    all_goals first | exact yQ _ _ | exact (xM []).imm
  by_cases w1 : w = 1
  · subst w1
    obtain ⟨c2, n0, a2, hn0, p2⟩ := wZ code c1 hl (by omega) 2 (by omega)
    have i2 := xK (yQ code c2)
    have j2 := wD (yQ code c1)
    obtain ⟨cs, xs, hc0, hcs⟩ := kG (X := Int) (fun c c' x => (0 ≤ x ∧ x < 8388608) ∧ PFM Tryz.prog 106 [xV code c] [.c (.ptr 0 0 0)] [some (xV code c')] (.c (int x))) 1 6000000 (fun c hc => few_ex code c hl (by omega)) c2 (6 + n0) (by omega)
    subst hc0
    have aN := (hcs (6 + n0) (Nat.le_refl _)).1
    refine ⟨cs (6 + n0), (List.range (6 + n0)).map xs, by omega, ⟨by rw [rng_len]; omega, ?_⟩, ?_⟩
    · intro x hx
      obtain ⟨j, hj, rfl⟩ := List.mem_map.1 hx
      have := (hcs j (by have := List.mem_range.1 hj; omega)).2.2.1
      omega
    refine zD (xJ _) (xQ _) rfl Tryz.func102 rfl (by kernel_rfl) _ _ rfl rfl rfl (fun w0 mu I0 β0 gi dis => ?_)
    (repeat' (first|(apply xW;((exact Want.none_ rfl)))|(apply xF zI;exact rfl;exact rfl)|((first|apply zZ|apply zU)<;>(first|exact zI|exact rfl|refine yG ?_|omega))|apply zR|apply AWp.Q|apply zH|apply AWp.G|apply AWp.B|(apply AWp.T;exact rfl;((exact rfl)))|(apply AWp.F;exact rfl;((exact rfl)))|(apply (yP (p1));(iterate 7 exact rfl);(focus (repeat (first|exact All2.nil|refine All2.cons rfl ?_)));exact rfl;(focus (repeat (first|exact MAs.nil|apply MAs.cons|apply MA.c|exact MC.ptr rfl|exact MC.vc (VC.imm (Imm.v _)))));((assumption));((assumption));exact rfl;exact rfl)|(apply (yP (p2));(iterate 7 exact rfl);(focus (repeat (first|exact All2.nil|refine All2.cons rfl ?_)));exact rfl;(focus (repeat (first|exact MAs.nil|apply MAs.cons|apply MA.c|exact MC.ptr rfl|exact MC.vc (VC.imm (Imm.v _)))));((assumption));((assumption));exact rfl;exact rfl)))
    refine AWp.U (σ := Nat) (fun j => ⟨[(0, .c (.ptr 0 0 0)), (3, .c (.ref 1 0 j)), (4, .c (int (6 + (n0 : Int) - j)))], [(0, some (xV code (cs j))), (1, some ⟨3, 1, ((List.range j).map xs).map xE⟩)], 2⟩) (fun j => j ≤ 6 + n0) (fun j => 6 + n0 - j) 0 (Nat.zero_le _) ?_ ?_
    · refine Weak.of [(0, some 0), (1, some 1)] rfl ?_ ?_ <;> (repeat' (first|exact trivial|exact rfl|apply And.intro|refine ⟨_,rfl,rfl,rfl,OW.one ?_⟩|refine oWs rfl rfl rfl ?_ ?_|(refine aIm ?_;(exact AllSc.nil))))
      all_goals first | exact yQ _ _ | exact (xM _).imm
    · intro j hj
      obtain ⟨ha, hb, hx, q⟩ := hcs j hj
      have hLl : (((List.range j).map xs).map xE).length = j := by simp
      have hsc := xM ((List.range j).map xs)
      by_cases hlt : j < 6 + n0
      · have hlt' : (0 : Int) < 6 + (n0 : Int) - j := by omega
        have k2 := xK (yQ code (cs (j + 1)))
        have m1 := wD (yQ code (cs j))
        (repeat' (first|(apply xW;((exact Want.none_ rfl)))|(apply xF zI;exact rfl;exact rfl)|((first|apply y3|apply zU|(apply yZ;exact rfl;exact rfl))<;>(first|exact zI|exact rfl|refine yG ?_|omega|(refine Bd.mk ?_;first|(focus (simp;done))|(simp;omega))))|apply zR|apply AWp.Q|apply zH|apply AWp.G|apply AWp.B|apply AWp.J|apply zJ|(apply AWp.T;exact rfl;((exact dT ‹_›)))|(apply (yP (q));(iterate 7 exact rfl);(focus (repeat (first|exact All2.nil|refine All2.cons rfl ?_)));exact rfl;(focus (repeat (first|exact MAs.nil|apply MAs.cons|apply MA.c|exact MC.ptr rfl)));((assumption));((assumption));exact rfl;exact rfl)))
        refine ⟨j + 1, by omega, by omega, ?_⟩
        rw [rng_succ, wV]
        refine Weak.of [(0, some 0), (1, some 3)] rfl ?_ ?_ <;> (repeat' (first|exact trivial|exact rfl|apply And.intro|(apply cgI;(omega))|(refine z8 ?_;(focus (simp;done)))|refine ⟨_,rfl,rfl,rfl,OW.one ?_⟩|refine oWs rfl rfl rfl ?_ ?_))
        all_goals first | exact yQ _ _ | (rw [← wV]; exact (xM _).imm) | (rw [hLl]; rfl) | skip
      · have hlt' : ¬ (0 : Int) < 6 + (n0 : Int) - j := by omega
        obtain rfl : j = 6 + n0 := by omega
        rw [rng_len]
        (repeat' (first|(apply xW;((exact Want.none_ rfl)))|(apply xF zI;exact rfl;exact rfl)|apply zR|apply AWp.Q|apply zH|apply AWp.G|apply AWp.X|apply AWp.R|apply zQ|apply zK|apply zL|apply zO|(apply AWp.F;exact rfl;((exact dF ‹_›)))))
        (((refine zV _ [(0, some 0), (1, some 1)] (.cons (zN rfl) .nil) ?_ rfl ?_)) <;> (repeat' (first|exact trivial|exact rfl|apply And.intro|refine ⟨_,rfl,rfl,rfl,OW.one ?_⟩|refine oWs rfl rfl rfl ?_ ?_|(refine aIm ?_;(assumption)))))
        all_goals first | exact yQ _ _ | exact (xM _).imm
  obtain ⟨c2, l, a2, ⟨_, hll, hds⟩, p2⟩ := outline_ex code c1 hl (by omega)
  have i2 := qP (b := ⟨3, 1, l.map xE⟩) (yQ code c2) (xM l).imm
  have j2 := wD (yQ code c1)
  by_cases w2 : w = 2
  · subst w2
    obtain ⟨c3, y, a3, hy, p3⟩ := anyStroke_ex code c2 hl (by omega)
    have i3 := xK (yQ code c3)
    have j3 := wD (yQ code c2)
    have hsc := xM l
    have hLl : (l.map xE).length = l.length := List.length_map _
    refine ⟨c3, l ++ [y], by omega, ⟨by simp; omega, hds.snoc hy⟩, ?_⟩
    refine zD (xJ _) (xQ _) rfl Tryz.func102 rfl (by kernel_rfl) _ _ rfl rfl rfl (fun w0 mu I0 β0 gi dis => ?_)
    (repeat' (first|(apply xW;((exact Want.none_ rfl)))|(apply xF zI;exact rfl;exact rfl)|((first|apply zU|(apply yZ;exact rfl;exact rfl))<;>(first|exact zI|exact rfl|refine yG ?_|omega|(refine Bd.mk ?_;first|(focus (simp;done))|(simp;omega))))|apply zR|apply AWp.Q|apply zH|apply AWp.G|apply AWp.B|apply AWp.R|apply zK|apply zL|(apply AWp.T;exact rfl;((exact rfl)))|(apply AWp.F;exact rfl;((exact rfl)))|(apply (yP (p1));(iterate 7 exact rfl);(focus (repeat (first|exact All2.nil|refine All2.cons rfl ?_)));exact rfl;(focus (repeat (first|exact MAs.nil|apply MAs.cons|apply MA.c|exact MC.ptr rfl|exact MC.vc (VC.imm (Imm.v _)))));((assumption));((assumption));exact rfl;exact rfl)|(apply (yP (p2));(iterate 7 exact rfl);(focus (repeat (first|exact All2.nil|refine All2.cons rfl ?_)));exact rfl;(focus (repeat (first|exact MAs.nil|apply MAs.cons|apply MA.c|exact MC.ptr rfl)));((assumption));((assumption));exact rfl;exact rfl)|(apply (yP (p3));(iterate 7 exact rfl);(focus (repeat (first|exact All2.nil|refine All2.cons rfl ?_)));exact rfl;(focus (repeat (first|exact MAs.nil|apply MAs.cons|apply MA.c|exact MC.ptr rfl)));((assumption));((assumption));exact rfl;exact rfl)))
    (((refine zV _ [(0, some 0), (1, some 3)] (.cons (zN rfl) .nil) ?_ rfl ?_)) <;> (repeat' (first|exact trivial|exact rfl|apply And.intro|(refine z8 ?_;(focus (simp;done)))|refine ⟨_,rfl,rfl,rfl,OW.one ?_⟩|refine oWs rfl rfl rfl ?_ ?_)))
    all_goals first | exact yQ _ _ | exact (xM _).imm | (rw [wV]; rfl) | skip
  · have w0' : ¬ (w : Int) = 0 := by omega
    have w1' : ¬ (w : Int) = 1 := by omega
    have w2' : ¬ (w : Int) = 2 := by omega
    refine ⟨c2, l, by omega, ⟨by omega, hds⟩, ?_⟩
    refine zD (xJ _) (xQ _) rfl Tryz.func102 rfl (by kernel_rfl) _ _ rfl rfl rfl (fun w0 mu I0 β0 gi dis => ?_)
    (repeat' (first|(apply xW;((exact Want.none_ rfl)))|(apply xF zI;exact rfl;exact rfl)|apply zR|apply AWp.Q|apply zH|apply AWp.G|apply AWp.B|apply AWp.J|apply AWp.R|apply zJ|(apply AWp.F;exact rfl;((exact dF ‹_›)))|(apply (yP (p1));(iterate 7 exact rfl);(focus (repeat (first|exact All2.nil|refine All2.cons rfl ?_)));exact rfl;(focus (repeat (first|exact MAs.nil|apply MAs.cons|apply MA.c|exact MC.ptr rfl|exact MC.vc (VC.imm (Imm.v _)))));((assumption));((assumption));exact rfl;exact rfl)|(apply (yP (p2));(iterate 7 exact rfl);(focus (repeat (first|exact All2.nil|refine All2.cons rfl ?_)));exact rfl;(focus (repeat (first|exact MAs.nil|apply MAs.cons|apply MA.c|exact MC.ptr rfl)));((assumption));((assumption));exact rfl;exact rfl)))
    (((refine zV _ [(0, some 0), (1, some 1)] (.cons (zN rfl) .nil) ?_ rfl ?_)) <;> (repeat' (first|exact trivial|exact rfl|apply And.intro|refine ⟨_,rfl,rfl,rfl,OW.one ?_⟩|refine oWs rfl rfl rfl ?_ ?_)))
    all_goals first | exact yQ _ _ | exact (xM _).imm
end
end Go.Proofs.YtjeffognhcbiaaaGreatDoor
