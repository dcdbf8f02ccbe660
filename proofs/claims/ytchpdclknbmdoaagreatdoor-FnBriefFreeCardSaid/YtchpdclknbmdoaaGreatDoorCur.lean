/- The cursor out of which the draws are made, and the draws of one number or one choice. -/
import Derived.Test.YtchpdclknbmdoaaGreatDoorAbs4
import Derived.Test.YtchpdclknbmdoaaGreatDoorAbs3
namespace Go.Proofs.YtchpdclknbmdoaaGreatDoor
open Go Go.RowKit
structure Cur where
  a : Nat
  s : Int
def xT (code : List UInt8) (c : Cur) : AObj := ⟨118, 3, [[.sl (code.map vE), int c.a, .v (.int .u64 c.s)]]⟩
theorem yL (code : List UInt8) (c : Cur) : ∀ x ∈ (xT code c).els, ∀ y ∈ x, Imm y := by
  intro x hx y hy
  simp only [xT, List.mem_cons, List.not_mem_nil, or_false] at hx
  subst hx
  simp only [List.mem_cons, List.not_mem_nil, or_false] at hy
  rcases hy with rfl | rfl | rfl
  · exact Imm.sl _
  · exact Imm.v _
  · exact Imm.v _
theorem qF {a b : AObj} (h1 : ∀ x ∈ a.els, ∀ c ∈ x, Imm c) (h2 : ∀ x ∈ b.els, ∀ c ∈ x, Imm c) : ∀ obj, some obj ∈ [some a, some b] → ∀ x ∈ obj.els, ∀ c ∈ x, Imm c := fun obj hm => by
  simp at hm
  rcases hm with rfl | rfl
  · exact h1
  · exact h2
theorem kQ {a b : AObj} (h1 : ∀ x ∈ a.els, ∀ c ∈ x, Imm c) (h2 : ∀ x ∈ b.els, ∀ c ∈ x, Imm c) : ∀ obj ∈ [a, b], ∀ x ∈ obj.els, ∀ c ∈ x, Imm c := fun obj hm => by
  simp at hm
  rcases hm with rfl | rfl
  · exact h1
  · exact h2
theorem wE {a : AObj} (h1 : ∀ x ∈ a.els, ∀ c ∈ x, Imm c) : ∀ obj ∈ [a], ∀ x ∈ obj.els, ∀ c ∈ x, Imm c := fun obj hm => by
  simp at hm; subst hm; exact h1
def byt (code : List UInt8) (c : Cur) : Nat := (code[c.a]?.map (·.toNat)).getD 0
theorem byt_le (code : List UInt8) (c : Cur) : byt code c ≤ 255 := by
  unfold byt
  cases code[c.a]? with
  | none => simp
  | some b => have := b.toNat_lt; simp only [Option.map_some, Option.getD_some]; omega
def nxC (code : List UInt8) (c : Cur) : Cur := ⟨c.a + 1, IntKind.u64.wrap (IntKind.u64.wrap (IntKind.u64.wrap (c.s * 6364136223846793005) + IntKind.u64.wrap (byt code c)) + 882882)⟩
def nxV (code : List UInt8) (c : Cur) : Int := if c.a + 1 ≤ code.length then byt code c else IntKind.i64.wrap (bits .and .u64 ((nxC code c).s / 2 ^ (min (40 : Int).toNat IntKind.u64.bits)) 255)
theorem and255 (x : Int) : ∃ v : Nat, v ≤ 255 ∧ bits .and .u64 x 255 = (v : Int) := by
  refine ⟨(BitVec.ofInt 64 x &&& BitVec.ofInt 64 255).toNat, ?_, ?_⟩
  · rw [BitVec.toNat_and]
    exact Nat.le_trans Nat.and_le_right (by decide)
  · have h : (BitVec.ofInt 64 x &&& BitVec.ofInt 64 255).toNat ≤ 255 := by
      rw [BitVec.toNat_and]
      exact Nat.le_trans Nat.and_le_right (by decide)
    show IntKind.u64.wrap ((BitVec.ofInt 64 x &&& BitVec.ofInt 64 255).toNat : Int) = _
    generalize (BitVec.ofInt 64 x &&& BitVec.ofInt 64 255).toNat = v at h
    show ((v : Int) % 18446744073709551616) = v
    omega
theorem nxV_in (code : List UInt8) (c : Cur) : 0 ≤ nxV code c ∧ nxV code c ≤ 255 := by
  unfold nxV
  split
  · have := byt_le code c; omega
  · obtain ⟨v, h, e⟩ := and255 ((nxC code c).s / 2 ^ (min (40 : Int).toNat IntKind.u64.bits))
    rw [e, IntWalk.i64_in _ (by omega)]
    omega
theorem next_pfm (code : List UInt8) (c : Cur) (hl : code.length ≤ 65536) (hc : c.a ≤ 1000000000) :
    PFM Tryz.prog 137 [xT code c] [.c (.ptr 0 0 0)] [some (xT code (nxC code c))] (.c (int (nxV code c))) := by
  have hL : (code.map vE).length = code.length := List.length_map _
  have him := yL code (nxC code c)
  refine zD (xI _) (xV _) rfl Tryz.func137 rfl (by kernel_rfl) _ _ rfl rfl rfl (fun w0 mu I0 β0 gi dis => ?_)
  by_cases hlt : c.a < code.length
  · obtain ⟨b, hb⟩ := xX hlt
    have hb' : (code.map vE)[c.a]? = some (vE b) := xZ hb
    have hbyt : byt code c = b.toNat := by simp [byt, hb]
    have h1 : (c.a : Int) < ((code.map vE).length : Int) := by omega
    have h2 : (c.a : Int) + 1 ≤ ((code.map vE).length : Int) := by omega
    have hv : nxV code c = b.toNat := by rw [nxV, if_pos (by omega), hbyt]
    have hn : nxC code c = ⟨c.a + 1, IntKind.u64.wrap (IntKind.u64.wrap (IntKind.u64.wrap (c.s * 6364136223846793005) + IntKind.u64.wrap (b.toNat : Nat)) + 882882)⟩ := by rw [nxC, hbyt]
    have hwb : IntKind.i64.wrap ((b.toNat : Nat) : Int) = b.toNat := IntWalk.i64_in _ (by have := b.toNat_lt; omega)
    (repeat' (first|(apply xW;((exact Want.none_ rfl)))|(apply xF zK;exact rfl;exact rfl)|((first|apply yF|apply vS|(apply yJ;exact rfl;exact rfl)|apply yD)<;>(first|exact zK|exact Nat.zero_add _|exact rfl|refine yO ?_|assumption|omega|exact lb rfl))|apply zV|(refine yN ?_ ?_;kernel_rfl)|apply AWp.Q|apply zJ|apply AWp.G|(refine AWp.D ?_ ?_;kernel_rfl)|(apply AWp.T;exact rfl;((exact dT ‹_›)))))
    rw [hwb]
    apply rx_mulk
    exact rfl
    exact rfl
    exact rfl
    (repeat' (first|(apply xW;((exact Want.none_ rfl)))|(apply xF zK;exact rfl;exact rfl)))
    apply rx_addk
    exact rfl
    exact rfl
    exact rfl
    (repeat' ((apply xW;((exact Want.none_ rfl)))))
    apply rx_addk
    exact rfl
    exact rfl
    exact rfl
    (repeat' (first|(apply xW;((exact Want.none_ rfl)))|(apply xF zK;exact rfl;exact rfl)|(((apply yD))<;>(first|exact zK|exact rfl|refine yO ?_|exact lb rfl))|apply zV|(refine yN ?_ ?_;kernel_rfl)|apply AWp.Q|apply zJ|apply AWp.G|apply AWp.R|apply zM|(refine AWp.D ?_ ?_;kernel_rfl)|(apply AWp.T;exact rfl;((exact dT ‹_›)))))
    rw [hv, hn]
    (((refine z6 _ [(0, some 0)] (.cons (zT rfl) .nil) ?_ rfl ?_)) <;> (repeat' (first|exact trivial|exact rfl|apply And.intro|refine ⟨_,rfl,rfl,rfl,OW.one ?_⟩)))
  · have h1 : ¬ (c.a : Int) < ((code.map vE).length : Int) := by omega
    have h2 : ¬ (c.a : Int) + 1 ≤ ((code.map vE).length : Int) := by omega
    have hbyt : byt code c = 0 := by simp [byt, List.getElem?_eq_none (show code.length ≤ c.a by omega)]
    have hn : nxC code c = ⟨c.a + 1, IntKind.u64.wrap (IntKind.u64.wrap (IntKind.u64.wrap (c.s * 6364136223846793005) + IntKind.u64.wrap 0) + 882882)⟩ := by rw [nxC, hbyt]; rfl
    have hv : nxV code c = IntKind.i64.wrap (bits .and .u64 ((nxC code c).s / 2 ^ (min (40 : Int).toNat IntKind.u64.bits)) 255) := by rw [nxV, if_neg (by omega)]
    (repeat' (first|(apply xW;((exact Want.none_ rfl)))|(apply xF zK;exact rfl;exact rfl)|((first|apply yF|apply vS|apply yD)<;>(first|exact zK|exact rfl|refine yO ?_|omega|exact lb rfl))|apply zV|(refine yN ?_ ?_;kernel_rfl)|apply AWp.Q|apply zJ|apply AWp.G|apply AWp.J|(refine AWp.D ?_ ?_;kernel_rfl)|(apply AWp.F;exact rfl;((exact dF ‹_›)))))
    apply rx_mulk
    exact rfl
    exact rfl
    exact rfl
    (repeat' (first|(apply xW;((exact Want.none_ rfl)))|(apply xF zK;exact rfl;exact rfl)))
    apply rx_addk
    exact rfl
    exact rfl
    exact rfl
    (repeat' ((apply xW;((exact Want.none_ rfl)))))
    apply rx_addk
    exact rfl
    exact rfl
    exact rfl
    (repeat' (first|(apply xW;((exact Want.none_ rfl)))|(apply xF zK;exact rfl;exact rfl)|(((apply yD))<;>(first|exact zK|exact rfl|refine yO ?_|exact lb rfl))|apply zV|(refine yN ?_ ?_;kernel_rfl)|apply AWp.Q|apply zJ|apply AWp.G|apply AWp.J|(refine AWp.D ?_ ?_;kernel_rfl)|(apply AWp.F;exact rfl;((exact dF ‹_›)))))
    apply rx_shr
    exact rfl
    exact rfl
    exact rfl
    exact by decide
    (repeat' ((apply xW;((exact Want.none_ rfl)))))
    apply rx_and
    exact rfl
    exact rfl
    exact rfl
    (repeat' (first|(apply xW;((exact Want.none_ rfl)))|(apply xF zK;exact rfl;exact rfl)|apply zV|apply zJ|apply AWp.R))
    rw [hv, hn]
    (((refine z6 _ [(0, some 0)] (.cons (zT rfl) .nil) ?_ rfl ?_)) <;> (repeat' (first|exact trivial|exact rfl|apply And.intro|refine ⟨_,rfl,rfl,rfl,OW.one ?_⟩)))
def pkC (code : List UInt8) (c : Cur) (n : Nat) : Cur := if n ≤ 1 then c else nxC code c
def pkV (code : List UInt8) (c : Cur) (n : Nat) : Int := if n ≤ 1 then 0 else nxV code c % n
theorem jF (code : List UInt8) (c : Cur) (n : Nat) : (pkC code c n).a ≤ c.a + 1 := by
  unfold pkC
  split
  · omega
  · exact Nat.le_refl _
theorem kM (code : List UInt8) (c : Cur) {n : Nat} (hn : 1 ≤ n) : 0 ≤ pkV code c n ∧ pkV code c n < n := by
  unfold pkV
  split
  · omega
  · exact ⟨Int.emod_nonneg _ (by omega), Int.emod_lt_of_pos _ (by omega)⟩
section
variable (code : List UInt8) (c : Cur) (hl : code.length ≤ 65536) (hc : c.a ≤ 100000000)
include hl hc
theorem pick_pfm (n : Nat) (hn : n ≤ 200) : PFM Tryz.prog 77 [xT code c] [.c (.ptr 0 0 0), .c (int n)] [some (xT code (pkC code c n))] (.c (int (pkV code c n))) := by
  have him := yL code c
  have him2 := y5 (yL code (nxC code c))
  have hii := wE (yL code c)
  have hv := nxV_in code c
  refine zD (x5 _ _) (xV _) rfl Tryz.func77 rfl (by kernel_rfl) _ _ rfl rfl rfl (fun w0 mu I0 β0 gi dis => ?_)
  by_cases h1 : n ≤ 1
  · have h1' : (n : Int) ≤ 1 := by omega
    (repeat' (first|(apply xW;((exact Want.none_ rfl)))|(apply xF zK;exact rfl;exact rfl)|apply zV|apply AWp.Q|apply zJ|apply AWp.G|apply AWp.R|apply zM|(apply AWp.T;exact rfl;((exact dT ‹_›)))))
    rw [pkC, pkV, if_pos h1, if_pos h1]
    (((refine z6 _ [(0, some 0)] (.cons (zT rfl) .nil) ?_ rfl ?_)) <;> (repeat' (first|exact trivial|exact rfl|apply And.intro|refine ⟨_,rfl,rfl,rfl,OW.one ?_⟩)))
  · have h1' : ¬ (n : Int) ≤ 1 := by omega
    have h2' : ¬ (200 : Int) < (n : Int) := by omega
    (repeat' (first|(apply xW;((exact Want.none_ rfl)))|(apply xF zK;exact rfl;exact rfl)|(((apply rx_rem))<;>(first|exact rfl|refine yO ?_|omega))|apply zV|apply AWp.Q|apply zJ|apply AWp.G|apply AWp.J|apply AWp.R|(apply AWp.F;exact rfl;((exact dF ‹_›)))|(apply (zY (next_pfm code c hl (by omega)));(iterate 7 exact rfl);(focus (repeat (first|exact All2.nil|refine All2.cons rfl ?_)));exact rfl;(focus (repeat (first|exact MAs.nil|apply MAs.cons|apply MA.c|exact MC.ptr rfl)));((assumption));((assumption));exact rfl;exact rfl)))
    rw [pkC, pkV, if_neg h1, if_neg h1]
    have him3 := yL code (nxC code c)
    (((refine z6 _ [(0, some 0)] (.cons (zT rfl) .nil) ?_ rfl ?_)) <;> (repeat' (first|exact trivial|exact rfl|apply And.intro|refine ⟨_,rfl,rfl,rfl,OW.one ?_⟩)))
theorem one_pfm (n : Nat) (hn : n ≤ 200) : PFM Tryz.prog 75 [xT code c] [.c (.ptr 0 0 0), .c (int n)] [some (xT code (pkC code c n))] (.c (boo (decide (pkV code c n = 0)))) := by
  have him2 := y5 (yL code (pkC code c n))
  have hii := wE (yL code c)
  have him3 := yL code (pkC code c n)
  refine zD (x5 _ _) (xV _) rfl Tryz.func75 rfl (by kernel_rfl) _ _ rfl rfl rfl (fun w0 mu I0 β0 gi dis => ?_)
  (repeat' (first|(apply xW;((exact Want.none_ rfl)))|(apply xF zK;exact rfl;exact rfl)|apply zV|apply AWp.Q|apply zJ|apply AWp.G|apply AWp.R|(apply (zY (pick_pfm code c hl hc n hn));(iterate 7 exact rfl);(focus (repeat (first|exact All2.nil|refine All2.cons rfl ?_)));exact rfl;(focus (repeat (first|exact MAs.nil|apply MAs.cons|apply MA.c|exact MC.ptr rfl|exact MC.vc (VC.imm (Imm.v _)))));((assumption));((assumption));exact rfl;exact rfl)))
  (((refine z6 _ [(0, some 0)] (.cons (zT rfl) .nil) ?_ rfl ?_)) <;> (repeat' (first|exact trivial|exact rfl|apply And.intro|refine ⟨_,rfl,rfl,rfl,OW.one ?_⟩)))
def ofV (code : List UInt8) (c : Cur) (l : List (List UInt8)) : List UInt8 := (l[(pkV code c l.length).toNat]?).getD []
def amV (code : List UInt8) (c : Cur) (l : List Int) (m : Nat) : Int := (l[(pkV code c m).toNat]?).getD 0
theorem of_pfm (l : List (List UInt8)) (hn : 1 ≤ l.length ∧ l.length ≤ 200) : PFM Tryz.prog 109 [xT code c, ⟨9, 1, l.map wF⟩] [.c (.ptr 0 0 0), .c (.ref 1 0 l.length)] [some (xT code (pkC code c l.length)), some ⟨9, 1, l.map wF⟩] (.c (str (ofV code c l))) := by
  have him2 := y5 (yL code (pkC code c l.length))
  have hii := wE (yL code c)
  have him3 := yL code (pkC code c l.length)
  have hsl := (x4 l).imm
  have hv := kM code c hn.1
  obtain ⟨k, hk⟩ : ∃ k : Nat, pkV code c l.length = (k : Int) := ⟨(pkV code c l.length).toNat, by omega⟩
  obtain ⟨x, hx⟩ := xX (show k < l.length by omega)
  have hx' : (l.map wF)[k]? = some (wF x) := xZ hx
  have hof : ofV code c l = x := by rw [ofV, hk, Int.toNat_natCast, hx]; rfl
  refine zD (x5 _ _) (enumM2 _ _) rfl Tryz.func109 rfl (by kernel_rfl) _ _ rfl rfl rfl (fun w0 mu I0 β0 gi dis => ?_)
  (repeat' (first|(apply xW;((exact Want.none_ rfl)))|(apply xF zK;exact rfl;exact rfl)|((first|apply z8|(apply zW;exact rfl;exact rfl;exact zK;exact rfl;exact rfl))<;>(first|exact zK|exact Nat.zero_add _|exact rfl|refine yO ?_|assumption|omega))|apply zV|apply AWp.Q|apply zJ|apply AWp.G|apply AWp.R|(apply (zY (pick_pfm code c hl hc l.length hn.2));(iterate 7 exact rfl);(focus (repeat (first|exact All2.nil|refine All2.cons rfl ?_)));exact rfl;(focus (repeat (first|exact MAs.nil|apply MAs.cons|apply MA.c|exact MC.ptr rfl|exact MC.vc (VC.imm (Imm.v _)))));((assumption));((assumption));exact rfl;exact rfl)))
  rw [hof]
  (((refine z6 _ [(0, some 0), (1, some 1)] (.cons (zT rfl) .nil) ?_ rfl ?_)) <;> (repeat' (first|exact trivial|exact rfl|apply And.intro|refine ⟨_,rfl,rfl,rfl,OW.one ?_⟩|refine oWs rfl rfl rfl ?_ ?_)))
  exact hsl
theorem among_pfm (l : List Int) (m : Nat) (hn : 1 ≤ m ∧ m ≤ 200) (hm : m ≤ l.length) : PFM Tryz.prog 76 [xT code c, ⟨3, 1, l.map y4⟩] [.c (.ptr 0 0 0), .c (.ref 1 0 m)] [some (xT code (pkC code c m)), some ⟨3, 1, l.map y4⟩] (.c (int (amV code c l m))) := by
  have him2 := y5 (yL code (pkC code c m))
  have hii := wE (yL code c)
  have him3 := yL code (pkC code c m)
  have hsl := (xJ l).imm
  have hv := kM code c hn.1
  obtain ⟨k, hk⟩ : ∃ k : Nat, pkV code c m = (k : Int) := ⟨(pkV code c m).toNat, by omega⟩
  obtain ⟨x, hx⟩ := xX (show k < l.length by omega)
  have hx' : (l.map y4)[k]? = some (y4 x) := xZ hx
  have hof : amV code c l m = x := by rw [amV, hk, Int.toNat_natCast, hx]; rfl
  refine zD (x5 _ _) (enumM2 _ _) rfl Tryz.func76 rfl (by kernel_rfl) _ _ rfl rfl rfl (fun w0 mu I0 β0 gi dis => ?_)
  (repeat' (first|(apply xW;((exact Want.none_ rfl)))|(apply xF zK;exact rfl;exact rfl)|((first|apply z8|(apply zW;exact rfl;exact rfl;exact zK;exact rfl;exact rfl))<;>(first|exact zK|exact Nat.zero_add _|exact rfl|refine yO ?_|assumption|omega))|apply zV|apply AWp.Q|apply zJ|apply AWp.G|apply AWp.R|(apply (zY (pick_pfm code c hl hc m hn.2));(iterate 7 exact rfl);(focus (repeat (first|exact All2.nil|refine All2.cons rfl ?_)));exact rfl;(focus (repeat (first|exact MAs.nil|apply MAs.cons|apply MA.c|exact MC.ptr rfl|exact MC.vc (VC.imm (Imm.v _)))));((assumption));((assumption));exact rfl;exact rfl)))
  rw [hof]
  (((refine z6 _ [(0, some 0), (1, some 1)] (.cons (zT rfl) .nil) ?_ rfl ?_)) <;> (repeat' (first|exact trivial|exact rfl|apply And.intro|refine ⟨_,rfl,rfl,rfl,OW.one ?_⟩|refine oWs rfl rfl rfl ?_ ?_)))
  exact hsl
end
end Go.Proofs.YtchpdclknbmdoaaGreatDoor
