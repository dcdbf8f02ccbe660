/- The cursor out of which the draws are made, and the draws of one number or one choice. No conditions but bounds. -/
import Derived.Test.YtchpdclknbmdoaaDoorAbs4
import Derived.Test.YtchpdclknbmdoaaDoorAbs3
namespace Go.Proofs.YtchpdclknbmdoaaDoor
open Go Go.RowKit
structure Cur where
  a : Nat
  s : Int
def xS (code : List UInt8) (c : Cur) : AObj := ⟨87, 3, [[.sl (code.map wT), int c.a, .v (.int .u64 c.s)]]⟩
theorem z8 (code : List UInt8) (c : Cur) : ∀ x ∈ (xS code c).els, ∀ y ∈ x, Imm y := by
  intro x hx y hy
  simp only [xS, List.mem_cons, List.not_mem_nil, or_false] at hx
  subst hx
  simp only [List.mem_cons, List.not_mem_nil, or_false] at hy
  rcases hy with rfl | rfl | rfl
  · exact Imm.sl _
  · exact Imm.v _
  · exact Imm.v _
theorem vJ {a b : AObj} (h1 : ∀ x ∈ a.els, ∀ c ∈ x, Imm c) (h2 : ∀ x ∈ b.els, ∀ c ∈ x, Imm c) : ∀ obj, some obj ∈ [some a, some b] → ∀ x ∈ obj.els, ∀ c ∈ x, Imm c := fun obj hm => by
  simp at hm
  rcases hm with rfl | rfl
  · exact h1
  · exact h2
theorem qO {a b : AObj} (h1 : ∀ x ∈ a.els, ∀ c ∈ x, Imm c) (h2 : ∀ x ∈ b.els, ∀ c ∈ x, Imm c) : ∀ obj ∈ [a, b], ∀ x ∈ obj.els, ∀ c ∈ x, Imm c := fun obj hm => by
  simp at hm
  rcases hm with rfl | rfl
  · exact h1
  · exact h2
theorem x6 {a : AObj} (h1 : ∀ x ∈ a.els, ∀ c ∈ x, Imm c) : ∀ obj ∈ [a], ∀ x ∈ obj.els, ∀ c ∈ x, Imm c := fun obj hm => by
  simp at hm; subst hm; exact h1
def byt (code : List UInt8) (c : Cur) : Nat := (code[c.a]?.map (·.toNat)).getD 0
theorem byt_le (code : List UInt8) (c : Cur) : byt code c ≤ 255 := by
  unfold byt
  cases code[c.a]? with
  | none => simp
  | some b => have := b.toNat_lt; simp only [Option.map_some, Option.getD_some]; omega
def nxC (code : List UInt8) (c : Cur) : Cur := ⟨c.a + 1, IntKind.u64.wrap (IntKind.u64.wrap (IntKind.u64.wrap (c.s * 6364136223846793005) + IntKind.u64.wrap (byt code c)) + 882882)⟩
def nxV (code : List UInt8) (c : Cur) : Int := if c.a + 1 ≤ code.length then byt code c else IntKind.i64.wrap (bits .and .u64 ((nxC code c).s / 2 ^ (min (40 : Int).toNat IntKind.u64.bits)) 255)
theorem and255 (x : Int) : ∃ v : Nat, v ≤ 255 ∧ bits .and .u64 x 255 = (v : Int) := by
  refine ⟨(BitVec.ofInt 64 x &&& BitVec.ofInt 64 255).toNat, ?_, ?_⟩
  · rw [BitVec.toNat_and]
    exact Nat.le_trans Nat.and_le_right (by decide)
  · have h : (BitVec.ofInt 64 x &&& BitVec.ofInt 64 255).toNat ≤ 255 := by
      rw [BitVec.toNat_and]
      exact Nat.le_trans Nat.and_le_right (by decide)
    show IntKind.u64.wrap ((BitVec.ofInt 64 x &&& BitVec.ofInt 64 255).toNat : Int) = _
    generalize (BitVec.ofInt 64 x &&& BitVec.ofInt 64 255).toNat = v at h
    show ((v : Int) % 18446744073709551616) = v
    omega
theorem nxV_in (code : List UInt8) (c : Cur) : 0 ≤ nxV code c ∧ nxV code c ≤ 255 := by
  unfold nxV
  split
  · have := byt_le code c; omega
  · obtain ⟨v, h, e⟩ := and255 ((nxC code c).s / 2 ^ (min (40 : Int).toNat IntKind.u64.bits))
    rw [e, IntWalk.i64_in _ (by omega)]
    omega
theorem next_pfm (code : List UInt8) (c : Cur) (hl : code.length ≤ 65536) (hc : c.a ≤ 1000000000) :
    PFM Tryd.prog 92 [xS code c] [.c (.ptr 0 0 0)] [some (xS code (nxC code c))] (.c (int (nxV code c))) := by
  have hL : (code.map wT).length = code.length := List.length_map _
  have him := z8 code (nxC code c)
  refine zD (xG _) (xT _) rfl Tryd.func92 rfl (by kernel_rfl) _ _ rfl rfl rfl (fun w0 mu I0 β0 gi dis => ?_)
  by_cases hlt : c.a < code.length
  · obtain ⟨b, hb⟩ := xU hlt
    have hb' : (code.map wT)[c.a]? = some (wT b) := xZ hb
    have hbyt : byt code c = b.toNat := by simp [byt, hb]
    have h1 : (c.a : Int) < ((code.map wT).length : Int) := by omega
    have h2 : (c.a : Int) + 1 ≤ ((code.map wT).length : Int) := by omega
    have hv : nxV code c = b.toNat := by rw [nxV, if_pos (by omega), hbyt]
    have hn : nxC code c = ⟨c.a + 1, IntKind.u64.wrap (IntKind.u64.wrap (IntKind.u64.wrap (c.s * 6364136223846793005) + IntKind.u64.wrap (b.toNat : Nat)) + 882882)⟩ := by rw [nxC, hbyt]
    have hwb : IntKind.i64.wrap ((b.toNat : Nat) : Int) = b.toNat := IntWalk.i64_in _ (by have := b.toNat_lt; omega)
    (repeat' (first|(apply xW;(first|exact Want.none_ rfl|(refine zX rfl rfl rfl rfl ?_;(first|assumption|exact dT ‹_›|exact dF ‹_›|exact rfl))))|(apply xF zI;exact rfl;exact rfl)|((first|(apply yC;exact rfl;exact rfl)|apply yB|apply wU|(apply yH;exact rfl;exact rfl)|apply z7|(apply zV;exact rfl;exact rfl;exact zI;exact rfl;exact rfl)|apply zN|apply zZ)<;>(first|exact zI|exact Nat.zero_add _|exact rfl|refine yK ?_|assumption|omega|exact ⟨rfl⟩|exact ⟨rfl,_,_,rfl,rfl⟩|exact lb rfl|(refine Bd.mk ?_;first|assumption|omega|(focus (simp;done))|(simp;omega)|decide)|exact zM ‹_›|exact zM (zM ‹_›)|(focus (simp;done))|(simp;omega)|(simp only [lA,lB,lC,lD,lE];omega)))|apply zT|(refine yN ?_ ?_;kernel_rfl)|apply AWp.Q|apply zH|apply AWp.G|apply AWp.J|apply AWp.R|apply zK|(refine AWp.D ?_ ?_;kernel_rfl)|(apply AWp.T;exact rfl;(first|assumption|exact dT ‹_›|exact dF ‹_›|exact rfl))|(apply AWp.F;exact rfl;(first|assumption|exact dT ‹_›|exact dF ‹_›|exact rfl))|((first|refine AWp.C rfl ?_ ?_|refine AWp.O _ rfl ?_ ?_)<;>intro hp<;>(try (exfalso;omega)))))
    rw [hwb]
    apply rx_mulk
    exact rfl
    exact rfl
    exact rfl
    (repeat' (first|(apply xW;(first|exact Want.none_ rfl|(refine zX rfl rfl rfl rfl ?_;(first|assumption|exact dT ‹_›|exact dF ‹_›|exact rfl))))|(apply xF zI;exact rfl;exact rfl)|((first|(apply yC;exact rfl;exact rfl)|apply yB|apply wU|(apply yH;exact rfl;exact rfl)|apply z7|(apply zV;exact rfl;exact rfl;exact zI;exact rfl;exact rfl)|apply zN|apply zZ)<;>(first|exact zI|exact Nat.zero_add _|exact rfl|refine yK ?_|assumption|omega|exact ⟨rfl⟩|exact ⟨rfl,_,_,rfl,rfl⟩|exact lb rfl|(refine Bd.mk ?_;first|assumption|omega|(focus (simp;done))|(simp;omega)|decide)|exact zM ‹_›|exact zM (zM ‹_›)|(focus (simp;done))|(simp;omega)|(simp only [lA,lB,lC,lD,lE];omega)))|apply zT|(refine yN ?_ ?_;kernel_rfl)|apply AWp.Q|apply zH|apply AWp.G|apply AWp.J|apply AWp.R|apply zK|(refine AWp.D ?_ ?_;kernel_rfl)|(apply AWp.T;exact rfl;(first|assumption|exact dT ‹_›|exact dF ‹_›|exact rfl))|(apply AWp.F;exact rfl;(first|assumption|exact dT ‹_›|exact dF ‹_›|exact rfl))|((first|refine AWp.C rfl ?_ ?_|refine AWp.O _ rfl ?_ ?_)<;>intro hp<;>(try (exfalso;omega)))))
    apply rx_addk
    exact rfl
    exact rfl
    exact rfl
    (repeat' (first|(apply xW;(first|exact Want.none_ rfl|(refine zX rfl rfl rfl rfl ?_;(first|assumption|exact dT ‹_›|exact dF ‹_›|exact rfl))))|(apply xF zI;exact rfl;exact rfl)|((first|(apply yC;exact rfl;exact rfl)|apply yB|apply wU|(apply yH;exact rfl;exact rfl)|apply z7|(apply zV;exact rfl;exact rfl;exact zI;exact rfl;exact rfl)|apply zN|apply zZ)<;>(first|exact zI|exact Nat.zero_add _|exact rfl|refine yK ?_|assumption|omega|exact ⟨rfl⟩|exact ⟨rfl,_,_,rfl,rfl⟩|exact lb rfl|(refine Bd.mk ?_;first|assumption|omega|(focus (simp;done))|(simp;omega)|decide)|exact zM ‹_›|exact zM (zM ‹_›)|(focus (simp;done))|(simp;omega)|(simp only [lA,lB,lC,lD,lE];omega)))|apply zT|(refine yN ?_ ?_;kernel_rfl)|apply AWp.Q|apply zH|apply AWp.G|apply AWp.J|apply AWp.R|apply zK|(refine AWp.D ?_ ?_;kernel_rfl)|(apply AWp.T;exact rfl;(first|assumption|exact dT ‹_›|exact dF ‹_›|exact rfl))|(apply AWp.F;exact rfl;(first|assumption|exact dT ‹_›|exact dF ‹_›|exact rfl))|((first|refine AWp.C rfl ?_ ?_|refine AWp.O _ rfl ?_ ?_)<;>intro hp<;>(try (exfalso;omega)))))
    apply rx_addk
    exact rfl
    exact rfl
    exact rfl
    (repeat' (first|(apply xW;(first|exact Want.none_ rfl|(refine zX rfl rfl rfl rfl ?_;(first|assumption|exact dT ‹_›|exact dF ‹_›|exact rfl))))|(apply xF zI;exact rfl;exact rfl)|((first|(apply yC;exact rfl;exact rfl)|apply yB|apply wU|(apply yH;exact rfl;exact rfl)|apply z7|(apply zV;exact rfl;exact rfl;exact zI;exact rfl;exact rfl)|apply zN|apply zZ)<;>(first|exact zI|exact Nat.zero_add _|exact rfl|refine yK ?_|assumption|omega|exact ⟨rfl⟩|exact ⟨rfl,_,_,rfl,rfl⟩|exact lb rfl|(refine Bd.mk ?_;first|assumption|omega|(focus (simp;done))|(simp;omega)|decide)|exact zM ‹_›|exact zM (zM ‹_›)|(focus (simp;done))|(simp;omega)|(simp only [lA,lB,lC,lD,lE];omega)))|apply zT|(refine yN ?_ ?_;kernel_rfl)|apply AWp.Q|apply zH|apply AWp.G|apply AWp.J|apply AWp.R|apply zK|(refine AWp.D ?_ ?_;kernel_rfl)|(apply AWp.T;exact rfl;(first|assumption|exact dT ‹_›|exact dF ‹_›|exact rfl))|(apply AWp.F;exact rfl;(first|assumption|exact dT ‹_›|exact dF ‹_›|exact rfl))|((first|refine AWp.C rfl ?_ ?_|refine AWp.O _ rfl ?_ ?_)<;>intro hp<;>(try (exfalso;omega)))))
    rw [hv, hn]
    ((first|refine zY _ [(0, some 0)] (.cons (zQ rfl) .nil) ?_ rfl ?_|refine z6 _ [(0, some 0)] (.cons (zQ rfl) .nil) ?_ rfl ?_) <;> (repeat' (first|exact trivial|exact rfl|exact Or.inr ⟨rfl,‹_›⟩|exact Or.inl ⟨rfl,trivial⟩|apply And.intro|exact congrArg (Value.int .i64) (by first|omega|(simp;done)|(simp;omega))|(refine yG ?_;first|(focus (simp;done))|omega|(simp only [lA,lB,lC,lD,lE];omega))|(refine ⟨_,rfl,rfl,rfl,OW.one ?_⟩)|(refine ⟨_,rfl,rfl,rfl,OW.same ?_ ?_⟩)|refine vwB ?_|refine vwS ?_|refine vwI ?_|refine fwB ?_|refine fwS ?_|refine fwI ?_|(refine aIm ?_;first|exact AllSc.nil|assumption))))
  · have h1 : ¬ (c.a : Int) < ((code.map wT).length : Int) := by omega
    have h2 : ¬ (c.a : Int) + 1 ≤ ((code.map wT).length : Int) := by omega
    have hbyt : byt code c = 0 := by simp [byt, List.getElem?_eq_none (show code.length ≤ c.a by omega)]
    have hn : nxC code c = ⟨c.a + 1, IntKind.u64.wrap (IntKind.u64.wrap (IntKind.u64.wrap (c.s * 6364136223846793005) + IntKind.u64.wrap 0) + 882882)⟩ := by rw [nxC, hbyt]; rfl
    have hv : nxV code c = IntKind.i64.wrap (bits .and .u64 ((nxC code c).s / 2 ^ (min (40 : Int).toNat IntKind.u64.bits)) 255) := by rw [nxV, if_neg (by omega)]
    (repeat' (first|(apply xW;(first|exact Want.none_ rfl|(refine zX rfl rfl rfl rfl ?_;(first|assumption|exact dT ‹_›|exact dF ‹_›|exact rfl))))|(apply xF zI;exact rfl;exact rfl)|((first|(apply yC;exact rfl;exact rfl)|apply yB|apply wU|(apply yH;exact rfl;exact rfl)|apply z7|(apply zV;exact rfl;exact rfl;exact zI;exact rfl;exact rfl)|apply zN|apply zZ)<;>(first|exact zI|exact Nat.zero_add _|exact rfl|refine yK ?_|assumption|omega|exact ⟨rfl⟩|exact ⟨rfl,_,_,rfl,rfl⟩|exact lb rfl|(refine Bd.mk ?_;first|assumption|omega|(focus (simp;done))|(simp;omega)|decide)|exact zM ‹_›|exact zM (zM ‹_›)|(focus (simp;done))|(simp;omega)|(simp only [lA,lB,lC,lD,lE];omega)))|apply zT|(refine yN ?_ ?_;kernel_rfl)|apply AWp.Q|apply zH|apply AWp.G|apply AWp.J|apply AWp.R|apply zK|(refine AWp.D ?_ ?_;kernel_rfl)|(apply AWp.T;exact rfl;(first|assumption|exact dT ‹_›|exact dF ‹_›|exact rfl))|(apply AWp.F;exact rfl;(first|assumption|exact dT ‹_›|exact dF ‹_›|exact rfl))|((first|refine AWp.C rfl ?_ ?_|refine AWp.O _ rfl ?_ ?_)<;>intro hp<;>(try (exfalso;omega)))))
    apply rx_mulk
    exact rfl
    exact rfl
    exact rfl
    (repeat' (first|(apply xW;(first|exact Want.none_ rfl|(refine zX rfl rfl rfl rfl ?_;(first|assumption|exact dT ‹_›|exact dF ‹_›|exact rfl))))|(apply xF zI;exact rfl;exact rfl)|((first|(apply yC;exact rfl;exact rfl)|apply yB|apply wU|(apply yH;exact rfl;exact rfl)|apply z7|(apply zV;exact rfl;exact rfl;exact zI;exact rfl;exact rfl)|apply zN|apply zZ)<;>(first|exact zI|exact Nat.zero_add _|exact rfl|refine yK ?_|assumption|omega|exact ⟨rfl⟩|exact ⟨rfl,_,_,rfl,rfl⟩|exact lb rfl|(refine Bd.mk ?_;first|assumption|omega|(focus (simp;done))|(simp;omega)|decide)|exact zM ‹_›|exact zM (zM ‹_›)|(focus (simp;done))|(simp;omega)|(simp only [lA,lB,lC,lD,lE];omega)))|apply zT|(refine yN ?_ ?_;kernel_rfl)|apply AWp.Q|apply zH|apply AWp.G|apply AWp.J|apply AWp.R|apply zK|(refine AWp.D ?_ ?_;kernel_rfl)|(apply AWp.T;exact rfl;(first|assumption|exact dT ‹_›|exact dF ‹_›|exact rfl))|(apply AWp.F;exact rfl;(first|assumption|exact dT ‹_›|exact dF ‹_›|exact rfl))|((first|refine AWp.C rfl ?_ ?_|refine AWp.O _ rfl ?_ ?_)<;>intro hp<;>(try (exfalso;omega)))))
    apply rx_addk
    exact rfl
    exact rfl
    exact rfl
    (repeat' (first|(apply xW;(first|exact Want.none_ rfl|(refine zX rfl rfl rfl rfl ?_;(first|assumption|exact dT ‹_›|exact dF ‹_›|exact rfl))))|(apply xF zI;exact rfl;exact rfl)|((first|(apply yC;exact rfl;exact rfl)|apply yB|apply wU|(apply yH;exact rfl;exact rfl)|apply z7|(apply zV;exact rfl;exact rfl;exact zI;exact rfl;exact rfl)|apply zN|apply zZ)<;>(first|exact zI|exact Nat.zero_add _|exact rfl|refine yK ?_|assumption|omega|exact ⟨rfl⟩|exact ⟨rfl,_,_,rfl,rfl⟩|exact lb rfl|(refine Bd.mk ?_;first|assumption|omega|(focus (simp;done))|(simp;omega)|decide)|exact zM ‹_›|exact zM (zM ‹_›)|(focus (simp;done))|(simp;omega)|(simp only [lA,lB,lC,lD,lE];omega)))|apply zT|(refine yN ?_ ?_;kernel_rfl)|apply AWp.Q|apply zH|apply AWp.G|apply AWp.J|apply AWp.R|apply zK|(refine AWp.D ?_ ?_;kernel_rfl)|(apply AWp.T;exact rfl;(first|assumption|exact dT ‹_›|exact dF ‹_›|exact rfl))|(apply AWp.F;exact rfl;(first|assumption|exact dT ‹_›|exact dF ‹_›|exact rfl))|((first|refine AWp.C rfl ?_ ?_|refine AWp.O _ rfl ?_ ?_)<;>intro hp<;>(try (exfalso;omega)))))
    apply rx_addk
    exact rfl
    exact rfl
    exact rfl
    (repeat' (first|(apply xW;(first|exact Want.none_ rfl|(refine zX rfl rfl rfl rfl ?_;(first|assumption|exact dT ‹_›|exact dF ‹_›|exact rfl))))|(apply xF zI;exact rfl;exact rfl)|((first|(apply yC;exact rfl;exact rfl)|apply yB|apply wU|(apply yH;exact rfl;exact rfl)|apply z7|(apply zV;exact rfl;exact rfl;exact zI;exact rfl;exact rfl)|apply zN|apply zZ)<;>(first|exact zI|exact Nat.zero_add _|exact rfl|refine yK ?_|assumption|omega|exact ⟨rfl⟩|exact ⟨rfl,_,_,rfl,rfl⟩|exact lb rfl|(refine Bd.mk ?_;first|assumption|omega|(focus (simp;done))|(simp;omega)|decide)|exact zM ‹_›|exact zM (zM ‹_›)|(focus (simp;done))|(simp;omega)|(simp only [lA,lB,lC,lD,lE];omega)))|apply zT|(refine yN ?_ ?_;kernel_rfl)|apply AWp.Q|apply zH|apply AWp.G|apply AWp.J|apply AWp.R|apply zK|(refine AWp.D ?_ ?_;kernel_rfl)|(apply AWp.T;exact rfl;(first|assumption|exact dT ‹_›|exact dF ‹_›|exact rfl))|(apply AWp.F;exact rfl;(first|assumption|exact dT ‹_›|exact dF ‹_›|exact rfl))|((first|refine AWp.C rfl ?_ ?_|refine AWp.O _ rfl ?_ ?_)<;>intro hp<;>(try (exfalso;omega)))))
    apply rx_shr
    exact rfl
    exact rfl
    exact rfl
    exact by decide
    (repeat' (first|(apply xW;(first|exact Want.none_ rfl|(refine zX rfl rfl rfl rfl ?_;(first|assumption|exact dT ‹_›|exact dF ‹_›|exact rfl))))|(apply xF zI;exact rfl;exact rfl)|((first|(apply yC;exact rfl;exact rfl)|apply yB|apply wU|(apply yH;exact rfl;exact rfl)|apply z7|(apply zV;exact rfl;exact rfl;exact zI;exact rfl;exact rfl)|apply zN|apply zZ)<;>(first|exact zI|exact Nat.zero_add _|exact rfl|refine yK ?_|assumption|omega|exact ⟨rfl⟩|exact ⟨rfl,_,_,rfl,rfl⟩|exact lb rfl|(refine Bd.mk ?_;first|assumption|omega|(focus (simp;done))|(simp;omega)|decide)|exact zM ‹_›|exact zM (zM ‹_›)|(focus (simp;done))|(simp;omega)|(simp only [lA,lB,lC,lD,lE];omega)))|apply zT|(refine yN ?_ ?_;kernel_rfl)|apply AWp.Q|apply zH|apply AWp.G|apply AWp.J|apply AWp.R|apply zK|(refine AWp.D ?_ ?_;kernel_rfl)|(apply AWp.T;exact rfl;(first|assumption|exact dT ‹_›|exact dF ‹_›|exact rfl))|(apply AWp.F;exact rfl;(first|assumption|exact dT ‹_›|exact dF ‹_›|exact rfl))|((first|refine AWp.C rfl ?_ ?_|refine AWp.O _ rfl ?_ ?_)<;>intro hp<;>(try (exfalso;omega)))))
    apply rx_and
    exact rfl
    exact rfl
    exact rfl
    (repeat' (first|(apply xW;(first|exact Want.none_ rfl|(refine zX rfl rfl rfl rfl ?_;(first|assumption|exact dT ‹_›|exact dF ‹_›|exact rfl))))|(apply xF zI;exact rfl;exact rfl)|((first|(apply yC;exact rfl;exact rfl)|apply yB|apply wU|(apply yH;exact rfl;exact rfl)|apply z7|(apply zV;exact rfl;exact rfl;exact zI;exact rfl;exact rfl)|apply zN|apply zZ)<;>(first|exact zI|exact Nat.zero_add _|exact rfl|refine yK ?_|assumption|omega|exact ⟨rfl⟩|exact ⟨rfl,_,_,rfl,rfl⟩|exact lb rfl|(refine Bd.mk ?_;first|assumption|omega|(focus (simp;done))|(simp;omega)|decide)|exact zM ‹_›|exact zM (zM ‹_›)|(focus (simp;done))|(simp;omega)|(simp only [lA,lB,lC,lD,lE];omega)))|apply zT|(refine yN ?_ ?_;kernel_rfl)|apply AWp.Q|apply zH|apply AWp.G|apply AWp.J|apply AWp.R|apply zK|(refine AWp.D ?_ ?_;kernel_rfl)|(apply AWp.T;exact rfl;(first|assumption|exact dT ‹_›|exact dF ‹_›|exact rfl))|(apply AWp.F;exact rfl;(first|assumption|exact dT ‹_›|exact dF ‹_›|exact rfl))|((first|refine AWp.C rfl ?_ ?_|refine AWp.O _ rfl ?_ ?_)<;>intro hp<;>(try (exfalso;omega)))))
    rw [hv, hn]
    ((first|refine zY _ [(0, some 0)] (.cons (zQ rfl) .nil) ?_ rfl ?_|refine z6 _ [(0, some 0)] (.cons (zQ rfl) .nil) ?_ rfl ?_) <;> (repeat' (first|exact trivial|exact rfl|exact Or.inr ⟨rfl,‹_›⟩|exact Or.inl ⟨rfl,trivial⟩|apply And.intro|exact congrArg (Value.int .i64) (by first|omega|(simp;done)|(simp;omega))|(refine yG ?_;first|(focus (simp;done))|omega|(simp only [lA,lB,lC,lD,lE];omega))|(refine ⟨_,rfl,rfl,rfl,OW.one ?_⟩)|(refine ⟨_,rfl,rfl,rfl,OW.same ?_ ?_⟩)|refine vwB ?_|refine vwS ?_|refine vwI ?_|refine fwB ?_|refine fwS ?_|refine fwI ?_|(refine aIm ?_;first|exact AllSc.nil|assumption))))
def pkC (code : List UInt8) (c : Cur) (n : Nat) : Cur := if n ≤ 1 then c else nxC code c
def pkV (code : List UInt8) (c : Cur) (n : Nat) : Int := if n ≤ 1 then 0 else nxV code c % n
theorem qQ (code : List UInt8) (c : Cur) (n : Nat) : (pkC code c n).a ≤ c.a + 1 := by
  unfold pkC
  split
  · omega
  · exact Nat.le_refl _
theorem vZ (code : List UInt8) (c : Cur) {n : Nat} (hn : 1 ≤ n) : 0 ≤ pkV code c n ∧ pkV code c n < n := by
  unfold pkV
  split
  · omega
  · exact ⟨Int.emod_nonneg _ (by omega), Int.emod_lt_of_pos _ (by omega)⟩
section
variable (code : List UInt8) (c : Cur) (hl : code.length ≤ 65536) (hc : c.a ≤ 100000000)
include hl hc
theorem pick_pfm (n : Nat) (hn : n ≤ 200) : PFM Tryd.prog 56 [xS code c] [.c (.ptr 0 0 0), .c (int n)] [some (xS code (pkC code c n))] (.c (int (pkV code c n))) := by
  have him := z8 code c
  have him2 := yV (z8 code (nxC code c))
  have hii := x6 (z8 code c)
  have hv := nxV_in code c
  refine zD (wK _ _) (xT _) rfl Tryd.func56 rfl (by kernel_rfl) _ _ rfl rfl rfl (fun w0 mu I0 β0 gi dis => ?_)
  by_cases h1 : n ≤ 1
  · have h1' : (n : Int) ≤ 1 := by omega
    (repeat' (first|(apply xW;(first|exact Want.none_ rfl|(refine zX rfl rfl rfl rfl ?_;(first|assumption|exact dT ‹_›|exact dF ‹_›|exact rfl))))|(apply xF zI;exact rfl;exact rfl)|((first|(apply yC;exact rfl;exact rfl)|apply yB|apply wU|apply rx_rem)<;>(first|exact zI|exact Nat.zero_add _|exact rfl|refine yK ?_|assumption|omega|exact ⟨rfl⟩|exact ⟨rfl,_,_,rfl,rfl⟩|exact lb rfl|(refine Bd.mk ?_;first|assumption|omega|(focus (simp;done))|(simp;omega)|decide)|(focus (simp;done))|(simp;omega)|(simp only [lA,lB,lC,lD,lE];omega)))|apply zT|apply AWp.Q|apply zH|apply AWp.G|apply AWp.J|apply AWp.R|apply zK|(apply AWp.T;exact rfl;(first|assumption|exact dT ‹_›|exact dF ‹_›|exact rfl))|(apply AWp.F;exact rfl;(first|assumption|exact dT ‹_›|exact dF ‹_›|exact rfl))|((first|refine AWp.C rfl ?_ ?_|refine AWp.O _ rfl ?_ ?_)<;>intro hp<;>(try (exfalso;omega)))))
    rw [pkC, pkV, if_pos h1, if_pos h1]
    ((first|refine zY _ [(0, some 0)] (.cons (zQ rfl) .nil) ?_ rfl ?_|refine z6 _ [(0, some 0)] (.cons (zQ rfl) .nil) ?_ rfl ?_) <;> (repeat' (first|exact trivial|exact rfl|exact Or.inr ⟨rfl,‹_›⟩|exact Or.inl ⟨rfl,trivial⟩|apply And.intro|exact congrArg (Value.int .i64) (by first|omega|(simp;done)|(simp;omega))|(refine yG ?_;first|(focus (simp;done))|omega|(simp only [lA,lB,lC,lD,lE];omega))|(refine ⟨_,rfl,rfl,rfl,OW.one ?_⟩)|(refine ⟨_,rfl,rfl,rfl,OW.same ?_ ?_⟩)|refine vwB ?_|refine vwS ?_|refine vwI ?_|refine fwB ?_|refine fwS ?_|refine fwI ?_|(refine aIm ?_;first|exact AllSc.nil|assumption))))
  · have h1' : ¬ (n : Int) ≤ 1 := by omega
    have h2' : ¬ (200 : Int) < (n : Int) := by omega
    (repeat' (first|(apply xW;(first|exact Want.none_ rfl|(refine zX rfl rfl rfl rfl ?_;(first|assumption|exact dT ‹_›|exact dF ‹_›|exact rfl))))|(apply xF zI;exact rfl;exact rfl)|((first|(apply yC;exact rfl;exact rfl)|apply yB|apply wU|apply rx_rem)<;>(first|exact zI|exact Nat.zero_add _|exact rfl|refine yK ?_|assumption|omega|exact ⟨rfl⟩|exact ⟨rfl,_,_,rfl,rfl⟩|exact lb rfl|(refine Bd.mk ?_;first|assumption|omega|(focus (simp;done))|(simp;omega)|decide)|(focus (simp;done))|(simp;omega)|(simp only [lA,lB,lC,lD,lE];omega)))|apply zT|apply AWp.Q|apply zH|apply AWp.G|apply AWp.J|apply AWp.R|apply zK|(apply AWp.T;exact rfl;(first|assumption|exact dT ‹_›|exact dF ‹_›|exact rfl))|(apply AWp.F;exact rfl;(first|assumption|exact dT ‹_›|exact dF ‹_›|exact rfl))|(apply (zU (next_pfm code c hl (by omega)));(iterate 7 exact rfl);(focus (repeat (first|exact All2.nil|refine All2.cons rfl ?_)));exact rfl;(focus (repeat (first|exact MC.vc (VC.imm (zA _))|exact MC.vc (VC.imm (Imm.fn _ _ ‹_›))|exact MAs.nil|apply MAs.cons|apply MA.c|apply MA.agg|exact MCs.nil|apply MCs.cons|exact MC.ref rfl|exact MC.ptr rfl|exact MC.vc (VC.imm (Imm.v _))|exact MC.vc (VC.imm (Imm.sl _))|exact MC.vc (VC.imm (Imm.ip _))|exact MC.vc VC.nil)));(first|assumption|(apply y6;assumption)|(apply yV;assumption));(first|exact y8|assumption|(apply y7;assumption));exact rfl;exact rfl)|((first|refine AWp.C rfl ?_ ?_|refine AWp.O _ rfl ?_ ?_)<;>intro hp<;>(try (exfalso;omega)))))
    rw [pkC, pkV, if_neg h1, if_neg h1]
    have him3 := z8 code (nxC code c)
    ((first|refine zY _ [(0, some 0)] (.cons (zQ rfl) .nil) ?_ rfl ?_|refine z6 _ [(0, some 0)] (.cons (zQ rfl) .nil) ?_ rfl ?_) <;> (repeat' (first|exact trivial|exact rfl|exact Or.inr ⟨rfl,‹_›⟩|exact Or.inl ⟨rfl,trivial⟩|apply And.intro|exact congrArg (Value.int .i64) (by first|omega|(simp;done)|(simp;omega))|(refine yG ?_;first|(focus (simp;done))|omega|(simp only [lA,lB,lC,lD,lE];omega))|(refine ⟨_,rfl,rfl,rfl,OW.one ?_⟩)|(refine ⟨_,rfl,rfl,rfl,OW.same ?_ ?_⟩)|refine vwB ?_|refine vwS ?_|refine vwI ?_|refine fwB ?_|refine fwS ?_|refine fwI ?_|(refine aIm ?_;first|exact AllSc.nil|assumption))))
theorem one_pfm (n : Nat) (hn : n ≤ 200) : PFM Tryd.prog 57 [xS code c] [.c (.ptr 0 0 0), .c (int n)] [some (xS code (pkC code c n))] (.c (boo (decide (pkV code c n = 0)))) := by
  have him2 := yV (z8 code (pkC code c n))
  have hii := x6 (z8 code c)
  have him3 := z8 code (pkC code c n)
  refine zD (wK _ _) (xT _) rfl Tryd.func57 rfl (by kernel_rfl) _ _ rfl rfl rfl (fun w0 mu I0 β0 gi dis => ?_)
  (repeat' (first|(apply xW;(first|exact Want.none_ rfl|(refine zX rfl rfl rfl rfl ?_;(first|assumption|exact dT ‹_›|exact dF ‹_›|exact rfl))))|(apply xF zI;exact rfl;exact rfl)|((fail)<;>(first|exact zI|exact Nat.zero_add _|exact rfl|refine yK ?_|assumption|omega|exact ⟨rfl⟩|exact ⟨rfl,_,_,rfl,rfl⟩|exact lb rfl|(refine Bd.mk ?_;first|assumption|omega|(focus (simp;done))|(simp;omega)|decide)|(focus (simp;done))|(simp;omega)|(simp only [lA,lB,lC,lD,lE];omega)))|apply zT|apply AWp.Q|apply zH|apply AWp.G|apply AWp.R|apply zK|(apply (zU (pick_pfm code c hl hc n hn));(iterate 7 exact rfl);(focus (repeat (first|exact All2.nil|refine All2.cons rfl ?_)));exact rfl;(focus (repeat (first|exact MC.vc (VC.imm (zA _))|exact MC.vc (VC.imm (Imm.fn _ _ ‹_›))|exact MAs.nil|apply MAs.cons|apply MA.c|apply MA.agg|exact MCs.nil|apply MCs.cons|exact MC.ref rfl|exact MC.ptr rfl|exact MC.vc (VC.imm (Imm.v _))|exact MC.vc (VC.imm (Imm.sl _))|exact MC.vc (VC.imm (Imm.ip _))|exact MC.vc VC.nil)));(first|assumption|(apply y6;assumption)|(apply yV;assumption));(first|exact y8|assumption|(apply y7;assumption));exact rfl;exact rfl)))
  ((first|refine zY _ [(0, some 0)] (.cons (zQ rfl) .nil) ?_ rfl ?_|refine z6 _ [(0, some 0)] (.cons (zQ rfl) .nil) ?_ rfl ?_) <;> (repeat' (first|exact trivial|exact rfl|exact Or.inr ⟨rfl,‹_›⟩|exact Or.inl ⟨rfl,trivial⟩|apply And.intro|exact congrArg (Value.int .i64) (by first|omega|(simp;done)|(simp;omega))|(refine yG ?_;first|(focus (simp;done))|omega|(simp only [lA,lB,lC,lD,lE];omega))|(refine ⟨_,rfl,rfl,rfl,OW.one ?_⟩)|(refine ⟨_,rfl,rfl,rfl,OW.same ?_ ?_⟩)|refine vwB ?_|refine vwS ?_|refine vwI ?_|refine fwB ?_|refine fwS ?_|refine fwI ?_|(refine aIm ?_;first|exact AllSc.nil|assumption))))
def ofV (code : List UInt8) (c : Cur) (l : List (List UInt8)) : List UInt8 := (l[(pkV code c l.length).toNat]?).getD []
def amV (code : List UInt8) (c : Cur) (l : List Int) (m : Nat) : Int := (l[(pkV code c m).toNat]?).getD 0
theorem of_pfm (l : List (List UInt8)) (hn : 1 ≤ l.length ∧ l.length ≤ 200) : PFM Tryd.prog 143 [xS code c, ⟨9, 1, l.map wA⟩] [.c (.ptr 0 0 0), .c (.ref 1 0 l.length)] [some (xS code (pkC code c l.length)), some ⟨9, 1, l.map wA⟩] (.c (str (ofV code c l))) := by
  have him2 := yV (z8 code (pkC code c l.length))
  have hii := x6 (z8 code c)
  have him3 := z8 code (pkC code c l.length)
  have hsl := (xX l).imm
  have hv := vZ code c hn.1
  obtain ⟨k, hk⟩ : ∃ k : Nat, pkV code c l.length = (k : Int) := ⟨(pkV code c l.length).toNat, by omega⟩
  obtain ⟨x, hx⟩ := xU (show k < l.length by omega)
  have hx' : (l.map wA)[k]? = some (wA x) := xZ hx
  have hof : ofV code c l = x := by rw [ofV, hk, Int.toNat_natCast, hx]; rfl
  refine zD (wK _ _) (enumM2 _ _) rfl Tryd.func143 rfl (by kernel_rfl) _ _ rfl rfl rfl (fun w0 mu I0 β0 gi dis => ?_)
  (repeat' (first|(apply xW;(first|exact Want.none_ rfl|(refine zX rfl rfl rfl rfl ?_;(first|assumption|exact dT ‹_›|exact dF ‹_›|exact rfl))))|(apply xF zI;exact rfl;exact rfl)|((first|(apply yH;exact rfl;exact rfl)|apply z7|(apply zV;exact rfl;exact rfl;exact zI;exact rfl;exact rfl)|apply zN)<;>(first|exact zI|exact Nat.zero_add _|exact rfl|refine yK ?_|assumption|omega|exact ⟨rfl⟩|exact ⟨rfl,_,_,rfl,rfl⟩|exact lb rfl|(refine Bd.mk ?_;first|assumption|omega|(focus (simp;done))|(simp;omega)|decide)|(focus (simp;done))|(simp;omega)|(simp only [lA,lB,lC,lD,lE];omega)))|apply zT|apply AWp.Q|apply zH|apply AWp.G|apply AWp.R|apply zK|(apply (zU (pick_pfm code c hl hc l.length hn.2));(iterate 7 exact rfl);(focus (repeat (first|exact All2.nil|refine All2.cons rfl ?_)));exact rfl;(focus (repeat (first|exact MC.vc (VC.imm (zA _))|exact MC.vc (VC.imm (Imm.fn _ _ ‹_›))|exact MAs.nil|apply MAs.cons|apply MA.c|apply MA.agg|exact MCs.nil|apply MCs.cons|exact MC.ref rfl|exact MC.ptr rfl|exact MC.vc (VC.imm (Imm.v _))|exact MC.vc (VC.imm (Imm.sl _))|exact MC.vc (VC.imm (Imm.ip _))|exact MC.vc VC.nil)));(first|assumption|(apply y6;assumption)|(apply yV;assumption));(first|exact y8|assumption|(apply y7;assumption));exact rfl;exact rfl)))
  rw [hof]
  ((first|refine zY _ [(0, some 0), (1, some 1)] (.cons (zQ rfl) .nil) ?_ rfl ?_|refine z6 _ [(0, some 0), (1, some 1)] (.cons (zQ rfl) .nil) ?_ rfl ?_) <;> (repeat' (first|exact trivial|exact rfl|exact Or.inr ⟨rfl,‹_›⟩|exact Or.inl ⟨rfl,trivial⟩|apply And.intro|exact congrArg (Value.int .i64) (by first|omega|(simp;done)|(simp;omega))|(refine yG ?_;first|(focus (simp;done))|omega|(simp only [lA,lB,lC,lD,lE];omega))|(refine ⟨_,rfl,rfl,rfl,OW.one ?_⟩)|(refine ⟨_,rfl,rfl,rfl,OW.same ?_ ?_⟩)|refine vwB ?_|refine vwS ?_|refine vwI ?_|refine fwB ?_|refine fwS ?_|refine fwI ?_|(refine aIm ?_;first|exact AllSc.nil|assumption))))
  exact hsl
theorem among_pfm (l : List Int) (m : Nat) (hn : 1 ≤ m ∧ m ≤ 200) (hm : m ≤ l.length) : PFM Tryd.prog 58 [xS code c, ⟨3, 1, l.map y5⟩] [.c (.ptr 0 0 0), .c (.ref 1 0 m)] [some (xS code (pkC code c m)), some ⟨3, 1, l.map y5⟩] (.c (int (amV code c l m))) := by
  have him2 := yV (z8 code (pkC code c m))
  have hii := x6 (z8 code c)
  have him3 := z8 code (pkC code c m)
  have hsl := (xH l).imm
  have hv := vZ code c hn.1
  obtain ⟨k, hk⟩ : ∃ k : Nat, pkV code c m = (k : Int) := ⟨(pkV code c m).toNat, by omega⟩
  obtain ⟨x, hx⟩ := xU (show k < l.length by omega)
  have hx' : (l.map y5)[k]? = some (y5 x) := xZ hx
  have hof : amV code c l m = x := by rw [amV, hk, Int.toNat_natCast, hx]; rfl
  refine zD (wK _ _) (enumM2 _ _) rfl Tryd.func58 rfl (by kernel_rfl) _ _ rfl rfl rfl (fun w0 mu I0 β0 gi dis => ?_)
  (repeat' (first|(apply xW;(first|exact Want.none_ rfl|(refine zX rfl rfl rfl rfl ?_;(first|assumption|exact dT ‹_›|exact dF ‹_›|exact rfl))))|(apply xF zI;exact rfl;exact rfl)|((first|(apply yH;exact rfl;exact rfl)|apply z7|(apply zV;exact rfl;exact rfl;exact zI;exact rfl;exact rfl)|apply zN)<;>(first|exact zI|exact Nat.zero_add _|exact rfl|refine yK ?_|assumption|omega|exact ⟨rfl⟩|exact ⟨rfl,_,_,rfl,rfl⟩|exact lb rfl|(refine Bd.mk ?_;first|assumption|omega|(focus (simp;done))|(simp;omega)|decide)|(focus (simp;done))|(simp;omega)|(simp only [lA,lB,lC,lD,lE];omega)))|apply zT|apply AWp.Q|apply zH|apply AWp.G|apply AWp.R|apply zK|(apply (zU (pick_pfm code c hl hc m hn.2));(iterate 7 exact rfl);(focus (repeat (first|exact All2.nil|refine All2.cons rfl ?_)));exact rfl;(focus (repeat (first|exact MC.vc (VC.imm (zA _))|exact MC.vc (VC.imm (Imm.fn _ _ ‹_›))|exact MAs.nil|apply MAs.cons|apply MA.c|apply MA.agg|exact MCs.nil|apply MCs.cons|exact MC.ref rfl|exact MC.ptr rfl|exact MC.vc (VC.imm (Imm.v _))|exact MC.vc (VC.imm (Imm.sl _))|exact MC.vc (VC.imm (Imm.ip _))|exact MC.vc VC.nil)));(first|assumption|(apply y6;assumption)|(apply yV;assumption));(first|exact y8|assumption|(apply y7;assumption));exact rfl;exact rfl)))
  rw [hof]
  ((first|refine zY _ [(0, some 0), (1, some 1)] (.cons (zQ rfl) .nil) ?_ rfl ?_|refine z6 _ [(0, some 0), (1, some 1)] (.cons (zQ rfl) .nil) ?_ rfl ?_) <;> (repeat' (first|exact trivial|exact rfl|exact Or.inr ⟨rfl,‹_›⟩|exact Or.inl ⟨rfl,trivial⟩|apply And.intro|exact congrArg (Value.int .i64) (by first|omega|(simp;done)|(simp;omega))|(refine yG ?_;first|(focus (simp;done))|omega|(simp only [lA,lB,lC,lD,lE];omega))|(refine ⟨_,rfl,rfl,rfl,OW.one ?_⟩)|(refine ⟨_,rfl,rfl,rfl,OW.same ?_ ?_⟩)|refine vwB ?_|refine vwS ?_|refine vwI ?_|refine fwB ?_|refine fwS ?_|refine fwI ?_|(refine aIm ?_;first|exact AllSc.nil|assumption))))
  exact hsl
end
end Go.Proofs.YtchpdclknbmdoaaDoor
