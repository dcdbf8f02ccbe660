/- SuggestBriefs of the program. -/
import Derived.Test.YtchpdclknbmdoaaGreatDoorSbB
import Derived.Test.YtchpdclknbmdoaaGreatDoorSbP
import Derived.Test.YtchpdclknbmdoaaGreatDoorSTz
import Derived.Test.YtchpdclknbmdoaaGreatDoorFrB
namespace Go.Proofs.YtchpdclknbmdoaaGreatDoor
open Go Go.RowKit
theorem pow2_le {a : Nat} (h : a ≤ 23) : 2 ^ a ≤ 8388608 := pow23 h
theorem spread_pf (m x : Nat) (hx : x < 4294967296) : PF Tryz.prog 113 [.c (.sl (nEl (keys m))), .c (int (x : Nat))] [] (.c (int (dep 23 m x : Nat))) := by
  have hkl := keysN_len m 23
  rw [← keys] at hkl
  have hL := vU (keys m)
  rw [← spr_dep, ← keys]
  refine PF.enter (xS _ _) Tryz.func113 rfl (by kernel_rfl) _ _ rfl rfl rfl (fun w0 mu I0 β0 gi dis => ?_)
  (repeat' (first|(apply xW;((exact Want.none_ rfl)))|(apply xF zI;exact rfl;exact rfl)|apply zQ|apply AWp.Q|apply zG|apply AWp.G|apply AWp.B))
  refine AWp.U (σ := Nat) (fun j => ⟨[(1, .c (int (x : Nat))), (5, .c (int (spr ((keys m).take j) x : Nat))), (8, .c (.sl (nEl (keys m)))), (9, .c (int (keys m).length)), (10, .c (int j))], [], 0⟩) (fun j => j ≤ (keys m).length) (fun j => (keys m).length - j) 0 (Nat.zero_le _) ?_ ?_
  · refine Weak.of [] rfl ?_ ?_ <;> (repeat' (first|exact trivial|exact rfl|apply And.intro|(apply cgI;(omega))))
  · intro j hj
    by_cases hlt : j < (keys m).length
    · obtain ⟨a, ha⟩ := xQ hlt
      have ha23 := keys_lt ha
      have ha' := nEl_at ha
      have hlt' : (j : Int) < ((keys m).length : Int) := by omega
      have hsl := spr_lt (b := m) x j 23 (by omega) fun i c hi hc => keys_lt hc
      rw [show (2 : Nat) ^ 23 = 8388608 by decide] at hsl
      have hpa := pow2_le (show a ≤ 23 by omega)
      have hdx := Nat.div_le_self x (2 ^ j)
      have hone := Nat.and_one_is_mod (x / 2 ^ j)
      have hat := spr_at (x := x) ha
      by_cases hb : x / 2 ^ j % 2 = 1
      · have hq : ((x / 2 ^ j &&& 1 : Nat) : Int) = 1 := by rw [hone, hb]; rfl
        rw [if_pos hb] at hat
        generalize spr ((keys m).take j) x = s at hsl hat ⊢
        (repeat' (first|(apply xW;((exact Want.none_ rfl)))|(apply xF zI;exact rfl;exact rfl)|((first|apply yE|(apply yB;exact rfl;exact rfl))<;>(first|exact zI|exact Nat.zero_add _|exact rfl|refine yH ?_|assumption|omega))|apply zQ|apply AWp.Q|apply zG|apply AWp.G|apply AWp.B|apply AWp.J|apply zH|(apply AWp.T;exact rfl;((exact dT ‹_›)))|((first|(apply wL;exact rfl;exact rfl;exact rfl)|(apply vD;exact rfl;exact rfl;exact rfl)|(apply wJ;exact rfl;exact rfl;exact rfl;((exact rfl)))|(apply wM;exact rfl;exact rfl;exact rfl;((exact rfl))))<;>(first|refine yH ?_|((try refine Bd.mk ?_);first|omega|(simp;omega))))))
        refine ⟨j + 1, by omega, by omega, ?_⟩
        rw [hat]
        refine Weak.of [] rfl ?_ ?_ <;> (repeat' (first|exact trivial|exact rfl|apply And.intro))
      · have hq : ¬ ((x / 2 ^ j &&& 1 : Nat) : Int) = 1 := fun e => hb (by rw [← hone]; omega)
        rw [if_neg hb] at hat
        generalize spr ((keys m).take j) x = s at hsl hat ⊢
        (repeat' (first|(apply xW;((exact Want.none_ rfl)))|(apply xF zI;exact rfl;exact rfl)|((first|apply yE|(apply yB;exact rfl;exact rfl))<;>(first|exact zI|exact Nat.zero_add _|exact rfl|refine yH ?_|assumption|omega))|apply zQ|apply AWp.Q|apply zG|apply AWp.G|apply AWp.B|apply AWp.J|apply zH|(apply AWp.T;exact rfl;((exact dT ‹_›)))|(apply AWp.F;exact rfl;((exact dF ‹_›)))|((first|(apply wL;exact rfl;exact rfl;exact rfl)|(apply wM;exact rfl;exact rfl;exact rfl;((exact rfl))))<;>(first|refine yH ?_|((try refine Bd.mk ?_);first|omega|(simp;omega))))))
        refine ⟨j + 1, by omega, by omega, ?_⟩
        rw [hat]
        refine Weak.of [] rfl ?_ ?_ <;> (repeat' (first|exact trivial|exact rfl|apply And.intro))
    · have hlt' : ¬ (j : Int) < ((keys m).length : Int) := by omega
      rw [List.take_of_length_le (by omega)]
      (repeat' (first|(apply xW;((exact Want.none_ rfl)))|(apply xF zI;exact rfl;exact rfl)|apply zQ|apply AWp.Q|apply zG|apply AWp.G|apply AWp.X|apply AWp.R|apply zN|apply zL|(apply AWp.F;exact rfl;((exact dF ‹_›)))))
      (((refine zX _ [] (.cons (zP rfl) .nil) ?_ rfl ?_)) <;> (repeat' (first|exact trivial|exact rfl)))
def qR (es : List Ent) (w : List UInt8) (n : Int) : Bool := kK es && (decide (phN w ≠ 0) && inZ n 0 50)
theorem sgI_no (es : List Ent) (w : List UInt8) (n : Int) (hb : qQ es) (hw : w.length ≤ 1048576) (h : qR es w n = false) : PF Tryz.prog 50 [.agg (vE es), .c (str w), .c (int n)] [] (.tup [.c .nil, .c (boo false)]) := by
  have h1 := implGood_pf es hb
  have h2 := implPh_pf w hw
  have h3 := isFew_pf n
  rw [qR] at h
  cases hd : kK es with
  | false =>
    rw [hd] at h1
    refine PF.enter (qS _ _ _) Tryz.func50 rfl (by kernel_rfl) _ _ rfl rfl rfl (fun w0 mu I0 β0 gi dis => ?_)
    (repeat' (first|(apply xW;((exact Want.none_ rfl)))|(apply xF zI;exact rfl;exact rfl)|(apply yX;exact rfl;exact rfl;((exact rfl));exact rfl;exact rfl)|(apply yY;(iterate 5 exact rfl);((exact rfl)))|apply zQ|apply AWp.Q|apply zG|apply AWp.G|apply AWp.R|apply zK|(apply AWp.T;exact rfl;((exact rfl)))|(apply yC;(iterate 6 exact rfl);(iterate 2 (focus (repeat (first|exact VAs.nil|apply VAs.cons|apply VA.c|apply VA.agg|exact VCs.nil|apply VCs.cons|exact VC.imm (Imm.v _)|exact VC.imm (Imm.sl _)))));(first|exact h2|exact h1);(focus (repeat (first|exact trivial|exact Flat.v _|apply And.intro)));((apply yJ));(first|exact xD _ _|exact xB _ _ _))))
    (((refine zX _ [] (.cons (zP rfl) (.cons (zP rfl) .nil)) ?_ rfl ?_)) <;> (repeat' (first|exact trivial|exact rfl|apply And.intro)))
  | true =>
    rw [hd] at h1 h
    cases hk : decide (phN w ≠ 0) with
    | false =>
      rw [hk] at h2
      refine PF.enter (qS _ _ _) Tryz.func50 rfl (by kernel_rfl) _ _ rfl rfl rfl (fun w0 mu I0 β0 gi dis => ?_)
      (repeat' (first|(apply xW;(first|exact Want.none_ rfl|(refine zW rfl rfl rfl rfl ?_;((exact rfl)))))|(apply xF zI;exact rfl;exact rfl)|(apply yX;exact rfl;exact rfl;((exact rfl));exact rfl;exact rfl)|(apply yY;(iterate 5 exact rfl);((exact rfl)))|apply zQ|apply AWp.Q|apply zG|apply AWp.G|apply AWp.R|apply zK|(apply AWp.T;exact rfl;((exact rfl)))|(apply yC;(iterate 6 exact rfl);(iterate 2 (focus (repeat (first|exact VAs.nil|apply VAs.cons|apply VA.c|apply VA.agg|exact VCs.nil|apply VCs.cons|exact VC.imm (Imm.v _)|exact VC.imm (Imm.sl _)))));(first|exact h2|exact h1);(focus (repeat (first|exact trivial|exact Flat.v _|apply And.intro)));((apply yJ));(first|exact xD _ _|exact xB _ _ _))))
      (((refine zX _ [] (.cons (zP rfl) (.cons (zP rfl) .nil)) ?_ rfl ?_)) <;> (repeat' (first|exact trivial|exact rfl|apply And.intro)))
    | true =>
      rw [hk] at h h2
      have hn : inZ n 0 50 = false := h
      rw [hn] at h3
      refine PF.enter (qS _ _ _) Tryz.func50 rfl (by kernel_rfl) _ _ rfl rfl rfl (fun w0 mu I0 β0 gi dis => ?_)
      (repeat' (first|(apply xW;(first|exact Want.none_ rfl|(refine zW rfl rfl rfl rfl ?_;((exact rfl)))))|(apply xF zI;exact rfl;exact rfl)|(apply yX;exact rfl;exact rfl;((exact rfl));exact rfl;exact rfl)|apply zQ|apply AWp.Q|apply zG|apply AWp.G|apply AWp.R|apply zK|(apply AWp.T;exact rfl;((exact rfl)))|(apply yC;(iterate 6 exact rfl);(iterate 2 (focus (repeat (first|exact VAs.nil|apply VAs.cons|apply VA.c|apply VA.agg|exact VCs.nil|apply VCs.cons|exact VC.imm (Imm.v _)|exact VC.imm (Imm.sl _)))));(first|exact h2|exact h1|exact h3);(focus (repeat (first|exact trivial|exact Flat.v _|apply And.intro)));((apply yJ));(first|exact xD _ _|exact xB _ _ _))))
      (((refine zX _ [] (.cons (zP rfl) (.cons (zP rfl) .nil)) ?_ rfl ?_)) <;> (repeat' (first|exact trivial|exact rfl|apply And.intro)))
theorem neg_bits {x t : Nat} (h0 : 0 < x) (hx : x < 8388608) (h : (18446744073709551616 - x) &&& x = 2 ^ t) (ht : t ≤ 22) : bits .and .i64 (x : Int) (-(x : Int)) = ((2 ^ t : Nat) : Int) := by
  show IntKind.i64.wrap ((BitVec.ofInt 64 (x : Int) &&& BitVec.ofInt 64 (-(x : Int))).toNat : Int) = _
  have e1 : (BitVec.ofInt 64 (-(x : Int))).toNat = 18446744073709551616 - x := by
    rw [BitVec.toNat_ofInt]
    have : ((2 ^ 64 : Nat) : Int) = 18446744073709551616 := by decide
    rw [this]
    omega
  have e2 : (BitVec.ofInt 64 (x : Int)).toNat = x := by
    rw [BitVec.ofInt_natCast, BitVec.toNat_ofNat, Nat.mod_eq_of_lt (by omega)]
  rw [BitVec.toNat_and, e1, e2, Nat.and_comm, h]
  have := pow2_le (show t ≤ 23 by omega)
  exact qL _ (by omega)
section
variable {P : Program} {E : Env} {ops : Array Oper} {K : AS → Prop} {draw : Bool}
variable {r : List Oper} {acc : List (Upd × Foot)} {tm : List (Nat × AVal)} {ob : List (Nat × Option AObj)} {nx d ty : Nat} {pos : String} {aft : Array Edge} {g : Option (Nat × Bool)} {x y : Operand} {t t' : Nat} {p q v : Int}
end
theorem take_lt {α : Type} {A : List α} {n : Nat} (h : (A.take n).length < n) : A.take n = A := by
  rw [List.length_take] at h
  exact List.take_of_length_le (by omega)
theorem take_snoc {α : Type} {A : List α} {x : α} {n : Nat} (h : A.length < n) : (A ++ [x]).take n = A ++ [x] := List.take_of_length_le (by rw [List.length_append]; simp only [List.length_cons, List.length_nil]; omega)
def got (es : List Ent) (b j n x : Nat) : List Int := (allG es b j ++ grp es b (szK b - j) (min x (2 ^ szK b))).take n
theorem got_first (es : List Ent) {b j : Nat} (n : Nat) (hj : j < szK b) : got es b j n (2 ^ (szK b - j) - 1) = (allG es b j).take n := by
  have h1 := kY b
  have h2 : 2 ^ (szK b - j) ≤ 2 ^ szK b := Nat.pow_le_pow_right (by omega) (by omega)
  have h3 := xI (szK b)
  rw [got, Nat.min_eq_left (by omega), grp_first es b (by omega), List.append_nil]
theorem got_step {es : List Ent} {b j n x y : Nat} (hx : x < 2 ^ szK b) (hxy : x < y) (hp : pc 24 x = szK b - j) (hz : ∀ z, x < z → z < y → pc 24 z ≠ pc 24 x) (hl : (got es b j n x).length < n) :
    got es b j n y = got es b j n x ++ if wY es (sbN b x) then [sbN b x] else [] := by
  have h1 : grp es b (szK b - j) (min y (2 ^ szK b)) = grp es b (szK b - j) x ++ if wY es (sbN b x) then [sbN b x] else [] :=
    grp_hit es b (by omega) hp fun z z1 z2 => by rw [← hp]; exact hz z z1 (by omega)
  rw [got, Nat.min_eq_left (by omega)] at hl
  have h2 := take_lt hl
  rw [h2] at hl
  rw [got, got, h1, Nat.min_eq_left (by omega : x ≤ 2 ^ szK b), h2, ← List.append_assoc]
  cases hf : wY es (sbN b x) with
  | true => rw [if_pos rfl]; exact take_snoc hl
  | false => rw [if_neg (by simp), List.append_nil, h2]
theorem got_last {es : List Ent} {b j n x : Nat} (h : ¬ x < 2 ^ szK b ∨ ¬ (got es b j n x).length < n) : got es b j n x = (allG es b (j + 1)).take n := by
  rw [allG]
  by_cases hx : x < 2 ^ szK b
  · have hl := h.resolve_left (fun e => e hx)
    rw [got] at hl ⊢
    have hge : n ≤ (allG es b j ++ grp es b (szK b - j) (min x (2 ^ szK b))).length := by rw [List.length_take] at hl; omega
    obtain ⟨r, hr⟩ := grp_pre es b (szK b - j) (show min x (2 ^ szK b) ≤ 2 ^ szK b by omega)
    rw [hr, ← List.append_assoc, take_more hge]
  · rw [got, Nat.min_eq_right (by omega)]
end Go.Proofs.YtchpdclknbmdoaaGreatDoor
