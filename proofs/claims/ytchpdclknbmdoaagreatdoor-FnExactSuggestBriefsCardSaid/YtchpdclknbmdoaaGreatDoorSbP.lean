/- PhoneticStroke of both programs, as the abstract machine knows functions. -/
import Derived.Test.YtchpdclknbmdoaaGreatDoorPhonetic2
import Derived.Test.YtchpdclknbmdoaaGreatDoorAbsRead
namespace Go.Proofs.YtchpdclknbmdoaaGreatDoor
open Go Go.RowKit
theorem raws_eq {I : Nat → Prop} {β : Nat → Option BI} {w : World} : ∀ {xs vals : List Value}, All2 (RepF I β w) (xs.map fun x => AVal.c (.v x)) vals → vals = xs
  | [], _, .nil => rfl
  | x :: xs, _, .cons h hs => by
    have h1 : Rep I β w (.v x) _ := h
    cases h1 with
    | imm h1 => cases h1 with | v _ _ => rw [raws_eq hs]
theorem pf_same {P : Program} {f : Nat} {xs : List Value} {v : Value} {r : AVal} (ok : FnOk P f) (h : ∀ w, Calls P f xs.toArray w fun e w' => e = .returned v ∧ w = w') (hr : ∀ I β w, RepV I β w r v) : PF P f (xs.map fun x => AVal.c (.v x)) [] r :=
  ⟨ok, fun I β w vals h1 h2 h3 h4 h5 h6 => by
    rw [raws_eq h6]
    refine (h w).mono fun e w' ⟨he, hw⟩ => ?_
    subst hw
    exact ⟨v, I, β, he, hr I β w, Keeps.refl _ _, h1, fun b _ => Iff.rfl, h3, fun o _ => rfl, fun o obj ho => by simp at ho, fun o o' obj obj' B B' b e1 => by simp at e1⟩⟩
theorem fold_range : ∀ (cs : List Int) (t : Int × Int), (∀ c ∈ cs, wF c = true) → 0 ≤ t.1 ∧ t.1 < 8388608 → 0 ≤ (cs.foldl wG t).1 ∧ (cs.foldl wG t).1 < 8388608
  | [], _, _, h => h
  | c :: cs, t, hc, h => by
    obtain ⟨_, _, h1, h2, h3⟩ := facts (hc c (List.mem_cons_self ..))
    rw [List.foldl_cons]
    refine fold_range cs _ (fun d hd => hc d (List.mem_cons_of_mem _ hd)) ?_
    unfold wG
    split
    · split
      · exact wS h h2
      · exact wS h h3
    · split
      · exact wS h h1
      · exact h
theorem phonS_range (cs : List Int) : 0 ≤ wO cs ∧ wO cs < 8388608 := by
  rw [wO]
  split
  · rename_i h
    rw [phonOk, Bool.and_eq_true, List.all_eq_true] at h
    exact fold_range cs (0, 0) h.2 ⟨by decide, by decide⟩
  · exact ⟨by decide, by decide⟩
def phN (l : List UInt8) : Nat := (wO (bs ⟨⟨l⟩⟩)).toNat
theorem phN_is (l : List UInt8) : wO (bs ⟨⟨l⟩⟩) = ((phN l : Nat) : Int) := by
  have := phonS_range (bs ⟨⟨l⟩⟩)
  rw [phN]; omega
theorem phN_lt (l : List UInt8) : phN l < 8388608 := by
  have := phonS_range (bs ⟨⟨l⟩⟩)
  rw [phN]; omega
theorem ph_rep (l : List UInt8) (I : Nat → Prop) (β : Nat → Option BI) (w : World) : RepV I β w (.tup [.c (int (phN l : Nat)), .c (boo (decide (phN l ≠ 0)))]) (.tuple #[.int .i64 (wO (bs ⟨⟨l⟩⟩)), .bool (wO (bs ⟨⟨l⟩⟩) != 0)]) := by
  have e : (wO (bs ⟨⟨l⟩⟩) != 0) = decide (phN l ≠ 0) := by
    rw [phN_is, Bool.eq_iff_iff, bne_iff_ne, decide_eq_true_eq]; omega
  rw [e, phN_is]
  exact RepV.tup.2 ⟨[_, _], rfl, .cons (Rep.imm (.v _ rfl)) (.cons (Rep.imm (.v _ rfl)) .nil)⟩
theorem implPh_pf (l : List UInt8) (hl : l.length ≤ 1048576) : PF Tryz.prog 55 [.c (str l)] [] (.tup [.c (int (phN l : Nat)), .c (boo (decide (phN l ≠ 0)))]) :=
  pf_same (xs := [.string ⟨⟨l⟩⟩]) ⟨Tryz.f55, Tryz.func55, by kernel_rfl, rfl⟩
    (fun w => (implPhonetic_any ⟨⟨l⟩⟩ w hl).mono fun e w' h => by rw [phon_same] at h; exact h) (ph_rep l)
theorem specPh_pf (l : List UInt8) (hl : l.length ≤ 1048576) : PF Tryz.prog 56 [.c (str l)] [] (.tup [.c (int (phN l : Nat)), .c (boo (decide (phN l ≠ 0)))]) :=
  pf_same (xs := [.string ⟨⟨l⟩⟩]) ⟨Tryz.f56, Tryz.func56, by kernel_rfl, rfl⟩
    (fun w => specPhonetic_any ⟨⟨l⟩⟩ w hl) (ph_rep l)
end Go.Proofs.YtchpdclknbmdoaaGreatDoor
