/- FnBriefSaved returns true for every argument, and each argument reads as before. No conditions. Printed by gen_law2.py. -/
import Derived.Test.YtchpdclknbmdoaaDoorBsL
import Derived.Test.YtchpdclknbmdoaaDoorLaidU
import Derived.Test.YtchpdclknbmdoaaDoorTie
import Derived.Test.YtchpdclknbmdoaaDoorCards
import Derived.SevenTiedAt
import Derived.Test.YtchpdclknbmdoaaDoorWdAB
namespace Go.Proofs.YtchpdclknbmdoaaDoor
open Go Go.RowKit Go.ChangeShapes Go.WideShapes Go.ChangeAt Go.Deep
open Go.ChangeMaps (open_string shut_string)

set_option maxRecDepth 100000 in
theorem lawFnBriefSaved_lifted (os : Os) (started : os.Started) (H : Type) (enc : TypeId × Value → H) :
    ReturnsInHanded {} Tryd.checked os 9 .any (fun w args => (Rows.fnBriefSavedSpec.pre enc Tryd.prog Tryd.f9 Rows.fnBriefSavedRow.domain false w args ∧ laidMet Tryd.prog Rows.fnBriefSavedRow.laid w) ∧ sizedMet enc Tryd.prog Tryd.f9 (OpenSpec.ofChange Rows.fnBriefSavedSpec) false w args) (Rows.fnBriefSavedSpec.post enc Tryd.prog Tryd.f9 false true false false) := by
  refine handed_laid (C := Tryd.checked) (X := fun w _ => laidMet Tryd.prog Rows.fnBriefSavedRow.laid w) (fun _ _ _ hh h => h.of_heap hh) Tryd.own started (by kernel_rfl) Tryd.func9
    (ChangeSpec.witness_at (enc := enc) (C := Tryd.checked) (os := os) (X := fun w _ => laidMet Tryd.prog Rows.fnBriefSavedRow.laid w) false (laidWorldU os) #[.slice none 0 0] 8 rfl (by kernel_rfl) (by kernel_rfl) (by kernel_rfl) (by kernel_rfl) (by kernel_rfl) (laidWorldU_met os _)) ?_
  intro W base args ds gs before hval0 hW hcnd hsh hL
  have hval : ∀ (j : Nat) t v, Tryd.f9.params[j]? = some t → args[j]? = some v → Value.okWide Tryd.prog W .any base t v := hval0
  have hW' := hW
  obtain ⟨p, q, hA0, hV, rfl, hfz, hnd⟩ := hW
  have hA : DataW.TrodAll enc Tryd.prog W 0 (fun _ => true) true Tryd.f9.params.toList args.toList ds p := hA0
  rw [Tryd.params9] at hA hval
  obtain ⟨v0, d0, hargs, rfl, a0⟩ := trodAll_one hA
  obtain ⟨rfl, rfl⟩ := trodVars_none hV
  subst hargs
  obtain ⟨_, ⟨code, rfl, hcode⟩, r0⟩ := reads_arg (reads_Bytes _) a0
  have R0 := arg_slice (β := fun _ => none) Tryd.underlying30 (hval 0 30 v0 rfl rfl) r0
  clear hA0 hval0
  simp only [List.append_nil] at hW'
  refine (law_of_pf (lawBriefSaved_pf code hcode) [v0] (.cons R0 .nil) (laidU_gi hsh)).mono fun e W' ⟨he, hw⟩ => ?_
  subst he
  exact ⟨_, rfl, post_of_below (pa := p) (pv := []) hW' (fun _ _ _ => trodAll_mk1 (shut_bool Tryd.underlying4 true)) (fun sp hsp => trodAll_mk1 (stays Tryd.laidOut (by kernel_rfl) (of_decide_eq_true (by kernel_rfl)) a0 hw (fun x hx => hW'.lt x (by simp [hx])) (fun x hx => hsp x (by simp [hx])))) (fun _ _ => rfl) (by simp) hw (ok_one (by kernel_rfl) rfl (okWide_bool_mk Tryd.underlying4 true))⟩
theorem lawFnBriefSaved_holds : Rows.FnBriefSavedSaid :=
  OpenClaim.holds_of_wide 9 Tryd.f9 rfl rfl rfl rfl rfl rfl rfl ⟨rfl, rfl, rfl, rfl, rfl⟩ rfl rfl rfl rfl rfl (by kernel_rfl) Tryd.func9 (by kernel_rfl)
    (of_decide_eq_true (by kernel_rfl)) (by unfold Func.isWrapper; first | (rw [if_pos (by decide +kernel)]; kernel_rfl) | (rw [if_neg (by decide +kernel)]; exact ⟨rfl, rfl⟩))
    (fun os started H enc _ => lawFnBriefSaved_lifted os started H enc)
theorem lawFnBriefSaved_card : Rows.FnBriefSavedCardSaid :=
  Claim7.holds_tied_plain_at .later [] [.data, .pinned] true (true, "8083ab7a0584bc54326e8a55d522ea4120a4ad0b74bb1b6a01c1e607df3f7422") false
    lawFnBriefSaved_holds (fun _ h => by cases h) (by kernel_rfl) (fun _ h => by cases h) fnBriefSaved_row_tie rfl ⟨rfl, rfl⟩ (by kernel_rfl) rfl
    (fun f fn hf hfn => by
      obtain rfl : f = 9 := Option.some.inj ((show Tryd.prog.funcNamed "loop.example/g00882/laws.FnBriefSaved" = some 9 by kernel_rfl).symm.trans hf) |>.symm
      obtain rfl : fn = Tryd.f9 := (Option.some.inj (Tryd.func9.symm.trans hfn)).symm
      exact ⟨by kernel_rfl, fun j t ht => by
        rw [Tryd.params9] at ht
        rcases j with _ | j
        · obtain rfl : 30 = t := by simpa using ht
          exact (show Tryd.prog.wantsStandIn 30 = false by kernel_rfl)
        simp at ht⟩)
    (by kernel_rfl)
end Go.Proofs.YtchpdclknbmdoaaDoor
