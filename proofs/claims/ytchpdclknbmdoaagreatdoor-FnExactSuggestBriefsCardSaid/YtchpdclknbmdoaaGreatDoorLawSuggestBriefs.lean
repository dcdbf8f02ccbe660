/- FnExactSuggestBriefs returns true for every argument, and each argument reads as before. No conditions. Printed by gen_law2.py. -/
import Derived.Test.YtchpdclknbmdoaaGreatDoorNsS
import Derived.Test.YtchpdclknbmdoaaGreatDoorLaidB
import Derived.Test.YtchpdclknbmdoaaGreatDoorTie
import Derived.Test.YtchpdclknbmdoaaGreatDoorCards
import Derived.SevenTiedAt
import Derived.Test.YtchpdclknbmdoaaGreatDoorDvE
namespace Go.Proofs.YtchpdclknbmdoaaGreatDoor
open Go Go.RowKit Go.ChangeShapes Go.WideShapes Go.ChangeAt Go.Deep
open Go.ChangeMaps (open_string shut_string)

set_option maxRecDepth 100000 in
theorem lawSuggestBriefs_lifted (os : Os) (started : os.Started) (H : Type) (enc : TypeId × Value → H) :
    ReturnsInHanded {} Tryz.checked os 8 .any (fun w args => (Rows.fnExactSuggestBriefsSpec.pre enc Tryz.prog Tryz.f8 Rows.fnExactSuggestBriefsRow.domain false w args ∧ laidMet Tryz.prog Rows.fnExactSuggestBriefsRow.laid w) ∧ sizedMet enc Tryz.prog Tryz.f8 (OpenSpec.ofChange Rows.fnExactSuggestBriefsSpec) false w args) (Rows.fnExactSuggestBriefsSpec.post enc Tryz.prog Tryz.f8 false true false false) := by
  refine handed_laid (C := Tryz.checked) (X := fun w _ => laidMet Tryz.prog Rows.fnExactSuggestBriefsRow.laid w) (fun _ _ _ hh h => h.of_heap hh) Tryz.own started (by kernel_rfl) Tryz.func8
    (ChangeSpec.witness_at (enc := enc) (C := Tryz.checked) (os := os) (X := fun w _ => laidMet Tryz.prog Rows.fnExactSuggestBriefsRow.laid w) false (laidWorldB os) #[.agg #[.slice none 0 0], .string ⟨#[]⟩, .int .i64 0] 8 rfl (by kernel_rfl) (by kernel_rfl) (by kernel_rfl) (by kernel_rfl) (by kernel_rfl) (laidWorldB_met os _)) ?_
  intro W base args ds gs before hval0 hW hcnd hsh hL
  have hval : ∀ (j : Nat) t v, Tryz.f8.params[j]? = some t → args[j]? = some v → Value.okWide Tryz.prog W .any base t v := hval0
  have hW' := hW
  obtain ⟨p, q, hA0, hV, rfl, hfz, hnd⟩ := hW
  have hA : DataW.TrodAll enc Tryz.prog W 0 (fun _ => true) true Tryz.f8.params.toList args.toList ds p := hA0
  rw [Tryz.params8] at hA hval
  obtain ⟨v0, v1, v2, d0, d1, d2, p0, p1, p2, hargs, rfl, rfl, a0, a1, a2⟩ := trodAll_three hA
  obtain ⟨rfl, rfl⟩ := trodVars_none hV
  subst hargs
  obtain ⟨_, ⟨es, rfl, hes⟩, r0⟩ := reads_arg (reads_Dict _) a0
  have R0 := arg_agg (β := fun _ => none) Tryz.underlying60 (hval 0 60 v0 rfl rfl) r0
  obtain ⟨_, ⟨t, rfl, ht⟩, r1⟩ := reads_arg (reads_str Tryz.underlying9) a1
  have R1 := arg_str (β := fun _ => none) Tryz.underlying9 (hval 1 9 v1 rfl rfl) r1
  obtain ⟨_, ⟨n, rfl, _, _⟩, r2⟩ := reads_arg (reads_int Tryz.underlying3) a2
  have R2 := arg_int (β := fun _ => none) Tryz.underlying3 (hval 2 3 v2 rfl rfl) r2
  clear hA0 hval0
  simp only [List.append_nil] at hW'
  refine (lawSug_run es t n hes [v0, v1, v2] (.cons R0 (.cons R1 (.cons R2 .nil))) (laidB_gi hL hsh)).mono fun e W' ⟨he, hw⟩ => ?_
  subst he
  exact ⟨_, rfl, post_of_below (pa := p0 ++ (p1 ++ (p2))) (pv := []) hW' (fun _ _ _ => trodAll_mk1 (shut_bool Tryz.underlying4 true)) (fun sp hsp => trodAll_mk3 (stays Tryz.laidOut (by kernel_rfl) (of_decide_eq_true (by kernel_rfl)) a0 hw (fun x hx => hW'.lt x (by simp [hx])) (fun x hx => hsp x (by simp [hx]))) (stays Tryz.laidOut (by kernel_rfl) (of_decide_eq_true (by kernel_rfl)) a1 hw (fun x hx => hW'.lt x (by simp [hx])) (fun x hx => hsp x (by simp [hx]))) (stays Tryz.laidOut (by kernel_rfl) (of_decide_eq_true (by kernel_rfl)) a2 hw (fun x hx => hW'.lt x (by simp [hx])) (fun x hx => hsp x (by simp [hx])))) (fun _ _ => rfl) (by simp) hw (ok_one (by kernel_rfl) rfl (okWide_bool_mk Tryz.underlying4 true))⟩
theorem lawSuggestBriefs_holds : Rows.FnExactSuggestBriefsSaid :=
  OpenClaim.holds_of_wide 8 Tryz.f8 rfl rfl rfl rfl rfl rfl rfl ⟨rfl, rfl, rfl, rfl, rfl⟩ rfl rfl rfl rfl rfl (by kernel_rfl) Tryz.func8 (by kernel_rfl)
    (of_decide_eq_true (by kernel_rfl)) (by unfold Func.isWrapper; first | (rw [if_pos (by decide +kernel)]; kernel_rfl) | (rw [if_neg (by decide +kernel)]; exact ⟨rfl, rfl⟩))
    (fun os started H enc _ => lawSuggestBriefs_lifted os started H enc)
theorem lawSuggestBriefs_card : Rows.FnExactSuggestBriefsCardSaid :=
  Claim7.holds_tied_plain_at .later [] [.data, .data, .data, .pinned] true (true, "283b847684b3de111861e81711778a3734333b6b172ce0c89c25966378e44e17") false
    lawSuggestBriefs_holds (fun _ h => by cases h) (by kernel_rfl) (fun _ h => by cases h) fnExactSuggestBriefs_row_tie rfl ⟨rfl, rfl⟩ (by kernel_rfl) rfl
    (fun f fn hf hfn => by
      obtain rfl : f = 8 := Option.some.inj ((show Tryz.prog.funcNamed "loop.example/g00882/laws.FnExactSuggestBriefs" = some 8 by kernel_rfl).symm.trans hf) |>.symm
      obtain rfl : fn = Tryz.f8 := (Option.some.inj (Tryz.func8.symm.trans hfn)).symm
      exact ⟨by kernel_rfl, fun j t ht => by
        rw [Tryz.params8] at ht
        rcases j with _ | j
        · obtain rfl : 60 = t := by simpa using ht
          exact (show Tryz.prog.wantsStandIn 60 = false by kernel_rfl)
        rcases j with _ | j
        · obtain rfl : 9 = t := by simpa using ht
          exact (show Tryz.prog.wantsStandIn 9 = false by kernel_rfl)
        rcases j with _ | j
        · obtain rfl : 3 = t := by simpa using ht
          exact (show Tryz.prog.wantsStandIn 3 = false by kernel_rfl)
        simp at ht⟩)
    (by kernel_rfl)
end Go.Proofs.YtchpdclknbmdoaaGreatDoor
