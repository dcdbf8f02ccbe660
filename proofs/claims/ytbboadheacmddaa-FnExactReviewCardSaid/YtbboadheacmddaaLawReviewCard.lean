/- FnExactReviewCard returns true for every argument, and each argument reads as before. No conditions. Printed by gen_law2.py. -/
import Derived.Test.YtbboadheacmddaaDkX
import Derived.Test.YtbboadheacmddaaDkZ
namespace Go.Proofs.Ytbboadheacmddaa
open Go Go.RowKit Go.ChangeShapes Go.WideShapes Go.ChangeAt Go.Deep
open Go.ChangeMaps (open_string shut_string)

set_option maxRecDepth 100000 in
theorem lawReviewCard_lifted (os : Os) (started : os.Started) (H : Type) (enc : TypeId × Value → H) :
    ReturnsInHanded {} Try.checked os 6 .any (Rows.fnExactReviewCardSpec.pre6 enc Try.prog Try.f6 Rows.fnExactReviewCardRow.domain false) (Rows.fnExactReviewCardSpec.post enc Try.prog Try.f6 false true false false) := by
  refine returnsInHanded_of_change (C := Try.checked) Try.own started (by kernel_rfl) Try.func6
    (ChangeSpec.witness6 (enc := enc) (C := Try.checked) false ⟨#[], #[.agg #[.slice none 0 0], .int .i64 0, .int .i64 0, .bool false], []⟩ 8 (by kernel_rfl) (by kernel_rfl) (by kernel_rfl) (by kernel_rfl)) ?_
  intro W base args ds gs before hval0 hW hcnd _
  have hval : ∀ (j : Nat) t v, Try.f6.params[j]? = some t → args[j]? = some v → Value.okWide Try.prog W .any base t v := hval0
  have hW' := hW
  obtain ⟨p, q, hA0, hV, rfl, hfz, hnd⟩ := hW
  have hA : DataW.TrodAll enc Try.prog W 0 (fun _ => true) true Try.f6.params.toList args.toList ds p := hA0
  rw [Try.params6] at hA hval
  obtain ⟨v0, v1, v2, v3, d0, d1, d2, d3, p0, p1, p2, p3, hargs, rfl, rfl, a0, a1, a2, a3⟩ := trodAll_four hA
  obtain ⟨rfl, rfl⟩ := trodVars_none hV
  subst hargs
  obtain ⟨_, ⟨cs, rfl, hcs⟩, r0⟩ := reads_arg (reads_Deck _) a0
  have R0 := arg_agg (β := fun _ => none) Try.underlying24 (hval 0 24 v0 rfl rfl) r0
  obtain ⟨_, ⟨i, rfl, _, _⟩, r1⟩ := reads_arg (reads_int Try.underlying3) a1
  have R1 := arg_int (β := fun _ => none) Try.underlying3 (hval 1 3 v1 rfl rfl) r1
  obtain ⟨_, ⟨t, rfl, _, _⟩, r2⟩ := reads_arg (reads_int Try.underlying3) a2
  have R2 := arg_int (β := fun _ => none) Try.underlying3 (hval 2 3 v2 rfl rfl) r2
  obtain ⟨_, ⟨b, rfl⟩, r3⟩ := reads_arg (reads_bool Try.underlying4) a3
  have R3 := arg_bool (β := fun _ => none) Try.underlying4 (hval 3 4 v3 rfl rfl) r3
  clear hA0 hval0
  simp only [List.append_nil] at hW'
  refine (law_of_pf (lawReviewCard_pf cs i t b hcs) [v0, v1, v2, v3] (.cons R0 (.cons R1 (.cons R2 (.cons R3 .nil))))).mono fun e W' ⟨he, hw⟩ => ?_
  subst he
  exact ⟨_, rfl, post_of_below (pa := p0 ++ (p1 ++ (p2 ++ (p3)))) (pv := []) hW' (fun _ _ _ => trodAll_mk1 (shut_bool Try.underlying4 true)) (fun sp hsp => trodAll_mk4 (stays Try.laidOut (by kernel_rfl) (of_decide_eq_true (by kernel_rfl)) a0 hw (fun x hx => hW'.lt x (by simp [hx])) (fun x hx => hsp x (by simp [hx]))) (stays Try.laidOut (by kernel_rfl) (of_decide_eq_true (by kernel_rfl)) a1 hw (fun x hx => hW'.lt x (by simp [hx])) (fun x hx => hsp x (by simp [hx]))) (stays Try.laidOut (by kernel_rfl) (of_decide_eq_true (by kernel_rfl)) a2 hw (fun x hx => hW'.lt x (by simp [hx])) (fun x hx => hsp x (by simp [hx]))) (stays Try.laidOut (by kernel_rfl) (of_decide_eq_true (by kernel_rfl)) a3 hw (fun x hx => hW'.lt x (by simp [hx])) (fun x hx => hsp x (by simp [hx])))) (fun _ _ => rfl) (by simp) hw (ok_one (by kernel_rfl) rfl (okWide_bool_mk Try.underlying4 true))⟩
theorem lawReviewCard_holds : Rows.FnExactReviewCardSaid :=
  OpenClaim.holds_of_wide 6 Try.f6 rfl rfl rfl rfl rfl rfl rfl ⟨rfl, rfl, rfl, rfl, rfl⟩ rfl rfl rfl rfl rfl (by kernel_rfl) Try.func6 (by kernel_rfl)
    (of_decide_eq_true (by kernel_rfl)) (by unfold Func.isWrapper; first | (rw [if_pos (by decide +kernel)]; kernel_rfl) | (rw [if_neg (by decide +kernel)]; exact ⟨rfl, rfl⟩))
    (fun os started H enc _ => lawReviewCard_lifted os started H enc)
end Go.Proofs.Ytbboadheacmddaa
