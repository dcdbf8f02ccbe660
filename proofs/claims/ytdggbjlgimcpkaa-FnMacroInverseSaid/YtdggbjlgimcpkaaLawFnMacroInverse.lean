/- FnMacroInverse returns true for every argument, and each argument reads as before. No conditions. Printed by gen_law2.py. -/
import Derived.Test.YtdggbjlgimcpkaaTpP
import Derived.Test.YtdggbjlgimcpkaaWdAB
namespace Go.Proofs.Ytdggbjlgimcpkaa
open Go Go.RowKit Go.ChangeShapes Go.WideShapes Go.ChangeAt Go.Deep
open Go.ChangeMaps (open_string shut_string)

set_option maxRecDepth 100000 in
theorem lawFnMacroInverse_lifted (os : Os) (started : os.Started) (H : Type) (enc : TypeId × Value → H) :
    ReturnsInHanded {} Try.checked os 10 .any (Rows.fnMacroInverseSpec.pre6 enc Try.prog Try.f10 Rows.fnMacroInverseRow.domain false) (Rows.fnMacroInverseSpec.post enc Try.prog Try.f10 false true false false) := by
  refine returnsInHanded_of_change (C := Try.checked) Try.own started (by kernel_rfl) Try.func10
    (ChangeSpec.witness6 (enc := enc) (C := Try.checked) false ⟨#[], #[.slice none 0 0], []⟩ 8 (by kernel_rfl) (by kernel_rfl) (by kernel_rfl) (by kernel_rfl)) ?_
  intro W base args ds gs before hval0 hW hcnd _
  have hval : ∀ (j : Nat) t v, Try.f10.params[j]? = some t → args[j]? = some v → Value.okWide Try.prog W .any base t v := hval0
  have hW' := hW
  obtain ⟨p, q, hA0, hV, rfl, hfz, hnd⟩ := hW
  have hA : DataW.TrodAll enc Try.prog W 0 (fun _ => true) true Try.f10.params.toList args.toList ds p := hA0
  rw [Try.params10] at hA hval
  obtain ⟨v0, d0, hargs, rfl, a0⟩ := trodAll_one hA
  obtain ⟨rfl, rfl⟩ := trodVars_none hV
  subst hargs
  obtain ⟨_, ⟨code, rfl, hcode⟩, r0⟩ := reads_arg (reads_Bytes _) a0
  have R0 := arg_slice (β := fun _ => none) Try.underlying46 (hval 0 46 v0 rfl rfl) r0
  clear hA0 hval0
  simp only [List.append_nil] at hW'
  refine (law_of_pf (lawMacroInverse_pf code hcode) [v0] (.cons R0 .nil) (GI.none _ _ rfl)).mono fun e W' ⟨he, hw⟩ => ?_
  subst he
  exact ⟨_, rfl, post_of_below (pa := p) (pv := []) hW' (fun _ _ _ => trodAll_mk1 (shut_bool Try.underlying4 true)) (fun sp hsp => trodAll_mk1 (stays Try.laidOut (by kernel_rfl) (of_decide_eq_true (by kernel_rfl)) a0 hw (fun x hx => hW'.lt x (by simp [hx])) (fun x hx => hsp x (by simp [hx])))) (fun _ _ => rfl) (by simp) hw (ok_one (by kernel_rfl) rfl (okWide_bool_mk Try.underlying4 true))⟩
theorem lawFnMacroInverse_holds : Rows.FnMacroInverseSaid :=
  OpenClaim.holds_of_wide 10 Try.f10 rfl rfl rfl rfl rfl rfl rfl ⟨rfl, rfl, rfl, rfl, rfl⟩ rfl rfl rfl rfl rfl (by kernel_rfl) Try.func10 (by kernel_rfl)
    (of_decide_eq_true (by kernel_rfl)) (by unfold Func.isWrapper; first | (rw [if_pos (by decide +kernel)]; kernel_rfl) | (rw [if_neg (by decide +kernel)]; exact ⟨rfl, rfl⟩))
    (fun os started H enc _ => lawFnMacroInverse_lifted os started H enc)
end Go.Proofs.Ytdggbjlgimcpkaa
