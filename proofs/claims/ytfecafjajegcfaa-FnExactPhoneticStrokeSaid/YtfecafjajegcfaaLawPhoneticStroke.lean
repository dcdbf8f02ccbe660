/- FnExactPhoneticStroke returns true for every argument, and each argument reads as before. No conditions. Printed by laws_num.py. -/
import Derived.Test.YtfecafjajegcfaaPhonetic2
import Derived.Test.YtfecafjajegcfaaOpen
namespace Go.Proofs.Ytfecafjajegcfaa
open Go.RowKit Go.ChangeShapes Go.WideShapes Go.ChangeAt Go.Deep
open Go.ChangeMaps (open_string shut_string)

set_option maxRecDepth 100000 in
set_option maxHeartbeats 4000000 in
theorem lawPhoneticStroke_any (s : ByteArray) (w : World)  :
    Calls Try.prog 8 #[.string s] w fun e w' => e = .returned (.bool true) ∧ Below w.heap.size w w' := by
  by_cases hc0 : (s.size : Int) ≤ 1048576
  case neg =>
    go_enter Try.func8, Try.ntmps8
    go_wp2
    go_ret
    exact ⟨rfl, by repeat (first | exact Below.refl _ _ | assumption | refine Below.alloc ?_ (by first | (simp; done) | (simp; omega) | omega) _ | refine Below.setCell ?_ (by first | (simp; done) | (simp; omega) | omega) _ | refine Below.drew ?_)⟩
  have t_0 := Lib.hid (Below.refl w.heap.size w)
  go_enter Try.func8, Try.ntmps8
  go_wp2_with fail
  refine (specPhoneticStroke_any s _ (by omega)).mono ?_
  rintro e w1 ⟨rfl, hb⟩
  have t_1 := Lib.hid (later_below t_0.out hb)
  have z_1 := hb.size
  clear hb t_0
  go_wp2_with fail
  refine (implPhoneticStroke_any s _ (by omega)).mono ?_
  rintro e w2 ⟨rfl, hb⟩
  have t_2 := Lib.hid (later_below t_1.out hb)
  have z_2 := hb.size
  clear hb t_1
  go_wp2
  go_ret
  exact ⟨rfl, t_2.out⟩

set_option maxRecDepth 100000 in
theorem lawPhoneticStroke_lifted (os : Os) (started : os.Started) (H : Type) (enc : TypeId × Value → H) :
    ReturnsInHanded {} Try.checked os 8 .any (Rows.fnExactPhoneticStrokeSpec.pre6 enc Try.prog Try.f8 Rows.fnExactPhoneticStrokeRow.domain false) (Rows.fnExactPhoneticStrokeSpec.post enc Try.prog Try.f8 false true false false) := by
  refine returnsInHanded_of_change (C := Try.checked) Try.own started (by kernel_rfl) Try.func8
    (ChangeSpec.witness6 (enc := enc) (C := Try.checked) false ⟨#[], #[.string ⟨#[]⟩], []⟩ 8 (by kernel_rfl) (by kernel_rfl) (by kernel_rfl) (by kernel_rfl)) ?_
  intro W base args ds gs before hval0 hW hcnd _
  have hval : ∀ (j : Nat) t v, Try.f8.params[j]? = some t → args[j]? = some v → Value.okWide Try.prog W .any base t v := hval0
  have hW' := hW
  obtain ⟨p, q, hA0, hV, rfl, hfz, hnd⟩ := hW
  have hA : DataW.TrodAll enc Try.prog W 0 (fun _ => true) true Try.f8.params.toList args.toList ds p := hA0
  rw [Try.params8] at hA hval
  obtain ⟨v0, d0, hargs, rfl, a0⟩ := trodAll_one hA
  obtain ⟨rfl, rfl⟩ := trodVars_none hV
  subst hargs
  have b0 := a0
  obtain ⟨s, rfl, _, _, hx0⟩ := open_string Try.underlying9 (hval 0 9 v0 rfl rfl) a0
  clear hA0 hval0
  simp only [List.append_nil] at hW'
  refine (lawPhoneticStroke_any s W ).mono fun e W' ⟨he, hw⟩ => ?_
  subst he
  exact ⟨_, rfl, post_of_below (pa := p) (pv := []) hW' (fun _ _ _ => trodAll_mk1 (shut_bool Try.underlying4 true)) (fun sp hsp => trodAll_mk1 (stays Try.laidOut (by kernel_rfl) (of_decide_eq_true (by kernel_rfl)) b0 hw (fun x hx => hW'.lt x (by simp [hx])) (fun x hx => hsp x (by simp [hx])))) (fun _ _ => rfl) (by simp) hw (ok_one (by kernel_rfl) rfl (okWide_bool_mk Try.underlying4 true))⟩
theorem lawPhoneticStroke_holds : Rows.FnExactPhoneticStrokeSaid :=
  OpenClaim.holds_of_wide 8 Try.f8 rfl rfl rfl rfl rfl rfl rfl ⟨rfl, rfl, rfl, rfl, rfl⟩ rfl rfl rfl rfl rfl (by kernel_rfl) Try.func8 (by kernel_rfl)
    (of_decide_eq_true (by kernel_rfl)) (by unfold Func.isWrapper; first | (rw [if_pos (by decide +kernel)]; kernel_rfl) | (rw [if_neg (by decide +kernel)]; exact ⟨rfl, rfl⟩))
    (fun os started H enc _ => lawPhoneticStroke_lifted os started H enc)

end Go.Proofs.Ytfecafjajegcfaa
