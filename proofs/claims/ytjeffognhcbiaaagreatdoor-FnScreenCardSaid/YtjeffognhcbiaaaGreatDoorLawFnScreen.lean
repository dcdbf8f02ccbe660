/- FnScreen returns true for every argument, and each argument reads as before. No conditions. Printed by gen_law2.py. -/
import Derived.Test.YtjeffognhcbiaaaGreatDoorScL
import Derived.Test.YtjeffognhcbiaaaGreatDoorLaidU
import Derived.Test.YtjeffognhcbiaaaGreatDoorTie
import Derived.Test.YtjeffognhcbiaaaGreatDoorCards
import Derived.SevenTiedAt
import Derived.Test.YtjeffognhcbiaaaGreatDoorWdAB
namespace Go.Proofs.YtjeffognhcbiaaaGreatDoor
open Go Go.RowKit Go.ChangeShapes Go.WideShapes Go.ChangeAt Go.Deep
open Go.ChangeMaps (open_string shut_string)

set_option maxRecDepth 100000 in
theorem lawFnScreen_lifted (os : Os) (started : os.Started) (H : Type) (enc : TypeId × Value → H) :
    ReturnsInHanded {} Tryz.checked os 4 .any (fun w args => (Rows.fnScreenSpec.pre enc Tryz.prog Tryz.f4 Rows.fnScreenRow.domain false w args ∧ laidMet Tryz.prog Rows.fnScreenRow.laid w) ∧ sizedMet enc Tryz.prog Tryz.f4 (OpenSpec.ofChange Rows.fnScreenSpec) false w args) (Rows.fnScreenSpec.post enc Tryz.prog Tryz.f4 false true false false) := by
  refine handed_laid (C := Tryz.checked) (X := fun w _ => laidMet Tryz.prog Rows.fnScreenRow.laid w) (fun _ _ _ hh h => h.of_heap hh) Tryz.own started (by kernel_rfl) Tryz.func4
    (ChangeSpec.witness_at (enc := enc) (C := Tryz.checked) (os := os) (X := fun w _ => laidMet Tryz.prog Rows.fnScreenRow.laid w) false (laidWorldU os) #[.slice none 0 0] 8 rfl (by kernel_rfl) (by kernel_rfl) (by kernel_rfl) (by kernel_rfl) (by kernel_rfl) (laidWorldU_met os _)) ?_
  intro W base args ds gs before hval0 hW hcnd hsh hL
  have hval : ∀ (j : Nat) t v, Tryz.f4.params[j]? = some t → args[j]? = some v → Value.okWide Tryz.prog W .any base t v := hval0
  have hW' := hW
  obtain ⟨p, q, hA0, hV, rfl, hfz, hnd⟩ := hW
  have hA : DataW.TrodAll enc Tryz.prog W 0 (fun _ => true) true Tryz.f4.params.toList args.toList ds p := hA0
  rw [Tryz.params4] at hA hval
  obtain ⟨v0, d0, hargs, rfl, a0⟩ := trodAll_one hA
  obtain ⟨rfl, rfl⟩ := trodVars_none hV
  subst hargs
  obtain ⟨_, ⟨code, rfl, hcode⟩, r0⟩ := reads_arg (reads_Bytes _) a0
  have R0 := arg_slice (β := fun _ => none) Tryz.underlying48 (hval 0 48 v0 rfl rfl) r0
  clear hA0 hval0
  simp only [List.append_nil] at hW'
  refine (law_of_pf (lawScreen_pf code hcode) [v0] (.cons R0 .nil) (laidU_gi hsh)).mono fun e W' ⟨he, hw⟩ => ?_
  subst he
  exact ⟨_, rfl, post_of_below (pa := p) (pv := []) hW' (fun _ _ _ => trodAll_mk1 (shut_bool Tryz.underlying4 true)) (fun sp hsp => trodAll_mk1 (stays Tryz.laidOut (by kernel_rfl) (of_decide_eq_true (by kernel_rfl)) a0 hw (fun x hx => hW'.lt x (by simp [hx])) (fun x hx => hsp x (by simp [hx])))) (fun _ _ => rfl) (by simp) hw (ok_one (by kernel_rfl) rfl (okWide_bool_mk Tryz.underlying4 true))⟩
theorem lawFnScreen_holds : Rows.FnScreenSaid :=
  OpenClaim.holds_of_wide 4 Tryz.f4 rfl rfl rfl rfl rfl rfl rfl ⟨rfl, rfl, rfl, rfl, rfl⟩ rfl rfl rfl rfl rfl (by kernel_rfl) Tryz.func4 (by kernel_rfl)
    (of_decide_eq_true (by kernel_rfl)) (by unfold Func.isWrapper; first | (rw [if_pos (by decide +kernel)]; kernel_rfl) | (rw [if_neg (by decide +kernel)]; exact ⟨rfl, rfl⟩))
    (fun os started H enc _ => lawFnScreen_lifted os started H enc)
theorem lawFnScreen_card : Rows.FnScreenCardSaid :=
  Claim7.holds_tied_plain_at .later [] [.data, .pinned] true (true, "8d60e17fd512f0cd68e45ca0486683e0f812d1b2cdefdeaaf43f6284bc731564") false
    lawFnScreen_holds (fun _ h => by cases h) (by kernel_rfl) (fun _ h => by cases h) fnScreen_row_tie rfl ⟨rfl, rfl⟩ (by kernel_rfl) rfl
    (fun f fn hf hfn => by
      obtain rfl : f = 4 := Option.some.inj ((show Tryz.prog.funcNamed "loop.example/g00882/laws.FnScreen" = some 4 by kernel_rfl).symm.trans hf) |>.symm
      obtain rfl : fn = Tryz.f4 := (Option.some.inj (Tryz.func4.symm.trans hfn)).symm
      exact ⟨by kernel_rfl, fun j t ht => by
        rw [Tryz.params4] at ht
        rcases j with _ | j
        · obtain rfl : 48 = t := by simpa using ht
          exact (show Tryz.prog.wantsStandIn 48 = false by kernel_rfl)
        simp at ht⟩)
    (by kernel_rfl)
end Go.Proofs.YtjeffognhcbiaaaGreatDoor
