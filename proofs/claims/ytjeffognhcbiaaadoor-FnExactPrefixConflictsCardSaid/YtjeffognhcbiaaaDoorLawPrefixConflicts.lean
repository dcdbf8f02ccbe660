/- FnExactPrefixConflicts returns true for every argument, and each argument reads as before. No conditions. Printed by gen_law2.py. -/
import Derived.Test.YtjeffognhcbiaaaDoorNsJ
import Derived.Test.YtjeffognhcbiaaaDoorLaidU
import Derived.Test.YtjeffognhcbiaaaDoorTie
import Derived.Test.YtjeffognhcbiaaaDoorCards
import Derived.SevenTiedAt
import Derived.Test.YtjeffognhcbiaaaDoorDvE
namespace Go.Proofs.YtjeffognhcbiaaaDoor
open Go Go.RowKit Go.ChangeShapes Go.WideShapes Go.ChangeAt Go.Deep
open Go.ChangeMaps (open_string shut_string)

set_option maxRecDepth 100000 in
theorem lawPrefixConflicts_lifted (os : Os) (started : os.Started) (H : Type) (enc : TypeId × Value → H) :
    ReturnsInHanded {} Tryd.checked os 4 .any (fun w args => (Rows.fnExactPrefixConflictsSpec.pre enc Tryd.prog Tryd.f4 Rows.fnExactPrefixConflictsRow.domain false w args ∧ laidMet Tryd.prog Rows.fnExactPrefixConflictsRow.laid w) ∧ sizedMet enc Tryd.prog Tryd.f4 (OpenSpec.ofChange Rows.fnExactPrefixConflictsSpec) false w args) (Rows.fnExactPrefixConflictsSpec.post enc Tryd.prog Tryd.f4 false true false false) := by
  refine handed_laid (C := Tryd.checked) (X := fun w _ => laidMet Tryd.prog Rows.fnExactPrefixConflictsRow.laid w) (fun _ _ _ hh h => h.of_heap hh) Tryd.own started (by kernel_rfl) Tryd.func4
    (ChangeSpec.witness_at (enc := enc) (C := Tryd.checked) (os := os) (X := fun w _ => laidMet Tryd.prog Rows.fnExactPrefixConflictsRow.laid w) false (laidWorldU os) #[.agg #[.slice none 0 0], .slice none 0 0] 8 rfl (by kernel_rfl) (by kernel_rfl) (by kernel_rfl) (by kernel_rfl) (by kernel_rfl) (laidWorldU_met os _)) ?_
  intro W base args ds gs before hval0 hW hcnd hsh hL
  have hval : ∀ (j : Nat) t v, Tryd.f4.params[j]? = some t → args[j]? = some v → Value.okWide Tryd.prog W .any base t v := hval0
  have hW' := hW
  obtain ⟨p, q, hA0, hV, rfl, hfz, hnd⟩ := hW
  have hA : DataW.TrodAll enc Tryd.prog W 0 (fun _ => true) true Tryd.f4.params.toList args.toList ds p := hA0
  rw [Tryd.params4] at hA hval
  obtain ⟨v0, v1, d0, d1, p0, p1, hargs, rfl, rfl, a0, a1⟩ := trodAll_two hA
  obtain ⟨rfl, rfl⟩ := trodVars_none hV
  subst hargs
  obtain ⟨_, ⟨es, rfl, hes⟩, r0⟩ := reads_arg (reads_Dict _) a0
  have R0 := arg_agg (β := fun _ => none) Tryd.underlying24 (hval 0 24 v0 rfl rfl) r0
  obtain ⟨_, ⟨o, rfl, ho⟩, r1⟩ := reads_arg (reads_Ints _) a1
  have R1 := arg_slice (β := fun _ => none) Tryd.underlying26 (hval 1 26 v1 rfl rfl) r1
  clear hA0 hval0
  simp only [List.append_nil] at hW'
  refine (lawPc_run es o hes ho [v0, v1] (.cons R0 (.cons R1 .nil)) (laidU_gi hsh)).mono fun e W' ⟨he, hw⟩ => ?_
  subst he
  exact ⟨_, rfl, post_of_below (pa := p0 ++ (p1)) (pv := []) hW' (fun _ _ _ => trodAll_mk1 (shut_bool Tryd.underlying4 true)) (fun sp hsp => trodAll_mk2 (stays Tryd.laidOut (by kernel_rfl) (of_decide_eq_true (by kernel_rfl)) a0 hw (fun x hx => hW'.lt x (by simp [hx])) (fun x hx => hsp x (by simp [hx]))) (stays Tryd.laidOut (by kernel_rfl) (of_decide_eq_true (by kernel_rfl)) a1 hw (fun x hx => hW'.lt x (by simp [hx])) (fun x hx => hsp x (by simp [hx])))) (fun _ _ => rfl) (by simp) hw (ok_one (by kernel_rfl) rfl (okWide_bool_mk Tryd.underlying4 true))⟩
theorem lawPrefixConflicts_holds : Rows.FnExactPrefixConflictsSaid :=
  OpenClaim.holds_of_wide 4 Tryd.f4 rfl rfl rfl rfl rfl rfl rfl ⟨rfl, rfl, rfl, rfl, rfl⟩ rfl rfl rfl rfl rfl (by kernel_rfl) Tryd.func4 (by kernel_rfl)
    (of_decide_eq_true (by kernel_rfl)) (by unfold Func.isWrapper; first | (rw [if_pos (by decide +kernel)]; kernel_rfl) | (rw [if_neg (by decide +kernel)]; exact ⟨rfl, rfl⟩))
    (fun os started H enc _ => lawPrefixConflicts_lifted os started H enc)
theorem lawPrefixConflicts_card : Rows.FnExactPrefixConflictsCardSaid :=
  Claim7.holds_tied_plain_at .later [] [.data, .pinned] true (true, "a1571c5fc9bb5f14c20b7e7ed6ad962ea4316b6d672629e6e9c074ae53b488fd") false
    lawPrefixConflicts_holds (fun _ h => by cases h) (by kernel_rfl) (fun _ h => by cases h) fnExactPrefixConflicts_row_tie rfl ⟨rfl, rfl⟩ (by kernel_rfl) rfl
    (fun f fn hf hfn => by
      obtain rfl : f = 4 := Option.some.inj ((show Tryd.prog.funcNamed "loop.example/g00882/laws.FnExactPrefixConflicts" = some 4 by kernel_rfl).symm.trans hf) |>.symm
      obtain rfl : fn = Tryd.f4 := (Option.some.inj (Tryd.func4.symm.trans hfn)).symm
      exact ⟨by kernel_rfl, fun j t ht => by
        rw [Tryd.params4] at ht
        rcases j with _ | j
        · obtain rfl : 24 = t := by simpa using ht
          exact (show Tryd.prog.wantsStandIn 24 = false by kernel_rfl)
        rcases j with _ | j
        · obtain rfl : 26 = t := by simpa using ht
          exact (show Tryd.prog.wantsStandIn 26 = false by kernel_rfl)
        simp at ht⟩)
    (by kernel_rfl)
end Go.Proofs.YtjeffognhcbiaaaDoor
