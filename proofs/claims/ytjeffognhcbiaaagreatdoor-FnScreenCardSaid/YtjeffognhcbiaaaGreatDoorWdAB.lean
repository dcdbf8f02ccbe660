/- What a readable slice of bytes looks like. No conditions. -/
import Derived.Test.YtjeffognhcbiaaaGreatDoorAbs3
import Derived.Test.YtjeffognhcbiaaaGreatDoorAbsRead
namespace Go.Proofs.YtjeffognhcbiaaaGreatDoor
open Go Go.RowKit Go.ChangeShapes Go.WideShapes Go.ChangeAt Go.Deep
theorem reads_u8 {P : Program} {w : World} {t : TypeId} (ht : P.underlying t = some (.int .u8)) : Reads P w t (fun cs => ∃ b : UInt8, cs = wY b ∧ True) := fun H enc b s d f cs x hx => by
  obtain ⟨n, rfl, _, hw⟩ := DataW.trod_int ht hx
  have e1 : IntKind.u8.min = 0 := by decide
  have e2 : IntKind.u8.max = 255 := by decide
  have h : IntKind.u8.min ≤ n ∧ n ≤ IntKind.u8.max := by simpa [Lit.wf] using hw
  rw [e1, e2] at h
  have e : ((UInt8.ofNat n.toNat).toNat : Int) = n := by
    rw [UInt8.toNat_ofNat']
    omega
  refine ⟨wY (UInt8.ofNat n.toNat), ⟨_, rfl, trivial⟩, ?_⟩
  rw [wY, e]
  exact .cons (.v _ rfl) .nil
theorem reads_Bytes (w : World) : Reads Tryz.prog w 48 (fun cells => ∃ l : List UInt8, cells = [.sl (l.map wY)] ∧ l.length ≤ 9223372036854775807) := by
  refine (reads_slice Tryz.underlying48 (of_decide_eq_true (by kernel_rfl)) (reads_u8 Tryz.underlying5)).mono ?_
  rintro cells ⟨xs, rfl, hl, hx⟩
  obtain ⟨ws, rfl, hws⟩ := lift_list (enc := wY) hx
  exact ⟨ws, rfl, by simpa using hl⟩
end Go.Proofs.YtjeffognhcbiaaaGreatDoor
