/- The abstract machine, part 14: what is asked of types, as a table. No conditions but those stated. -/
import Derived.Test.YtfebalahfhkeaaaAbsCallM2
namespace Go.Proofs.Ytfebalahfhkeaaa
open Go Go.RowKit

structure TyI where
  agg : Bool
  size : Nat
  zero : List Value
  elem : Option (Nat × Nat × Nat)            -- of a slice: the element's type, its cells, its bytes
  isStr : Bool
  isBool : Bool
  kind : Option IntKind
  fields : List (Option (Nat × Nat × Bool))  -- of a struct: offset, cells, is it a struct itself
  places : List (Nat × Nat)

def elemB (P : Program) (t : Nat) : Option (Nat × Nat × Nat) :=
  match P.underlying t with
  | some (.slice e) => match P.info? e with
    | some i => match i.zero with
      | some z => bif Nat.beq z.cells.size i.size && Nat.ble 1 i.size then some (e, i.size, i.bytes) else none
      | none => none
    | none => none
  | _ => none
def isStrB (P : Program) (t : Nat) : Bool :=
  match P.underlying t with
  | some .string => true
  | _ => false
def isBoolB (P : Program) (t : Nat) : Bool :=
  match P.underlying t with
  | some .bool => true
  | _ => false
def kindB (P : Program) (t : Nat) : Option IntKind :=
  match P.underlying t with
  | some (.int k) => some k
  | _ => none
def fieldsB (P : Program) (t : Nat) : List (Option (Nat × Nat × Bool)) :=
  match P.underlying t with
  | some (.struct fields) => fields.toList.map fun f => match P.info? f.type, P.underlying f.type with
    | some i, some d => some (f.offset, i.size, isAggD d)
    | _, _ => none
  | _ => []
def tyinfo (P : Program) (t : Nat) : Option TyI :=
  match P.underlying t, P.info? t with
  | some d, some i => match i.zero with
    | some z => some ⟨isAggD d, i.size, z.cells.toList, elemB P t, isStrB P t, isBoolB P t, kindB P t, fieldsB P t, (placesOf P t).getD []⟩
    | none => none
  | _, _ => none
/-- the table holds what the program says -/
structure TabOk (P : Program) (T : List (Nat × TyI)) : Prop where
  h : T.map (fun p => tyinfo P p.1) = T.map fun p => some p.2
theorem TabOk.at {P : Program} {T : List (Nat × TyI)} (h : TabOk P T) {t : Nat} {i : TyI} (hl : lk t T = some i) : tyinfo P t = some i := by
  have hm := lk_mem hl
  replace h := h.h
  rw [List.map_inj_left] at h
  exact h _ hm

section
variable {P : Program} {T : List (Nat × TyI)} {t : Nat} {i : TyI}
theorem tyinfo_parts (h : tyinfo P t = some i) : ∃ d ti z, P.underlying t = some d ∧ P.info? t = some ti ∧ ti.zero = some z ∧ isAggD d = i.agg ∧ ti.size = i.size ∧ z.cells.toList = i.zero ∧ elemB P t = i.elem ∧ isStrB P t = i.isStr ∧ isBoolB P t = i.isBool ∧ kindB P t = i.kind ∧ fieldsB P t = i.fields ∧ (placesOf P t).getD [] = i.places := by
  unfold tyinfo at h
  split at h
  · rename_i d ti h1 h2
    split at h
    · rename_i z h3
      simp only [Option.some.injEq] at h
      subst h
      exact ⟨d, ti, z, h1, h2, h3, rfl, rfl, rfl, rfl, rfl, rfl, rfl, rfl, rfl⟩
    · cases h
  · cases h
theorem TabOk.agg (h : TabOk P T) (hl : lk t T = some i) : tyAgg P t i.agg := by
  obtain ⟨d, ti, z, h1, h2, h3, h4, _⟩ := tyinfo_parts (h.at hl)
  exact ⟨d, h1, h4⟩
theorem TabOk.size (h : TabOk P T) (hl : lk t T = some i) : tySize P t i.size := by
  obtain ⟨d, ti, z, h1, h2, h3, h4, h5, _⟩ := tyinfo_parts (h.at hl)
  exact ⟨ti, h2, h5⟩
theorem TabOk.zero (h : TabOk P T) (hl : lk t T = some i) : tyZero P t i.zero := by
  obtain ⟨d, ti, z, h1, h2, h3, h4, h5, h6, _⟩ := tyinfo_parts (h.at hl)
  exact ⟨ti, z, h2, h3, h6⟩
theorem TabOk.elem {e sz bytes : Nat} (h : TabOk P T) (hl : lk t T = some i) (he : i.elem = some (e, sz, bytes)) : tyElem P t e sz bytes := by
  obtain ⟨d, ti, z, h1, h2, h3, h4, h5, h6, h7, _⟩ := tyinfo_parts (h.at hl)
  rw [he] at h7
  unfold elemB at h7
  split at h7
  · rename_i e' hu
    split at h7
    · rename_i j hj
      split at h7
      · rename_i z' hz
        rcases hb : (Nat.beq z'.cells.size j.size && Nat.ble 1 j.size) with _ | _
        · rw [hb] at h7; cases h7
        · rw [hb] at h7
          simp only [cond_true, Option.some.injEq, Prod.mk.injEq] at h7
          obtain ⟨rfl, rfl, rfl⟩ := h7
          simp only [Bool.and_eq_true] at hb
          exact ⟨j, z', hu, hj, hz, rfl, rfl, Nat.eq_of_beq_eq_true hb.1, Nat.le_of_ble_eq_true hb.2⟩
      · cases h7
    · cases h7
  · cases h7
theorem tyElem.under {e sz bytes : Nat} (h : tyElem P t e sz bytes) : P.underlying t = some (.slice e) := by obtain ⟨i, z, h1, _⟩ := h; exact h1
theorem tyElem.size {e sz bytes : Nat} (h : tyElem P t e sz bytes) : tySize P e sz := by obtain ⟨i, z, h1, h2, h3, h4, _⟩ := h; exact ⟨i, h2, h4⟩
theorem TabOk.str (h : TabOk P T) (hl : lk t T = some i) (hs : i.isStr = true) : P.underlying t = some .string := by
  obtain ⟨d, ti, z, h1, h2, h3, h4, h5, h6, h7, h8, _⟩ := tyinfo_parts (h.at hl)
  rw [hs] at h8
  unfold isStrB at h8
  split at h8
  · assumption
  · cases h8
theorem TabOk.bool (h : TabOk P T) (hl : lk t T = some i) (hs : i.isBool = true) : P.underlying t = some .bool := by
  obtain ⟨d, ti, z, h1, h2, h3, h4, h5, h6, h7, h8, h8b, _⟩ := tyinfo_parts (h.at hl)
  rw [hs] at h8b
  unfold isBoolB at h8b
  split at h8b
  · assumption
  · cases h8b
theorem TabOk.int {k : IntKind} (h : TabOk P T) (hl : lk t T = some i) (hs : i.kind = some k) : P.underlying t = some (.int k) := by
  obtain ⟨d, ti, z, h1, h2, h3, h4, h5, h6, h7, h8, h8b, h9, _⟩ := tyinfo_parts (h.at hl)
  rw [hs] at h9
  unfold kindB at h9
  split at h9
  · rename_i k' hu
    cases h9
    exact hu
  · cases h9
theorem TabOk.field {f off sz : Nat} {agg : Bool} (h : TabOk P T) (hl : lk t T = some i) (hf : i.fields[f]? = some (some (off, sz, agg))) : tyField P t f off sz agg := by
  obtain ⟨d, ti, z, h1, h2, h3, h4, h5, h6, h7, h8, h8b, h9, h10, h11⟩ := tyinfo_parts (h.at hl)
  unfold fieldsB at h10
  split at h10
  · rename_i fields hu'
    rw [← h10, List.getElem?_map] at hf
    cases hfd : fields.toList[f]? with
    | none => rw [hfd] at hf; cases hf
    | some fd =>
      rw [hfd] at hf
      simp only [Option.map_some, Option.some.injEq] at hf
      split at hf
      · rename_i j d' hj hd
        simp only [Option.some.injEq, Prod.mk.injEq] at hf
        obtain ⟨rfl, rfl, rfl⟩ := hf
        exact ⟨fields, fd, hu', by simpa using hfd, rfl, ⟨j, hj, rfl⟩, ⟨d', hd, rfl⟩⟩
      · cases hf
  · rw [← h10] at hf; simp at hf
theorem TabOk.places (h : TabOk P T) (hl : lk t T = some i) (hn : i.places ≠ []) : placesOf P t = some i.places := by
  obtain ⟨d, ti, z, h1, h2, h3, h4, h5, h6, h7, h8, h8b, h9, h10, h11⟩ := tyinfo_parts (h.at hl)
  cases hp : placesOf P t with
  | none => rw [hp] at h11; exact absurd h11.symm hn
  | some pl => rw [hp] at h11; rw [← h11]; rfl
end
end Go.Proofs.Ytfebalahfhkeaaa
