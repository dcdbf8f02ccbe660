/- From the form's reading of an argument to the words of Mem: a slice that is read gives its list. No conditions but those stated. -/
import Derived.Test.YtfebalahfhkeaaaMem
import Derived.ProofKit
import Derived.Deep.Slices
namespace Go.Proofs.Ytfebalahfhkeaaa
open Go.RowKit Go.ChangeShapes Go.WideShapes Go.Deep

section
variable {H : Type} {enc : TypeId × Value → H} {P : Program} {w : World} {base : Nat} {spare : Nat → Bool} {held : Bool}
theorem add_lit (b o i : Nat) : (⟨b, o, none⟩ : Addr).add i = ⟨b, o + i, none⟩ := by unfold Addr.add; split <;> simp_all
theorem add_off (a : Addr) (i : Nat) (hi : 0 < i) : a.add i = ⟨a.block, a.off + i, none⟩ := by unfold Addr.add; rw [if_neg (by omega)]
theorem spot_none {a : Addr} {v : Value} (h : w.cell? (a.add 0) = some v) : a = ⟨a.block, a.off, none⟩ := by
  have h0 : a.add 0 = a := by unfold Addr.add; simp
  rw [h0] at h
  obtain ⟨b, o, s⟩ := a
  cases s with
  | none => rfl
  | some s =>
    unfold World.cell? at h
    split at h <;> simp at h
/-- the elements of a slice that was read, as a list -/
theorem open_list {α : Type} (encE : α → List Value) (size : Nat) (hpos : 0 < size) {t e : TypeId} {fuel : Nat} {cs : List Value} {x : DataW H × List MemPlace} (ht : P.underlying t = some (.slice e)) (hC : P.cellsOf e = size)
    (hel : ∀ n cs x, DataW.trod enc P w base spare held n e cs = some x → ∃ y, cs = encE y) (h : DataW.trod enc P w base spare held fuel t cs = some x) :
    ∃ (A : Option Addr) (c : Nat) (xs : List α), cs = [.slice A xs.length c] ∧ xs.length ≤ maxLen ∧ Rd encE size w w.heap.size A xs := by
  rcases open_slice ht h with ⟨rfl, _⟩ | ⟨a, len, cap, m, n, D, Pl, rfl, hb, hl, hm, hmm, _, hi⟩
  · exact ⟨none, 0, [], rfl, Nat.zero_le _, Rd.nil⟩
  · have hlm : len ≤ m := by rw [hmm]; split <;> omega
    rw [hC] at hi
    have key : ∀ k, k ≤ len → ∃ ys : List α, ys.length = k ∧ ∀ i y, ys[i]? = some y → w.cells? base (a.add (i * size)) size = some (encE y) := by
      intro k
      induction k with
      | zero => exact fun _ => ⟨[], rfl, fun i y h => by simp at h⟩
      | succ k ih =>
        intro hk
        obtain ⟨ys, hys, hyc⟩ := ih (by omega)
        obtain ⟨cs', hc, ht'⟩ := hi k (by omega)
        obtain ⟨y, rfl⟩ := hel _ _ _ ht'
        refine ⟨ys ++ [y], by simp [hys], fun i z hz => ?_⟩
        rcases Nat.lt_or_ge i k with hik | hik
        · rw [List.getElem?_append_left (by omega)] at hz
          exact hyc i z hz
        · rw [List.getElem?_append_right (by omega)] at hz
          have hi0 : i - ys.length = 0 := by
            rcases Nat.eq_zero_or_pos (i - ys.length) with h0 | h0
            · exact h0
            · rw [List.getElem?_eq_none (by simp; omega)] at hz; cases hz
          rw [hi0] at hz
          simp only [List.getElem?_cons_zero, Option.some.injEq] at hz
          obtain rfl : i = k := by omega
          rw [← hz]
          exact hc
    obtain ⟨ys, hys, hyc⟩ := key len (Nat.le_refl _)
    refine ⟨some a, cap, ys, by rw [hys], by omega, fun k y hy => ?_⟩
    have h0 : ∃ v, w.cell? (a.add 0) = some v := by
      have hlen : 0 < ys.length := by have := (List.getElem?_eq_some_iff.1 hy).1; omega
      obtain ⟨_, hln, hat⟩ := World.cells?_some (hyc 0 ys[0] (List.getElem?_eq_getElem hlen))
      have := hat 0 hpos
      rw [Nat.zero_mul] at this
      have h00 : (a.add 0).add 0 = a.add 0 := by unfold Addr.add; simp
      rw [h00] at this
      exact ⟨_, this.trans (List.getElem?_eq_getElem (by omega))⟩
    obtain ⟨v, hv⟩ := h0
    have ha := spot_none hv
    have hb' : a.block < w.heap.size := by
      have := block_lt_of_cell hv
      have h00 : a.add 0 = a := by unfold Addr.add; simp
      rwa [h00] at this
    obtain ⟨_, hln, hat⟩ := World.cells?_some (hyc k y hy)
    refine ⟨a.block, a.off, by rw [← ha], hb', fun j u hu => ?_⟩
    have hj : j < size := by rw [← hln]; exact (List.getElem?_eq_some_iff.1 hu).1
    have := hat j hj
    rw [ha, add_lit, add_lit] at this
    rw [← hu]
    exact this
end

/-! ## The row's last step where the call makes memory and keeps all that was there -/
section
variable {H : Type} {enc : TypeId × Value → H} {P : Program}
theorem post_of_below {f : Func} {s : ChangeSpec} {apart fresh handsOn again : Bool} {W W' : World} {args : Array Value} {v : Value} {ds gs : List (DataW H)} {before pa pv : List MemPlace}
    (hW : DataW.Whole enc P f.params.toList s.vars apart W args.toList ds gs before)
    (hres : ∀ (b : Nat) (sp : Nat → Bool) (hd : Bool), DataW.TrodAll enc P W' b sp hd f.resultTypes.toList (v.resultList f.resultTypes.size) (s.fn H (ds ++ gs)).results [])
    (hargs : ∀ sp : Nat → Bool, (∀ p ∈ before, sp p.block = true) → DataW.TrodAll enc P W' 0 sp true f.params.toList args.toList (s.fn H (ds ++ gs)).args pa)
    (hvars : ∀ sp : Nat → Bool, (∀ p ∈ before, sp p.block = true) → DataW.TrodVars enc P W' sp s.vars (s.fn H (ds ++ gs)).vars pv)
    (hps : before = pa ++ pv) (hb : Below W.heap.size W W')
    (hok : ∀ (j : Nat) (t : TypeId) (r : Value), f.resultTypes[j]? = some t → (v.resultList f.resultTypes.size)[j]? = some r → Value.okWide P W' .any 0 t r) :
    s.post enc P f apart fresh handsOn again W args v W' := by
  have hlt : ∀ p ∈ before, p.block < W.heap.size := fun p hp => hW.lt p hp
  have hold : ∀ p ∈ before, (fun b => decide (b < W.heap.size)) p.block = true := fun p hp => by simpa using hlt p hp
  refine ⟨ds, gs, before, [], pa, pv, hW, hres _ _ _, hargs _ hold, hvars _ hold, World.keptBut_mono (fun p hp => ⟨hp, ?_⟩) (hb.frame (· ∈ before)), fun _ => ?_⟩
  · rw [hps, List.mem_append] at hp
    exact Or.inr hp
  · obtain ⟨_, _, _, _, _, hz, hn⟩ := hW
    refine ⟨hok, _, _, ([] ++ pa) ++ pv, ⟨[] ++ pa, pv, trodAll_append (hargs _ (fun _ _ => rfl)) (hres _ _ _), hvars _ (fun _ _ => rfl), rfl, ?_, ?_⟩, ?_⟩
    · intro b off hp
      have hin : MemPlace.cell b off ∈ before := by rw [hps]; simpa using hp
      rw [hb.frozen (hlt _ hin)]
      exact hz b off hin
    · intro ha
      have := hn ha
      rw [hps] at this
      simpa using this
    · intro p hp _
      rw [hps]
      simpa using hp
end
/-- an argument reads behind the call as it did before -/
theorem stays {H : Type} {enc : TypeId × Value → H} {P : Program} {t : TypeId} (hl : laidOutB P = true) (hr : P.readableRec t = true) (hrow : t < P.types.size) {W W' : World} {v : Value} {d : DataW H} {ps : List MemPlace} {sp : Nat → Bool}
    (h : DataW.Trod enc P W 0 (fun _ => true) true t v d ps) (hb : Below W.heap.size W W') (hlt : ∀ x ∈ ps, x.block < W.heap.size) (hsp : ∀ x ∈ ps, sp x.block = true) : DataW.Trod enc P W' 0 sp true t v d ps :=
  WideElems.Trod_stays hl hr hrow h (fun x hx => hb.same (hlt x hx)) hsp
theorem list2 {l : List Value} (h : l.length = 2) : ∃ a b, l = [a, b] := by
  match l, h with
  | [a, b], _ => exact ⟨a, b, rfl⟩
theorem list3 {l : List Value} (h : l.length = 3) : ∃ a b c, l = [a, b, c] := by
  match l, h with
  | [a, b, c], _ => exact ⟨a, b, c, rfl⟩
theorem arr1 {cs : Array Value} (h : cs.size = 1) : ∃ x, cs = #[x] := by
  obtain ⟨l⟩ := cs
  match l, h with
  | [x], _ => exact ⟨x, rfl⟩
theorem Own.rdm {α : Type} {enc : α → List Value} {size : Nat} {w : World} {base : Nat} {e : TypeId} {A : Option Addr} {n c : Nat} {m : Nat → α} {F k : Nat} (h : Own enc size w base e (.slice A n c) (marks m F k n)) (hz : 0 < size) (hs : ∀ x, (enc x).length = size) : Rd enc size w w.heap.size A (marks m F k n) := by
  unfold Own at h
  rw [marks_len] at h
  exact Rd.of_own hz hs h (Nat.le_refl _)
theorem Try.own : ownKnob Try.prog.godebug = none := by kernel_rfl
theorem Try.laidOut : laidOutB Try.prog = true := by kernel_rfl
end Go.Proofs.Ytfebalahfhkeaaa
