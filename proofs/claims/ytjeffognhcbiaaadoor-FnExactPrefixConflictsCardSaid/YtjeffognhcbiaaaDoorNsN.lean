/- Lists of lists of integers, each in a block of its own: read, pushed to, marked. -/
import Derived.Test.YtjeffognhcbiaaaDoorNsK
import Derived.Test.YtjeffognhcbiaaaDoorNsI
namespace Go.Proofs.YtjeffognhcbiaaaDoor
open Go Go.RowKit
def vO (s : SlV) : List Value := [vS s]
theorem encSl_len (s : SlV) : (vO s).length = 1 := rfl
theorem encSl_one (s : SlV) : ∀ u ∈ vO s, u.oneCell' = true := by simp [vO, vS, Value.oneCell']
theorem infoSl : (Tryd.prog.info? 26).map (fun i => (i.zero, i.size, i.bytes)) = some (some (.slice none 0 0), 1, 24) := by kernel_rfl
def eL (r : List Int) : List Cell := [.sl (r.map yG)]
def InL (w : World) (base : Nat) (S : List SlV) (L : List (List Int)) : Prop := ∀ (k : Nat) (s : SlV) (o : List Int), S[k]? = some s → L[k]? = some o → s.2.1 = o.length ∧ Own xX 1 w base 3 (.slice s.1 o.length s.2.2) o
def NeO (v : Value) (S : List SlV) : Prop := ∀ (k : Nat) (s : SlV) (b : Nat), S[k]? = some s → (vS s).ownBlock = some b → v.ownBlock ≠ some b
structure Nest (w : World) (base : Nat) (v : Value) (S : List SlV) (L : List (List Int)) : Prop where
  len : S.length = L.length
  out : Own vO 1 w base 26 v S
  inn : InL w base S L
  dis : DisS S
  ne : NeO v S
theorem InL.own {w : World} {base : Nat} {S : List SlV} {L : List (List Int)} (h : InL w base S L) {k : Nat} {s : SlV} {o : List Int} (hs : S[k]? = some s) (ho : L[k]? = some o) : Own xX 1 w base 3 (vS s) o := by
  obtain ⟨h1, h2⟩ := h k s o hs ho
  obtain ⟨A, n, c⟩ := s
  simp only at h1 h2
  subst h1
  exact h2
theorem slv {s : SlV} {o : List Int} (h : s.2.1 = o.length) : vS s = .slice s.1 o.length s.2.2 := by rw [← h]; rfl
theorem InL.mk {w w' : World} {base : Nat} {S : List SlV} {L : List (List Int)} (h : InL w base S L) (hk : ∀ (k : Nat) (s : SlV) (o : List Int), S[k]? = some s → L[k]? = some o → Own xX 1 w base 3 (vS s) o → Own xX 1 w' base 3 (vS s) o) : InL w' base S L := fun k s o hs ho => by
  obtain ⟨h1, h2⟩ := h k s o hs ho
  have := hk k s o hs ho (h.own hs ho)
  rw [slv h1] at this
  exact ⟨h1, this⟩
section
variable {w w' : World} {base : Nat} {v : Value} {S : List SlV} {L : List (List Int)}
theorem Nest.below (h : Nest w base v S L) (hb : Below w.heap.size w w') : Nest w' base v S L := ⟨h.len, h.out.below hb, h.inn.mk fun _ _ _ _ _ ho => ho.below hb, h.dis, h.ne⟩
theorem Nest.at (h : Nest w base v S L) {k : Nat} (hk : k < L.length) : ∃ s o, S[k]? = some s ∧ L[k]? = some o := by
  obtain ⟨o, ho⟩ := xS hk
  obtain ⟨s, hs⟩ := xS (show k < S.length by rw [h.len]; exact hk)
  exact ⟨s, o, hs, ho⟩
theorem Nest.inlt (h : Nest w base v S L) {k : Nat} {s : SlV} {b : Nat} (hs : S[k]? = some s) (hb : (vS s).ownBlock = some b) : base ≤ b ∧ b < w.heap.size := by
  have hk := (List.getElem?_eq_some_iff.1 hs).1
  obtain ⟨o, ho⟩ := xS (show k < L.length by rw [← h.len]; exact hk)
  exact (h.inn.own hs ho).lt b hb
theorem Nest.push {g cap : Nat} {s : SlV} {o : List Int} (h : Nest w base v S L) (hbw : Below w.heap.size w w') {w2 : World} (hs : s.2.1 = o.length) (hown : Own xX 1 w' base 3 (vS s) o) (hnew : ∀ b, (vS s).ownBlock = some b → w.heap.size ≤ b)
    (hout : Own vO 1 w2 base 26 (.slice (some ⟨g, 0, none⟩) (S.length + 1) cap) (S ++ [s])) (hg : w'.grownBy w2 v.ownBlock) (hgn : v.ownBlock = some g ∨ w'.heap.size ≤ g) : Nest w2 base (.slice (some ⟨g, 0, none⟩) (S.length + 1) cap) (S ++ [s]) (L ++ [o]) := by
  have hl := h.len
  have hvlt : ∀ b, v.ownBlock = some b → b < w.heap.size := fun b hb => (h.out.lt b hb).2
  have h' := h.below hbw
  have hsz := hbw.size
  have hkeep : ∀ {u : Value} {o : List Int}, Own xX 1 w' base 3 u o → (∀ b, u.ownBlock = some b → v.ownBlock ≠ some b) → Own xX 1 w2 base 3 u o := fun {u o} ho hne => ho.kept hg (by
    cases hb : u.ownBlock with
    | none => exact .inl rfl
    | some b => exact .inr fun e => hne b hb e.symm)
  refine ⟨by simp [hl], hout, fun k s1 o1 hs1 ho1 => ?_, fun j k s1 s2 b hjk hs1 hs2 hb => ?_, fun k s1 b hs1 hb => ?_⟩
  · rcases Nat.lt_or_ge k S.length with hk | hk
    · rw [List.getElem?_append_left hk] at hs1
      rw [List.getElem?_append_left (by omega)] at ho1
      obtain ⟨e1, e2⟩ := h'.inn k s1 o1 hs1 ho1
      have := hkeep (h'.inn.own hs1 ho1) (fun b hb => h.ne k s1 b hs1 hb)
      rw [slv e1] at this
      exact ⟨e1, this⟩
    · have hk2 := (List.getElem?_eq_some_iff.1 hs1).1
      rw [List.length_append, List.length_singleton] at hk2
      obtain rfl : k = S.length := by omega
      rw [List.getElem?_concat_length] at hs1
      rw [hl, List.getElem?_concat_length] at ho1
      cases hs1
      cases ho1
      have := hkeep hown (fun b hb e => by have := hnew b hb; have := hvlt b e; omega)
      rw [slv hs] at this
      exact ⟨hs, this⟩
  · rcases Nat.lt_or_ge j S.length with hj | hj
    · rw [List.getElem?_append_left hj] at hs1
      rcases Nat.lt_or_ge k S.length with hk | hk
      · rw [List.getElem?_append_left hk] at hs2
        exact h.dis j k s1 s2 b hjk hs1 hs2 hb
      · have hk2 := (List.getElem?_eq_some_iff.1 hs2).1
        rw [List.length_append, List.length_singleton] at hk2
        obtain rfl : k = S.length := by omega
        rw [List.getElem?_concat_length] at hs2
        cases hs2
        intro e
        have := hnew b e
        have := (h.inlt hs1 hb).2
        omega
    · have hj2 := (List.getElem?_eq_some_iff.1 hs1).1
      rw [List.length_append, List.length_singleton] at hj2
      obtain rfl : j = S.length := by omega
      rw [List.getElem?_concat_length] at hs1
      cases hs1
      have hk2 := (List.getElem?_eq_some_iff.1 hs2).1
      rw [List.length_append, List.length_singleton] at hk2
      rw [List.getElem?_append_left (by omega)] at hs2
      intro e
      have := hnew b hb
      have := (h.inlt hs2 e).2
      omega
  · intro e
    simp only [Value.ownBlock, Option.some.injEq] at e
    subst e
    rcases Nat.lt_or_ge k S.length with hk | hk
    · rw [List.getElem?_append_left hk] at hs1
      rcases hgn with e | e
      · exact h.ne k s1 g hs1 hb e
      · have := (h.inlt hs1 hb).2; omega
    · have hk2 := (List.getElem?_eq_some_iff.1 hs1).1
      rw [List.length_append, List.length_singleton] at hk2
      obtain rfl : k = S.length := by omega
      rw [List.getElem?_concat_length] at hs1
      cases hs1
      have h1 := hnew g hb
      have h2 := (hown.lt g hb).2
      rcases hgn with e | e
      · have := hvlt g e; omega
      · omega
end
def GotN (lo hi : Nat) (w : World) (L : List (List Int)) (v : Value) : Prop := ∃ S, Nest w lo v S L ∧ LtS S hi ∧ ∀ b, v.ownBlock = some b → b < hi
theorem GotN.nil (lo hi : Nat) (w : World) : GotN lo hi w [] (.slice none 0 0) := ⟨[], ⟨rfl, Own.none_, fun k s o h => by simp at h, fun j k s t b _ h => by simp at h, fun k s b h => by simp at h⟩, fun k s b h => by simp at h, fun b h => by cases h⟩
theorem Nest.got {w : World} {lo : Nat} {v : Value} {S : List SlV} {L : List (List Int)} (h : Nest w lo v S L) : GotN lo w.heap.size w L v := ⟨S, h, fun _ _ _ hs hb => (h.inlt hs hb).2, fun b hb => (h.out.lt b hb).2⟩
section
variable {lo hi lo' hi' : Nat} {w w' : World} {L : List (List Int)} {v : Value}
theorem Own.keepb {α : Type} {enc : α → List Value} {size base : Nat} {e : TypeId} {u : Value} {xs : List α} (h : Own enc size w base e u xs) (hb : ∀ b, u.ownBlock = some b → w'.heap[b]? = w.heap[b]?) : Own enc size w' base e u xs := by
  refine ⟨h.1, ?_⟩
  rcases h.2 with hn | ⟨g, cap, cur, rfl, hbg, hg, rest⟩
  · exact .inl hn
  · exact .inr ⟨g, cap, cur, rfl, hbg, (hb g rfl).trans hg, rest⟩
theorem GotN.keep (h : GotN lo hi w L v) (hb : ∀ b, b < w.heap.size → lo ≤ b → b < hi → w'.heap[b]? = w.heap[b]?) : GotN lo hi w' L v := by
  obtain ⟨S, h1, h2, h3⟩ := h
  exact ⟨S, ⟨h1.len, h1.out.keepb fun b hb' => hb b (h1.out.lt b hb').2 (h1.out.lt b hb').1 (h3 b hb'), h1.inn.mk fun k s o hs _ ho => ho.keepb fun b hb' => hb b (h1.inlt hs hb').2 (h1.inlt hs hb').1 (h2 k s b hs hb'), h1.dis, h1.ne⟩, h2, h3⟩
theorem GotN.below (h : GotN lo hi w L v) (hb : Below w.heap.size w w') : GotN lo hi w' L v := h.keep fun b h1 _ _ => hb.block b h1
theorem GotN.fr (h : GotN lo hi w L v) (hf : Fr lo' hi' w w') (hd : hi ≤ lo' ∨ hi' ≤ lo) : GotN lo hi w' L v := h.keep fun b h1 h2 h3 => hf.block b h1 (by omega)
theorem GotN.rep (h : GotN lo hi w L v) : RepI (fun b => lo ≤ b ∧ b < hi) w (.sl (L.map eL)) v := by
  obtain ⟨S, h1, h2, h3⟩ := h
  obtain ⟨A, c, rfl⟩ := h1.out.form
  have hl := h1.len
  by_cases h0 : L.length = 0
  · have : L = [] := List.length_eq_zero_iff.1 h0
    subst this
    rw [hl, h0]
    exact .sl0 A c
  · obtain ⟨g, rfl, hg1, hg2⟩ := h1.out.block (by omega)
    refine .sl _ g 0 1 _ c (fun i _ => (S[i]?.map vS).getD undef) (by rw [List.length_map, hl]) h1.out.cap_le (fun x hx => ?_) ⟨hg1, h3 g rfl⟩ (fun i j x d hx hd => ?_) (fun i j x d hx hd => ?_)
    · obtain ⟨o, _, rfl⟩ := List.mem_map.1 hx; rfl
    · rw [List.getElem?_map] at hx
      cases ho : L[i]? with
      | none => rw [ho] at hx; cases hx
      | some o =>
        rw [ho] at hx
        cases hx
        cases j with
        | succ j => simp [eL] at hd
        | zero =>
          obtain ⟨s, hs⟩ := xS (show i < S.length by rw [hl]; exact (List.getElem?_eq_some_iff.1 ho).1)
          have := h1.out.cellAt encSl_len rfl hs (j := 0) (by omega)
          simp only [vO, Nat.add_zero, Nat.mul_one, List.getElem?_cons_zero] at this
          rw [Nat.add_zero, Nat.mul_one, Nat.zero_add, this, hs]
          rfl
    · rw [List.getElem?_map] at hx
      cases ho : L[i]? with
      | none => rw [ho] at hx; cases hx
      | some o =>
        rw [ho] at hx
        cases hx
        cases j with
        | succ j => simp [eL] at hd
        | zero =>
          obtain ⟨s, hs⟩ := xS (show i < S.length by rw [hl]; exact (List.getElem?_eq_some_iff.1 ho).1)
          obtain ⟨e1, e2⟩ := h1.inn i s o hs ho
          simp only [eL, List.getElem?_cons_zero] at hd
          cases hd
          rw [hs]
          show RepI _ w (.sl (o.map yG)) (vS s)
          rw [slv e1]
          refine ints_repI (e2.rd (by omega) wK) e2.cap_le (fun b f hA _ => ?_)
          have hb : (vS s).ownBlock = some b := by rw [slv e1, hA]; rfl
          exact ⟨(h1.inlt hs hb).1, h2 i s b hs hb⟩
theorem Nest.put {S : List SlV} {base k : Nat} {s : SlV} {o o' : List Int} (h : Nest w base v S L) (hk : S[k]? = some s) (ho : L[k]? = some o) (hl : o'.length = o.length) (hg : w.grownBy w' (vS s).ownBlock) (hown : Own xX 1 w' base 3 (vS s) o') : Nest w' base v S (L.set k o') := by
  have hkl := (List.getElem?_eq_some_iff.1 hk).1
  refine ⟨by simp [h.len], h.out.keepb fun b hb => ?_, fun j s1 o1 hs1 ho1 => ?_, h.dis, h.ne⟩
  · exact hg.block b (h.out.lt b hb).2 (fun e => h.ne k s b hk e.symm hb)
  · by_cases e : k = j
    · subst e
      rw [List.getElem?_set_self (by rw [← h.len]; exact hkl)] at ho1
      rw [hk] at hs1
      cases hs1
      cases ho1
      have e1 := (h.inn k s o hk ho).1
      have e2 : s.2.1 = o'.length := by rw [hl]; exact e1
      rw [slv e2] at hown
      exact ⟨e2, hown⟩
    · rw [List.getElem?_set_ne e] at ho1
      obtain ⟨e1, e2⟩ := h.inn j s1 o1 hs1 ho1
      have h1 := (h.inn.own hs1 ho1).kept hg (by
        cases hb : (vS s1).ownBlock with
        | none => exact .inl rfl
        | some b => exact .inr fun e' => h.dis j k s1 s b (fun e2 => e e2.symm) hs1 hk hb e'.symm)
      rw [slv e1] at h1
      exact ⟨e1, h1⟩
end
def mkII (k : Nat) : List (List Int) → List (List Int)
  | [] => []
  | o :: L => mkI k o.length :: mkII (k + o.length) L
theorem mkII_len (k : Nat) : ∀ L, (mkII k L).length = L.length
  | [] => rfl
  | o :: L => by rw [mkII, List.length_cons, mkII_len, List.length_cons]
theorem mkII_snoc (o : List Int) : ∀ (k : Nat) (A : List (List Int)), mkII k (A ++ [o]) = mkII k A ++ [mkI (k + A.flatten.length : Nat) o.length]
  | k, [] => by simp [mkII]
  | k, a :: A => by
    rw [List.cons_append, mkII, mkII_snoc o (k + a.length) A, mkII, List.flatten_cons, List.length_append, Nat.add_assoc]
    rfl
theorem marks_mkI (q n : Nat) : vL qC 1 q n = mkI (q : Int) n := by
  unfold vL mkI qC
  apply List.map_congr_left
  intro i _
  simp
def mixL (k0 : Nat) (L : List (List Int)) (k : Nat) : List (List Int) := mkII k0 (L.take k) ++ L.drop k
theorem mixL_len {k0 k : Nat} {L : List (List Int)} (h : k ≤ L.length) : (mixL k0 L k).length = L.length := by
  rw [mixL, List.length_append, mkII_len, List.length_take, List.length_drop]; omega
theorem mixL_zero (k0 : Nat) (L : List (List Int)) : mixL k0 L 0 = L := by simp [mixL, mkII]
theorem mixL_all (k0 : Nat) (L : List (List Int)) : mixL k0 L L.length = mkII k0 L := by simp [mixL]
theorem mixL_at {k0 k : Nat} {L : List (List Int)} {o : List Int} (h : L[k]? = some o) : (mixL k0 L k)[k]? = some o := by
  obtain ⟨h1, h2⟩ := List.getElem?_eq_some_iff.1 h
  rw [mixL, List.getElem?_append_right (by rw [mkII_len, List.length_take]; omega), mkII_len, List.length_take, Nat.min_eq_left (by omega), Nat.sub_self, List.getElem?_drop, Nat.add_zero, h]
theorem mixL_set {k0 k : Nat} {L : List (List Int)} {o : List Int} (h : L[k]? = some o) : (mixL k0 L k).set k (mkI (k0 + (L.take k).flatten.length : Nat) o.length) = mixL k0 L (k + 1) := by
  obtain ⟨h1, h2⟩ := List.getElem?_eq_some_iff.1 h
  rw [mixL, mixL, take_next h, mkII_snoc]
  have hl : (mkII k0 (L.take k)).length = k := by rw [mkII_len, List.length_take]; omega
  have := set_append_right (mkII k0 (L.take k)) (L.drop k) 0 (mkI (k0 + (L.take k).flatten.length : Nat) o.length)
  rw [hl, Nat.add_zero] at this
  rw [this, List.drop_eq_getElem_cons h1, List.set_cons_zero, List.append_assoc]
  rfl
theorem flat_take {L : List (List Int)} {k : Nat} {o : List Int} (h : L[k]? = some o) : (L.take (k + 1)).flatten.length = (L.take k).flatten.length + o.length := by
  rw [take_next h, List.flatten_append, List.length_append, List.flatten_singleton]
theorem flat_le {L : List (List Int)} : ∀ k, (L.take k).flatten.length ≤ L.flatten.length := fun k => by
  conv => rhs; rw [← List.take_append_drop k L, List.flatten_append, List.length_append]
  omega
set_option maxRecDepth 100000 in
theorem markIntSS_any (A : Option Addr) (c n : Nat) (S : List SlV) (L : List (List Int)) (k0 lo hi : Nat) (w : World) (hn : n = L.length) (hb : n ≤ 2097152) (hk : k0 + L.flatten.length ≤ 2097152) (h : Nest w lo (.slice A n c) S L) (hlt : LtS S hi) :
    Calls Tryd.prog 18 #[.slice A n c, .int .i64 (k0 : Int)] w fun e w' => e = .returned (.int .i64 ((k0 + L.flatten.length : Nat) : Int)) ∧ Nest w' lo (.slice A n c) S (mkII k0 L) ∧ Fr lo hi w w' := by
  go_enter Tryd.func18, Tryd.ntmps18
  go_wp2
  go_loopw [5, 1] (fun i kk wr => ∃ (k : Nat), k ≤ n ∧ i = .int .i64 k ∧ kk = .int .i64 ((k0 + (L.take k).flatten.length : Nat) : Int) ∧ Nest wr lo (.slice A n c) S (mixL k0 L k) ∧ Fr lo hi w wr) (fun i _ _ => n - (intOf i).toNat)
  case atStart => exact ⟨0, Nat.zero_le _, rfl, by simp, by rw [mixL_zero]; exact h, Fr.refl _ _ _⟩
  case round =>
    obtain ⟨k, hkn, rfl, rfl, hne, hfr⟩ := hrel
    by_cases hlt2 : k < n
    · obtain ⟨o, ho⟩ := xS (show k < L.length by omega)
      have hSl : S.length = n := by rw [hne.len, mixL_len (by omega)]; exact hn.symm
      obtain ⟨s, hs⟩ := xS (show k < S.length by omega)
      obtain ⟨g, rfl, _, _⟩ := hne.out.block (by omega)
      have hmo := mixL_at (k0 := k0) ho
      obtain ⟨e1, e2⟩ := hne.inn k s o hs hmo
      have hft := flat_take ho
      have hfl := flat_le (L := L) (k + 1)
      have hd0 := hne.out.cellAt encSl_len hSl.symm hs (j := 0) (by omega)
      have hsv := slv e1
      simp only [vO, Nat.add_zero, Nat.mul_one, List.getElem?_cons_zero, hsv] at hd0
      have hk1 : (k : Int) < (n : Int) := by omega
      obtain ⟨q, hq⟩ : ∃ q, q = k0 + (L.take k).flatten.length := ⟨_, rfl⟩
      rw [← hq]
      have HQ := Lib.hid hq
      have NE := Lib.hid hne
      have E2 := Lib.hid e2
      have HO := Lib.hid ho
      have HS := Lib.hid hs
      have HM := Lib.hid hmo
      have HSV := Lib.hid hsv
      have FR := Lib.hid hfr
      have HFT := Lib.hid hft
      have HLT := Lib.hid hlt
      have hqb : q + o.length ≤ 2097152 := by omega
      clear hne e1 e2 ho hs hmo hsv hfr hft hfl h hlt hq
      go_wp2_with fail
      refine (markIntS_any s.1 s.2.2 o q lo _ (by omega) (by omega) E2.out).mono ?_
      rintro e w2 ⟨rfl, hown', hg2⟩
      simp only [mend_eq, Nat.one_mul]
      rw [marks_mkI] at hown'
      have hne2 := NE.out.put HS.out HM.out (o' := mkI (q : Int) o.length) (vI _ _) (by rw [HSV.out]; exact hg2) (by rw [HSV.out]; exact hown')
      rw [HQ.out, mixL_set HO.out] at hne2
      have hfr2 := FR.out.trans (Fr.of_grown (lo := lo) (hi := hi) hg2 fun b hb => by
        rw [← HSV.out] at hb
        exact ⟨(NE.out.inlt HS.out hb).1, HLT.out k s b HS.out hb⟩)
      have NE2 := Lib.hid hne2
      have FR2 := Lib.hid hfr2
      clear hne2 hfr2 hown' hg2 NE FR E2
      go_wp2
      go_roundw
      case rel =>
        refine ⟨k + 1, by omega, by go_num, ?_, NE2.out, FR2.out⟩
        rw [HFT.out, ← Nat.add_assoc, ← HQ.out]
      case measure => simp [intOf]; omega
    · go_wp2
      go_ret
      obtain rfl : k = n := by omega
      subst hn
      rw [List.take_length]
      rw [mixL_all] at hne
      exact ⟨rfl, hne, hfr⟩
theorem markGotN {lo hi k0 : Nat} {w : World} {L : List (List Int)} {v : Value} (h : GotN lo hi w L v) (hb : L.length ≤ 2097152) (hk : k0 + L.flatten.length ≤ 2097152) :
    Calls Tryd.prog 18 #[v, .int .i64 (k0 : Int)] w fun e w' => e = .returned (.int .i64 ((k0 + L.flatten.length : Nat) : Int)) ∧ GotN lo hi w' (mkII k0 L) v ∧ Fr lo hi w w' := by
  obtain ⟨S, h1, h2, h3⟩ := h
  obtain ⟨A, c, rfl⟩ := h1.out.form
  refine (markIntSS_any A c _ S L k0 lo hi w h1.len (by rw [h1.len]; exact hb) hk h1 h2).mono ?_
  rintro e w' ⟨rfl, h4, h5⟩
  exact ⟨rfl, ⟨S, h4, h2, h3⟩, h5⟩
end Go.Proofs.YtjeffognhcbiaaaDoor
