/- A tape's runs walked concretely: each in a block of its own. -/
import Derived.Test.YtjeffognhcbiaaaNsO
import Derived.Test.YtjeffognhcbiaaaMrA
namespace Go.Proofs.Ytjeffognhcbiaaa
open Go Go.RowKit
theorem app_SL {ops : Array Oper} {rest : List Oper} {o : Oper} {a : Act} {Q : Exit → Act → World → Prop} (W : World) (hgd : o.guard = none) (s x : Operand)
    (ho : o.op = .call { callee := .builtin .append, args := #[s, x], argTypes := #[26, 26] })
    (base : Nat) (v : Value) (S : List SlV) (hv : a.eval s = v) (hown : Own xJ 1 W base 44 v S) (y : SlV) (hx : a.eval x = .slice (some ⟨W.heap.size, 0, none⟩) 1 1) (n : Nat) (hn : S.length = n)
    (hlen : n ≤ 2097152) (hbase : base ≤ W.heap.size)
    (h : ∀ g cap w', Own xJ 1 w' base 44 (.slice (some ⟨g, 0, none⟩) (n + 1) cap) (S ++ [y]) → W.grownBy w' v.ownBlock → (v.ownBlock = some g ∨ W.heap.size < g) → g < w'.heap.size →
      wpList Try.prog ops Q rest (a.put o.dst (.slice (some ⟨g, 0, none⟩) (n + 1) cap)) w') : wpList Try.prog ops Q (o :: rest) a (W.alloc (.cells (xJ y).toArray 44)) := by
  subst hn
  exact wpList_app xJ 1 W hgd s x _ _ _ 24 ho Try.underlying26 infoSl rfl (by omega) y3 encSl_one base v S hv hown y hx (by omega) (by unfold maxLen; omega) hbase h
def RdT (w : World) (B : Nat) (A : Option Addr) (t : List Itm) : Prop := ∀ (k : Nat) (i : Itm), t[k]? = some i → ∃ b o, A = some ⟨b, o, none⟩ ∧ b < B ∧ w.cell? ⟨b, o + k * 2, none⟩ = some (.int .i64 i.s) ∧ w.cell? ⟨b, o + k * 2 + 1, none⟩ = some (.bool i.b)
theorem RdT.below {w w' : World} {B B' : Nat} {A : Option Addr} {t : List Itm} (h : RdT w B A t) (hb : Below B' w w') (hB : B ≤ B') : RdT w' B A t := fun k i hk => by
  obtain ⟨b, o, h1, h2, h3, h4⟩ := h k i hk
  exact ⟨b, o, h1, h2, (hb.cell (p := ⟨b, o + k * 2, none⟩) (by show b < B'; omega)).trans h3, (hb.cell (p := ⟨b, o + k * 2 + 1, none⟩) (by show b < B'; omega)).trans h4⟩
theorem rep_itms {I : Nat → Prop} {w : World} {B : Nat} {t : List Itm} {A : Option Addr} {c : Nat} (h : RepI I w (.sl (t.map zK)) (.slice A t.length c)) (hI : ∀ b, I b → b < B) : RdT w B A t := by
  generalize hx : Cell.sl (t.map zK) = x at h
  generalize hv : Value.slice A t.length c = v at h
  cases h with
  | v _ _ => cases hx
  | nil => cases hx
  | ip _ _ _ _ _ _ _ => cases hx
  | fn _ _ _ _ _ _ _ => cases hx
  | sl0 A cap =>
    injection hx with hx
    have : t = [] := List.map_eq_nil_iff.1 hx
    subst this
    intro k p h
    simp at h
  | sl xs b f sz n cap u h1 h2 h3 h4 h5 h6 =>
    injection hx with hx
    subst hx
    injection hv with hv1 hv2 hv3
    subst hv1
    intro k p hp
    have hx : (t.map zK)[k]? = some (zK p) := xL hp
    have hsz : sz = 2 := (h3 _ (List.mem_of_getElem? hx)).symm
    subst hsz
    have c0 := h5 k 0 _ (int p.s) hx rfl
    have r0 := h6 k 0 _ (int p.s) hx rfl
    have c1 := h5 k 1 _ (boo p.b) hx rfl
    have r1 := h6 k 1 _ (boo p.b) hx rfl
    have e0 : u k 0 = .int .i64 p.s := repI_v r0
    have e1 : u k 1 = .bool p.b := repI_v r1
    rw [e0] at c0
    rw [e1] at c1
    exact ⟨b, f, rfl, hI b h4, c0, c1⟩
def rsK (t : List Itm) (k : Nat) : List (List Int) := if k = 0 then [] else (rsP t k).1 ++ [(rsP t k).2]
theorem rsK_all (t : List Itm) : rsK t t.length = runsT t := by rw [rsK, runsT]
theorem rsK_len (t : List Itm) : ∀ k, (rsK t k).length ≤ k
  | 0 => Nat.le_refl _
  | 1 => by
    rw [rsK, if_neg (by omega), rsP]
    cases t[0]? with
    | none => simp [rsP]
    | some i => simp
  | k + 2 => by
    have ih := rsK_len t (k + 1)
    rw [rsK, if_neg (by omega)] at ih ⊢
    rw [List.length_append, List.length_singleton] at ih ⊢
    rw [rsP]
    cases t[k + 1]? with
    | none => dsimp only; omega
    | some i =>
      dsimp only
      rw [if_neg (by omega)]
      split <;> simp <;> omega
theorem rsK_pos (t : List Itm) {k : Nat} (h : k ≠ 0) : 1 ≤ (rsK t k).length := by rw [rsK, if_neg h, List.length_append, List.length_singleton]; omega
theorem rsK_new {t : List Itm} {k : Nat} {i : Itm} (h : t[k]? = some i) (hb : k = 0 ∨ i.b = true) : (rsK t k ++ [[]]).set (rsK t k).length ([] ++ [i.s]) = rsK t (k + 1) := by
  rw [List.set_append_right _ _ (Nat.le_refl _), Nat.sub_self, List.set_cons_zero, List.nil_append]
  by_cases h0 : k = 0
  · subst h0
    rw [rsK, if_pos rfl, rsK, if_neg (by omega), rsP_one h]
  · obtain ⟨j, rfl⟩ : ∃ j, k = j + 1 := ⟨k - 1, by omega⟩
    rw [rsK, if_neg h0, rsK, if_neg (by omega), rsP_bar h (hb.resolve_left h0)]
theorem rsK_old {t : List Itm} {k : Nat} {i : Itm} {o : List Int} (h : t[k]? = some i) (h0 : k ≠ 0) (hb : i.b = false) (ho : (rsK t k)[(rsK t k).length - 1]? = some o) : (rsK t k).set ((rsK t k).length - 1) (o ++ [i.s]) = rsK t (k + 1) := by
  obtain ⟨j, rfl⟩ : ∃ j, k = j + 1 := ⟨k - 1, by omega⟩
  rw [rsK, if_neg h0] at ho ⊢
  rw [List.length_append, List.length_singleton, Nat.add_sub_cancel] at ho ⊢
  rw [List.getElem?_concat_length] at ho
  cases ho
  rw [List.set_append_right _ _ (Nat.le_refl _), Nat.sub_self, List.set_cons_zero, rsK, if_neg (by omega), rsP_non h hb]
theorem rsP_len2 (t : List Itm) (k : Nat) : ∀ {o : List Int}, o ∈ rsK t k → o.length ≤ k := by
  intro o ho
  rw [rsK] at ho
  split at ho
  · cases ho
  · rename_i h0
    have key : ∀ k, (∀ o ∈ (rsP t k).1, o.length ≤ k) ∧ (rsP t k).2.length ≤ k := by
      intro k
      induction k with
      | zero => exact ⟨fun o h => (by cases h), Nat.le_refl _⟩
      | succ k ih =>
        rw [rsP]
        cases t[k]? with
        | none => exact ⟨fun o h => Nat.le_succ_of_le (ih.1 o h), Nat.le_succ_of_le ih.2⟩
        | some i =>
          dsimp only
          split
          · exact ⟨fun o h => (by cases h), by simp⟩
          · split
            · refine ⟨fun o h => ?_, by simp⟩
              rcases List.mem_append.1 h with h | h
              · exact Nat.le_succ_of_le (ih.1 o h)
              · rw [List.mem_singleton] at h; subst h; exact Nat.le_succ_of_le ih.2
            · refine ⟨fun o h => Nat.le_succ_of_le (ih.1 o h), ?_⟩
              rw [List.length_append, List.length_singleton]; have := ih.2; omega
    rcases List.mem_append.1 ho with h | h
    · exact (key k).1 o h
    · rw [List.mem_singleton] at h; subst h; exact (key k).2
structure RunsIn (w : World) (wr : World) (out : Value) (S : List SlV) (L : List (List Int)) : Prop where
  ne : Nest wr w.heap.size out S L
  bel : Below w.heap.size w wr
set_option maxRecDepth 100000 in
set_option maxHeartbeats 4000000 in
theorem runs_any (A : Option Addr) (c : Nat) (t : List Itm) (w : World) (hb : t.length ≤ 1000000) (hr : RdT w w.heap.size A t) :
    Calls Try.prog 18 #[.agg #[.slice A t.length c]] w fun e w' => ∃ v, e = .returned v ∧ GotN w.heap.size w'.heap.size w' (runsT t) v ∧ Below w.heap.size w w' := by
  go_enter Try.func18, Try.ntmps18
  go_wp2
  go_loopw [3, 10] (fun out i wr => ∃ (k : Nat) (S : List SlV), k ≤ t.length ∧ i = .int .i64 k ∧ RunsIn w wr out S (rsK t k)) (fun _ i _ => t.length - (intOf i).toNat)
  case atStart =>
    refine ⟨0, [], Nat.zero_le _, rfl, ⟨rfl, ?_, fun k s o h => by simp at h, fun j k s t b _ h => by simp at h, fun k s b h => by simp at h⟩, ?_⟩
    · exact Own.lit (by simp) (by simp)
    · repeat (first | exact Below.refl _ _ | assumption | refine Below.alloc ?_ (by first | (simp; done) | (simp; omega) | omega) _ | refine Below.setCell ?_ (by first | (simp; done) | (simp; omega) | omega) _ | refine Below.drew ?_)
  case round =>
    obtain ⟨k, S, hk, rfl, hne, hbel⟩ := hrel
    have hSl := hne.len
    have hcl := rsK_len t k
    obtain ⟨OA, oc, rfl⟩ := hne.out.form
    by_cases hlt : k < t.length
    · obtain ⟨i, hi⟩ := wE hlt
      obtain ⟨b, of, rfl, hbB, hc0, hc1⟩ := (hr.below hbel (Nat.le_refl _)) k i hi
      have HI := Lib.hid hi
      have NE := Lib.hid hne
      have BEL := Lib.hid hbel
      have HSZ := Lib.hid hbel.size
      have HSL := Lib.hid hSl
      have hk1 : (k : Int) < (t.length : Int) := by omega
      have hSb : S.length ≤ 1000000 := by omega
      clear hi hne hbel hr hSl
      obtain ⟨is, ib⟩ := i
      simp only at hc0 hc1
      by_cases h0 : k = 0
      · subst h0
        simp only [Nat.zero_mul, Nat.add_zero] at hc0 hc1
        go_wp2_with (at_builtin; go_must (refine app_SL _ rfl _ _ rfl w.heap.size (.slice OA S.length oc) S rfl (NE.out.out.below (by repeat (first | exact Below.refl _ _ | assumption | refine Below.alloc ?_ (by first | (simp; done) | (simp; omega) | omega) _ | refine Below.setCell ?_ (by first | (simp; done) | (simp; omega) | omega) _ | refine Below.drew ?_))) (some ⟨wr.heap.size + 1, 0, none⟩, 0, 0) (by simp [Act.eval]) S.length rfl (by omega) (by have := HSZ.out; simp; omega) ?_; rintro g cap w2 hown2 hg2 hat2 hlt2; have hbw : Below wr.heap.size wr _ := Below.alloc (Below.alloc (Below.refl _ wr) (Nat.le_refl _) (.cells #[.int .i64 is, .bool ib] 50)) (by simp) (.cells #[] 3); have NEB := Lib.hid (NE.out.push (s := (some ⟨wr.heap.size + 1, 0, none⟩, 0, 0)) (o := []) hbw rfl (Own.lit (by simp) (by have := HSZ.out; omega)) (fun b hb => (by simp only [vS, Value.ownBlock, Option.some.injEq] at hb; omega)) hown2 hg2 (hat2.imp id Nat.le_of_lt)); have hol : ∀ b, (Value.slice OA S.length oc).ownBlock = some b → w.heap.size ≤ b ∧ b < wr.heap.size := NE.out.out.lt; have BELB := Lib.hid (((BEL.out.trans (hbw.mono HSZ.out)).grown hg2 (by have := HSZ.out; simp; omega) (fun k e => (hol k e).1))); have bxB : w2.cell? ⟨wr.heap.size, 0, none⟩ = some (.int .i64 is) := hg2.cell (a := ⟨wr.heap.size, 0, none⟩) (by go_simp) (fun e => (by have := (hol _ e.symm).2; simp at this)); have hs2 := hg2.size; simp only [World.size_alloc] at hs2; have HS : Hid ((S ++ [((some ⟨wr.heap.size + 1, 0, none⟩, 0, 0) : SlV)])[S.length]? = some (some ⟨wr.heap.size + 1, 0, none⟩, 0, 0)) := Lib.hid List.getElem?_concat_length; have HO : Hid ((rsK t 0 ++ [[]])[S.length]? = some ([] : List Int)) := Lib.hid (by rw [HSL.out]; exact List.getElem?_concat_length); have hNn : S.length + 1 = (S ++ [((some ⟨wr.heap.size + 1, 0, none⟩, 0, 0) : SlV)]).length := (by simp); have hn1 : S.length + 1 - 1 = S.length := rfl; have hg1 := (NEB.out.out.lt g rfl).1; obtain ⟨s, hse⟩ : ∃ s : SlV, s = (some ⟨wr.heap.size + 1, 0, none⟩, 0, 0) := ⟨_, rfl⟩; have HQN : Hid ((vS s).ownBlock ≠ some wr.heap.size) := Lib.hid (by rw [hse]; simp [vS, Value.ownBlock]); rw [← hse] at HS hNn NEB; obtain ⟨o, hoe⟩ : ∃ o : List Int, o = [] := ⟨_, rfl⟩; have hol2 : o.length ≤ 0 := (by rw [hoe]; exact Nat.zero_le _); rw [← hoe] at HO NEB; have HNN := Lib.hid hNn; have HOE := Lib.hid hoe; clear hNn hoe hse hn1; clear hown2 hg2 hat2 hbw hol NE BEL; simp only [Act.put, List.setIfInBounds_toArray, List.set_cons_succ, List.set_cons_zero]))
        refine wp_region_in 15 [(0, false), (1, false), (2, false), (3, false), (4, false), (5, false), (6, false), (7, false), (8, false), (9, false), (10, false), (11, false), (12, true), (13, true), (14, false)] (fun w1 w' => w1.grownBy w' (vS s).ownBlock) (by kernel_rfl) (by kernel_rfl) (fun _ _ d _ _ h => by cases d <;> exact h) (fun w3 hs => ⟨grown_refl _ _, ?_⟩)
        have NE3 := Lib.hid (NEB.out.below (hs.below _))
        have BEL3 := Lib.hid (BELB.out.trans (hs.below _))
        have bx3 := (hs.cell _).trans bxB
        have sz3 := hs.size
        try simp only [World.size_alloc] at sz3
        have hqs : wr.heap.size < w3.heap.size := by omega
        have hsb3 := BEL3.out.size
        obtain ⟨e1, e2⟩ := NE3.out.inn _ s o HS.out HO.out
        have hsv := slv e1
        have hd := NE3.out.out.cellAt y3 HNN.out HS.out (j := 0) (by omega)
        simp only [xJ, Nat.add_zero, Nat.mul_one, List.getElem?_cons_zero, hsv] at hd
        have hgs : (vS s).ownBlock ≠ some g := fun e => NE3.out.ne _ s g HS.out e rfl
        have hqn : (vS s).ownBlock ≠ some wr.heap.size := HQN.out
        have HQN3 := Lib.hid hqn
        have HGS := Lib.hid hgs
        have E2 := Lib.hid e2
        have HSV := Lib.hid hsv
        have C1 := xR (E := (vS s).ownBlock) hd (fun e => hgs e.symm)
        have C2 := xR (E := (vS s).ownBlock) bx3 (fun e => hqn e.symm)
        clear hs e1 e2 hsv hgs hqn NEB BELB bxB HQN
        (refine zS rfl ?_; go_big_quiet_step (rfl); refine wpQuiet_nil ?_)
        (refine zS rfl ?_; go_big_quiet_step (rfl); refine wpQuiet_nil ?_)
        (refine zS rfl ?_; go_big_quiet_step (rfl); refine wpQuiet_nil ?_)
        (refine zS rfl ?_; go_big_quiet_step (rfl); refine wpQuiet_nil ?_)
        (refine zS rfl ?_; go_big_quiet_step (rfl); refine wpQuiet_nil ?_)
        (refine zS rfl ?_; go_big_quiet_step (rfl); refine wpQuiet_nil ?_)
        (refine zS rfl ?_; go_big_quiet_step (rfl); refine wpQuiet_nil ?_)
        (refine zS rfl ?_; go_big_quiet_step (rfl); refine wpQuiet_nil ?_)
        (refine zS rfl ?_; go_big_quiet_step (rfl); refine wpQuiet_nil ?_)
        (refine zS rfl ?_; go_big_quiet_step (rfl); refine wpQuiet_nil ?_)
        (refine zS rfl ?_; go_big_quiet_step (rfl); refine wpQuiet_nil ?_)
        (refine zS rfl ?_; go_big_quiet_step (rfl); refine wpQuiet_nil ?_)
        refine xC rfl ?_
        go_wp2_with fail
        refine ⟨World.grownBy_alloc _ _ _, ?_⟩
        refine xC rfl ?_
        refine app_I _ rfl _ _ rfl w.heap.size (.slice s.1 o.length s.2.2) o rfl E2.out is (by first | rfl | (rw [sz3]; rfl)) o.length rfl (by omega) (by omega) ?_
        rintro g2 cap2 w4 hown4 hg4 hat4 hlt4
        rw [← HSV.out] at hg4 hat4
        have NE4 := Lib.hid (NE3.out.sets (s' := (some ⟨g2, 0, none⟩, o.length + 1, cap2)) (o' := o ++ [is]) HNN.out HS.out HO.out (by simp) hg4 (by rw [show vS (some ⟨g2, 0, none⟩, o.length + 1, cap2) = .slice (some ⟨g2, 0, none⟩) (o ++ [is]).length cap2 by rw [List.length_append]; rfl]; rw [List.length_append]; exact hown4) (fun b hb => by
          simp only [vS, Value.ownBlock, Option.some.injEq] at hb
          subst hb
          rcases hat4 with e | e
          · exact .inl e
          · exact .inr (by omega)))
        have how4 := NE3.out.out.kept hg4 (.inr fun e => HGS.out e.symm)
        have f4 := how4.frozenAt HNN.out S.length
        have d4 := how4.cellAt y3 HNN.out HS.out (j := 0) (by omega)
        simp only [xJ, Nat.add_zero, Nat.mul_one, List.getElem?_cons_zero, HSV.out] at d4
        have BEL4 := Lib.hid (BEL3.out.grown hg4 (by omega) (fun k e => by have := NE3.out.inlt HS.out e; omega))
        go_wp2_with fail
        simp only [Act.put, List.setIfInBounds_toArray, List.set_cons_succ, List.set_cons_zero]
        refine ⟨hg4, ?_⟩
        (refine zS rfl ?_; go_big_quiet_step (rfl); refine wpQuiet_nil ?_)
        (refine wpH_nil ?_; simp only [List.drop_succ_cons, List.drop_zero])
        clear hown4 hg4 hat4 C1 C2 how4 NE3 E2
        go_wp2
        go_roundw
        case rel =>
          have hfin := NE4.out
          have hL : (rsK t 0 ++ [o]).set S.length (o ++ [is]) = rsK t (0 + 1) := by rw [HOE.out, HSL.out, rsK_new HI.out (.inl rfl)]
          simp only [Nat.mul_one, Nat.add_zero] at hfin
          rw [hL] at hfin
          exact ⟨0 + 1, _, by omega, by go_num, hfin, BEL4.out.setCell (by show w.heap.size ≤ g; omega) _⟩
        case measure => simp [intOf]; omega
      have hz : ¬ (k : Int) = 0 := by omega
      cases ib with
      | true =>
        go_wp2_with (at_builtin; go_must (refine app_SL _ rfl _ _ rfl w.heap.size (.slice OA S.length oc) S rfl (NE.out.out.below (by repeat (first | exact Below.refl _ _ | assumption | refine Below.alloc ?_ (by first | (simp; done) | (simp; omega) | omega) _ | refine Below.setCell ?_ (by first | (simp; done) | (simp; omega) | omega) _ | refine Below.drew ?_))) (some ⟨wr.heap.size + 1, 0, none⟩, 0, 0) (by simp [Act.eval]) S.length rfl (by omega) (by have := HSZ.out; simp; omega) ?_; rintro g cap w2 hown2 hg2 hat2 hlt2; have hbw : Below wr.heap.size wr _ := Below.alloc (Below.alloc (Below.refl _ wr) (Nat.le_refl _) (.cells #[.int .i64 is, .bool true] 50)) (by simp) (.cells #[] 3); have NEB := Lib.hid (NE.out.push (s := (some ⟨wr.heap.size + 1, 0, none⟩, 0, 0)) (o := []) hbw rfl (Own.lit (by simp) (by have := HSZ.out; omega)) (fun b hb => (by simp only [vS, Value.ownBlock, Option.some.injEq] at hb; omega)) hown2 hg2 (hat2.imp id Nat.le_of_lt)); have hol : ∀ b, (Value.slice OA S.length oc).ownBlock = some b → w.heap.size ≤ b ∧ b < wr.heap.size := NE.out.out.lt; have BELB := Lib.hid (((BEL.out.trans (hbw.mono HSZ.out)).grown hg2 (by have := HSZ.out; simp; omega) (fun k e => (hol k e).1))); have bxB : w2.cell? ⟨wr.heap.size, 0, none⟩ = some (.int .i64 is) := hg2.cell (a := ⟨wr.heap.size, 0, none⟩) (by go_simp) (fun e => (by have := (hol _ e.symm).2; simp at this)); have hs2 := hg2.size; simp only [World.size_alloc] at hs2; have HS : Hid ((S ++ [((some ⟨wr.heap.size + 1, 0, none⟩, 0, 0) : SlV)])[S.length]? = some (some ⟨wr.heap.size + 1, 0, none⟩, 0, 0)) := Lib.hid List.getElem?_concat_length; have HO : Hid ((rsK t k ++ [[]])[S.length]? = some ([] : List Int)) := Lib.hid (by rw [HSL.out]; exact List.getElem?_concat_length); have hNn : S.length + 1 = (S ++ [((some ⟨wr.heap.size + 1, 0, none⟩, 0, 0) : SlV)]).length := (by simp); have hn1 : S.length + 1 - 1 = S.length := rfl; have hg1 := (NEB.out.out.lt g rfl).1; obtain ⟨s, hse⟩ : ∃ s : SlV, s = (some ⟨wr.heap.size + 1, 0, none⟩, 0, 0) := ⟨_, rfl⟩; have HQN : Hid ((vS s).ownBlock ≠ some wr.heap.size) := Lib.hid (by rw [hse]; simp [vS, Value.ownBlock]); rw [← hse] at HS hNn NEB; obtain ⟨o, hoe⟩ : ∃ o : List Int, o = [] := ⟨_, rfl⟩; have hol2 : o.length ≤ k := (by rw [hoe]; exact Nat.zero_le _); rw [← hoe] at HO NEB; have HNN := Lib.hid hNn; have HOE := Lib.hid hoe; clear hNn hoe hse hn1; clear hown2 hg2 hat2 hbw hol NE BEL; simp only [Act.put, List.setIfInBounds_toArray, List.set_cons_succ, List.set_cons_zero]))
        refine wp_region_in 15 [(0, false), (1, false), (2, false), (3, false), (4, false), (5, false), (6, false), (7, false), (8, false), (9, false), (10, false), (11, false), (12, true), (13, true), (14, false)] (fun w1 w' => w1.grownBy w' (vS s).ownBlock) (by kernel_rfl) (by kernel_rfl) (fun _ _ d _ _ h => by cases d <;> exact h) (fun w3 hs => ⟨grown_refl _ _, ?_⟩)
        have NE3 := Lib.hid (NEB.out.below (hs.below _))
        have BEL3 := Lib.hid (BELB.out.trans (hs.below _))
        have bx3 := (hs.cell _).trans bxB
        have sz3 := hs.size
        try simp only [World.size_alloc] at sz3
        have hqs : wr.heap.size < w3.heap.size := by omega
        have hsb3 := BEL3.out.size
        obtain ⟨e1, e2⟩ := NE3.out.inn _ s o HS.out HO.out
        have hsv := slv e1
        have hd := NE3.out.out.cellAt y3 HNN.out HS.out (j := 0) (by omega)
        simp only [xJ, Nat.add_zero, Nat.mul_one, List.getElem?_cons_zero, hsv] at hd
        have hgs : (vS s).ownBlock ≠ some g := fun e => NE3.out.ne _ s g HS.out e rfl
        have hqn : (vS s).ownBlock ≠ some wr.heap.size := HQN.out
        have HQN3 := Lib.hid hqn
        have HGS := Lib.hid hgs
        have E2 := Lib.hid e2
        have HSV := Lib.hid hsv
        have C1 := xR (E := (vS s).ownBlock) hd (fun e => hgs e.symm)
        have C2 := xR (E := (vS s).ownBlock) bx3 (fun e => hqn e.symm)
        clear hs e1 e2 hsv hgs hqn NEB BELB bxB HQN
        (refine zS rfl ?_; go_big_quiet_step (rfl); refine wpQuiet_nil ?_)
        (refine zS rfl ?_; go_big_quiet_step (rfl); refine wpQuiet_nil ?_)
        (refine zS rfl ?_; go_big_quiet_step (rfl); refine wpQuiet_nil ?_)
        (refine zS rfl ?_; go_big_quiet_step (rfl); refine wpQuiet_nil ?_)
        (refine zS rfl ?_; go_big_quiet_step (rfl); refine wpQuiet_nil ?_)
        (refine zS rfl ?_; go_big_quiet_step (rfl); refine wpQuiet_nil ?_)
        (refine zS rfl ?_; go_big_quiet_step (rfl); refine wpQuiet_nil ?_)
        (refine zS rfl ?_; go_big_quiet_step (rfl); refine wpQuiet_nil ?_)
        (refine zS rfl ?_; go_big_quiet_step (rfl); refine wpQuiet_nil ?_)
        (refine zS rfl ?_; go_big_quiet_step (rfl); refine wpQuiet_nil ?_)
        (refine zS rfl ?_; go_big_quiet_step (rfl); refine wpQuiet_nil ?_)
        (refine zS rfl ?_; go_big_quiet_step (rfl); refine wpQuiet_nil ?_)
        refine xC rfl ?_
        go_wp2_with fail
        refine ⟨World.grownBy_alloc _ _ _, ?_⟩
        refine xC rfl ?_
        refine app_I _ rfl _ _ rfl w.heap.size (.slice s.1 o.length s.2.2) o rfl E2.out is (by first | rfl | (rw [sz3]; rfl)) o.length rfl (by omega) (by omega) ?_
        rintro g2 cap2 w4 hown4 hg4 hat4 hlt4
        rw [← HSV.out] at hg4 hat4
        have NE4 := Lib.hid (NE3.out.sets (s' := (some ⟨g2, 0, none⟩, o.length + 1, cap2)) (o' := o ++ [is]) HNN.out HS.out HO.out (by simp) hg4 (by rw [show vS (some ⟨g2, 0, none⟩, o.length + 1, cap2) = .slice (some ⟨g2, 0, none⟩) (o ++ [is]).length cap2 by rw [List.length_append]; rfl]; rw [List.length_append]; exact hown4) (fun b hb => by
          simp only [vS, Value.ownBlock, Option.some.injEq] at hb
          subst hb
          rcases hat4 with e | e
          · exact .inl e
          · exact .inr (by omega)))
        have how4 := NE3.out.out.kept hg4 (.inr fun e => HGS.out e.symm)
        have f4 := how4.frozenAt HNN.out S.length
        have d4 := how4.cellAt y3 HNN.out HS.out (j := 0) (by omega)
        simp only [xJ, Nat.add_zero, Nat.mul_one, List.getElem?_cons_zero, HSV.out] at d4
        have BEL4 := Lib.hid (BEL3.out.grown hg4 (by omega) (fun k e => by have := NE3.out.inlt HS.out e; omega))
        go_wp2_with fail
        simp only [Act.put, List.setIfInBounds_toArray, List.set_cons_succ, List.set_cons_zero]
        refine ⟨hg4, ?_⟩
        (refine zS rfl ?_; go_big_quiet_step (rfl); refine wpQuiet_nil ?_)
        (refine wpH_nil ?_; simp only [List.drop_succ_cons, List.drop_zero])
        clear hown4 hg4 hat4 C1 C2 how4 NE3 E2
        go_wp2
        go_roundw
        case rel =>
          have hfin := NE4.out
          have hL : (rsK t k ++ [o]).set S.length (o ++ [is]) = rsK t (k + 1) := by rw [HOE.out, HSL.out, rsK_new HI.out (.inr rfl)]
          simp only [Nat.mul_one, Nat.add_zero] at hfin
          rw [hL] at hfin
          exact ⟨k + 1, _, by omega, by go_num, hfin, BEL4.out.setCell (by show w.heap.size ≤ g; omega) _⟩
        case measure => simp [intOf]; omega
      | false =>
        have hpos := rsK_pos t h0
        have hsl := HSL.out
        obtain ⟨s, o, hs, ho⟩ := NE.out.at (k := S.length - 1) (by omega)
        obtain ⟨g, rfl, hg1, hg2⟩ := NE.out.out.block (by omega)
        have hol2 := rsP_len2 t k (List.mem_of_getElem? ho)
        have HQN : Hid ((vS s).ownBlock ≠ some wr.heap.size) := Lib.hid (fun e => by have := (NE.out.inlt hs e).2; omega)
        have HS := Lib.hid hs
        have HO := Lib.hid ho
        have hbw : Below wr.heap.size wr (wr.alloc (.cells #[.int .i64 is, .bool false] 50)) := (Below.refl _ _).alloc (Nat.le_refl _) _
        have NEB := Lib.hid (NE.out.below hbw)
        have BELB := Lib.hid (BEL.out.trans (hbw.mono HSZ.out))
        have bxB : (wr.alloc (.cells #[.int .i64 is, .bool false] 50)).cell? ⟨wr.heap.size, 0, none⟩ = some (.int .i64 is) := by go_simp
        have hpn : 1 ≤ S.length := by omega
        clear hs ho hbw NE BEL hsl
        go_wp2_with fail
        refine wp_region_in 15 [(0, false), (1, false), (2, false), (3, false), (4, false), (5, false), (6, false), (7, false), (8, false), (9, false), (10, false), (11, false), (12, true), (13, true), (14, false)] (fun w1 w' => w1.grownBy w' (vS s).ownBlock) (by kernel_rfl) (by kernel_rfl) (fun _ _ d _ _ h => by cases d <;> exact h) (fun w3 hs => ⟨grown_refl _ _, ?_⟩)
        have NE3 := Lib.hid (NEB.out.below (hs.below _))
        have BEL3 := Lib.hid (BELB.out.trans (hs.below _))
        have bx3 := (hs.cell _).trans bxB
        have sz3 := hs.size
        try simp only [World.size_alloc] at sz3
        have hqs : wr.heap.size < w3.heap.size := by omega
        have hsb3 := BEL3.out.size
        obtain ⟨e1, e2⟩ := NE3.out.inn _ s o HS.out HO.out
        have hsv := slv e1
        have hd := NE3.out.out.cellAt y3 rfl HS.out (j := 0) (by omega)
        simp only [xJ, Nat.add_zero, Nat.mul_one, List.getElem?_cons_zero, hsv] at hd
        have hgs : (vS s).ownBlock ≠ some g := fun e => NE3.out.ne _ s g HS.out e rfl
        have hqn : (vS s).ownBlock ≠ some wr.heap.size := HQN.out
        have HQN3 := Lib.hid hqn
        have HGS := Lib.hid hgs
        have E2 := Lib.hid e2
        have HSV := Lib.hid hsv
        have C1 := xR (E := (vS s).ownBlock) hd (fun e => hgs e.symm)
        have C2 := xR (E := (vS s).ownBlock) bx3 (fun e => hqn e.symm)
        clear hs e1 e2 hsv hgs hqn NEB BELB bxB HQN
        (refine zS rfl ?_; go_big_quiet_step (rfl); refine wpQuiet_nil ?_)
        (refine zS rfl ?_; go_big_quiet_step (rfl); refine wpQuiet_nil ?_)
        (refine zS rfl ?_; go_big_quiet_step (rfl); refine wpQuiet_nil ?_)
        (refine zS rfl ?_; go_big_quiet_step (rfl); refine wpQuiet_nil ?_)
        (refine zS rfl ?_; go_big_quiet_step (rfl); refine wpQuiet_nil ?_)
        (refine zS rfl ?_; go_big_quiet_step (rfl); refine wpQuiet_nil ?_)
        (refine zS rfl ?_; go_big_quiet_step (rfl); refine wpQuiet_nil ?_)
        (refine zS rfl ?_; go_big_quiet_step (rfl); refine wpQuiet_nil ?_)
        (refine zS rfl ?_; go_big_quiet_step (rfl); refine wpQuiet_nil ?_)
        (refine zS rfl ?_; go_big_quiet_step (rfl); refine wpQuiet_nil ?_)
        (refine zS rfl ?_; go_big_quiet_step (rfl); refine wpQuiet_nil ?_)
        (refine zS rfl ?_; go_big_quiet_step (rfl); refine wpQuiet_nil ?_)
        refine xC rfl ?_
        go_wp2_with fail
        refine ⟨World.grownBy_alloc _ _ _, ?_⟩
        refine xC rfl ?_
        refine app_I _ rfl _ _ rfl w.heap.size (.slice s.1 o.length s.2.2) o rfl E2.out is (by first | rfl | (rw [sz3]; rfl)) o.length rfl (by omega) (by omega) ?_
        rintro g2 cap2 w4 hown4 hg4 hat4 hlt4
        rw [← HSV.out] at hg4 hat4
        have NE4 := Lib.hid (NE3.out.sets (s' := (some ⟨g2, 0, none⟩, o.length + 1, cap2)) (o' := o ++ [is]) rfl HS.out HO.out (by simp) hg4 (by rw [show vS (some ⟨g2, 0, none⟩, o.length + 1, cap2) = .slice (some ⟨g2, 0, none⟩) (o ++ [is]).length cap2 by rw [List.length_append]; rfl]; rw [List.length_append]; exact hown4) (fun b hb => by
          simp only [vS, Value.ownBlock, Option.some.injEq] at hb
          subst hb
          rcases hat4 with e | e
          · exact .inl e
          · exact .inr (by omega)))
        have how4 := NE3.out.out.kept hg4 (.inr fun e => HGS.out e.symm)
        have f4 := how4.frozenAt rfl (S.length - 1)
        have d4 := how4.cellAt y3 rfl HS.out (j := 0) (by omega)
        simp only [xJ, Nat.add_zero, Nat.mul_one, List.getElem?_cons_zero, HSV.out] at d4
        have BEL4 := Lib.hid (BEL3.out.grown hg4 (by omega) (fun k e => by have := NE3.out.inlt HS.out e; omega))
        go_wp2_with fail
        simp only [Act.put, List.setIfInBounds_toArray, List.set_cons_succ, List.set_cons_zero]
        refine ⟨hg4, ?_⟩
        (refine zS rfl ?_; go_big_quiet_step (rfl); refine wpQuiet_nil ?_)
        (refine wpH_nil ?_; simp only [List.drop_succ_cons, List.drop_zero])
        clear hown4 hg4 hat4 C1 C2 how4 NE3 E2
        go_wp2
        go_roundw
        case rel =>
          have hfin := NE4.out
          have hL : (rsK t k).set (S.length - 1) (o ++ [is]) = rsK t (k + 1) := by rw [show S.length - 1 = (rsK t k).length - 1 by rw [HSL.out], rsK_old HI.out h0 rfl (by rw [← HSL.out]; exact HO.out)]
          simp only [Nat.mul_one, Nat.add_zero] at hfin
          rw [hL] at hfin
          exact ⟨k + 1, _, by omega, by go_num, hfin, BEL4.out.setCell (by show w.heap.size ≤ g; omega) _⟩
        case measure => simp [intOf]; omega
    · go_wp2
      go_ret
      obtain rfl : k = t.length := by omega
      rw [rsK_all] at hne
      exact ⟨_, rfl, hne.got.below (Below.refl _ _), hbel⟩
end Go.Proofs.Ytjeffognhcbiaaa
