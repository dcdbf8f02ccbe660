/- impl.PrefixConflicts walked concretely: the outlines that it gives back, each in a block of its own. -/
import Derived.Test.YtjeffognhcbiaaaDoorNsP
import Derived.Test.YtjeffognhcbiaaaDoorNsF
namespace Go.Proofs.YtjeffognhcbiaaaDoor
open Go Go.RowKit
theorem copy_I {ops : Array Oper} {rest : List Oper} {o : Oper} {a : Act} {Q : Exit → Act → World → Prop} (W : World) (hgd : o.guard = none) (s x : Operand)
    (ho : o.op = .call { callee := .builtin .append, args := #[s, x], argTypes := #[26, 26] })
    (N : Nat) (hv : a.eval s = .slice (some ⟨N, 0, none⟩) 0 0) (A : Option Addr) (ys : List (Int)) (c B : Nat) (hx : a.eval x = .slice A ys.length c) (hN : N = W.heap.size) (hrd : Rd xX 1 W B A ys) (hB : B ≤ W.heap.size) (hl : ys.length ≤ 2097152)
    (h : ∀ g cap w', Own xX 1 w' W.heap.size 3 (.slice (some ⟨g, 0, none⟩) ys.length cap) ys → Below W.heap.size W w' → g < w'.heap.size → W.heap.size < w'.heap.size →
      wpList Tryd.prog ops Q rest (a.put o.dst (.slice (some ⟨g, 0, none⟩) ys.length cap)) w') : wpList Tryd.prog ops Q (o :: rest) a (W.alloc (.cells #[] 3)) :=
  wpList_copy xX 1 W hgd s x _ _ _ 8 ho Tryd.underlying26 infoI rfl (by omega) wK encI_one N hv A ys c B hx hN hrd hB (by omega) (by unfold maxLen; omega) h
theorem copyOf_I (A : Option Addr) (c : Nat) (xs : List (Int)) (w : World) (hb : xs.length ≤ 2097152) (hr : Rd xX 1 w w.heap.size A xs) :
    Calls Tryd.prog 52 #[.slice A xs.length c] w fun e w' => ∃ g c', e = .returned (.slice (some ⟨g, 0, none⟩) xs.length c') ∧ Own xX 1 w' w.heap.size 3 (.slice (some ⟨g, 0, none⟩) xs.length c') xs ∧ Below w.heap.size w w' := by
  have HR := Lib.hid hr
  clear hr
  go_enter Tryd.func52, Tryd.ntmps52
  go_wp2_with (at_builtin; refine copy_I _ rfl (.tmp 3) (.tmp 4) rfl _ rfl A xs c _ rfl rfl HR.out (Nat.le_refl _) hb ?_; rintro g cap w1 hown1 hb1 hg1 hz1; simp only [Act.put, List.setIfInBounds_toArray, List.set_cons_succ, List.set_cons_zero])
  go_ret
  exact ⟨g, cap, rfl, hown1, hb1⟩
theorem app_SL {ops : Array Oper} {rest : List Oper} {o : Oper} {a : Act} {Q : Exit → Act → World → Prop} (W : World) (hgd : o.guard = none) (s x : Operand)
    (ho : o.op = .call { callee := .builtin .append, args := #[s, x], argTypes := #[38, 38] })
    (base : Nat) (v : Value) (S : List SlV) (hv : a.eval s = v) (hown : Own vO 1 W base 26 v S) (y : SlV) (hx : a.eval x = .slice (some ⟨W.heap.size, 0, none⟩) 1 1) (n : Nat) (hn : S.length = n)
    (hlen : n ≤ 2097152) (hbase : base ≤ W.heap.size)
    (h : ∀ g cap w', Own vO 1 w' base 26 (.slice (some ⟨g, 0, none⟩) (n + 1) cap) (S ++ [y]) → W.grownBy w' v.ownBlock → (v.ownBlock = some g ∨ W.heap.size < g) → g < w'.heap.size →
      wpList Tryd.prog ops Q rest (a.put o.dst (.slice (some ⟨g, 0, none⟩) (n + 1) cap)) w') : wpList Tryd.prog ops Q (o :: rest) a (W.alloc (.cells (vO y).toArray 26)) := by
  subst hn
  exact wpList_app vO 1 W hgd s x _ _ _ 24 ho Tryd.underlying38 infoSl rfl (by omega) encSl_len encSl_one base v S hv hown y hx (by omega) (by unfold maxLen; omega) hbase h
theorem bool_val {f : Nat} {ys : List AVal} {b : Bool} (h : PF Tryd.prog f ys [] (.c (boo b))) {w : World} (gi : GI (fun b => b < w.heap.size) w) {vals : List Value} (ha : All2 (RepF (fun b => b < w.heap.size) (fun _ => none) w) ys vals) :
    Calls Tryd.prog f vals.toArray w fun e w' => e = .returned (.bool b) ∧ Below w.heap.size w w' := qF h gi ha
structure TwoO (w : World) (A : Option Addr) (c : Nat) (p : List Int) (A2 : Option Addr) (c2 : Nat) (o : List Int) : Prop where
  rp : Rd xX 1 w w.heap.size A p
  lp : p.length ≤ c
  ro : RepI (fun b => b < w.heap.size) w (.sl (o.map yG)) (.slice A2 o.length c2)
  gi : GI (fun b => b < w.heap.size) w
theorem TwoO.up {w w' : World} {A : Option Addr} {c : Nat} {p : List Int} {A2 : Option Addr} {c2 : Nat} {o : List Int} (h : TwoO w A c p A2 c2 o) (hb : Below w.heap.size w w') : TwoO w' A c p A2 c2 o :=
  ⟨(h.rp.below hb (Nat.le_refl _)).mono hb.size, h.lp, h.ro.mono (fun _ hk => Nat.lt_of_lt_of_le hk hb.size) (fun b hk => hb.block b hk), GI.up h.gi (fun b hk => hb.block b hk) hb.size⟩
section
variable {w : World} {A : Option Addr} {c : Nat} {p : List Int} {A2 : Option Addr} {c2 : Nat} {o : List Int} (h : TwoO w A c p A2 c2 o) (hp : p.length ≤ 1048576) (ho : o.length ≤ 1048576)
include h hp ho
theorem eqO_call : Calls Tryd.prog 46 #[.slice A p.length c, .slice A2 o.length c2] w fun e w' => e = .returned (.bool (decide (p = o))) ∧ Below w.heap.size w w' :=
  bool_val (sliceEq_pf p o (by omega) (by omega)) h.gi (vals := [_, _]) (.cons (Rep.imm (ints_rep h.rp h.lp)) (.cons (Rep.imm h.ro) .nil))
theorem pre1_call : Calls Tryd.prog 51 #[.slice A p.length c, .slice A2 o.length c2] w fun e w' => e = .returned (.bool (wM p o)) ∧ Below w.heap.size w w' :=
  bool_val (startsWith_pf p o (by omega) (by omega)) h.gi (vals := [_, _]) (.cons (Rep.imm (ints_rep h.rp h.lp)) (.cons (Rep.imm h.ro) .nil))
theorem pre2_call : Calls Tryd.prog 51 #[.slice A2 o.length c2, .slice A p.length c] w fun e w' => e = .returned (.bool (wM o p)) ∧ Below w.heap.size w w' :=
  bool_val (startsWith_pf o p (by omega) (by omega)) h.gi (vals := [_, _]) (.cons (Rep.imm h.ro) (.cons (Rep.imm (ints_rep h.rp h.lp)) .nil))
end
set_option maxRecDepth 100000 in
set_option maxHeartbeats 4000000 in
theorem confl_any (A : Option Addr) (c : Nat) (es : List Ent) (A2 : Option Addr) (c2 : Nat) (o : List Int) (w : World) (gi : GI (fun b => b < w.heap.size) w) (hb : wX es) (ho : o.length ≤ 1048576) (hr : RdE w w.heap.size A (enL es)) (hro : RepI (fun b => b < w.heap.size) w (.sl (o.map yG)) (.slice A2 o.length c2)) :
    Calls Tryd.prog 35 #[.agg #[.slice A es.length c], .slice A2 o.length c2] w fun e w' => ∃ v, e = .returned v ∧ GotN w.heap.size w'.heap.size w' (cfs es o) v ∧ Below w.heap.size w w' := by
  have hb1 := hb.1
  go_enter Tryd.func35, Tryd.ntmps35
  go_wp2
  go_loopw [5, 12] (fun out i wr => ∃ (k : Nat) (S : List SlV), k ≤ es.length ∧ i = .int .i64 k ∧ Nest wr w.heap.size out S (cfs (es.take k) o) ∧ Below w.heap.size w wr) (fun _ i _ => es.length - (intOf i).toNat)
  case atStart =>
    refine ⟨0, [], Nat.zero_le _, rfl, ⟨rfl, ?_, fun k s o h => by simp at h, fun j k s t b _ h => by simp at h, fun k s b h => by simp at h⟩, ?_⟩
    · exact Own.lit (by simp) (by simp)
    · repeat (first | exact Below.refl _ _ | assumption | refine Below.alloc ?_ (by first | (simp; done) | (simp; omega) | omega) _ | refine Below.setCell ?_ (by first | (simp; done) | (simp; omega) | omega) _ | refine Below.drew ?_)
  case round =>
    obtain ⟨k, S, hk, rfl, hne, hbel⟩ := hrel
    have hSl := hne.len
    have hcl := cfs_len es o k
    obtain ⟨OA, oc, rfl⟩ := hne.out.form
    by_cases hlt : k < es.length
    · obtain ⟨e, he⟩ := xM hlt
      have heb := (hb.2 e (List.mem_of_getElem? he)).1
      obtain ⟨b, of, A', c', rfl, hbB, hc0, hc1, hrd, hlc⟩ := (hr.below hbel (Nat.le_refl _)) k _ (enL_of he)
      have T0 : TwoO wr A' c' e.o A2 c2 o := ⟨hrd.mono hbel.size, hlc, hro.mono (fun _ hk => Nat.lt_of_lt_of_le hk hbel.size) (fun b hk => hbel.block b hk), GI.up gi (fun b hk => hbel.block b hk) hbel.size⟩
      have TT : Hid (∀ W1, Below wr.heap.size wr W1 → TwoO W1 A' c' e.o A2 c2 o) := Lib.hid fun W1 h => T0.up h
      have HE := Lib.hid he
      have NE := Lib.hid hne
      have BEL := Lib.hid hbel
      have HSZ := Lib.hid hbel.size
      have hk1 : (k : Int) < (es.length : Int) := by omega
      have hSb : S.length ≤ 1048576 := by omega
      simp only at hc0 hc1
      clear T0 he hne hbel hrd hr hro gi hb hSl
      have HCF : Hid (qP o e = (!decide (e.o = o) && (wM e.o o || wM o e.o))) := Lib.hid rfl
      go_wp2_with fail
      refine (eqO_call (TT.out _ (by repeat (first | exact Below.refl _ _ | assumption | refine Below.alloc ?_ (by first | (simp; done) | (simp; omega) | omega) _ | refine Below.setCell ?_ (by first | (simp; done) | (simp; omega) | omega) _ | refine Below.drew ?_))) heb ho).mono ?_
      rintro ex w1 ⟨rfl, hb1⟩
      have hbw1 : Below wr.heap.size wr w1 := (show Below wr.heap.size wr _ by repeat (first | exact Below.refl _ _ | assumption | refine Below.alloc ?_ (by first | (simp; done) | (simp; omega) | omega) _ | refine Below.setCell ?_ (by first | (simp; done) | (simp; omega) | omega) _ | refine Below.drew ?_)).trans (hb1.mono (by simp))
      have bx1 := (hb1.cell (p := ⟨wr.heap.size, 0, none⟩) (by first | (simp; done) | (simp; omega) | omega)).trans (show World.cell? _ ⟨wr.heap.size, 0, none⟩ = some (.slice A' e.o.length c') by go_simp)
      have hlt1 : wr.heap.size < w1.heap.size := by have := hb1.size; simp only [World.size_alloc] at this; omega
      have BW1 := Lib.hid hbw1
      clear hb1 hbw1
      cases hq : decide (e.o = o) with
      | true =>
        have hno : qP o e = false := by rw [HCF.out, hq]; rfl
        have HNO := Lib.hid hno
        clear hno HCF
        go_wp2
        go_roundw
        case rel =>
          refine ⟨k + 1, S, by omega, by go_num, ?_, BEL.out.trans (BW1.out.mono HSZ.out)⟩
          rw [cfs_no HE.out HNO.out]
          exact NE.out.below BW1.out
        case measure => simp [intOf]; omega
      | false =>
        rw [hq, Bool.not_false, Bool.true_and] at HCF
        go_wp2_with fail
        refine (pre1_call (TT.out _ BW1.out) heb ho).mono ?_
        rintro ex w2 ⟨rfl, hb2⟩
        have bx2 := (hb2.cell (p := ⟨wr.heap.size, 0, none⟩) hlt1).trans bx1
        have hlt2 : wr.heap.size < w2.heap.size := Nat.lt_of_lt_of_le hlt1 hb2.size
        have BW2 := Lib.hid (BW1.out.trans (hb2.mono BW1.out.size))
        clear hb2 bx1 hlt1 BW1
        cases hp1 : wM e.o o with
        | true =>
          have hyes : qP o e = true := by rw [HCF.out, hp1]; rfl
          have HYES := Lib.hid hyes
          clear hyes HCF
          go_wp2_with fail
          refine (copyOf_I A' c' e.o _ (by omega) (TT.out _ BW2.out).rp).mono ?_
          rintro ex w4 ⟨g4, c4, rfl, hown4, hb4⟩
          have hsz4 := hb4.size
          have BW4 := Lib.hid (BW2.out.trans (hb4.mono BW2.out.size))
          have OW4 := Lib.hid hown4
          have NE4 := Lib.hid (NE.out.below BW2.out)
          have hz4 : wr.heap.size ≤ w4.heap.size := BW4.out.size
          have HB4 := Lib.hid hb4
          clear hb4 hown4
          go_wp2_with (at_builtin; go_must (refine app_SL _ rfl _ _ rfl w.heap.size (.slice OA S.length oc) S rfl (NE.out.out.below BW4.out) (some ⟨g4, 0, none⟩, e.o.length, c4) rfl S.length rfl (by omega) (by have := HSZ.out; omega) ?_; rintro g cap w5 hown5 hg5 hat5 hlt5; have NE5 := Lib.hid (NE4.out.push (s := (some ⟨g4, 0, none⟩, e.o.length, c4)) (o := e.o) HB4.out rfl (OW4.out.mono (by have := HSZ.out; omega)) (fun b hb => (by have := (OW4.out.lt b hb).1; omega)) hown5 hg5 (hat5.imp id Nat.le_of_lt)); have BEL5 := Lib.hid ((BEL.out.trans (BW4.out.mono HSZ.out)).grown hg5 (by have := HSZ.out; omega) (fun b hb => (NE.out.out.lt b hb).1)); clear hown5 hg5 hat5; simp only [Act.put, List.setIfInBounds_toArray, List.set_cons_succ, List.set_cons_zero]))
          go_roundw
          case rel =>
            refine ⟨k + 1, S ++ [(some ⟨g4, 0, none⟩, e.o.length, c4)], by omega, by go_num, ?_, BEL5.out⟩
            rw [cfs_yes HE.out HYES.out]
            exact NE5.out
          case measure => simp [intOf]; omega
        | false =>
          rw [hp1, Bool.false_or] at HCF
          go_wp2_with fail
          refine (pre2_call (TT.out _ BW2.out) heb ho).mono ?_
          rintro ex w3 ⟨rfl, hb3⟩
          have bx3 := (hb3.cell (p := ⟨wr.heap.size, 0, none⟩) hlt2).trans bx2
          have hlt3 : wr.heap.size < w3.heap.size := Nat.lt_of_lt_of_le hlt2 hb3.size
          have BW3 := Lib.hid (BW2.out.trans (hb3.mono BW2.out.size))
          clear hb3 bx2 hlt2 BW2
          cases hp2 : wM o e.o with
          | false =>
            have hno : qP o e = false := HCF.out.trans hp2
            have HNO := Lib.hid hno
            clear hno HCF
            go_wp2
            go_roundw
            case rel =>
              refine ⟨k + 1, S, by omega, by go_num, ?_, BEL.out.trans (BW3.out.mono HSZ.out)⟩
              rw [cfs_no HE.out HNO.out]
              exact NE.out.below BW3.out
            case measure => simp [intOf]; omega
          | true =>
            have hyes : qP o e = true := HCF.out.trans hp2
            have HYES := Lib.hid hyes
            clear hyes HCF
            go_wp2_with fail
            refine (copyOf_I A' c' e.o _ (by omega) (TT.out _ BW3.out).rp).mono ?_
            rintro ex w4 ⟨g4, c4, rfl, hown4, hb4⟩
            have hsz4 := hb4.size
            have BW4 := Lib.hid (BW3.out.trans (hb4.mono BW3.out.size))
            have OW4 := Lib.hid hown4
            have NE4 := Lib.hid (NE.out.below BW3.out)
            have hz4 : wr.heap.size ≤ w4.heap.size := BW4.out.size
            have HB4 := Lib.hid hb4
            clear hb4 hown4
            go_wp2_with (at_builtin; go_must (refine app_SL _ rfl _ _ rfl w.heap.size (.slice OA S.length oc) S rfl (NE.out.out.below BW4.out) (some ⟨g4, 0, none⟩, e.o.length, c4) rfl S.length rfl (by omega) (by have := HSZ.out; omega) ?_; rintro g cap w5 hown5 hg5 hat5 hlt5; have NE5 := Lib.hid (NE4.out.push (s := (some ⟨g4, 0, none⟩, e.o.length, c4)) (o := e.o) HB4.out rfl (OW4.out.mono (by have := HSZ.out; omega)) (fun b hb => (by have := (OW4.out.lt b hb).1; omega)) hown5 hg5 (hat5.imp id Nat.le_of_lt)); have BEL5 := Lib.hid ((BEL.out.trans (BW4.out.mono HSZ.out)).grown hg5 (by have := HSZ.out; omega) (fun b hb => (NE.out.out.lt b hb).1)); clear hown5 hg5 hat5; simp only [Act.put, List.setIfInBounds_toArray, List.set_cons_succ, List.set_cons_zero]))
            go_roundw
            case rel =>
              refine ⟨k + 1, S ++ [(some ⟨g4, 0, none⟩, e.o.length, c4)], by omega, by go_num, ?_, BEL5.out⟩
              rw [cfs_yes HE.out HYES.out]
              exact NE5.out
            case measure => simp [intOf]; omega
    · go_wp2
      go_ret
      obtain rfl : k = es.length := by omega
      rw [List.take_length] at hne
      exact ⟨_, rfl, hne.got, hbel⟩
theorem implD_call {es : List Ent} (hb : wX es) {w : World} {A : Option Addr} {c : Nat} (hr : RdE w w.heap.size A (enL es)) (hc : es.length ≤ c) (gi : GI (fun b => b < w.heap.size) w) :
    Calls Tryd.prog 26 #[.agg #[.slice A es.length c]] w fun e w' => e = .returned (.bool (vR es)) ∧ Below w.heap.size w w' :=
  qF (implGood_pf es hb) gi (vals := [_]) (.cons (vG hr hc) .nil)
theorem implO_call {o : List Int} (ho : o.length ≤ 1048576) {w : World} {A : Option Addr} {c : Nat} (hr : Rep (fun b => b < w.heap.size) (fun _ => none) w (.sl (o.map yG)) (.slice A o.length c)) (gi : GI (fun b => b < w.heap.size) w) :
    Calls Tryd.prog 34 #[.slice A o.length c] w fun e w' => e = .returned (.bool (vA o)) ∧ Below w.heap.size w w' :=
  qF (implOut_pf o (by omega)) gi (vals := [_]) (.cons hr .nil)
structure ArgO (w : World) (A : Option Addr) (c : Nat) (es : List Ent) (A2 : Option Addr) (c2 : Nat) (o : List Int) : Prop where
  rd : RdE w w.heap.size A (enL es)
  ro : RepI (fun b => b < w.heap.size) w (.sl (o.map yG)) (.slice A2 o.length c2)
  gi : GI (fun b => b < w.heap.size) w
theorem ArgO.up {w w' : World} {A : Option Addr} {c : Nat} {es : List Ent} {A2 : Option Addr} {c2 : Nat} {o : List Int} (h : ArgO w A c es A2 c2 o) (hb : Below w.heap.size w w') : ArgO w' A c es A2 c2 o :=
  ⟨(h.rd.below hb (Nat.le_refl _)).mono hb.size, h.ro.mono (fun _ hk => Nat.lt_of_lt_of_le hk hb.size) (fun b hk => hb.block b hk), GI.up h.gi (fun b hk => hb.block b hk) hb.size⟩
set_option maxRecDepth 100000 in
theorem pcI_yes {es : List Ent} {o : List Int} (hb : wX es) (ho : o.length ≤ 1048576) (h : wW es o = true) (W : World) (A : Option Addr) (c : Nat) (A2 : Option Addr) (c2 : Nat) (hc : es.length ≤ c) (a : ArgO W A c es A2 c2 o) :
    Calls Tryd.prog 16 #[.agg #[.slice A es.length c], .slice A2 o.length c2] W fun e W' => ∃ u, e = .returned (.tuple #[u, .bool true]) ∧ GotN W.heap.size W'.heap.size W' (cfs es o) u ∧ Below W.heap.size W W' := by
  have AA : Hid (∀ W1, Below W.heap.size W W1 → ArgO W1 A c es A2 c2 o) := Lib.hid fun W1 hb => a.up hb
  rw [wW, Bool.and_eq_true] at h
  have HD := Lib.hid h.1
  have HO := Lib.hid h.2
  have HB := Lib.hid hb
  clear a h hb
  go_enter Tryd.func16, Tryd.ntmps16
  go_wp2_with fail
  refine (implD_call HB.out (AA.out _ (by repeat (first | exact Below.refl _ _ | assumption | refine Below.alloc ?_ (by first | (simp; done) | (simp; omega) | omega) _ | refine Below.setCell ?_ (by first | (simp; done) | (simp; omega) | omega) _ | refine Below.drew ?_))).rd hc (AA.out _ (by repeat (first | exact Below.refl _ _ | assumption | refine Below.alloc ?_ (by first | (simp; done) | (simp; omega) | omega) _ | refine Below.setCell ?_ (by first | (simp; done) | (simp; omega) | omega) _ | refine Below.drew ?_))).gi).mono ?_
  rintro e w1 ⟨rfl, hb1⟩
  rw [HD.out]
  have hbl : Below W.heap.size W w1 := (show Below W.heap.size W _ by repeat (first | exact Below.refl _ _ | assumption | refine Below.alloc ?_ (by first | (simp; done) | (simp; omega) | omega) _ | refine Below.setCell ?_ (by first | (simp; done) | (simp; omega) | omega) _ | refine Below.drew ?_)).trans (hb1.mono (by simp))
  have c0 := (hb1.cell (p := ⟨W.heap.size, 0, none⟩) (by first | (simp; done) | (simp; omega) | omega)).trans (show World.cell? _ ⟨W.heap.size, 0, none⟩ = some (.slice A es.length c) by go_simp)
  have hl1 : W.heap.size < w1.heap.size := by have := hb1.size; simp only [World.size_alloc] at this; omega
  have BL1 := Lib.hid hbl
  clear hb1 hbl
  go_wp2_with fail
  refine (implO_call ho (Rep.imm (AA.out _ BL1.out).ro) (AA.out _ BL1.out).gi).mono ?_
  rintro e w2 ⟨rfl, hb2⟩
  rw [HO.out]
  have c2' := (hb2.cell (p := ⟨W.heap.size, 0, none⟩) hl1).trans c0
  have BL2 := Lib.hid (BL1.out.trans (hb2.mono BL1.out.size))
  clear hb2 c0 BL1 hl1
  go_wp2_with fail
  refine (confl_any A c es A2 c2 o _ (AA.out _ BL2.out).gi HB.out ho (AA.out _ BL2.out).rd (AA.out _ BL2.out).ro).mono ?_
  rintro e w3 ⟨v, rfl, hg, hb3⟩
  have HG3 := Lib.hid hg
  have HB3 := Lib.hid (BL2.out.trans (hb3.mono BL2.out.size))
  have HSZ := Lib.hid BL2.out.size
  clear hg hb3
  go_wp2
  refine bodyPost_ret (v := .tuple #[v, .bool true]) (by simp [results, Tryd.results16, go_sem]) rfl ?_
  obtain ⟨S, n1, n2, n3⟩ := HG3.out
  exact ⟨v, rfl, ⟨S, ⟨n1.len, n1.out.mono HSZ.out, fun k s o hs ho => ⟨(n1.inn k s o hs ho).1, (n1.inn k s o hs ho).2.mono HSZ.out⟩, n1.dis, n1.ne⟩, fun k s b hs hbk => n2 k s b hs hbk, n3⟩, HB3.out⟩
end Go.Proofs.YtjeffognhcbiaaaDoor
