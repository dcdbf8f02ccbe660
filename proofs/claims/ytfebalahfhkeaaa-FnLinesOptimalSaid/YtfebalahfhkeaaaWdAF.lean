/- The starts that are drawn; and FnLinesOptimal returns true. No conditions but the bounds that every argument keeps. -/
import Derived.Test.YtfebalahfhkeaaaWdJ
namespace Go.Proofs.Ytfebalahfhkeaaa
open Go Go.RowKit
/-! the cost of a break, from its front -/
section
variable {ls : List Nat} {w : Nat}
theorem endAt_cons {a : Nat} {ks : List Nat} {n j : Nat} : endAt (a :: ks) n (j + 1) = endAt ks n j := by rw [endAt, endAt, List.getElem?_cons_succ]
theorem bc_cons {a : Nat} {ks : List Nat} : ∀ c, bc ls w (a :: ks) (c + 1) = if lineC ls w a (endAt (a :: ks) ls.length 0) < 0 then none else (bc ls w ks c).map fun s => (lineC ls w a (endAt (a :: ks) ls.length 0)).toNat + s
  | 0 => by
    rw [bc, bc, bc]
    simp
  | c + 1 => by
    have ih := bc_cons (a := a) (ks := ks) c
    rw [bc, ih, bc.eq_2 ls w ks c, endAt_cons]
    simp only [List.getElem?_cons_succ]
    by_cases h : lineC ls w a (endAt (a :: ks) ls.length 0) < 0
    · rw [if_pos h, if_pos h]
    · rw [if_neg h, if_neg h]
      cases bc ls w ks c with
      | none => rfl
      | some s =>
        simp only [Option.map_some]
        split
        · rfl
        · simp only [Option.map_some]; rw [Nat.add_assoc]
theorem run_ok (hf : ∀ j, j < ls.length → len ls j (j + 1) ≤ w) : ∀ {f i : Nat}, i < ls.length → ls.length ≤ i + f → (∀ (j k : Nat), (run ls w f i)[j]? = some k → k < ls.length) ∧ (∀ (j x y : Nat), (run ls w f i)[j]? = some x → (run ls w f i)[j + 1]? = some y → x < y) ∧ (run ls w f i)[0]? = some i ∧ (run ls w f i).length ≤ ls.length - i ∧ bc ls w (run ls w f i) (run ls w f i).length = some (bB ls w i).toNat := by
  intro f
  induction f with
  | zero => intro i h1 h2; omega
  | succ f ih =>
    intro i hi hfi
    obtain ⟨h1, h2, h3, _⟩ := nx_spec hf hi
    have hb0 := (bB_min hf (d := ls.length - nx ls w i) (i := nx ls w i) (by omega)).1
    rw [run_lt hi]
    simp only [goodK, Bool.and_eq_true, decide_eq_true_eq] at h3
    obtain ⟨g1, g2⟩ := h3
    rcases Nat.lt_or_ge (nx ls w i) ls.length with h | h
    · obtain ⟨i1, i2, i3, i4, i5⟩ := ih h (by omega)
      generalize run ls w f (nx ls w i) = r at i1 i2 i3 i4 i5
      have he : endAt (i :: r) ls.length 0 = nx ls w i := endAt_next (by simpa using i3)
      refine ⟨fun j k hk => ?_, fun j x y hx hy => ?_, rfl, by simp only [List.length_cons]; omega, ?_⟩
      · cases j with
        | zero => cases hk; exact hi
        | succ j => exact i1 j k (by simpa using hk)
      · cases j with
        | zero =>
          cases hx
          have hy' : r[0]? = some y := by simpa using hy
          rw [i3] at hy'
          cases hy'
          exact h1
        | succ j => exact i2 j x y (by simpa using hx) (by simpa using hy)
      · rw [List.length_cons, bc_cons, he, if_neg (by omega), i5, Option.map_some]
        congr 1
        omega
    · have e : nx ls w i = ls.length := by omega
      rw [run_ge (by omega)]
      have he : endAt [i] ls.length 0 = ls.length := endAt_last (by simp)
      rw [e] at g1 g2 hb0
      rw [bB_end] at g2
      refine ⟨fun j k hk => ?_, fun j x y hx hy => ?_, rfl, by simp only [List.length_cons, List.length_nil]; omega, ?_⟩
      · cases j with
        | zero => cases hk; exact hi
        | succ j => simp at hk
      · simp at hy
      · show bc ls w [i] (0 + 1) = _
        rw [bc_cons, he, if_neg (by omega)]
        show some ((lineC ls w i ls.length).toNat + 0) = _
        congr 1
        omega
theorem path_asc (hf : ∀ j, j < ls.length → len ls j (j + 1) ≤ w) : Asc (path ls w) ls.length := by
  rcases Nat.eq_zero_or_pos ls.length with h | h
  · rw [path, run_ge (by omega)]
    exact ⟨fun j k e => by simp at e, fun j a b e => by simp at e, Nat.zero_le _, .inl h⟩
  · obtain ⟨h1, h2, h3, h4, _⟩ := run_ok hf h (f := ls.length) (by omega)
    exact ⟨h1, h2, by rw [path]; omega, .inr h3⟩
theorem path_bc (hf : ∀ j, j < ls.length → len ls j (j + 1) ≤ w) : bc ls w (path ls w) (path ls w).length = some (bB ls w 0).toNat := by
  rcases Nat.eq_zero_or_pos ls.length with h | h
  · have e := bB_end (ls := ls) (w := w)
    rw [h] at e
    rw [path, run_ge (by omega), e]; rfl
  · exact (run_ok hf h (f := ls.length) (by omega)).2.2.2.2
theorem bc_min (hf : ∀ j, j < ls.length → len ls j (j + 1) ≤ w) : ∀ {ks : List Nat} {a s : Nat}, (∀ (j k : Nat), (a :: ks)[j]? = some k → k < ls.length) → (∀ (j x y : Nat), (a :: ks)[j]? = some x → (a :: ks)[j + 1]? = some y → x < y) → bc ls w (a :: ks) (a :: ks).length = some s → bB ls w a ≤ s
  | [], a, s, h1, h2, h => by
    have ha := h1 0 a rfl
    have he : endAt [a] ls.length 0 = ls.length := endAt_last (by simp)
    change bc ls w [a] (0 + 1) = some s at h
    rw [bc_cons, he] at h
    split at h
    · cases h
    · have h3 : (lineC ls w a ls.length).toNat + 0 = s := by simpa [bc] using h
      have h4 := ((bB_min hf (d := ls.length - a) (i := a) (by omega)).2 ha).2 ls.length ha (Nat.le_refl _) (by omega)
      rw [bB_end] at h4
      omega
  | b :: ks, a, s, h1, h2, h => by
    have ha := h1 0 a rfl
    have hb := h1 1 b rfl
    have hab := h2 0 a b rfl rfl
    have he : endAt (a :: b :: ks) ls.length 0 = b := endAt_next rfl
    rw [List.length_cons, bc_cons, he] at h
    split at h
    · cases h
    · cases hr : bc ls w (b :: ks) (b :: ks).length with
      | none => rw [hr] at h; cases h
      | some s' =>
        rw [hr] at h
        have h3 : (lineC ls w a b).toNat + s' = s := by simpa using h
        have ih := bc_min hf (fun j k hk => h1 (j + 1) k (by simpa using hk)) (fun j x y hx hy => h2 (j + 1) x y (by simpa using hx) (by simpa using hy)) hr
        have h4 := ((bB_min hf (d := ls.length - a) (i := a) (by omega)).2 ha).2 b hab (by omega) (by omega)
        omega
theorem asc_min (hf : ∀ j, j < ls.length → len ls j (j + 1) ≤ w) {ks : List Nat} {s : Nat} (ha : Asc ks ls.length) (h : bc ls w ks ks.length = some s) : ((bB ls w 0).toNat : Int) ≤ s := by
  rcases Nat.eq_zero_or_pos ls.length with h0 | h0
  · have e := bB_end (ls := ls) (w := w)
    rw [h0] at e
    rw [e]; omega
  · rcases ha.zero with hz | hz
    · omega
    · cases ks with
      | nil => simp at hz
      | cons a ks =>
        have e : a = 0 := by simpa using hz
        subst e
        have := bc_min hf ha.lt ha.asc h
        omega
end
theorem imP3 {a b c : AObj} (h1 : ∀ x ∈ a.els, ∀ c ∈ x, Imm c) (h2 : ∀ x ∈ b.els, ∀ c ∈ x, Imm c) (h3 : ∀ x ∈ c.els, ∀ c ∈ x, Imm c) : ∀ obj, some obj ∈ [some a, some b, some c] → ∀ x ∈ obj.els, ∀ c ∈ x, Imm c := fun obj hm => by
  simp at hm
  rcases hm with rfl | rfl | rfl
  · exact h1
  · exact h2
  · exact h3
/-! the starts that are drawn -/
def dsC (code : List UInt8) (c : Cur) : Nat → Cur
  | 0 => c
  | k + 1 => if k = 0 then dsC code c k else pkC code (dsC code c k) 3
def dsL (code : List UInt8) (c : Cur) : Nat → List Int
  | 0 => []
  | k + 1 => if k = 0 ∨ pkV code (dsC code c k) 3 = 0 then dsL code c k ++ [(k : Int)] else dsL code c k
theorem dsC_a (code : List UInt8) (c : Cur) : ∀ k, (dsC code c k).a ≤ c.a + k
  | 0 => Nat.le_refl _
  | k + 1 => by
    have h1 := dsC_a code c k
    have h2 := pkC_a code (dsC code c k) 3
    rw [dsC]; split <;> omega
theorem dsL_le (code : List UInt8) (c : Cur) : ∀ k, (dsL code c k).length ≤ k
  | 0 => Nat.le_refl _
  | k + 1 => by
    have h1 := dsL_le code c k
    rw [dsL]; split
    · simp; omega
    · omega
def dfC (code : List UInt8) (c : Cur) : Cur := if pkV code c 15 = 0 then pkC code (pkC code c 15) 9 else pkC code c 15
def dfL (code : List UInt8) (c : Cur) (l : List Int) : List Int := if pkV code c 15 = 0 then l ++ [pkV code (pkC code c 15) 9 - 1] else l
theorem dfL_le (code : List UInt8) (c : Cur) (l : List Int) : (dfL code c l).length ≤ l.length + 1 := by
  rw [dfL]; split <;> simp
theorem l19DrawStarts_pfm (code : List UInt8) (c : Cur) (hl : code.length ≤ 65536) (hc : c.a ≤ 10000000) (ws : List (List UInt8)) (hw : ws.length ≤ 100) :
    PFM Try.prog 69 [curO code c, ⟨9, 1, ws.map eStr⟩] [.c (.ptr 0 0 0), .c (.ref 1 0 ws.length)] [some (curO code (dfC code (dsC code c ws.length))), some ⟨9, 1, ws.map eStr⟩, some ⟨3, 1, (dfL code (dsC code c ws.length) (dsL code c ws.length)).map eInt⟩] (.c (.ref 2 0 (dfL code (dsC code c ws.length) (dsL code c ws.length)).length)) := by
  have hsc := (strs_sc ws).imm
  refine PFM.enterT (enum2 _ _) (enumM2 _ _) rfl Try.func69 rfl (by kernel_rfl) _ _ rfl rfl rfl (fun w0 mu I0 β0 => ?_)
  (repeat' (first|(apply xW;(first|exact Want.none_ rfl|(refine wantG rfl rfl rfl rfl ?_;(first|assumption|exact dT ‹_›|exact dF ‹_›|exact rfl))))|(apply xF tabOk;exact rfl;exact rfl)|((first|(apply rx_cat;exact rfl;exact rfl)|apply rx_add|apply rx_sub|apply rx_mul|apply rx_quo|apply rx_rem|apply rx_neg|apply rx_ixS|(apply rx_ixSl;exact rfl;exact rfl)|apply rx_ixRef|(apply rx_load;exact rfl;exact rfl;exact tabOk;exact rfl;exact rfl)|apply rx_loadAgg|apply rx_build|apply rx_buildSlice|apply rx_alloc|apply rx_makeFunc|apply rx_makeSlice|(apply rx_appRef;exact rfl;exact rfl)|apply rx_appNil|(apply rx_sliceS;exact rfl;exact rfl)|(apply rx_sliceSl;exact rfl;exact rfl)|apply rx_sliceRef|apply rx_min|apply rx_max|apply rx_store)<;>(first|exact tabOk|exact Nat.zero_add _|exact rfl|refine rxid ?_|assumption|omega|exact ⟨rfl⟩|exact ⟨rfl,_,_,rfl,rfl⟩|exact lb rfl|(refine Bd.mk ?_;first|assumption|omega|(focus (simp;done))|(simp;omega)|decide)|exact set_at ‹_›|exact set_at (set_at ‹_›)|(focus (refine ⟨rfl,_,_,rfl,?_⟩;omega))|(focus (simp;done))|(simp;omega)|(simp only [lA,lB,lC,lD,lE];omega)|exact newsAll rfl (by first|rfl|(simp;done)|(simp only [lA,lB,lC,lD,lE];omega))))|(apply xPick;exact rfl;exact rfl;(first|assumption|exact dT ‹_›|exact dF ‹_›|exact rfl);exact rfl;exact rfl)|(apply xSkip;(iterate 5 exact rfl);(first|assumption|exact dT ‹_›|exact dF ‹_›|exact rfl))|(apply xSkipN;(iterate 5 exact rfl))|apply rx_end|(refine rx_endD ?_ ?_;kernel_rfl)|apply AWp.seq|apply thenK_normal|apply AWp.reg|apply AWp.block|apply AWp.skip|apply AWp.label|apply AWp.exit|apply AWp.ret|apply thenK_exit|apply thenK_ret|apply blockK_normal|apply blockK_ret|apply blockK_exit|(refine AWp.regD ?_ ?_;kernel_rfl)|(refine blockK_other rfl ?_)|(apply AWp.condT;exact rfl;(first|assumption|exact dT ‹_›|exact dF ‹_›|exact rfl))|(apply AWp.condF;exact rfl;(first|assumption|exact dT ‹_›|exact dF ‹_›|exact rfl))|((first|refine rx_splitP rfl rfl rfl ?_ ?_|refine rx_split rfl rfl rfl ?_ ?_)<;>intro hp<;>(try (exfalso;omega)))|((first|refine AWp.condP rfl ?_ ?_|refine AWp.cond _ rfl ?_ ?_)<;>intro hp<;>(try (exfalso;omega)))))
  refine AWp.loop (σ := Nat) (fun k => ⟨[(0, .c (.ptr 0 0 0)), (1, .c (.ref 1 0 ws.length)), (5, .c (.ref 2 0 (dsL code c k).length)), (6, .c (int k))], [(0, some (curO code (dsC code c k))), (1, some ⟨9, 1, ws.map eStr⟩), (2, some ⟨3, 1, (dsL code c k).map eInt⟩)], 3⟩) (fun k => k ≤ ws.length) (fun k => ws.length - k) 0 (Nat.zero_le _) ?_ ?_
  · refine Weak.of [(0, some 0), (1, some 1), (2, some 2)] rfl ?_ ?_ <;> (repeat' (first|exact trivial|exact rfl|exact Or.inr ⟨rfl,‹_›⟩|apply And.intro|exact congrArg (Value.int .i64) (by first|omega|(simp;done)|(simp;omega))|(refine natEq ?_;first|(focus (simp;done))|omega|(simp only [lA,lB,lC,lD,lE];omega))|(refine ⟨_,rfl,rfl,rfl,OW.one ?_⟩)|(refine ⟨_,rfl,rfl,rfl,OW.same ?_ ?_⟩)|refine vwB ?_|refine vwS ?_|refine vwI ?_|refine fwB ?_|refine fwS ?_|refine fwI ?_|(refine AllSc.imm ?_;first|exact AllSc.nil|assumption)))
    all_goals first | exact curO_im _ _ | exact hsc | skip
  · rintro k hk
    have ha := dsC_a code c k
    have hle := dsL_le code c k
    by_cases hlt : k < ws.length
    · have hlt' : (k : Int) < (ws.length : Int) := by omega
      have hnx : dsC code c (k + 1) = if k = 0 then dsC code c k else pkC code (dsC code c k) 3 := rfl
      have hnl : dsL code c (k + 1) = if k = 0 ∨ pkV code (dsC code c k) 3 = 0 then dsL code c k ++ [(k : Int)] else dsL code c k := rfl
      generalize dsC code c k = d at ha hnx hnl
      generalize dsL code c k = l at hle hnl
      have q1 := one_pfm code d hl (by omega) 3 (by omega)
      have k2 := imO2 (curO_im code (pkC code d 3))
      have m2 := iiP1 (curO_im code d)
      by_cases hk0 : k = 0
      · have hk0' : (k : Int) = 0 := by omega
        (repeat' (first|(apply xW;(first|exact Want.none_ rfl|(refine wantG rfl rfl rfl rfl ?_;(first|assumption|exact dT ‹_›|exact dF ‹_›|exact rfl))))|(apply xF tabOk;exact rfl;exact rfl)|((first|(apply rx_cat;exact rfl;exact rfl)|apply rx_add|apply rx_sub|apply rx_mul|apply rx_quo|apply rx_rem|apply rx_neg|apply rx_ixS|(apply rx_ixSl;exact rfl;exact rfl)|apply rx_ixRef|(apply rx_load;exact rfl;exact rfl;exact tabOk;exact rfl;exact rfl)|apply rx_loadAgg|apply rx_build|apply rx_buildSlice|apply rx_alloc|apply rx_makeFunc|apply rx_makeSlice|(apply rx_appRef;exact rfl;exact rfl)|apply rx_appNil|(apply rx_sliceS;exact rfl;exact rfl)|(apply rx_sliceSl;exact rfl;exact rfl)|apply rx_sliceRef|apply rx_min|apply rx_max|apply rx_store)<;>(first|exact tabOk|exact Nat.zero_add _|exact rfl|refine rxid ?_|assumption|omega|exact ⟨rfl⟩|exact ⟨rfl,_,_,rfl,rfl⟩|exact lb rfl|(refine Bd.mk ?_;first|assumption|omega|(focus (simp;done))|(simp;omega)|decide)|exact set_at ‹_›|exact set_at (set_at ‹_›)|(focus (refine ⟨rfl,_,_,rfl,?_⟩;omega))|(focus (simp;done))|(simp;omega)|(simp only [lA,lB,lC,lD,lE];omega)|exact newsAll rfl (by first|rfl|(simp;done)|(simp only [lA,lB,lC,lD,lE];omega))))|(apply xPick;exact rfl;exact rfl;(first|assumption|exact dT ‹_›|exact dF ‹_›|exact rfl);exact rfl;exact rfl)|(apply xSkip;(iterate 5 exact rfl);(first|assumption|exact dT ‹_›|exact dF ‹_›|exact rfl))|(apply xSkipN;(iterate 5 exact rfl))|apply rx_end|(refine rx_endD ?_ ?_;kernel_rfl)|apply AWp.seq|apply thenK_normal|apply AWp.reg|apply AWp.block|apply AWp.skip|apply AWp.label|apply AWp.exit|apply AWp.ret|apply thenK_exit|apply thenK_ret|apply blockK_normal|apply blockK_ret|apply blockK_exit|(refine AWp.regD ?_ ?_;kernel_rfl)|(refine blockK_other rfl ?_)|(apply AWp.condT;exact rfl;(first|assumption|exact dT ‹_›|exact dF ‹_›|exact rfl))|(apply AWp.condF;exact rfl;(first|assumption|exact dT ‹_›|exact dF ‹_›|exact rfl))|((first|refine rx_splitP rfl rfl rfl ?_ ?_|refine rx_split rfl rfl rfl ?_ ?_)<;>intro hp<;>(try (exfalso;omega)))|((first|refine AWp.condP rfl ?_ ?_|refine AWp.cond _ rfl ?_ ?_)<;>intro hp<;>(try (exfalso;omega)))))
        refine ⟨k + 1, by omega, by omega, ?_⟩
        rw [if_pos hk0] at hnx
        rw [if_pos (.inl hk0)] at hnl
        simp only [hnx, hnl]
        refine Weak.of [(0, some 0), (1, some 1), (2, some 4)] rfl ?_ ?_ <;> (repeat' (first|exact trivial|exact rfl|exact Or.inr ⟨rfl,‹_›⟩|apply And.intro|exact congrArg (Value.int .i64) (by first|omega|(simp;done)|(simp;omega))|(refine natEq ?_;first|(focus (simp;done))|omega|(simp only [lA,lB,lC,lD,lE];omega))|(refine ⟨_,rfl,rfl,rfl,OW.one ?_⟩)|(refine ⟨_,rfl,rfl,rfl,OW.same ?_ ?_⟩)|refine vwB ?_|refine vwS ?_|refine vwI ?_|refine fwB ?_|refine fwS ?_|refine fwI ?_|(refine AllSc.imm ?_;first|exact AllSc.nil|assumption)))
        all_goals first | exact curO_im _ _ | exact hsc | exact (ints_sc _).imm | (simp [eInt]; done) | (simp [eInt]; exact rfl) | skip
      · have hk0' : ¬ (k : Int) = 0 := by omega
        rw [if_neg hk0] at hnx
        (repeat' (first|(apply xW;(first|exact Want.none_ rfl|(refine wantG rfl rfl rfl rfl ?_;(first|assumption|exact dT ‹_›|exact dF ‹_›|exact rfl))))|(apply xF tabOk;exact rfl;exact rfl)|((first|(apply rx_cat;exact rfl;exact rfl)|apply rx_add|apply rx_sub|apply rx_mul|apply rx_quo|apply rx_rem|apply rx_neg|apply rx_ixS|(apply rx_ixSl;exact rfl;exact rfl)|apply rx_ixRef|(apply rx_load;exact rfl;exact rfl;exact tabOk;exact rfl;exact rfl)|apply rx_loadAgg|apply rx_build|apply rx_buildSlice|apply rx_alloc|apply rx_makeFunc|apply rx_makeSlice|(apply rx_appRef;exact rfl;exact rfl)|apply rx_appNil|(apply rx_sliceS;exact rfl;exact rfl)|(apply rx_sliceSl;exact rfl;exact rfl)|apply rx_sliceRef|apply rx_min|apply rx_max|apply rx_store)<;>(first|exact tabOk|exact Nat.zero_add _|exact rfl|refine rxid ?_|assumption|omega|exact ⟨rfl⟩|exact ⟨rfl,_,_,rfl,rfl⟩|exact lb rfl|(refine Bd.mk ?_;first|assumption|omega|(focus (simp;done))|(simp;omega)|decide)|exact set_at ‹_›|exact set_at (set_at ‹_›)|(focus (refine ⟨rfl,_,_,rfl,?_⟩;omega))|(focus (simp;done))|(simp;omega)|(simp only [lA,lB,lC,lD,lE];omega)|exact newsAll rfl (by first|rfl|(simp;done)|(simp only [lA,lB,lC,lD,lE];omega))))|(apply xPick;exact rfl;exact rfl;(first|assumption|exact dT ‹_›|exact dF ‹_›|exact rfl);exact rfl;exact rfl)|(apply xSkip;(iterate 5 exact rfl);(first|assumption|exact dT ‹_›|exact dF ‹_›|exact rfl))|(apply xSkipN;(iterate 5 exact rfl))|apply rx_end|(refine rx_endD ?_ ?_;kernel_rfl)|apply AWp.seq|apply thenK_normal|apply AWp.reg|apply AWp.block|apply AWp.skip|apply AWp.label|apply AWp.exit|apply AWp.ret|apply thenK_exit|apply thenK_ret|apply blockK_normal|apply blockK_ret|apply blockK_exit|(refine AWp.regD ?_ ?_;kernel_rfl)|(refine blockK_other rfl ?_)|(apply AWp.condT;exact rfl;(first|assumption|exact dT ‹_›|exact dF ‹_›|exact rfl))|(apply AWp.condF;exact rfl;(first|assumption|exact dT ‹_›|exact dF ‹_›|exact rfl))|(apply (rx_callMR (q1));(iterate 7 exact rfl);(focus (repeat (first|exact All2.nil|refine All2.cons rfl ?_)));exact rfl;(focus (repeat (first|exact MAs.nil|apply MAs.cons|apply MA.c|apply MA.agg|exact MCs.nil|apply MCs.cons|exact MC.ref rfl|exact MC.ptr rfl|exact MC.vc (VC.imm (Imm.v _))|exact MC.vc (VC.imm (Imm.sl _))|exact MC.vc (VC.imm (Imm.ip _))|exact MC.vc VC.nil)));(first|assumption|(apply imO1;assumption)|(apply imO2;assumption));(first|exact imI0|assumption|(apply imI1;assumption));exact rfl;exact rfl)|((first|refine rx_splitP rfl rfl rfl ?_ ?_|refine rx_split rfl rfl rfl ?_ ?_)<;>intro hp<;>(try (exfalso;omega)))|((first|refine AWp.condP rfl ?_ ?_|refine AWp.cond _ rfl ?_ ?_)<;>intro hp<;>(try (exfalso;omega)))))
        · refine ⟨k + 1, by omega, by omega, ?_⟩
          rw [if_pos (.inr hp)] at hnl
          simp only [hnx, hnl]
          refine Weak.of [(0, some 0), (1, some 1), (2, some 4)] rfl ?_ ?_ <;> (repeat' (first|exact trivial|exact rfl|exact Or.inr ⟨rfl,‹_›⟩|apply And.intro|exact congrArg (Value.int .i64) (by first|omega|(simp;done)|(simp;omega))|(refine natEq ?_;first|(focus (simp;done))|omega|(simp only [lA,lB,lC,lD,lE];omega))|(refine ⟨_,rfl,rfl,rfl,OW.one ?_⟩)|(refine ⟨_,rfl,rfl,rfl,OW.same ?_ ?_⟩)|refine vwB ?_|refine vwS ?_|refine vwI ?_|refine fwB ?_|refine fwS ?_|refine fwI ?_|(refine AllSc.imm ?_;first|exact AllSc.nil|assumption)))
          all_goals first | exact curO_im _ _ | exact hsc | exact (ints_sc _).imm | (simp [eInt]; done) | (simp [eInt]; exact rfl) | skip
        · refine ⟨k + 1, by omega, by omega, ?_⟩
          rw [if_neg (by omega)] at hnl
          simp only [hnx, hnl]
          refine Weak.of [(0, some 0), (1, some 1), (2, some 2)] rfl ?_ ?_ <;> (repeat' (first|exact trivial|exact rfl|exact Or.inr ⟨rfl,‹_›⟩|apply And.intro|exact congrArg (Value.int .i64) (by first|omega|(simp;done)|(simp;omega))|(refine natEq ?_;first|(focus (simp;done))|omega|(simp only [lA,lB,lC,lD,lE];omega))|(refine ⟨_,rfl,rfl,rfl,OW.one ?_⟩)|(refine ⟨_,rfl,rfl,rfl,OW.same ?_ ?_⟩)|refine vwB ?_|refine vwS ?_|refine vwI ?_|refine fwB ?_|refine fwS ?_|refine fwI ?_|(refine AllSc.imm ?_;first|exact AllSc.nil|assumption)))
          all_goals first | exact curO_im _ _ | exact hsc | exact (ints_sc _).imm | (simp [eInt]; done) | (simp [eInt]; exact rfl) | skip
    · have hlt' : ¬ (k : Int) < (ws.length : Int) := by omega
      obtain rfl : k = ws.length := by omega
      generalize dsC code c ws.length = d at ha
      generalize dsL code c ws.length = l at hle
      have b1 := pkC_a code d 15
      have q1 := one_pfm code d hl (by omega) 15 (by omega)
      have q2 := pick_pfm code (pkC code d 15) hl (by omega) 9 (by omega)
      have v1 := pkV_in code (pkC code d 15) (n := 9) (by omega)
      have k2 := imO2 (curO_im code (pkC code d 15))
      have m2 := iiP1 (curO_im code d)
      have k3 := imO2 (curO_im code (pkC code (pkC code d 15) 9))
      have m3 := iiP1 (curO_im code (pkC code d 15))
      (repeat' (first|(apply xW;(first|exact Want.none_ rfl|(refine wantG rfl rfl rfl rfl ?_;(first|assumption|exact dT ‹_›|exact dF ‹_›|exact rfl))))|(apply xF tabOk;exact rfl;exact rfl)|((first|(apply rx_cat;exact rfl;exact rfl)|apply rx_add|apply rx_sub|apply rx_mul|apply rx_quo|apply rx_rem|apply rx_neg|apply rx_ixS|(apply rx_ixSl;exact rfl;exact rfl)|apply rx_ixRef|(apply rx_load;exact rfl;exact rfl;exact tabOk;exact rfl;exact rfl)|apply rx_loadAgg|apply rx_build|apply rx_buildSlice|apply rx_alloc|apply rx_makeFunc|apply rx_makeSlice|(apply rx_appRef;exact rfl;exact rfl)|apply rx_appNil|(apply rx_sliceS;exact rfl;exact rfl)|(apply rx_sliceSl;exact rfl;exact rfl)|apply rx_sliceRef|apply rx_min|apply rx_max|apply rx_store)<;>(first|exact tabOk|exact Nat.zero_add _|exact rfl|refine rxid ?_|assumption|omega|exact ⟨rfl⟩|exact ⟨rfl,_,_,rfl,rfl⟩|exact lb rfl|(refine Bd.mk ?_;first|assumption|omega|(focus (simp;done))|(simp;omega)|decide)|exact set_at ‹_›|exact set_at (set_at ‹_›)|(focus (refine ⟨rfl,_,_,rfl,?_⟩;omega))|(focus (simp;done))|(simp;omega)|(simp only [lA,lB,lC,lD,lE];omega)|exact newsAll rfl (by first|rfl|(simp;done)|(simp only [lA,lB,lC,lD,lE];omega))))|(apply xPick;exact rfl;exact rfl;(first|assumption|exact dT ‹_›|exact dF ‹_›|exact rfl);exact rfl;exact rfl)|(apply xSkip;(iterate 5 exact rfl);(first|assumption|exact dT ‹_›|exact dF ‹_›|exact rfl))|(apply xSkipN;(iterate 5 exact rfl))|apply rx_end|(refine rx_endD ?_ ?_;kernel_rfl)|apply AWp.seq|apply thenK_normal|apply AWp.reg|apply AWp.block|apply AWp.skip|apply AWp.label|apply AWp.exit|apply AWp.ret|apply thenK_exit|apply thenK_ret|apply blockK_normal|apply blockK_ret|apply blockK_exit|(refine AWp.regD ?_ ?_;kernel_rfl)|(refine blockK_other rfl ?_)|(apply AWp.condT;exact rfl;(first|assumption|exact dT ‹_›|exact dF ‹_›|exact rfl))|(apply AWp.condF;exact rfl;(first|assumption|exact dT ‹_›|exact dF ‹_›|exact rfl))|(apply (rx_callMR (q1));(iterate 7 exact rfl);(focus (repeat (first|exact All2.nil|refine All2.cons rfl ?_)));exact rfl;(focus (repeat (first|exact MAs.nil|apply MAs.cons|apply MA.c|apply MA.agg|exact MCs.nil|apply MCs.cons|exact MC.ref rfl|exact MC.ptr rfl|exact MC.vc (VC.imm (Imm.v _))|exact MC.vc (VC.imm (Imm.sl _))|exact MC.vc (VC.imm (Imm.ip _))|exact MC.vc VC.nil)));(first|assumption|(apply imO1;assumption)|(apply imO2;assumption));(first|exact imI0|assumption|(apply imI1;assumption));exact rfl;exact rfl)|(apply (rx_callMR (q2));(iterate 7 exact rfl);(focus (repeat (first|exact All2.nil|refine All2.cons rfl ?_)));exact rfl;(focus (repeat (first|exact MAs.nil|apply MAs.cons|apply MA.c|apply MA.agg|exact MCs.nil|apply MCs.cons|exact MC.ref rfl|exact MC.ptr rfl|exact MC.vc (VC.imm (Imm.v _))|exact MC.vc (VC.imm (Imm.sl _))|exact MC.vc (VC.imm (Imm.ip _))|exact MC.vc VC.nil)));(first|assumption|(apply imO1;assumption)|(apply imO2;assumption));(first|exact imI0|assumption|(apply imI1;assumption));exact rfl;exact rfl)|((first|refine rx_splitP rfl rfl rfl ?_ ?_|refine rx_split rfl rfl rfl ?_ ?_)<;>intro hp<;>(try (exfalso;omega)))|((first|refine AWp.condP rfl ?_ ?_|refine AWp.cond _ rfl ?_ ?_)<;>intro hp<;>(try (exfalso;omega)))))
      · rw [dfC, dfL, if_pos hp, if_pos hp]
        ((first|refine ret_ret _ [(0, some 0), (1, some 1), (2, some 4)] (.cons (rv_tmp rfl) .nil) ?_ rfl ?_|refine ret_end _ [(0, some 0), (1, some 1), (2, some 4)] (.cons (rv_tmp rfl) .nil) ?_ rfl ?_) <;> (repeat' (first|exact trivial|exact rfl|exact Or.inr ⟨rfl,‹_›⟩|apply And.intro|exact congrArg (Value.int .i64) (by first|omega|(simp;done)|(simp;omega))|(refine natEq ?_;first|(focus (simp;done))|omega|(simp only [lA,lB,lC,lD,lE];omega))|(refine ⟨_,rfl,rfl,rfl,OW.one ?_⟩)|(refine ⟨_,rfl,rfl,rfl,OW.same ?_ ?_⟩)|refine vwB ?_|refine vwS ?_|refine vwI ?_|refine fwB ?_|refine fwS ?_|refine fwI ?_|(refine AllSc.imm ?_;first|exact AllSc.nil|assumption))))
        all_goals first | exact curO_im _ _ | exact hsc | exact (ints_sc _).imm | (simp [eInt]; done) | (simp [eInt]; exact rfl) | skip
      · rw [dfC, dfL, if_neg hp, if_neg hp]
        ((first|refine ret_ret _ [(0, some 0), (1, some 1), (2, some 2)] (.cons (rv_tmp rfl) .nil) ?_ rfl ?_|refine ret_end _ [(0, some 0), (1, some 1), (2, some 2)] (.cons (rv_tmp rfl) .nil) ?_ rfl ?_) <;> (repeat' (first|exact trivial|exact rfl|exact Or.inr ⟨rfl,‹_›⟩|apply And.intro|exact congrArg (Value.int .i64) (by first|omega|(simp;done)|(simp;omega))|(refine natEq ?_;first|(focus (simp;done))|omega|(simp only [lA,lB,lC,lD,lE];omega))|(refine ⟨_,rfl,rfl,rfl,OW.one ?_⟩)|(refine ⟨_,rfl,rfl,rfl,OW.same ?_ ?_⟩)|refine vwB ?_|refine vwS ?_|refine vwI ?_|refine fwB ?_|refine fwS ?_|refine fwI ?_|(refine AllSc.imm ?_;first|exact AllSc.nil|assumption))))
        all_goals first | exact curO_im _ _ | exact hsc | exact (ints_sc _).imm | skip
theorem drawBC_pf (code : List UInt8) (hl : code.length ≤ 65536) (ws : List (List UInt8)) (hws : ws = drL code c00) (w : Int) (hw : w = wiV code (drC code c00)) :
    ∃ L : List Int, L.length ≤ 100 ∧ PF Try.prog 40 [.c (.sl (code.map byteC))] [⟨9, 1, ws.map eStr⟩, ⟨3, 1, L.map eInt⟩] (.tup [.c (.ref 0 0 ws.length), .c (int w), .c (.ref 1 0 L.length)]) := by
  have hca : (c00).a = 0 := rfl
  have ha := drC_a code c00
  have hB := drL_B code c00
  have h41 := drL_len code c00
  have hwa := wiC_a code (drC code c00)
  have p1 := l19DrawWords_pfm code c00 hl (by omega)
  have p2 := l19DrawWidth_pfm code (drC code c00) hl (by omega)
  have m1 := iiP1 (curO_im code c00)
  have m2 := iiP1 (curO_im code (drC code c00))
  rw [← hws] at hB h41 p1
  rw [← hw] at p2
  have hsc := strs_sc ws
  have k1 := imP2 (b := ⟨9, 1, ws.map eStr⟩) (curO_im code (drC code c00)) hsc.imm
  generalize wiC code (drC code c00) = e at hwa p2
  have k2 := imO2 (curO_im code e)
  have m3 := iiP1 (curO_im code e)
  have q1 := one_pfm code e hl (by omega) 2 (by omega)
  have k3 := imO2 (curO_im code (pkC code e 2))
  have b1 := pkC_a code e 2
  have m4 := iiP2 (b := ⟨9, 1, ws.map eStr⟩) (curO_im code e) hsc.imm
  have m5 := iiP2 (b := ⟨9, 1, ws.map eStr⟩) (curO_im code (pkC code e 2)) hsc.imm
  cases hk : fitsOk ws w with
  | false =>
    have d1 := l19DrawStarts_pfm code e hl (by omega) ws (by omega)
    have hlen := dfL_le code (dsC code e ws.length) (dsL code e ws.length)
    have hlen2 := dsL_le code e ws.length
    generalize dfL code (dsC code e ws.length) (dsL code e ws.length) = L at d1 hlen
    have hs := ints_sc L
    have k4 := imP3 (b := ⟨9, 1, ws.map eStr⟩) (c := ⟨3, 1, L.map eInt⟩) (curO_im code (dfC code (dsC code e ws.length))) hsc.imm hs.imm
    refine ⟨L, by omega, ?_⟩
    refine PF.enter (enum1 _) Try.func40 rfl (by kernel_rfl) _ _ rfl rfl rfl (fun w0 mu I0 β0 => ?_)
    (repeat' (first|(apply xW;(first|exact Want.none_ rfl|(refine wantG rfl rfl rfl rfl ?_;(first|assumption|exact dT ‹_›|exact dF ‹_›|exact rfl))))|(apply xF tabOk;exact rfl;exact rfl)|((first|(apply rx_cat;exact rfl;exact rfl)|apply rx_add|apply rx_sub|apply rx_mul|apply rx_quo|apply rx_rem|apply rx_neg|apply rx_ixS|(apply rx_ixSl;exact rfl;exact rfl)|apply rx_ixRef|(apply rx_load;exact rfl;exact rfl;exact tabOk;exact rfl;exact rfl)|apply rx_loadAgg|apply rx_build|apply rx_buildSlice|apply rx_alloc|apply rx_makeFunc|apply rx_makeSlice|(apply rx_appRef;exact rfl;exact rfl)|apply rx_appNil|(apply rx_sliceS;exact rfl;exact rfl)|(apply rx_sliceSl;exact rfl;exact rfl)|apply rx_sliceRef|apply rx_min|apply rx_max|apply rx_store)<;>(first|exact tabOk|exact Nat.zero_add _|exact rfl|refine rxid ?_|assumption|omega|exact ⟨rfl⟩|exact ⟨rfl,_,_,rfl,rfl⟩|exact lb rfl|(refine Bd.mk ?_;first|assumption|omega|(focus (simp;done))|(simp;omega)|decide)|exact set_at ‹_›|exact set_at (set_at ‹_›)|(focus (refine ⟨rfl,_,_,rfl,?_⟩;omega))|(focus (simp;done))|(simp;omega)|(simp only [lA,lB,lC,lD,lE];omega)|exact newsAll rfl (by first|rfl|(simp;done)|(simp only [lA,lB,lC,lD,lE];omega))))|(apply xPick;exact rfl;exact rfl;(first|assumption|exact dT ‹_›|exact dF ‹_›|exact rfl);exact rfl;exact rfl)|(apply xSkip;(iterate 5 exact rfl);(first|assumption|exact dT ‹_›|exact dF ‹_›|exact rfl))|(apply xSkipN;(iterate 5 exact rfl))|apply rx_end|(refine rx_endD ?_ ?_;kernel_rfl)|apply AWp.seq|apply thenK_normal|apply AWp.reg|apply AWp.block|apply AWp.skip|apply AWp.label|apply AWp.exit|apply AWp.ret|apply thenK_exit|apply thenK_ret|apply blockK_normal|apply blockK_ret|apply blockK_exit|(refine AWp.regD ?_ ?_;kernel_rfl)|(refine blockK_other rfl ?_)|(apply AWp.condT;exact rfl;(first|assumption|exact dT ‹_›|exact dF ‹_›|exact rfl))|(apply AWp.condF;exact rfl;(first|assumption|exact dT ‹_›|exact dF ‹_›|exact rfl))|(apply (rx_callMR (p1));(iterate 7 exact rfl);(focus (repeat (first|exact All2.nil|refine All2.cons rfl ?_)));exact rfl;(focus (repeat (first|exact MAs.nil|apply MAs.cons|apply MA.c|apply MA.agg|exact MCs.nil|apply MCs.cons|exact MC.ref rfl|exact MC.ptr rfl|exact MC.vc (VC.imm (Imm.v _))|exact MC.vc (VC.imm (Imm.sl _))|exact MC.vc (VC.imm (Imm.ip _))|exact MC.vc VC.nil)));(first|assumption|(apply imO1;assumption)|(apply imO2;assumption));(first|exact imI0|assumption|(apply imI1;assumption));exact rfl;exact rfl)|(apply (rx_callMR (p2));(iterate 7 exact rfl);(focus (repeat (first|exact All2.nil|refine All2.cons rfl ?_)));exact rfl;(focus (repeat (first|exact MAs.nil|apply MAs.cons|apply MA.c|apply MA.agg|exact MCs.nil|apply MCs.cons|exact MC.ref rfl|exact MC.ptr rfl|exact MC.vc (VC.imm (Imm.v _))|exact MC.vc (VC.imm (Imm.sl _))|exact MC.vc (VC.imm (Imm.ip _))|exact MC.vc VC.nil)));(first|assumption|(apply imO1;assumption)|(apply imO2;assumption));(first|exact imI0|assumption|(apply imI1;assumption));exact rfl;exact rfl)|(apply (rx_callMR (q1));(iterate 7 exact rfl);(focus (repeat (first|exact All2.nil|refine All2.cons rfl ?_)));exact rfl;(focus (repeat (first|exact MAs.nil|apply MAs.cons|apply MA.c|apply MA.agg|exact MCs.nil|apply MCs.cons|exact MC.ref rfl|exact MC.ptr rfl|exact MC.vc (VC.imm (Imm.v _))|exact MC.vc (VC.imm (Imm.sl _))|exact MC.vc (VC.imm (Imm.ip _))|exact MC.vc VC.nil)));(first|assumption|(apply imO1;assumption)|(apply imO2;assumption));(first|exact imI0|assumption|(apply imI1;assumption));exact rfl;exact rfl)|(apply (rx_callMR (d1));(iterate 7 exact rfl);(focus (repeat (first|exact All2.nil|refine All2.cons rfl ?_)));exact rfl;(focus (repeat (first|exact MAs.nil|apply MAs.cons|apply MA.c|apply MA.agg|exact MCs.nil|apply MCs.cons|exact MC.ref rfl|exact MC.ptr rfl|exact MC.vc (VC.imm (Imm.v _))|exact MC.vc (VC.imm (Imm.sl _))|exact MC.vc (VC.imm (Imm.ip _))|exact MC.vc VC.nil)));(first|assumption|(apply imO1;assumption)|(apply imO2;assumption));(first|exact imI0|assumption|(apply imI1;assumption));exact rfl;exact rfl)|(apply rx_callA;(iterate 6 exact rfl);(iterate 2 (focus (repeat (first|exact VAs.nil|apply VAs.cons|apply VA.c|apply VA.agg|exact VCs.nil|(apply VCs.same;assumption)|apply VCs.cons|exact VC.imm (Imm.v _)|exact VC.imm (Imm.sl _)|exact VC.imm (Imm.ip _)|exact VC.imm ‹_›|exact VC.nil|apply VC.fn|(refine VC.ptrA rfl rfl rfl rfl ?_;(repeat (first|assumption|exact imm_no|exact Imm.v _|exact Imm.sl _|exact Imm.ip _|exact Imm.nil|exact Imm.fn0 _|refine imm_cons ?_ ?_|refine Imm.fn _ _ ?_)))|(apply VC.refA;exact rfl;exact rfl;(first|exact rfl|(focus (simp;done))|omega|(focus (simp only [lA,lB,lC,lD,lE];omega)));exact rfl;(first|assumption|(refine AllSc.imm ?_;assumption)))|assumption))));(first|exact specBL_no ws w hB hk);(focus (repeat (first|exact trivial|exact Flat.v _|exact Flat.ref _ _ _|exact Flat.nil|apply And.intro)));(first|apply callK0|(apply callK1;(focus (repeat (first|exact trivial|apply And.intro|(first|exact AllSc.nil|assumption))))));(first|exact sh_1 _ _|exact sh_2 _ _ _|exact sh_r _ _ _ _|exact sh_r1 _ _ _ _ _|exact sh_n _|exact sh_n1 _ _|exact sh_ar _ _ _ _|exact sh_ar1 _ _ _ _ _|exact sh_an1 _ _|exact sh_3 _ _ _ _|exact rfl))|((first|refine rx_splitP rfl rfl rfl ?_ ?_|refine rx_split rfl rfl rfl ?_ ?_)<;>intro hp<;>(try (exfalso;omega)))|((first|refine AWp.condP rfl ?_ ?_|refine AWp.cond _ rfl ?_ ?_)<;>intro hp<;>(try (exfalso;omega)))))
    ((first|refine ret_ret _ [(0, some 1), (1, some 2)] (.cons (rv_tmp rfl) (.cons (rv_tmp rfl) (.cons (rv_tmp rfl) .nil))) ?_ rfl ?_|refine ret_end _ [(0, some 1), (1, some 2)] (.cons (rv_tmp rfl) (.cons (rv_tmp rfl) (.cons (rv_tmp rfl) .nil))) ?_ rfl ?_) <;> (repeat' (first|exact trivial|exact rfl|exact Or.inr ⟨rfl,‹_›⟩|apply And.intro|exact congrArg (Value.int .i64) (by first|omega|(simp;done)|(simp;omega))|(refine natEq ?_;first|(focus (simp;done))|omega|(simp only [lA,lB,lC,lD,lE];omega))|(refine ⟨_,rfl,rfl,rfl,OW.one ?_⟩)|(refine ⟨_,rfl,rfl,rfl,OW.same ?_ ?_⟩)|refine vwB ?_|refine vwS ?_|refine vwI ?_|refine fwB ?_|refine fwS ?_|refine fwI ?_|(refine AllSc.imm ?_;first|exact AllSc.nil|assumption))))
    all_goals first | exact hsc.imm | exact hs.imm | skip
  | true =>
    obtain ⟨_, n, hn, _⟩ := fitsOk_parts hk
    rw [hn] at hk p2
    rw [hn]
    have hP := specBL_yes ws n hB hk
    have hpl := run_len (ls := lens ws) (w := n) (lens ws).length 0
    have hLl : (lens ws).length = ws.length := List.length_map _
    have hpl2 : (path (lens ws) n).length ≤ 41 := by rw [path]; omega
    have hs0 := ints_sc (nI (path (lens ws) n))
    have hnp : (nI (path (lens ws) n)).length = (path (lens ws) n).length := List.length_map _
    by_cases h2 : pkV code e 2 = 0
    · have d1 := l19DrawStarts_pfm code (pkC code e 2) hl (by omega) ws (by omega)
      have hlen := dfL_le code (dsC code (pkC code e 2) ws.length) (dsL code (pkC code e 2) ws.length)
      have hlen2 := dsL_le code (pkC code e 2) ws.length
      generalize dfL code (dsC code (pkC code e 2) ws.length) (dsL code (pkC code e 2) ws.length) = L at d1 hlen
      have hs := ints_sc L
      have k4 := imP3 (b := ⟨9, 1, ws.map eStr⟩) (c := ⟨3, 1, L.map eInt⟩) (curO_im code (dfC code (dsC code (pkC code e 2) ws.length))) hsc.imm hs.imm
      refine ⟨L, by omega, ?_⟩
      refine PF.enter (enum1 _) Try.func40 rfl (by kernel_rfl) _ _ rfl rfl rfl (fun w0 mu I0 β0 => ?_)
      (repeat' (first|(apply xW;(first|exact Want.none_ rfl|(refine wantG rfl rfl rfl rfl ?_;(first|assumption|exact dT ‹_›|exact dF ‹_›|exact rfl))))|(apply xF tabOk;exact rfl;exact rfl)|((first|(apply rx_cat;exact rfl;exact rfl)|apply rx_add|apply rx_sub|apply rx_mul|apply rx_quo|apply rx_rem|apply rx_neg|apply rx_ixS|(apply rx_ixSl;exact rfl;exact rfl)|apply rx_ixRef|(apply rx_load;exact rfl;exact rfl;exact tabOk;exact rfl;exact rfl)|apply rx_loadAgg|apply rx_build|apply rx_buildSlice|apply rx_alloc|apply rx_makeFunc|apply rx_makeSlice|(apply rx_appRef;exact rfl;exact rfl)|apply rx_appNil|(apply rx_sliceS;exact rfl;exact rfl)|(apply rx_sliceSl;exact rfl;exact rfl)|apply rx_sliceRef|apply rx_min|apply rx_max|apply rx_store)<;>(first|exact tabOk|exact Nat.zero_add _|exact rfl|refine rxid ?_|assumption|omega|exact ⟨rfl⟩|exact ⟨rfl,_,_,rfl,rfl⟩|exact lb rfl|(refine Bd.mk ?_;first|assumption|omega|(focus (simp;done))|(simp;omega)|decide)|exact set_at ‹_›|exact set_at (set_at ‹_›)|(focus (refine ⟨rfl,_,_,rfl,?_⟩;omega))|(focus (simp;done))|(simp;omega)|(simp only [lA,lB,lC,lD,lE];omega)|exact newsAll rfl (by first|rfl|(simp;done)|(simp only [lA,lB,lC,lD,lE];omega))))|(apply xPick;exact rfl;exact rfl;(first|assumption|exact dT ‹_›|exact dF ‹_›|exact rfl);exact rfl;exact rfl)|(apply xSkip;(iterate 5 exact rfl);(first|assumption|exact dT ‹_›|exact dF ‹_›|exact rfl))|(apply xSkipN;(iterate 5 exact rfl))|apply rx_end|(refine rx_endD ?_ ?_;kernel_rfl)|apply AWp.seq|apply thenK_normal|apply AWp.reg|apply AWp.block|apply AWp.skip|apply AWp.label|apply AWp.exit|apply AWp.ret|apply thenK_exit|apply thenK_ret|apply blockK_normal|apply blockK_ret|apply blockK_exit|(refine AWp.regD ?_ ?_;kernel_rfl)|(refine blockK_other rfl ?_)|(apply AWp.condT;exact rfl;(first|assumption|exact dT ‹_›|exact dF ‹_›|exact rfl))|(apply AWp.condF;exact rfl;(first|assumption|exact dT ‹_›|exact dF ‹_›|exact rfl))|(apply (rx_callMR (p1));(iterate 7 exact rfl);(focus (repeat (first|exact All2.nil|refine All2.cons rfl ?_)));exact rfl;(focus (repeat (first|exact MAs.nil|apply MAs.cons|apply MA.c|apply MA.agg|exact MCs.nil|apply MCs.cons|exact MC.ref rfl|exact MC.ptr rfl|exact MC.vc (VC.imm (Imm.v _))|exact MC.vc (VC.imm (Imm.sl _))|exact MC.vc (VC.imm (Imm.ip _))|exact MC.vc VC.nil)));(first|assumption|(apply imO1;assumption)|(apply imO2;assumption));(first|exact imI0|assumption|(apply imI1;assumption));exact rfl;exact rfl)|(apply (rx_callMR (p2));(iterate 7 exact rfl);(focus (repeat (first|exact All2.nil|refine All2.cons rfl ?_)));exact rfl;(focus (repeat (first|exact MAs.nil|apply MAs.cons|apply MA.c|apply MA.agg|exact MCs.nil|apply MCs.cons|exact MC.ref rfl|exact MC.ptr rfl|exact MC.vc (VC.imm (Imm.v _))|exact MC.vc (VC.imm (Imm.sl _))|exact MC.vc (VC.imm (Imm.ip _))|exact MC.vc VC.nil)));(first|assumption|(apply imO1;assumption)|(apply imO2;assumption));(first|exact imI0|assumption|(apply imI1;assumption));exact rfl;exact rfl)|(apply (rx_callMR (q1));(iterate 7 exact rfl);(focus (repeat (first|exact All2.nil|refine All2.cons rfl ?_)));exact rfl;(focus (repeat (first|exact MAs.nil|apply MAs.cons|apply MA.c|apply MA.agg|exact MCs.nil|apply MCs.cons|exact MC.ref rfl|exact MC.ptr rfl|exact MC.vc (VC.imm (Imm.v _))|exact MC.vc (VC.imm (Imm.sl _))|exact MC.vc (VC.imm (Imm.ip _))|exact MC.vc VC.nil)));(first|assumption|(apply imO1;assumption)|(apply imO2;assumption));(first|exact imI0|assumption|(apply imI1;assumption));exact rfl;exact rfl)|(apply (rx_callMR (d1));(iterate 7 exact rfl);(focus (repeat (first|exact All2.nil|refine All2.cons rfl ?_)));exact rfl;(focus (repeat (first|exact MAs.nil|apply MAs.cons|apply MA.c|apply MA.agg|exact MCs.nil|apply MCs.cons|exact MC.ref rfl|exact MC.ptr rfl|exact MC.vc (VC.imm (Imm.v _))|exact MC.vc (VC.imm (Imm.sl _))|exact MC.vc (VC.imm (Imm.ip _))|exact MC.vc VC.nil)));(first|assumption|(apply imO1;assumption)|(apply imO2;assumption));(first|exact imI0|assumption|(apply imI1;assumption));exact rfl;exact rfl)|(apply rx_callA;(iterate 6 exact rfl);(iterate 2 (focus (repeat (first|exact VAs.nil|apply VAs.cons|apply VA.c|apply VA.agg|exact VCs.nil|(apply VCs.same;assumption)|apply VCs.cons|exact VC.imm (Imm.v _)|exact VC.imm (Imm.sl _)|exact VC.imm (Imm.ip _)|exact VC.imm ‹_›|exact VC.nil|apply VC.fn|(refine VC.ptrA rfl rfl rfl rfl ?_;(repeat (first|assumption|exact imm_no|exact Imm.v _|exact Imm.sl _|exact Imm.ip _|exact Imm.nil|exact Imm.fn0 _|refine imm_cons ?_ ?_|refine Imm.fn _ _ ?_)))|(apply VC.refA;exact rfl;exact rfl;(first|exact rfl|(focus (simp;done))|omega|(focus (simp only [lA,lB,lC,lD,lE];omega)));exact rfl;(first|assumption|(refine AllSc.imm ?_;assumption)))|assumption))));(first|exact hP);(focus (repeat (first|exact trivial|exact Flat.v _|exact Flat.ref _ _ _|exact Flat.nil|apply And.intro)));(first|apply callK0|(apply callK1;(focus (repeat (first|exact trivial|apply And.intro|(first|exact AllSc.nil|assumption))))));(first|exact sh_1 _ _|exact sh_2 _ _ _|exact sh_r _ _ _ _|exact sh_r1 _ _ _ _ _|exact sh_n _|exact sh_n1 _ _|exact sh_ar _ _ _ _|exact sh_ar1 _ _ _ _ _|exact sh_an1 _ _|exact sh_3 _ _ _ _|exact rfl))|((first|refine rx_splitP rfl rfl rfl ?_ ?_|refine rx_split rfl rfl rfl ?_ ?_)<;>intro hp<;>(try (exfalso;omega)))|((first|refine AWp.condP rfl ?_ ?_|refine AWp.cond _ rfl ?_ ?_)<;>intro hp<;>(try (exfalso;omega)))))
      all_goals
        ((first|refine ret_ret _ [(0, some 1), (1, some 3)] (.cons (rv_tmp rfl) (.cons (rv_tmp rfl) (.cons (rv_tmp rfl) .nil))) ?_ rfl ?_|refine ret_end _ [(0, some 1), (1, some 3)] (.cons (rv_tmp rfl) (.cons (rv_tmp rfl) (.cons (rv_tmp rfl) .nil))) ?_ rfl ?_) <;> (repeat' (first|exact trivial|exact rfl|exact Or.inr ⟨rfl,‹_›⟩|apply And.intro|exact congrArg (Value.int .i64) (by first|omega|(simp;done)|(simp;omega))|(refine natEq ?_;first|(focus (simp;done))|omega|(simp only [lA,lB,lC,lD,lE];omega))|(refine ⟨_,rfl,rfl,rfl,OW.one ?_⟩)|(refine ⟨_,rfl,rfl,rfl,OW.same ?_ ?_⟩)|refine vwB ?_|refine vwS ?_|refine vwI ?_|refine fwB ?_|refine fwS ?_|refine fwI ?_|(refine AllSc.imm ?_;first|exact AllSc.nil|assumption))))
      all_goals first | exact hsc.imm | exact hs.imm | skip
    · refine ⟨nI (path (lens ws) n), by omega, ?_⟩
      rw [hnp]
      refine PF.enter (enum1 _) Try.func40 rfl (by kernel_rfl) _ _ rfl rfl rfl (fun w0 mu I0 β0 => ?_)
      (repeat' (first|(apply xW;(first|exact Want.none_ rfl|(refine wantG rfl rfl rfl rfl ?_;(first|assumption|exact dT ‹_›|exact dF ‹_›|exact rfl))))|(apply xF tabOk;exact rfl;exact rfl)|((first|(apply rx_cat;exact rfl;exact rfl)|apply rx_add|apply rx_sub|apply rx_mul|apply rx_quo|apply rx_rem|apply rx_neg|apply rx_ixS|(apply rx_ixSl;exact rfl;exact rfl)|apply rx_ixRef|(apply rx_load;exact rfl;exact rfl;exact tabOk;exact rfl;exact rfl)|apply rx_loadAgg|apply rx_build|apply rx_buildSlice|apply rx_alloc|apply rx_makeFunc|apply rx_makeSlice|(apply rx_appRef;exact rfl;exact rfl)|apply rx_appNil|(apply rx_sliceS;exact rfl;exact rfl)|(apply rx_sliceSl;exact rfl;exact rfl)|apply rx_sliceRef|apply rx_min|apply rx_max|apply rx_store)<;>(first|exact tabOk|exact Nat.zero_add _|exact rfl|refine rxid ?_|assumption|omega|exact ⟨rfl⟩|exact ⟨rfl,_,_,rfl,rfl⟩|exact lb rfl|(refine Bd.mk ?_;first|assumption|omega|(focus (simp;done))|(simp;omega)|decide)|exact set_at ‹_›|exact set_at (set_at ‹_›)|(focus (refine ⟨rfl,_,_,rfl,?_⟩;omega))|(focus (simp;done))|(simp;omega)|(simp only [lA,lB,lC,lD,lE];omega)|exact newsAll rfl (by first|rfl|(simp;done)|(simp only [lA,lB,lC,lD,lE];omega))))|(apply xPick;exact rfl;exact rfl;(first|assumption|exact dT ‹_›|exact dF ‹_›|exact rfl);exact rfl;exact rfl)|(apply xSkip;(iterate 5 exact rfl);(first|assumption|exact dT ‹_›|exact dF ‹_›|exact rfl))|(apply xSkipN;(iterate 5 exact rfl))|apply rx_end|(refine rx_endD ?_ ?_;kernel_rfl)|apply AWp.seq|apply thenK_normal|apply AWp.reg|apply AWp.block|apply AWp.skip|apply AWp.label|apply AWp.exit|apply AWp.ret|apply thenK_exit|apply thenK_ret|apply blockK_normal|apply blockK_ret|apply blockK_exit|(refine AWp.regD ?_ ?_;kernel_rfl)|(refine blockK_other rfl ?_)|(apply AWp.condT;exact rfl;(first|assumption|exact dT ‹_›|exact dF ‹_›|exact rfl))|(apply AWp.condF;exact rfl;(first|assumption|exact dT ‹_›|exact dF ‹_›|exact rfl))|(apply (rx_callMR (p1));(iterate 7 exact rfl);(focus (repeat (first|exact All2.nil|refine All2.cons rfl ?_)));exact rfl;(focus (repeat (first|exact MAs.nil|apply MAs.cons|apply MA.c|apply MA.agg|exact MCs.nil|apply MCs.cons|exact MC.ref rfl|exact MC.ptr rfl|exact MC.vc (VC.imm (Imm.v _))|exact MC.vc (VC.imm (Imm.sl _))|exact MC.vc (VC.imm (Imm.ip _))|exact MC.vc VC.nil)));(first|assumption|(apply imO1;assumption)|(apply imO2;assumption));(first|exact imI0|assumption|(apply imI1;assumption));exact rfl;exact rfl)|(apply (rx_callMR (p2));(iterate 7 exact rfl);(focus (repeat (first|exact All2.nil|refine All2.cons rfl ?_)));exact rfl;(focus (repeat (first|exact MAs.nil|apply MAs.cons|apply MA.c|apply MA.agg|exact MCs.nil|apply MCs.cons|exact MC.ref rfl|exact MC.ptr rfl|exact MC.vc (VC.imm (Imm.v _))|exact MC.vc (VC.imm (Imm.sl _))|exact MC.vc (VC.imm (Imm.ip _))|exact MC.vc VC.nil)));(first|assumption|(apply imO1;assumption)|(apply imO2;assumption));(first|exact imI0|assumption|(apply imI1;assumption));exact rfl;exact rfl)|(apply (rx_callMR (q1));(iterate 7 exact rfl);(focus (repeat (first|exact All2.nil|refine All2.cons rfl ?_)));exact rfl;(focus (repeat (first|exact MAs.nil|apply MAs.cons|apply MA.c|apply MA.agg|exact MCs.nil|apply MCs.cons|exact MC.ref rfl|exact MC.ptr rfl|exact MC.vc (VC.imm (Imm.v _))|exact MC.vc (VC.imm (Imm.sl _))|exact MC.vc (VC.imm (Imm.ip _))|exact MC.vc VC.nil)));(first|assumption|(apply imO1;assumption)|(apply imO2;assumption));(first|exact imI0|assumption|(apply imI1;assumption));exact rfl;exact rfl)|(apply rx_callA;(iterate 6 exact rfl);(iterate 2 (focus (repeat (first|exact VAs.nil|apply VAs.cons|apply VA.c|apply VA.agg|exact VCs.nil|(apply VCs.same;assumption)|apply VCs.cons|exact VC.imm (Imm.v _)|exact VC.imm (Imm.sl _)|exact VC.imm (Imm.ip _)|exact VC.imm ‹_›|exact VC.nil|apply VC.fn|(refine VC.ptrA rfl rfl rfl rfl ?_;(repeat (first|assumption|exact imm_no|exact Imm.v _|exact Imm.sl _|exact Imm.ip _|exact Imm.nil|exact Imm.fn0 _|refine imm_cons ?_ ?_|refine Imm.fn _ _ ?_)))|(apply VC.refA;exact rfl;exact rfl;(first|exact rfl|(focus (simp;done))|omega|(focus (simp only [lA,lB,lC,lD,lE];omega)));exact rfl;(first|assumption|(refine AllSc.imm ?_;assumption)))|assumption))));(first|exact hP);(focus (repeat (first|exact trivial|exact Flat.v _|exact Flat.ref _ _ _|exact Flat.nil|apply And.intro)));(first|apply callK0|(apply callK1;(focus (repeat (first|exact trivial|apply And.intro|(first|exact AllSc.nil|assumption))))));(first|exact sh_1 _ _|exact sh_2 _ _ _|exact sh_r _ _ _ _|exact sh_r1 _ _ _ _ _|exact sh_n _|exact sh_n1 _ _|exact sh_ar _ _ _ _|exact sh_ar1 _ _ _ _ _|exact sh_an1 _ _|exact sh_3 _ _ _ _|exact rfl))|((first|refine rx_splitP rfl rfl rfl ?_ ?_|refine rx_split rfl rfl rfl ?_ ?_)<;>intro hp<;>(try (exfalso;omega)))|((first|refine AWp.condP rfl ?_ ?_|refine AWp.cond _ rfl ?_ ?_)<;>intro hp<;>(try (exfalso;omega)))))
      all_goals
        ((first|refine ret_ret _ [(0, some 1), (1, some 2)] (.cons (rv_tmp rfl) (.cons (rv_tmp rfl) (.cons (rv_tmp rfl) .nil))) ?_ rfl ?_|refine ret_end _ [(0, some 1), (1, some 2)] (.cons (rv_tmp rfl) (.cons (rv_tmp rfl) (.cons (rv_tmp rfl) .nil))) ?_ rfl ?_) <;> (repeat' (first|exact trivial|exact rfl|exact Or.inr ⟨rfl,‹_›⟩|apply And.intro|exact congrArg (Value.int .i64) (by first|omega|(simp;done)|(simp;omega))|(refine natEq ?_;first|(focus (simp;done))|omega|(simp only [lA,lB,lC,lD,lE];omega))|(refine ⟨_,rfl,rfl,rfl,OW.one ?_⟩)|(refine ⟨_,rfl,rfl,rfl,OW.same ?_ ?_⟩)|refine vwB ?_|refine vwS ?_|refine vwI ?_|refine fwB ?_|refine fwS ?_|refine fwI ?_|(refine AllSc.imm ?_;first|exact AllSc.nil|assumption))))
      all_goals first | exact hsc.imm | exact hs0.imm | skip
end Go.Proofs.Ytfebalahfhkeaaa
