/- The abstract machine: an object of one's own becomes data that nobody writes to, ahead of a call that is handed it in a struct. -/
import Derived.Test.YtchpdclknbmdoaaGreatDoorAbsRead
import Derived.Test.YtchpdclknbmdoaaGreatDoorAbs4
namespace Go.Proofs.YtchpdclknbmdoaaGreatDoor
open Go Go.RowKit
inductive FB (o : Nat) (els : List (List Cell)) : AVal → AVal → Prop
  | same (x : AVal) : FB o els x x
  | ref (n : Nat) : n = els.length → FB o els (.c (.ref o 0 n)) (.c (.sl els))
  | agg {cs cs' : List Cell} : All2 (FC o els) cs cs' → FB o els (.agg cs) (.agg cs')
theorem all2_fc {o : Nat} {els : List (List Cell)} {I I' : Nat → Prop} {β : Nat → Option BI} {w : World} (hfc : ∀ {c c'}, FC o els c c' → ∀ v, Rep I β w c v → Rep I' β w c' v) : ∀ {cs cs' : List Cell} {vs : List Value}, All2 (FC o els) cs cs' → All2 (Rep I β w) cs vs → All2 (Rep I' β w) cs' vs
  | _, _, _, .nil, .nil => .nil
  | _, _, _, .cons h hs, .cons k ks => .cons (hfc h _ k) (all2_fc hfc hs ks)
theorem Rel.frzN {E : Env} {N I : Nat → Prop} {s s' : AS} {β : Nat → Option BI} {a : Act} {w : World} (hr : Rel E N I s β a w) {o : Nat} {obj : AObj} (ho : s.obj o = some obj) (hm : k8 E.m o s)
    (hi : ∀ x ∈ obj.els, ∀ c ∈ x, Imm c) (ht : ∀ t, FB o obj.els (s.get t) (s'.get t))
    (hob : ∀ q x', s'.obj q = some x' → q ≠ o ∧ ∃ x, s.obj q = some x ∧ x.ty = x'.ty ∧ x.sz = x'.sz ∧ All2 (All2 (FC o obj.els)) x.els x'.els) : ∃ I', Rel E N I' s' β a w := by
  obtain ⟨B, hB, e2, e3, e4⟩ := hr.obs o obj ho
  have hmu : ∀ b, B.blk = some b → ¬ E.mu b := by
    intro b hb hmu
    obtain ⟨q, B', hq, h1, h2⟩ := E.dis.2 b hmu
    obtain ⟨hqo, x, hx⟩ := hm q hq
    exact hr.inj q o x obj B' B b hx ho hqo (by rw [hr.ext q hq]; exact h1) hB h2 hb
  let I' : Nat → Prop := fun b => I b ∨ B.blk = some b
  have hI : ∀ b, I b → I' b := fun b h => .inl h
  have hpr : ∀ n, n ≤ obj.els.length → ∀ v, Rep I β w (.ref o 0 n) v → RepI I' w (.sl (obj.els.take n)) v := by
    intro n hn v hv
    cases hv with
    | imm h => cases h
    | refE _ _ A cap h => exact absurd rfl h
    | ref0 _ sz C h =>
      rw [hB] at h
      obtain rfl : B = ⟨none, sz, C⟩ := Option.some.inj h
      rw [e3 rfl, List.take_nil]
      exact .sl0 none 0
    | ref _ _ _ b sz cap C h1 h2 h3 =>
      rw [hB] at h1
      obtain rfl : B = ⟨some b, sz, C⟩ := Option.some.inj h1
      obtain ⟨k0, k1, k2, arr, k3, k4, k5, k6, k7⟩ := e4 b rfl
      simp only at k0
      subst k0
      have hex : ∀ (i j : Nat), ∃ u, ∀ x c, obj.els[i]? = some x → x[j]? = some c → w.cell? ⟨b, 0 * obj.sz + i * obj.sz + j, none⟩ = some u ∧ RepI I' w c u := by
        intro i j
        cases hx : obj.els[i]? with
        | none => exact ⟨undef, fun x c h => by cases h⟩
        | some x =>
          cases hc : x[j]? with
          | none => exact ⟨undef, fun x' c h h' => by cases h; rw [hc] at h'; cases h'⟩
          | some c =>
            obtain ⟨u, hu, hru⟩ := k7 i j x c hx hc
            refine ⟨u, fun x' c' h h' => ?_⟩
            cases h; rw [hc] at h'; cases h'
            refine ⟨?_, (hi x (List.mem_of_getElem? hx) c (List.mem_of_getElem? hc) _ _ _ _ hru).mono hI (fun _ _ => rfl)⟩
            rw [cell_of_row w b _ arr _ _ k3, Nat.zero_mul, Nat.zero_add]; exact hu
      have htk : ∀ {i : Nat} {x : List Cell}, (obj.els.take n)[i]? = some x → obj.els[i]? = some x := fun {i x} h => by
        rw [List.getElem?_take] at h
        split at h
        · exact h
        · cases h
      refine .sl (obj.els.take n) b (0 * obj.sz) obj.sz n cap (fun i j => Classical.choose (hex i j)) (by rw [List.length_take]; omega) h2 (fun x hx => e2 x (List.mem_of_mem_take hx)) (.inr rfl) (fun i j x c hx hc => (Classical.choose_spec (hex i j) x c (htk hx) hc).1) (fun i j x c hx hc => (Classical.choose_spec (hex i j) x c (htk hx) hc).2)
  have hsl : ∀ n, n = obj.els.length → ∀ v, Rep I β w (.ref o 0 n) v → RepI I' w (.sl obj.els) v := fun n hn v hv => by
    have h := hpr n (by omega) v hv
    rwa [List.take_of_length_le (by omega)] at h
  have hmono : ∀ {c v}, Rep I β w c v → Rep I' β w c v := fun h => h.mono (Ext.refl _) hI (fun _ _ => rfl)
  have hfc : ∀ {c c'}, FC o obj.els c c' → ∀ v, Rep I β w c v → Rep I' β w c' v := by
    intro c c' h v hv
    cases h with
    | same => exact hmono hv
    | ref n hn => exact .imm (hsl n hn v hv)
    | pre n hn => exact .imm (hpr n hn v hv)
  refine ⟨I', ⟨fun t => ?_, hr.siz, hr.dfr, fun q x' hx' => ?_, fun q q' x1 x2 B1 B2 b h1 h2 hne => ?_, fun q B h => ?_, hr.old, fun b hb => ?_, fun b hb => ?_, hr.ext⟩⟩
  · have h0 := hr.tms t
    have h1 := ht t
    generalize s.get t = x at h0 h1
    generalize s'.get t = y at h1
    cases h1 with
    | same => exact h0.mono (Ext.refl _) hI (fun _ _ => rfl)
    | ref n hn => exact .imm (hsl n hn _ h0)
    | agg hcs =>
      obtain ⟨vals, e, hall⟩ := RepV.agg.1 h0
      rw [e]
      exact RepV.agg.2 ⟨vals, rfl, all2_fc hfc hcs hall⟩
  · obtain ⟨hqo, x, hx, t1, t2, t3⟩ := hob q x' hx'
    obtain ⟨Bq, hBq, q2, q3, q4⟩ := hr.obs q x hx
    have hlen : x'.els.length = x.els.length := t3.length
    refine ⟨Bq, hBq, fun y hy => ?_, fun hn => ?_, fun b hb => ?_⟩
    · obtain ⟨i, hy⟩ := List.getElem?_of_mem hy
      obtain ⟨y0, hy0⟩ := kT (show i < x.els.length by rw [← hlen]; exact (List.getElem?_eq_some_iff.1 hy).1)
      obtain ⟨y1, h1, h2⟩ := t3.at hy0
      rw [hy] at h1; cases h1
      rw [h2.length, ← t2]
      exact q2 _ (List.mem_of_getElem? hy0)
    · have := q3 hn
      rw [this] at hlen
      exact List.length_eq_zero_iff.1 hlen
    · obtain ⟨k0, k1, k2, arr, k3, k4, k5, k6, k7⟩ := q4 b hb
      refine ⟨k0.trans t2, k1, fun h => ?_, arr, by rw [← t1]; exact k3, by rw [← t2, hlen]; exact k4, by rw [hlen]; exact k5, k6, fun i j y c hy hc => ?_⟩
      · rcases h with h | h
        · exact k2 h
        · exact hr.inj q o x obj Bq B b hx ho hqo hBq hB hb h
      · obtain ⟨y0, hy0⟩ := kT (show i < x.els.length by rw [← hlen]; exact (List.getElem?_eq_some_iff.1 hy).1)
        obtain ⟨y1, h1, h2⟩ := t3.at hy0
        rw [hy] at h1; cases h1
        obtain ⟨c0, hc0⟩ := kT (show j < y0.length by rw [← h2.length]; exact (List.getElem?_eq_some_iff.1 hc).1)
        obtain ⟨c1, h3, h4⟩ := h2.at hc0
        rw [hc] at h3; cases h3
        obtain ⟨u, hu, hru⟩ := k7 i j y0 c0 hy0 hc0
        exact ⟨u, by rw [← t2]; exact hu, hfc h4 u hru⟩
  · obtain ⟨_, y1, hy1, _⟩ := hob q x1 h1
    obtain ⟨_, y2, hy2, _⟩ := hob q' x2 h2
    exact hr.inj q q' y1 y2 B1 B2 b hy1 hy2 hne
  · exact hr.nam q B h
  · rcases hb with h | h
    · exact hr.imm b h
    · exact ((hr.obs o obj ho).lt hB h).1
  · refine ⟨fun h => ?_, fun h => .inl ((hr.gro b hb).2 h)⟩
    rcases h with h | h
    · exact (hr.gro b hb).1 h
    · obtain ⟨_, k1, _⟩ := e4 b h
      rcases k1 with k1 | k1
      · exact absurd k1 (hmu b h)
      · omega
theorem StepOk.pre {P : Program} {E : Env} {ops : Array Oper} {o : Oper} {s : AS} {u : Upd} {F : Foot} (v : Upd) (F0 : Foot) (hk : v.k = 0)
    (hW : ∀ N I s' β a w, Agree F0 s s' → Rel E N I s' β a w → ∃ I' β', Rel E N I' (s'.upd v) β' a w) (h : StepOk P E ops o (s.upd v) u F) : StepOk P E ops o s ⟨u.tm ++ v.tm, u.ob ++ v.ob, u.k⟩ ⟨F0.tm ++ F.tm, F0.ob ++ F.ob⟩ := by
  intro N I s' β a w hag hn hr
  obtain ⟨I1, β1, hr1⟩ := hW N I s' β a w ⟨fun t ht => hag.1 t (List.mem_append_left _ ht), fun o ho => hag.2 o (List.mem_append_left _ ho)⟩ hr
  have hag1 : Agree F (s.upd v) (s'.upd v) := by
    refine ⟨fun t ht => ?_, fun q hq => ?_⟩
    · have h1 := hag.1 t (List.mem_append_right _ ht)
      cases hl : lk t v.tm with
      | some x => rw [AS.get_some hl, AS.get_some hl]
      | none => rw [zF hl, zF hl]; exact h1
    · have h1 := hag.2 q (List.mem_append_right _ hq)
      cases hl : lk q v.ob with
      | some x => rw [zH hl, zH hl]
      | none => rw [zG hl, zG hl]; exact h1
  have hnx : (s.upd v).nx = s.nx := by simp [AS.upd, hk]
  refine (h N I1 (s'.upd v) β1 a w hag1 (by rw [hnx]; exact hn) hr1).mono fun a' w' ⟨I', β', h2⟩ => ⟨I', β', ?_⟩
  rw [hnx] at h2
  have e : (s'.upd v).upd u = s'.upd ⟨u.tm ++ v.tm, u.ob ++ v.ob, u.k⟩ := by simp [AS.upd, hk, List.append_assoc]
  rw [← e]
  exact h2
section
variable {P : Program} {E : Env} {ops : Array Oper} {K : AS → Prop} {draw : Bool}
variable {r : List Oper} {acc : List (Upd × Foot)} {tm : List (Nat × AVal)} {ob : List (Nat × Option AObj)} {nx d ty : Nat} {pos : String} {aft : Array Edge}
theorem rx_callFz {fo : Operand} {args : Array Operand} {ats : Array TypeId} {f : Nat} {vs as' : List AVal} {outs : List (Option AObj)} {rv rv' x' : AVal} {ob' : List (Nat × Option AObj)} {obj : AObj} (t q : Nat) (hpf : PFM P f [] as' outs rv)
    (ho : (AS.mk tm ob nx).obj q = some obj) (hq : k8 E.m q ⟨tm, ob, nx⟩) (hfa : FB q obj.els ((AS.mk tm ob nx).get t) x') (hi : ∀ x ∈ obj.els, ∀ c ∈ x, Imm c)
    (hd : xQ (some d) E.n = true) (hx : opV ((t, x') :: tm) fo = some (.c (.fn f []))) (hvs : jD ((t, x') :: tm) args.toList = some vs) (hm : Nat.ble E.m nx = true)
    (hargs : MAs ⟨(t, x') :: tm, (q, none) :: ob, nx⟩ [] [] vs as')
    (him : ∀ obj, some obj ∈ outs → ∀ x ∈ obj.els, ∀ c ∈ x, Imm c) (hrv : reV [] nx rv = rv') (hob : qP [] nx 0 outs ++ (q, none) :: ob = ob')
    (h : ∀ acc', regX P E ops K false r acc' ⟨(d, rv') :: (t, x') :: tm, ob', nx + outs.length⟩) : regY P E ops K false ⟨some d, .call { callee := .value fo, args := args, argTypes := ats }, ty, pos, aft, none⟩ r acc ⟨tm, ob, nx⟩ := by
  refine ⟨fun hw => ?_⟩
  obtain ⟨x1, x2⟩ := xD (ob := (q, none) :: ob) (nx := nx) hx
  obtain ⟨e1, e2⟩ := kC (ob := (q, none) :: ob) (nx := nx) hvs
  subst hrv hob
  have hs := StepOk.callM (P := P) (E := E) (ops := ops) (o := ⟨some d, .call { callee := .value fo, args := args, argTypes := ats }, ty, pos, aft, none⟩) (s := ⟨(t, x') :: tm, (q, none) :: ob, nx⟩) true [] [] rfl (Want.none_ rfl) hd (by rw [x2, e2]; rfl) hm rfl (fun _ => rfl) rfl (by unfold disjB; rfl) rfl .nil (Nat.zero_le _) x1 (by rw [e1]; exact hargs) .nil (by simpa using hpf) (fun e => by cases e) (fun e => by cases e) him (fun obj h => by cases h)
  have hp := StepOk.pre (s := ⟨tm, ob, nx⟩) ⟨[(t, x')], [(q, none)], 0⟩ ⟨[t], q :: List.range E.m⟩ rfl (fun N I s' β a w hag hr => by
    have hq' := hag.2 q (by simp)
    have ht' := hag.1 t (by simp)
    have hal : k8 E.m q s' := fun p hp => by
      obtain ⟨h1, y, h2⟩ := hq p hp
      exact ⟨h1, y, (hag.2 p (List.mem_cons_of_mem _ (List.mem_range.2 hp))).trans h2⟩
    obtain ⟨I', hr'⟩ := Rel.frzN (s' := s'.upd ⟨[(t, x')], [(q, none)], 0⟩) hr (hq'.trans ho) hal hi (fun k => by
      by_cases e : k = t
      · subst e
        rw [AS.get_some (x := x') (by rw [lk_cons, if_pos rfl]), ht']
        exact hfa
      · rw [zF (by rw [lk_cons, if_neg e]; rfl)]
        exact .same _) (fun p y hp => by
      by_cases e : p = q
      · subst e
        rw [zH (x := none) (by rw [lk_cons, if_pos rfl])] at hp
        cases hp
      · rw [zG (by rw [lk_cons, if_neg e]; rfl)] at hp
        exact ⟨e, y, hp, rfl, rfl, All2.refl (fun l => All2.refl (fun c => .same c) l) _⟩)
    exact ⟨I', β, hr'⟩) hs
  exact regX.cons (s' := ⟨(d, reV [] nx rv) :: (t, x') :: tm, qP [] nx 0 outs ++ (q, none) :: ob, nx + outs.length⟩) _ _ hp (by simp [AS.upd, kS]) (h _)
end
end Go.Proofs.YtchpdclknbmdoaaGreatDoor
