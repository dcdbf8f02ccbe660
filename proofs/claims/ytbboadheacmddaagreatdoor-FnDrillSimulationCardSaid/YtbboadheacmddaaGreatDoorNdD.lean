/- NewDeck: both programs agree. No conditions but bounds of lengths. -/
import Derived.Test.YtbboadheacmddaaGreatDoorNdC
namespace Go.Proofs.YtbboadheacmddaaGreatDoor
open Go Go.RowKit
theorem mrg_perm {α : Type} {lt : α → α → Bool} : ∀ (n : Nat) (A B : List α), A.length + B.length ≤ n → (mrg lt A B).Perm (A ++ B)
  | n, [], B, _ => by rw [mrg_nil]; exact .refl _
  | n, a :: A, [], _ => by rw [mrg_nilR, List.append_nil]
  | 0, a :: A, b :: B, h => by simp at h
  | n + 1, a :: A, b :: B, h => by
    simp only [List.length_cons] at h
    rw [mrg_cons]
    split
    · exact ((mrg_perm n (a :: A) B (by simp only [List.length_cons]; omega)).cons b).trans List.perm_middle.symm
    · exact (mrg_perm n A (b :: B) (by simp only [List.length_cons]; omega)).cons a
theorem stab_perm {α : Type} (lt : α → α → Bool) (l : List α) : (stab lt l).Perm l := by
  induction h : l.length generalizing l with
  | zero => obtain rfl := List.length_eq_zero_iff.1 h; exact .refl _
  | succ n ih =>
    have hne : l ≠ [] := by rintro rfl; cases h
    have hd := ih l.dropLast (by simp; omega)
    have e := List.dropLast_concat_getLast hne
    rw [← e, stab_snoc]
    exact (mrg_perm _ _ _ (Nat.le_refl _)).trans (hd.append_right _)
theorem deckT_perm (ws : List (List UInt8)) : ((deckT ws).map CardD.text).Perm ws := by
  have h := (stab_perm ltT (ws.map cardT)).map CardD.text
  rw [List.map_map] at h
  have e : ws.map (CardD.text ∘ cardT) = ws := List.map_id' ws
  rwa [e] at h
theorem ord_lt {cs : List CardD} (h : (List.range (cs.length - 1)).all (ordAt cs) = true) : ∀ (d i : Nat) (a b : CardD), cs[i]? = some a → cs[i + d + 1]? = some b → ltT a b = true
  | 0, i, a, b, ha, hb => by
    have hl := (List.getElem?_eq_some_iff.1 hb).1
    have := (List.all_eq_true.1 h) i (List.mem_range.2 (by omega))
    rwa [ordAt_eq ha hb] at this
  | d + 1, i, a, b, ha, hb => by
    have hl := (List.getElem?_eq_some_iff.1 hb).1
    obtain ⟨c, hc⟩ := at_lt (show i + d + 1 < cs.length by omega)
    have h1 := ord_lt h d i a c ha hc
    have h2 := ord_lt h 0 (i + d + 1) c b hc (by rw [show i + d + 1 + 0 + 1 = i + (d + 1) + 1 by omega]; exact hb)
    exact ltT_wk.tr _ _ _ h1 h2
theorem deckOk_T (ws : List (List UInt8)) : deckOk (deckT ws) = true ↔ ws.length ≤ 40 ∧ (∀ l ∈ ws, plainB l = true) ∧ ws.Nodup := by
  have hl := deckT_len ws
  have hp := deckT_perm ws
  have hs : Srt ltT (deckT ws) := stab_srt ltT_wk _
  rw [deckOk_eq]
  simp only [Bool.and_eq_true, decide_eq_true_eq]
  constructor
  · rintro ⟨h1, h2, h3⟩
    refine ⟨by omega, fun l hlm => ?_, ?_⟩
    · have : cardT l ∈ deckT ws := (stab_mem ltT _ _).2 (List.mem_map.2 ⟨l, hlm, rfl⟩)
      have := List.all_eq_true.1 h2 _ this
      simp only [cardOk, Bool.and_eq_true] at this
      exact this.1.1
    · refine hp.nodup_iff.1 ?_
      rw [List.Nodup, List.pairwise_map, List.pairwise_iff_getElem]
      intro i j hi hj hij e
      have := ord_lt h3 (j - i - 1) i _ _ (List.getElem?_eq_getElem hi) (by rw [show i + (j - i - 1) + 1 = j by omega]; exact List.getElem?_eq_getElem hj)
      rw [ltT, e, bytesLess_irr] at this
      cases this
  · rintro ⟨h1, h2, h3⟩
    refine ⟨by omega, List.all_eq_true.2 fun c hc => ?_, List.all_eq_true.2 fun i hi => ?_⟩
    · obtain ⟨l, hlm, rfl⟩ := deckT_mem hc
      simp only [cardOk, cardT, h2 l hlm]
      rfl
    · rw [List.mem_range] at hi
      obtain ⟨a, ha⟩ := at_lt (show i < (deckT ws).length by omega)
      obtain ⟨b, hb⟩ := at_lt (show i + 1 < (deckT ws).length by omega)
      have hab := srt_at hs ltT_wk ha hb (by omega)
      have hne : a.text ≠ b.text := by
        have hn := hp.nodup_iff.2 h3
        rw [List.Nodup, List.pairwise_map, List.pairwise_iff_getElem] at hn
        obtain ⟨g1, rfl⟩ := List.getElem?_eq_some_iff.1 ha
        obtain ⟨g2, rfl⟩ := List.getElem?_eq_some_iff.1 hb
        exact hn i (i + 1) g1 g2 (by omega)
      rw [ordAt_eq ha hb, less_tot]
      rw [ltT] at hab
      rw [hab]
      simp [Ne.symm hne]
theorem badT_eq (us : List (List UInt8)) (t : List UInt8) : badT (deckT us) t = true ↔ (plainB t = false ∨ t ∈ us) := by
  have hs : Srt ltT (deckT us) := stab_srt ltT_wk _
  have hq : ∀ q, (deckT us)[posT (deckT us) t]? = some q → Op.bytesLess q.text t = false := fun q h => by
    have h1 : ((deckT us).dropWhile (fun c => Op.bytesLess c.text t)).head? = some q := by rw [← drop_posT, List.head?_drop]; exact h
    have h2 := List.head?_dropWhile_not (fun c : CardD => Op.bytesLess c.text t) (deckT us)
    rw [h1] at h2
    simpa using h2
  have key : hitT (deckT us)[posT (deckT us) t]? t = true ↔ t ∈ us := by
    constructor
    · intro h
      cases hc : (deckT us)[posT (deckT us) t]? with
      | none => rw [hc] at h; cases h
      | some c =>
        rw [hc] at h
        obtain ⟨l, hl, rfl⟩ := deckT_mem (List.mem_of_getElem? hc)
        have : l = t := eq_of_beq h
        rw [← this]; exact hl
    · intro h
      have hm : cardT t ∈ deckT us := (stab_mem ltT _ _).2 (List.mem_map.2 ⟨t, h, rfl⟩)
      obtain ⟨i, hi⟩ := List.getElem?_of_mem hm
      have hge : posT (deckT us) t ≤ i := by
        refine Nat.not_lt.1 fun hlt => ?_
        have h1 : ((deckT us).take (posT (deckT us) t))[i]? = some (cardT t) := by rw [List.getElem?_take_of_lt hlt]; exact hi
        rw [take_posT] at h1
        have h2 := List.all_eq_true.1 List.all_takeWhile _ (List.mem_of_getElem? h1)
        rw [show (cardT t).text = t from rfl, bytesLess_irr] at h2
        cases h2
      have hil := (List.getElem?_eq_some_iff.1 hi).1
      obtain ⟨q, hqq⟩ := at_lt (show posT (deckT us) t < (deckT us).length by omega)
      have h1 := hq q hqq
      have h2 := srt_at hs ltT_wk hqq hi hge
      rw [hqq]
      rw [less_tot] at h1
      rw [ltT, show (cardT t).text = t from rfl] at h2
      rw [h2, Bool.false_or] at h1
      have h3 : (t == q.text) = true := by cases hx : (t == q.text) <;> rw [hx] at h1 <;> first | rfl | cases h1
      exact beq_iff_eq.2 (eq_of_beq h3).symm
  rw [badT, Bool.or_eq_true, key, Bool.not_eq_true']
theorem insT_T (us : List (List UInt8)) (t : List UInt8) (h : t ∉ us) : insT (deckT us) t = deckT (us ++ [t]) := by
  rw [deckT, deckT, List.map_append, List.map_cons, List.map_nil, stab_snoc]
  have e := mrg_one (lt := ltT) (P := (deckT us).takeWhile (fun c => Op.bytesLess c.text t)) (Q := (deckT us).dropWhile (fun c => Op.bytesLess c.text t)) (x := cardT t) (fun p hp => ?_) (fun q hq => ?_)
  · rw [List.takeWhile_append_dropWhile] at e
    rw [deckT] at e
    rw [e]; rfl
  · have h2 : ltT p (cardT t) = true := List.all_eq_true.1 (List.all_takeWhile (p := fun c : CardD => Op.bytesLess c.text t) (l := deckT us)) p hp
    cases hlt : ltT (cardT t) p with
    | false => rfl
    | true =>
      have := ltT_wk.tr _ _ _ hlt h2
      rw [ltT_wk.irr] at this
      cases this
  · have h2 := List.head?_dropWhile_not (fun c : CardD => Op.bytesLess c.text t) (deckT us)
    rw [hq] at h2
    have h2 : Op.bytesLess q.text t = false := by simpa using h2
    have hqm : q ∈ deckT us := List.dropWhile_sublist _ |>.subset (List.mem_of_mem_head? (by rw [hq]; exact rfl))
    obtain ⟨l, hl, rfl⟩ := deckT_mem hqm
    have hne : l ≠ t := fun e => h (e ▸ hl)
    rw [show (cardT l).text = l from rfl] at h2
    rw [ltT, show (cardT t).text = t from rfl, show (cardT l).text = l from rfl, less_tot, h2]
    simp [hne]
theorem ndL_T : ∀ (ts us : List (List UInt8)), us.Nodup → (((∀ l ∈ ts, plainB l = true) ∧ (us ++ ts).Nodup) → ndL ts (deckT us) = some (deckT (us ++ ts))) ∧ (¬ ((∀ l ∈ ts, plainB l = true) ∧ (us ++ ts).Nodup) → ndL ts (deckT us) = none)
  | [], us, hu => by
    rw [List.append_nil]
    exact ⟨fun _ => rfl, fun h => absurd ⟨fun l hl => absurd hl List.not_mem_nil, hu⟩ h⟩
  | t :: ts, us, hu => by
    rw [ndL]
    by_cases hb : badT (deckT us) t = true
    · rw [if_pos hb]
      rw [badT_eq] at hb
      refine ⟨fun ⟨h1, h2⟩ => ?_, fun _ => rfl⟩
      rcases hb with hb | hb
      · rw [h1 t List.mem_cons_self] at hb; cases hb
      · exact absurd rfl ((List.nodup_append.1 h2).2.2 t hb t List.mem_cons_self)
    · rw [if_neg hb]
      rw [badT_eq, not_or] at hb
      obtain ⟨hb1, hb2⟩ := hb
      rw [insT_T us t hb2]
      have hu2 : (us ++ [t]).Nodup := by
        rw [List.nodup_append]
        exact ⟨hu, by simp, fun a ha b hb => by simp at hb; subst hb; exact fun e => hb2 (e ▸ ha)⟩
      have ih := ndL_T ts (us ++ [t]) hu2
      have e : us ++ [t] ++ ts = us ++ t :: ts := by simp
      rw [e] at ih
      have hiff : ((∀ l ∈ t :: ts, plainB l = true) ∧ (us ++ t :: ts).Nodup) ↔ ((∀ l ∈ ts, plainB l = true) ∧ (us ++ t :: ts).Nodup) := by
        constructor
        · exact fun ⟨h1, h2⟩ => ⟨fun l hl => h1 l (List.mem_cons_of_mem _ hl), h2⟩
        · refine fun ⟨h1, h2⟩ => ⟨fun l hl => ?_, h2⟩
          rcases List.mem_cons.1 hl with rfl | hl
          · simpa using hb1
          · exact h1 l hl
      rw [hiff]
      exact ih
theorem ndL_deck (ws : List (List UInt8)) (hl : ws.length ≤ 40) : ndL ws [] = if deckOk (deckT ws) then some (deckT ws) else none := by
  have h := ndL_T ws [] List.nodup_nil
  rw [List.nil_append] at h
  by_cases hk : deckOk (deckT ws) = true
  · rw [if_pos hk]
    exact h.1 ((deckOk_T ws).1 hk).2
  · rw [if_neg hk]
    refine h.2 fun h' => hk ((deckOk_T ws).2 ⟨hl, h'⟩)
theorem specNewDeck_new (ws : List (List UInt8)) (hb : ws.length ≤ 4000000 ∧ ∀ l ∈ ws, l.length ≤ 4000000) : PF Tryz.prog 51 [.c (.sl (ws.map eStr))] (newOut ws) (newRes ws) := by
  by_cases hl : ws.length ≤ 40
  · have h := specNewDeck_pf ws hb hl
    rw [ndL_deck ws hl] at h
    unfold newOut newRes
    by_cases hk : deckOk (deckT ws) = true
    · rw [if_pos hk] at h
      rw [if_pos hk, if_pos hk]
      rw [ndOut, ndRes, deckT_len] at h
      exact h
    · rw [if_neg hk] at h
      rw [if_neg hk, if_neg hk]
      exact h
  · have hk : ¬ deckOk (deckT ws) = true := fun h => hl ((deckOk_T ws).1 h).1
    unfold newOut newRes
    rw [if_neg hk, if_neg hk]
    exact specNewDeck_long ws hb (by omega)
end Go.Proofs.YtbboadheacmddaaGreatDoor
