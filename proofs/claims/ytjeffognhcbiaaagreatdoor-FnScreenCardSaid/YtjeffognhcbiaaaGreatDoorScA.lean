/- Spelling: vowels, rules, joined words; atoms applied to a state; what is on the screen. Plain Lean, no conditions. -/
import Derived.Test.YtjeffognhcbiaaaGreatDoorTrD
import Derived.Test.YtjeffognhcbiaaaGreatDoorTpF
import Derived.Test.YtjeffognhcbiaaaGreatDoorSgA
namespace Go.Proofs.YtjeffognhcbiaaaGreatDoor
open Go Go.RowKit
def vowB (b : UInt8) : Bool := decide (((b.toNat : Nat) : Int) = 97) || decide (((b.toNat : Nat) : Int) = 101) || decide (((b.toNat : Nat) : Int) = 105) || decide (((b.toNat : Nat) : Int) = 111) || decide (((b.toNat : Nat) : Int) = 117)
def vU (b : UInt8) : Bool := decide ((97 : Int) ≤ ((b.toNat : Nat) : Int)) && decide (((b.toNat : Nat) : Int) ≤ 122)
def kF (s : List UInt8) : Bool := s.all vU && inZ s.length 1 24
def at0 (s : List UInt8) (k : Nat) : UInt8 := (s[k]?).getD 0
def bk (s : List UInt8) (i : Nat) : UInt8 := at0 s (s.length - i)
theorem kK {s : List UInt8} {k : Nat} (h : k < s.length) : s[k]? = some (at0 s k) := by
  obtain ⟨x, hx⟩ := xT h
  rw [at0, hx]; rfl
theorem qR {s : List UInt8} {i : Nat} (h : i ≤ s.length) (h1 : 1 ≤ i) : s[s.length - i]? = some (bk s i) := kK (by omega)
def grpN (s : List UInt8) : Nat → Nat
  | 0 => 0
  | k + 1 => grpN s k + if vowB (at0 s k) && (decide (k = 0) || !vowB (at0 s (k - 1))) then 1 else 0
theorem grpN_le (s : List UInt8) : ∀ k, grpN s k ≤ k
  | 0 => Nat.le_refl _
  | k + 1 => by
    have := grpN_le s k
    rw [grpN]
    split <;> omega
def cyB (w : List UInt8) : Bool := decide (2 ≤ w.length) && decide (((bk w 1).toNat : Int) = 121) && !vowB (bk w 2)
def endsB (s e : List UInt8) : Bool := decide (e.length ≤ s.length) && decide (s.drop (s.length - e.length) = e)
def dbB (w : List UInt8) : Bool := decide (3 ≤ w.length) && decide (grpN w w.length = 1) && !vowB (bk w 3) && vowB (bk w 2) && !vowB (bk w 1) && !decide (((bk w 1).toNat : Int) = 119) && !decide (((bk w 1).toNat : Int) = 120) && !decide (((bk w 1).toNat : Int) = 121)
def hissB (w : List UInt8) : Bool := endsB w [115] || endsB w [120] || endsB w [122] || endsB w [99, 104] || endsB w [115, 104]
def dropB (w : List UInt8) : Bool := decide ((2 : Int) ≤ ((w.length : Nat) : Int)) && endsB w [101] && !endsB w [101, 101] && !endsB w [111, 101] && !endsB w [121, 101]
def wB (w x : List UInt8) : Int :=
  if x = [115] ∧ cyB w = true then 1
  else if x = [115] ∧ hissB w = true then 2
  else if x = [105, 110, 103] ∧ endsB w [105, 101] = true then 3
  else if cyB w = true ∧ ¬ ((at0 x 0).toNat : Int) = 105 then 4
  else if dropB w = true ∧ vowB (at0 x 0) = true then 5
  else if dbB w = true ∧ vowB (at0 x 0) = true then 6
  else 0
def joinW (w x : List UInt8) : List UInt8 :=
  if wB w x = 1 then w.take (w.length - 1) ++ [105, 101, 115]
  else if wB w x = 2 then w ++ [101, 115]
  else if wB w x = 3 then w.take (w.length - 2) ++ [121, 105, 110, 103]
  else if wB w x = 4 then w.take (w.length - 1) ++ [105] ++ x
  else if wB w x = 5 then w.take (w.length - 1) ++ x
  else if wB w x = 6 then w ++ w.drop (w.length - 1) ++ x
  else w ++ x
def jE (w x : List UInt8) : Bool := kF w && kF x && decide ((joinW w x).length ≤ 24)
theorem cyB_len {w : List UInt8} (h : cyB w = true) : 2 ≤ w.length := by
  rw [cyB, Bool.and_eq_true, Bool.and_eq_true, decide_eq_true_eq] at h
  exact h.1.1
theorem endsB_len {w e : List UInt8} (h : endsB w e = true) : e.length ≤ w.length := by
  rw [endsB, Bool.and_eq_true, decide_eq_true_eq] at h
  exact h.1
theorem ruleN_len {w x : List UInt8} : (wB w x = 1 → 2 ≤ w.length) ∧ (wB w x = 3 → 2 ≤ w.length) ∧ (wB w x = 4 → 2 ≤ w.length) ∧ (wB w x = 5 → 2 ≤ w.length) ∧ (wB w x = 6 → 3 ≤ w.length) := by
  unfold wB
  split
  · rename_i h; have := cyB_len h.2; simp [this]
  split
  · simp
  split
  · rename_i h; have := endsB_len h.2; simpa using this
  split
  · rename_i h; have := cyB_len h.1; simp [this]
  split
  · rename_i h
    have := h.1
    simp only [dropB, Bool.and_eq_true, decide_eq_true_eq] at this
    have h2 : 2 ≤ w.length := by omega
    simp [h2]
  split
  · rename_i h
    have := h.1
    simp only [dbB, Bool.and_eq_true, decide_eq_true_eq] at this
    simp [this.1.1.1.1.1.1.1]
  · simp
theorem ruleN_rng (w x : List UInt8) : wB w x = 0 ∨ wB w x = 1 ∨ wB w x = 2 ∨ wB w x = 3 ∨ wB w x = 4 ∨ wB w x = 5 ∨ wB w x = 6 := by
  unfold wB
  repeat' split
  all_goals simp
structure StD where
  t : List UInt8
  j : Bool
  g : Bool
  c : Nat
  w : Nat
def v8 (s : StD) : List Cell := [str s.t, boo s.j, boo s.g, int (s.c : Nat), int (s.w : Nat)]
def upL (s : List UInt8) : List UInt8 := match s with
  | [] => []
  | b :: r => (if vU b then b - 32 else b) :: r
def kP (b : UInt8) : Bool := decide ((65 : Int) ≤ ((b.toNat : Nat) : Int)) && decide (((b.toNat : Nat) : Int) ≤ 90)
def loL (s : List UInt8) : List UInt8 := match s with
  | [] => []
  | b :: r => (if kP b then b + 32 else b) :: r
def casL (c : Nat) (s : List UInt8) : List UInt8 := if c = 1 then upL s else if c = 2 then loL s else s
theorem upL_len (s : List UInt8) : (upL s).length = s.length := by cases s <;> rfl
theorem loL_len (s : List UInt8) : (loL s).length = s.length := by cases s <;> rfl
theorem casL_len (c : Nat) (s : List UInt8) : (casL c s).length = s.length := by
  unfold casL
  split
  · exact upL_len s
  · split
    · exact loL_len s
    · rfl
def gap (s : StD) : List UInt8 := if s.j then s.t else s.t ++ [32]
def wH (s : StD) (x : List UInt8) : StD := ⟨gap s ++ casL s.c x, s.j, s.g, 0, (gap s).length⟩
def endT (s : StD) (x : List UInt8) : List UInt8 := if jE (s.t.drop s.w) x then s.t.take s.w ++ joinW (s.t.drop s.w) x else s.t ++ x
def gluS (s : StD) (x : List UInt8) : StD := ⟨(wH { s with j := s.j || s.g } x).t, false, true, 0, if s.g then s.w else (wH { s with j := s.j || s.g } x).w⟩
def apS (s : StD) (a : Atm) : StD :=
  if a.k = 1 then { wH s a.t with j := false, g := false }
  else if a.k = 3 then { wH s a.t with j := true, g := false }
  else if a.k = 5 then gluS s a.t
  else if a.k = 4 then ⟨s.t ++ a.t, true, false, s.c, s.w⟩
  else if a.k = 2 then ⟨endT s a.t, false, false, s.c, s.w⟩
  else if a.k = 6 then ⟨s.t ++ a.t, false, false, 1, s.w⟩
  else if a.k = 7 then ⟨s.t ++ a.t, false, false, s.c, s.w⟩
  else if a.k = 8 then { s with c := 1 }
  else if a.k = 9 then { s with c := 2 }
  else if a.k = 10 then { s with t := s.t.take s.w ++ upL (s.t.drop s.w) }
  else s
def prB (b : UInt8) : Bool := inZ b.toNat 32 126
structure StOk (s : StD) : Prop where
  pr : s.t.all prB = true
  c : s.c ≤ 2
  w : s.w ≤ s.t.length
def stOk (s : StD) : Bool := decide (s.t.length ≤ 2000) && s.t.all prB && inZ s.c 0 2 && inZ s.w 0 s.t.length
theorem stOk_of {s : StD} (h : StOk s) (hl : s.t.length ≤ 2000) : stOk s = true := by
  have h1 := h.c
  have h2 := h.w
  rw [stOk, h.pr, inZ, inZ, decide_eq_true hl, decide_eq_true (by omega), decide_eq_true (by omega)]; rfl
theorem stOk_long {s : StD} (hl : ¬ s.t.length ≤ 2000) : stOk s = false := by
  rw [stOk, decide_eq_false hl]; rfl
theorem pr_fin : ∀ n : Fin 256, (okC (UInt8.ofNat n.val) = true → prB (UInt8.ofNat n.val) = true) ∧ (vU (UInt8.ofNat n.val) = true → prB (UInt8.ofNat n.val) = true ∧ prB (UInt8.ofNat n.val - 32) = true) ∧ (kP (UInt8.ofNat n.val) = true → prB (UInt8.ofNat n.val + 32) = true) := by decide +kernel
theorem pr_of (b : UInt8) : (okC b = true → prB b = true) ∧ (vU b = true → prB b = true ∧ prB (b - 32) = true) ∧ (kP b = true → prB (b + 32) = true) := by
  have h := pr_fin ⟨b.toNat, b.toNat_lt⟩
  simpa using h
theorem pr_word {t : List UInt8} (h : vC t = true) : t.all prB = true := by
  rw [vC, Bool.and_eq_true] at h
  rw [List.all_eq_true] at h ⊢
  exact fun x hx => (pr_of x).1 (h.1 x hx)
theorem pr_up {t : List UInt8} (h : t.all prB = true) : (upL t).all prB = true := by
  cases t with
  | nil => rfl
  | cons b r =>
    rw [List.all_cons, Bool.and_eq_true] at h
    rw [upL, List.all_cons, Bool.and_eq_true]
    refine ⟨?_, h.2⟩
    split
    · rename_i hb; exact ((pr_of b).2.1 hb).2
    · exact h.1
theorem pr_lo {t : List UInt8} (h : t.all prB = true) : (loL t).all prB = true := by
  cases t with
  | nil => rfl
  | cons b r =>
    rw [List.all_cons, Bool.and_eq_true] at h
    rw [loL, List.all_cons, Bool.and_eq_true]
    refine ⟨?_, h.2⟩
    split
    · rename_i hb; exact (pr_of b).2.2 hb
    · exact h.1
theorem pr_cas {t : List UInt8} (c : Nat) (h : t.all prB = true) : (casL c t).all prB = true := by
  unfold casL
  split
  · exact pr_up h
  · split
    · exact pr_lo h
    · exact h
theorem w9 {a b : List UInt8} (h : a.all prB = true) (k : b.all prB = true) : (a ++ b).all prB = true := by rw [List.all_append, h, k]; rfl
theorem q8 {a : List UInt8} (n : Nat) (h : a.all prB = true) : (a.take n).all prB = true := by
  rw [List.all_eq_true] at h ⊢
  exact fun x hx => h x (List.mem_of_mem_take hx)
theorem pr_drop {a : List UInt8} (n : Nat) (h : a.all prB = true) : (a.drop n).all prB = true := by
  rw [List.all_eq_true] at h ⊢
  exact fun x hx => h x (List.mem_of_mem_drop hx)
theorem pr_gap {s : StD} (h : s.t.all prB = true) : (gap s).all prB = true := by
  unfold gap
  split
  · exact h
  · exact w9 h (by decide)
theorem pr_join {w x : List UInt8} (h : w.all prB = true) (k : x.all prB = true) : (joinW w x).all prB = true := by
  unfold joinW
  repeat' split
  · exact w9 (q8 _ h) (by decide)
  · exact w9 h (by decide)
  · exact w9 (q8 _ h) (by decide)
  · exact w9 (w9 (q8 _ h) (by decide)) k
  · exact w9 (q8 _ h) k
  · exact w9 (w9 h (pr_drop _ h)) k
  · exact w9 h k
theorem good_pr {a : Atm} (h : x6 a = true) : a.t.all prB = true := by
  unfold x6 at h
  repeat' split at h
  all_goals first
    | exact pr_word h
    | (simp only [Bool.or_eq_true, decide_eq_true_eq] at h
       rcases h with (h | h) | h <;> (rw [h]; decide))
    | (rw [decide_eq_true_eq] at h; rw [h]; rfl)
    | cases h
theorem good_tlen {a : Atm} (h : x6 a = true) : a.t.length ≤ 20 := (good_len h).2
theorem StOk.ap {s : StD} {a : Atm} (h : StOk s) (hg : x6 a = true) : StOk (apS s a) := by
  have hp := good_pr hg
  have h1 := h.pr
  have h2 := h.c
  have h3 := h.w
  have hgl : s.w ≤ (gap s).length := by
    unfold gap
    split
    · exact h3
    · rw [List.length_append]; omega
  have hput : ∀ (s : StD) (x : List UInt8), s.t.all prB = true → x.all prB = true → (wH s x).t.all prB = true ∧ (wH s x).w ≤ (wH s x).t.length := fun s x hs hx =>
    ⟨w9 (pr_gap hs) (pr_cas _ hx), by show (gap s).length ≤ (gap s ++ casL s.c x).length; rw [List.length_append]; omega⟩
  unfold apS
  split
  · exact ⟨(hput s _ h1 hp).1, Nat.zero_le _, (hput s _ h1 hp).2⟩
  split
  · exact ⟨(hput s _ h1 hp).1, Nat.zero_le _, (hput s _ h1 hp).2⟩
  split
  · have hq := hput { s with j := s.j || s.g } a.t h1 hp
    refine ⟨hq.1, Nat.zero_le _, ?_⟩
    show (if s.g then s.w else (wH { s with j := s.j || s.g } a.t).w) ≤ (wH { s with j := s.j || s.g } a.t).t.length
    split
    · show s.w ≤ (gap { s with j := s.j || s.g } ++ casL s.c a.t).length
      rw [List.length_append]
      have : s.w ≤ (gap { s with j := s.j || s.g }).length := by
        unfold gap
        split
        · exact h3
        · show s.w ≤ (s.t ++ [32]).length
          rw [List.length_append]; omega
      omega
    · exact hq.2
  split
  · exact ⟨w9 h1 hp, h2, by show s.w ≤ (s.t ++ a.t).length; rw [List.length_append]; omega⟩
  split
  · refine ⟨?_, h2, ?_⟩
    · show (endT s a.t).all prB = true
      unfold endT
      split
      · exact w9 (q8 _ h1) (pr_join (pr_drop _ h1) hp)
      · exact w9 h1 hp
    · show s.w ≤ (endT s a.t).length
      unfold endT
      split
      · rw [List.length_append, List.length_take]; omega
      · rw [List.length_append]; omega
  split
  · exact ⟨w9 h1 hp, by show 1 ≤ 2; omega, by show s.w ≤ (s.t ++ a.t).length; rw [List.length_append]; omega⟩
  split
  · exact ⟨w9 h1 hp, h2, by show s.w ≤ (s.t ++ a.t).length; rw [List.length_append]; omega⟩
  split
  · exact ⟨h1, by show 1 ≤ 2; omega, h3⟩
  split
  · exact ⟨h1, by show 2 ≤ 2; omega, h3⟩
  split
  · refine ⟨w9 (q8 _ h1) (pr_up (pr_drop _ h1)), h2, ?_⟩
    show s.w ≤ (s.t.take s.w ++ upL (s.t.drop s.w)).length
    rw [List.length_append, List.length_take]; omega
  · exact h
theorem joinW_len (w x : List UInt8) : (joinW w x).length ≤ w.length + x.length + 4 := by
  unfold joinW
  repeat' split
  all_goals (simp only [List.length_append, List.length_take, List.length_drop, List.length_cons, List.length_nil]; omega)
theorem apS_len {s : StD} {a : Atm} (h : a.t.length ≤ 20) : (apS s a).t.length ≤ s.t.length + 30 := by
  have hg : ∀ s : StD, (gap s).length ≤ s.t.length + 1 := fun s => by
    unfold gap
    split
    · omega
    · rw [List.length_append]; exact Nat.le_refl _
  have hput : ∀ (s : StD), (wH s a.t).t.length ≤ s.t.length + 30 := fun s => by
    show (gap s ++ casL s.c a.t).length ≤ _
    rw [List.length_append, casL_len]
    have := hg s
    omega
  unfold apS
  split
  · exact hput s
  split
  · exact hput s
  split
  · exact hput { s with j := s.j || s.g }
  split
  · show (s.t ++ a.t).length ≤ _
    rw [List.length_append]; omega
  split
  · show (endT s a.t).length ≤ _
    unfold endT
    split
    · rename_i hj
      have := joinW_len (s.t.drop s.w) a.t
      rw [List.length_append, List.length_take]
      rw [List.length_drop] at this
      omega
    · rw [List.length_append]; omega
  split
  · show (s.t ++ a.t).length ≤ _
    rw [List.length_append]; omega
  split
  · show (s.t ++ a.t).length ≤ _
    rw [List.length_append]; omega
  split
  · show s.t.length ≤ _; omega
  split
  · show s.t.length ≤ _; omega
  split
  · show (s.t.take s.w ++ upL (s.t.drop s.w)).length ≤ _
    rw [List.length_append, List.length_take, upL_len, List.length_drop]; omega
  · omega
def runA : List Atm → StD → Option StD
  | [], s => some s
  | a :: l, s => if x6 a && decide ((apS s a).t.length ≤ 2000) then runA l (apS s a) else none
def stZ : StD := ⟨[], true, false, 0, 0⟩
def scrOk (l : List Atm) : Bool := decide (l.length ≤ 600) && (runA l stZ).isSome
def scrT (l : List Atm) : List UInt8 := if l.length ≤ 600 then (match runA l stZ with | some s => s.t | none => []) else []
theorem stZ_ok : StOk stZ := ⟨rfl, by decide, Nat.le_refl _⟩
def stK (l : List Atm) : Nat → StD
  | 0 => stZ
  | k + 1 => match l[k]? with | some a => apS (stK l k) a | none => stK l k
theorem vG {l : List Atm} {k : Nat} {a : Atm} (h : l[k]? = some a) : stK l (k + 1) = apS (stK l k) a := by rw [stK, h]
structure Runs (l : List Atm) (k : Nat) : Prop where
  ok : StOk (stK l k)
  len : (stK l k).t.length ≤ 2000
  run : runA l stZ = runA (l.drop k) (stK l k)
theorem Runs.zero (l : List Atm) : Runs l 0 := ⟨stZ_ok, Nat.zero_le _, by rw [List.drop_zero]; rfl⟩
theorem run_step {l : List Atm} {k : Nat} {a : Atm} (h : Runs l k) (ha : l[k]? = some a) : runA l stZ = if x6 a && decide ((stK l (k + 1)).t.length ≤ 2000) then runA (l.drop (k + 1)) (stK l (k + 1)) else none := by
  rw [h.run, drop_cons ha, runA, vG ha]
theorem Runs.succ {l : List Atm} {k : Nat} {a : Atm} (h : Runs l k) (ha : l[k]? = some a) (hg : x6 a = true) (hl : (stK l (k + 1)).t.length ≤ 2000) : Runs l (k + 1) :=
  ⟨by rw [vG ha]; exact h.ok.ap hg, hl, by rw [run_step h ha, hg, decide_eq_true hl]; rfl⟩
theorem run_bad {l : List Atm} {k : Nat} {a : Atm} (h : Runs l k) (ha : l[k]? = some a) (hg : x6 a = false) : runA l stZ = none := by rw [run_step h ha, hg]; rfl
theorem run_long {l : List Atm} {k : Nat} {a : Atm} (h : Runs l k) (ha : l[k]? = some a) (hl : ¬ (stK l (k + 1)).t.length ≤ 2000) : runA l stZ = none := by rw [run_step h ha, decide_eq_false hl, Bool.and_false]; rfl
theorem run_all {l : List Atm} (h : Runs l l.length) : runA l stZ = some (stK l l.length) := by rw [h.run, List.drop_length, runA]
theorem qA {l : List Atm} (h : runA l stZ = none) : scrOk l = false ∧ scrT l = [] := by
  rw [scrOk, scrT, h]
  refine ⟨by simp, ?_⟩
  split <;> rfl
theorem scr_some {l : List Atm} {s : StD} (h : runA l stZ = some s) (hl : l.length ≤ 600) : scrOk l = true ∧ scrT l = s.t := by
  rw [scrOk, scrT, h, if_pos hl, decide_eq_true hl]
  exact ⟨rfl, rfl⟩
theorem scr_long {l : List Atm} (hl : ¬ l.length ≤ 600) : scrOk l = false ∧ scrT l = [] := by
  rw [scrOk, scrT, if_neg hl, decide_eq_false hl]
  exact ⟨rfl, rfl⟩
def rawL (t : List UInt8) : List UInt8 := match t with
  | [] => []
  | b :: r => if ((b.toNat : Nat) : Int) = 35 then 61 :: r else b :: r
def atP (l : List Int) (p : Pc) : List Atm := if p.t = [] then [⟨1, rawL (fmt ((l[p.f.toNat]?).getD 0).toNat)⟩] else trR p.t
def atK (l : List Int) (ps : List Pc) (k : Nat) : List Atm := (ps.take k).flatMap (atP l)
theorem atK_succ {l : List Int} {ps : List Pc} {k : Nat} {p : Pc} (h : ps[k]? = some p) : atK l ps (k + 1) = atK l ps k ++ atP l p := by
  have : ps.take (k + 1) = ps.take k ++ [p] := by
    rw [List.take_add_one, h]; rfl
  rw [atK, atK, this, List.flatMap_append, List.flatMap_singleton]
end Go.Proofs.YtjeffognhcbiaaaGreatDoor
