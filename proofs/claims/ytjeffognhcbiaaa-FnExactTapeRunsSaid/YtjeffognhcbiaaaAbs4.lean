/- The abstract machine, part 18: library functions without a body: IndexByteString; strings.Contains of one byte. -/
import Derived.Test.YtjeffognhcbiaaaAbs3
import Derived.Test.YtjeffognhcbiaaaTab
import Derived.Lib.Strings
import Derived.Lib.Walk
import Derived.Lib.Bytealg
namespace Go.Proofs.Ytjeffognhcbiaaa
open Go Go.RowKit
theorem zF (f : Nat) : Imm (.fn f []) := Imm.fn f [] (by simp)
theorem wW : ∀ x ∈ ([] : List Cell), Imm x := fun x hx => by simp at hx
theorem wA {c : Cell} {cs : List Cell} (h : Imm c) (hs : ∀ x ∈ cs, Imm x) : ∀ x ∈ c :: cs, Imm x := fun x hx => by
  rcases List.mem_cons.1 hx with rfl | hx
  · exact h
  · exact hs x hx
theorem VCs.same {s : AS} {V : List Nat} : ∀ {cs : List Cell}, (∀ c ∈ cs, Imm c) → VCs s V cs cs
  | [], _ => .nil
  | _ :: _, h => .cons (.imm (h _ (by simp))) (VCs.same fun c hc => h c (by simp [hc]))

section
variable {P : Program} {E : Env} {ops : Array Oper} {K : AS → Prop} {draw : Bool} {r : List Oper} {acc : List (Upd × Foot)} {tm : List (Nat × AVal)} {ob : List (Nat × Option AObj)} {nx d ty : Nat} {pos : String} {aft : Array Edge} {g : Option (Nat × Bool)}
end
end Go.Proofs.Ytjeffognhcbiaaa

namespace Go.Proofs.Ytjeffognhcbiaaa
open Go Go.RowKit
theorem PFM.enterT {P : Program} {f m : Nat} {fn : Func} {c : Code} {ins : List AObj} {xs : List AVal} {tm : List (Nat × AVal)} {ob : List (Nat × Option AObj)} {outs : List (Option AObj)} {rv : AVal} (htm : xM 0 xs = tm) (hob : xM 0 (ins.map some) = ob) (hm : ins.length = m)
    (hf : P.funcs[f]? = some fn) (hb : fn.body = some c) (hnm : (fn.name == "runtime.NumGoroutine") = false)
    (n : Nat) (res : List ResultVar) (hn : fn.ntmps = n) (hl : Nat.ble xs.length n = true) (hres : fn.results = res.toArray)
    (h : ∀ w0 mu I0 β0 gi dis, AWp P ⟨w0, mu, I0, n, β0, m, gi, dis⟩ c (retK P res outs rv m) ⟨tm, ob, m⟩) : PFM P f ins xs outs rv := by
  subst htm hob hm
  exact PFM.enter hf hb hnm n res hn hl hres h
theorem enumM1 (a : AObj) : xM 0 ([a].map some) = [(0, some a)] := rfl
section
variable {P : Program} {E : Env} {ops : Array Oper} {K : AS → Prop} {draw : Bool}
variable {r : List Oper} {acc : List (Upd × Foot)} {tm : List (Nat × AVal)} {ob : List (Nat × Option AObj)} {nx d ty : Nat} {pos : String} {aft : Array Edge} {g : Option (Nat × Bool)}
theorem rx_callMf {fo : Operand} {args : Array Operand} {ats : Array TypeId} {f : Nat} {vs as' : List AVal} {ins : List AObj} {outs : List (Option AObj)} {rv rv' : AVal} {ob' : List (Nat × Option AObj)} (μ : List Nat) (hpf : PFM P f ins as' outs rv)
    (hd : zX (some d) E.n = true) (hx : opV tm fo = some (.c (.fn f []))) (hvs : vE tm args.toList = some vs) (hm : Nat.ble E.m nx = true)
    (hμ : nodupB μ = true) (hlt : μ.all (fun q => Nat.blt q nx) = true) (hins : All2 (fun q obj => (AS.mk tm ob nx).obj q = some obj) μ ins) (hlen : Nat.ble ins.length outs.length = true) (hargs : MAs ⟨tm, ob, nx⟩ [] μ vs as')
    (him : ∀ obj, some obj ∈ outs → ∀ x ∈ obj.els, ∀ c ∈ x, Imm c) (hii : ∀ obj ∈ ins, ∀ x ∈ obj.els, ∀ c ∈ x, Imm c) (hrv : reV μ nx rv = rv') (hob : wK μ nx 0 outs ++ ob = ob')
    (h : regX P E ops K draw r ((callMU (some d) rv μ nx outs, ⟨(Oper.mk (some d) (.call { callee := .value fo, args := args, argTypes := ats }) ty pos aft g).looksAt ops, [] ++ μ⟩) :: acc) ⟨(d, rv') :: tm, ob', nx + (outs.length - μ.length)⟩) : regY P E ops K draw ⟨some d, .call { callee := .value fo, args := args, argTypes := ats }, ty, pos, aft, g⟩ r acc ⟨tm, ob, nx⟩ :=
  rx_callM true [] μ hd hx hvs hm rfl (fun _ => rfl) hμ (by unfold disjB; rfl) hlt hins (Nat.le_of_ble_eq_true hlen) hargs .nil (by simpa using hpf) (fun e => by cases e) (fun e => by cases e) him hii hrv hob h
end
theorem imO1 {o : AObj} (h : AllSc o.els) : ∀ obj, some obj ∈ [some o] → ∀ x ∈ obj.els, ∀ c ∈ x, Imm c := fun obj hm => by
  simp at hm; subst hm; exact h.imm
theorem imI1 {o : AObj} (h : AllSc o.els) : ∀ obj ∈ [o], ∀ x ∈ obj.els, ∀ c ∈ x, Imm c := fun obj hm => by
  simp at hm; subst hm; exact h.imm
end Go.Proofs.Ytjeffognhcbiaaa

namespace Go.Proofs.Ytjeffognhcbiaaa
open Go Go.RowKit
theorem imO2 {o : AObj} (h : ∀ x ∈ o.els, ∀ c ∈ x, Imm c) : ∀ obj, some obj ∈ [some o] → ∀ x ∈ obj.els, ∀ c ∈ x, Imm c := fun obj hm => by
  simp at hm; subst hm; exact h
theorem oI {s : AS} {d hi : Nat} {x : Operand} {k : IntKind} {z : Int} (h1 : opB x = true) (h2 : opA s x = .c (.v (.int k z))) (h3 : z = (hi : Int)) : OptI s d (some x) hi := ⟨h1, k, z, h2, h3⟩
theorem imI0 : ∀ obj ∈ ([] : List AObj), ∀ x ∈ obj.els, ∀ c ∈ x, Imm c := fun obj hm => by cases hm
theorem vwB {ρ : Ren} {b b' : Bool} (h : b = b') : VW ρ (mkRes [.c (.v (.bool b))]) (.c (boo b')) := by subst h; exact rfl
theorem vwS {ρ : Ren} {l l' : List UInt8} (h : l = l') : VW ρ (mkRes [.c (str l)]) (.c (str l')) := by subst h; exact rfl
theorem vwI {ρ : Ren} {p q : Int} (h : p = q) : VW ρ (mkRes [.c (int p)]) (.c (int q)) := by subst h; exact rfl
theorem fwB {ρ : Ren} {b b' : Bool} (h : b = b') : FW ρ (.c (.v (.bool b))) (.c (boo b')) := by subst h; exact rfl
theorem fwS {ρ : Ren} {l l' : List UInt8} (h : l = l') : FW ρ (.c (str l)) (.c (str l')) := by subst h; exact rfl
theorem fwI {ρ : Ren} {p q : Int} (h : p = q) : FW ρ (.c (int p)) (.c (int q)) := by subst h; exact rfl
theorem yA {a b : Nat} (h : a = b) : a = b := h
def lensB (n : Nat) : List (List Cell) → Bool
  | [] => true
  | x :: r => Nat.beq x.length n && lensB n r
theorem wS {n : Nat} : ∀ {l : List (List Cell)}, lensB n l = true → Bd (∀ x ∈ l, x.length = n)
  | [], _ => ⟨fun x h => by cases h⟩
  | y :: l, h => ⟨fun x hx => by
    simp only [lensB, Bool.and_eq_true] at h
    rcases List.mem_cons.1 hx with rfl | hx
    · exact Nat.eq_of_beq_eq_true h.1
    · exact (wS h.2).h x hx⟩
theorem vJ {n a b : Nat} {l : List (List Cell)} (h : ∀ x ∈ l, x.length = n) : Bd (∀ x ∈ (l.drop a).take b, x.length = n) :=
  ⟨fun x hx => h x (List.mem_of_mem_drop (List.mem_of_mem_take hx))⟩
theorem wN {tm : List (Nat × AVal)} {ob : List (Nat × Option AObj)} {nx q off n : Nat} {obj : AObj} (ho : (lk q ob).getD none = some obj) (hn : off + n ≤ obj.els.length) : y7 ⟨tm, ob, nx⟩ (.ref q off n) = some ([q], (obj.els.drop off).take n) := by
  have h : (AS.mk tm ob nx).obj q = some obj := ho
  simp only [y7, h, hn, if_true]
theorem wM {tm : List (Nat × AVal)} {ob : List (Nat × Option AObj)} {nx q n : Nat} {obj : AObj} (ho : (lk q ob).getD none = some obj) (hn : n = obj.els.length) : y7 ⟨tm, ob, nx⟩ (.ref q 0 n) = some ([q], obj.els) := by
  have h : (AS.mk tm ob nx).obj q = some obj := ho
  simp only [y7, h, hn, Nat.zero_add, Nat.le_refl, if_true, List.drop_zero, List.take_length]
mutual
def refsC : Cell → List Nat
  | .ref q _ _ => [q]
  | .ptr q _ _ => [q]
  | .fn _ caps => refsL caps
  | _ => []
def refsL : List Cell → List Nat
  | [] => []
  | c :: cs => refsC c ++ refsL cs
end
def refsV : AVal → List Nat
  | .c x => refsC x
  | .agg xs => refsL xs
  | _ => []
def refsVs : List AVal → List Nat
  | [] => []
  | v :: vs => refsV v ++ refsVs vs
section
variable {s : AS} {V μ : List Nat}
theorem zB {q n : Nat} {obj : AObj} {xs : List (List Cell)} (hq : wX q V = true) (ho : (lk q s.ob).getD none = some obj) (hn : n = obj.els.length) (hx : obj.els = xs) (hi : ∀ x ∈ xs, ∀ c ∈ x, Imm c) : VC s V (.ref q 0 n) (.sl xs) := by
  subst hx
  exact VC.refAll (memB_iff.1 hq) ho hn hi
theorem zC {q n : Nat} {obj : AObj} {xs : List (List Cell)} (hq : wX q V = true) (ho : (lk q s.ob).getD none = some obj) (hn : 0 + n ≤ obj.els.length) (hx : (obj.els.drop 0).take n = xs) (hi : ∀ x ∈ obj.els, ∀ c ∈ x, Imm c) : VC s V (.ref q 0 n) (.sl xs) :=
  .ref (memB_iff.1 hq) ho hn hx hi
theorem VC.ptrA {q i f : Nat} {obj : AObj} {el cs : List Cell} (hq : wX q V = true) (ho : (lk q s.ob).getD none = some obj) (he : obj.els[i]? = some el) (hd : el.drop f = cs) (hi : ∀ c ∈ el, Imm c) : VC s V (.ptr q i f) (.ip cs) :=
  .ptr (memB_iff.1 hq) ho he hd hi
end
section
variable {P : Program} {E : Env} {ops : Array Oper} {K : AS → Prop} {draw : Bool}
variable {r : List Oper} {acc : List (Upd × Foot)} {tm : List (Nat × AVal)} {ob : List (Nat × Option AObj)} {nx d ty : Nat} {pos : String} {aft : Array Edge} {g : Option (Nat × Bool)}
theorem yG {fo : Operand} {args : Array Operand} {ats : Array TypeId} {f : Nat} {caps caps' : List Cell} {vs as' : List AVal} {fr : List AObj} {rv : AVal} {V : List Nat} (hd : zX (some d) E.n = true) (hx : opV tm fo = some (.c (.fn f caps))) (hvs : vE tm args.toList = some vs) (hm : Nat.ble E.m nx = true) (_hr : refsVs vs ++ refsL caps = V) (hV : V.all (fun q => ((lk q ob).getD none).isSome) = true) (hargs : VAs ⟨tm, ob, nx⟩ V vs as') (hcaps : VCs ⟨tm, ob, nx⟩ V caps caps') (hpf : PF P f (as' ++ caps'.map AVal.c) fr rv) (hfl : w6 rv)
    (h : callK P E ops K draw r acc tm ob nx d fr rv ((Oper.mk (some d) (.call { callee := .value fo, args := args, argTypes := ats }) ty pos aft g).looksAt ops, V)) : regY P E ops K draw ⟨some d, .call { callee := .value fo, args := args, argTypes := ats }, ty, pos, aft, g⟩ r acc ⟨tm, ob, nx⟩ :=
  rx_callV V hd hx hvs hm hV hargs hcaps hpf hfl h
theorem rx_callMR {fo : Operand} {args : Array Operand} {ats : Array TypeId} {f : Nat} {vs as' : List AVal} {ins : List AObj} {outs : List (Option AObj)} {rv rv' : AVal} {ob' : List (Nat × Option AObj)} {μ : List Nat} (hpf : PFM P f ins as' outs rv)
    (hd : zX (some d) E.n = true) (hx : opV tm fo = some (.c (.fn f []))) (hvs : vE tm args.toList = some vs) (hm : Nat.ble E.m nx = true) (_hr : refsVs vs = μ)
    (hμ : nodupB μ = true) (hlt : μ.all (fun q => Nat.blt q nx) = true) (hins : All2 (fun q obj => (AS.mk tm ob nx).obj q = some obj) μ ins) (hlen : Nat.ble ins.length outs.length = true) (hargs : MAs ⟨tm, ob, nx⟩ [] μ vs as')
    (him : ∀ obj, some obj ∈ outs → ∀ x ∈ obj.els, ∀ c ∈ x, Imm c) (hii : ∀ obj ∈ ins, ∀ x ∈ obj.els, ∀ c ∈ x, Imm c) (hrv : reV μ nx rv = rv') (hob : wK μ nx 0 outs ++ ob = ob')
    (h : regX P E ops K draw r ((callMU (some d) rv μ nx outs, ⟨(Oper.mk (some d) (.call { callee := .value fo, args := args, argTypes := ats }) ty pos aft g).looksAt ops, [] ++ μ⟩) :: acc) ⟨(d, rv') :: tm, ob', nx + (outs.length - μ.length)⟩) : regY P E ops K draw ⟨some d, .call { callee := .value fo, args := args, argTypes := ats }, ty, pos, aft, g⟩ r acc ⟨tm, ob, nx⟩ :=
  rx_callMf μ hpf hd hx hvs hm hμ hlt hins hlen hargs him hii hrv hob h
end
end Go.Proofs.Ytjeffognhcbiaaa

namespace Go.Proofs.Ytjeffognhcbiaaa
open Go Go.RowKit
def inZ (x a b : Int) : Bool := decide (a ≤ x ∧ x ≤ b)
theorem l1In_pf (x a b : Int) : PF Try.prog 30 [.c (int x), .c (int a), .c (int b)] [] (.c (boo (inZ x a b))) := by
  refine PF.enter (enum3 _ _ _) Try.func30 rfl (by kernel_rfl) _ _ rfl rfl rfl (fun w0 mu I0 β0 gi dis => ?_)
  (repeat (first|(apply xW;(first|exact Want.none_ rfl|(refine zZ rfl rfl rfl rfl ?_;(first|assumption|exact dT ‹_›|exact dF ‹_›|exact rfl))))|(apply xF zH;exact rfl;exact rfl)|((fail)<;>(first|exact zH|exact Nat.zero_add _|exact rfl|refine yJ ?_|assumption|omega|exact ⟨rfl⟩|exact ⟨rfl,_,_,rfl,rfl⟩|exact lb rfl|((try refine Bd.mk ?_);first|assumption|omega|(focus (simp;done))|(simp;omega)|decide|(simp only [lA,lB,lC,lD,lE];omega))))|(apply xI;exact rfl;exact rfl;(first|assumption|exact dT ‹_›|exact dF ‹_›|exact rfl);exact rfl;exact rfl)|(apply xK;(iterate 5 exact rfl);(first|assumption|exact dT ‹_›|exact dF ‹_›|exact rfl))|(apply y4;(iterate 5 exact rfl))|apply zT|apply AWp.Q|apply zG|apply AWp.G|apply AWp.R|apply zI))
  (first | (apply yI; exact rfl; exact rfl; exact rfl) | (apply yL; exact rfl; exact rfl; exact rfl)) <;> intro hp
  all_goals
    (repeat (first|(apply xW;(first|exact Want.none_ rfl|(refine zZ rfl rfl rfl rfl ?_;(first|assumption|exact dT ‹_›|exact dF ‹_›|exact rfl))))|(apply xF zH;exact rfl;exact rfl)|((fail)<;>(first|exact zH|exact Nat.zero_add _|exact rfl|refine yJ ?_|assumption|omega|exact ⟨rfl⟩|exact ⟨rfl,_,_,rfl,rfl⟩|exact lb rfl|((try refine Bd.mk ?_);first|assumption|omega|(focus (simp;done))|(simp;omega)|decide|(simp only [lA,lB,lC,lD,lE];omega))))|(apply xI;exact rfl;exact rfl;(first|assumption|exact dT ‹_›|exact dF ‹_›|exact rfl);exact rfl;exact rfl)|(apply xK;(iterate 5 exact rfl);(first|assumption|exact dT ‹_›|exact dF ‹_›|exact rfl))|(apply y4;(iterate 5 exact rfl))|apply zT|apply AWp.Q|apply zG|apply AWp.G|apply AWp.R|apply zI))
    refine zY _ [] (.cons (zR rfl) .nil) ?_ rfl trivial
    simp only [VW, FW, FWs, CW, CWs, mkRes, boo, int, str, and_true, true_and]
    simp [hp, inZ]
theorem in_pf (x a b : Int) : PF Try.prog 33 [.c (int x), .c (int a), .c (int b)] [] (.c (boo (inZ x a b))) := by
  refine PF.enter (enum3 _ _ _) Try.func33 rfl (by kernel_rfl) _ _ rfl rfl rfl (fun w0 mu I0 β0 gi dis => ?_)
  (repeat (first|(apply xW;(first|exact Want.none_ rfl|(refine zZ rfl rfl rfl rfl ?_;(first|assumption|exact dT ‹_›|exact dF ‹_›|exact rfl))))|(apply xF zH;exact rfl;exact rfl)|((fail)<;>(first|exact zH|exact Nat.zero_add _|exact rfl|refine yJ ?_|assumption|omega|exact ⟨rfl⟩|exact ⟨rfl,_,_,rfl,rfl⟩|exact lb rfl|((try refine Bd.mk ?_);first|assumption|omega|(focus (simp;done))|(simp;omega)|decide|(simp only [lA,lB,lC,lD,lE];omega))))|(apply xI;exact rfl;exact rfl;(first|assumption|exact dT ‹_›|exact dF ‹_›|exact rfl);exact rfl;exact rfl)|(apply xK;(iterate 5 exact rfl);(first|assumption|exact dT ‹_›|exact dF ‹_›|exact rfl))|(apply y4;(iterate 5 exact rfl))|apply zT|apply AWp.Q|apply zG|apply AWp.G|apply AWp.R|apply zI))
  (first | (apply yI; exact rfl; exact rfl; exact rfl) | (apply yL; exact rfl; exact rfl; exact rfl)) <;> intro hp
  all_goals
    (repeat (first|(apply xW;(first|exact Want.none_ rfl|(refine zZ rfl rfl rfl rfl ?_;(first|assumption|exact dT ‹_›|exact dF ‹_›|exact rfl))))|(apply xF zH;exact rfl;exact rfl)|((fail)<;>(first|exact zH|exact Nat.zero_add _|exact rfl|refine yJ ?_|assumption|omega|exact ⟨rfl⟩|exact ⟨rfl,_,_,rfl,rfl⟩|exact lb rfl|((try refine Bd.mk ?_);first|assumption|omega|(focus (simp;done))|(simp;omega)|decide|(simp only [lA,lB,lC,lD,lE];omega))))|(apply xI;exact rfl;exact rfl;(first|assumption|exact dT ‹_›|exact dF ‹_›|exact rfl);exact rfl;exact rfl)|(apply xK;(iterate 5 exact rfl);(first|assumption|exact dT ‹_›|exact dF ‹_›|exact rfl))|(apply y4;(iterate 5 exact rfl))|apply zT|apply AWp.Q|apply zG|apply AWp.G|apply AWp.R|apply zI))
    refine zY _ [] (.cons (zR rfl) .nil) ?_ rfl trivial
    simp only [VW, FW, FWs, CW, CWs, mkRes, boo, int, str, and_true, true_and]
    simp [hp, inZ]
theorem all_take_succ {α : Type} {p : α → Bool} {l : List α} {k : Nat} {x : α} (h : l[k]? = some x) : (l.take (k + 1)).all p = ((l.take k).all p && p x) := by
  rw [List.take_add_one, h]; simp
theorem all_at {α : Type} {p : α → Bool} {l : List α} {k : Nat} {x : α} (h : l[k]? = some x) (hp : p x = false) : l.all p = false := by
  rw [List.all_eq_false]; exact ⟨x, List.mem_of_getElem? h, by simp [hp]⟩
theorem any_take_succ {α : Type} {p : α → Bool} {l : List α} {k : Nat} {x : α} (h : l[k]? = some x) : (l.take (k + 1)).any p = ((l.take k).any p || p x) := by
  rw [List.take_add_one, h]; simp
theorem any_at {α : Type} {p : α → Bool} {l : List α} {k : Nat} {x : α} (h : l[k]? = some x) (hp : p x = true) : l.any p = true := by
  rw [List.any_eq_true]; exact ⟨x, List.mem_of_getElem? h, hp⟩
theorem findIdx_first {α : Type} {p : α → Bool} : ∀ {l : List α} {k : Nat} {x : α}, l[k]? = some x → p x = true → (l.take k).any p = false → l.findIdx p = k
  | [], _, _, h, _, _ => by simp at h
  | y :: l, 0, x, h, hp, _ => by simp at h; subst h; simp [List.findIdx_cons, hp]
  | y :: l, k + 1, x, h, hp, hn => by
    simp only [List.take_succ_cons, List.any_cons, Bool.or_eq_false_iff] at hn
    rw [List.findIdx_cons, hn.1, cond_false, findIdx_first (by simpa using h) hp hn.2]
theorem wE {α : Type} {l : List α} {k : Nat} (h : k < l.length) : ∃ x, l[k]? = some x := ⟨l[k], List.getElem?_eq_getElem h⟩
theorem take_all {α : Type} {l : List α} {k : Nat} (h : k ≤ l.length) (h2 : ¬ k < l.length) : l.take k = l := List.take_of_length_le (by omega)
theorem take_succ {α : Type} {l : List α} {k : Nat} {x : α} (h : l[k]? = some x) : l.take (k + 1) = l.take k ++ [x] := by rw [List.take_add_one, h]; rfl
theorem xL {α β : Type} {f : α → β} {l : List α} {k : Nat} {x : α} (h : l[k]? = some x) : (l.map f)[k]? = some (f x) := by rw [List.getElem?_map, h]; rfl
end Go.Proofs.Ytjeffognhcbiaaa

namespace Go.Proofs.Ytjeffognhcbiaaa
open Go Go.RowKit
end Go.Proofs.Ytjeffognhcbiaaa

namespace Go.Proofs.Ytjeffognhcbiaaa
open Go Go.RowKit
def xA (n : Int) : List Cell := [int n]
theorem eInt_sc (n : Int) : ∀ x ∈ xA n, Imm x ∧ Flat x := by
  intro x hx
  simp only [xA, List.mem_cons, List.not_mem_nil, or_false] at hx
  subst hx
  exact ⟨Imm.v _, Flat.v _⟩
theorem map_sc {α : Type} {enc : α → List Cell} (h : ∀ a, ∀ x ∈ enc a, Imm x ∧ Flat x) (l : List α) : AllSc (l.map enc) := by
  intro x hx
  obtain ⟨a, _, rfl⟩ := List.mem_map.1 hx
  exact h a
theorem ints_sc (l : List Int) : AllSc (l.map xA) := map_sc eInt_sc l
def mix {α : Type} (ys xs : List α) (k : Nat) : List α := ys.take k ++ xs.drop k
section
variable {α : Type} {xs ys : List α} {k : Nat} {y z : α}
theorem mix_all (h : xs.length ≤ k) (h2 : ys.length ≤ k) : mix ys xs k = ys := by rw [mix, List.take_of_length_le h2, List.drop_eq_nil_of_le h, List.append_nil]
theorem mix_at (h : ys.length = xs.length) (hz : xs[k]? = some z) : (mix ys xs k)[k]? = some z := by
  have hl := (List.getElem?_eq_some_iff.1 hz).1
  have e : (ys.take k).length = k := by simp; omega
  rw [mix, List.getElem?_append_right (by omega), e, Nat.sub_self, List.getElem?_drop, Nat.add_zero, hz]
theorem mix_set (h : ys.length = xs.length) (hy : ys[k]? = some y) : (mix ys xs k).set k y = mix ys xs (k + 1) := by
  have hl := (List.getElem?_eq_some_iff.1 hy).1
  have e : (ys.take k).length = k := by simp; omega
  obtain ⟨z, hz⟩ := wE (show k < xs.length by omega)
  obtain ⟨h1, h2⟩ := List.getElem?_eq_some_iff.1 hz
  rw [mix, List.set_append_right _ _ (by omega), e, Nat.sub_self, List.drop_eq_getElem_cons h1, List.set_cons_zero, mix, take_succ hy, List.append_assoc]
  rfl
theorem mix_map {β : Type} {f : α → β} : mix (ys.map f) (xs.map f) k = (mix ys xs k).map f := by simp [mix]
end
def fillK (xs : List (List Cell)) (z : List Cell) (k : Nat) : List (List Cell) := xs.take k ++ List.replicate (xs.length - k) z
section
variable {xs : List (List Cell)} {z x : List Cell} {k : Nat}
theorem fillK_all (h : xs.length ≤ k) : fillK xs z k = xs := by rw [fillK, List.take_of_length_le h, show xs.length - k = 0 by omega]; simp
theorem fillK_at (h : k < xs.length) : (fillK xs z k)[k]? = some z := by
  have e : (xs.take k).length = k := by simp; omega
  rw [fillK, List.getElem?_append_right (by omega), e, Nat.sub_self, List.getElem?_replicate, if_pos (by omega)]
theorem fillK_set (h : xs[k]? = some x) : (fillK xs z k).set k x = fillK xs z (k + 1) := by
  have hl := (List.getElem?_eq_some_iff.1 h).1
  have e : (xs.take k).length = k := by simp; omega
  rw [fillK, List.set_append_right _ _ (by omega), e, Nat.sub_self, show xs.length - k = (xs.length - (k + 1)) + 1 by omega, List.replicate_succ, List.set_cons_zero, fillK, take_succ h, List.append_assoc]
  rfl
theorem allSc_fillK (h : AllSc xs) (hz : ∀ c ∈ z, Imm c ∧ Flat c) : AllSc (fillK xs z k) := by
  intro y hy
  rw [fillK, List.mem_append] at hy
  rcases hy with hy | hy
  · exact h y (List.mem_of_mem_take hy)
  · rw [List.eq_of_mem_replicate hy]; exact hz
end
def mkI (k : Int) (n : Nat) : List Int := (List.range n).map fun j => k + (j : Nat)
theorem mkI_len (k : Int) (n : Nat) : (mkI k n).length = n := by simp [mkI]
theorem mkI_at {k : Int} {n j : Nat} (h : j < n) : (mkI k n)[j]? = some (k + j) := by simp [mkI, h]
theorem heldIntS_pf (l : List Int) (k : Int) (hl : l.length ≤ 4000000) (h0 : 0 ≤ k) (hk : k ≤ 1000000000000) (he : l = mkI k l.length) :
    PF Try.prog 23 [.c (.sl (l.map xA)), .c (int k)] [] (.c (int (k + l.length))) := by
  refine PF.enter (x4 _ _) Try.func23 rfl (by kernel_rfl) _ _ rfl rfl rfl (fun w0 mu I0 β0 gi dis => ?_)
  have hL : (l.map xA).length = l.length := List.length_map _
  (repeat' (first|(apply xW;(first|exact Want.none_ rfl|(refine zZ rfl rfl rfl rfl ?_;(first|assumption|exact dT ‹_›|exact dF ‹_›|exact rfl))))|(apply xF zH;exact rfl;exact rfl)|((first|(apply yE;exact rfl;exact rfl)|apply yD|(apply zW;exact rfl;exact rfl)|apply zV|(apply zU;exact rfl;exact rfl;exact zH;exact rfl;exact rfl)|apply zL)<;>(first|exact zH|exact Nat.zero_add _|exact rfl|refine yJ ?_|assumption|omega|exact ⟨rfl⟩|exact ⟨rfl,_,_,rfl,rfl⟩|exact lb rfl|((try refine Bd.mk ?_);first|assumption|omega|(focus (simp;done))|(simp;omega)|decide|(simp only [lA,lB,lC,lD,lE];omega))))|apply zT|apply AWp.Q|apply zG|apply AWp.G|apply AWp.B|apply AWp.J|apply AWp.X|apply AWp.R|apply zP|apply zI|apply zJ|apply zO|apply zN|(refine zM rfl ?_)|(apply AWp.T;exact rfl;(first|assumption|exact dT ‹_›|exact dF ‹_›|exact rfl))|(apply AWp.F;exact rfl;(first|assumption|exact dT ‹_›|exact dF ‹_›|exact rfl))|((first|refine AWp.C rfl ?_ ?_|refine AWp.O _ rfl ?_ ?_)<;>intro hp<;>try (exfalso;omega))))
  refine AWp.U (σ := Nat) (fun j => ⟨[(0, .c (.sl (l.map xA))), (1, .c (int (k + j))), (5, .c (int j))], [], 0⟩) (fun j => j ≤ l.length) (fun j => l.length - j) 0 (Nat.zero_le _) ?_ ?_
  · refine Weak.of [] rfl ?_ ?_ <;> (repeat' (first|exact trivial|exact rfl|exact oRi ‹_›|exact oLi|apply And.intro|(apply cgI;first|omega|(simp;done)|(simp;omega))|(refine yA ?_;first|(focus (simp;done))|omega|(simp only [lA,lB,lC,lD,lE];omega))|refine ⟨_,rfl,rfl,rfl,OW.one ?_⟩|refine oWs rfl rfl rfl ?_ ?_|refine vwB ?_|refine vwS ?_|refine vwI ?_|refine fwB ?_|refine fwS ?_|refine fwI ?_|(refine aIm ?_;first|exact AllSc.nil|assumption)))
  · intro j hj
    by_cases hlt : j < l.length
    · have hc : l[j]? = some (k + j) := by rw [he]; exact mkI_at hlt
      have hz : (l.map xA)[j]? = some (xA (k + j)) := xL hc
      have hlt' : (j : Int) < ((l.map xA).length : Int) := by omega
      (repeat' (first|(apply xW;(first|exact Want.none_ rfl|(refine zZ rfl rfl rfl rfl ?_;(first|assumption|exact dT ‹_›|exact dF ‹_›|exact rfl))))|(apply xF zH;exact rfl;exact rfl)|((first|(apply yE;exact rfl;exact rfl)|apply yD|(apply zW;exact rfl;exact rfl)|apply zV|(apply zU;exact rfl;exact rfl;exact zH;exact rfl;exact rfl)|apply zL)<;>(first|exact zH|exact Nat.zero_add _|exact rfl|refine yJ ?_|assumption|omega|exact ⟨rfl⟩|exact ⟨rfl,_,_,rfl,rfl⟩|exact lb rfl|((try refine Bd.mk ?_);first|assumption|omega|(focus (simp;done))|(simp;omega)|decide|(simp only [lA,lB,lC,lD,lE];omega))))|apply zT|apply AWp.Q|apply zG|apply AWp.G|apply AWp.B|apply AWp.J|apply AWp.X|apply AWp.R|apply zP|apply zI|apply zJ|apply zO|apply zN|(refine zM rfl ?_)|(apply AWp.T;exact rfl;(first|assumption|exact dT ‹_›|exact dF ‹_›|exact rfl))|(apply AWp.F;exact rfl;(first|assumption|exact dT ‹_›|exact dF ‹_›|exact rfl))|((first|refine AWp.C rfl ?_ ?_|refine AWp.O _ rfl ?_ ?_)<;>intro hp<;>try (exfalso;omega))))
      refine ⟨j + 1, by omega, by omega, ?_⟩
      refine Weak.of [] rfl ?_ ?_ <;> (repeat' (first|exact trivial|exact rfl|exact oRi ‹_›|exact oLi|apply And.intro|(apply cgI;first|omega|(simp;done)|(simp;omega))|(refine yA ?_;first|(focus (simp;done))|omega|(simp only [lA,lB,lC,lD,lE];omega))|refine ⟨_,rfl,rfl,rfl,OW.one ?_⟩|refine oWs rfl rfl rfl ?_ ?_|refine vwB ?_|refine vwS ?_|refine vwI ?_|refine fwB ?_|refine fwS ?_|refine fwI ?_|(refine aIm ?_;first|exact AllSc.nil|assumption)))
    · have hlt' : ¬ (j : Int) < ((l.map xA).length : Int) := by omega
      (repeat (first|(apply xW;(first|exact Want.none_ rfl|(refine zZ rfl rfl rfl rfl ?_;(first|assumption|exact dT ‹_›|exact dF ‹_›|exact rfl))))|(apply xF zH;exact rfl;exact rfl)|((first|(apply yE;exact rfl;exact rfl)|apply yD|(apply zW;exact rfl;exact rfl)|apply zV|(apply zU;exact rfl;exact rfl;exact zH;exact rfl;exact rfl)|apply zL)<;>(first|exact zH|exact Nat.zero_add _|exact rfl|refine yJ ?_|assumption|omega|exact ⟨rfl⟩|exact ⟨rfl,_,_,rfl,rfl⟩|exact lb rfl|((try refine Bd.mk ?_);first|assumption|omega|(focus (simp;done))|(simp;omega)|decide|(simp only [lA,lB,lC,lD,lE];omega))))|apply zT|apply AWp.Q|apply zG|apply AWp.G|apply AWp.B|apply AWp.J|apply AWp.X|apply AWp.R|apply zP|apply zI|apply zJ|apply zO|apply zN|(refine zM rfl ?_)|(apply AWp.T;exact rfl;(first|assumption|exact dT ‹_›|exact dF ‹_›|exact rfl))|(apply AWp.F;exact rfl;(first|assumption|exact dT ‹_›|exact dF ‹_›|exact rfl))))
      ((first|refine zY _ [] (.cons (zR rfl) .nil) ?_ rfl ?_|refine yC _ [] (.cons (zR rfl) .nil) ?_ rfl ?_) <;> (repeat' (first|exact trivial|exact rfl|exact oRi ‹_›|exact oLi|apply And.intro|(apply cgI;first|omega|(simp;done)|(simp;omega))|(refine yA ?_;first|(focus (simp;done))|omega|(simp only [lA,lB,lC,lD,lE];omega))|refine ⟨_,rfl,rfl,rfl,OW.one ?_⟩|refine oWs rfl rfl rfl ?_ ?_|refine vwB ?_|refine vwS ?_|refine vwI ?_|refine fwB ?_|refine fwS ?_|refine fwI ?_|(refine aIm ?_;first|exact AllSc.nil|assumption))))
theorem eqIntS_pf (l : List Int) (hl : l.length ≤ 4000000) : PF Try.prog 19 [.c (.sl (l.map xA)), .c (.sl (l.map xA))] [] (.c (boo true)) := by
  refine PF.enter (x4 _ _) Try.func19 rfl (by kernel_rfl) _ _ rfl rfl rfl (fun w0 mu I0 β0 gi dis => ?_)
  have hL : (l.map xA).length = l.length := List.length_map _
  (repeat' (first|(apply xW;(first|exact Want.none_ rfl|(refine zZ rfl rfl rfl rfl ?_;(first|assumption|exact dT ‹_›|exact dF ‹_›|exact rfl))))|(apply xF zH;exact rfl;exact rfl)|((first|(apply yE;exact rfl;exact rfl)|apply yD|(apply zW;exact rfl;exact rfl)|apply zV|(apply zU;exact rfl;exact rfl;exact zH;exact rfl;exact rfl)|apply zL)<;>(first|exact zH|exact Nat.zero_add _|exact rfl|refine yJ ?_|assumption|omega|exact ⟨rfl⟩|exact ⟨rfl,_,_,rfl,rfl⟩|exact lb rfl|((try refine Bd.mk ?_);first|assumption|omega|(focus (simp;done))|(simp;omega)|decide|(simp only [lA,lB,lC,lD,lE];omega))))|apply zT|(refine yY ?_ ?_;kernel_rfl)|apply AWp.Q|apply zG|apply AWp.G|apply AWp.B|apply AWp.J|apply AWp.X|apply AWp.R|apply zP|apply zI|apply zJ|apply zO|apply zN|(refine AWp.D ?_ ?_;kernel_rfl)|(refine zM rfl ?_)|(apply AWp.T;exact rfl;(first|assumption|exact dT ‹_›|exact dF ‹_›|exact rfl))|(apply AWp.F;exact rfl;(first|assumption|exact dT ‹_›|exact dF ‹_›|exact rfl))|((first|refine AWp.C rfl ?_ ?_|refine AWp.O _ rfl ?_ ?_)<;>intro hp<;>try (exfalso;omega))))
  refine AWp.U (σ := Nat) (fun k => ⟨[(0, .c (.sl (l.map xA))), (1, .c (.sl (l.map xA))), (5, .c (int k))], [], 0⟩) (fun k => k ≤ l.length) (fun k => l.length - k) 0 (Nat.zero_le _) ?_ ?_
  · refine Weak.of [] rfl ?_ ?_ <;> (repeat' (first|exact trivial|exact rfl|exact oRi ‹_›|exact oLi|apply And.intro|(apply cgI;first|omega|(simp;done)|(simp;omega))|(refine yA ?_;first|(focus (simp;done))|omega|(simp only [lA,lB,lC,lD,lE];omega))|refine ⟨_,rfl,rfl,rfl,OW.one ?_⟩|refine oWs rfl rfl rfl ?_ ?_|refine vwB ?_|refine vwS ?_|refine vwI ?_|refine fwB ?_|refine fwS ?_|refine fwI ?_|(refine aIm ?_;first|exact AllSc.nil|assumption)))
  · rintro k hk
    by_cases hlt : k < l.length
    · obtain ⟨c, hc⟩ := wE hlt
      have hc' : (l.map xA)[k]? = some (xA c) := xL hc
      have hlt' : (k : Int) < ((l.map xA).length : Int) := by omega
      (repeat' (first|(apply xW;(first|exact Want.none_ rfl|(refine zZ rfl rfl rfl rfl ?_;(first|assumption|exact dT ‹_›|exact dF ‹_›|exact rfl))))|(apply xF zH;exact rfl;exact rfl)|((first|(apply yE;exact rfl;exact rfl)|apply yD|(apply zW;exact rfl;exact rfl)|apply zV|(apply zU;exact rfl;exact rfl;exact zH;exact rfl;exact rfl)|apply zL)<;>(first|exact zH|exact Nat.zero_add _|exact rfl|refine yJ ?_|assumption|omega|exact ⟨rfl⟩|exact ⟨rfl,_,_,rfl,rfl⟩|exact lb rfl|((try refine Bd.mk ?_);first|assumption|omega|(focus (simp;done))|(simp;omega)|decide|(simp only [lA,lB,lC,lD,lE];omega))))|apply zT|(refine yY ?_ ?_;kernel_rfl)|apply AWp.Q|apply zG|apply AWp.G|apply AWp.B|apply AWp.J|apply AWp.X|apply AWp.R|apply zP|apply zI|apply zJ|apply zO|apply zN|(refine AWp.D ?_ ?_;kernel_rfl)|(refine zM rfl ?_)|(apply AWp.T;exact rfl;(first|assumption|exact dT ‹_›|exact dF ‹_›|exact rfl))|(apply AWp.F;exact rfl;(first|assumption|exact dT ‹_›|exact dF ‹_›|exact rfl))|((first|refine AWp.C rfl ?_ ?_|refine AWp.O _ rfl ?_ ?_)<;>intro hp<;>try (exfalso;omega))))
      all_goals first | (exfalso; simp at *; done) | skip
      refine ⟨k + 1, by omega, by omega, ?_⟩
      refine Weak.of [] rfl ?_ ?_ <;> (repeat' (first|exact trivial|exact rfl|exact oRi ‹_›|exact oLi|apply And.intro|(apply cgI;first|omega|(simp;done)|(simp;omega))|(refine yA ?_;first|(focus (simp;done))|omega|(simp only [lA,lB,lC,lD,lE];omega))|refine ⟨_,rfl,rfl,rfl,OW.one ?_⟩|refine oWs rfl rfl rfl ?_ ?_|refine vwB ?_|refine vwS ?_|refine vwI ?_|refine fwB ?_|refine fwS ?_|refine fwI ?_|(refine aIm ?_;first|exact AllSc.nil|assumption)))
    · have hlt' : ¬ (k : Int) < ((l.map xA).length : Int) := by omega
      (repeat (first|(apply xW;(first|exact Want.none_ rfl|(refine zZ rfl rfl rfl rfl ?_;(first|assumption|exact dT ‹_›|exact dF ‹_›|exact rfl))))|(apply xF zH;exact rfl;exact rfl)|((first|(apply yE;exact rfl;exact rfl)|apply yD|(apply zW;exact rfl;exact rfl)|apply zV|(apply zU;exact rfl;exact rfl;exact zH;exact rfl;exact rfl)|apply zL)<;>(first|exact zH|exact Nat.zero_add _|exact rfl|refine yJ ?_|assumption|omega|exact ⟨rfl⟩|exact ⟨rfl,_,_,rfl,rfl⟩|exact lb rfl|((try refine Bd.mk ?_);first|assumption|omega|(focus (simp;done))|(simp;omega)|decide|(simp only [lA,lB,lC,lD,lE];omega))))|apply zT|(refine yY ?_ ?_;kernel_rfl)|apply AWp.Q|apply zG|apply AWp.G|apply AWp.B|apply AWp.J|apply AWp.X|apply AWp.R|apply zP|apply zI|apply zJ|apply zO|apply zN|(refine AWp.D ?_ ?_;kernel_rfl)|(refine zM rfl ?_)|(apply AWp.T;exact rfl;(first|assumption|exact dT ‹_›|exact dF ‹_›|exact rfl))|(apply AWp.F;exact rfl;(first|assumption|exact dT ‹_›|exact dF ‹_›|exact rfl))))
      ((first|refine zY _ [] (.cons (zR rfl) .nil) ?_ rfl ?_|refine yC _ [] (.cons (zR rfl) .nil) ?_ rfl ?_) <;> (repeat' (first|exact trivial|exact rfl|exact oRi ‹_›|exact oLi|apply And.intro|(apply cgI;first|omega|(simp;done)|(simp;omega))|(refine yA ?_;first|(focus (simp;done))|omega|(simp only [lA,lB,lC,lD,lE];omega))|refine ⟨_,rfl,rfl,rfl,OW.one ?_⟩|refine oWs rfl rfl rfl ?_ ?_|refine vwB ?_|refine vwS ?_|refine vwI ?_|refine fwB ?_|refine fwS ?_|refine fwI ?_|(refine aIm ?_;first|exact AllSc.nil|assumption))))
end Go.Proofs.Ytjeffognhcbiaaa

namespace Go.Proofs.Ytjeffognhcbiaaa
open Go Go.RowKit
inductive FC (o : Nat) (els : List (List Cell)) : Cell → Cell → Prop
  | same (c : Cell) : FC o els c c
  | ref (n : Nat) : n = els.length → FC o els (.ref o 0 n) (.sl els)
  | pre (n : Nat) : n ≤ els.length → FC o els (.ref o 0 n) (.sl (els.take n))
inductive FA (o : Nat) (els : List (List Cell)) : AVal → AVal → Prop
  | same (x : AVal) : FA o els x x
  | ref (n : Nat) : n = els.length → FA o els (.c (.ref o 0 n)) (.c (.sl els))
theorem at_ltF {α : Type} {l : List α} {k : Nat} (h : k < l.length) : ∃ x, l[k]? = some x := ⟨l[k], List.getElem?_eq_getElem h⟩
theorem All2.refl {α : Type} {R : α → α → Prop} (h : ∀ a, R a a) : ∀ l : List α, All2 R l l
  | [] => .nil
  | a :: l => .cons (h a) (All2.refl h l)
def alive (m o : Nat) (s : AS) : Prop := ∀ q, q < m → q ≠ o ∧ ∃ x, s.obj q = some x
theorem alive0 {o : Nat} {s : AS} : alive 0 o s := fun q h => absurd h (Nat.not_lt_zero q)
theorem Rel.frz {E : Env} {I : Nat → Prop} {s s' : AS} {β : Nat → Option BI} {a : Act} {w : World} (hr : Rel E (yV s) I s β a w) {o : Nat} {obj : AObj} (ho : s.obj o = some obj) (hm : alive E.m o s)
    (hi : ∀ x ∈ obj.els, ∀ c ∈ x, Imm c) (hnx : s'.nx = s.nx) (ht : ∀ t, FA o obj.els (s.get t) (s'.get t))
    (hob : ∀ q x', s'.obj q = some x' → q ≠ o ∧ ∃ x, s.obj q = some x ∧ x.ty = x'.ty ∧ x.sz = x'.sz ∧ All2 (All2 (FC o obj.els)) x.els x'.els) : ∃ I', Rel E (yV s') I' s' β a w := by
  obtain ⟨B, hB, e2, e3, e4⟩ := hr.obs o obj ho
  have hmu : ∀ b, B.blk = some b → ¬ E.mu b := by
    intro b hb hmu
    obtain ⟨q, B', hq, h1, h2⟩ := E.dis.2 b hmu
    obtain ⟨hqo, x, hx⟩ := hm q hq
    exact hr.inj q o x obj B' B b hx ho hqo (by rw [hr.ext q hq]; exact h1) hB h2 hb
  let I' : Nat → Prop := fun b => I b ∨ B.blk = some b
  have hI : ∀ b, I b → I' b := fun b h => .inl h
  have hpr : ∀ n, n ≤ obj.els.length → ∀ v, Rep I β w (.ref o 0 n) v → RepI I' w (.sl (obj.els.take n)) v := by
    intro n hn v hv
    cases hv with
    | imm h => cases h
    | refE _ _ A cap h => exact absurd rfl h
    | ref0 _ sz C h =>
      rw [hB] at h
      obtain rfl : B = ⟨none, sz, C⟩ := Option.some.inj h
      rw [e3 rfl, List.take_nil]
      exact .sl0 none 0
    | ref _ _ _ b sz cap C h1 h2 h3 =>
      rw [hB] at h1
      obtain rfl : B = ⟨some b, sz, C⟩ := Option.some.inj h1
      obtain ⟨k0, k1, k2, arr, k3, k4, k5, k6, k7⟩ := e4 b rfl
      simp only at k0
      subst k0
      have hex : ∀ (i j : Nat), ∃ u, ∀ x c, obj.els[i]? = some x → x[j]? = some c → w.cell? ⟨b, 0 * obj.sz + i * obj.sz + j, none⟩ = some u ∧ RepI I' w c u := by
        intro i j
        cases hx : obj.els[i]? with
        | none => exact ⟨undef, fun x c h => by cases h⟩
        | some x =>
          cases hc : x[j]? with
          | none => exact ⟨undef, fun x' c h h' => by cases h; rw [hc] at h'; cases h'⟩
          | some c =>
            obtain ⟨u, hu, hru⟩ := k7 i j x c hx hc
            refine ⟨u, fun x' c' h h' => ?_⟩
            cases h; rw [hc] at h'; cases h'
            refine ⟨?_, (hi x (List.mem_of_getElem? hx) c (List.mem_of_getElem? hc) _ _ _ _ hru).mono hI (fun _ _ => rfl)⟩
            rw [cell_of_row w b _ arr _ _ k3, Nat.zero_mul, Nat.zero_add]; exact hu
      have htk : ∀ {i : Nat} {x : List Cell}, (obj.els.take n)[i]? = some x → obj.els[i]? = some x := fun {i x} h => by
        rw [List.getElem?_take] at h
        split at h
        · exact h
        · cases h
      refine .sl (obj.els.take n) b (0 * obj.sz) obj.sz n cap (fun i j => Classical.choose (hex i j)) (by rw [List.length_take]; omega) h2 (fun x hx => e2 x (List.mem_of_mem_take hx)) (.inr rfl) (fun i j x c hx hc => (Classical.choose_spec (hex i j) x c (htk hx) hc).1) (fun i j x c hx hc => (Classical.choose_spec (hex i j) x c (htk hx) hc).2)
  have hsl : ∀ n, n = obj.els.length → ∀ v, Rep I β w (.ref o 0 n) v → RepI I' w (.sl obj.els) v := fun n hn v hv => by
    have h := hpr n (by omega) v hv
    rwa [List.take_of_length_le (by omega)] at h
  have hmono : ∀ {c v}, Rep I β w c v → Rep I' β w c v := fun h => h.mono (Ext.refl _) hI (fun _ _ => rfl)
  have hfc : ∀ {c c'}, FC o obj.els c c' → ∀ v, Rep I β w c v → Rep I' β w c' v := by
    intro c c' h v hv
    cases h with
    | same => exact hmono hv
    | ref n hn => exact .imm (hsl n hn v hv)
    | pre n hn => exact .imm (hpr n hn v hv)
  refine ⟨I', ⟨fun t => ?_, hr.siz, hr.dfr, fun q x' hx' => ?_, fun q q' x1 x2 B1 B2 b h1 h2 hne => ?_, fun q B h => ?_, hr.old, fun b hb => ?_, fun b hb => ?_, hr.ext⟩⟩
  · have h0 := hr.tms t
    have h1 := ht t
    generalize s.get t = x at h0 h1
    generalize s'.get t = y at h1
    cases h1 with
    | same => exact h0.mono (Ext.refl _) hI (fun _ _ => rfl)
    | ref n hn => exact .imm (hsl n hn _ h0)
  · obtain ⟨hqo, x, hx, t1, t2, t3⟩ := hob q x' hx'
    obtain ⟨Bq, hBq, q2, q3, q4⟩ := hr.obs q x hx
    have hlen : x'.els.length = x.els.length := t3.length
    refine ⟨Bq, hBq, fun y hy => ?_, fun hn => ?_, fun b hb => ?_⟩
    · obtain ⟨i, hy⟩ := List.getElem?_of_mem hy
      obtain ⟨y0, hy0⟩ := at_ltF (show i < x.els.length by rw [← hlen]; exact (List.getElem?_eq_some_iff.1 hy).1)
      obtain ⟨y1, h1, h2⟩ := t3.at hy0
      rw [hy] at h1; cases h1
      rw [h2.length, ← t2]
      exact q2 _ (List.mem_of_getElem? hy0)
    · have := q3 hn
      rw [this] at hlen
      exact List.length_eq_zero_iff.1 hlen
    · obtain ⟨k0, k1, k2, arr, k3, k4, k5, k6, k7⟩ := q4 b hb
      refine ⟨k0.trans t2, k1, fun h => ?_, arr, by rw [← t1]; exact k3, by rw [← t2, hlen]; exact k4, by rw [hlen]; exact k5, k6, fun i j y c hy hc => ?_⟩
      · rcases h with h | h
        · exact k2 h
        · exact hr.inj q o x obj Bq B b hx ho hqo hBq hB hb h
      · obtain ⟨y0, hy0⟩ := at_ltF (show i < x.els.length by rw [← hlen]; exact (List.getElem?_eq_some_iff.1 hy).1)
        obtain ⟨y1, h1, h2⟩ := t3.at hy0
        rw [hy] at h1; cases h1
        obtain ⟨c0, hc0⟩ := at_ltF (show j < y0.length by rw [← h2.length]; exact (List.getElem?_eq_some_iff.1 hc).1)
        obtain ⟨c1, h3, h4⟩ := h2.at hc0
        rw [hc] at h3; cases h3
        obtain ⟨u, hu, hru⟩ := k7 i j y0 c0 hy0 hc0
        exact ⟨u, by rw [← t2]; exact hu, hfc h4 u hru⟩
  · obtain ⟨_, y1, hy1, _⟩ := hob q x1 h1
    obtain ⟨_, y2, hy2, _⟩ := hob q' x2 h2
    exact hr.inj q q' y1 y2 B1 B2 b hy1 hy2 hne
  · have := hr.nam q B h
    simpa [yV, hnx] using this
  · rcases hb with h | h
    · exact hr.imm b h
    · exact ((hr.obs o obj ho).lt hB h).1
  · refine ⟨fun h => ?_, fun h => .inl ((hr.gro b hb).2 h)⟩
    rcases h with h | h
    · exact (hr.gro b hb).1 h
    · obtain ⟨_, k1, _⟩ := e4 b h
      rcases k1 with k1 | k1
      · exact absurd k1 (hmu b h)
      · omega
theorem AWp.frz {P : Program} {E : Env} {c : Code} {K : Exit → AS → Prop} {tm : List (Nat × AVal)} {ob : List (Nat × Option AObj)} {nx : Nat} (t o : Nat) {obj : AObj} {n : Nat} (hm : alive E.m o ⟨tm, ob, nx⟩) (ho : (AS.mk tm ob nx).obj o = some obj) (hg : (AS.mk tm ob nx).get t = .c (.ref o 0 n)) (hn : n = obj.els.length)
    (hi : ∀ x ∈ obj.els, ∀ c ∈ x, Imm c) (h : AWp P E c K ⟨(t, .c (.sl obj.els)) :: tm, (o, none) :: ob, nx⟩) : AWp P E c K ⟨tm, ob, nx⟩ := by
  refine AWp.weaken (fun E' I β a w hE hr => ?_) h
  have ht : ∀ k, FA o obj.els ((AS.mk tm ob nx).get k) ((AS.mk ((t, AVal.c (.sl obj.els)) :: tm) ((o, none) :: ob) nx).get k) := fun k => by
    by_cases e : k = t
    · subst e
      rw [hg, show (AS.mk ((k, AVal.c (.sl obj.els)) :: tm) ((o, none) :: ob) nx).get k = .c (.sl obj.els) by simp [AS.get, lk_cons]]
      exact .ref n hn
    · rw [show (AS.mk ((t, AVal.c (.sl obj.els)) :: tm) ((o, none) :: ob) nx).get k = (AS.mk tm ob nx).get k by simp [AS.get, lk_cons, e]]
      exact .same _
  have hob : ∀ q x', (AS.mk ((t, AVal.c (.sl obj.els)) :: tm) ((o, none) :: ob) nx).obj q = some x' → q ≠ o ∧ ∃ x, (AS.mk tm ob nx).obj q = some x ∧ x.ty = x'.ty ∧ x.sz = x'.sz ∧ All2 (All2 (FC o obj.els)) x.els x'.els := fun q x' hx' => by
    by_cases e : q = o
    · subst e
      simp [AS.obj, lk_cons] at hx'
    · have : (AS.mk tm ob nx).obj q = some x' := by simpa [AS.obj, lk_cons, e] using hx'
      exact ⟨e, x', this, rfl, rfl, All2.refl (fun l => All2.refl (fun c => .same c) l) _⟩
  obtain ⟨I', hr'⟩ := Rel.frz (s' := ⟨(t, .c (.sl obj.els)) :: tm, (o, none) :: ob, nx⟩) hr ho (by rw [hE]; exact hm) hi rfl ht hob
  exact ⟨I', β, hr'⟩
theorem Weak.frz {m : Nat} {tm : List (Nat × AVal)} {ob : List (Nat × Option AObj)} {nx : Nat} {s' : AS} (o p : Nat) {obj out out' : AObj} (hm : alive m o ⟨tm, ob, nx⟩) (ho : (AS.mk tm ob nx).obj o = some obj) (hp : (AS.mk tm ob nx).obj p = some out) (hop : Nat.beq p o = false)
    (hi : ∀ x ∈ obj.els, ∀ c ∈ x, Imm c) (hty : out.ty = out'.ty) (hsz : out.sz = out'.sz) (hc : All2 (All2 (FC o obj.els)) out.els out'.els) (h : Weak m ⟨tm, (o, none) :: (p, some out') :: ob, nx⟩ s') : Weak m ⟨tm, ob, nx⟩ s' := by
  intro E I β a w hE hr
  have hob : ∀ q x', (AS.mk tm ((o, none) :: (p, some out') :: ob) nx).obj q = some x' → q ≠ o ∧ ∃ x, (AS.mk tm ob nx).obj q = some x ∧ x.ty = x'.ty ∧ x.sz = x'.sz ∧ All2 (All2 (FC o obj.els)) x.els x'.els := fun q x' hx' => by
    by_cases e : q = o
    · subst e
      simp [AS.obj, lk_cons] at hx'
    · refine ⟨e, ?_⟩
      by_cases e2 : q = p
      · subst e2
        obtain rfl : out' = x' := by simpa [AS.obj, lk_cons, e] using hx'
        exact ⟨out, hp, hty, hsz, hc⟩
      · have : (AS.mk tm ob nx).obj q = some x' := by simpa [AS.obj, lk_cons, e, e2] using hx'
        exact ⟨x', this, rfl, rfl, All2.refl (fun l => All2.refl (fun c => .same c) l) _⟩
  obtain ⟨I', hr'⟩ := Rel.frz (s' := ⟨tm, (o, none) :: (p, some out') :: ob, nx⟩) hr ho (by rw [hE]; exact hm) hi rfl (fun k => .same _) hob
  exact h E I' β a w hE hr'
theorem Weak.trans {m : Nat} {s s' s'' : AS} (h : Weak m s s') (k : Weak m s' s'') : Weak m s s'' := fun E I β a w hE hr =>
  let ⟨I', β', hr'⟩ := h E I β a w hE hr
  k E I' β' a w hE hr'
end Go.Proofs.Ytjeffognhcbiaaa

namespace Go.Proofs.Ytjeffognhcbiaaa
open Go Go.RowKit
section
variable {P : Program} {E : Env} {ops : Array Oper} {K : AS → Prop} {draw : Bool}
variable {r : List Oper} {acc : List (Upd × Foot)} {tm : List (Nat × AVal)} {ob : List (Nat × Option AObj)} {nx d ty : Nat} {pos : String} {aft : Array Edge} {g : Option (Nat × Bool)} {x y : Operand} {t t' : Nat} {a b m : Nat}
end
end Go.Proofs.Ytjeffognhcbiaaa
