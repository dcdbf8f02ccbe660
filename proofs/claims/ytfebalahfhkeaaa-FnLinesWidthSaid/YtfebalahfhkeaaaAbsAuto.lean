/- The abstract machine: calls that lend whatever their arguments speak of. No conditions but those stated. -/
import Derived.Test.YtfebalahfhkeaaaAbsM
namespace Go.Proofs.Ytfebalahfhkeaaa
open Go Go.RowKit
theorem imO2 {o : AObj} (h : ∀ x ∈ o.els, ∀ c ∈ x, Imm c) : ∀ obj, some obj ∈ [some o] → ∀ x ∈ obj.els, ∀ c ∈ x, Imm c := fun obj hm => by
  simp at hm; subst hm; exact h
theorem imI0 : ∀ obj ∈ ([] : List AObj), ∀ x ∈ obj.els, ∀ c ∈ x, Imm c := fun obj hm => by cases hm
theorem vwB {ρ : Ren} {b b' : Bool} (h : b = b') : VW ρ (mkRes [.c (.v (.bool b))]) (.c (boo b')) := by subst h; exact rfl
theorem vwS {ρ : Ren} {l l' : List UInt8} (h : l = l') : VW ρ (mkRes [.c (str l)]) (.c (str l')) := by subst h; exact rfl
theorem vwI {ρ : Ren} {p q : Int} (h : p = q) : VW ρ (mkRes [.c (int p)]) (.c (int q)) := by subst h; exact rfl
theorem fwB {ρ : Ren} {b b' : Bool} (h : b = b') : FW ρ (.c (.v (.bool b))) (.c (boo b')) := by subst h; exact rfl
theorem fwS {ρ : Ren} {l l' : List UInt8} (h : l = l') : FW ρ (.c (str l)) (.c (str l')) := by subst h; exact rfl
theorem fwI {ρ : Ren} {p q : Int} (h : p = q) : FW ρ (.c (int p)) (.c (int q)) := by subst h; exact rfl
theorem natEq {a b : Nat} (h : a = b) : a = b := h
/-- a whole object is appended -/
theorem newsAll {tm : List (Nat × AVal)} {ob : List (Nat × Option AObj)} {nx q n : Nat} {obj : AObj} (ho : (lk q ob).getD none = some obj) (hn : n = obj.els.length) : newsOf ⟨tm, ob, nx⟩ (.ref q 0 n) = some ([q], obj.els) := by
  have h : (AS.mk tm ob nx).obj q = some obj := ho
  simp only [newsOf, h, hn, Nat.zero_add, Nat.le_refl, if_true, List.drop_zero, List.take_length]
mutual
def refsC : Cell → List Nat
  | .ref q _ _ => [q]
  | .ptr q _ _ => [q]
  | .fn _ caps => refsL caps
  | _ => []
def refsL : List Cell → List Nat
  | [] => []
  | c :: cs => refsC c ++ refsL cs
end
def refsV : AVal → List Nat
  | .c x => refsC x
  | .agg xs => refsL xs
  | _ => []
def refsVs : List AVal → List Nat
  | [] => []
  | v :: vs => refsV v ++ refsVs vs
def lessB (μ : List Nat) : List Nat → List Nat
  | [] => []
  | q :: r => bif memB q μ then lessB μ r else q :: lessB μ r
section
variable {s : AS} {V μ : List Nat}
theorem VC.refA {q n : Nat} {obj : AObj} {xs : List (List Cell)} (hq : memB q V = true) (ho : (lk q s.ob).getD none = some obj) (hn : n = obj.els.length) (hx : obj.els = xs) (hi : ∀ x ∈ xs, ∀ c ∈ x, Imm c) : VC s V (.ref q 0 n) (.sl xs) := by
  subst hx
  exact VC.refAll (memB_iff.1 hq) ho hn hi
theorem VC.ptrA {q i f : Nat} {obj : AObj} {el cs : List Cell} (hq : memB q V = true) (ho : (lk q s.ob).getD none = some obj) (he : obj.els[i]? = some el) (hd : el.drop f = cs) (hi : ∀ c ∈ el, Imm c) : VC s V (.ptr q i f) (.ip cs) :=
  .ptr (memB_iff.1 hq) ho he hd hi
end
section
variable {P : Program} {E : Env} {ops : Array Oper} {K : AS → Prop} {draw : Bool}
variable {r : List Oper} {acc : List (Upd × Foot)} {tm : List (Nat × AVal)} {ob : List (Nat × Option AObj)} {nx d ty : Nat} {pos : String} {aft : Array Edge} {g : Option (Nat × Bool)}
theorem rx_callA {fo : Operand} {args : Array Operand} {ats : Array TypeId} {f : Nat} {caps caps' : List Cell} {vs as' : List AVal} {fr : List AObj} {rv : AVal} {V : List Nat} (hd : dstB (some d) E.n = true) (hx : opV tm fo = some (.c (.fn f caps))) (hvs : opVs tm args.toList = some vs) (hm : Nat.ble E.m nx = true) (_hr : refsVs vs ++ refsL caps = V) (hV : V.all (fun q => ((lk q ob).getD none).isSome) = true) (hargs : VAs ⟨tm, ob, nx⟩ V vs as') (hcaps : VCs ⟨tm, ob, nx⟩ V caps caps') (hpf : PF P f (as' ++ caps'.map AVal.c) fr rv) (hfl : FlatV rv)
    (h : callK P E ops K draw r acc tm ob nx d fr rv ((Oper.mk (some d) (.call { callee := .value fo, args := args, argTypes := ats }) ty pos aft g).looksAt ops, V)) : regY P E ops K draw ⟨some d, .call { callee := .value fo, args := args, argTypes := ats }, ty, pos, aft, g⟩ r acc ⟨tm, ob, nx⟩ :=
  rx_callV V hd hx hvs hm hV hargs hcaps hpf hfl h
/-- a call that hands over the objects μ and lends what else its arguments speak of -/
theorem rx_callMA {fo : Operand} {args : Array Operand} {ats : Array TypeId} {f : Nat} {caps caps' : List Cell} {vs as' : List AVal} {ins : List AObj} {outs : List (Option AObj)} {rv rv' : AVal} {ob' : List (Nat × Option AObj)} {V : List Nat} (μ : List Nat) (hd : dstB (some d) E.n = true) (hx : opV tm fo = some (.c (.fn f caps))) (hvs : opVs tm args.toList = some vs) (hm : Nat.ble E.m nx = true) (_hr : lessB μ (refsVs vs ++ refsL caps) = V) (hV : V.all (fun q => ((lk q ob).getD none).isSome) = true) (hμ : nodupB μ = true) (hdis : disjB V μ = true) (hlt : μ.all (fun q => Nat.blt q nx) = true) (hins : All2 (fun q obj => (AS.mk tm ob nx).obj q = some obj) μ ins) (hlen : Nat.ble ins.length outs.length = true) (hargs : MAs ⟨tm, ob, nx⟩ V μ vs as') (hcaps : MCs ⟨tm, ob, nx⟩ V μ caps caps') (hpf : PFM P f ins (as' ++ caps'.map AVal.c) outs rv) (hfl : FlatV rv) (hfr : outsOk outs) (him : ∀ obj, some obj ∈ outs → ∀ x ∈ obj.els, ∀ c ∈ x, Imm c) (hii : ∀ obj ∈ ins, ∀ x ∈ obj.els, ∀ c ∈ x, Imm c) (hrv : reV μ nx rv = rv') (hob : outsU μ nx 0 outs ++ ob = ob')
    (h : regX P E ops K draw r ((callMU (some d) rv μ nx outs, ⟨(Oper.mk (some d) (.call { callee := .value fo, args := args, argTypes := ats }) ty pos aft g).looksAt ops, V ++ μ⟩) :: acc) ⟨(d, rv') :: tm, ob', nx + (outs.length - μ.length)⟩) : regY P E ops K draw ⟨some d, .call { callee := .value fo, args := args, argTypes := ats }, ty, pos, aft, g⟩ r acc ⟨tm, ob, nx⟩ :=
  rx_callM false V μ hd hx hvs hm hV (fun h => by cases h) hμ hdis hlt hins (Nat.le_of_ble_eq_true hlen) hargs hcaps hpf (fun _ => hfl) (fun _ => hfr) him hii hrv hob h
/-- a plain function is handed whatever its arguments speak of -/
theorem rx_callMR {fo : Operand} {args : Array Operand} {ats : Array TypeId} {f : Nat} {vs as' : List AVal} {ins : List AObj} {outs : List (Option AObj)} {rv rv' : AVal} {ob' : List (Nat × Option AObj)} {μ : List Nat} (hpf : PFM P f ins as' outs rv)
    (hd : dstB (some d) E.n = true) (hx : opV tm fo = some (.c (.fn f []))) (hvs : opVs tm args.toList = some vs) (hm : Nat.ble E.m nx = true) (_hr : refsVs vs = μ)
    (hμ : nodupB μ = true) (hlt : μ.all (fun q => Nat.blt q nx) = true) (hins : All2 (fun q obj => (AS.mk tm ob nx).obj q = some obj) μ ins) (hlen : Nat.ble ins.length outs.length = true) (hargs : MAs ⟨tm, ob, nx⟩ [] μ vs as')
    (him : ∀ obj, some obj ∈ outs → ∀ x ∈ obj.els, ∀ c ∈ x, Imm c) (hii : ∀ obj ∈ ins, ∀ x ∈ obj.els, ∀ c ∈ x, Imm c) (hrv : reV μ nx rv = rv') (hob : outsU μ nx 0 outs ++ ob = ob')
    (h : regX P E ops K draw r ((callMU (some d) rv μ nx outs, ⟨(Oper.mk (some d) (.call { callee := .value fo, args := args, argTypes := ats }) ty pos aft g).looksAt ops, [] ++ μ⟩) :: acc) ⟨(d, rv') :: tm, ob', nx + (outs.length - μ.length)⟩) : regY P E ops K draw ⟨some d, .call { callee := .value fo, args := args, argTypes := ats }, ty, pos, aft, g⟩ r acc ⟨tm, ob, nx⟩ :=
  rx_callMf μ hpf hd hx hvs hm hμ hlt hins hlen hargs him hii hrv hob h
end
end Go.Proofs.Ytfebalahfhkeaaa
