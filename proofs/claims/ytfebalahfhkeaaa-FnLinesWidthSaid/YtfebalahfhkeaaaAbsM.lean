/- The abstract machine, part 19: functions that write to what they were handed. No conditions but those stated. -/
import Derived.Test.YtfebalahfhkeaaaAbsLib
namespace Go.Proofs.Ytfebalahfhkeaaa
open Go Go.RowKit
theorem PFM.enterT {P : Program} {f m : Nat} {fn : Func} {c : Code} {ins : List AObj} {xs : List AVal} {tm : List (Nat × AVal)} {ob : List (Nat × Option AObj)} {outs : List (Option AObj)} {rv : AVal} (htm : enum 0 xs = tm) (hob : enum 0 (ins.map some) = ob) (hm : ins.length = m)
    (hf : P.funcs[f]? = some fn) (hb : fn.body = some c) (hnm : (fn.name == "runtime.NumGoroutine") = false)
    (n : Nat) (res : List ResultVar) (hn : fn.ntmps = n) (hl : Nat.ble xs.length n = true) (hres : fn.results = res.toArray)
    (h : ∀ w0 mu I0 β0, AWp P ⟨w0, mu, I0, n, β0, m⟩ c (retK P res outs rv m) ⟨tm, ob, m⟩) : PFM P f ins xs outs rv := by
  subst htm hob hm
  exact PFM.enter hf hb hnm n res hn hl hres h
theorem enumM1 (a : AObj) : enum 0 ([a].map some) = [(0, some a)] := rfl
theorem enumM2 (a b : AObj) : enum 0 ([a, b].map some) = [(0, some a), (1, some b)] := rfl
section
variable {P : Program} {E : Env} {ops : Array Oper} {K : AS → Prop} {draw : Bool}
variable {r : List Oper} {acc : List (Upd × Foot)} {tm : List (Nat × AVal)} {ob : List (Nat × Option AObj)} {nx d ty : Nat} {pos : String} {aft : Array Edge} {g : Option (Nat × Bool)}
/-- a plain function is called and handed the objects μ -/
theorem rx_callMf {fo : Operand} {args : Array Operand} {ats : Array TypeId} {f : Nat} {vs as' : List AVal} {ins : List AObj} {outs : List (Option AObj)} {rv rv' : AVal} {ob' : List (Nat × Option AObj)} (μ : List Nat) (hpf : PFM P f ins as' outs rv)
    (hd : dstB (some d) E.n = true) (hx : opV tm fo = some (.c (.fn f []))) (hvs : opVs tm args.toList = some vs) (hm : Nat.ble E.m nx = true)
    (hμ : nodupB μ = true) (hlt : μ.all (fun q => Nat.blt q nx) = true) (hins : All2 (fun q obj => (AS.mk tm ob nx).obj q = some obj) μ ins) (hlen : Nat.ble ins.length outs.length = true) (hargs : MAs ⟨tm, ob, nx⟩ [] μ vs as')
    (him : ∀ obj, some obj ∈ outs → ∀ x ∈ obj.els, ∀ c ∈ x, Imm c) (hii : ∀ obj ∈ ins, ∀ x ∈ obj.els, ∀ c ∈ x, Imm c) (hrv : reV μ nx rv = rv') (hob : outsU μ nx 0 outs ++ ob = ob')
    (h : regX P E ops K draw r ((callMU (some d) rv μ nx outs, ⟨(Oper.mk (some d) (.call { callee := .value fo, args := args, argTypes := ats }) ty pos aft g).looksAt ops, [] ++ μ⟩) :: acc) ⟨(d, rv') :: tm, ob', nx + (outs.length - μ.length)⟩) : regY P E ops K draw ⟨some d, .call { callee := .value fo, args := args, argTypes := ats }, ty, pos, aft, g⟩ r acc ⟨tm, ob, nx⟩ :=
  rx_callM true [] μ hd hx hvs hm rfl (fun _ => rfl) hμ (by unfold disjB; rfl) hlt hins (Nat.le_of_ble_eq_true hlen) hargs .nil (by simpa using hpf) (fun e => by cases e) (fun e => by cases e) him hii hrv hob h
end
theorem imO1 {o : AObj} (h : AllSc o.els) : ∀ obj, some obj ∈ [some o] → ∀ x ∈ obj.els, ∀ c ∈ x, Imm c := fun obj hm => by
  simp at hm; subst hm; exact h.imm
theorem imI1 {o : AObj} (h : AllSc o.els) : ∀ obj ∈ [o], ∀ x ∈ obj.els, ∀ c ∈ x, Imm c := fun obj hm => by
  simp at hm; subst hm; exact h.imm
end Go.Proofs.Ytfebalahfhkeaaa
