/- The abstract machine, part 18: library functions without a body: IndexByteString; strings.Contains of one byte. -/
import Derived.Test.YtjeffognhcbiaaaGreatDoorAbs3
import Derived.Test.YtjeffognhcbiaaaGreatDoorTab
import Derived.Lib.Strings
import Derived.Lib.Walk
import Derived.Lib.Bytealg
namespace Go.Proofs.YtjeffognhcbiaaaGreatDoor
open Go Go.RowKit
theorem zC (f : Nat) : Imm (.fn f []) := Imm.fn f [] (by simp)
theorem wX : ∀ x ∈ ([] : List Cell), Imm x := fun x hx => by simp at hx
theorem x9 {c : Cell} {cs : List Cell} (h : Imm c) (hs : ∀ x ∈ cs, Imm x) : ∀ x ∈ c :: cs, Imm x := fun x hx => by
  rcases List.mem_cons.1 hx with rfl | hx
  · exact h
  · exact hs x hx
theorem VCs.same {s : AS} {V : List Nat} : ∀ {cs : List Cell}, (∀ c ∈ cs, Imm c) → VCs s V cs cs
  | [], _ => .nil
  | _ :: _, h => .cons (.imm (h _ (by simp))) (VCs.same fun c hc => h c (by simp [hc]))

section
variable {P : Program} {E : Env} {ops : Array Oper} {K : AS → Prop} {draw : Bool} {r : List Oper} {acc : List (Upd × Foot)} {tm : List (Nat × AVal)} {ob : List (Nat × Option AObj)} {nx d ty : Nat} {pos : String} {aft : Array Edge} {g : Option (Nat × Bool)}
theorem raws_rep {I : Nat → Prop} {β : Nat → Option BI} {a : Act} {w : World} {s : AS} : ∀ {xs : List Operand} {vs : List Value}, xs.map (opA s) = vs.map (fun v => AVal.c (.v v)) → (∀ x ∈ xs, RepV I β w (opA s x) (a.eval x)) → xs.map a.eval = vs
  | [], [], _, _ => rfl
  | [], _ :: _, h, _ => by simp at h
  | _ :: _, [], h, _ => by simp at h
  | x :: xs, v :: vs, h, hr => by
    simp only [List.map_cons, List.cons.injEq] at h
    have h1 := hr x (by simp)
    rw [h.1] at h1
    rw [List.map_cons, x8 h1, raws_rep h.2 fun y hy => hr y (by simp [hy])]
theorem rx_ext {f : Nat} {args : Array Operand} {ats : Array TypeId} {vs : List AVal} {raws : List Value} {v : Value} (hd : xR (some d) E.n = true)
    (hvs : jC tm args.toList = some vs) (hraw : vs = raws.map (fun v => AVal.c (.v v))) (hv : v.oneCell' = true) (hrun : ∀ w : World, (callFunc f raws.toArray).run P w = .ok (.value v) w)
    (h : regX P E ops K draw r ((xX (some d) (.c (.v v)), ⟨(Oper.mk (some d) (.call { callee := .value (.func f), args := args, argTypes := ats }) ty pos aft g).looksAt ops, []⟩) :: acc) ⟨(d, .c (.v v)) :: tm, ob, nx⟩) : regY P E ops K draw ⟨some d, .call { callee := .value (.func f), args := args, argTypes := ats }, ty, pos, aft, g⟩ r acc ⟨tm, ob, nx⟩ := by
  refine ⟨fun hw => ?_⟩
  obtain ⟨e1, e2⟩ := opVs_ok (ob := ob) (nx := nx) hvs
  subst hraw
  refine regX.cons _ _ (StepOk.val hw hd ?_ fun N I s' β a w hop _ _ => ?_) rfl h
  · simp only [Op.operands, Call.operands]
    rw [Array.toList_append, List.all_append, e2]
    rfl
  · refine ⟨v, ?_, Rep.imm (.v v hv)⟩
    have hm := raws_rep e1 (fun x hx => hop x (by simp [Op.operands, Call.operands, Array.mem_toList_iff.1 hx]))
    have e : (#[] : Array Value) ++ args.map a.eval ++ (#[] : Array Value) = raws.toArray := by apply Array.ext'; simp [hm]
    simp only [execOp, resolve, Deferred.ofValue, Act.eval, invoke, Sem.run_bind, Sem.run_pure, Result.andThen]
    rw [show (#[] : Array Value) ++ Array.map (fun x => a.eval x) args ++ #[] = raws.toArray from e]
    exact hrun w
end
def wA (l : List UInt8) (c : UInt8) : Int := Lib.indexByte l c
theorem indexByteString_run (l : List UInt8) (c : UInt8) (w : World) : (callFunc 194 #[.string ⟨⟨l⟩⟩, .int .u8 c.toNat]).run Tryz.prog w = .ok (.value (.int .i64 (wA l c))) w := by
  rw [run_callFunc_extern Tryz.func194 (by kernel_rfl) (by kernel_rfl) (by kernel_rfl) (e := Extern.BytealgIndexByte.indexByte) (by kernel_rfl), Lib.run_indexByteString]
  simp only [Result.andThen]
  have e : ((c.toNat : Int).toNat).toUInt8 = c := by simp
  rw [e]
  rfl
theorem slIndexByte_pf (l : List UInt8) (c : UInt8) : PF Tryz.prog 178 [.c (str l), .c (.v (.int .u8 c.toNat))] [] (.c (int (wA l c))) := by
  refine PF.enter (xG _ _) Tryz.func178 rfl (by kernel_rfl) _ _ rfl rfl rfl (fun w0 mu I0 β0 gi dis => ?_)
  (repeat (first|(apply xW;((exact Want.none_ rfl)))|(apply xF zI;exact rfl;exact rfl)|apply zR|apply AWp.Q|apply zH|apply AWp.G))
  apply rx_ext (raws := [.string ⟨⟨l⟩⟩, .int .u8 c.toNat]) (v := .int .i64 (wA l c))
  exact rfl
  exact rfl
  exact rfl
  exact rfl
  exact indexByteString_run l c
  (repeat (first|(apply xW;((exact Want.none_ rfl)))|(apply xF zI;exact rfl;exact rfl)|apply zR|apply zH|apply AWp.R))
  refine zV _ [] (.cons (zN rfl) .nil) ?_ rfl trivial
  simp only [VW, FW, FWs, CW, CWs, mkRes, boo, int, str, and_true, true_and]
theorem slIndex1_pf (l : List UInt8) (c : UInt8) : PF Tryz.prog 153 [.c (str l), .c (str [c])] [] (.c (int (wA l c))) := by
  refine PF.enter (xG _ _) Tryz.func153 rfl (by kernel_rfl) _ _ rfl rfl rfl (fun w0 mu I0 β0 gi dis => ?_)
  have hc : [c][0]? = some c := rfl
  (repeat (first|(apply xW;(first|exact Want.none_ rfl|(refine zX rfl rfl rfl rfl ?_;((exact rfl)))))|(apply xF zI;exact rfl;exact rfl)|(apply yR;exact rfl;exact rfl;((exact rfl));exact rfl;exact rfl)|apply zR|apply AWp.Q|apply zH|apply AWp.G|apply AWp.B))
  (first | (apply AWp.C; exact rfl) | (apply AWp.O; exact rfl)) <;> intro hp
  · (repeat (first|(apply xW;((exact Want.none_ rfl)))|(apply xF zI;exact rfl;exact rfl)|apply zR|apply AWp.Q|apply zH|apply AWp.G|apply AWp.R|apply zK|apply zL))
    refine zV _ [] (.cons (zN rfl) .nil) ?_ rfl trivial
    simp only [VW, FW, FWs, CW, CWs, mkRes, boo, int, str, and_true, true_and]
    subst hp
    simp [wA, Lib.indexByte]
  (repeat (first|(apply xW;((exact Want.none_ rfl)))|(apply xF zI;exact rfl;exact rfl)|(((apply xD))<;>(first|exact zI|exact rfl|refine yG ?_))|apply zR|apply AWp.Q|apply zH|apply AWp.G|(apply AWp.T;exact rfl;((exact rfl)))))
  ((try (apply xW;((fail))));(apply (wU []);(iterate 5 exact rfl);(iterate 2 (focus (repeat (first|exact VAs.nil|apply VAs.cons|apply VA.c|exact VCs.nil|exact VC.imm (Imm.v _)))));exact (slIndexByte_pf l c);(focus (repeat ((exact Flat.v _))));((apply yJ));((exact xB _ _))))
  (repeat (first|(apply xW;((exact Want.none_ rfl)))|(apply xF zI;exact rfl;exact rfl)|apply zR|apply zH|apply AWp.R|apply zK|apply zL))
  refine zV _ [] (.cons (zN rfl) .nil) ?_ rfl trivial
  simp only [VW, FW, FWs, CW, CWs, mkRes, boo, int, str, and_true, true_and]
theorem sIndex1_pf (l : List UInt8) (c : UInt8) : PF Tryz.prog 117 [.c (str l), .c (str [c])] [] (.c (int (wA l c))) := by
  refine PF.enter (xG _ _) Tryz.func117 rfl (by kernel_rfl) _ _ rfl rfl rfl (fun w0 mu I0 β0 gi dis => ?_)
  (repeat (first|(apply xW;((exact Want.none_ rfl)))|(apply xF zI;exact rfl;exact rfl)|apply zR|apply AWp.Q|apply zH|apply AWp.G))
  ((try (apply xW;((fail))));(apply (wU []);(iterate 5 exact rfl);(iterate 2 (focus (repeat (first|exact VAs.nil|apply VAs.cons|apply VA.c|exact VCs.nil|exact VC.imm (Imm.v _)))));exact (slIndex1_pf l c);(focus (repeat ((exact Flat.v _))));((apply yJ));((exact xB _ _))))
  (repeat (first|(apply xW;((exact Want.none_ rfl)))|(apply xF zI;exact rfl;exact rfl)|apply zR|apply zH|apply AWp.R))
  refine zV _ [] (.cons (zN rfl) .nil) ?_ rfl trivial
  simp only [VW, FW, FWs, CW, CWs, mkRes, boo, int, str, and_true, true_and]
theorem idxByte_any : ∀ (l : List UInt8) (c : UInt8), decide (0 ≤ wA l c) = l.any (· == c)
  | [], c => rfl
  | b :: l, c => by
    have ih := idxByte_any l c
    have hge := Lib.indexByte_ge l c
    have e : wA (b :: l) c = if b == c then 0 else if wA l c == -1 then -1 else wA l c + 1 := rfl
    rw [List.any_cons, ← ih, e]
    by_cases h : (b == c) = true
    · simp [h]
    · simp only [h, Bool.false_eq_true, if_false, Bool.false_or]
      by_cases h2 : (wA l c == -1) = true
      · have h3 : wA l c = -1 := by simpa using h2
        simp [h3]
      · have h3 : ¬ wA l c = -1 := by simpa using h2
        have h4 : 0 ≤ wA l c := by unfold wA at *; omega
        simp [h3]
        omega
theorem sContains1_pf (l : List UInt8) (c : UInt8) : PF Tryz.prog 158 [.c (str l), .c (str [c])] [] (.c (boo (l.any (· == c)))) := by
  refine PF.enter (xG _ _) Tryz.func158 rfl (by kernel_rfl) _ _ rfl rfl rfl (fun w0 mu I0 β0 gi dis => ?_)
  (repeat (first|(apply xW;((exact Want.none_ rfl)))|(apply xF zI;exact rfl;exact rfl)|apply zR|apply AWp.Q|apply zH|apply AWp.G))
  ((try (apply xW;((fail))));(apply (wU []);(iterate 5 exact rfl);(iterate 2 (focus (repeat (first|exact VAs.nil|apply VAs.cons|apply VA.c|exact VCs.nil|exact VC.imm (Imm.v _)))));exact (sIndex1_pf l c);(focus (repeat ((exact Flat.v _))));((apply yJ));((exact xB _ _))))
  (repeat (first|(apply xW;((exact Want.none_ rfl)))|(apply xF zI;exact rfl;exact rfl)|apply zR|apply zH|apply AWp.R))
  refine zV _ [] (.cons (zN rfl) .nil) ?_ rfl trivial
  simp only [VW, FW, FWs, CW, CWs, mkRes, boo, int, str, and_true, true_and]
  rw [idxByte_any]
end Go.Proofs.YtjeffognhcbiaaaGreatDoor

namespace Go.Proofs.YtjeffognhcbiaaaGreatDoor
open Go Go.RowKit
theorem zD {P : Program} {f m : Nat} {fn : Func} {c : Code} {ins : List AObj} {xs : List AVal} {tm : List (Nat × AVal)} {ob : List (Nat × Option AObj)} {outs : List (Option AObj)} {rv : AVal} (htm : vQ 0 xs = tm) (hob : vQ 0 (ins.map some) = ob) (hm : ins.length = m)
    (hf : P.funcs[f]? = some fn) (hb : fn.body = some c) (hnm : (fn.name == "runtime.NumGoroutine") = false)
    (n : Nat) (res : List ResultVar) (hn : fn.ntmps = n) (hl : Nat.ble xs.length n = true) (hres : fn.results = res.toArray)
    (h : ∀ w0 mu I0 β0 gi dis, AWp P ⟨w0, mu, I0, n, β0, m, gi, dis⟩ c (retK P res outs rv m) ⟨tm, ob, m⟩) : PFM P f ins xs outs rv := by
  subst htm hob hm
  exact PFM.enter hf hb hnm n res hn hl hres h
theorem xQ (a : AObj) : vQ 0 ([a].map some) = [(0, some a)] := rfl
theorem enumM2 (a b : AObj) : vQ 0 ([a, b].map some) = [(0, some a), (1, some b)] := rfl
section
variable {P : Program} {E : Env} {ops : Array Oper} {K : AS → Prop} {draw : Bool}
variable {r : List Oper} {acc : List (Upd × Foot)} {tm : List (Nat × AVal)} {ob : List (Nat × Option AObj)} {nx d ty : Nat} {pos : String} {aft : Array Edge} {g : Option (Nat × Bool)}
theorem rx_callMf {fo : Operand} {args : Array Operand} {ats : Array TypeId} {f : Nat} {vs as' : List AVal} {ins : List AObj} {outs : List (Option AObj)} {rv rv' : AVal} {ob' : List (Nat × Option AObj)} (μ : List Nat) (hpf : PFM P f ins as' outs rv)
    (hd : xR (some d) E.n = true) (hx : opV tm fo = some (.c (.fn f []))) (hvs : jC tm args.toList = some vs) (hm : Nat.ble E.m nx = true)
    (hμ : nodupB μ = true) (hlt : μ.all (fun q => Nat.blt q nx) = true) (hins : All2 (fun q obj => (AS.mk tm ob nx).obj q = some obj) μ ins) (hlen : Nat.ble ins.length outs.length = true) (hargs : MAs ⟨tm, ob, nx⟩ [] μ vs as')
    (him : ∀ obj, some obj ∈ outs → ∀ x ∈ obj.els, ∀ c ∈ x, Imm c) (hii : ∀ obj ∈ ins, ∀ x ∈ obj.els, ∀ c ∈ x, Imm c) (hrv : reV μ nx rv = rv') (hob : qS μ nx 0 outs ++ ob = ob')
    (h : regX P E ops K draw r ((callMU (some d) rv μ nx outs, ⟨(Oper.mk (some d) (.call { callee := .value fo, args := args, argTypes := ats }) ty pos aft g).looksAt ops, [] ++ μ⟩) :: acc) ⟨(d, rv') :: tm, ob', nx + (outs.length - μ.length)⟩) : regY P E ops K draw ⟨some d, .call { callee := .value fo, args := args, argTypes := ats }, ty, pos, aft, g⟩ r acc ⟨tm, ob, nx⟩ :=
  rx_callM true [] μ hd hx hvs hm rfl (fun _ => rfl) hμ (by unfold disjB; rfl) hlt hins (Nat.le_of_ble_eq_true hlen) hargs .nil (by simpa using hpf) (fun e => by cases e) (fun e => by cases e) him hii hrv hob h
end
theorem xN {o : AObj} (h : AllSc o.els) : ∀ obj, some obj ∈ [some o] → ∀ x ∈ obj.els, ∀ c ∈ x, Imm c := fun obj hm => by
  simp at hm; subst hm; exact h.imm
theorem xO {o : AObj} (h : AllSc o.els) : ∀ obj ∈ [o], ∀ x ∈ obj.els, ∀ c ∈ x, Imm c := fun obj hm => by
  simp at hm; subst hm; exact h.imm
end Go.Proofs.YtjeffognhcbiaaaGreatDoor

namespace Go.Proofs.YtjeffognhcbiaaaGreatDoor
open Go Go.RowKit
theorem xK {o : AObj} (h : ∀ x ∈ o.els, ∀ c ∈ x, Imm c) : ∀ obj, some obj ∈ [some o] → ∀ x ∈ obj.els, ∀ c ∈ x, Imm c := fun obj hm => by
  simp at hm; subst hm; exact h
theorem oI {s : AS} {d hi : Nat} {x : Operand} {k : IntKind} {z : Int} (h1 : opB x = true) (h2 : opA s x = .c (.v (.int k z))) (h3 : z = (hi : Int)) : OptI s d (some x) hi := ⟨h1, k, z, h2, h3⟩
theorem xP : ∀ obj ∈ ([] : List AObj), ∀ x ∈ obj.els, ∀ c ∈ x, Imm c := fun obj hm => by cases hm
theorem vwB {ρ : Ren} {b b' : Bool} (h : b = b') : VW ρ (mkRes [.c (.v (.bool b))]) (.c (boo b')) := by subst h; exact rfl
theorem vwS {ρ : Ren} {l l' : List UInt8} (h : l = l') : VW ρ (mkRes [.c (str l)]) (.c (str l')) := by subst h; exact rfl
theorem vwI {ρ : Ren} {p q : Int} (h : p = q) : VW ρ (mkRes [.c (int p)]) (.c (int q)) := by subst h; exact rfl
theorem fwB {ρ : Ren} {b b' : Bool} (h : b = b') : FW ρ (.c (.v (.bool b))) (.c (boo b')) := by subst h; exact rfl
theorem fwS {ρ : Ren} {l l' : List UInt8} (h : l = l') : FW ρ (.c (str l)) (.c (str l')) := by subst h; exact rfl
theorem fwI {ρ : Ren} {p q : Int} (h : p = q) : FW ρ (.c (int p)) (.c (int q)) := by subst h; exact rfl
theorem z8 {a b : Nat} (h : a = b) : a = b := h
def lensB (n : Nat) : List (List Cell) → Bool
  | [] => true
  | x :: r => Nat.beq x.length n && lensB n r
theorem xH {n : Nat} : ∀ {l : List (List Cell)}, lensB n l = true → Bd (∀ x ∈ l, x.length = n)
  | [], _ => ⟨fun x h => by cases h⟩
  | y :: l, h => ⟨fun x hx => by
    simp only [lensB, Bool.and_eq_true] at h
    rcases List.mem_cons.1 hx with rfl | hx
    · exact Nat.eq_of_beq_eq_true h.1
    · exact (xH h.2).h x hx⟩
theorem xU {n a b : Nat} {l : List (List Cell)} (h : ∀ x ∈ l, x.length = n) : Bd (∀ x ∈ (l.drop a).take b, x.length = n) :=
  ⟨fun x hx => h x (List.mem_of_mem_drop (List.mem_of_mem_take hx))⟩
theorem y6 {tm : List (Nat × AVal)} {ob : List (Nat × Option AObj)} {nx q off n : Nat} {obj : AObj} (ho : (lk q ob).getD none = some obj) (hn : off + n ≤ obj.els.length) : wT ⟨tm, ob, nx⟩ (.ref q off n) = some ([q], (obj.els.drop off).take n) := by
  have h : (AS.mk tm ob nx).obj q = some obj := ho
  simp only [wT, h, hn, if_true]
theorem y7 {tm : List (Nat × AVal)} {ob : List (Nat × Option AObj)} {nx q n : Nat} {obj : AObj} (ho : (lk q ob).getD none = some obj) (hn : n = obj.els.length) : wT ⟨tm, ob, nx⟩ (.ref q 0 n) = some ([q], obj.els) := by
  have h : (AS.mk tm ob nx).obj q = some obj := ho
  simp only [wT, h, hn, Nat.zero_add, Nat.le_refl, if_true, List.drop_zero, List.take_length]
mutual
def refsC : Cell → List Nat
  | .ref q _ _ => [q]
  | .ptr q _ _ => [q]
  | .fn _ caps => refsL caps
  | _ => []
def refsL : List Cell → List Nat
  | [] => []
  | c :: cs => refsC c ++ refsL cs
end
def refsV : AVal → List Nat
  | .c x => refsC x
  | .agg xs => refsL xs
  | _ => []
def refsVs : List AVal → List Nat
  | [] => []
  | v :: vs => refsV v ++ refsVs vs
section
variable {s : AS} {V μ : List Nat}
theorem zA {q n : Nat} {obj : AObj} {xs : List (List Cell)} (hq : kO q V = true) (ho : (lk q s.ob).getD none = some obj) (hn : n = obj.els.length) (hx : obj.els = xs) (hi : ∀ x ∈ xs, ∀ c ∈ x, Imm c) : VC s V (.ref q 0 n) (.sl xs) := by
  subst hx
  exact zF (memB_iff.1 hq) ho hn hi
theorem zB {q n : Nat} {obj : AObj} {xs : List (List Cell)} (hq : kO q V = true) (ho : (lk q s.ob).getD none = some obj) (hn : 0 + n ≤ obj.els.length) (hx : (obj.els.drop 0).take n = xs) (hi : ∀ x ∈ obj.els, ∀ c ∈ x, Imm c) : VC s V (.ref q 0 n) (.sl xs) :=
  .ref (memB_iff.1 hq) ho hn hx hi
theorem VC.ptrA {q i f : Nat} {obj : AObj} {el cs : List Cell} (hq : kO q V = true) (ho : (lk q s.ob).getD none = some obj) (he : obj.els[i]? = some el) (hd : el.drop f = cs) (hi : ∀ c ∈ el, Imm c) : VC s V (.ptr q i f) (.ip cs) :=
  .ptr (memB_iff.1 hq) ho he hd hi
end
section
variable {P : Program} {E : Env} {ops : Array Oper} {K : AS → Prop} {draw : Bool}
variable {r : List Oper} {acc : List (Upd × Foot)} {tm : List (Nat × AVal)} {ob : List (Nat × Option AObj)} {nx d ty : Nat} {pos : String} {aft : Array Edge} {g : Option (Nat × Bool)}
theorem yA {fo : Operand} {args : Array Operand} {ats : Array TypeId} {f : Nat} {caps caps' : List Cell} {vs as' : List AVal} {fr : List AObj} {rv : AVal} {V : List Nat} (hd : xR (some d) E.n = true) (hx : opV tm fo = some (.c (.fn f caps))) (hvs : jC tm args.toList = some vs) (hm : Nat.ble E.m nx = true) (_hr : refsVs vs ++ refsL caps = V) (hV : V.all (fun q => ((lk q ob).getD none).isSome) = true) (hargs : VAs ⟨tm, ob, nx⟩ V vs as') (hcaps : VCs ⟨tm, ob, nx⟩ V caps caps') (hpf : PF P f (as' ++ caps'.map AVal.c) fr rv) (hfl : kV rv)
    (h : callK P E ops K draw r acc tm ob nx d fr rv ((Oper.mk (some d) (.call { callee := .value fo, args := args, argTypes := ats }) ty pos aft g).looksAt ops, V)) : regY P E ops K draw ⟨some d, .call { callee := .value fo, args := args, argTypes := ats }, ty, pos, aft, g⟩ r acc ⟨tm, ob, nx⟩ :=
  wU V hd hx hvs hm hV hargs hcaps hpf hfl h
theorem yP {fo : Operand} {args : Array Operand} {ats : Array TypeId} {f : Nat} {vs as' : List AVal} {ins : List AObj} {outs : List (Option AObj)} {rv rv' : AVal} {ob' : List (Nat × Option AObj)} {μ : List Nat} (hpf : PFM P f ins as' outs rv)
    (hd : xR (some d) E.n = true) (hx : opV tm fo = some (.c (.fn f []))) (hvs : jC tm args.toList = some vs) (hm : Nat.ble E.m nx = true) (_hr : refsVs vs = μ)
    (hμ : nodupB μ = true) (hlt : μ.all (fun q => Nat.blt q nx) = true) (hins : All2 (fun q obj => (AS.mk tm ob nx).obj q = some obj) μ ins) (hlen : Nat.ble ins.length outs.length = true) (hargs : MAs ⟨tm, ob, nx⟩ [] μ vs as')
    (him : ∀ obj, some obj ∈ outs → ∀ x ∈ obj.els, ∀ c ∈ x, Imm c) (hii : ∀ obj ∈ ins, ∀ x ∈ obj.els, ∀ c ∈ x, Imm c) (hrv : reV μ nx rv = rv') (hob : qS μ nx 0 outs ++ ob = ob')
    (h : regX P E ops K draw r ((callMU (some d) rv μ nx outs, ⟨(Oper.mk (some d) (.call { callee := .value fo, args := args, argTypes := ats }) ty pos aft g).looksAt ops, [] ++ μ⟩) :: acc) ⟨(d, rv') :: tm, ob', nx + (outs.length - μ.length)⟩) : regY P E ops K draw ⟨some d, .call { callee := .value fo, args := args, argTypes := ats }, ty, pos, aft, g⟩ r acc ⟨tm, ob, nx⟩ :=
  rx_callMf μ hpf hd hx hvs hm hμ hlt hins hlen hargs him hii hrv hob h
end
end Go.Proofs.YtjeffognhcbiaaaGreatDoor

namespace Go.Proofs.YtjeffognhcbiaaaGreatDoor
open Go Go.RowKit
def inZ (x a b : Int) : Bool := decide (a ≤ x ∧ x ≤ b)
theorem vP (x a b : Int) : PF Tryz.prog 88 [.c (int x), .c (int a), .c (int b)] [] (.c (boo (inZ x a b))) := by
  refine PF.enter (enum3 _ _ _) Tryz.func88 rfl (by kernel_rfl) _ _ rfl rfl rfl (fun w0 mu I0 β0 gi dis => ?_)
  (repeat (first|(apply xW;((exact Want.none_ rfl)))|(apply xF zI;exact rfl;exact rfl)|apply zR|apply AWp.Q|apply zH|apply AWp.G))
  (first | (apply zT; exact rfl; exact rfl; exact rfl) | (apply zY; exact rfl; exact rfl; exact rfl)) <;> intro hp
  all_goals
    (repeat (first|(apply xW;(first|exact Want.none_ rfl|(refine zX rfl rfl rfl rfl ?_;((exact dT ‹_›)))))|(apply xF zI;exact rfl;exact rfl)|(apply yR;exact rfl;exact rfl;(first|exact dT ‹_›|exact dF ‹_›);exact rfl;exact rfl)|(apply yS;(iterate 5 exact rfl);((exact dF ‹_›)))|apply zR|apply zH|apply AWp.R))
    refine zV _ [] (.cons (zN rfl) .nil) ?_ rfl trivial
    simp only [VW, FW, FWs, CW, CWs, mkRes, boo, int, str, and_true, true_and]
    simp [hp, inZ]
theorem jA (x a b : Int) : PF Tryz.prog 82 [.c (int x), .c (int a), .c (int b)] [] (.c (boo (inZ x a b))) := by
  refine PF.enter (enum3 _ _ _) Tryz.func82 rfl (by kernel_rfl) _ _ rfl rfl rfl (fun w0 mu I0 β0 gi dis => ?_)
  (repeat (first|(apply xW;((exact Want.none_ rfl)))|(apply xF zI;exact rfl;exact rfl)|apply zR|apply AWp.Q|apply zH|apply AWp.G))
  (first | (apply zT; exact rfl; exact rfl; exact rfl) | (apply zY; exact rfl; exact rfl; exact rfl)) <;> intro hp
  all_goals
    (repeat (first|(apply xW;(first|exact Want.none_ rfl|(refine zX rfl rfl rfl rfl ?_;((exact dT ‹_›)))))|(apply xF zI;exact rfl;exact rfl)|(apply yR;exact rfl;exact rfl;(first|exact dT ‹_›|exact dF ‹_›);exact rfl;exact rfl)|(apply yS;(iterate 5 exact rfl);((exact dF ‹_›)))|apply zR|apply zH|apply AWp.R))
    refine zV _ [] (.cons (zN rfl) .nil) ?_ rfl trivial
    simp only [VW, FW, FWs, CW, CWs, mkRes, boo, int, str, and_true, true_and]
    simp [hp, inZ]
theorem x5 {α : Type} {p : α → Bool} {l : List α} {k : Nat} {x : α} (h : l[k]? = some x) : (l.take (k + 1)).all p = ((l.take k).all p && p x) := by
  rw [List.take_add_one, h]; simp
theorem vK {α : Type} {p : α → Bool} {l : List α} {k : Nat} {x : α} (h : l[k]? = some x) (hp : p x = false) : l.all p = false := by
  rw [List.all_eq_false]; exact ⟨x, List.mem_of_getElem? h, by simp [hp]⟩
theorem wK {α : Type} {p : α → Bool} {l : List α} {k : Nat} {x : α} (h : l[k]? = some x) : (l.take (k + 1)).any p = ((l.take k).any p || p x) := by
  rw [List.take_add_one, h]; simp
theorem any_at {α : Type} {p : α → Bool} {l : List α} {k : Nat} {x : α} (h : l[k]? = some x) (hp : p x = true) : l.any p = true := by
  rw [List.any_eq_true]; exact ⟨x, List.mem_of_getElem? h, hp⟩
theorem findIdx_first {α : Type} {p : α → Bool} : ∀ {l : List α} {k : Nat} {x : α}, l[k]? = some x → p x = true → (l.take k).any p = false → l.findIdx p = k
  | [], _, _, h, _, _ => by simp at h
  | y :: l, 0, x, h, hp, _ => by simp at h; subst h; simp [List.findIdx_cons, hp]
  | y :: l, k + 1, x, h, hp, hn => by
    simp only [List.take_succ_cons, List.any_cons, Bool.or_eq_false_iff] at hn
    rw [List.findIdx_cons, hn.1, cond_false, findIdx_first (by simpa using h) hp hn.2]
theorem xT {α : Type} {l : List α} {k : Nat} (h : k < l.length) : ∃ x, l[k]? = some x := ⟨l[k], List.getElem?_eq_getElem h⟩
theorem take_all {α : Type} {l : List α} {k : Nat} (h : k ≤ l.length) (h2 : ¬ k < l.length) : l.take k = l := List.take_of_length_le (by omega)
theorem take_succ {α : Type} {l : List α} {k : Nat} {x : α} (h : l[k]? = some x) : l.take (k + 1) = l.take k ++ [x] := by rw [List.take_add_one, h]; rfl
theorem xY {α β : Type} {f : α → β} {l : List α} {k : Nat} {x : α} (h : l[k]? = some x) : (l.map f)[k]? = some (f x) := by rw [List.getElem?_map, h]; rfl
end Go.Proofs.YtjeffognhcbiaaaGreatDoor

namespace Go.Proofs.YtjeffognhcbiaaaGreatDoor
open Go Go.RowKit
end Go.Proofs.YtjeffognhcbiaaaGreatDoor

namespace Go.Proofs.YtjeffognhcbiaaaGreatDoor
open Go Go.RowKit
def xE (n : Int) : List Cell := [int n]
theorem eInt_sc (n : Int) : ∀ x ∈ xE n, Imm x ∧ Flat x := by
  intro x hx
  simp only [xE, List.mem_cons, List.not_mem_nil, or_false] at hx
  subst hx
  exact ⟨Imm.v _, Flat.v _⟩
theorem map_sc {α : Type} {enc : α → List Cell} (h : ∀ a, ∀ x ∈ enc a, Imm x ∧ Flat x) (l : List α) : AllSc (l.map enc) := by
  intro x hx
  obtain ⟨a, _, rfl⟩ := List.mem_map.1 hx
  exact h a
theorem xM (l : List Int) : AllSc (l.map xE) := map_sc eInt_sc l
section
variable {α : Type} {xs ys : List α} {k : Nat} {y z : α}
end
section
variable {xs : List (List Cell)} {z x : List Cell} {k : Nat}
end
def wE (l : List UInt8) : List Cell := [str l]
theorem eStr_sc (l : List UInt8) : ∀ x ∈ wE l, Imm x ∧ Flat x := by
  intro x hx
  simp only [wE, List.mem_cons, List.not_mem_nil, or_false] at hx
  subst hx
  exact ⟨Imm.v _, Flat.v _⟩
theorem x3 (ws : List (List UInt8)) : AllSc (ws.map wE) := map_sc eStr_sc ws
end Go.Proofs.YtjeffognhcbiaaaGreatDoor

namespace Go.Proofs.YtjeffognhcbiaaaGreatDoor
open Go Go.RowKit
inductive FC (o : Nat) (els : List (List Cell)) : Cell → Cell → Prop
  | same (c : Cell) : FC o els c c
  | ref (n : Nat) : n = els.length → FC o els (.ref o 0 n) (.sl els)
  | pre (n : Nat) : n ≤ els.length → FC o els (.ref o 0 n) (.sl (els.take n))
inductive FA (o : Nat) (els : List (List Cell)) : AVal → AVal → Prop
  | same (x : AVal) : FA o els x x
  | ref (n : Nat) : n = els.length → FA o els (.c (.ref o 0 n)) (.c (.sl els))
theorem at_ltF {α : Type} {l : List α} {k : Nat} (h : k < l.length) : ∃ x, l[k]? = some x := ⟨l[k], List.getElem?_eq_getElem h⟩
theorem All2.refl {α : Type} {R : α → α → Prop} (h : ∀ a, R a a) : ∀ l : List α, All2 R l l
  | [] => .nil
  | a :: l => .cons (h a) (All2.refl h l)
def alive (m o : Nat) (s : AS) : Prop := ∀ q, q < m → q ≠ o ∧ ∃ x, s.obj q = some x
theorem qF {o : Nat} {s : AS} : alive 0 o s := fun q h => absurd h (Nat.not_lt_zero q)
theorem vT {o : Nat} {s : AS} {x : AObj} (h0 : Nat.beq o 0 = false) (h : s.obj 0 = some x) : alive 1 o s := fun q hq => by
  obtain rfl : q = 0 := by omega
  exact ⟨fun e => by subst e; simp at h0, x, h⟩
theorem Rel.frz {E : Env} {I : Nat → Prop} {s s' : AS} {β : Nat → Option BI} {a : Act} {w : World} (hr : Rel E (wN s) I s β a w) {o : Nat} {obj : AObj} (ho : s.obj o = some obj) (hm : alive E.m o s)
    (hi : ∀ x ∈ obj.els, ∀ c ∈ x, Imm c) (hnx : s'.nx = s.nx) (ht : ∀ t, FA o obj.els (s.get t) (s'.get t))
    (hob : ∀ q x', s'.obj q = some x' → q ≠ o ∧ ∃ x, s.obj q = some x ∧ x.ty = x'.ty ∧ x.sz = x'.sz ∧ All2 (All2 (FC o obj.els)) x.els x'.els) : ∃ I', Rel E (wN s') I' s' β a w := by
  obtain ⟨B, hB, e2, e3, e4⟩ := hr.obs o obj ho
  have hmu : ∀ b, B.blk = some b → ¬ E.mu b := by
    intro b hb hmu
    obtain ⟨q, B', hq, h1, h2⟩ := E.dis.2 b hmu
    obtain ⟨hqo, x, hx⟩ := hm q hq
    exact hr.inj q o x obj B' B b hx ho hqo (by rw [hr.ext q hq]; exact h1) hB h2 hb
  let I' : Nat → Prop := fun b => I b ∨ B.blk = some b
  have hI : ∀ b, I b → I' b := fun b h => .inl h
  have hpr : ∀ n, n ≤ obj.els.length → ∀ v, Rep I β w (.ref o 0 n) v → RepI I' w (.sl (obj.els.take n)) v := by
    intro n hn v hv
    cases hv with
    | imm h => cases h
    | refE _ _ A cap h => exact absurd rfl h
    | ref0 _ sz C h =>
      rw [hB] at h
      obtain rfl : B = ⟨none, sz, C⟩ := Option.some.inj h
      rw [e3 rfl, List.take_nil]
      exact .sl0 none 0
    | ref _ _ _ b sz cap C h1 h2 h3 =>
      rw [hB] at h1
      obtain rfl : B = ⟨some b, sz, C⟩ := Option.some.inj h1
      obtain ⟨k0, k1, k2, arr, k3, k4, k5, k6, k7⟩ := e4 b rfl
      simp only at k0
      subst k0
      have hex : ∀ (i j : Nat), ∃ u, ∀ x c, obj.els[i]? = some x → x[j]? = some c → w.cell? ⟨b, 0 * obj.sz + i * obj.sz + j, none⟩ = some u ∧ RepI I' w c u := by
        intro i j
        cases hx : obj.els[i]? with
        | none => exact ⟨undef, fun x c h => by cases h⟩
        | some x =>
          cases hc : x[j]? with
          | none => exact ⟨undef, fun x' c h h' => by cases h; rw [hc] at h'; cases h'⟩
          | some c =>
            obtain ⟨u, hu, hru⟩ := k7 i j x c hx hc
            refine ⟨u, fun x' c' h h' => ?_⟩
            cases h; rw [hc] at h'; cases h'
            refine ⟨?_, (hi x (List.mem_of_getElem? hx) c (List.mem_of_getElem? hc) _ _ _ _ hru).mono hI (fun _ _ => rfl)⟩
            rw [cell_of_row w b _ arr _ _ k3, Nat.zero_mul, Nat.zero_add]; exact hu
      have htk : ∀ {i : Nat} {x : List Cell}, (obj.els.take n)[i]? = some x → obj.els[i]? = some x := fun {i x} h => by
        rw [List.getElem?_take] at h
        split at h
        · exact h
        · cases h
      refine .sl (obj.els.take n) b (0 * obj.sz) obj.sz n cap (fun i j => Classical.choose (hex i j)) (by rw [List.length_take]; omega) h2 (fun x hx => e2 x (List.mem_of_mem_take hx)) (.inr rfl) (fun i j x c hx hc => (Classical.choose_spec (hex i j) x c (htk hx) hc).1) (fun i j x c hx hc => (Classical.choose_spec (hex i j) x c (htk hx) hc).2)
  have hsl : ∀ n, n = obj.els.length → ∀ v, Rep I β w (.ref o 0 n) v → RepI I' w (.sl obj.els) v := fun n hn v hv => by
    have h := hpr n (by omega) v hv
    rwa [List.take_of_length_le (by omega)] at h
  have hmono : ∀ {c v}, Rep I β w c v → Rep I' β w c v := fun h => h.mono (Ext.refl _) hI (fun _ _ => rfl)
  have hfc : ∀ {c c'}, FC o obj.els c c' → ∀ v, Rep I β w c v → Rep I' β w c' v := by
    intro c c' h v hv
    cases h with
    | same => exact hmono hv
    | ref n hn => exact .imm (hsl n hn v hv)
    | pre n hn => exact .imm (hpr n hn v hv)
  refine ⟨I', ⟨fun t => ?_, hr.siz, hr.dfr, fun q x' hx' => ?_, fun q q' x1 x2 B1 B2 b h1 h2 hne => ?_, fun q B h => ?_, hr.old, fun b hb => ?_, fun b hb => ?_, hr.ext⟩⟩
  · have h0 := hr.tms t
    have h1 := ht t
    generalize s.get t = x at h0 h1
    generalize s'.get t = y at h1
    cases h1 with
    | same => exact h0.mono (Ext.refl _) hI (fun _ _ => rfl)
    | ref n hn => exact .imm (hsl n hn _ h0)
  · obtain ⟨hqo, x, hx, t1, t2, t3⟩ := hob q x' hx'
    obtain ⟨Bq, hBq, q2, q3, q4⟩ := hr.obs q x hx
    have hlen : x'.els.length = x.els.length := t3.length
    refine ⟨Bq, hBq, fun y hy => ?_, fun hn => ?_, fun b hb => ?_⟩
    · obtain ⟨i, hy⟩ := List.getElem?_of_mem hy
      obtain ⟨y0, hy0⟩ := at_ltF (show i < x.els.length by rw [← hlen]; exact (List.getElem?_eq_some_iff.1 hy).1)
      obtain ⟨y1, h1, h2⟩ := t3.at hy0
      rw [hy] at h1; cases h1
      rw [h2.length, ← t2]
      exact q2 _ (List.mem_of_getElem? hy0)
    · have := q3 hn
      rw [this] at hlen
      exact List.length_eq_zero_iff.1 hlen
    · obtain ⟨k0, k1, k2, arr, k3, k4, k5, k6, k7⟩ := q4 b hb
      refine ⟨k0.trans t2, k1, fun h => ?_, arr, by rw [← t1]; exact k3, by rw [← t2, hlen]; exact k4, by rw [hlen]; exact k5, k6, fun i j y c hy hc => ?_⟩
      · rcases h with h | h
        · exact k2 h
        · exact hr.inj q o x obj Bq B b hx ho hqo hBq hB hb h
      · obtain ⟨y0, hy0⟩ := at_ltF (show i < x.els.length by rw [← hlen]; exact (List.getElem?_eq_some_iff.1 hy).1)
        obtain ⟨y1, h1, h2⟩ := t3.at hy0
        rw [hy] at h1; cases h1
        obtain ⟨c0, hc0⟩ := at_ltF (show j < y0.length by rw [← h2.length]; exact (List.getElem?_eq_some_iff.1 hc).1)
        obtain ⟨c1, h3, h4⟩ := h2.at hc0
        rw [hc] at h3; cases h3
        obtain ⟨u, hu, hru⟩ := k7 i j y0 c0 hy0 hc0
        exact ⟨u, by rw [← t2]; exact hu, hfc h4 u hru⟩
  · obtain ⟨_, y1, hy1, _⟩ := hob q x1 h1
    obtain ⟨_, y2, hy2, _⟩ := hob q' x2 h2
    exact hr.inj q q' y1 y2 B1 B2 b hy1 hy2 hne
  · have := hr.nam q B h
    simpa [wN, hnx] using this
  · rcases hb with h | h
    · exact hr.imm b h
    · exact ((hr.obs o obj ho).lt hB h).1
  · refine ⟨fun h => ?_, fun h => .inl ((hr.gro b hb).2 h)⟩
    rcases h with h | h
    · exact (hr.gro b hb).1 h
    · obtain ⟨_, k1, _⟩ := e4 b h
      rcases k1 with k1 | k1
      · exact absurd k1 (hmu b h)
      · omega
theorem AWp.frz {P : Program} {E : Env} {c : Code} {K : Exit → AS → Prop} {tm : List (Nat × AVal)} {ob : List (Nat × Option AObj)} {nx : Nat} (t o : Nat) {obj : AObj} {n : Nat} (hm : alive E.m o ⟨tm, ob, nx⟩) (ho : (AS.mk tm ob nx).obj o = some obj) (hg : (AS.mk tm ob nx).get t = .c (.ref o 0 n)) (hn : n = obj.els.length)
    (hi : ∀ x ∈ obj.els, ∀ c ∈ x, Imm c) (h : AWp P E c K ⟨(t, .c (.sl obj.els)) :: tm, (o, none) :: ob, nx⟩) : AWp P E c K ⟨tm, ob, nx⟩ := by
  refine AWp.weaken (fun E' I β a w hE hr => ?_) h
  have ht : ∀ k, FA o obj.els ((AS.mk tm ob nx).get k) ((AS.mk ((t, AVal.c (.sl obj.els)) :: tm) ((o, none) :: ob) nx).get k) := fun k => by
    by_cases e : k = t
    · subst e
      rw [hg, show (AS.mk ((k, AVal.c (.sl obj.els)) :: tm) ((o, none) :: ob) nx).get k = .c (.sl obj.els) by simp [AS.get, lk_cons]]
      exact .ref n hn
    · rw [show (AS.mk ((t, AVal.c (.sl obj.els)) :: tm) ((o, none) :: ob) nx).get k = (AS.mk tm ob nx).get k by simp [AS.get, lk_cons, e]]
      exact .same _
  have hob : ∀ q x', (AS.mk ((t, AVal.c (.sl obj.els)) :: tm) ((o, none) :: ob) nx).obj q = some x' → q ≠ o ∧ ∃ x, (AS.mk tm ob nx).obj q = some x ∧ x.ty = x'.ty ∧ x.sz = x'.sz ∧ All2 (All2 (FC o obj.els)) x.els x'.els := fun q x' hx' => by
    by_cases e : q = o
    · subst e
      simp [AS.obj, lk_cons] at hx'
    · have : (AS.mk tm ob nx).obj q = some x' := by simpa [AS.obj, lk_cons, e] using hx'
      exact ⟨e, x', this, rfl, rfl, All2.refl (fun l => All2.refl (fun c => .same c) l) _⟩
  obtain ⟨I', hr'⟩ := Rel.frz (s' := ⟨(t, .c (.sl obj.els)) :: tm, (o, none) :: ob, nx⟩) hr ho (by rw [hE]; exact hm) hi rfl ht hob
  exact ⟨I', β, hr'⟩
theorem Weak.frz {m : Nat} {tm : List (Nat × AVal)} {ob : List (Nat × Option AObj)} {nx : Nat} {s' : AS} (o p : Nat) {obj out out' : AObj} (hm : alive m o ⟨tm, ob, nx⟩) (ho : (AS.mk tm ob nx).obj o = some obj) (hp : (AS.mk tm ob nx).obj p = some out) (hop : Nat.beq p o = false)
    (hi : ∀ x ∈ obj.els, ∀ c ∈ x, Imm c) (hty : out.ty = out'.ty) (hsz : out.sz = out'.sz) (hc : All2 (All2 (FC o obj.els)) out.els out'.els) (h : Weak m ⟨tm, (o, none) :: (p, some out') :: ob, nx⟩ s') : Weak m ⟨tm, ob, nx⟩ s' := by
  intro E I β a w hE hr
  have hob : ∀ q x', (AS.mk tm ((o, none) :: (p, some out') :: ob) nx).obj q = some x' → q ≠ o ∧ ∃ x, (AS.mk tm ob nx).obj q = some x ∧ x.ty = x'.ty ∧ x.sz = x'.sz ∧ All2 (All2 (FC o obj.els)) x.els x'.els := fun q x' hx' => by
    by_cases e : q = o
    · subst e
      simp [AS.obj, lk_cons] at hx'
    · refine ⟨e, ?_⟩
      by_cases e2 : q = p
      · subst e2
        obtain rfl : out' = x' := by simpa [AS.obj, lk_cons, e] using hx'
        exact ⟨out, hp, hty, hsz, hc⟩
      · have : (AS.mk tm ob nx).obj q = some x' := by simpa [AS.obj, lk_cons, e, e2] using hx'
        exact ⟨x', this, rfl, rfl, All2.refl (fun l => All2.refl (fun c => .same c) l) _⟩
  obtain ⟨I', hr'⟩ := Rel.frz (s' := ⟨tm, (o, none) :: (p, some out') :: ob, nx⟩) hr ho (by rw [hE]; exact hm) hi rfl (fun k => .same _) hob
  exact h E I' β a w hE hr'
theorem Weak.trans {m : Nat} {s s' s'' : AS} (h : Weak m s s') (k : Weak m s' s'') : Weak m s s'' := fun E I β a w hE hr =>
  let ⟨I', β', hr'⟩ := h E I β a w hE hr
  k E I' β' a w hE hr'
end Go.Proofs.YtjeffognhcbiaaaGreatDoor

namespace Go.Proofs.YtjeffognhcbiaaaGreatDoor
open Go Go.RowKit
def andN (a b : Nat) : Nat := a &&& (18446744073709551615 - b)
theorem small64 (n : Nat) (h : n < 4611686018427387904) : IntKind.i64.wrap (n : Int) = (n : Int) := IntWalk.i64_in _ (by omega)
theorem bAnd {a b : Nat} (ha : a < 4611686018427387904) (hb : b < 4611686018427387904) : bits .and .i64 (a : Int) (b : Int) = ((a &&& b : Nat) : Int) := by
  show IntKind.i64.wrap ((BitVec.ofInt 64 (a : Int) &&& BitVec.ofInt 64 (b : Int)).toNat : Int) = _
  rw [BitVec.toNat_and, BitVec.ofInt_natCast, BitVec.ofInt_natCast, BitVec.toNat_ofNat, BitVec.toNat_ofNat, Nat.mod_eq_of_lt (by omega), Nat.mod_eq_of_lt (by omega)]
  exact small64 _ (Nat.lt_of_le_of_lt Nat.and_le_left ha)
theorem bOr {a b : Nat} (ha : a < 4611686018427387904) (hb : b < 4611686018427387904) : bits .or .i64 (a : Int) (b : Int) = ((a ||| b : Nat) : Int) := by
  show IntKind.i64.wrap ((BitVec.ofInt 64 (a : Int) ||| BitVec.ofInt 64 (b : Int)).toNat : Int) = _
  rw [BitVec.toNat_or, BitVec.ofInt_natCast, BitVec.ofInt_natCast, BitVec.toNat_ofNat, BitVec.toNat_ofNat, Nat.mod_eq_of_lt (by omega), Nat.mod_eq_of_lt (by omega)]
  exact small64 _ (Nat.or_lt_two_pow (n := 62) ha hb)
theorem bXor {a b : Nat} (ha : a < 4611686018427387904) (hb : b < 4611686018427387904) : bits .xor .i64 (a : Int) (b : Int) = ((a ^^^ b : Nat) : Int) := by
  show IntKind.i64.wrap ((BitVec.ofInt 64 (a : Int) ^^^ BitVec.ofInt 64 (b : Int)).toNat : Int) = _
  rw [BitVec.toNat_xor, BitVec.ofInt_natCast, BitVec.ofInt_natCast, BitVec.toNat_ofNat, BitVec.toNat_ofNat, Nat.mod_eq_of_lt (by omega), Nat.mod_eq_of_lt (by omega)]
  exact small64 _ (Nat.xor_lt_two_pow (n := 62) ha hb)
theorem bAndN {a b : Nat} (ha : a < 4611686018427387904) (hb : b < 4611686018427387904) : bits .andNot .i64 (a : Int) (b : Int) = ((andN a b : Nat) : Int) := by
  show IntKind.i64.wrap ((BitVec.ofInt 64 (a : Int) &&& ~~~BitVec.ofInt 64 (b : Int)).toNat : Int) = _
  rw [BitVec.toNat_and, BitVec.toNat_not, BitVec.ofInt_natCast, BitVec.ofInt_natCast, BitVec.toNat_ofNat, BitVec.toNat_ofNat, Nat.mod_eq_of_lt (by omega), Nat.mod_eq_of_lt (by omega)]
  exact small64 _ (Nat.lt_of_le_of_lt Nat.and_le_left ha)
theorem bShl {m : Nat} (hm : m < 62) : IntKind.i64.wrap (1 * 2 ^ (min (m : Int).toNat IntKind.i64.bits)) = ((2 ^ m : Nat) : Int) := by
  have e : min (m : Int).toNat IntKind.i64.bits = m := by
    have : IntKind.i64.bits = 64 := rfl
    rw [this, Int.toNat_natCast]; omega
  rw [e, Int.one_mul, ← show ((2 ^ m : Nat) : Int) = (2 : Int) ^ m from Int.natCast_pow 2 m]
  exact small64 _ (Nat.lt_of_lt_of_le (Nat.pow_lt_pow_right (by omega) hm) (by decide))
theorem bShr (a : Nat) {m : Nat} (hm : m < 62) : (a : Int) / 2 ^ (min (m : Int).toNat IntKind.i64.bits) = ((a / 2 ^ m : Nat) : Int) := by
  have e : min (m : Int).toNat IntKind.i64.bits = m := by
    have : IntKind.i64.bits = 64 := rfl
    rw [this, Int.toNat_natCast]; omega
  rw [e, ← show ((2 ^ m : Nat) : Int) = (2 : Int) ^ m from Int.natCast_pow 2 m, ← Int.natCast_ediv]
section
variable {P : Program} {E : Env} {ops : Array Oper} {K : AS → Prop} {draw : Bool}
variable {r : List Oper} {acc : List (Upd × Foot)} {tm : List (Nat × AVal)} {ob : List (Nat × Option AObj)} {nx d ty : Nat} {pos : String} {aft : Array Edge} {g : Option (Nat × Bool)} {x y : Operand} {t t' : Nat} {a b m : Nat}
theorem kA (hd : xR (some d) E.n = true) (hx : opV tm x = some (.c (int (a : Int)))) (hy : opV tm y = some (.c (int (b : Int)))) (hb : Bd (a < 4611686018427387904 ∧ b < 4611686018427387904))
    (h : regX P E ops K draw r ((xX (some d) (.c (int ((a &&& b : Nat) : Int))), ⟨(Oper.mk (some d) (.binOp .and t x y t') ty pos aft g).looksAt ops, []⟩) :: acc) ⟨(d, .c (int ((a &&& b : Nat) : Int))) :: tm, ob, nx⟩) : regY P E ops K draw ⟨some d, .binOp .and t x y t', ty, pos, aft, g⟩ r acc ⟨tm, ob, nx⟩ :=
  rx_and hd hx hy (by rw [bAnd hb.h.1 hb.h.2]; exact h)
theorem kR (hd : xR (some d) E.n = true) (hx : opV tm x = some (.c (int (a : Int)))) (hy : opV tm y = some (.c (int (b : Int)))) (hb : Bd (a < 4611686018427387904 ∧ b < 4611686018427387904))
    (h : regX P E ops K draw r ((xX (some d) (.c (int ((a ||| b : Nat) : Int))), ⟨(Oper.mk (some d) (.binOp .or t x y t') ty pos aft g).looksAt ops, []⟩) :: acc) ⟨(d, .c (int ((a ||| b : Nat) : Int))) :: tm, ob, nx⟩) : regY P E ops K draw ⟨some d, .binOp .or t x y t', ty, pos, aft, g⟩ r acc ⟨tm, ob, nx⟩ :=
  rx_or hd hx hy (by rw [bOr hb.h.1 hb.h.2]; exact h)
theorem qW (hd : xR (some d) E.n = true) (hx : opV tm x = some (.c (int (a : Int)))) (hy : opV tm y = some (.c (int (b : Int)))) (hb : Bd (a < 4611686018427387904 ∧ b < 4611686018427387904))
    (h : regX P E ops K draw r ((xX (some d) (.c (int ((a ^^^ b : Nat) : Int))), ⟨(Oper.mk (some d) (.binOp .xor t x y t') ty pos aft g).looksAt ops, []⟩) :: acc) ⟨(d, .c (int ((a ^^^ b : Nat) : Int))) :: tm, ob, nx⟩) : regY P E ops K draw ⟨some d, .binOp .xor t x y t', ty, pos, aft, g⟩ r acc ⟨tm, ob, nx⟩ :=
  rx_xor hd hx hy (by rw [bXor hb.h.1 hb.h.2]; exact h)
theorem vN (hd : xR (some d) E.n = true) (hx : opV tm x = some (.c (int (a : Int)))) (hy : opV tm y = some (.c (int (b : Int)))) (hb : Bd (a < 4611686018427387904 ∧ b < 4611686018427387904))
    (h : regX P E ops K draw r ((xX (some d) (.c (int ((andN a b : Nat) : Int))), ⟨(Oper.mk (some d) (.binOp .andNot t x y t') ty pos aft g).looksAt ops, []⟩) :: acc) ⟨(d, .c (int ((andN a b : Nat) : Int))) :: tm, ob, nx⟩) : regY P E ops K draw ⟨some d, .binOp .andNot t x y t', ty, pos, aft, g⟩ r acc ⟨tm, ob, nx⟩ :=
  rx_andNot hd hx hy (by rw [bAndN hb.h.1 hb.h.2]; exact h)
theorem kC {k' : IntKind} {q : Int} (hd : xR (some d) E.n = true) (hx : opV tm x = some (.c (int 1))) (hy : opV tm y = some (.c (.v (.int k' q)))) (hq : q = (m : Int)) (hm : Bd (m < 62))
    (h : regX P E ops K draw r ((xX (some d) (.c (int ((2 ^ m : Nat) : Int))), ⟨(Oper.mk (some d) (.binOp .shl t x y t') ty pos aft g).looksAt ops, []⟩) :: acc) ⟨(d, .c (int ((2 ^ m : Nat) : Int))) :: tm, ob, nx⟩) : regY P E ops K draw ⟨some d, .binOp .shl t x y t', ty, pos, aft, g⟩ r acc ⟨tm, ob, nx⟩ := by
  subst hq
  exact rx_shl hd hx hy (Int.natCast_nonneg m) (by rw [bShl hm.h]; exact h)
theorem qZ {k' : IntKind} {q : Int} (hd : xR (some d) E.n = true) (hx : opV tm x = some (.c (int (a : Int)))) (hy : opV tm y = some (.c (.v (.int k' q)))) (hq : q = (m : Int)) (hm : Bd (m < 62))
    (h : regX P E ops K draw r ((xX (some d) (.c (int ((a / 2 ^ m : Nat) : Int))), ⟨(Oper.mk (some d) (.binOp .shr t x y t') ty pos aft g).looksAt ops, []⟩) :: acc) ⟨(d, .c (int ((a / 2 ^ m : Nat) : Int))) :: tm, ob, nx⟩) : regY P E ops K draw ⟨some d, .binOp .shr t x y t', ty, pos, aft, g⟩ r acc ⟨tm, ob, nx⟩ := by
  subst hq
  exact rx_shr hd hx hy (Int.natCast_nonneg m) (by rw [bShr a hm.h]; exact h)
end
theorem div_pow_bit (s k : Nat) : s / 2 ^ k &&& 1 = 1 ↔ s.testBit k = true := by
  rw [Nat.testBit_eq_decide_div_mod_eq, decide_eq_true_eq, Nat.and_one_is_mod]
end Go.Proofs.YtjeffognhcbiaaaGreatDoor
