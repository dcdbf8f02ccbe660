/- A world that lays the two tables of unicode/utf8; what it gives; the wrap that hands on the world's shape too. No conditions. -/
import Derived.Test.YtjeffognhcbiaaaGreatDoorSLib
import Derived.Test.YtjeffognhcbiaaaGreatDoorRows
import Derived.LaidLaws
import Derived.Lib.LaidTab
import Derived.Handed
namespace Go.Proofs.YtjeffognhcbiaaaGreatDoor
open Go Go.RowKit
def lit1 : DataW Unit → List Value
  | .lit (.int k n) => [.int k n]
  | _ => []
def lit2 : DataW Unit → List Value
  | .agg l => l.flatMap lit1
  | x => lit1 x
def lit3 : DataW Unit → List Value
  | .agg l => l.flatMap lit2
  | x => lit1 x
def putAt (h : Array Obj) (g : Nat) (vs : Array Value) : Array Obj := h.modify g fun
  | .cells _ t z => .cells vs t z
  | o => o
abbrev laidU : List (String × DataW Unit) := [("unicode/utf8.acceptRanges", Rows.laid_unicode_utf8_acceptRanges), ("unicode/utf8.first", Rows.laid_unicode_utf8_first)]
noncomputable def laidWorldU (os : Os) : World :=
  let w0 := World.holding Tryz.prog os ⟨#[], #[], []⟩
  { w0 with heap := putAt (putAt w0.heap 2 (lit3 Rows.laid_unicode_utf8_acceptRanges).toArray) 1 (lit3 Rows.laid_unicode_utf8_first).toArray }
set_option maxRecDepth 100000 in
theorem laidWorldU_met (os : Os) (args : Array Value) : laidMet Tryz.prog laidU ((laidWorldU os).forCall (fun _ _ => 0) ⟨#[], args, []⟩).memory :=
  laidMet_of_run' 8 (by kernel_rfl) (by kernel_rfl)
theorem gi_cellv {w : World} {g : Nat} {v : Value} (h : w.cell? ⟨g, 0, none⟩ = some v) {p : Array Value → Prop} (hp : ∀ arr, arr[0]? = some v → p arr) : g < w.heap.size ∧ ∃ arr t z, w.heap[g]? = some (.cells arr t z) ∧ p arr := by
  unfold World.cell? at h
  cases hc : w.heap[g]? with
  | none => simp [hc] at h
  | some o =>
    cases o with
    | cells cs t z => exact ⟨(Array.getElem?_eq_some_iff.1 hc).1, cs, t, z, rfl, hp _ (by simpa [hc] using h)⟩
    | _ => simp [hc] at h
theorem laidU_gi {w : World} (hsh : w.ShapedOpen Tryz.prog) : GI (fun b => b < w.heap.size) w := by
  obtain ⟨m, hm⟩ := laysM146.s1_3 w hsh
  intro g p hg
  simp only [gtab, List.mem_cons, List.not_mem_nil, or_false, Prod.mk.injEq] at hg
  obtain ⟨rfl, rfl⟩ := hg
  exact gi_cellv hm (fun arr h => ⟨_, h, m, rfl⟩)
section
variable {H : Type} {enc : TypeId × Value → H}
theorem handed_laid {a : Assume} {C : Checked} {os : Os} {f : FuncId} {fn : Func} {s : ChangeSpec} {conds : List PathCond} {apart fresh handsOn again : Bool} {X : World → Array Value → Prop}
    (hX : ∀ (w w' : World) (args : Array Value), w.heap = w'.heap → X w args → X w' args)
    (own : ownKnob C.prog.godebug = none) (started : os.Started) (noInit : C.prog.inits.idxOf? f = none) (hfn : C.prog.funcs[f]? = some fn)
    (witness : ∃ (w : World) (tape : Tape) (i : Input), w.os = os ∧ (w.forCall tape i).Shaped C.prog ∧ i.vars = [] ∧ Input.okWide C.prog (w.forCall tape i) .any w.heap.size f i ∧
      ((s.pre enc C.prog fn conds apart (w.forCall tape i).memory i.args ∧ X (w.forCall tape i).memory i.args) ∧ sizedMet enc C.prog fn (OpenSpec.ofChange s) apart (w.forCall tape i).memory i.args) ∧ a.holds C.prog (lone (Frame.enter C.prog f i.args .normal) [] (w.forCall tape i)))
    (contract : ∀ (W : World) (base : Nat) (args : Array Value) (ds gs : List (DataW H)) (before : List MemPlace),
      (∀ (j : Nat) t v, fn.params[j]? = some t → args[j]? = some v → Value.okWide C.prog W .any base t v) →
      DataW.Whole enc C.prog fn.params.toList s.vars apart W args.toList ds gs before →
      conds.all (PathCond.test C.prog ⟨fn.params.toList, ds, s.plain.varTypes C.prog, gs⟩) = true →
      W.ShapedOpen C.prog → X W args →
      Calls C.prog f args W fun e W' => ∃ v, e = .returned v ∧ s.post enc C.prog fn apart fresh handsOn again W args v W') :
    ReturnsInHanded a C os f .any (fun w args => (s.pre enc C.prog fn conds apart w args ∧ X w args) ∧ sizedMet enc C.prog fn (OpenSpec.ofChange s) apart w args) (s.post enc C.prog fn apart fresh handsOn again) :=
  returnsInHanded_of_calls own started noInit witness fun w tape i _ hsh _ hok hpre _ => by
    obtain ⟨_, _, _, g, hg, _, _, _, _, hval⟩ := hok
    obtain rfl : g = fn := Option.some.inj (hg.symm.trans hfn)
    obtain ⟨⟨⟨ds, gs, before, hw, hc⟩, hx⟩, _⟩ := hpre
    refine (contract (w.forCall tape i) w.heap.size i.args ds gs before hval (DataW.Whole.of_heap (w' := w.forCall tape i) (by rfl) hw) hc hsh (hX _ _ _ (by rfl) hx)).mono fun e W' h => ?_
    obtain ⟨v, rfl, hp⟩ := h
    exact ChangeSpec.post_blind hp
end
end Go.Proofs.YtjeffognhcbiaaaGreatDoor
