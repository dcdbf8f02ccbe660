/- A world that lays the tables and the two errors; what it gives; the wrap that hands on the world's shape too. No conditions. -/
import Derived.Test.YtbboadheacmddaaGreatDoorSLib
import Derived.Test.YtbboadheacmddaaGreatDoorSItoa
import Derived.Test.YtbboadheacmddaaGreatDoorRows
import Derived.LaidLaws
import Derived.Lib.LaidTab
import Derived.Stop.LaidErr
import Derived.Handed
namespace Go.Proofs.YtbboadheacmddaaGreatDoor
open Go Go.RowKit
def lit1 : DataW Unit → List Value
  | .lit (.int k n) => [.int k n]
  | _ => []
def lit2 : DataW Unit → List Value
  | .agg l => l.flatMap lit1
  | x => lit1 x
def lit3 : DataW Unit → List Value
  | .agg l => l.flatMap lit2
  | x => lit1 x
def putAt (h : Array Obj) (g : Nat) (vs : Array Value) : Array Obj := h.modify g fun
  | .cells _ t z => .cells vs t z
  | o => o
abbrev textSyn : List UInt8 := [105, 110, 118, 97, 108, 105, 100, 32, 115, 121, 110, 116, 97, 120]
abbrev textRng : List UInt8 := [118, 97, 108, 117, 101, 32, 111, 117, 116, 32, 111, 102, 32, 114, 97, 110, 103, 101]
abbrev laidA : List (String × DataW Unit) := [("math/bits.deBruijn32tab", Rows.laid_math_bits_deBruijn32tab), ("math/bits.deBruijn64tab", Rows.laid_math_bits_deBruijn64tab), ("internal/strconv.uint64pow10", Rows.laid_internal_strconv_uint64pow10), ("unicode/utf8.acceptRanges", Rows.laid_unicode_utf8_acceptRanges), ("strconv.ErrRange", Rows.laid_strconv_ErrRange), ("strconv.ErrSyntax", Rows.laid_strconv_ErrSyntax), ("unicode/utf8.first", Rows.laid_unicode_utf8_first)]
noncomputable def lowA : Nat := (World.holding Tryz.prog default ⟨#[], #[], []⟩).heap.size
noncomputable def laidWorldA (os : Os) : World :=
  let w0 := World.holding Tryz.prog os ⟨#[.cells #[.string ⟨⟨textSyn⟩⟩] 124, .cells #[.string ⟨⟨textRng⟩⟩] 124], #[], []⟩
  { w0 with heap := putAt (putAt (putAt (putAt (putAt (putAt (putAt w0.heap 6 (lit3 Rows.laid_math_bits_deBruijn32tab).toArray) 7 (lit3 Rows.laid_math_bits_deBruijn64tab).toArray) 3 (lit3 Rows.laid_internal_strconv_uint64pow10).toArray) 5 (lit3 Rows.laid_unicode_utf8_acceptRanges).toArray) 4 (lit3 Rows.laid_unicode_utf8_first).toArray) 1 #[.iface 122 (.pointer (some ⟨lowA, 0, none⟩))]) 2 #[.iface 122 (.pointer (some ⟨lowA + 1, 0, none⟩))] }
set_option maxRecDepth 100000 in
theorem laidWorldA_met (os : Os) (args : Array Value) : laidMet Tryz.prog laidA ((laidWorldA os).forCall (fun _ _ => 0) ⟨#[], args, []⟩).memory :=
  laidMet_of_run' 8 (by kernel_rfl) (by kernel_rfl)
theorem pow10_data : (Rows.laid_internal_strconv_uint64pow10 : DataW Unit) = Lib.tabData .u64 Lib.pow10Tab := by kernel_rfl
theorem row_err (u : TypeId) (h : Tryz.prog.typeName? 3 u = some "*errors.errorString") : u = 122 :=
  typeName_ptr_named (nm := "errors.errorString") (by rw [show "*" ++ "errors.errorString" = "*errors.errorString" by decide]; kernel_rfl) (by kernel_rfl) (by decide) u (by rw [show "*" ++ "errors.errorString" = "*errors.errorString" by decide]; exact h)
theorem laidA_gi {w : World} (h : laidMet Tryz.prog laidA w) (hsh : w.ShapedOpen Tryz.prog) : GI (fun b => b < w.heap.size) w := by
  have hp := h.tail.tail
  have hr := h.tail.tail.tail.tail
  have hs := hr.tail
  rw [pow10_data] at hp
  obtain ⟨a1, s1, hv1, _⟩ := laid_sentinel hr (g := 2) (by kernel_rfl) (by kernel_rfl) Tryz.underlying68 row_err Tryz.underlying122 Tryz.underlying124 rfl rfl Tryz.underlying9 (by kernel_rfl) (by kernel_rfl)
  obtain ⟨a2, s2, hv2, _⟩ := laid_sentinel hs (g := 1) (by kernel_rfl) (by kernel_rfl) Tryz.underlying68 row_err Tryz.underlying122 Tryz.underlying124 rfl rfl Tryz.underlying9 (by kernel_rfl) (by kernel_rfl)
  obtain ⟨m, hm⟩ := laysM145.s1_3 w hsh
  intro g p hg
  simp only [gtab, List.mem_cons, List.not_mem_nil, or_false, Prod.mk.injEq] at hg
  rcases hg with ⟨rfl, rfl⟩ | ⟨rfl, rfl⟩ | ⟨rfl, rfl⟩ | ⟨rfl, rfl⟩
  · exact gi_var (by kernel_rfl) (Lib.tabIs_of_head (g := 3) (by kernel_rfl) (by kernel_rfl) Tryz.underlying114 Tryz.underlying47 (by kernel_rfl) (by kernel_rfl) hp) rfl
  · exact gi_cellv hm (fun arr h => ⟨_, h, m, rfl⟩)
  · exact gi_var (by kernel_rfl) hv2 ⟨_, rfl, Or.inr ⟨_, _, rfl⟩⟩
  · exact gi_var (by kernel_rfl) hv1 ⟨_, rfl, Or.inr ⟨_, _, rfl⟩⟩
section
variable {H : Type} {enc : TypeId × Value → H}
theorem handed_laid {a : Assume} {C : Checked} {os : Os} {f : FuncId} {fn : Func} {s : ChangeSpec} {conds : List PathCond} {apart fresh handsOn again : Bool} {X : World → Array Value → Prop}
    (hX : ∀ (w w' : World) (args : Array Value), w.heap = w'.heap → X w args → X w' args)
    (own : ownKnob C.prog.godebug = none) (started : os.Started) (noInit : C.prog.inits.idxOf? f = none) (hfn : C.prog.funcs[f]? = some fn)
    (witness : ∃ (w : World) (tape : Tape) (i : Input), w.os = os ∧ (w.forCall tape i).Shaped C.prog ∧ i.vars = [] ∧ Input.okWide C.prog (w.forCall tape i) .any w.heap.size f i ∧
      ((s.pre enc C.prog fn conds apart (w.forCall tape i).memory i.args ∧ X (w.forCall tape i).memory i.args) ∧ sizedMet enc C.prog fn (OpenSpec.ofChange s) apart (w.forCall tape i).memory i.args) ∧ a.holds C.prog (lone (Frame.enter C.prog f i.args .normal) [] (w.forCall tape i)))
    (contract : ∀ (W : World) (base : Nat) (args : Array Value) (ds gs : List (DataW H)) (before : List MemPlace),
      (∀ (j : Nat) t v, fn.params[j]? = some t → args[j]? = some v → Value.okWide C.prog W .any base t v) →
      DataW.Whole enc C.prog fn.params.toList s.vars apart W args.toList ds gs before →
      conds.all (PathCond.test C.prog ⟨fn.params.toList, ds, s.plain.varTypes C.prog, gs⟩) = true →
      W.ShapedOpen C.prog → X W args →
      Calls C.prog f args W fun e W' => ∃ v, e = .returned v ∧ s.post enc C.prog fn apart fresh handsOn again W args v W') :
    ReturnsInHanded a C os f .any (fun w args => (s.pre enc C.prog fn conds apart w args ∧ X w args) ∧ sizedMet enc C.prog fn (OpenSpec.ofChange s) apart w args) (s.post enc C.prog fn apart fresh handsOn again) :=
  returnsInHanded_of_calls own started noInit witness fun w tape i _ hsh _ hok hpre _ => by
    obtain ⟨_, _, _, g, hg, _, _, _, _, hval⟩ := hok
    obtain rfl : g = fn := Option.some.inj (hg.symm.trans hfn)
    obtain ⟨⟨⟨ds, gs, before, hw, hc⟩, hx⟩, _⟩ := hpre
    refine (contract (w.forCall tape i) w.heap.size i.args ds gs before hval (DataW.Whole.of_heap (w' := w.forCall tape i) (by rfl) hw) hc hsh (hX _ _ _ (by rfl) hx)).mono fun e W' h => ?_
    obtain ⟨v, rfl, hp⟩ := h
    exact ChangeSpec.post_blind hp
end
end Go.Proofs.YtbboadheacmddaaGreatDoor
