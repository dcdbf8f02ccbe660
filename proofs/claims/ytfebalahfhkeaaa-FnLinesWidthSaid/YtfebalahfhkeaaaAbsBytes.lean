/- The abstract machine, part 18: bytes as a text. No conditions but those stated. -/
import Derived.Test.YtfebalahfhkeaaaAbsRx
import Derived.Laws.BytesString
namespace Go.Proofs.Ytfebalahfhkeaaa
open Go Go.RowKit
def byteC (b : UInt8) : List Cell := [.v (.int .u8 b.toNat)]
theorem foldl_push : ∀ (l : List UInt8) (s : ByteArray), (l.map fun b : UInt8 => ((b.toNat : Nat) : Int)).foldl (fun r n => r.push (UInt8.ofNat n.toNat)) s = ⟨⟨s.data.toList ++ l⟩⟩
  | [], s => by simp
  | b :: l, s => by
    rw [List.map_cons, List.foldl_cons, foldl_push l]
    simp [ByteArray.push]
section
variable {P : Program} {E : Env} {ops : Array Oper} {s : AS}
theorem StepOk.convBS {o : Oper} {x : Operand} {src dst e : Nat} {cx : Cell} {obs : List Nat} {news : List (List Cell)} {l : List UInt8} (ho : o.op = .convert src dst x) (hw : Want E ops o s) (hd : dstB o.dst E.n = true) (hxb : opB x = true)
    (hs : P.underlying src = some (.slice e)) (he : P.underlying e = some (.int .u8)) (ht : P.underlying dst = some .string) (hx : opA s x = .c cx) (hn : newsOf s cx = some (obs, news)) (hl : news = l.map byteC) (hne : l ≠ []) :
    StepOk P E ops o s (setU o.dst (.c (str l))) ⟨o.looksAt ops, obs⟩ := by
  refine StepOk.val hw hd (by simp [ho, Op.operands, hxb]) fun N I s' β a w hop hobs hr => ?_
  have h1 := hop x (by simp [ho, Op.operands])
  rw [hx] at h1
  have hsz : ∀ y ∈ news, y.length = 1 := by
    subst hl
    intro y hy
    obtain ⟨b, _, rfl⟩ := List.mem_map.1 hy
    rfl
  obtain ⟨ad, cap, hv, _, hcell⟩ := news_mem hr (show Rep I β w cx _ from h1) hn hobs (by subst hl; simpa using hne) hsz
  have hll : news.length = l.length := by rw [hl, List.length_map]
  have hload : (loadCells ad news.length).run P w = .ok ((l.map fun b : UInt8 => ((b.toNat : Nat) : Int)).map (Value.int .u8)).toArray w := by
    have h2 := run_loadCells_list (P := P) w ad (((l.map fun b : UInt8 => ((b.toNat : Nat) : Int)).map (Value.int .u8))) fun j v hj => by
      rw [List.map_map, List.getElem?_map] at hj
      cases hb : l[j]? with
      | none => rw [hb] at hj; cases hj
      | some b =>
        rw [hb] at hj
        cases hj
        obtain ⟨u, hu, hr⟩ := hcell j 0 (byteC b) (.v (.int .u8 b.toNat)) (by rw [hl, List.getElem?_map, hb]; rfl) rfl
        rw [Nat.mul_one, Nat.add_zero] at hu
        rw [hu, rep_v (x := .int .u8 b.toNat) (show RepV I β w (.c (.v _)) u from hr)]
        rfl
    rwa [List.length_map, List.length_map, ← hll] at h2
  refine ⟨.string ⟨⟨l⟩⟩, ?_, .imm (.v _ rfl)⟩
  have h3 := run_bytesToString (P := P) w ad news.length cap _ hload
  rw [foldl_push] at h3
  simp only [execOp, ho, hv, convert, Sem.run_bind, run_underlying hs, run_underlying ht, run_underlying he, Result.andThen, h3]
  rfl
variable {K : AS → Prop} {draw : Bool} {r : List Oper} {acc : List (Upd × Foot)} {tm : List (Nat × AVal)} {ob : List (Nat × Option AObj)} {nx d ty : Nat} {pos : String} {aft : Array Edge} {g : Option (Nat × Bool)}
theorem rx_convBS {T : List (Nat × TyI)} {src dst e sz bytes : Nat} {i j k : TyI} {x : Operand} {cx : Cell} {obs : List Nat} {news : List (List Cell)} (l : List UInt8) (hd : dstB (some d) E.n = true)
    (hx : opV tm x = some (.c cx)) (hT : TabOk P T) (hs : lk src T = some i) (he : i.elem = some (e, sz, bytes)) (hte : lk e T = some k) (hk : k.kind = some .u8) (ht : lk dst T = some j) (hj : j.isStr = true)
    (hn : newsOf ⟨tm, ob, nx⟩ cx = some (obs, news)) (hl : news = l.map byteC) (hne : l ≠ [])
    (h : regX P E ops K draw r ((setU (some d) (.c (str l)), ⟨(Oper.mk (some d) (.convert src dst x) ty pos aft g).looksAt ops, obs⟩) :: acc) ⟨(d, .c (str l)) :: tm, ob, nx⟩) : regY P E ops K draw ⟨some d, .convert src dst x, ty, pos, aft, g⟩ r acc ⟨tm, ob, nx⟩ := by
  refine ⟨fun hw => ?_⟩
  obtain ⟨x1, x2⟩ := opV_ok (ob := ob) (nx := nx) hx
  obtain ⟨_, _, hel, _⟩ := hT.elem hs he
  exact regX.cons _ _ (StepOk.convBS rfl hw hd x2 hel (hT.int hte hk) (hT.str ht hj) x1 hn hl hne) rfl h
end
end Go.Proofs.Ytfebalahfhkeaaa
