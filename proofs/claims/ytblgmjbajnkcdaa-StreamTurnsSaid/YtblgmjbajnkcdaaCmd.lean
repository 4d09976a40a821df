/-
  How messages and commands read: from the form's reading to numbers and strings. No program in sight but its types.
-/
import Derived.Test.YtblgmjbajnkcdaaBunA
import Derived.Test.YtblgmjbajnkcdaaStrTy
import Derived.KernelRfl
namespace Go.Proofs.Ytblgmjbajnkcdaa
open Go.RowKit Go.Deep Go.WideShapes Go.ChangeShapes

structure Msg where
  id : Int
  ga : Option Addr
  gn : Nat
  gc : Nat
  topic : Int
  key : ByteArray
  body : ByteArray
structure Cmd where
  kind : Int
  msg : Msg
  id : Int
  time : Int
  ma : Option Addr
  mn : Nat
  mc : Nat
  topic : Int
  who : Int
  n : Int
instance : Inhabited Msg := ⟨⟨0, none, 0, 0, 0, ⟨#[]⟩, ⟨#[]⟩⟩⟩
instance : Inhabited Cmd := ⟨⟨0, default, 0, 0, none, 0, 0, 0, 0, 0⟩⟩
def msgCells (m : Msg) : List Value := [.int .i64 m.id, .slice m.ga m.gn m.gc, .int .i64 m.topic, .string m.key, .string m.body]
def msgVal (m : Msg) : Value := .agg #[.int .i64 m.id, .slice m.ga m.gn m.gc, .int .i64 m.topic, .string m.key, .string m.body]
def cmdCells (c : Cmd) : List Value := [.int .u8 c.kind, .int .i64 c.msg.id, .slice c.msg.ga c.msg.gn c.msg.gc, .int .i64 c.msg.topic, .string c.msg.key, .string c.msg.body, .int .i64 c.id, .int .i64 c.time, .slice c.ma c.mn c.mc, .int .i64 c.topic, .int .i64 c.who, .int .i64 c.n]
def cmdVal (c : Cmd) : Value := .agg #[.int .u8 c.kind, .int .i64 c.msg.id, .slice c.msg.ga c.msg.gn c.msg.gc, .int .i64 c.msg.topic, .string c.msg.key, .string c.msg.body, .int .i64 c.id, .int .i64 c.time, .slice c.ma c.mn c.mc, .int .i64 c.topic, .int .i64 c.who, .int .i64 c.n]
def msgOk (m : Msg) : Prop := (ok64 m.id ∧ ok64 m.topic) ∧ m.key.size ≤ reachBytes ∧ m.body.size ≤ reachBytes
def cmdOk (c : Cmd) : Prop := ((Lit.int .u8 c.kind).wf = true ∧ msgOk c.msg) ∧ (ok64 c.topic ∧ ok64 c.who) ∧ ok64 c.n ∧ (ok64 c.id ∧ ok64 c.time)
theorem cmdCells_len (c : Cmd) : (cmdCells c).length = 12 := rfl

/-- The types that a message needs. -/
structure MsgTypes (P : Program) (t tl ti ts : TypeId) (f0 f1 f2 f3 f4 : Field) : Prop where
  ht : P.underlying t = some (.struct #[f0, f1, f2, f3, f4])
  hc : P.cellsOf t = 5
  hl : P.underlying tl = some (.slice ti)
  hcl : P.cellsOf tl = 1
  hi : P.underlying ti = some (.int .i64)
  hci : P.cellsOf ti = 1
  hs : P.underlying ts = some .string
  hcs : P.cellsOf ts = 1
  e0 : f0.type = ti ∧ f0.offset = 0
  e1 : f1.type = tl ∧ f1.offset = 1
  e2 : f2.type = ti ∧ f2.offset = 2
  e3 : f3.type = ts ∧ f3.offset = 3
  e4 : f4.type = ts ∧ f4.offset = 4
/-- The types that a command needs. -/
structure CmdTypes (P : Program) (t tm tk tl ti : TypeId) (f0 f1 f2 f3 f4 f5 f6 f7 : Field) : Prop where
  ht : P.underlying t = some (.struct #[f0, f1, f2, f3, f4, f5, f6, f7])
  hc : P.cellsOf t = 12
  hk : P.underlying tk = some (.int .u8)
  hck : P.cellsOf tk = 1
  e0 : f0.type = tk ∧ f0.offset = 0
  e1 : f1.type = tm ∧ f1.offset = 1
  e2 : f2.type = ti ∧ f2.offset = 6
  e3 : f3.type = ti ∧ f3.offset = 7
  e4 : f4.type = tl ∧ f4.offset = 8
  e5 : f5.type = ti ∧ f5.offset = 9
  e6 : f6.type = ti ∧ f6.offset = 10
  e7 : f7.type = ti ∧ f7.offset = 11

theorem Reads.msg {P : Program} {w : World} {t tl ti ts : TypeId} {cs : List Value} {f0 f1 f2 f3 f4 : Field} (h : Reads P w t cs) (T : MsgTypes P t tl ti ts f0 f1 f2 f3 f4) : ∃ m, cs = msgCells m ∧ msgOk m := by
  obtain ⟨hl, hf⟩ := h.struct T.ht
  rw [T.hc] at hl
  have r0 := hf 0 f0 rfl
  have r1 := hf 1 f1 rfl
  have r2 := hf 2 f2 rfl
  have r3 := hf 3 f3 rfl
  have r4 := hf 4 f4 rfl
  rw [T.e0.1, T.e0.2, T.hci] at r0
  rw [T.e1.1, T.e1.2, T.hcl] at r1
  rw [T.e2.1, T.e2.2, T.hci] at r2
  rw [T.e3.1, T.e3.2, T.hcs] at r3
  rw [T.e4.1, T.e4.2, T.hcs] at r4
  obtain ⟨a, ha, wa⟩ := r0.int T.hi
  obtain ⟨ga, gn, gc, hg, _⟩ := r1.slice T.hl (by rw [T.hci]; omega)
  obtain ⟨b, hb, wb⟩ := r2.int T.hi
  obtain ⟨s, hs', ws⟩ := r3.string T.hs
  obtain ⟨u, hu, wu⟩ := r4.string T.hs
  match cs, hl with
  | [c0, c1, c2, c3, c4], _ =>
    simp at ha hg hb hs' hu
    subst ha hg hb hs' hu
    exact ⟨⟨a, ga, gn, gc, b, s, u⟩, rfl, ⟨wa, wb⟩, ws, wu⟩
theorem Reads.cmd {P : Program} {w : World} {t tm tk tl ti ts : TypeId} {cs : List Value} {f0 f1 f2 f3 f4 f5 f6 f7 g0 g1 g2 g3 g4 : Field} (h : Reads P w t cs) (C : CmdTypes P t tm tk tl ti f0 f1 f2 f3 f4 f5 f6 f7) (T : MsgTypes P tm tl ti ts g0 g1 g2 g3 g4) : ∃ c, cs = cmdCells c ∧ cmdOk c := by
  obtain ⟨hl, hf⟩ := h.struct C.ht
  rw [C.hc] at hl
  have r0 := hf 0 f0 rfl
  have r1 := hf 1 f1 rfl
  have r2 := hf 2 f2 rfl
  have r3 := hf 3 f3 rfl
  have r4 := hf 4 f4 rfl
  have r5 := hf 5 f5 rfl
  have r6 := hf 6 f6 rfl
  have r7 := hf 7 f7 rfl
  rw [C.e0.1, C.e0.2, C.hck] at r0
  rw [C.e1.1, C.e1.2, T.hc] at r1
  rw [C.e2.1, C.e2.2, T.hci] at r2
  rw [C.e3.1, C.e3.2, T.hci] at r3
  rw [C.e4.1, C.e4.2, T.hcl] at r4
  rw [C.e5.1, C.e5.2, T.hci] at r5
  rw [C.e6.1, C.e6.2, T.hci] at r6
  rw [C.e7.1, C.e7.2, T.hci] at r7
  obtain ⟨k, hk, wk⟩ := r0.int C.hk
  obtain ⟨m, hm, wm⟩ := r1.msg T
  obtain ⟨a, ha, wa⟩ := r2.int T.hi
  obtain ⟨b, hb, wb⟩ := r3.int T.hi
  obtain ⟨ga, gn, gc, hg, _⟩ := r4.slice T.hl (by rw [T.hci]; omega)
  obtain ⟨t', ht', wt'⟩ := r5.int T.hi
  obtain ⟨u, hu, wu⟩ := r6.int T.hi
  obtain ⟨n, hn, wn⟩ := r7.int T.hi
  match cs, hl with
  | [c0, c1, c2, c3, c4, c5, c6, c7, c8, c9, c10, c11], _ =>
    simp [msgCells] at hk hm ha hb hg ht' hu hn
    obtain ⟨rfl, rfl, rfl, rfl, rfl⟩ := hm
    subst hk ha hb hg ht' hu hn
    exact ⟨⟨k, m, a, b, ga, gn, gc, t', u, n⟩, rfl, ⟨wk, wm⟩, ⟨wt', wu⟩, wn, wa, wb⟩

theorem open_msg {P : Program} {w : World} {r : Reach} {base : Nat} {t tl ti ts : TypeId} {v : Value} {H : Type} {enc : TypeId × Value → H} {sp : Nat → Bool} {d : DataW H} {ps : List MemPlace} {f0 f1 f2 f3 f4 : Field}
    (hv : Value.okWide P w r base t v) (h : DataW.Trod enc P w 0 sp true t v d ps) (hw : ∀ n ∈ d.weights P t, n ≤ reachBytes) (T : MsgTypes P t tl ti ts f0 f1 f2 f3 f4) : ∃ m, v = msgVal m ∧ msgOk m := by
  obtain ⟨cs, rfl, _⟩ := okWide_struct T.ht hv
  obtain ⟨x, hx, ox⟩ := (reads_of_trod h hw).msg T
  refine ⟨x, ?_, ox⟩
  have : cs = (msgCells x).toArray := by
    have h2 : (Value.agg cs).cells = cs := rfl
    rw [h2] at hx
    rw [← hx]
  rw [this]; rfl
theorem open_cmd {P : Program} {w : World} {r : Reach} {base : Nat} {t tm tk tl ti ts : TypeId} {v : Value} {H : Type} {enc : TypeId × Value → H} {sp : Nat → Bool} {d : DataW H} {ps : List MemPlace} {f0 f1 f2 f3 f4 f5 f6 f7 g0 g1 g2 g3 g4 : Field}
    (hv : Value.okWide P w r base t v) (h : DataW.Trod enc P w 0 sp true t v d ps) (hw : ∀ n ∈ d.weights P t, n ≤ reachBytes) (C : CmdTypes P t tm tk tl ti f0 f1 f2 f3 f4 f5 f6 f7) (T : MsgTypes P tm tl ti ts g0 g1 g2 g3 g4) : ∃ c, v = cmdVal c ∧ cmdOk c := by
  obtain ⟨cs, rfl, _⟩ := okWide_struct C.ht hv
  obtain ⟨x, hx, ox⟩ := (reads_of_trod h hw).cmd C T
  refine ⟨x, ?_, ox⟩
  have : cs = (cmdCells x).toArray := by
    have h2 : (Value.agg cs).cells = cs := rfl
    rw [h2] at hx
    rw [← hx]
  rw [this]; rfl
theorem open_cmds {P : Program} {w : World} {r : Reach} {base : Nat} {t tc tm tk tl ti ts : TypeId} {v : Value} {H : Type} {enc : TypeId × Value → H} {sp : Nat → Bool} {d : DataW H} {ps : List MemPlace} {f0 f1 f2 f3 f4 f5 f6 f7 g0 g1 g2 g3 g4 : Field}
    (hv : Value.okWide P w r base t v) (h : DataW.Trod enc P w 0 sp true t v d ps) (hw : ∀ n ∈ d.weights P t, n ≤ reachBytes) (hs : P.underlying t = some (.slice tc)) (C : CmdTypes P tc tm tk tl ti f0 f1 f2 f3 f4 f5 f6 f7) (T : MsgTypes P tm tl ti ts g0 g1 g2 g3 g4) : ∃ l, SliceR w v 12 cmdCells l ∧ ∀ c ∈ l, cmdOk c := by
  obtain ⟨a, n, c, rfl⟩ := okWide_slice hs hv
  obtain ⟨v', l, h1, h2, _, h3⟩ := (reads_of_trod h hw).list 12 cmdCells cmdOk hs C.hc (by omega) (fun ds hd => hd.cmd C T)
  have h4 : (Value.slice a n c).cells.toList = [Value.slice a n c] := rfl
  rw [h4] at h1
  simp at h1
  exact ⟨l, h1 ▸ h2, h3⟩
theorem cells_msg : Try.prog.cellsOf 50 = 5 := by kernel_rfl
theorem cells_cmd : Try.prog.cellsOf 52 = 12 := by kernel_rfl
theorem cells_u8 : Try.prog.cellsOf 5 = 1 := by kernel_rfl
end Go.Proofs.Ytblgmjbajnkcdaa
