/- What an image is, as data, and how it lies in memory. -/
import Derived.Test.YtcgfabnmkbiogaaDoorRowsK
namespace Go.Proofs.YtcgfabnmkbiogaaDoor
open Go.RowKit

/-- Names of one interface: by their address. -/
structure Fc where
  A : Option Addr
  l : List ByteArray
  c : Nat
structure Tab where
  face : Int
  A : Option Addr
  l : List Int
  c : Nat
structure Opr where
  k : Int
  a : Int
  b : Int
structure Lnk where
  glob : Int
  slot : Int
  bool : Bool
structure Desc where
  base : Int
  fields : ByteArray
  iA : Option Addr
  init : List Int
  ic : Nat
  vA : Option Addr
  vtab : List Int
  vc : Nat
  sA : Option Addr
  sigs : List ByteArray
  sc : Nat
  tA : Option Addr
  tabs : List Tab
  tc : Nat
structure Cod where
  cls : Int
  params : ByteArray
  locals : ByteArray
  ret : Bool
  stack : Int
  oA : Option Addr
  ops : List Opr
  oc : Nat
structure Img where
  fA : Option Addr
  faces : List Fc
  fc : Nat
  cA : Option Addr
  classes : List Desc
  cc : Nat
  dA : Option Addr
  codes : List Cod
  dc : Nat
  nA : Option Addr
  insts : List Int
  nc : Nat
  globals : ByteArray
  iA : Option Addr
  init : List Int
  ic : Nat
  bA : Option Addr
  blocks : List Int
  bc : Nat
  xA : Option Addr
  ins : List Lnk
  xc : Nat
  oA : Option Addr
  outs : List Lnk
  oc : Nat
  jA : Option Addr
  jobs : List Opr
  jc : Nat
  d : Int
  w : Int
def Fc.cells (x : Fc) : List Value := [.slice x.A x.l.length x.c]
def Tab.cells (x : Tab) : List Value := [.int .i64 x.face, .slice x.A x.l.length x.c]
def Opr.cells (x : Opr) : List Value := [.int .i64 x.k, .int .i64 x.a, .int .i64 x.b]
def Lnk.cells (x : Lnk) : List Value := [.int .i64 x.glob, .int .i64 x.slot, .bool x.bool]
def Desc.cells (x : Desc) : List Value := [.int .i64 x.base, .string x.fields, .slice x.iA x.init.length x.ic, .slice x.vA x.vtab.length x.vc, .slice x.sA x.sigs.length x.sc, .slice x.tA x.tabs.length x.tc]
def Cod.cells (x : Cod) : List Value := [.int .i64 x.cls, .string x.params, .string x.locals, .bool x.ret, .int .i64 x.stack, .slice x.oA x.ops.length x.oc]
def Img.cells (x : Img) : List Value := [.slice x.fA x.faces.length x.fc, .slice x.cA x.classes.length x.cc, .slice x.dA x.codes.length x.dc, .slice x.nA x.insts.length x.nc, .string x.globals, .slice x.iA x.init.length x.ic, .slice x.bA x.blocks.length x.bc, .slice x.xA x.ins.length x.xc, .slice x.oA x.outs.length x.oc, .slice x.jA x.jobs.length x.jc, .int .i64 x.d, .int .i64 x.w]
/-- How many there may be at all. -/
abbrev Lim : Nat := 9223372036854775807
def LNums (w : World) (B : Nat) (A : Option Addr) (l : List Int) : Prop := l.length ≤ Lim ∧ Rows w B 1 A (l.map fun n => [Value.int .i64 n])
def LTexts (w : World) (B : Nat) (A : Option Addr) (l : List ByteArray) : Prop := l.length ≤ Lim ∧ Rows w B 1 A (l.map fun s => [Value.string s])
def LOps (w : World) (B : Nat) (A : Option Addr) (l : List Opr) : Prop := l.length ≤ Lim ∧ Rows w B 3 A (l.map Opr.cells)
def LLnks (w : World) (B : Nat) (A : Option Addr) (l : List Lnk) : Prop := l.length ≤ Lim ∧ Rows w B 3 A (l.map Lnk.cells)
def Fc.At (w : World) (B : Nat) (x : Fc) : Prop := LTexts w B x.A x.l
def Tab.At (w : World) (B : Nat) (x : Tab) : Prop := LNums w B x.A x.l
def LTabs (w : World) (B : Nat) (A : Option Addr) (l : List Tab) : Prop := l.length ≤ Lim ∧ Rows w B 2 A (l.map Tab.cells) ∧ ∀ x ∈ l, Tab.At w B x
def LFcs (w : World) (B : Nat) (A : Option Addr) (l : List Fc) : Prop := l.length ≤ Lim ∧ Rows w B 1 A (l.map Fc.cells) ∧ ∀ x ∈ l, Fc.At w B x
def Desc.At (w : World) (B : Nat) (x : Desc) : Prop := LNums w B x.iA x.init ∧ LNums w B x.vA x.vtab ∧ LTexts w B x.sA x.sigs ∧ LTabs w B x.tA x.tabs
def Cod.At (w : World) (B : Nat) (x : Cod) : Prop := LOps w B x.oA x.ops
def LDescs (w : World) (B : Nat) (A : Option Addr) (l : List Desc) : Prop := l.length ≤ Lim ∧ Rows w B 6 A (l.map Desc.cells) ∧ ∀ x ∈ l, Desc.At w B x
def LCods (w : World) (B : Nat) (A : Option Addr) (l : List Cod) : Prop := l.length ≤ Lim ∧ Rows w B 6 A (l.map Cod.cells) ∧ ∀ x ∈ l, Cod.At w B x
structure Img.At (w : World) (B : Nat) (x : Img) : Prop where
  faces : LFcs w B x.fA x.faces
  classes : LDescs w B x.cA x.classes
  codes : LCods w B x.dA x.codes
  insts : LNums w B x.nA x.insts
  init : LNums w B x.iA x.init
  blocks : LNums w B x.bA x.blocks
  ins : LLnks w B x.xA x.ins
  outs : LLnks w B x.oA x.outs
  jobs : LOps w B x.jA x.jobs
section
variable {w w' : World} {B C : Nat} {A : Option Addr}
theorem LNums.below {l : List Int} (h : LNums w B A l) (hb : Below C w w') (hC : B ≤ C) : LNums w' B A l := ⟨h.1, h.2.below hb hC⟩
theorem LTexts.below {l : List ByteArray} (h : LTexts w B A l) (hb : Below C w w') (hC : B ≤ C) : LTexts w' B A l := ⟨h.1, h.2.below hb hC⟩
theorem LOps.below {l : List Opr} (h : LOps w B A l) (hb : Below C w w') (hC : B ≤ C) : LOps w' B A l := ⟨h.1, h.2.below hb hC⟩
theorem LLnks.below {l : List Lnk} (h : LLnks w B A l) (hb : Below C w w') (hC : B ≤ C) : LLnks w' B A l := ⟨h.1, h.2.below hb hC⟩
theorem Fc.At.below {x : Fc} (h : Fc.At w B x) (hb : Below C w w') (hC : B ≤ C) : Fc.At w' B x := LTexts.below h hb hC
theorem Tab.At.below {x : Tab} (h : Tab.At w B x) (hb : Below C w w') (hC : B ≤ C) : Tab.At w' B x := LNums.below h hb hC
theorem LTabs.below {l : List Tab} (h : LTabs w B A l) (hb : Below C w w') (hC : B ≤ C) : LTabs w' B A l := ⟨h.1, h.2.1.below hb hC, fun x hx => (h.2.2 x hx).below hb hC⟩
theorem LFcs.below {l : List Fc} (h : LFcs w B A l) (hb : Below C w w') (hC : B ≤ C) : LFcs w' B A l := ⟨h.1, h.2.1.below hb hC, fun x hx => (h.2.2 x hx).below hb hC⟩
theorem Desc.At.below {x : Desc} (h : Desc.At w B x) (hb : Below C w w') (hC : B ≤ C) : Desc.At w' B x := ⟨h.1.below hb hC, h.2.1.below hb hC, h.2.2.1.below hb hC, h.2.2.2.below hb hC⟩
theorem Cod.At.below {x : Cod} (h : Cod.At w B x) (hb : Below C w w') (hC : B ≤ C) : Cod.At w' B x := LOps.below h hb hC
theorem LDescs.below {l : List Desc} (h : LDescs w B A l) (hb : Below C w w') (hC : B ≤ C) : LDescs w' B A l := ⟨h.1, h.2.1.below hb hC, fun x hx => (h.2.2 x hx).below hb hC⟩
theorem LCods.below {l : List Cod} (h : LCods w B A l) (hb : Below C w w') (hC : B ≤ C) : LCods w' B A l := ⟨h.1, h.2.1.below hb hC, fun x hx => (h.2.2 x hx).below hb hC⟩
theorem Img.At.below {x : Img} (h : Img.At w B x) (hb : Below C w w') (hC : B ≤ C) : Img.At w' B x :=
  ⟨h.faces.below hb hC, h.classes.below hb hC, h.codes.below hb hC, h.insts.below hb hC, h.init.below hb hC, h.blocks.below hb hC, h.ins.below hb hC, h.outs.below hb hC, h.jobs.below hb hC⟩
/-- A row that is there: where its cells are. -/
theorem Rows.get {α : Type} {f : α → List Value} {sz : Nat} {l : List α} (h : Rows w B sz A (l.map f)) {k : Nat} {x : α} (hx : l[k]? = some x) :
    ∃ b off, A = some ⟨b, off, none⟩ ∧ b < B ∧ ∀ (j : Nat) v, (f x)[j]? = some v → w.cell? ⟨b, off + k * sz + j, none⟩ = some v := by
  obtain ⟨b, off, h1, h2, h3⟩ := h (by have := (List.getElem?_eq_some_iff.1 hx).1; simp; omega)
  exact ⟨b, off, h1, h2, fun j v hv => h3 k (f x) (by simp [hx]) j v hv⟩
end
end Go.Proofs.YtcgfabnmkbiogaaDoor
