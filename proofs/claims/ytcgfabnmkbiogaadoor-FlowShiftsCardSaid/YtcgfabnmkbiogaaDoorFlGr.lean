/- What GreatImage lets by is small. -/
import Derived.Test.YtcgfabnmkbiogaaDoorFlA
import Derived.LoopTactic
import Derived.WalkKit
import Derived.WalkSpells
import Derived.WalkLawsBesides
import Derived.LoopTactic
import Derived.Deep.QuietTactic
import Derived.BigQuiet
import Derived.Below
import Derived.Laws.ResultCell
import Derived.Laws.Tables
import Derived.Laws.Rows
import Derived.Deep.Cut
import Derived.KernelRfl
namespace Go.Proofs.YtcgfabnmkbiogaaDoor
open Go.RowKit

theorem below_drewN' {B : Nat} {a w : World} (h : Below B a w) (n : Nat) : Below B a (w.drewN n) := ⟨h.os, h.tape, h.output, h.size, h.block⟩
/-- Are these texts more than is gone through? -/
def textsGo (m l : Int) : List ByteArray → Bool
  | [] => false
  | s :: r => decide (l < (s.size : Int)) || textsGo m l r
def Gr.texts (fs : List ByteArray) (m l : Int) : Bool := if (fs.length : Int) ≤ m then textsGo m l fs else true
set_option maxRecDepth 100000 in
set_option maxHeartbeats 1000000 in
theorem greatTexts_is (A : Option Addr) (B cap : Nat) (fs : List ByteArray) (m l : Int) (r : Bool) (w : World) (hr : Gr.texts fs m l = r) (h : Rows w B 1 A (fs.map fun s => [Value.string s])) (hl : fs.length ≤ 9223372036854775807) :
    Calls Tryd.prog 15 #[.slice A fs.length cap, .int .i64 m, .int .i64 l] w fun e w' => e = .returned (.bool r) ∧ w = w' := by
  have H := Aid.hid h
  clear h
  by_cases hm : (fs.length : Int) ≤ m
  · have HR : Hid (textsGo m l fs = r) := Aid.hid (by unfold Gr.texts at hr; rwa [if_pos hm] at hr)
    clear hr
    go_enter Tryd.func15, Tryd.ntmps15
    try simp only [List.append_eq, List.cons_append, List.nil_append]
    go_wp2_with fail
    go_loopw [7] (fun i wr => ∃ k : Nat, i = .int .i64 k ∧ k ≤ fs.length ∧ Hid (textsGo m l (fs.drop k) = r) ∧ wr = w) (fun i _ => fs.length - (intOf i).toNat)
    case atStart => exact ⟨0, rfl, Nat.zero_le _, HR, rfl⟩
    case round =>
      obtain ⟨k, rfl, hk, HK, rfl⟩ := hrel
      by_cases hlt : k < fs.length
      · obtain ⟨b, off, rfl, _, hc⟩ := H.out (by simpa using Nat.lt_of_le_of_lt (Nat.zero_le _) hlt)
        obtain ⟨s, hs⟩ : ∃ s, fs[k]? = some s := ⟨_, List.getElem?_eq_getElem hlt⟩
        have c0 := hc k [.string s] (by simp [hs]) 0 _ rfl
        simp only [Nat.mul_one, Nat.add_zero] at c0
        have hd : fs.drop k = s :: fs.drop (k + 1) := by
          obtain ⟨h1, h2⟩ := List.getElem?_eq_some_iff.1 hs
          rw [← h2, List.getElem_cons_drop h1]
        have HD : Hid ((decide (l < (s.size : Int)) || textsGo m l (fs.drop (k + 1))) = r) := Aid.hid (by have := HK.out; rw [hd] at this; exact this)
        clear hc hs hd HK
        by_cases hq : l < (s.size : Int)
        · obtain rfl : true = r := by have := HD.out; simpa [hq] using this
          go_wp2_with fail
          go_ret
          exact ⟨rfl, rfl⟩
        · have hq2 : decide (l < (s.size : Int)) = false := by simpa using hq
          have HE : Hid (textsGo m l (fs.drop (k + 1)) = r) := Aid.hid (by have := HD.out; rwa [hq2, Bool.false_or] at this)
          go_wp2_with fail
          go_roundw
          case rel => exact ⟨k + 1, by go_num, by omega, HE, trivial⟩
          case measure => simp [intOf]; omega
      · obtain rfl : false = r := by have := HK.out; rwa [List.drop_eq_nil_of_le (by omega)] at this
        have hm2 : decide (m < (fs.length : Int)) = false := by simpa using hm
        go_wp2_with fail
        go_ret
        exact ⟨rfl, rfl⟩
  · obtain rfl : true = r := by unfold Gr.texts at hr; rwa [if_neg hm] at hr
    have hm2 : decide ((fs.length : Int) ≤ m) = false := by simpa using hm
    have hm3 : m < (fs.length : Int) := by omega
    go_enter Tryd.func15, Tryd.ntmps15
    try simp only [List.append_eq, List.cons_append, List.nil_append]
    go_wp2_with fail
    refine wp_loop_rounds 1 ?_
    rw [rounds_succ]
    by_cases h0 : 0 < fs.length
    · go_wp2_with fail
      go_ret
      exact ⟨rfl, rfl⟩
    · go_wp2_with fail
      go_ret
      exact ⟨rfl, rfl⟩

/-- What is not too great. -/
def Txts (l : List ByteArray) : Prop := l.length ≤ 60 ∧ ∀ s ∈ l, s.size ≤ 60
def Desc.Small (x : Desc) : Prop := x.fields.size ≤ 60 ∧ x.init.length ≤ 60 ∧ x.vtab.length ≤ 60 ∧ Txts x.sigs ∧ x.tabs.length ≤ 60 ∧ ∀ t ∈ x.tabs, t.l.length ≤ 60
def Cod.Small (x : Cod) : Prop := x.params.size ≤ 60 ∧ x.locals.size ≤ 60 ∧ x.ops.length ≤ 200
structure Img.Small (x : Img) : Prop where
  faces : x.faces.length ≤ 60 ∧ ∀ f ∈ x.faces, Txts f.l
  classes : x.classes.length ≤ 60 ∧ ∀ d ∈ x.classes, d.Small
  codes : x.codes.length ≤ 60 ∧ ∀ c ∈ x.codes, c.Small
  insts : x.insts.length ≤ 60
  globals : x.globals.size ≤ 60
  init : x.init.length ≤ 60
  blocks : x.blocks.length ≤ 60
  ins : x.ins.length ≤ 60
  outs : x.outs.length ≤ 60
  jobs : x.jobs.length ≤ 60
theorem textsGo_size {m l : Int} : ∀ {xs : List ByteArray}, textsGo m l xs = false → ∀ s ∈ xs, (s.size : Int) ≤ l
  | [], _, s, h => by simp at h
  | y :: r, e, s, h => by
    simp only [textsGo, Bool.or_eq_false_iff, decide_eq_false_iff_not] at e
    rcases List.mem_cons.1 h with rfl | h
    · omega
    · exact textsGo_size e.2 s h
theorem Gr.texts_small {fs : List ByteArray} {m l : Int} (h : Gr.texts fs m l = false) (hm : m ≤ 60) (hl : l ≤ 60) : Txts fs := by
  unfold Gr.texts at h
  by_cases e : (fs.length : Int) ≤ m
  · rw [if_pos e] at h
    exact ⟨by omega, fun s hs => by have := textsGo_size h s hs; omega⟩
  · rw [if_neg e] at h; cases h
/-- All of so many. -/
def Upto {α : Type} (q : α → Prop) (l : List α) (k : Nat) : Prop := ∀ j, j < k → ∀ x, l[j]? = some x → q x
theorem Upto.zero {α : Type} (q : α → Prop) (l : List α) : Upto q l 0 := fun _ h => absurd h (by omega)
theorem Upto.next {α : Type} {q : α → Prop} {l : List α} {k : Nat} (h : Upto q l k) {x : α} (hx : l[k]? = some x) (hq : q x) : Upto q l (k + 1) := fun j hj y hy => by
  by_cases e : j = k
  · subst e; rw [hx] at hy; cases hy; exact hq
  · exact h j (by omega) y hy
theorem Upto.all {α : Type} {q : α → Prop} {l : List α} {k : Nat} (h : Upto q l k) (hk : l.length ≤ k) : ∀ x ∈ l, q x := fun x hx => by
  obtain ⟨j, hj⟩ := List.mem_iff_getElem?.1 hx
  exact h j (by have := (List.getElem?_eq_some_iff.1 hj).1; omega) x hj
def mx (a b : Int) : Int := if b > a then b else a
theorem mx_le (a b : Int) : a ≤ mx a b ∧ b ≤ mx a b := by unfold mx; split <;> omega
theorem max9 (P : Program) (ts : Array TypeId) (t : TypeId) (w : World) (a b c d e f g h i : Int) :
    (Builtin.max_ ts t #[.int .i64 a, .int .i64 b, .int .i64 c, .int .i64 d, .int .i64 e, .int .i64 f, .int .i64 g, .int .i64 h, .int .i64 i]).run P w = .ok (.int .i64 (mx (mx (mx (mx (mx (mx (mx (mx a b) c) d) e) f) g) h) i)) w := by
  simp [Builtin.max_, Builtin.max2, mx]
theorem max9_le (a b c d e f g h i m : Int) (hh : mx (mx (mx (mx (mx (mx (mx (mx a b) c) d) e) f) g) h) i ≤ m) : a ≤ m ∧ b ≤ m ∧ c ≤ m ∧ d ≤ m ∧ e ≤ m ∧ f ≤ m ∧ g ≤ m ∧ h ≤ m ∧ i ≤ m := by
  have h1 := mx_le a b
  have h2 := mx_le (mx a b) c
  have h3 := mx_le (mx (mx a b) c) d
  have h4 := mx_le (mx (mx (mx a b) c) d) e
  have h5 := mx_le (mx (mx (mx (mx a b) c) d) e) f
  have h6 := mx_le (mx (mx (mx (mx (mx a b) c) d) e) f) g
  have h7 := mx_le (mx (mx (mx (mx (mx (mx a b) c) d) e) f) g) h
  have h8 := mx_le (mx (mx (mx (mx (mx (mx (mx a b) c) d) e) f) g) h) i
  omega
theorem max3 (P : Program) (ts : Array TypeId) (t : TypeId) (w : World) (a b c : Int) :
    (Builtin.max_ ts t #[.int .i64 a, .int .i64 b, .int .i64 c]).run P w = .ok (.int .i64 (mx (mx a b) c)) w := by
  simp [Builtin.max_, Builtin.max2, mx]
theorem max2 (P : Program) (ts : Array TypeId) (t : TypeId) (w : World) (a b : Int) :
    (Builtin.max_ ts t #[.int .i64 a, .int .i64 b]).run P w = .ok (.int .i64 (mx a b)) w := by
  simp [Builtin.max_, Builtin.max2, mx]
/-- What GreatImage answers. -/
def GI (x : Img) (e : Ending) : Prop := ∃ b : Bool, e = .returned (.bool b) ∧ (b = false → Img.Small x)
theorem GI.yes (x : Img) {e : Ending} (h : e = .returned (.bool true)) : GI x e := ⟨true, h, fun h => by cases h⟩
set_option maxRecDepth 100000 in
set_option maxHeartbeats 2000000 in
theorem great_is (B : Nat) (x : Img) (w : World) (hx : Img.At w B x) (hB : B ≤ w.heap.size) :
    Calls Tryd.prog 12 #[.agg #[.slice x.fA x.faces.length x.fc, .slice x.cA x.classes.length x.cc, .slice x.dA x.codes.length x.dc, .slice x.nA x.insts.length x.nc, .string x.globals, .slice x.iA x.init.length x.ic, .slice x.bA x.blocks.length x.bc, .slice x.xA x.ins.length x.xc, .slice x.oA x.outs.length x.oc, .slice x.jA x.jobs.length x.jc, .int .i64 x.d, .int .i64 x.w]] w fun e w' => GI x e ∧ Below w.heap.size w w' := by
  obtain ⟨M, hM, hle⟩ : ∃ M : Int, (∀ (ts : Array TypeId) (t : TypeId) (w : World), (Builtin.max_ ts t #[.int .i64 (x.faces.length : Int), .int .i64 (x.classes.length : Int), .int .i64 (x.codes.length : Int), .int .i64 (x.insts.length : Int), .int .i64 (x.init.length : Int), .int .i64 (x.blocks.length : Int), .int .i64 (x.ins.length : Int), .int .i64 (x.outs.length : Int), .int .i64 (x.jobs.length : Int)]).run Tryd.prog w = .ok (.int .i64 M) w) ∧ (M ≤ 40 → (x.faces.length : Int) ≤ 40 ∧ (x.classes.length : Int) ≤ 40 ∧ (x.codes.length : Int) ≤ 40 ∧ (x.insts.length : Int) ≤ 40 ∧ (x.init.length : Int) ≤ 40 ∧ (x.blocks.length : Int) ≤ 40 ∧ (x.ins.length : Int) ≤ 40 ∧ (x.outs.length : Int) ≤ 40 ∧ (x.jobs.length : Int) ≤ 40) := ⟨_, fun ts t w => max9 _ ts t w _ _ _ _ _ _ _ _ _, fun h => max9_le _ _ _ _ _ _ _ _ _ 40 h⟩
  have HLE := Aid.hid hle
  clear hle
  have hb := Aid.Has.new w [.slice x.fA x.faces.length x.fc, .slice x.cA x.classes.length x.cc, .slice x.dA x.codes.length x.dc, .slice x.nA x.insts.length x.nc, .string x.globals, .slice x.iA x.init.length x.ic, .slice x.bA x.blocks.length x.bc, .slice x.xA x.ins.length x.xc, .slice x.oA x.outs.length x.oc, .slice x.jA x.jobs.length x.jc, .int .i64 x.d, .int .i64 x.w] 35
  have b0 : Below w.heap.size w (w.alloc (.cells #[.slice x.fA x.faces.length x.fc, .slice x.cA x.classes.length x.cc, .slice x.dA x.codes.length x.dc, .slice x.nA x.insts.length x.nc, .string x.globals, .slice x.iA x.init.length x.ic, .slice x.bA x.blocks.length x.bc, .slice x.xA x.ins.length x.xc, .slice x.oA x.outs.length x.oc, .slice x.jA x.jobs.length x.jc, .int .i64 x.d, .int .i64 x.w] 35)) := (Below.refl _ w).alloc (Nat.le_refl _) _
  have sz : w.heap.size ≤ (w.alloc (.cells #[.slice x.fA x.faces.length x.fc, .slice x.cA x.classes.length x.cc, .slice x.dA x.codes.length x.dc, .slice x.nA x.insts.length x.nc, .string x.globals, .slice x.iA x.init.length x.ic, .slice x.bA x.blocks.length x.bc, .slice x.xA x.ins.length x.xc, .slice x.oA x.outs.length x.oc, .slice x.jA x.jobs.length x.jc, .int .i64 x.d, .int .i64 x.w] 35)).heap.size := b0.size
  have RX : Hid (∀ wr, Below (w.alloc (.cells #[.slice x.fA x.faces.length x.fc, .slice x.cA x.classes.length x.cc, .slice x.dA x.codes.length x.dc, .slice x.nA x.insts.length x.nc, .string x.globals, .slice x.iA x.init.length x.ic, .slice x.bA x.blocks.length x.bc, .slice x.xA x.ins.length x.xc, .slice x.oA x.outs.length x.oc, .slice x.jA x.jobs.length x.jc, .int .i64 x.d, .int .i64 x.w] 35)).heap.size (w.alloc (.cells #[.slice x.fA x.faces.length x.fc, .slice x.cA x.classes.length x.cc, .slice x.dA x.codes.length x.dc, .slice x.nA x.insts.length x.nc, .string x.globals, .slice x.iA x.init.length x.ic, .slice x.bA x.blocks.length x.bc, .slice x.xA x.ins.length x.xc, .slice x.oA x.outs.length x.oc, .slice x.jA x.jobs.length x.jc, .int .i64 x.d, .int .i64 x.w] 35)) wr → Aid.Has wr w.heap.size [.slice x.fA x.faces.length x.fc, .slice x.cA x.classes.length x.cc, .slice x.dA x.codes.length x.dc, .slice x.nA x.insts.length x.nc, .string x.globals, .slice x.iA x.init.length x.ic, .slice x.bA x.blocks.length x.bc, .slice x.xA x.ins.length x.xc, .slice x.oA x.outs.length x.oc, .slice x.jA x.jobs.length x.jc, .int .i64 x.d, .int .i64 x.w] 35 ∧ Img.At wr B x) := Aid.hid fun wr h => ⟨hb.below h hb.lt, (hx.below b0 hB).below h (Nat.le_trans hB sz)⟩
  have SZ := Aid.hid sz
  have KW : Hid (Below (w.alloc (.cells #[.slice x.fA x.faces.length x.fc, .slice x.cA x.classes.length x.cc, .slice x.dA x.codes.length x.dc, .slice x.nA x.insts.length x.nc, .string x.globals, .slice x.iA x.init.length x.ic, .slice x.bA x.blocks.length x.bc, .slice x.xA x.ins.length x.xc, .slice x.oA x.outs.length x.oc, .slice x.jA x.jobs.length x.jc, .int .i64 x.d, .int .i64 x.w] 35)).heap.size (w.alloc (.cells #[.slice x.fA x.faces.length x.fc, .slice x.cA x.classes.length x.cc, .slice x.dA x.codes.length x.dc, .slice x.nA x.insts.length x.nc, .string x.globals, .slice x.iA x.init.length x.ic, .slice x.bA x.blocks.length x.bc, .slice x.xA x.ins.length x.xc, .slice x.oA x.outs.length x.oc, .slice x.jA x.jobs.length x.jc, .int .i64 x.d, .int .i64 x.w] 35)) (w.alloc (.cells #[.slice x.fA x.faces.length x.fc, .slice x.cA x.classes.length x.cc, .slice x.dA x.codes.length x.dc, .slice x.nA x.insts.length x.nc, .string x.globals, .slice x.iA x.init.length x.ic, .slice x.bA x.blocks.length x.bc, .slice x.xA x.ins.length x.xc, .slice x.oA x.outs.length x.oc, .slice x.jA x.jobs.length x.jc, .int .i64 x.d, .int .i64 x.w] 35))) := Aid.hid (Below.refl _ _)
  have FB : Hid (∀ wr, Below (w.alloc (.cells #[.slice x.fA x.faces.length x.fc, .slice x.cA x.classes.length x.cc, .slice x.dA x.codes.length x.dc, .slice x.nA x.insts.length x.nc, .string x.globals, .slice x.iA x.init.length x.ic, .slice x.bA x.blocks.length x.bc, .slice x.xA x.ins.length x.xc, .slice x.oA x.outs.length x.oc, .slice x.jA x.jobs.length x.jc, .int .i64 x.d, .int .i64 x.w] 35)).heap.size (w.alloc (.cells #[.slice x.fA x.faces.length x.fc, .slice x.cA x.classes.length x.cc, .slice x.dA x.codes.length x.dc, .slice x.nA x.insts.length x.nc, .string x.globals, .slice x.iA x.init.length x.ic, .slice x.bA x.blocks.length x.bc, .slice x.xA x.ins.length x.xc, .slice x.oA x.outs.length x.oc, .slice x.jA x.jobs.length x.jc, .int .i64 x.d, .int .i64 x.w] 35)) wr → Below w.heap.size w wr) := Aid.hid fun wr h => b0.trans (h.mono sz)
  clear hx hb b0 sz
  by_cases h1 : 40 < M
  · go_enter Tryd.func12, Tryd.ntmps12
    try simp only [List.append_eq, List.cons_append, List.nil_append]
    go_wp2_with fail
    go_ret
    exact ⟨GI.yes x rfl, FB.out _ KW.out⟩
  · by_cases h2 : 60 < (x.globals.size : Int)
    · go_enter Tryd.func12, Tryd.ntmps12
      try simp only [List.append_eq, List.cons_append, List.nil_append]
      go_wp2_with fail
      go_ret
      exact ⟨GI.yes x rfl, FB.out _ KW.out⟩
    · have LE := Aid.hid (HLE.out (by omega))
      have G0 : Hid (x.globals.size ≤ 60) := Aid.hid (by omega)
      go_enter Tryd.func12, Tryd.ntmps12
      try simp only [List.append_eq, List.cons_append, List.nil_append]
      go_wp2_with fail
      clear hM h1 h2 HLE
      have ll : x.faces.length ≤ 40 := by have := LE.out; omega
      go_loopw [3] (fun i wr => ∃ k : Nat, i = .int .i64 k ∧ k ≤ x.faces.length ∧ Hid (Upto (fun f => Txts f.l) x.faces k) ∧ Hid (Below (w.alloc (.cells #[.slice x.fA x.faces.length x.fc, .slice x.cA x.classes.length x.cc, .slice x.dA x.codes.length x.dc, .slice x.nA x.insts.length x.nc, .string x.globals, .slice x.iA x.init.length x.ic, .slice x.bA x.blocks.length x.bc, .slice x.xA x.ins.length x.xc, .slice x.oA x.outs.length x.oc, .slice x.jA x.jobs.length x.jc, .int .i64 x.d, .int .i64 x.w] 35)).heap.size (w.alloc (.cells #[.slice x.fA x.faces.length x.fc, .slice x.cA x.classes.length x.cc, .slice x.dA x.codes.length x.dc, .slice x.nA x.insts.length x.nc, .string x.globals, .slice x.iA x.init.length x.ic, .slice x.bA x.blocks.length x.bc, .slice x.xA x.ins.length x.xc, .slice x.oA x.outs.length x.oc, .slice x.jA x.jobs.length x.jc, .int .i64 x.d, .int .i64 x.w] 35)) wr)) (fun i _ => x.faces.length - (intOf i).toNat)
      case atStart => exact ⟨0, rfl, Nat.zero_le _, Aid.hid (Upto.zero _ _), KW⟩
      case round =>
        clear KW
        obtain ⟨k, rfl, hk, EK, KW⟩ := hrel
        have fx := RX.out _ KW.out
        by_cases hlt : k < x.faces.length
        · obtain ⟨p, hp⟩ : ∃ p, x.faces[k]? = some p := ⟨_, List.getElem?_eq_getElem hlt⟩
          obtain ⟨p1, o1, hA, hb1, hc1⟩ := Rows.get (fx.2.faces).2.1 hp
          have sw := Nat.le_trans SZ.out KW.out.size
          have lt1 : p1 < wr.heap.size := by omega
          have XA := Aid.hid ((fx.2.faces).2.2 p (List.mem_of_getElem? hp))
          have a0 := fx.1.cell 0 _ rfl
          rw [hA] at a0
          have c0 := hc1 0 _ rfl
          simp only [Nat.mul_one, Nat.add_zero] at c0
          have NX : Hid (Txts p.l → Upto (fun f : Fc => Txts f.l) x.faces (k + 1)) := Aid.hid (fun h => Upto.next EK.out hp h)
          clear hc1 hA fx hp EK
          obtain ⟨r, hr⟩ : ∃ r, Gr.texts p.l 20 60 = r := ⟨_, rfl⟩
          have HC := Aid.hid (greatTexts_is p.A B p.c p.l 20 60 r wr hr XA.out.2 XA.out.1)
          have HR := Aid.hid hr
          clear hr
          go_wp2_with fail
          go_at_call 15
          refine HC.out.mono ?_
          rintro e w1 ⟨rfl, rfl⟩
          clear HC
          cases r
          · have NR := Aid.hid (NX.out (Gr.texts_small HR.out (by decide) (by decide)))
            clear NX
            go_wp2_with fail
            go_roundw
            case rel => exact ⟨k + 1, by go_num, by omega, NR, KW⟩
            case measure => simp [intOf]; omega
          · clear NX
            go_wp2_with fail
            go_ret
            exact ⟨GI.yes x rfl, FB.out _ KW.out⟩
        · have SF : Hid (∀ f ∈ x.faces, Txts f.l) := Aid.hid (EK.out.all (by omega))
          have a0 := fx.1.cell 0 _ rfl
          clear fx EK ll
          go_wp2_with fail
          clear a0 hlt hk
          have ll : x.classes.length ≤ 40 := by have := LE.out; omega
          go_loopw [4] (fun i wr => ∃ k : Nat, i = .int .i64 k ∧ k ≤ x.classes.length ∧ Hid (Upto Desc.Small x.classes k) ∧ Hid (Below (w.alloc (.cells #[.slice x.fA x.faces.length x.fc, .slice x.cA x.classes.length x.cc, .slice x.dA x.codes.length x.dc, .slice x.nA x.insts.length x.nc, .string x.globals, .slice x.iA x.init.length x.ic, .slice x.bA x.blocks.length x.bc, .slice x.xA x.ins.length x.xc, .slice x.oA x.outs.length x.oc, .slice x.jA x.jobs.length x.jc, .int .i64 x.d, .int .i64 x.w] 35)).heap.size (w.alloc (.cells #[.slice x.fA x.faces.length x.fc, .slice x.cA x.classes.length x.cc, .slice x.dA x.codes.length x.dc, .slice x.nA x.insts.length x.nc, .string x.globals, .slice x.iA x.init.length x.ic, .slice x.bA x.blocks.length x.bc, .slice x.xA x.ins.length x.xc, .slice x.oA x.outs.length x.oc, .slice x.jA x.jobs.length x.jc, .int .i64 x.d, .int .i64 x.w] 35)) wr)) (fun i _ => x.classes.length - (intOf i).toNat)
          case atStart => exact ⟨0, rfl, Nat.zero_le _, Aid.hid (Upto.zero _ _), KW⟩
          case round =>
            clear KW
            obtain ⟨k, rfl, hk, EK, KW⟩ := hrel
            have fx := RX.out _ KW.out
            by_cases hlt : k < x.classes.length
            · obtain ⟨p, hp⟩ : ∃ p, x.classes[k]? = some p := ⟨_, List.getElem?_eq_getElem hlt⟩
              obtain ⟨p1, o1, hA, hb1, hc1⟩ := Rows.get (fx.2.classes).2.1 hp
              have sw := Nat.le_trans SZ.out KW.out.size
              have lt1 : p1 < wr.heap.size := by omega
              have XA := Aid.hid ((fx.2.classes).2.2 p (List.mem_of_getElem? hp))
              have a1 := fx.1.cell 1 _ rfl
              rw [hA] at a1
              have c0 := hc1 0 _ rfl
              have c1 := hc1 1 _ rfl
              have c2 := hc1 2 _ rfl
              have c3 := hc1 3 _ rfl
              have c4 := hc1 4 _ rfl
              have c5 := hc1 5 _ rfl
              simp only [Nat.mul_one, Nat.add_zero] at c0
              have NX : Hid (Desc.Small p → Upto Desc.Small x.classes (k + 1)) := Aid.hid (fun h => Upto.next EK.out hp h)
              clear hc1 hA fx hp EK
              obtain ⟨N, hN, hnl⟩ : ∃ N : Int, (∀ (ts : Array TypeId) (t : TypeId) (w : World), (Builtin.max_ ts t #[.int .i64 (p.init.length : Int), .int .i64 (p.vtab.length : Int), .int .i64 (p.tabs.length : Int)]).run Tryd.prog w = .ok (.int .i64 N) w) ∧ (N ≤ 60 → p.init.length ≤ 60 ∧ p.vtab.length ≤ 60 ∧ p.tabs.length ≤ 60) := ⟨_, fun ts t w => max3 _ ts t w _ _ _, fun h => by have h1 := mx_le (p.init.length : Int) p.vtab.length; have h2 := mx_le (mx (p.init.length : Int) p.vtab.length) p.tabs.length; omega⟩
              have HNL := Aid.hid hnl
              clear hnl
              have k2 : Below wr.heap.size wr (wr.alloc (.cells #[.int .i64 p.base, .string p.fields, .slice p.iA p.init.length p.ic, .slice p.vA p.vtab.length p.vc, .slice p.sA p.sigs.length p.sc, .slice p.tA p.tabs.length p.tc] 58)) := (Below.refl _ wr).alloc (Nat.le_refl _) _
              have hD := Aid.hid (Aid.Has.new wr [.int .i64 p.base, .string p.fields, .slice p.iA p.init.length p.ic, .slice p.vA p.vtab.length p.vc, .slice p.sA p.sigs.length p.sc, .slice p.tA p.tabs.length p.tc] 58)
              obtain ⟨r, hr⟩ : ∃ r, Gr.texts p.sigs 40 60 = r := ⟨_, rfl⟩
              have XB := Aid.hid (XA.out.below k2 (by omega : B ≤ wr.heap.size))
              have HC := Aid.hid (greatTexts_is p.sA B p.sc p.sigs 40 60 r (wr.alloc (.cells #[.int .i64 p.base, .string p.fields, .slice p.iA p.init.length p.ic, .slice p.vA p.vtab.length p.vc, .slice p.sA p.sigs.length p.sc, .slice p.tA p.tabs.length p.tc] 58)) hr XB.out.2.2.1.2 XB.out.2.2.1.1)
              have HR := Aid.hid hr
              have KD := Aid.hid (KW.out.trans (k2.mono KW.out.size))
              clear hr k2 XA KW
              have KW := KD
              clear KD
              by_cases h1 : 60 < (p.fields.size : Int)
              · clear HC HR
                go_wp2_with fail
                go_ret
                exact ⟨GI.yes x rfl, FB.out _ KW.out⟩
              · by_cases h2 : 60 < N
                · clear HC HR
                  go_wp2_with fail
                  go_ret
                  exact ⟨GI.yes x rfl, FB.out _ KW.out⟩
                · have NL := Aid.hid (HNL.out (by omega))
                  have F0 : Hid (p.fields.size ≤ 60) := Aid.hid (by omega)
                  go_wp2_with fail
                  go_at_call 15
                  refine HC.out.mono ?_
                  rintro e w1 ⟨rfl, rfl⟩
                  clear HC hN HNL
                  cases r
                  case true =>
                    go_wp2_with fail
                    go_ret
                    exact ⟨GI.yes x rfl, FB.out _ KW.out⟩
                  case false =>
                    have T0 := Aid.hid (Gr.texts_small HR.out (by decide) (by decide))
                    clear HR c0 c1 c2 c3 c4 c5 a1
                    obtain ⟨wd, hwd⟩ : ∃ wd, wr.alloc (.cells #[.int .i64 p.base, .string p.fields, .slice p.iA p.init.length p.ic, .slice p.vA p.vtab.length p.vc, .slice p.sA p.sigs.length p.sc, .slice p.tA p.tabs.length p.tc] 58) = wd := ⟨_, rfl⟩
                    have hd5 : wd.cell? ⟨wr.heap.size, 5, none⟩ = some (.slice p.tA p.tabs.length p.tc) := by rw [← hwd]; exact hD.out.cell 5 _ rfl
                    rw [hwd] at KW XB
                    have lp : p.tabs.length ≤ 60 := NL.out.2.2
                    have HWD := Aid.hid hwd
                    clear hD
                    go_wp2_with fail
                    try rw [hwd]
                    clear hwd
                    go_loopw [6] (fun i wz => ∃ j : Nat, i = .int .i64 j ∧ j ≤ p.tabs.length ∧ Hid (Upto (fun t : Tab => t.l.length ≤ 60) p.tabs j) ∧ wz = wd) (fun i _ => p.tabs.length - (intOf i).toNat)
                    case atStart => exact ⟨0, rfl, Nat.zero_le _, Aid.hid (Upto.zero _ _), rfl⟩
                    case round =>
                      obtain ⟨j, rfl, hj, EJ, rfl⟩ := hrel
                      by_cases hjl : j < p.tabs.length
                      · obtain ⟨t, ht⟩ : ∃ t, p.tabs[j]? = some t := ⟨_, List.getElem?_eq_getElem hjl⟩
                        obtain ⟨q1, o2, hA2, hq1, hc2⟩ := Rows.get XB.out.2.2.2.2.1 ht
                        have e1 := hc2 1 _ rfl
                        rw [hA2] at hd5
                        have NJ : Hid (t.l.length ≤ 60 → Upto (fun t : Tab => t.l.length ≤ 60) p.tabs (j + 1)) := Aid.hid (fun h => Upto.next EJ.out ht h)
                        clear hc2 hA2 ht EJ
                        by_cases h3 : 40 < (t.l.length : Int)
                        · go_wp2_with fail
                          go_ret
                          exact ⟨GI.yes x rfl, FB.out _ KW.out⟩
                        · have NR := Aid.hid (NJ.out (by omega))
                          clear NJ
                          go_wp2_with fail
                          go_roundw
                          case rel => exact ⟨j + 1, by go_num, by omega, NR, trivial⟩
                          case measure => simp [intOf]; omega
                      · have SJ := EJ.out.all (by omega)
                        have NR := Aid.hid (NX.out ⟨Nat.le_trans F0.out (by decide), Nat.le_trans NL.out.1 (by decide), Nat.le_trans NL.out.2.1 (by decide), T0.out, Nat.le_trans NL.out.2.2 (by decide), SJ⟩)
                        clear NX SJ EJ
                        go_wp2_with fail
                        go_roundw
                        case rel => exact ⟨k + 1, by go_num, by omega, NR, KW⟩
                        case measure => simp [intOf]; omega
            · have SC : Hid (∀ d ∈ x.classes, Desc.Small d) := Aid.hid (EK.out.all (by omega))
              have a1 := fx.1.cell 1 _ rfl
              clear fx EK ll
              go_wp2_with fail
              clear a1 hlt hk
              have ll : x.codes.length ≤ 40 := by have := LE.out; omega
              go_loopw [7] (fun i wr => ∃ k : Nat, i = .int .i64 k ∧ k ≤ x.codes.length ∧ Hid (Upto Cod.Small x.codes k) ∧ Hid (Below (w.alloc (.cells #[.slice x.fA x.faces.length x.fc, .slice x.cA x.classes.length x.cc, .slice x.dA x.codes.length x.dc, .slice x.nA x.insts.length x.nc, .string x.globals, .slice x.iA x.init.length x.ic, .slice x.bA x.blocks.length x.bc, .slice x.xA x.ins.length x.xc, .slice x.oA x.outs.length x.oc, .slice x.jA x.jobs.length x.jc, .int .i64 x.d, .int .i64 x.w] 35)).heap.size (w.alloc (.cells #[.slice x.fA x.faces.length x.fc, .slice x.cA x.classes.length x.cc, .slice x.dA x.codes.length x.dc, .slice x.nA x.insts.length x.nc, .string x.globals, .slice x.iA x.init.length x.ic, .slice x.bA x.blocks.length x.bc, .slice x.xA x.ins.length x.xc, .slice x.oA x.outs.length x.oc, .slice x.jA x.jobs.length x.jc, .int .i64 x.d, .int .i64 x.w] 35)) wr)) (fun i _ => x.codes.length - (intOf i).toNat)
              case atStart => exact ⟨0, rfl, Nat.zero_le _, Aid.hid (Upto.zero _ _), KW⟩
              case round =>
                clear KW
                obtain ⟨k, rfl, hk, EK, KW⟩ := hrel
                have fx := RX.out _ KW.out
                by_cases hlt : k < x.codes.length
                · obtain ⟨p, hp⟩ : ∃ p, x.codes[k]? = some p := ⟨_, List.getElem?_eq_getElem hlt⟩
                  obtain ⟨p1, o1, hA, hb1, hc1⟩ := Rows.get (fx.2.codes).2.1 hp
                  have sw := Nat.le_trans SZ.out KW.out.size
                  have lt1 : p1 < wr.heap.size := by omega
                  have XA := Aid.hid ((fx.2.codes).2.2 p (List.mem_of_getElem? hp))
                  have a2 := fx.1.cell 2 _ rfl
                  rw [hA] at a2
                  have c0 := hc1 0 _ rfl
                  have c1 := hc1 1 _ rfl
                  have c2 := hc1 2 _ rfl
                  have c3 := hc1 3 _ rfl
                  have c4 := hc1 4 _ rfl
                  have c5 := hc1 5 _ rfl
                  simp only [Nat.mul_one, Nat.add_zero] at c0
                  have NX : Hid (Cod.Small p → Upto Cod.Small x.codes (k + 1)) := Aid.hid (fun h => Upto.next EK.out hp h)
                  clear hc1 hA fx hp EK XA
                  obtain ⟨N, hN, hnl⟩ : ∃ N : Int, (∀ (ts : Array TypeId) (t : TypeId) (w : World), (Builtin.max_ ts t #[.int .i64 (p.params.size : Int), .int .i64 (p.locals.size : Int)]).run Tryd.prog w = .ok (.int .i64 N) w) ∧ (N ≤ 60 → p.params.size ≤ 60 ∧ p.locals.size ≤ 60) := ⟨_, fun ts t w => max2 _ ts t w _ _, fun h => by have h1 := mx_le (p.params.size : Int) p.locals.size; omega⟩
                  have HNL := Aid.hid hnl
                  clear hnl
                  by_cases h1 : 60 < N
                  · go_wp2_with fail
                    go_quiet (fail)
                    go_wp2_with fail
                    have KD := Aid.hid (below_drewN' KW.out nq)
                    go_ret
                    exact ⟨GI.yes x rfl, FB.out _ KD.out⟩
                  · by_cases h2 : 200 < (p.ops.length : Int)
                    · go_wp2_with fail
                      go_quiet (fail)
                      go_wp2_with fail
                      have KD := Aid.hid (below_drewN' KW.out nq)
                      go_ret
                      exact ⟨GI.yes x rfl, FB.out _ KD.out⟩
                    · have NL := HNL.out (by omega)
                      have NR := Aid.hid (NX.out ⟨by omega, by omega, by omega⟩)
                      clear NX
                      go_wp2_with fail
                      go_quiet (fail)
                      go_wp2_with fail
                      have KD := Aid.hid (below_drewN' KW.out nq)
                      go_roundw
                      case rel => exact ⟨k + 1, by go_num, by omega, NR, KD⟩
                      case measure => simp [intOf]; omega
                · have SO : Hid (∀ c ∈ x.codes, Cod.Small c) := Aid.hid (EK.out.all (by omega))
                  have a2 := fx.1.cell 2 _ rfl
                  clear fx EK ll
                  go_wp2_with fail
                  go_ret
                  exact ⟨⟨false, rfl, fun _ => ⟨⟨by have := LE.out; omega, SF.out⟩, ⟨by have := LE.out; omega, SC.out⟩, ⟨by have := LE.out; omega, SO.out⟩, by have := LE.out; omega, Nat.le_trans G0.out (by decide), by have := LE.out; omega, by have := LE.out; omega, by have := LE.out; omega, by have := LE.out; omega, by have := LE.out; omega⟩⟩, FB.out _ KW.out⟩
end Go.Proofs.YtcgfabnmkbiogaaDoor
