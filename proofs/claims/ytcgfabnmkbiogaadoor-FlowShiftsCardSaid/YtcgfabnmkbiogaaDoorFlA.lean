/- The checker reads: class, answer, comes. -/
import Derived.Test.YtcgfabnmkbiogaaDoorFlowSpec
import Derived.Test.YtcgfabnmkbiogaaDoorProg
import Derived.Test.YtcgfabnmkbiogaaDoorAid
import Derived.Test.YtcgfabnmkbiogaaDoorRowsK
import Derived.WalkKit
import Derived.WalkSpells
import Derived.WalkLawsBesides
import Derived.LoopTactic
import Derived.Deep.QuietTactic
import Derived.BigQuiet
import Derived.Below
import Derived.Laws.ResultCell
import Derived.Laws.Tables
import Derived.Laws.Rows
import Derived.Deep.Cut
import Derived.KernelRfl
namespace Go.Proofs.YtcgfabnmkbiogaaDoor
open Go.RowKit

theorem results_row2 {P : Program} {fn : Func} {p u : Tmp} {ty : TypeId} (h : fn.results = #[.cell p ty, .tmp u]) (tmps : Array Value) (w : World) (g : Nat) (t : TypeId) (cs : Array Value) (fr : Nat × Nat) (d : TypeDesc)
    (x : Value) (hp : tmps.getD p undef = .pointer (some ⟨g, 0, none⟩)) (hx : tmps.getD u undef = x) (hg : w.heap[g]? = some (.cells cs t fr))
    (hu : P.underlying ty = some d) (hd : (match d with | .struct _ | .array _ _ => true | _ => false) = true) (hi : (P.info? ty).map (·.size) = some cs.size) :
    (results fn tmps).run P w = .ok (.tuple #[.agg cs, x]) w := by
  rw [results_cell_tmp h, hp, hx]
  simp only [asAddr, Sem.run_pure, Result.andThen]
  rw [run_loadVar_row w g t ty cs fr d hg hu hd hi]
theorem row_heap (w : World) (g : Nat) (cs : Array Value) (k : Nat) (h : k ≠ g) : (w.setRow g cs).heap[k]? = w.heap[k]? := by
  simp [World.setRow, Array.getElem?_modify, Ne.symm h]
theorem row_has {w : World} {g : Nat} {xs ys : List Value} {t : TypeId} (h : Aid.Has w g xs t) : Aid.Has (w.setRow g ys.toArray) g ys t := by
  unfold Aid.Has at h ⊢; simp [World.setRow, Array.getElem?_modify, h]
theorem row_size (w : World) (g : Nat) (cs : Array Value) : (w.setRow g cs).heap.size = w.heap.size := by simp [World.setRow]
theorem row_below {B g : Nat} {a w : World} (h : Below B a w) (hg : B ≤ g) (cs : Array Value) : Below B a (w.setRow g cs) :=
  ⟨h.os, h.tape, h.output, by have := h.size; simpa [World.setRow] using this, fun k hk => (row_heap w g cs k (by omega)).trans (h.block k hk)⟩
/-- No list of an image, and no text, is too great. -/
structure Fl.Sm (x : Img) : Prop where
  cl : x.classes.length ≤ 1000
  fl : ∀ d ∈ x.classes, d.fields.size ≤ 1000
  sg : ∀ d ∈ x.classes, ∀ s ∈ d.sigs, s.size ≤ 1000
  fc : ∀ f ∈ x.faces, ∀ s ∈ f.l, s.size ≤ 1000
  gl : x.globals.size ≤ 1000
  cp : ∀ c ∈ x.codes, c.params.size ≤ 500 ∧ c.locals.size ≤ 500 ∧ c.ops.length ≤ 1000
/-- The library's variable is laid. -/
def Fl.Max (w : World) : Prop := ∃ m, w.cell? ⟨0, 0, none⟩ = some (.int .i64 m)
theorem Fl.Max.lt {w : World} (h : Fl.Max w) : 0 < w.heap.size := by
  obtain ⟨m, h⟩ := h
  rcases Nat.lt_or_ge 0 w.heap.size with h1 | h1
  · exact h1
  · unfold World.cell? at h
    rw [Array.getElem?_eq_none h1] at h; cases h
theorem Fl.Max.below {w w' : World} (h : Fl.Max w) (hb : Below w.heap.size w w') : Fl.Max w' := by
  have hl := h.lt
  obtain ⟨m, h⟩ := h
  exact ⟨m, (hb.cell hl).trans h⟩
/-- How a checker lies. -/
structure Ck (w : World) (b : Nat) (x : Img) (c : Cod) (k s t : Value) (m : Int) (B : Nat) : Prop where
  has : Aid.Has w b [.slice x.fA x.faces.length x.fc, .slice x.cA x.classes.length x.cc, .slice x.dA x.codes.length x.dc, .slice x.nA x.insts.length x.nc, .string x.globals, .slice x.iA x.init.length x.ic, .slice x.bA x.blocks.length x.bc, .slice x.xA x.ins.length x.xc, .slice x.oA x.outs.length x.oc, .slice x.jA x.jobs.length x.jc, .int .i64 x.d, .int .i64 x.w, .int .i64 c.cls, .string c.params, .string c.locals, .bool c.ret, .int .i64 c.stack, .slice c.oA c.ops.length c.oc, k, s, t, .int .i64 m] 52
  img : Img.At w B x
  le : B ≤ w.heap.size
  sm : Fl.Sm x
  cm : c ∈ x.codes
  ml : Fl.Max w
theorem Ck.below {w w' : World} {b B : Nat} {x : Img} {c : Cod} {k s t : Value} {m : Int} (h : Ck w b x c k s t m B) (hb : Below w.heap.size w w') : Ck w' b x c k s t m B :=
  ⟨h.has.below hb h.has.lt, h.img.below hb h.le, Nat.le_trans h.le hb.size, h.sm, h.cm, h.ml.below hb⟩
/-- No class. -/
def Desc.zero : Desc := ⟨0, ⟨#[]⟩, none, [], 0, none, [], 0, none, [], 0, none, [], 0⟩
set_option maxRecDepth 100000 in
set_option maxHeartbeats 2000000 in
theorem class_is (b B : Nat) (x : Img) (c : Cod) (k s t : Value) (m : Int) (n : Int) (d : Desc) (r : Bool) (w : World) (h : Ck w b x c k s t m B) (hd : Fl.cls x n = if r then some d else none) (hz : r = false → d = Desc.zero) :
    Calls Tryd.prog 27 #[.pointer (some ⟨b, 0, none⟩), .int .i64 n] w fun e w' => e = .returned (.tuple #[.agg #[.int .i64 d.base, .string d.fields, .slice d.iA d.init.length d.ic, .slice d.vA d.vtab.length d.vc, .slice d.sA d.sigs.length d.sc, .slice d.tA d.tabs.length d.tc], .bool r]) ∧ Below w.heap.size w w' := by
  have hz0 := Aid.Has.new w [.int .i64 0, .string ⟨#[]⟩, .slice none 0 0, .slice none 0 0, .slice none 0 0, .slice none 0 0] 58
  have K0 : Hid (Below w.heap.size w (w.alloc (.cells #[.int .i64 0, .string ⟨#[]⟩, .slice none 0 0, .slice none 0 0, .slice none 0 0, .slice none 0 0] 58))) := Aid.hid ((Below.refl _ w).alloc (Nat.le_refl _) _)
  have hk := h.has.below K0.out h.has.lt
  have a1 := hk.cell 1 _ rfl
  have HZ := Aid.hid hz0
  by_cases hn : n < 0
  · obtain ⟨rfl, rfl⟩ : r = false ∧ d = Desc.zero := by
      have : Fl.cls x n = none := by unfold Fl.cls; rw [if_neg (by omega)]
      rw [this] at hd
      cases r
      · exact ⟨rfl, hz rfl⟩
      · cases hd
    clear hk hd hz h hz0
    go_enter Tryd.func27, Tryd.ntmps27
    try simp only [List.append_eq, List.cons_append, List.nil_append]
    go_wp2_with (refine wpList_store_row rfl 58 _ _ rfl w.heap.size #[.int .i64 0, .string ⟨#[]⟩, .slice none 0 0, .slice none 0 0, .slice none 0 0, .slice none 0 0] rfl rfl 58 #[.int .i64 0, .string ⟨#[]⟩, .slice none 0 0, .slice none 0 0, .slice none 0 0, .slice none 0 0] HZ.out (by kernel_rfl) rfl (by simp [Value.oneCell']) ?_)
    refine bodyPost_ret (v := .tuple #[.agg #[.int .i64 0, .string ⟨#[]⟩, .slice none 0 0, .slice none 0 0, .slice none 0 0, .slice none 0 0], .bool false]) (results_row2 rfl _ _ w.heap.size 58 #[.int .i64 0, .string ⟨#[]⟩, .slice none 0 0, .slice none 0 0, .slice none 0 0, .slice none 0 0] (0, 0) _ _ rfl rfl (row_has (ys := [.int .i64 0, .string ⟨#[]⟩, .slice none 0 0, .slice none 0 0, .slice none 0 0, .slice none 0 0]) HZ.out) Tryd.underlying58 rfl (by kernel_rfl)) rfl ?_
    exact ⟨rfl, row_below K0.out (Nat.le_refl _) _⟩
  · by_cases hl : n < x.classes.length
    · obtain ⟨q, rfl⟩ : ∃ q : Nat, n = q := ⟨n.toNat, by omega⟩
      obtain ⟨p, hp⟩ : ∃ p, x.classes[q]? = some p := ⟨_, List.getElem?_eq_getElem (by omega)⟩
      obtain ⟨rfl, rfl⟩ : r = true ∧ p = d := by
        have : Fl.cls x q = some p := by
          unfold Fl.cls
          rw [if_pos ⟨by omega, hl⟩, show ((q : Int)).toNat = q by omega]; exact hp
        rw [this] at hd
        cases r
        · cases hd
        · exact ⟨rfl, by simpa using hd⟩
      have hq2 : q < x.classes.length := by omega
      obtain ⟨p1, o1, hA, hb1, hc1⟩ := Rows.get (h.img.below K0.out h.le).classes.2.1 hp
      rw [hA] at a1
      have lt1 : p1 < w.heap.size := Nat.lt_of_lt_of_le hb1 h.le
      have lx := h.img.classes.1
      unfold Lim at lx
      have c0 := hc1 0 _ rfl
      have c1 := hc1 1 _ rfl
      have c2 := hc1 2 _ rfl
      have c3 := hc1 3 _ rfl
      have c4 := hc1 4 _ rfl
      have c5 := hc1 5 _ rfl
      simp only [Nat.add_zero] at c0
      clear hk hd hz h hz0 hc1 hA hp
      go_enter Tryd.func27, Tryd.ntmps27
      try simp only [List.append_eq, List.cons_append, List.nil_append]
      go_wp2_with (refine wpList_store_row rfl 58 _ _ rfl w.heap.size #[.int .i64 p.base, .string p.fields, .slice p.iA p.init.length p.ic, .slice p.vA p.vtab.length p.vc, .slice p.sA p.sigs.length p.sc, .slice p.tA p.tabs.length p.tc] rfl rfl 58 #[.int .i64 0, .string ⟨#[]⟩, .slice none 0 0, .slice none 0 0, .slice none 0 0, .slice none 0 0] HZ.out (by kernel_rfl) rfl (by simp [Value.oneCell']) ?_)
      refine bodyPost_ret (v := .tuple #[.agg #[.int .i64 p.base, .string p.fields, .slice p.iA p.init.length p.ic, .slice p.vA p.vtab.length p.vc, .slice p.sA p.sigs.length p.sc, .slice p.tA p.tabs.length p.tc], .bool true]) (results_row2 rfl _ _ w.heap.size 58 #[.int .i64 p.base, .string p.fields, .slice p.iA p.init.length p.ic, .slice p.vA p.vtab.length p.vc, .slice p.sA p.sigs.length p.sc, .slice p.tA p.tabs.length p.tc] (0, 0) _ _ rfl rfl (row_has (ys := [.int .i64 p.base, .string p.fields, .slice p.iA p.init.length p.ic, .slice p.vA p.vtab.length p.vc, .slice p.sA p.sigs.length p.sc, .slice p.tA p.tabs.length p.tc]) HZ.out) Tryd.underlying58 rfl (by kernel_rfl)) rfl ?_
      exact ⟨rfl, row_below K0.out (Nat.le_refl _) _⟩
    · obtain ⟨rfl, rfl⟩ : r = false ∧ d = Desc.zero := by
        have : Fl.cls x n = none := by unfold Fl.cls; rw [if_neg (by omega)]
        rw [this] at hd
        cases r
        · exact ⟨rfl, hz rfl⟩
        · cases hd
      have hn2 : (x.classes.length : Int) ≤ n := by omega
      clear hk hd hz h hz0
      go_enter Tryd.func27, Tryd.ntmps27
      try simp only [List.append_eq, List.cons_append, List.nil_append]
      go_wp2_with (refine wpList_store_row rfl 58 _ _ rfl w.heap.size #[.int .i64 0, .string ⟨#[]⟩, .slice none 0 0, .slice none 0 0, .slice none 0 0, .slice none 0 0] rfl rfl 58 #[.int .i64 0, .string ⟨#[]⟩, .slice none 0 0, .slice none 0 0, .slice none 0 0, .slice none 0 0] HZ.out (by kernel_rfl) rfl (by simp [Value.oneCell']) ?_)
      refine bodyPost_ret (v := .tuple #[.agg #[.int .i64 0, .string ⟨#[]⟩, .slice none 0 0, .slice none 0 0, .slice none 0 0, .slice none 0 0], .bool false]) (results_row2 rfl _ _ w.heap.size 58 #[.int .i64 0, .string ⟨#[]⟩, .slice none 0 0, .slice none 0 0, .slice none 0 0, .slice none 0 0] (0, 0) _ _ rfl rfl (row_has (ys := [.int .i64 0, .string ⟨#[]⟩, .slice none 0 0, .slice none 0 0, .slice none 0 0, .slice none 0 0]) HZ.out) Tryd.underlying58 rfl (by kernel_rfl)) rfl ?_
      exact ⟨rfl, row_below K0.out (Nat.le_refl _) _⟩
set_option maxRecDepth 100000 in
set_option maxHeartbeats 2000000 in
theorem answer_is (r : Bool) (w : World) :
    Calls Tryd.prog 36 #[.bool r] w fun e w' => e = .returned (.string (Fl.ans r)) ∧ w = w' := by
  cases r
  · go_enter Tryd.func36, Tryd.ntmps36
    try simp only [List.append_eq, List.cons_append, List.nil_append]
    go_wp2_with fail
    go_ret
    exact ⟨rfl, rfl⟩
  · go_enter Tryd.func36, Tryd.ntmps36
    try simp only [List.append_eq, List.cons_append, List.nil_append]
    go_wp2_with fail
    go_ret
    exact ⟨rfl, rfl⟩
set_option maxRecDepth 100000 in
set_option maxHeartbeats 2000000 in
theorem comes_is (b B : Nat) (x : Img) (c : Cod) (k s t : Value) (m : Int) (n of : Int) (r : Bool) (w : World) (h : Ck w b x c k s t m B) (hr : Fl.comes x of (x.classes.length + 1) n = r) :
    Calls Tryd.prog 28 #[.pointer (some ⟨b, 0, none⟩), .int .i64 n, .int .i64 of] w fun e w' => e = .returned (.bool r) ∧ Below w.heap.size w w' := by
  have CKW : Hid (Ck w b x c k s t m B) := Aid.hid h
  have hl := h.sm.cl
  have a1 := h.has.cell 1 _ rfl
  have HR := Aid.hid hr
  clear h hr
  go_enter Tryd.func28, Tryd.ntmps28
  try simp only [List.append_eq, List.cons_append, List.nil_append]
  go_wp2_with fail
  clear a1
  go_loopw [1, 16] (fun vn vi wr => ∃ (q : Nat) (p : Int), vi = .int .i64 q ∧ vn = .int .i64 p ∧ q ≤ x.classes.length + 1 ∧ Hid (Fl.comes x of (x.classes.length + 1 - q) p = r) ∧ Hid (Below w.heap.size w wr)) (fun _ vi _ => x.classes.length + 1 - (intOf vi).toNat)
  case atStart => exact ⟨0, n, rfl, rfl, Nat.zero_le _, HR, Aid.hid (Below.refl _ _)⟩
  case round =>
    clear HR
    obtain ⟨q, p, rfl, rfl, hq, EQ, KW⟩ := hrel
    by_cases hlt : q < x.classes.length + 1
    · have e : x.classes.length + 1 - q = (x.classes.length - q) + 1 := by omega
      have hlt2 : (q : Int) < (x.classes.length : Int) + 1 := by omega
      have EQ2 := EQ.out
      rw [e] at EQ2
      unfold Fl.comes at EQ2
      by_cases hp : p = of
      · subst hp
        obtain rfl : true = r := by rwa [if_pos rfl] at EQ2
        clear EQ2
        go_wp2_with fail
        go_ret
        exact ⟨rfl, KW.out⟩
      · rw [if_neg hp] at EQ2
        obtain ⟨y, hy⟩ : ∃ y, Fl.cls x p = y := ⟨_, rfl⟩
        rw [hy] at EQ2
        cases y with
        | none =>
          obtain rfl : false = r := EQ2
          have HC := Aid.hid (class_is b B x c k s t m p Desc.zero false wr (CKW.out.below KW.out) (by rw [hy]; rfl) (fun _ => rfl))
          clear hy EQ
          go_wp2_with fail
          go_at_call 27
          refine HC.out.mono ?_
          rintro e w1 ⟨rfl, hb1⟩
          have KW2 := Aid.hid (KW.out.trans (hb1.mono KW.out.size))
          clear hb1 HC
          go_wp2_with fail
          go_ret
          exact ⟨rfl, (KW2.out.alloc KW2.out.size _)⟩
        | some d =>
          have HC := Aid.hid (class_is b B x c k s t m p d true wr (CKW.out.below KW.out) (by rw [hy]; rfl) (fun h => by cases h))
          have EN : Hid (Fl.comes x of (x.classes.length + 1 - (q + 1)) d.base = r) := Aid.hid (by rw [show x.classes.length + 1 - (q + 1) = x.classes.length - q by omega]; exact EQ2)
          clear EQ2 hy EQ
          go_wp2_with fail
          go_at_call 27
          refine HC.out.mono ?_
          rintro e w1 ⟨rfl, hb1⟩
          have KW2 := Aid.hid (KW.out.trans (hb1.mono KW.out.size))
          clear hb1 HC
          go_wp2_with fail
          go_roundw
          case rel => exact ⟨q + 1, d.base, by go_num, rfl, by omega, EN, Aid.hid (KW2.out.alloc KW2.out.size _)⟩
          case measure => simp [intOf]; omega
    · obtain rfl : false = r := by
        have := EQ.out
        rwa [show x.classes.length + 1 - q = 0 by omega] at this
      have hlt2 : ¬ ((q : Int) < (x.classes.length : Int) + 1) := by omega
      go_wp2_with fail
      go_ret
      exact ⟨rfl, KW.out⟩
end Go.Proofs.YtcgfabnmkbiogaaDoor
