/- FlowShifts: what it wants. -/
import Derived.Test.YtcgfabnmkbiogaaDoorFlGr
import Derived.Test.YtcgfabnmkbiogaaDoorFlN
import Derived.Test.YtcgfabnmkbiogaaDoorFlowShiftL
import Derived.WalkKit
import Derived.WalkSpells
import Derived.WalkLawsBesides
import Derived.LoopTactic
import Derived.Deep.QuietTactic
import Derived.BigQuiet
import Derived.Below
import Derived.Laws.ResultCell
import Derived.Laws.Tables
import Derived.Laws.Rows
import Derived.Deep.Cut
import Derived.KernelRfl
namespace Go.Proofs.YtcgfabnmkbiogaaDoor
open Go.RowKit

theorem Rows.flat_len {sz : Nat} : ∀ (rows : List (List Value)) (_ : ∀ r ∈ rows, r.length = sz), rows.flatten.length = rows.length * sz
  | [], _ => by simp
  | x :: t, hs => by
    have h1 := Rows.flat_len t (fun r hr => hs r (by simp [hr]))
    have h2 := hs x (by simp)
    simp only [List.flatten_cons, List.length_append, List.length_cons, Nat.succ_mul, h1, h2]
    omega
theorem Rows.unflat {sz : Nat} : ∀ (rows : List (List Value)) (_ : ∀ r ∈ rows, r.length = sz) (j : Nat) (v : Value), rows.flatten[j]? = some v → ∃ i k r, j = i * sz + k ∧ rows[i]? = some r ∧ r[k]? = some v
  | [], _, j, v, h => by simp at h
  | x :: t, hs, j, v, h => by
    have hx : x.length = sz := hs x (by simp)
    simp only [List.flatten_cons] at h
    rcases Nat.lt_or_ge j sz with hj | hj
    · rw [List.getElem?_append_left (by omega)] at h
      exact ⟨0, j, x, by simp, by simp, h⟩
    · rw [List.getElem?_append_right (by omega), hx] at h
      obtain ⟨i, k, r, h1, h2, h3⟩ := Rows.unflat t (fun r hr => hs r (by simp [hr])) _ _ h
      exact ⟨i + 1, k, r, by rw [Nat.succ_mul]; omega, by simpa using h2, h3⟩
theorem Rows.reads {w : World} {B sz : Nat} {A : Option Addr} {rows : List (List Value)} (hs : ∀ r ∈ rows, r.length = sz) (h : Rows w B sz A rows) : Reads w B sz A rows.length rows.flatten :=
  ⟨Rows.flat_len rows hs, fun hn => by
    obtain ⟨b, off, h1, h2, h3⟩ := h hn
    refine ⟨⟨b, off, none⟩, h1, h2, fun j u hu => ?_⟩
    obtain ⟨i, k, r, rfl, h4, h5⟩ := Rows.unflat rows hs j u hu
    have := h3 i r h4 k u h5
    rw [Go.WideShapes.add_plain, ← Nat.add_assoc]; exact this⟩


theorem Fl.Sm.of {x : Img} (h : Img.Small x) : Fl.Sm x :=
  ⟨by have := h.classes.1; omega, fun d hd => by have := (h.classes.2 d hd).1; omega, fun d hd s hs => by have := (h.classes.2 d hd).2.2.2.1.2 s hs; omega, fun f hf s hs => by have := (h.faces.2 f hf).2 s hs; omega, by have := h.globals; omega,
   fun c hc => by obtain ⟨h1, h2, h3⟩ := h.codes.2 c hc; omega⟩
/-- Instructions that are none. -/
def shFill (k : Nat) : List Opr := (List.range k).map fun i : Nat => (⟨-1, (i : Int), 0⟩ : Opr)
def shHead (m k : Nat) : List Opr := ⟨21, (m : Int) + 1, 0⟩ :: shFill k
theorem shFill_succ (k : Nat) : shFill (k + 1) = shFill k ++ [⟨-1, (k : Int), 0⟩] := by unfold shFill; rw [List.range_succ, List.map_append]; rfl
theorem shHead_succ (m k : Nat) : shHead m (k + 1) = shHead m k ++ [⟨-1, (k : Int), 0⟩] := by unfold shHead; rw [shFill_succ]; rfl
/-- So many of them have been laid. -/
def shTook (l : List Opr) (m k : Nat) : List Opr := shHead m m ++ (l.take k).map (shOp l.length (m + 1))
theorem shTook_all (l : List Opr) (m : Nat) : shTook l m l.length = shOps l m := by unfold shTook shOps shHead shFill; rw [List.take_length]
theorem shTook_zero (l : List Opr) (m : Nat) : shTook l m 0 = shHead m m := by unfold shTook; simp
theorem shTook_succ {l : List Opr} {m k : Nat} {o : Opr} (h : l[k]? = some o) : shTook l m (k + 1) = shTook l m k ++ [shOp l.length (m + 1) o] := by
  obtain ⟨h1, h2⟩ := List.getElem?_eq_some_iff.1 h
  unfold shTook
  rw [List.take_succ_eq_append_getElem h1, List.map_append, h2, ← List.append_assoc]; rfl
/-- The other image. -/
def shCod (f : Cod) (A : Option Addr) (ops : List Opr) (c : Nat) : Cod := { f with oA := A, ops := ops, oc := c }
def shImg (x : Img) (q : Nat) (f' : Cod) (D : Option Addr) (dc : Nat) : Img := { x with dA := D, codes := x.codes.set q f', dc := dc }
theorem sh_is {x : Img} {q m : Nat} {f : Cod} {A D : Option Addr} {c dc : Nat} (h : x.codes[q]? = some f) : ShImg x (shImg x q (shCod f A (shOps f.ops m) c) D dc) q m f (shCod f A (shOps f.ops m) c) :=
  ⟨rfl, rfl, rfl, rfl, rfl, h, rfl, rfl, rfl, rfl, rfl, rfl⟩
theorem sh_sm {x : Img} {q m : Nat} {f : Cod} {A D : Option Addr} {c dc : Nat} (hs : Fl.Sm x) (hf : f ∈ x.codes) (hl : f.ops.length ≤ 200) (hm : m ≤ 20) : Fl.Sm (shImg x q (shCod f A (shOps f.ops m) c) D dc) :=
  ⟨hs.cl, hs.fl, hs.sg, hs.fc, hs.gl, fun y hy => by
    rcases List.mem_or_eq_of_mem_set hy with h1 | rfl
    · exact hs.cp y h1
    · obtain ⟨h2, h3, _⟩ := hs.cp f hf
      refine ⟨h2, h3, ?_⟩
      show (shOps f.ops m).length ≤ 1000
      simp [shOps]; omega⟩
theorem sh_at {w : World} {B : Nat} {x : Img} {q : Nat} {f' : Cod} {D : Option Addr} {dc : Nat} (hx : Img.At w B x) (hB : B ≤ w.heap.size) (hr : Rows w w.heap.size 6 D ((x.codes.set q f').map Cod.cells)) (hf : Cod.At w w.heap.size f') (hl : x.codes.length ≤ 60) : Img.At w w.heap.size (shImg x q f' D dc) :=
  let h := hx.more hB
  ⟨h.faces, h.classes, ⟨by show (x.codes.set q f').length ≤ Lim; rw [List.length_set]; unfold Lim; omega, hr, fun y hy => by
    rcases List.mem_or_eq_of_mem_set hy with h1 | rfl
    · exact h.codes.2.2 y h1
    · exact hf⟩, h.insts, h.init, h.blocks, h.ins, h.outs, h.jobs⟩
theorem info_code : (Tryd.prog.info? 45).map (fun i => (i.zero, i.size, i.bytes)) = some (some (.agg #[.int .i64 0, .string ⟨#[]⟩, .string ⟨#[]⟩, .bool false, .int .i64 0, .slice none 0 0]), 6, 80) := by kernel_rfl
/-- Codes, cell by cell. -/
def flatC (l : List Cod) : List Value := (l.map Cod.cells).flatten
theorem flatC_one (l : List Cod) : ∀ u ∈ flatC l, u.oneCell' = true := by
  intro u hu
  obtain ⟨r, hr, hu⟩ := List.mem_flatten.1 hu
  obtain ⟨o, _, rfl⟩ := List.mem_map.1 hr
  simp [Cod.cells] at hu
  rcases hu with rfl | rfl | rfl | rfl | rfl | rfl <;> rfl
theorem flatC_set (l : List Cod) (i : Nat) (f : Cod) (A : Option Addr) (ops : List Opr) (c : Nat) (h : l[i]? = some f) : (flatC l).set (i * 6 + 5) (.slice A ops.length c) = flatC (l.set i (shCod f A ops c)) := by
  induction l generalizing i with
  | nil => simp at h
  | cons a l ih =>
    cases i with
    | zero =>
      obtain rfl : a = f := by simpa using h
      rfl
    | succ i =>
      have e : (i + 1) * 6 + 5 = i * 6 + 5 + 1 + 1 + 1 + 1 + 1 + 1 := by omega
      have := ih i (by simpa using h)
      rw [e]
      simp only [flatC, List.map_cons, List.flatten_cons, Cod.cells, List.cons_append, List.nil_append, List.set_cons_succ] at this ⊢
      rw [this]
end Go.Proofs.YtcgfabnmkbiogaaDoor
