/- The document's Read: what it needs. -/
import Derived.Test.YtaogegeidbclaaaGreatDoorImgR2F
import Derived.Test.YtaogegeidbclaaaGreatDoorOrd
import Derived.Test.YtaogegeidbclaaaGreatDoorImgRead
import Derived.Deep.CutBlock
namespace Go.Proofs.YtaogegeidbclaaaGreatDoor
open Go.RowKit

theorem Rd2.Is.drew {w : World} {T : TypeId} {p : Nat} {s : St} (h : Rd2.Is w T p s) : Rd2.Is w.drew T p s := h
theorem KeepQ.low {p q B : Nat} {a b : World} (h : KeepQ p q a b) (hp : B ≤ p) (hq : B ≤ q) (hB : B ≤ a.heap.size) : Below B a b :=
  ⟨h.os, h.tape, h.output, h.size, fun k hk => h.block k (by omega) (by omega) (by omega)⟩
theorem kc_row3 {a b : World} {g m n : Nat} (h : Below a.heap.size a b) (hm : g + 1 ≤ m) (hn : n ≤ m) (cs : Array Value) : Kc (fresh a m) (fresh (b.setRow g cs) n) := Kc.wipe fun i hi h1 => by
  simp only [decide_eq_false_iff_not] at h1 ⊢
  exact ⟨by omega, (row_heap b g cs i (by omega)).trans (h.block i hi)⟩
theorem kc_blocks {a b : World} {m : Nat} (h : ∀ i, m ≤ i → i < a.heap.size → b.heap[i]? = a.heap[i]?) : Kc (fresh a m) b := fun x u hu => by
  obtain ⟨h1, h2, h3⟩ := wipe_cell hu
  simp only [decide_eq_false_iff_not] at h1
  rw [World.cell?_of_block (h _ (by omega) h2)]; exact h3
/-- A field of the image has been read: its list lies behind the box. -/
def Filled {α : Type} (f : α → Pc) (R : α → α → Bool) (S : α → Prop) (L : World → Nat → Option Addr → List α → Prop) (T : TypeId) (p q : Nat) (s : St) (w : World) (cs : Option Addr → Nat → Nat → List Value) (I : TypeId) (wx : World) : Prop :=
  ∃ (A : Option Addr) (c : Nat) (l : List α) (s' : St), Rd2.Is wx T p s' ∧ Aid.Has wx q (cs A l.length c) I ∧ l.length ≤ 10000 ∧ (∀ x ∈ l, S x) ∧ L (fresh wx (q + 1)) wx.heap.size A l ∧ KeepQ p q w wx ∧ Got (fun us => Pc.list f us) (fun us => eqAll R l us = true) s s'
/-- What the document's Read comes to. -/
def ReadP2 (bs : List Int) (B : Nat) (e : Ending) (w' : World) : Prop :=
  (∃ v : Img, e = .returned (.tuple #[.agg #[.slice v.fA v.faces.length v.fc, .slice v.cA v.classes.length v.cc, .slice v.dA v.codes.length v.dc, .slice v.nA v.insts.length v.nc, .string v.globals, .slice v.iA v.init.length v.ic, .slice v.bA v.blocks.length v.bc, .slice v.xA v.ins.length v.xc, .slice v.oA v.outs.length v.oc, .slice v.jA v.jobs.length v.jc, .int .i64 v.d, .int .i64 v.w], .int .i64 0]) ∧ Img.At (fresh w' B) w'.heap.size v ∧ v.Small ∧ (Pc.img v).b = bs ∧ (Pc.img v).x = false) ∨
  (e = .returned (.tuple #[.agg #[.slice none 0 0, .slice none 0 0, .slice none 0 0, .slice none 0 0, .string ⟨#[]⟩, .slice none 0 0, .slice none 0 0, .slice none 0 0, .slice none 0 0, .slice none 0 0, .int .i64 0, .int .i64 0], .int .i64 19]) ∧ ∀ v : Img, (Pc.img v).b = bs → (Pc.img v).x = false → False)
end Go.Proofs.YtaogegeidbclaaaGreatDoor
