/- A list that a box holds while it is read. -/
import Derived.Test.YtaogegeidbclaaaGreatDoorImgR2D
namespace Go.Proofs.YtaogegeidbclaaaGreatDoor
open Go.RowKit

/-- All blocks but two are as they were. -/
structure KeepQ (p q : Nat) (w w' : World) : Prop where
  os : w'.os = w.os
  tape : w'.tape = w.tape
  output : w'.output = w.output
  size : w.heap.size ≤ w'.heap.size
  block : ∀ k, k < w.heap.size → k ≠ p → k ≠ q → w'.heap[k]? = w.heap[k]?
section
variable {p q : Nat} {a b c : World}
theorem KeepQ.of (h : Keep p a b) : KeepQ p q a b := ⟨h.os, h.tape, h.output, h.size, fun k hk hp _ => h.block k hk hp⟩
theorem KeepQ.refl (p q : Nat) (w : World) : KeepQ p q w w := KeepQ.of (Keep.refl p w)
theorem KeepQ.trans (h : KeepQ p q a b) (k : KeepQ p q b c) : KeepQ p q a c :=
  ⟨k.os.trans h.os, k.tape.trans h.tape, k.output.trans h.output, Nat.le_trans h.size k.size, fun i hi hp hq => (k.block i (Nat.lt_of_lt_of_le hi h.size) hp hq).trans (h.block i hi hp hq)⟩
theorem KeepQ.thenK (h : KeepQ p q a b) (k : Keep p b c) : KeepQ p q a c := h.trans (KeepQ.of k)
theorem KeepQ.set (h : KeepQ p q a b) (j : Nat) (v : Value) : KeepQ p q a (b.setCell ⟨q, j, none⟩ v) :=
  ⟨h.os, h.tape, h.output, by rw [Aid.size_setCell]; exact h.size, fun k hk hp hq => (Below.heap_setCell b ⟨q, j, none⟩ v k hq).trans (h.block k hk hp hq)⟩
theorem KeepQ.grown {row : Option Nat} (h : KeepQ p q a b) (hg : b.grownBy c row) (hr : ∀ g, row = some g → a.heap.size ≤ g) : KeepQ p q a c :=
  ⟨hg.os.trans h.os, hg.tape.trans h.tape, hg.output.trans h.output, Nat.le_trans h.size hg.size, fun i hi hp hq => (hg.block i (Nat.lt_of_lt_of_le hi h.size) (fun e => by have := hr i e.symm; omega)).trans (h.block i hi hp hq)⟩
/-- The box was made later: nothing of before has turned. -/
theorem KeepQ.keep (h : KeepQ p q b c) (k : Keep p a b) (hq : a.heap.size ≤ q) : Keep p a c :=
  ⟨h.os.trans k.os, h.tape.trans k.tape, h.output.trans k.output, Nat.le_trans k.size h.size, fun i hi hp => (h.block i (Nat.lt_of_lt_of_le hi k.size) hp (by omega)).trans (k.block i hi hp)⟩
theorem kc_q {n m : Nat} (h : KeepQ p q a b) (hp : p < n) (hm : n ≤ m) (hq : q < m) : Kc (fresh a m) (fresh b n) := Kc.wipe fun i hi h1 => by
  simp only [decide_eq_false_iff_not] at h1 ⊢
  exact ⟨by omega, h.block i hi (by omega) (by omega)⟩
end
def BoxInv {α : Type} (f : α → Pc) (R : α → α → Bool) (S : α → Prop) (At : World → Nat → α → Prop) (cells : α → List Value) (e : TypeId) (sz : Nat) (T : TypeId) (p qd : Nat) (s : St) (w : World) (n k : Nat) (A : Option Addr) (c : Nat) (l : List α) (wr : World) : Prop :=
  l.length = k ∧ wr.ownsRow w.heap.size e sz (.slice A l.length c) l.length ((l.map cells).flatten) ∧ (∀ x ∈ l, S x ∧ At (inrow wr w.heap.size (rowb A)) wr.heap.size x) ∧ KeepQ p qd w wr ∧ ∃ sk, Rd2.Is wr T p sk ∧ Track f R s n k l sk
section
variable {α : Type} {f : α → Pc} {R : α → α → Bool} {S : α → Prop} {At : World → Nat → α → Prop} {cells : α → List Value} {e sz : Nat} {T : TypeId} {p qd : Nat} {s : St} {w : World} {n k : Nat} {A : Option Addr} {c : Nat} {l : List α} {wr : World}
theorem BoxInv.startM {s1 : St} (hf : ∀ u, 1 ≤ (f u).b.length) (hI : Rd2.Is wr T p s1) (hK : KeepQ p qd w wr) (h : GotM n s s1) : BoxInv f R S At cells e sz T p qd s w n 0 none 0 [] wr :=
  ⟨rfl, ⟨by simp, Or.inl ⟨rfl, rfl⟩⟩, by simp, hK, s1, hI, Track.startM hf h⟩
theorem BoxInv.set (hkc : ∀ {w w' : World} {B B' : Nat} {x : α}, At w B x → Kc w w' → B ≤ B' → At w' B' x) (h : BoxInv f R S At cells e sz T p qd s w n k A c l wr) (hp : p < qd) (hq : qd < w.heap.size) (j : Nat) (v : Value) : BoxInv f R S At cells e sz T p qd s w n k A c l (wr.setCell ⟨qd, j, none⟩ v) := by
  obtain ⟨h1, h2, h3, h4, sk, h5, h6⟩ := h
  refine ⟨h1, own_other h2 (fun g hg => by have := (h2.lt g hg).1; omega) j v, fun x hx => ⟨(h3 x hx).1, hkc (h3 x hx).2 ?_ (by rw [Aid.size_setCell]; exact Nat.le_refl _)⟩, h4.set j v, sk, h5.low ((Below.refl (p + 1) wr).setCell (p := ⟨qd, j, none⟩) (show p + 1 ≤ qd by omega) v), h6⟩
  exact Kc.wipe fun i hi h7 => by
    refine ⟨h7, Below.heap_setCell wr ⟨qd, j, none⟩ v i ?_⟩
    simp only [Bool.or_eq_false_iff, decide_eq_false_iff_not] at h7
    show i ≠ qd; omega
theorem BoxInv.next (hkc : ∀ {w w' : World} {B B' : Nat} {x : α}, At w B x → Kc w w' → B ≤ B' → At w' B' x) {v : α} {s' sk : St} {w2 w3 w9 : World} {v9 : Value}
    (hl : l.length = k) (HO : wr.ownsRow w.heap.size e sz (.slice A l.length c) l.length ((l.map cells).flatten)) (HE : ∀ x ∈ l, S x ∧ At (inrow wr w.heap.size (rowb A)) wr.heap.size x) (HK : KeepQ p qd w wr) (HT : Track f R s n k l sk)
    (hp : p < w.heap.size) (hk : k < n) (hS : S v) (hv : At (fresh w2 wr.heap.size) w2.heap.size v) (hI : Rd2.Is w2 T p s') (k1 : Keep p wr w2) (hG : Got f (fun u => R v u = true) sk s') (k2 : Below w2.heap.size w2 w3)
    (ho : w9.ownsRow w.heap.size e sz v9 (l.length + 1) ((l.map cells).flatten ++ cells v)) (hg : w3.grownBy w9 (Value.slice A l.length c).ownBlock) (hob : v9.ownBlock = (Value.slice A l.length c).ownBlock ∨ v9.ownBlock = some w3.heap.size) :
    ∃ A2 c2, v9 = .slice A2 (l.length + 1) c2 ∧ BoxInv f R S At cells e sz T p qd s w n (k + 1) A2 c2 (l ++ [v]) w9 := by
  obtain ⟨A2, c2, rfl⟩ := own_slice ho
  rw [rowb_own, rowb_own] at hob
  rw [rowb_own] at hg
  have hgl : ∀ i, rowb A = some i → w.heap.size ≤ i ∧ i < wr.heap.size := fun i hi => HO.lt i (by rw [rowb_own]; exact hi)
  have K3 : Keep p w2 w3 := Keep.of_below k2
  have KW : KeepQ p qd w w3 := HK.thenK (k1.trans K3)
  have Kold : Kc (inrow wr w.heap.size (rowb A)) (inrow w9 w.heap.size (rowb A2)) := fun a u h => Kc.row_grown hg hob a u (Kc.row_keep K3 hp a u (Kc.row_keep k1 hp a u h))
  have Knew : Kc (fresh w2 wr.heap.size) (inrow w9 w.heap.size (rowb A2)) := fun a u h => Kc.row_grown hg hob a u (Kc.row_keep K3 hp a u (Kc.row_new HK.size (fun i hi => (hgl i hi).2) a u h))
  have sz9 : w2.heap.size ≤ w9.heap.size := Nat.le_trans k2.size hg.size
  refine ⟨A2, c2, rfl, by simp [hl], by simpa using ho, fun x hx => ?_, KW.grown hg (fun g hg' => (hgl g hg').1), s', hI.low ?_, HT.next hk hG⟩
  · rcases List.mem_append.1 hx with h | h
    · exact ⟨(HE x h).1, hkc (HE x h).2 Kold (Nat.le_trans k1.size sz9)⟩
    · obtain rfl : x = v := by simpa using h
      exact ⟨hS, hkc hv Knew sz9⟩
  · have h2 := hI.lt
    have h3 : Below (p + 1) w2 w3 := k2.mono (by omega)
    exact h3.grown hg (by have := k2.size; omega) (fun q hq => by have := (hgl q hq).1; omega)
end
end Go.Proofs.YtaogegeidbclaaaGreatDoor
