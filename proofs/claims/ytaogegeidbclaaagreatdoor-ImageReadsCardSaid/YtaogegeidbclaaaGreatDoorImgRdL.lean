/- A reader: what it holds, what it keeps, what it gets of bytes that were laid. -/
import Derived.Test.YtaogegeidbclaaaGreatDoorImgGr
namespace Go.Proofs.YtaogegeidbclaaaGreatDoor
open Go.RowKit

/-- What a reader holds: the bytes that are left; are there too few? -/
structure St where
  b : List Int
  x : Bool
/-- All blocks but one are as they were; the streams too. -/
structure Keep (p : Nat) (w w' : World) : Prop where
  os : w'.os = w.os
  tape : w'.tape = w.tape
  output : w'.output = w.output
  size : w.heap.size ≤ w'.heap.size
  block : ∀ k, k < w.heap.size → k ≠ p → w'.heap[k]? = w.heap[k]?
/-- The world, one block of it wiped. -/
def blank (w : World) (p : Nat) : World := { w with heap := w.heap.modify p (fun _ => .cells #[] 0 (0, 0)) }
section
variable {p : Nat} {a b c w w' : World}
theorem blank_size (w : World) (p : Nat) : (blank w p).heap.size = w.heap.size := by simp [blank]
theorem blank_get (w : World) {p k : Nat} (h : k ≠ p) : (blank w p).heap[k]? = w.heap[k]? := by
  simp only [blank, Array.getElem?_modify]; rw [if_neg (fun e => h e.symm)]
theorem blank_at (w : World) {p : Nat} (h : p < w.heap.size) : (blank w p).heap[p]? = some (.cells #[] 0 (0, 0)) := by
  simp only [blank]; rw [Array.getElem?_modify]; simp [h]
theorem Keep.refl (p : Nat) (w : World) : Keep p w w := ⟨rfl, rfl, rfl, Nat.le_refl _, fun _ _ _ => rfl⟩
theorem Keep.trans (h : Keep p a b) (k : Keep p b c) : Keep p a c :=
  ⟨k.os.trans h.os, k.tape.trans h.tape, k.output.trans h.output, Nat.le_trans h.size k.size, fun i hi hp => (k.block i (Nat.lt_of_lt_of_le hi h.size) hp).trans (h.block i hi hp)⟩
theorem Keep.of_below (h : Below a.heap.size a b) : Keep p a b := ⟨h.os, h.tape, h.output, h.size, fun i hi _ => h.block i hi⟩
theorem Keep.set (p : Nat) (w : World) (j : Nat) (v : Value) : Keep p w (w.setCell ⟨p, j, none⟩ v) :=
  ⟨rfl, rfl, rfl, by rw [Aid.size_setCell]; exact Nat.le_refl _, fun i _ hp => Below.heap_setCell w ⟨p, j, none⟩ v i hp⟩
theorem Keep.low (h : Keep p a b) (hp : p ≤ a.heap.size) : Below p a b :=
  ⟨h.os, h.tape, h.output, h.size, fun i hi => h.block i (by omega) (by omega)⟩
theorem Keep.blank (h : Keep p a b) (hp : p < a.heap.size) : Below a.heap.size (blank a p) (blank b p) :=
  ⟨h.os, h.tape, h.output, by rw [blank_size, blank_size]; exact h.size, fun i hi => by
    by_cases e : i = p
    · subst e; rw [blank_at a hp, blank_at b (Nat.lt_of_lt_of_le hp h.size)]
    · rw [blank_get a e, blank_get b e]; exact h.block i hi e⟩
theorem Keep.has (h : Keep p a b) {q : Nat} {xs : List Value} {t : TypeId} (hq : q ≠ p) (hh : Aid.Has a q xs t) : Aid.Has b q xs t := (h.block q hh.lt hq).trans hh
theorem Keep.own (h : Keep p a b) {B e s n : Nat} {v : Value} {xs : List Value} (hB : p < B) (ho : a.ownsRow B e s v n xs) : b.ownsRow B e s v n xs := by
  rcases ho with ⟨h1, h2 | ⟨g, cap, cur, p1, p2, p3, p4⟩⟩
  · exact ⟨h1, Or.inl h2⟩
  · exact ⟨h1, Or.inr ⟨g, cap, cur, p1, p2, (h.block g (Array.getElem?_eq_some_iff.1 p3).1 (by omega)).trans p3, p4⟩⟩
theorem Keep.grown {row : Option Nat} (h : Keep p a b) (hg : b.grownBy c row) (hr : ∀ g, row = some g → a.heap.size ≤ g) : Keep p a c :=
  ⟨hg.os.trans h.os, hg.tape.trans h.tape, hg.output.trans h.output, Nat.le_trans h.size hg.size, fun i hi hp => (hg.block i (Nat.lt_of_lt_of_le hi h.size) (fun e => by have := hr i e.symm; omega)).trans (h.block i hi hp)⟩
theorem blank_own (hp : p < w.heap.size) {B e s n : Nat} {v : Value} {xs : List Value} (hB : p < B) (ho : w.ownsRow B e s v n xs) : (blank w p).ownsRow B e s v n xs := by
  rcases ho with ⟨h1, h2 | ⟨g, cap, cur, p1, p2, p3, p4⟩⟩
  · exact ⟨h1, Or.inl h2⟩
  · exact ⟨h1, Or.inr ⟨g, cap, cur, p1, p2, (blank_get w (by omega)).trans p3, p4⟩⟩
theorem blank_cell (w : World) {p : Nat} (a : Addr) {v : Value} (hp : p < w.heap.size) (h : (blank w p).cell? a = some v) : w.cell? a = some v := by
  by_cases e : a.block = p
  · unfold World.cell? at h
    rw [e, blank_at w hp] at h
    simp at h
  · unfold World.cell? at h ⊢
    rw [blank_get w e] at h; exact h
theorem blank_rows (hp : p < w.heap.size) {B sz : Nat} {A : Option Addr} {rows : List (List Value)} (h : Rows (blank w p) B sz A rows) : Rows w B sz A rows := fun hn => by
  obtain ⟨b, off, h1, h2, h3⟩ := h hn
  exact ⟨b, off, h1, h2, fun i r hr j v hv => blank_cell w _ hp (h3 i r hr j v hv)⟩
end
/-- The reader at p holds these bytes; they lie below it. -/
def Rd.Is (w : World) (T : TypeId) (p : Nat) (s : St) : Prop :=
  ∃ A c, Aid.Has w p [.slice A s.b.length c, .bool s.x] T ∧ s.b.length ≤ c ∧ Reads w p 1 A s.b.length (s.b.map (Value.int .u8)) ∧ (∀ y ∈ s.b, 0 ≤ y ∧ y < 256)
theorem Rd.Is.lt {w : World} {T : TypeId} {p : Nat} {s : St} (h : Rd.Is w T p s) : p < w.heap.size := by obtain ⟨A, c, h, _⟩ := h; exact h.lt
/-- What is told by bytes that were laid: it is got, and the rest is left. -/
def Got {α : Type} (f : α → Pc) (R : α → Prop) (s s' : St) : Prop := ∀ (v : α) (t : List Int), s.x = false → s.b = (f v).b ++ t → (f v).x = false → R v ∧ s' = ⟨t, false⟩
theorem Got.map {α β : Type} {f : α → Pc} {R : α → Prop} {s s' : St} (h : Got f R s s') (g : β → α) : Got (fun v => f (g v)) (fun v => R (g v)) s s' := fun v t h1 h2 h3 => h (g v) t h1 h2 h3
theorem Got.seq {α : Type} {f g : α → Pc} {R Q : α → Prop} {s s1 s2 : St} (h : Got f R s s1) (k : Got g Q s1 s2) : Got (fun v => f v ++ g v) (fun v => R v ∧ Q v) s s2 := fun v t h1 h2 h3 => by
  have h4 : (f v).x = false ∧ (g v).x = false := by simpa [Pc.app_def] using h3
  obtain ⟨r, rfl⟩ := h v ((g v).b ++ t) h1 (by rw [h2]; simp [Pc.app_def, List.append_assoc]) h4.1
  obtain ⟨q, rfl⟩ := k v t rfl rfl h4.2
  exact ⟨⟨r, q⟩, rfl⟩
theorem Got.of {α : Type} {f g : α → Pc} {R Q : α → Prop} {s s' : St} (h : Got f R s s') (e : ∀ v, g v = f v) (i : ∀ v, R v → Q v) : Got g Q s s' := fun v t h1 h2 h3 => by
  rw [e v] at h2 h3
  exact ⟨i v (h v t h1 h2 h3).1, (h v t h1 h2 h3).2⟩
/-- Too few bytes stay too few. -/
def Bad (s s' : St) : Prop := s.x = true → s'.x = true
end Go.Proofs.YtaogegeidbclaaaGreatDoor
