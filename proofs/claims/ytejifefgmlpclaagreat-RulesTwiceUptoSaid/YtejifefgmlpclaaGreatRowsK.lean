/- Rows of cells, one behind the other. -/
import Derived.Test.YtejifefgmlpclaaGreatProg
import Derived.Test.YtejifefgmlpclaaGreatAid
import Derived.Test.YtejifefgmlpclaaGreatMem
import Derived.WalkKit
set_option linter.unusedSimpArgs false
set_option linter.unusedVariables false
namespace Go.Proofs.YtejifefgmlpclaaGreat
open Go.RowKit

/-- Rows of sz cells each, one behind the other, from address a on, below block B. -/
def Rows (w : World) (B sz : Nat) (a : Option Addr) (rows : List (List Value)) : Prop :=
  0 < rows.length → ∃ b off, a = some ⟨b, off, none⟩ ∧ b < B ∧ ∀ i r, rows[i]? = some r → ∀ j v, r[j]? = some v → w.cell? ⟨b, off + i * sz + j, none⟩ = some v
theorem Rows.nil_ (w : World) (B sz : Nat) (a : Option Addr) : Rows w B sz a [] := fun h => absurd h (by simp)
theorem Rows.keep {w w' : World} {B sz : Nat} {a : Option Addr} {rows : List (List Value)} (h : Rows w B sz a rows) (hk : ∀ p : Addr, p.block < B → w'.cell? p = w.cell? p) : Rows w' B sz a rows := fun hn => by
  obtain ⟨b, off, h1, h2, h3⟩ := h hn
  exact ⟨b, off, h1, h2, fun i r hr j v hv => (hk _ h2).trans (h3 i r hr j v hv)⟩
theorem Rows.more {w : World} {B B' sz : Nat} {a : Option Addr} {rows : List (List Value)} (h : Rows w B sz a rows) (hB : B ≤ B') : Rows w B' sz a rows := fun hn => by
  obtain ⟨b, off, h1, h2, h3⟩ := h hn
  exact ⟨b, off, h1, by omega, h3⟩
theorem Rows.below {w w' : World} {B C sz : Nat} {a : Option Addr} {rows : List (List Value)} (h : Rows w B sz a rows) (hb : Below C w w') (hC : B ≤ C) : Rows w' B sz a rows :=
  h.keep fun p hp => hb.cell (by omega)
theorem Rows.flat {sz : Nat} : ∀ (rows : List (List Value)) (_ : ∀ r ∈ rows, r.length = sz) (i : Nat) (r : List Value), rows[i]? = some r → ∀ (j : Nat) (v : Value), r[j]? = some v → rows.flatten[i * sz + j]? = some v
  | [], _, i, r, hr, _, _, _ => by simp at hr
  | x :: t, hs, 0, r, hr, j, v, hv => by
    simp at hr
    subst hr
    have hj : j < x.length := (List.getElem?_eq_some_iff.1 hv).1
    simp only [List.flatten_cons, Nat.zero_mul, Nat.zero_add]
    rw [List.getElem?_append_left hj]; exact hv
  | x :: t, hs, i + 1, r, hr, j, v, hv => by
    have hx : x.length = sz := hs x (by simp)
    simp only [List.flatten_cons]
    rw [List.getElem?_append_right (by rw [hx, Nat.succ_mul]; omega), hx, show (i + 1) * sz + j - sz = i * sz + j by rw [Nat.succ_mul]; omega]
    exact Rows.flat t (fun r hr => hs r (by simp [hr])) i r (by simpa using hr) j v hv
theorem Rows.of_own {w : World} {base e sz c : Nat} {A : Option Addr} {rows : List (List Value)} (hs : ∀ r ∈ rows, r.length = sz) (h : w.ownsRow base e sz (.slice A rows.length c) rows.length rows.flatten) : Rows w w.heap.size sz A rows := fun hn => by
  obtain ⟨g, cap, hv, hg, hgs⟩ := h.form hn
  obtain ⟨rfl, rfl⟩ : A = some ⟨g, 0, none⟩ ∧ c = cap := by simpa using hv
  refine ⟨g, 0, rfl, hgs, fun i r hr j v hv => ?_⟩
  have h1 := Rows.flat rows hs i r hr j v hv
  have h2 : i * sz + j < rows.flatten.length := (List.getElem?_eq_some_iff.1 h1).1
  rw [Nat.zero_add, h.cellAt _ (by rw [← h.1]; exact h2)]
  exact h1
theorem own_keeps {w w' : World} {base n : Nat} {e sz : Nat} {v : Value} {xs : List Value} (h : w.ownsRow base e sz v n xs) (hb : Below w.heap.size w w') : w'.ownsRow base e sz v n xs := by
  rcases h with ⟨h1, h2 | ⟨g, cp, cur, p1, p2, p3, p4⟩⟩
  · exact ⟨h1, Or.inl h2⟩
  · exact ⟨h1, Or.inr ⟨g, cp, cur, p1, p2, (hb.block g (Array.getElem?_eq_some_iff.1 p3).1).trans p3, p4⟩⟩
theorem own_lowers {w : World} {H base n : Nat} {e sz : Nat} {v : Value} {xs : List Value} (h : w.ownsRow H e sz v n xs) (hl : base ≤ H) : w.ownsRow base e sz v n xs := by
  rcases h with ⟨h1, h2 | ⟨g, cp, cur, p1, p2, p3⟩⟩
  · exact ⟨h1, Or.inl h2⟩
  · exact ⟨h1, Or.inr ⟨g, cp, cur, p1, by omega, p3⟩⟩
end Go.Proofs.YtejifefgmlpclaaGreat
