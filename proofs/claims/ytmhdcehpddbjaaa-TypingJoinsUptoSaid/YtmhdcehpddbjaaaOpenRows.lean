/- A slice that was handed in, as rows: given what each element's cells are. -/
import Derived.Test.YtmhdcehpddbjaaaTabSpec
import Derived.ProofKit
import Derived.Below
import Derived.Carry
import Derived.KernelRfl
import Derived.Deep.Slices
import Derived.Deep.Fields
import Derived.Deep.Grids
import Derived.ChangeSame
namespace Go.Proofs.Ytmhdcehpddbjaaa
open Go.ChangeShapes Go.WideShapes Go.ChangeAt Go.RowKit Go.Deep

theorem rows_open {H : Type} {enc : TypeId × Value → H} {P : Program} {W : World} {α : Type} (F : α → List Value) (Q : α → Prop) {t e : TypeId} {sz fuel : Nat} {cs : List Value} {d : DataW H} {p : List MemPlace}
    (ht : P.underlying t = some (.slice e)) (hsz : P.cellsOf e = sz) (h0 : 0 < sz)
    (hf : DataW.trod enc P W 0 (fun _ => true) true fuel t cs = some (d, p)) (hlt : ∀ x ∈ p, x.block < W.heap.size)
    (hel : ∀ n cs' y, n < fuel → DataW.trod enc P W 0 (fun _ => true) true n e cs' = some y → (∀ x ∈ y.2, x.block < W.heap.size) → ∃ r, cs' = F r ∧ Q r) :
    ∃ (A : Option Addr) (l : List α) (c : Nat), cs = [.slice A l.length c] ∧ l.length ≤ 9223372036854775807 ∧ Rows W W.heap.size sz A (l.map F) ∧ ∀ r ∈ l, Q r := by
  rcases DataW.trod_slice ht hf with ⟨hcs, _⟩ | ⟨a, len, cap, elems, rest, n, hfu, hcs, hx, _, hl, hm, hlen, hel2, _, _⟩
  · exact ⟨none, [], 0, hcs, by simp, Rows.nil_ _ _ _ _, fun r hr => by cases hr⟩
  · simp only [Prod.mk.injEq] at hx
    rw [hsz] at hx hel2
    obtain ⟨V, hV⟩ : ∃ V : List α, V.length = len ∧ ∀ i r, V[i]? = some r → W.cells? 0 (a.add (i * sz)) sz = some (F r) ∧ Q r := by
      have key : ∀ k, k ≤ len → ∃ V : List α, V.length = k ∧ ∀ i r, V[i]? = some r → W.cells? 0 (a.add (i * sz)) sz = some (F r) ∧ Q r := by
        intro k
        induction k with
        | zero => exact fun _ => ⟨[], rfl, fun i r h => by simp at h⟩
        | succ k ih =>
          intro hk
          obtain ⟨V, h1, h2⟩ := ih (by omega)
          obtain ⟨y, hy⟩ : ∃ y, elems[k]? = some y := ⟨_, List.getElem?_eq_getElem (by omega)⟩
          have h3 := (hel2 k (by omega)).trans hy
          obtain ⟨cs', hc, ht'⟩ := Option.bind_eq_some_iff.1 h3
          obtain ⟨r, rfl, hq⟩ := hel n cs' y (by omega) ht' (fun x hxm => hlt x (by
            rw [hx.2]
            exact List.mem_append_right _ (List.mem_flatMap.2 ⟨y, List.mem_append_left _ (List.mem_of_getElem? hy), hxm⟩)))
          refine ⟨V ++ [r], by simp [h1], fun i r' hr' => ?_⟩
          rcases Nat.lt_or_ge i k with h | h
          · rw [List.getElem?_append_left (by omega)] at hr'; exact h2 i r' hr'
          · rw [List.getElem?_append_right (by omega)] at hr'
            have hi0 : i - V.length = 0 := by
              have := (List.getElem?_eq_some_iff.1 hr').1
              simp at this; omega
            rw [hi0] at hr'
            obtain rfl : r = r' := by simpa using hr'
            obtain rfl : i = k := by omega
            exact ⟨hc, hq⟩
      exact key len (Nat.le_refl _)
    obtain ⟨hVl, hV⟩ := hV
    have hmx : len ≤ 9223372036854775807 := Nat.le_trans hl (Nat.le_trans hm (by decide))
    refine ⟨some a, V, cap, by rw [hVl]; exact hcs, by omega, fun hn => ?_, fun r hr => ?_⟩
    · have hl0 : 0 < len := by rw [← hVl]; simpa using hn
      have hc : ∀ i r, V[i]? = some r → ∀ j x, (F r)[j]? = some x → j < sz ∧ W.cell? (a.add (i * sz + j)) = some x := fun i r hr j x hx => by
        obtain ⟨_, hlen', hat⟩ := World.cells?_some (hV i r hr).1
        have hj : j < sz := by rw [← hlen']; exact (List.getElem?_eq_some_iff.1 hx).1
        refine ⟨hj, ?_⟩
        rw [← Go.Deep.add_add, hat j hj, hx]
      obtain ⟨r0, hr0⟩ : ∃ r, V[0]? = some r := ⟨_, List.getElem?_eq_getElem (by omega)⟩
      obtain ⟨_, hlen0, _⟩ := World.cells?_some (hV 0 r0 hr0).1
      obtain ⟨x0, hx0⟩ : ∃ x, (F r0)[0]? = some x := ⟨_, List.getElem?_eq_getElem (by omega)⟩
      obtain ⟨b, off, spot⟩ := a
      have hspot : spot = none := by simpa [Addr.add] using World.cell?_spot (hc 0 r0 hr0 0 x0 hx0).2
      subst hspot
      refine ⟨b, off, rfl, hlt (.cell b off) ?_, fun i r hr j x hx' => ?_⟩
      · rw [hx.2]
        exact List.mem_append_left _ (MemPlace.mem_row.2 ⟨0, Nat.mul_pos (by omega) h0, by simp⟩)
      · rw [List.getElem?_map] at hr
        obtain ⟨r', hr', rfl⟩ := Option.map_eq_some_iff.1 hr
        rw [Nat.add_assoc, ← add_plain]
        exact (hc i r' hr' j x hx').2
    · obtain ⟨i, hi⟩ := List.getElem?_of_mem hr
      exact (hV i r hi).2
end Go.Proofs.Ytmhdcehpddbjaaa
