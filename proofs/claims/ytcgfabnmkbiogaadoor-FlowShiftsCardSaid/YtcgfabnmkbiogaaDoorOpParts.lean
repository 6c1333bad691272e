/- What a sign says, in plain Lean. -/
import Derived.Test.YtcgfabnmkbiogaaDoorOpSpec
import Derived.Lib.IndexMore
import Derived.Lib.IndexBytes
import Derived.Lib.IndexLaws
import Derived.Lib.SlTrimSet
namespace Go.Proofs.YtcgfabnmkbiogaaDoor

/-- Letters, '>', and i or nothing. -/
def Op.Sg (l p : List UInt8) (b : Bool) : Prop := l = p ++ 62 :: (if b then [105] else []) ∧ ∀ x ∈ p, x = 105 ∨ x = 114
theorem Op.split : ∀ (p q r s : List UInt8), (∀ x ∈ p, x ≠ 62) → (∀ x ∈ q, x ≠ 62) → p ++ 62 :: r = q ++ 62 :: s → p = q ∧ r = s
  | [], [], r, s, _, _, h => by simpa using h
  | [], y :: q, r, s, _, hq, h => by
    simp at h; exact absurd h.1.symm (hq y (by simp))
  | x :: p, [], r, s, hp, _, h => by
    simp at h; exact absurd h.1 (hp x (by simp))
  | x :: p, y :: q, r, s, hp, hq, h => by
    simp at h
    obtain ⟨h1, h2⟩ := Op.split p q r s (fun z hz => hp z (by simp [hz])) (fun z hz => hq z (by simp [hz])) h.2
    exact ⟨by rw [h.1, h1], h2⟩
theorem Op.Sg.no62 {l p : List UInt8} {b : Bool} (h : Op.Sg l p b) : ∀ x ∈ p, x ≠ 62 := fun x hx e => by
  rcases h.2 x hx with h | h <;> subst e <;> exact absurd h (by decide)
theorem Op.Sg.same {l p q : List UInt8} {b c : Bool} (h : Op.Sg l p b) (g : Op.Sg l q c) : p = q ∧ b = c := by
  obtain ⟨h1, h2⟩ := Op.split _ _ _ _ h.no62 g.no62 (h.1.symm.trans g.1)
  refine ⟨h1, ?_⟩
  cases b <;> cases c <;> simp at h2 ⊢
open Classical in
/-- What a sign says: the letters, whether it answers; whether it is one. -/
noncomputable def Op.parts (l : List UInt8) : List UInt8 × Bool × Bool :=
  if h : ∃ x : List UInt8 × Bool, Op.Sg l x.1 x.2 ∧ x.1.length ≤ 3 then ((Classical.choose h).1, (Classical.choose h).2, true) else ([], false, false)
theorem Op.parts_yes {l p : List UInt8} {b : Bool} (h : Op.Sg l p b) (hp : p.length ≤ 3) : Op.parts l = (p, b, true) := by
  have hx : ∃ x : List UInt8 × Bool, Op.Sg l x.1 x.2 ∧ x.1.length ≤ 3 := ⟨(p, b), h, hp⟩
  unfold Op.parts
  rw [dif_pos hx]
  obtain ⟨h1, h2⟩ := (Classical.choose_spec hx).1.same h
  rw [h1, h2]
theorem Op.parts_no {l : List UInt8} (h : ∀ p b, Op.Sg l p b → ¬ p.length ≤ 3) : Op.parts l = ([], false, false) := by
  unfold Op.parts
  rw [dif_neg]
  rintro ⟨x, h1, h2⟩
  exact h _ _ h1 h2

theorem Op.occ_one (s : List UInt8) (c : UInt8) (i : Nat) (h : Lib.indexByte s c = i) : s = s.take i ++ c :: s.drop (i + 1) ∧ ∀ x ∈ s.take i, x ≠ c := by
  obtain ⟨h1, h2⟩ := Lib.indexByte_some h
  obtain ⟨hi, hc⟩ := List.getElem?_eq_some_iff.1 h1
  refine ⟨?_, fun x hx e => ?_⟩
  · rw [← hc, List.getElem_cons_drop hi, List.take_append_drop]
  · obtain ⟨k, hk, rfl⟩ := List.getElem_of_mem hx
    have hk' : k < i := by simpa using (Nat.lt_of_lt_of_le hk (List.length_take_le _ _))
    refine h2 k hk' ?_
    rw [List.getElem_take] at e
    rw [← e]
    exact List.getElem?_eq_getElem _
theorem Op.cut_no {l p r : List UInt8} (h : Lib.cut l [62] = (p, r, false)) (q : List UInt8) (b : Bool) : ¬ Op.Sg l q b := by
  intro g
  unfold Lib.cut at h
  rw [Lib.index_one] at h
  by_cases hi : 0 ≤ Lib.indexByte l 62
  · simp [hi] at h
  · have h1 : Lib.indexByte l 62 = -1 := by have := Lib.indexByte_ge l 62; omega
    exact Lib.indexByte_none h1 q.length (by rw [g.1]; simp)
theorem Op.cut_yes {l p r : List UInt8} (h : Lib.cut l [62] = (p, r, true)) : l = p ++ 62 :: r ∧ ∀ x ∈ p, x ≠ 62 := by
  unfold Lib.cut at h
  rw [Lib.index_one] at h
  by_cases hi : 0 ≤ Lib.indexByte l 62
  · obtain ⟨i, hi2⟩ : ∃ i : Nat, Lib.indexByte l 62 = i := ⟨(Lib.indexByte l 62).toNat, by omega⟩
    have := Op.occ_one l 62 i hi2
    simp [hi2] at h
    obtain ⟨rfl, rfl⟩ := h
    exact this
  · simp [hi] at h
theorem Op.trim_nil (p : List UInt8) : Lib.trimS p [105, 114] = [] ↔ ∀ x ∈ p, x = 105 ∨ x = 114 := by
  unfold Lib.trimS Lib.trimLeftS Lib.trimRightS
  have dw : ∀ l : List UInt8, l.dropWhile (([105, 114] : List UInt8).contains ·) = [] ↔ ∀ x ∈ l, x = 105 ∨ x = 114 := by
    intro l
    induction l with
    | nil => simp
    | cons x t ih =>
      rw [List.dropWhile_cons]
      by_cases hx : x = 105 ∨ x = 114
      · rw [if_pos (by simpa using hx), ih]
        simp [hx]
      · rw [if_neg (by simpa using hx)]
        simp [hx]
  rw [dw]
  constructor
  · intro h
    have h2 : (p.reverse.dropWhile (([105, 114] : List UInt8).contains ·)) = [] := by
      cases hq : p.reverse.dropWhile (([105, 114] : List UInt8).contains ·) with
      | nil => rfl
      | cons y t =>
        exfalso
        have h3 := h y (by rw [hq]; simp)
        have h4 := List.head?_dropWhile_not (([105, 114] : List UInt8).contains ·) p.reverse
        rw [hq] at h4
        rcases h3 with rfl | rfl <;> simp at h4
    rw [dw] at h2
    intro x hx
    exact h2 x (by simpa using hx)
  · intro h
    have : p.reverse.dropWhile (([105, 114] : List UInt8).contains ·) = [] := by rw [dw]; intro x hx; exact h x (by simpa using hx)
    rw [this]
    simp
end Go.Proofs.YtcgfabnmkbiogaaDoor
