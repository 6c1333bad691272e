/- What an instruction leaves is short; what is left on the stack, as it is reckoned. -/
import Derived.Test.YtcgfabnmkbiogaaDoorFlowLine
import Derived.Test.YtcgfabnmkbiogaaDoorFlowOps
namespace Go.Proofs.YtcgfabnmkbiogaaDoor

theorem extract_le (s : ByteArray) (a : Nat) : (s.extract a (a + 1)).size ≤ 1 := by
  rw [ByteArray.size_extract]; omega
theorem ans_le (r : Bool) : (Fl.ans r).size ≤ 1 := by cases r <;> decide
theorem sign_le {s ah t l : ByteArray} (h : Fl.sign s ah = some (t, l)) : l.size ≤ 1 := by
  unfold Fl.sign at h
  split at h
  · simp at h; rw [← h.2]; exact ans_le _
  · cases h
theorem sig_le {g : List ByteArray} {n : Int} {ah t l : ByteArray} (h : Fl.sig g n ah = some (t, l)) : l.size ≤ 1 := by
  unfold Fl.sig at h
  split at h
  · exact sign_le h
  · cases h
theorem called_le {x : Img} {c : Cod} {k a b : Int} {t l : ByteArray} (h : Fl.called x c k a b = some (t, l)) : l.size ≤ 1 := by
  unfold Fl.called at h
  split at h
  · split at h
    · cases h
    · split at h
      · split at h
        · exact sign_le h
        · cases h
      · cases h
  · split at h
    · split at h
      · exact sig_le h
      · cases h
    · split at h
      · split at h
        · exact sig_le h
        · cases h
      · split at h
        · exact sig_le h
        · cases h
theorem moved_le {x : Img} {c : Cod} {k a : Int} {t l : ByteArray} (h : Fl.moved x c k a = some (t, l)) : l.size ≤ 1 := by
  unfold Fl.moved at h
  split at h
  · split at h
    · simp at h; rw [← h.2]; exact extract_le _ _
    · simp at h; rw [← h.2]; decide
  · cases h
theorem some_le {t l u v : ByteArray} (h : some (u, v) = some (t, l)) (hv : v.size ≤ 1) : l.size ≤ 1 := by
  simp at h; rw [← h.2]; exact hv
theorem ite_or {α : Type} {p : Prop} [Decidable p] {A B : Option α} {v : α} (h : (if p then A else B) = some v) : A = some v ∨ B = some v := by
  by_cases e : p
  · rw [if_pos e] at h; exact Or.inl h
  · rw [if_neg e] at h; exact Or.inr h
theorem effect_le {x : Img} {c : Cod} {k a b : Int} {t l : ByteArray} (h : Fl.effect x c k a b = some (t, l)) : l.size ≤ 1 := by
  unfold Fl.effect at h
  rcases ite_or h with h | h
  · exact some_le h (by decide)
  rcases ite_or h with h | h
  · rcases ite_or h with h | h <;> first | exact some_le h (by decide) | cases h
  rcases ite_or h with h | h
  · exact some_le h (by decide)
  rcases ite_or h with h | h
  · rcases ite_or h with h | h <;> first | exact some_le h (by decide) | cases h
  rcases ite_or h with h | h
  · exact moved_le h
  rcases ite_or h with h | h
  · rcases ite_or h with h | h <;> first | exact some_le h (by decide) | cases h
  rcases ite_or h with h | h
  · rcases ite_or h with h | h <;> first | exact some_le h (by decide) | cases h
  rcases ite_or h with h | h
  · exact some_le h (by decide)
  rcases ite_or h with h | h
  · exact some_le h (by decide)
  rcases ite_or h with h | h
  · exact some_le h (by decide)
  rcases ite_or h with h | h
  · exact some_le h (by decide)
  rcases ite_or h with h | h
  · exact called_le h
  rcases ite_or h with h | h
  · rcases ite_or h with h | h <;> first | exact some_le h (by decide) | cases h
  rcases ite_or h with h | h
  · rcases ite_or h with h | h <;> first | exact some_le h (by decide) | cases h
  rcases ite_or h with h | h
  · rcases ite_or h with h | h <;> first | exact some_le h (by decide) | cases h
  rcases ite_or h with h | h
  · rcases ite_or h with h | h <;> first | exact some_le h (by decide) | cases h
  exact some_le h (by decide)
/-- What is left, as it is reckoned. -/
theorem after_eq {x : Img} {c : Cod} {o : Opr} {s t l : ByteArray} {ok : Bool} (hm : Op.may o.k o.a o.b = true) (he : Fl.effect x c o.k o.a o.b = if ok then some (t, l) else none) :
    Fl.after x c o s = if ok = true ∧ Lib.hasSuffix s.data.toList (Fl.takes o.k s t).data.toList = true ∧ ¬ (o.k = 34 ∧ s.size = 0) then some (⟨(Lib.trimSuffix s.data.toList (Fl.takes o.k s t).data.toList).toArray⟩ ++ l) else none := by
  unfold Fl.after
  rw [if_pos hm, he]
  cases ok
  · simp
  · simp only [if_true, true_and]
    by_cases h1 : o.k = 34 ∧ s.size = 0
    · rw [if_pos h1, if_neg (fun h => h.2 h1)]
    · rw [if_neg h1]
      unfold Fl.cut
      by_cases h2 : Lib.hasSuffix s.data.toList (Fl.takes o.k s t).data.toList = true
      · rw [if_pos h2, if_pos ⟨h2, h1⟩]
      · rw [if_neg h2, if_neg (fun h => h2 h.1)]
theorem trim_le (s p : List UInt8) : (Lib.trimSuffix s p).length ≤ s.length := by
  unfold Lib.trimSuffix; split <;> simp
end Go.Proofs.YtcgfabnmkbiogaaDoor
