/- Insertion sort by a key, of numbers that rise, in plain Lean. No program in sight. -/
import Derived.RowKit
namespace Go.Proofs.Ytimojijbjmchkaa.Du

/-- By the key, of one key by the number. -/
def Lt (f : Int → Int) (a b : Int) : Prop := f a < f b ∨ f a = f b ∧ a < b
theorem Lt.trans {f : Int → Int} {a b c : Int} (h : Lt f a b) (k : Lt f b c) : Lt f a c := by
  unfold Lt at *; omega
theorem Lt.irrefl {f : Int → Int} {a : Int} (h : Lt f a a) : False := by unfold Lt at h; omega

/-- A list that is sorted so is the only one of its permutations that is. -/
theorem sorted_unique {f : Int → Int} : ∀ (l m : List Int), l.Pairwise (Lt f) → m.Pairwise (Lt f) → l.Perm m → l = m
  | [], m, _, _, h => (List.nil_perm.1 h).symm
  | a :: l, [], _, _, h => by simpa using h.length_eq
  | a :: l, b :: m, hl, hm, h => by
    have hab : a = b := by
      have h1 : a ∈ b :: m := h.subset (by simp)
      have h2 : b ∈ a :: l := h.symm.subset (by simp)
      rcases List.mem_cons.1 h1 with e | h1
      · exact e
      · rcases List.mem_cons.1 h2 with e | h2
        · exact e.symm
        · have k1 := (List.pairwise_cons.1 hm).1 a h1
          have k2 := (List.pairwise_cons.1 hl).1 b h2
          exact (Lt.irrefl (k1.trans k2)).elim
    subst hab
    rw [sorted_unique l m (List.pairwise_cons.1 hl).2 (List.pairwise_cons.1 hm).2 (List.perm_cons a |>.1 h)]

/-- Behind the inner loop: the one that was moved stands where it belongs. -/
theorem insert_sorted {f : Int → Int} {p1 p2 : List Int} {x : Int} (hs : (p1 ++ p2).Pairwise (Lt f)) (h2 : ∀ y ∈ p2, f x < f y) (hlt : ∀ y ∈ p1, y < x)
    (hstop : p1 = [] ∨ ∃ q z, p1 = q ++ [z] ∧ f z ≤ f x) : (p1 ++ x :: p2).Pairwise (Lt f) := by
  rw [List.pairwise_append] at hs ⊢
  obtain ⟨s1, s2, s3⟩ := hs
  refine ⟨s1, List.pairwise_cons.2 ⟨fun y hy => Or.inl (h2 y hy), s2⟩, fun a ha b hb => ?_⟩
  rcases List.mem_cons.1 hb with rfl | hb
  · rcases hstop with rfl | ⟨q, z, rfl, hz⟩
    · simp at ha
    · have hax := hlt a ha
      have : f a ≤ f z := by
        rcases List.mem_append.1 ha with ha | ha
        · have := (List.pairwise_append.1 s1).2.2 a ha z (by simp)
          unfold Lt at this; omega
        · have : a = z := by simpa using ha
          subst this; exact Int.le_refl _
      unfold Lt; omega
  · exact s3 a ha b hb
theorem swap_list (q p2 r : List Int) (z x : Int) : (((q ++ [z]) ++ x :: p2 ++ r).set (q.length + 1) z).set q.length x = q ++ x :: (z :: p2) ++ r := by
  induction q with
  | nil => simp
  | cons a q ih => simp
end Go.Proofs.Ytimojijbjmchkaa.Du
