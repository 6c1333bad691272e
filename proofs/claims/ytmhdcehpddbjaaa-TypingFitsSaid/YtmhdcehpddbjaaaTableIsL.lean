/- The law TableIs, in plain Lean. -/
import Derived.Test.YtmhdcehpddbjaaaTabE
namespace Go.Proofs.Ytmhdcehpddbjaaa

def Tb.next (u : List Dk) (d : Int) : Int := Tb.find u (Tb.base u d)
theorem Tb.find_congr {u : List Dk} {s t : ByteArray} (h : s.toList = t.toList) : Tb.find u s = Tb.find u t := by
  unfold Tb.find; rw [h]
theorem Tb.chainGo_sub {u : List Dk} {S : Int → Prop} (hS : ∀ x, S x → Tb.kind u (Tb.next u x) = 2 → S (Tb.next u x)) : ∀ (f : Nat) (l : List Int) (c : Int), (∀ x ∈ l, S x) → (Tb.kind u c = 2 → S c) → ∀ x ∈ Tb.chainGo u f l c, S x
  | 0, _, _, hl, _ => hl
  | f + 1, l, c, hl, hc => by
    unfold Tb.chainGo
    by_cases h : Tb.kind u c = 2 ∧ c ∉ l
    · rw [if_pos h]
      exact Tb.chainGo_sub hS f _ _ (fun x hx => by
        rcases List.mem_append.1 hx with hx | hx
        · exact hl x hx
        · have : x = c := by simpa using hx
          exact this ▸ hc h.1) (fun hk => hS c (hc h.1) hk)
    · rw [if_neg h]; exact hl
theorem Tb.chain_closed_go {u : List Dk} {d0 : Int} : ∀ (m : Nat) (l : List Int) (c : Int), u.length - l.length ≤ m → Tb.ChainAt u d0 l c → (∀ x ∈ l, Tb.kind u x = 2 ∧ (Tb.kind u (Tb.next u x) = 2 → Tb.next u x ∈ l ∨ Tb.next u x = c)) →
    ∀ x ∈ Tb.chain u d0, Tb.kind u x = 2 ∧ (Tb.kind u (Tb.next u x) = 2 → Tb.next u x ∈ Tb.chain u d0) := by
  intro m
  induction m with
  | zero =>
    intro l c hm h hi
    by_cases hs : Tb.kind u c = 2 ∧ c ∉ l
    · have h1 := (h.next hs.1 hs.2).len
      simp at h1; omega
    · have he := h.stop hs
      intro x hx
      rw [← he] at hx ⊢
      refine ⟨(hi x hx).1, fun hk => ?_⟩
      rcases (hi x hx).2 hk with h1 | h1
      · exact h1
      · rw [h1] at hk ⊢
        exact Classical.byContradiction fun hn => hs ⟨hk, hn⟩
  | succ m ih =>
    intro l c hm h hi
    by_cases hs : Tb.kind u c = 2 ∧ c ∉ l
    · refine ih (l ++ [c]) (Tb.next u c) (by simp; omega) (h.next hs.1 hs.2) (fun x hx => ?_)
      rcases List.mem_append.1 hx with hx | hx
      · refine ⟨(hi x hx).1, fun hk => ?_⟩
        rcases (hi x hx).2 hk with h1 | h1
        · exact Or.inl (List.mem_append_left _ h1)
        · exact Or.inl (List.mem_append_right _ (by simp [h1]))
      · have : x = c := by simpa using hx
        subst this
        exact ⟨hs.1, fun _ => Or.inr rfl⟩
    · have he := h.stop hs
      intro x hx
      rw [← he] at hx ⊢
      refine ⟨(hi x hx).1, fun hk => ?_⟩
      rcases (hi x hx).2 hk with h1 | h1
      · exact h1
      · rw [h1] at hk ⊢
        exact Classical.byContradiction fun hn => hs ⟨hk, hn⟩
theorem Tb.chain_closed {u : List Dk} {d : Int} : ∀ x ∈ Tb.chain u d, Tb.kind u x = 2 ∧ (Tb.kind u (Tb.next u x) = 2 → Tb.next u x ∈ Tb.chain u d) :=
  Tb.chain_closed_go u.length [] d (by simp) (Tb.ChainAt.start u d) (fun x hx => by cases hx)
/-- The chain of one on a chain lies on it. -/
theorem Tb.chain_sub {u : List Dk} {d e : Int} (h : e ∈ Tb.chain u d) : ∀ x ∈ Tb.chain u e, x ∈ Tb.chain u d :=
  Tb.chainGo_sub (S := fun x => x ∈ Tb.chain u d) (fun x hx hk => (Tb.chain_closed x hx).2 hk) _ [] e (fun x hx => by cases hx) (fun _ => h)
theorem Tb.chainGo_mem {u : List Dk} : ∀ (f : Nat) (l : List Int) (c : Int), ∀ x ∈ l, x ∈ Tb.chainGo u f l c
  | 0, _, _, _, h => h
  | f + 1, l, c, x, h => by
    unfold Tb.chainGo
    split
    · exact Tb.chainGo_mem f _ _ x (List.mem_append_left _ h)
    · exact h
theorem Tb.chain_self {u : List Dk} {d : Int} (h : Tb.kind u d = 2) : d ∈ Tb.chain u d := by
  unfold Tb.chain Tb.chainGo
  rw [if_pos ⟨h, by simp⟩]
  exact Tb.chainGo_mem _ _ _ d (by simp)
theorem Tb.chain_none {u : List Dk} {d : Int} (h : Tb.kind u d ≠ 2) : Tb.chain u d = [] := by
  unfold Tb.chain Tb.chainGo
  rw [if_neg (fun h' => h h'.1)]
/-- Each on a chain but the first is found by a name. -/
theorem Tb.chain_found {u : List Dk} {d : Int} (S : Int → Prop) (hd : S d) (hf : ∀ s, S (Tb.find u s)) : ∀ x ∈ Tb.chain u d, S x :=
  Tb.chainGo_sub (S := S) (fun _ _ _ => hf _) _ [] d (fun x hx => by cases hx) (fun _ => hd)
theorem Tb.mem_addFaces {u : List Dk} {f : Int} : ∀ (ss : List ByteArray) (l : List Int), f ∈ ss.foldl (Tb.addFace u) l ↔ f ∈ l ∨ ∃ s ∈ ss, Tb.kind u f = 1 ∧ f = Tb.find u s
  | [], l => by simp
  | s :: ss, l => by
    rw [List.foldl_cons, Tb.mem_addFaces ss]
    have h : f ∈ Tb.addFace u l s ↔ f ∈ l ∨ (Tb.kind u f = 1 ∧ f = Tb.find u s) := by
      unfold Tb.addFace
      split
      · rename_i h
        constructor
        · intro h'
          rcases List.mem_append.1 h' with h' | h'
          · exact Or.inl h'
          · have : f = Tb.find u s := by simpa using h'
            exact Or.inr ⟨this ▸ h.1, this⟩
        · rintro (h' | ⟨_, h'⟩)
          · exact List.mem_append_left _ h'
          · exact List.mem_append_right _ (by simp [h'])
      · rename_i h
        constructor
        · exact Or.inl
        · rintro (h' | ⟨h1, h2⟩)
          · exact h'
          · exact Classical.byContradiction fun hn => h ⟨h2 ▸ h1, h2 ▸ hn⟩
    rw [h]
    constructor
    · rintro ((h1 | h1) | ⟨s', h1, h2⟩)
      · exact Or.inl h1
      · exact Or.inr ⟨s, by simp, h1⟩
      · exact Or.inr ⟨s', List.mem_cons_of_mem _ h1, h2⟩
    · rintro (h1 | ⟨s', h1, h2⟩)
      · exact Or.inl (Or.inl h1)
      · rcases List.mem_cons.1 h1 with rfl | h1
        · exact Or.inl (Or.inr h2)
        · exact Or.inr ⟨s', h1, h2⟩
theorem Tb.mem_facesGo {u : List Dk} {f : Int} : ∀ (cs l : List Int), f ∈ cs.foldl (fun l c => (Tb.facesOf u c).foldl (Tb.addFace u) l) l ↔ f ∈ l ∨ ∃ c ∈ cs, ∃ s ∈ Tb.facesOf u c, Tb.kind u f = 1 ∧ f = Tb.find u s
  | [], l => by simp
  | c :: cs, l => by
    rw [List.foldl_cons, Tb.mem_facesGo cs, Tb.mem_addFaces]
    constructor
    · rintro ((h1 | h1) | ⟨c', h1, h2⟩)
      · exact Or.inl h1
      · exact Or.inr ⟨c, by simp, h1⟩
      · exact Or.inr ⟨c', List.mem_cons_of_mem _ h1, h2⟩
    · rintro (h1 | ⟨c', h1, h2⟩)
      · exact Or.inl (Or.inl h1)
      · rcases List.mem_cons.1 h1 with rfl | h1
        · exact Or.inl (Or.inr h2)
        · exact Or.inr ⟨c', h1, h2⟩
theorem Tb.mem_faces {u : List Dk} {d f : Int} : f ∈ Tb.faces u d ↔ ∃ c ∈ Tb.chain u d, ∃ s ∈ Tb.facesOf u c, Tb.kind u f = 1 ∧ f = Tb.find u s := by
  unfold Tb.faces
  rw [Tb.mem_facesGo]; simp
theorem Tb.faces_sub {u : List Dk} {d e : Int} (h : e ∈ Tb.chain u d) : ∀ x ∈ Tb.faces u e, x ∈ Tb.faces u d := by
  intro x hx
  obtain ⟨c, hc, r⟩ := Tb.mem_faces.1 hx
  exact Tb.mem_faces.2 ⟨c, Tb.chain_sub h c hc, r⟩

theorem Tb.is_congr {u : List Dk} {x x' y y' : ByteArray} (hx : x.toList = x'.toList) (hy : y.toList = y'.toList) : Tb.is u x y = Tb.is u x' y' := by
  unfold Tb.is; rw [Tb.find_congr hx, Tb.find_congr hy, hx, hy]
/-- What is one of its base's is one of that base's base's, and of all interfaces of its chain. -/
theorem Tb.is_trans {u : List Dk} {x y z : ByteArray} (h1 : Tb.is u x y = true) (h2 : Tb.is u y z = true) : Tb.is u x z = true := by
  have heq : ∀ p q : ByteArray, (p.toList == q.toList) = true → p.toList = q.toList := fun p q h => by simpa using h
  by_cases hA : Tb.kind u (Tb.find u x) = 2 ∧ (Tb.find u y ∈ Tb.chain u (Tb.find u x) ∨ Tb.find u y ∈ Tb.faces u (Tb.find u x))
  · by_cases hB : Tb.kind u (Tb.find u y) = 2 ∧ (Tb.find u z ∈ Tb.chain u (Tb.find u y) ∨ Tb.find u z ∈ Tb.faces u (Tb.find u y))
    · have hc : Tb.find u y ∈ Tb.chain u (Tb.find u x) := by
        rcases hA.2 with h | h
        · exact h
        · obtain ⟨_, _, _, _, hk, _⟩ := Tb.mem_faces.1 h
          have := hB.1; omega
      unfold Tb.is
      rw [if_pos ⟨hA.1, hB.2.elim (fun h => Or.inl (Tb.chain_sub hc _ h)) (fun h => Or.inr (Tb.faces_sub hc _ h))⟩]
    · have he : y.toList = z.toList := by
        unfold Tb.is at h2
        rw [if_neg hB] at h2
        split at h2
        · exact heq _ _ h2
        · cases h2
      exact (Tb.is_congr rfl he).symm.trans h1
  · have he : x.toList = y.toList := by
      unfold Tb.is at h1
      rw [if_neg hA] at h1
      split at h1
      · exact heq _ _ h1
      · cases h1
    exact (Tb.is_congr he rfl).trans h2
theorem Tb.is_self {u : List Dk} {x : ByteArray} : Tb.is u x x = decide (Tb.kind u (Tb.find u x) = 2 ∨ Tb.kind u (Tb.find u x) = 1) := by
  unfold Tb.is
  by_cases h2 : Tb.kind u (Tb.find u x) = 2
  · rw [if_pos ⟨h2, Or.inl (Tb.chain_self h2)⟩]; simp [h2]
  · rw [if_neg (fun h => h2 h.1)]
    by_cases h1 : Tb.kind u (Tb.find u x) = 1 <;> simp [h1, h2]
theorem Tb.is_thing {u : List Dk} {x y : ByteArray} (h : ¬ (Tb.kind u (Tb.find u x) = 2 ∨ Tb.kind u (Tb.find u x) = 1)) : Tb.is u x y = false := by
  unfold Tb.is
  rw [if_neg (fun h' => h (Or.inl h'.1)), if_neg h]
/-- What a name finds has that name. -/
theorem Tb.find_name {u : List Dk} {s : ByteArray} {i : Nat} (h : Tb.find u s = i) : ∃ d, u[i]? = some d ∧ d.name.toList = s.toList := by
  unfold Tb.find at h
  cases hf : u.findIdx? (fun d => d.name.toList == s.toList) with
  | none => rw [hf] at h; simp at h
  | some k =>
    rw [hf] at h
    obtain rfl : k = i := Int.ofNat_inj.1 h
    obtain ⟨hk, h1, _⟩ := List.findIdx?_eq_some_iff_getElem.1 hf
    exact ⟨u[k], List.getElem?_eq_getElem hk, by simpa using h1⟩
/-- It is each of its chain, and of its interfaces. -/
theorem Tb.is_chain {u : List Dk} {x : ByteArray} {i : Nat} {d : Dk} (hc : (i : Int) ∈ Tb.chain u (Tb.find u x)) (hd : u[i]? = some d) : Tb.is u x d.name = true := by
  have hk : Tb.kind u (Tb.find u x) = 2 := Classical.byContradiction fun h => by rw [Tb.chain_none h] at hc; cases hc
  have hf : Tb.find u d.name = i := Tb.chain_found (u := u) (d := Tb.find u x) (fun c => ∀ (i : Nat) (d : Dk), c = i → u[i]? = some d → Tb.find u d.name = i)
    (fun i d h1 h2 => by obtain ⟨d', h3, h4⟩ := Tb.find_name h1; obtain rfl : d' = d := by simpa [h2] using h3.symm
                         exact (Tb.find_congr h4).trans h1)
    (fun s i d h1 h2 => by obtain ⟨d', h3, h4⟩ := Tb.find_name h1; obtain rfl : d' = d := by simpa [h2] using h3.symm
                           exact (Tb.find_congr h4).trans h1) _ hc i d rfl hd
  unfold Tb.is
  rw [hf, if_pos ⟨hk, Or.inl hc⟩]
theorem Tb.is_face {u : List Dk} {x : ByteArray} {i : Nat} {d : Dk} (hc : (i : Int) ∈ Tb.faces u (Tb.find u x)) (hd : u[i]? = some d) : Tb.is u x d.name = true := by
  obtain ⟨c, h1, s, h2, h3, h4⟩ := Tb.mem_faces.1 hc
  have hk : Tb.kind u (Tb.find u x) = 2 := Classical.byContradiction fun h => by rw [Tb.chain_none h] at h1; cases h1
  obtain ⟨d', h5, h6⟩ := Tb.find_name h4.symm
  obtain rfl : d' = d := by simpa [hd] using h5.symm
  unfold Tb.is
  rw [(Tb.find_congr h6).trans h4.symm, if_pos ⟨hk, Or.inr hc⟩]
end Go.Proofs.Ytmhdcehpddbjaaa
