/- A declaration more, behind all others, of a name that none bears or asks for: what is told of the others is as it was. In plain Lean. -/
import Derived.Test.YtjhlcfaakhabfaaTabG
import Derived.Test.YtjhlcfaakhabfaaTabFieldsSpec
import Derived.Test.YtjhlcfaakhabfaaTableIsL
namespace Go.Proofs.Ytjhlcfaakhabfaa

/-- None bears that name, or asks for it. -/
structure Tb.Fresh (u : List Dk) (s : ByteArray) : Prop where
  names : ∀ d ∈ u, d.name.toList ≠ s.toList
  bases : ∀ d ∈ u, d.base.toList ≠ s.toList
  faces : ∀ d ∈ u, ∀ f ∈ d.faces, f.toList ≠ s.toList

section
variable {u : List Dk} {e : Dk}
theorem Tb.find_more {s : ByteArray} (h : s.toList ≠ e.name.toList) : Tb.find (u ++ [e]) s = Tb.find u s := by
  unfold Tb.find
  have h1 : (e.name.toList == s.toList) = false := by simpa using fun h' => h h'.symm
  rw [List.findIdx?_append]
  cases List.findIdx? (fun d => d.name.toList == s.toList) u <;> simp [h1]
theorem Tb.find_new (h : Tb.Fresh u e.name) : Tb.find (u ++ [e]) e.name = u.length := by
  unfold Tb.find
  have h1 : u.findIdx? (fun d => d.name.toList == e.name.toList) = none := by
    rw [List.findIdx?_eq_none_iff]
    intro d hd
    simpa using h.names d hd
  rw [List.findIdx?_append, h1]; simp
theorem Tb.at_more {i : Nat} (h : i < u.length) : (u ++ [e])[i]? = u[i]? := List.getElem?_append_left h
theorem Tb.kind_more {d : Int} (h : d < u.length) : Tb.kind (u ++ [e]) d = Tb.kind u d := by
  unfold Tb.kind
  by_cases h0 : 0 ≤ d
  · rw [if_pos h0, if_pos h0, Tb.at_more (by omega)]
  · rw [if_neg h0, if_neg h0]
theorem Tb.chainGo_more (hf : Tb.Fresh u e.name) : ∀ (f : Nat) (l : List Int) (c : Int), c < u.length → Tb.chainGo (u ++ [e]) f l c = Tb.chainGo u f l c
  | 0, _, _, _ => rfl
  | f + 1, l, c, hc => by
    unfold Tb.chainGo
    rw [Tb.kind_more hc]
    by_cases h : Tb.kind u c = 2 ∧ c ∉ l
    · rw [if_pos h, if_pos h]
      obtain ⟨i, x, rfl, hx, _, hi⟩ := Tb.kind_in h.1 (by decide)
      have hb : Tb.base (u ++ [e]) i = Tb.base u i := by unfold Tb.base; rw [Tb.at_more (by simpa using hi)]
      have hbx : Tb.base u i = x.base := by unfold Tb.base; simp [hx]
      rw [hb, Tb.find_more (by rw [hbx]; exact hf.bases x (List.mem_of_getElem? hx))]
      exact Tb.chainGo_more hf f _ _ (Tb.find_range u _).2
    · rw [if_neg h, if_neg h]
theorem Tb.chainGo_fuel {d : Int} : ∀ (f : Nat) (l : List Int) (c : Int), Tb.ChainAt u d l c → u.length - l.length < f → Tb.chainGo u f l c = Tb.chain u d
  | 0, _, _, _, h => absurd h (Nat.not_lt_zero _)
  | f + 1, l, c, hA, h => by
    unfold Tb.chainGo
    by_cases hs : Tb.kind u c = 2 ∧ c ∉ l
    · rw [if_pos hs]
      have hn := hA.next hs.1 hs.2
      have h1 := hn.len
      simp at h1
      exact Tb.chainGo_fuel f _ _ hn (by simp; omega)
    · rw [if_neg hs]; exact hA.stop hs
theorem Tb.chain_more (hf : Tb.Fresh u e.name) {d : Int} (hd : d < u.length) : Tb.chain (u ++ [e]) d = Tb.chain u d := by
  show Tb.chainGo (u ++ [e]) ((u ++ [e]).length + 1) [] d = _
  rw [Tb.chainGo_more hf _ _ _ hd]
  exact Tb.chainGo_fuel _ _ _ (Tb.ChainAt.start u d) (by simp; omega)
theorem Tb.foldl_same {α β : Type} {f g : β → α → β} : ∀ (l : List α) (b : β), (∀ a ∈ l, ∀ b, f b a = g b a) → l.foldl f b = l.foldl g b
  | [], _, _ => rfl
  | a :: l, b, h => by
    rw [List.foldl_cons, List.foldl_cons, h a (by simp)]
    exact Tb.foldl_same l _ fun x hx => h x (by simp [hx])
theorem Tb.addFace_more {s : ByteArray} (h : s.toList ≠ e.name.toList) (l : List Int) : Tb.addFace (u ++ [e]) l s = Tb.addFace u l s := by
  unfold Tb.addFace
  rw [Tb.find_more h, Tb.kind_more (Tb.find_range u s).2]
theorem Tb.faces_more (hf : Tb.Fresh u e.name) {d : Int} (hd : d < u.length) : Tb.faces (u ++ [e]) d = Tb.faces u d := by
  unfold Tb.faces
  rw [Tb.chain_more hf hd]
  refine Tb.foldl_same _ _ fun c hc l => ?_
  obtain ⟨h0, h1, _⟩ := Tb.chain_in u d c hc
  obtain ⟨i, rfl⟩ := Int.eq_ofNat_of_zero_le h0
  have hi : i < u.length := by omega
  have e1 : Tb.facesOf (u ++ [e]) i = Tb.facesOf u i := by unfold Tb.facesOf; rw [Tb.at_more (by simpa using hi)]
  rw [e1]
  refine Tb.foldl_same _ _ fun s hs l => Tb.addFace_more ?_ l
  obtain ⟨x, hx⟩ : ∃ x, u[i]? = some x := ⟨_, List.getElem?_eq_getElem hi⟩
  have e2 : Tb.facesOf u i = x.faces := by unfold Tb.facesOf; simp [hx]
  rw [e2] at hs
  exact hf.faces x (List.mem_of_getElem? hx) s hs
theorem Tb.varsOf_more {c : Int} (h0 : 0 ≤ c) (h : c < u.length) : Tb.varsOf (u ++ [e]) c = Tb.varsOf u c := by
  unfold Tb.varsOf; rw [Tb.at_more (by omega)]
theorem Tb.fields_more (hf : Tb.Fresh u e.name) {d : Int} (hd : d < u.length) : Tb.fields (u ++ [e]) d = Tb.fields u d := by
  unfold Tb.fields
  rw [Tb.kind_more hd, Tb.chain_more hf hd]
  by_cases h2 : Tb.kind u d = 2
  · rw [if_pos h2, if_pos h2]
    congr 1
    refine List.map_congr_left fun c hc => ?_
    obtain ⟨h0, h1, _⟩ := Tb.chain_in u d c (by simpa using hc)
    exact Tb.varsOf_more h0 h1
  · rw [if_neg h2, if_neg h2]
    by_cases h3 : Tb.kind u d = 3
    · rw [if_pos h3, if_pos h3]
      obtain ⟨i, x, rfl, _, _, hi⟩ := Tb.kind_in h3 (by decide)
      exact Tb.varsOf_more (by omega) (by omega)
    · rw [if_neg h3, if_neg h3]
theorem Tb.is_more (hf : Tb.Fresh u e.name) {a b : ByteArray} (ha : a.toList ≠ e.name.toList) (hb : b.toList ≠ e.name.toList) : Tb.is (u ++ [e]) a b = Tb.is u a b := by
  unfold Tb.is
  have h := (Tb.find_range u a).2
  rw [Tb.find_more ha, Tb.find_more hb, Tb.kind_more h, Tb.chain_more hf h, Tb.faces_more hf h]
theorem Tb.methodIn_more {s : ByteArray} : ∀ zs : List Int, (∀ z ∈ zs, 0 ≤ z ∧ z < u.length) → Tb.methodIn (u ++ [e]) s zs = Tb.methodIn u s zs
  | [], _ => rfl
  | c :: cs, h => by
    obtain ⟨h0, h1⟩ := h c (by simp)
    have e1 : Tb.msOf (u ++ [e]) c = Tb.msOf u c := by unfold Tb.msOf; rw [Tb.at_more (by omega)]
    unfold Tb.methodIn
    rw [e1, Tb.methodIn_more cs fun z hz => h z (by simp [hz])]
theorem Tb.method_more (hf : Tb.Fresh u e.name) {d : Int} {s : ByteArray} (hd : d < u.length) : Tb.method (u ++ [e]) d s = Tb.method u d s := by
  unfold Tb.method
  rw [Tb.kind_more hd, Tb.chain_more hf hd]
  refine Tb.methodIn_more _ fun z hz => ?_
  split at hz
  · rename_i h1
    obtain ⟨i, x, rfl, _, _, hi⟩ := Tb.kind_in h1 (by decide)
    have : z = i := by simpa using hz
    omega
  · obtain ⟨h0, h1, _⟩ := Tb.chain_in u d z hz
    exact ⟨h0, h1⟩
end
end Go.Proofs.Ytjhlcfaakhabfaa
