/- A line of classes, each of which extends the one ahead: what is told of them, in plain Lean. -/
import Derived.Test.YtjhlcfaakhabfaaTabGrowL
import Derived.Test.YtjhlcfaakhabfaaTableIsL
namespace Go.Proofs.Ytjhlcfaakhabfaa

theorem toList_loop (s : ByteArray) : ∀ (n i : Nat) (r : List UInt8), s.size - i ≤ n → ByteArray.toList.loop s i r = r.reverse ++ s.data.toList.drop i
  | 0, i, r, h => by
    unfold ByteArray.toList.loop
    have h2 : s.data.toList.length ≤ i := by rw [Array.length_toList]; show s.size ≤ i; omega
    rw [if_neg (by omega), List.drop_eq_nil_of_le h2, List.append_nil]
  | n + 1, i, r, h => by
    unfold ByteArray.toList.loop
    split
    · rename_i hi
      rw [toList_loop s n (i + 1) _ (by omega)]
      have h1 : i < s.data.toList.length := by rw [Array.length_toList]; exact hi
      rw [List.drop_eq_getElem_cons h1, List.reverse_cons, List.append_assoc]
      congr 2
      have e := Array.getElem?_eq_getElem (xs := s.data) hi
      simp [ByteArray.get!, getElem!_def, e]
    · rename_i hi
      have h2 : s.data.toList.length ≤ i := by rw [Array.length_toList]; show s.size ≤ i; omega
      rw [List.drop_eq_nil_of_le h2, List.append_nil]
theorem toList_data (s : ByteArray) : s.toList = s.data.toList := by
  have h := toList_loop s s.size 0 [] (by omega)
  unfold ByteArray.toList
  rw [h]; simp

/-- The digit of a number below ten, and the names that are made of it. -/
def Ln.dg (i : Nat) : ByteArray := (⟨#[48, 49, 50, 51, 52, 53, 54, 55, 56, 57]⟩ : ByteArray).extract i (i + 1)
def Ln.cn (i : Nat) : ByteArray := (⟨#[67]⟩ : ByteArray) ++ Ln.dg i
def Ln.fn (i : Nat) : ByteArray := (⟨#[102]⟩ : ByteArray) ++ Ln.dg i
def Ln.fv (i : Nat) : Vd := ⟨Ln.fn i, ⟨0, 0, 0, ⟨#[]⟩⟩, i, 0, 0⟩
def Ln.md : Md := ⟨⟨#[109]⟩, false, false, false, none, [], 0, ⟨0, 0, 0, ⟨#[]⟩⟩, none, [], 0, none, [], 0⟩
theorem Ln.cn_list (i : Nat) (h : i < 10) : (Ln.cn i).toList = [67, UInt8.ofNat (48 + i)] := by
  rw [toList_data]
  match i, h with
  | 0, _ => rfl
  | 1, _ => rfl
  | 2, _ => rfl
  | 3, _ => rfl
  | 4, _ => rfl
  | 5, _ => rfl
  | 6, _ => rfl
  | 7, _ => rfl
  | 8, _ => rfl
  | 9, _ => rfl
theorem Ln.cn_ne {i j : Nat} (hi : i < 10) (hj : j < 10) (h : i ≠ j) : ((Ln.cn i).toList == (Ln.cn j).toList) = false := by
  rw [Ln.cn_list i hi, Ln.cn_list j hj]
  have : UInt8.ofNat (48 + i) ≠ UInt8.ofNat (48 + j) := fun e => h (by
    have h3 := congrArg UInt8.toNat e
    rw [UInt8.toNat_ofNat', UInt8.toNat_ofNat'] at h3
    omega)
  rw [beq_eq_false_iff_ne]
  intro e
  exact this (List.cons.inj (List.cons.inj e).2).1
/-- One of a line: the i-th; the own-th and the first have the method. -/
structure Ln.Is (own i : Nat) (d : Dk) : Prop where
  kind : d.kind = 2
  name : d.name = Ln.cn i
  base0 : i = 0 → d.base = ⟨#[]⟩
  base1 : ∀ q, i = q + 1 → d.base = Ln.cn q
  faces : d.faces = []
  vars : d.vs = [Ln.fv i]
  meth1 : i = own ∨ i = 0 → d.ms = [Ln.md]
  meth0 : ¬ (i = own ∨ i = 0) → d.ms = []
def Ln.Line (own : Nat) (l : List Dk) : Prop := ∀ (i : Nat) d, l[i]? = some d → Ln.Is own i d
section
variable {own : Nat} {l : List Dk}
theorem Ln.Line.at_ (h : Ln.Line own l) {i : Nat} (hi : i < l.length) : ∃ d, l[i]? = some d ∧ Ln.Is own i d := ⟨_, List.getElem?_eq_getElem hi, h i _ (List.getElem?_eq_getElem hi)⟩
theorem Ln.find (h : Ln.Line own l) (hl : l.length ≤ 10) {i : Nat} (hi : i < l.length) : Tb.find l (Ln.cn i) = i := by
  obtain ⟨d, hd, hI⟩ := h.at_ hi
  refine Tb.find_hit hd (by rw [hI.name]; simp) fun j hj e he => ?_
  rw [(h j e he).name]
  exact Ln.cn_ne (by omega) (by omega) (by omega)
theorem Ln.find0 (h : Ln.Line own l) (hl : l.length ≤ 10) : Tb.find l ⟨#[]⟩ = -1 := by
  refine Tb.find_miss fun j hj e he => ?_
  rw [(h j e he).name, Ln.cn_list j (by omega), toList_data]; rfl
theorem Ln.kind (h : Ln.Line own l) {i : Nat} (hi : i < l.length) : Tb.kind l i = 2 := by
  obtain ⟨d, hd, hI⟩ := h.at_ hi
  unfold Tb.kind
  rw [if_pos (by omega)]; simp [hd, hI.kind]
/-- From a down to j + 1. -/
def Ln.down : Nat → Nat → List Int
  | _, 0 => []
  | a, n + 1 => (a : Int) :: Ln.down (a - 1) n
theorem Ln.down_mem : ∀ (n a : Nat), n ≤ a + 1 → ∀ x, x ∈ Ln.down a n ↔ ∃ i : Nat, x = i ∧ i ≤ a ∧ a < i + n
  | 0, a, _, x => by simp only [Ln.down, List.not_mem_nil, false_iff]; rintro ⟨i, _, h1, h2⟩; omega
  | n + 1, a, hn, x => by
    simp only [Ln.down, List.mem_cons]
    rcases a with _ | a
    · obtain rfl : n = 0 := by omega
      simp [Ln.down]
    · rw [show a + 1 - 1 = a by omega, Ln.down_mem n a (by omega)]
      constructor
      · rintro (rfl | ⟨i, rfl, h1, h2⟩)
        · exact ⟨a + 1, rfl, by omega, by omega⟩
        · exact ⟨i, rfl, by omega, by omega⟩
      · rintro ⟨i, rfl, h1, h2⟩
        rcases Nat.lt_or_ge a i with h | h
        · exact Or.inl (by omega)
        · exact Or.inr ⟨i, rfl, h, by omega⟩
theorem Ln.down_snoc : ∀ (n a : Nat), n ≤ a → Ln.down a (n + 1) = Ln.down a n ++ [((a - n : Nat) : Int)]
  | 0, a, _ => by simp [Ln.down]
  | n + 1, a, h => by
    show (a : Int) :: Ln.down (a - 1) (n + 1) = (a : Int) :: Ln.down (a - 1) n ++ _
    rw [Ln.down_snoc n (a - 1) (by omega), show a - 1 - n = a - (n + 1) by omega]; rfl
theorem Ln.chain_go (h : Ln.Line own l) (hl : l.length ≤ 10) {a : Nat} (ha : a < l.length) : ∀ n : Nat, n ≤ a → Tb.ChainAt l a (Ln.down a n) ((a - n : Nat) : Int)
  | 0, _ => Tb.ChainAt.start l a
  | n + 1, hn => by
    have ih := Ln.chain_go h hl ha n (by omega)
    have h2 := ih.next (Ln.kind h (by omega)) (fun hm => by
      obtain ⟨i, e, h1, h3⟩ := (Ln.down_mem n a (by omega) _).1 hm
      omega)
    obtain ⟨d, hd, hI⟩ := h.at_ (i := a - n) (by omega)
    have hb : Tb.base l ((a - n : Nat) : Int) = Ln.cn (a - (n + 1)) := by
      unfold Tb.base
      simp only [Int.toNat_natCast, hd]
      exact hI.base1 _ (by omega)
    rw [hb, Ln.find h hl (by omega), ← Ln.down_snoc n a (by omega)] at h2
    exact h2
theorem Ln.chain (h : Ln.Line own l) (hl : l.length ≤ 10) {a : Nat} (ha : a < l.length) : Tb.chain l a = Ln.down a (a + 1) := by
  have h1 := Ln.chain_go h hl ha a (Nat.le_refl _)
  rw [Nat.sub_self] at h1
  have h2 := h1.next (Ln.kind h (by omega)) (fun hm => by
    obtain ⟨i, e, h1, h3⟩ := (Ln.down_mem a a (by omega) _).1 hm
    omega)
  obtain ⟨d, hd, hI⟩ := h.at_ (i := 0) (by omega)
  have hb : Tb.base l ((0 : Nat) : Int) = ⟨#[]⟩ := by
    unfold Tb.base
    simp only [Int.toNat_natCast, hd]
    exact hI.base0 rfl
  rw [hb, Ln.find0 h hl] at h2
  have h3 := h2.stop (fun h' => by
    have : Tb.kind l (-1) = 0 := by unfold Tb.kind; simp
    rw [this] at h'; exact absurd h'.1 (by decide))
  rw [← h3, Ln.down_snoc a a (Nat.le_refl _), Nat.sub_self]
theorem Ln.faces (h : Ln.Line own l) (d : Int) : Tb.faces l d = [] := by
  rw [List.eq_nil_iff_forall_not_mem]
  intro x hx
  obtain ⟨c, hc, s, hs, _⟩ := Tb.mem_faces.1 hx
  obtain ⟨h0, h1, _⟩ := Tb.chain_in l d c hc
  obtain ⟨i, rfl⟩ := Int.eq_ofNat_of_zero_le h0
  obtain ⟨e, he, hI⟩ := h.at_ (i := i) (by omega)
  unfold Tb.facesOf at hs
  simp only [Int.toNat_natCast, he, hI.faces] at hs
  cases hs
theorem Ln.is (h : Ln.Line own l) (hl : l.length ≤ 10) {a i : Nat} (ha : a < l.length) (hi : i < l.length) : Tb.is l (Ln.cn a) (Ln.cn i) = decide ((i : Int) ≤ a) := by
  unfold Tb.is
  rw [Ln.find h hl ha, Ln.find h hl hi, Ln.kind h ha, Ln.chain h hl ha, Ln.faces h]
  by_cases hia : i ≤ a
  · rw [if_pos ⟨rfl, Or.inl ((Ln.down_mem _ _ (Nat.le_refl _) _).2 ⟨i, rfl, hia, by omega⟩)⟩]
    simp; omega
  · rw [if_neg (fun h' => by
      rcases h'.2 with h2 | h2
      · obtain ⟨j, e, h3, _⟩ := (Ln.down_mem _ _ (Nat.le_refl _) _).1 h2
        omega
      · cases h2), if_pos (Or.inl rfl), Ln.cn_ne (by omega) (by omega) (by omega)]
    simp; omega
theorem Ln.down_rev : ∀ (f : Int → List Vd) (a : Nat), (∀ i : Nat, i ≤ a → f i = [Ln.fv i]) → ((Ln.down a (a + 1)).reverse.map f).flatten = (List.range (a + 1)).map Ln.fv
  | f, 0, h => by simp [Ln.down]; simpa using h 0 (Nat.le_refl _)
  | f, a + 1, h => by
    show (((((a + 1 : Nat) : Int) :: Ln.down a (a + 1)).reverse).map f).flatten = _
    rw [List.reverse_cons, List.map_append, List.flatten_append, Ln.down_rev f a (fun i hi => h i (by omega)), List.range_succ (n := a + 1), List.map_append]
    simp [h (a + 1) (Nat.le_refl _)]
    simpa using h (a + 1) (Nat.le_refl _)
theorem Ln.fields (h : Ln.Line own l) (hl : l.length ≤ 10) {a : Nat} (ha : a < l.length) : Tb.fields l a = (List.range (a + 1)).map Ln.fv := by
  unfold Tb.fields
  rw [if_pos (Ln.kind h ha), Ln.chain h hl ha]
  refine Ln.down_rev _ a fun i hi => ?_
  obtain ⟨d, hd, hI⟩ := h.at_ (i := i) (by omega)
  rw [Tb.varsOf_at hd, hI.vars]
theorem Ln.mind1 : Tb.mindex [Ln.md] ⟨#[109]⟩ = 0 := by unfold Tb.mindex; simp [Ln.md]
theorem Ln.mind0 (s : ByteArray) : Tb.mindex [] s = -1 := rfl
theorem Ln.mindn : Tb.mindex [Ln.md] ⟨#[110]⟩ = -1 := by
  unfold Tb.mindex
  have : ((Ln.md.name).toList == (⟨#[110]⟩ : ByteArray).toList) = false := by rw [toList_data, toList_data]; rfl
  simp only [List.findIdx?_cons, this]
  rfl
theorem Ln.methodIn (h : Ln.Line own l) : ∀ a : Nat, a < l.length → Tb.methodIn l ⟨#[109]⟩ (Ln.down a (a + 1)) = (if own ≤ a then (own : Int) else 0, 0, true)
  | 0, ha => by
    obtain ⟨d, hd, hI⟩ := h.at_ ha
    have e1 : Tb.msOf l ((0 : Nat) : Int) = [Ln.md] := by unfold Tb.msOf; simp only [Int.toNat_natCast, hd]; exact hI.meth1 (Or.inr rfl)
    show Tb.methodIn l ⟨#[109]⟩ [((0 : Nat) : Int)] = _
    unfold Tb.methodIn
    rw [e1, Ln.mind1, if_pos (by decide)]
    by_cases h0 : own ≤ 0
    · rw [if_pos h0, show own = 0 by omega]
    · rw [if_neg h0]; rfl
  | a + 1, ha => by
    obtain ⟨d, hd, hI⟩ := h.at_ ha
    show Tb.methodIn l ⟨#[109]⟩ (((a + 1 : Nat) : Int) :: Ln.down a (a + 1)) = _
    unfold Tb.methodIn
    by_cases ho : a + 1 = own
    · have e1 : Tb.msOf l ((a + 1 : Nat) : Int) = [Ln.md] := by unfold Tb.msOf; simp only [Int.toNat_natCast, hd]; exact hI.meth1 (Or.inl ho)
      rw [e1, Ln.mind1, if_pos (by decide), if_pos (by omega), ho]
    · have e1 : Tb.msOf l ((a + 1 : Nat) : Int) = [] := by unfold Tb.msOf; simp only [Int.toNat_natCast, hd]; exact hI.meth0 (by omega)
      rw [e1, Ln.mind0, if_neg (by decide), Ln.methodIn h a (by omega)]
      by_cases h2 : own ≤ a
      · rw [if_pos h2, if_pos (by omega)]
      · rw [if_neg h2, if_neg (by omega)]
theorem Ln.methodNo (h : Ln.Line own l) : ∀ zs : List Int, (∀ z ∈ zs, 0 ≤ z ∧ z < l.length) → Tb.methodIn l ⟨#[110]⟩ zs = (0, 0, false)
  | [], _ => rfl
  | c :: cs, hz => by
    obtain ⟨h0, h1⟩ := hz c (by simp)
    obtain ⟨i, rfl⟩ := Int.eq_ofNat_of_zero_le h0
    obtain ⟨d, hd, hI⟩ := h.at_ (i := i) (by omega)
    have e1 : Tb.mindex (Tb.msOf l i) ⟨#[110]⟩ = -1 := by
      unfold Tb.msOf
      simp only [Int.toNat_natCast, hd]
      by_cases hm : i = own ∨ i = 0
      · rw [hI.meth1 hm]; exact Ln.mindn
      · rw [hI.meth0 hm]; exact Ln.mind0 _
    unfold Tb.methodIn
    rw [e1, if_neg (by decide), Ln.methodNo h cs fun z hz' => hz z (by simp [hz'])]
theorem Ln.method (h : Ln.Line own l) (hl : l.length ≤ 10) {a : Nat} (ha : a < l.length) : Tb.method l a ⟨#[109]⟩ = (if own ≤ a then (own : Int) else 0, 0, true) := by
  unfold Tb.method
  rw [Ln.kind h ha, if_neg (by decide), Ln.chain h hl ha, Ln.methodIn h a ha]
theorem Ln.noMethod (h : Ln.Line own l) {a : Nat} (ha : a < l.length) : Tb.method l a ⟨#[110]⟩ = (0, 0, false) := by
  unfold Tb.method
  rw [Ln.kind h ha, if_neg (by decide)]
  exact Ln.methodNo h _ fun z hz => ⟨(Tb.chain_in l a z hz).1, (Tb.chain_in l a z hz).2.1⟩
end
end Go.Proofs.Ytjhlcfaakhabfaa
