/- A class's chain, in plain Lean. -/
import Derived.Test.YtmhdcehpddbjaaaTabSpec
namespace Go.Proofs.Ytmhdcehpddbjaaa

theorem Tb.nodup_len : ∀ (n : Nat) (l : List Int), l.Nodup → (∀ x ∈ l, 0 ≤ x ∧ x < n) → l.length ≤ n
  | 0, l, _, h => by
    cases l with
    | nil => simp
    | cons a l => have := h a (by simp); omega
  | n + 1, l, hn, h => by
    by_cases hm : (n : Int) ∈ l
    · have := Tb.nodup_len n (l.erase n) (hn.erase (n : Int)) (fun x hx => by
        have h1 := List.mem_of_mem_erase hx
        have h2 : x ≠ n := ((hn.mem_erase_iff).1 hx).1
        have := h x h1
        omega)
      rw [List.length_erase_of_mem hm] at this
      omega
    · exact Nat.le_trans (Tb.nodup_len n l hn (fun x hx => by
        have := h x hx
        have h2 : x ≠ n := fun e => hm (e ▸ hx)
        omega)) (Nat.le_succ n)

/-- The base of declaration number d. -/
def Tb.base (u : List Dk) (d : Int) : ByteArray := match u[d.toNat]? with | some x => x.base | none => .empty
def Tb.chainGo (u : List Dk) : Nat → List Int → Int → List Int
  | 0, l, _ => l
  | f + 1, l, d => if Tb.kind u d = 2 ∧ d ∉ l then Tb.chainGo u f (l ++ [d]) (Tb.find u (Tb.base u d)) else l
/-- A class, its base, and so on. -/
def Tb.chain (u : List Dk) (d : Int) : List Int := Tb.chainGo u (u.length + 1) [] d
theorem Tb.kind_in {u : List Dk} {d k : Int} (h : Tb.kind u d = k) (hk : k ≠ 0) : ∃ (i : Nat) (x : Dk), d = i ∧ u[i]? = some x ∧ x.kind = k ∧ i < u.length := by
  unfold Tb.kind at h
  by_cases h0 : 0 ≤ d
  · rw [if_pos h0] at h
    obtain ⟨i, rfl⟩ := Int.eq_ofNat_of_zero_le h0
    simp only [Int.toNat_natCast] at h
    cases hx : u[i]? with
    | none => rw [hx] at h; exact absurd h.symm hk
    | some x => rw [hx] at h; exact ⟨i, x, rfl, hx, h, (List.getElem?_eq_some_iff.1 hx).1⟩
  · rw [if_neg h0] at h; exact absurd h.symm hk
/-- What the walk keeps of the list. -/
structure Tb.ChainAt (u : List Dk) (d0 : Int) (l : List Int) (d : Int) : Prop where
  go : Tb.chainGo u (u.length + 1 - l.length) l d = Tb.chain u d0
  nodup : l.Nodup
  inn : ∀ x ∈ l, 0 ≤ x ∧ x < u.length
theorem Tb.ChainAt.start (u : List Dk) (d : Int) : Tb.ChainAt u d [] d := ⟨rfl, List.nodup_nil, by simp⟩
theorem Tb.ChainAt.len {u : List Dk} {d0 d : Int} {l : List Int} (h : Tb.ChainAt u d0 l d) : l.length ≤ u.length := Tb.nodup_len _ _ h.nodup h.inn
theorem Tb.ChainAt.stop {u : List Dk} {d0 d : Int} {l : List Int} (h : Tb.ChainAt u d0 l d) (hs : ¬ (Tb.kind u d = 2 ∧ d ∉ l)) : l = Tb.chain u d0 := by
  have hl := h.len
  rw [← h.go, show u.length + 1 - l.length = (u.length - l.length) + 1 by omega, Tb.chainGo, if_neg hs]
theorem Tb.ChainAt.next {u : List Dk} {d0 d : Int} {l : List Int} (h : Tb.ChainAt u d0 l d) (hk : Tb.kind u d = 2) (hm : d ∉ l) : Tb.ChainAt u d0 (l ++ [d]) (Tb.find u (Tb.base u d)) := by
  have hl := h.len
  obtain ⟨i, x, rfl, _, _, hi⟩ := Tb.kind_in hk (by decide)
  refine ⟨?_, ?_, ?_⟩
  · rw [← h.go, show u.length + 1 - l.length = (u.length + 1 - (l ++ [(i : Int)]).length) + 1 by simp; omega, Tb.chainGo, if_pos ⟨hk, hm⟩]
  · rw [List.nodup_append]
    exact ⟨h.nodup, by simp, fun a ha b hb => by
      have : b = i := by simpa using hb
      subst this
      exact fun e => hm (e ▸ ha)⟩
  · intro y hy
    rcases List.mem_append.1 hy with hy | hy
    · exact h.inn y hy
    · have : y = i := by simpa using hy
      omega
theorem Tb.chain_in (u : List Dk) (d : Int) : ∀ x ∈ Tb.chain u d, 0 ≤ x ∧ x < u.length ∧ Tb.kind u x = 2 := by
  have key : ∀ (f : Nat) (l : List Int) (e : Int), (∀ x : Int, x ∈ l → 0 ≤ x ∧ x < u.length ∧ Tb.kind u x = 2) → ∀ x : Int, x ∈ Tb.chainGo u f l e → 0 ≤ x ∧ x < u.length ∧ Tb.kind u x = 2 := by
    intro f
    induction f with
    | zero => intro l e h; exact h
    | succ f ih =>
      intro l e h
      unfold Tb.chainGo
      by_cases hs : Tb.kind u e = 2 ∧ e ∉ l
      · rw [if_pos hs]
        refine ih _ _ fun x hx => ?_
        rcases List.mem_append.1 hx with hx | hx
        · exact h x hx
        · obtain rfl : x = e := by simpa using hx
          obtain ⟨i, y, rfl, _, _, hi⟩ := Tb.kind_in hs.1 (by decide)
          exact ⟨by omega, by omega, hs.1⟩
      · rw [if_neg hs]; exact h
  exact key _ _ _ (by simp)
theorem Tb.chain_nodup (u : List Dk) (d : Int) : (Tb.chain u d).Nodup := by
  have key : ∀ (f : Nat) (l : List Int) (e : Int), l.Nodup → (Tb.chainGo u f l e).Nodup := by
    intro f
    induction f with
    | zero => intro l e h; exact h
    | succ f ih =>
      intro l e h
      unfold Tb.chainGo
      by_cases hs : Tb.kind u e = 2 ∧ e ∉ l
      · rw [if_pos hs]
        refine ih _ _ ?_
        rw [List.nodup_append]
        exact ⟨h, by simp, fun a ha b hb => by
          have : b = e := by simpa using hb
          subst this
          exact fun e => hs.2 (e ▸ ha)⟩
      · rw [if_neg hs]; exact h
  exact key _ _ _ List.nodup_nil
theorem Tb.chain_len (u : List Dk) (d : Int) : (Tb.chain u d).length ≤ u.length := Tb.nodup_len _ _ (Tb.chain_nodup u d) (fun x hx => ⟨(Tb.chain_in u d x hx).1, (Tb.chain_in u d x hx).2.1⟩)
end Go.Proofs.Ytmhdcehpddbjaaa
