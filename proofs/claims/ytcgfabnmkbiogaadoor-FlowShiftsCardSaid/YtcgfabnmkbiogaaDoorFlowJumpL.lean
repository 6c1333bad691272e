/- A jump among ticks. -/
import Derived.Test.YtcgfabnmkbiogaaDoorFlowHighL
namespace Go.Proofs.YtcgfabnmkbiogaaDoor

def juOps (n at_ : Nat) (to : Int) : List Opr := (List.replicate n (⟨35, 1, 0⟩ : Opr) ++ [(⟨29, 0, 0⟩ : Opr)]).set at_ ⟨21, to, 0⟩
theorem jump_ahead {x : Img} {c : Cod} (l : List Opr) (hx : x.codes = [c]) (hr : c.ret = false) (ho : c.ops = ⟨29, 0, 0⟩ :: l) : Fl.Is x 0 (some 0) := by
  obtain ⟨s, h1, h2, _⟩ := start_top (c := c) (by rw [ho]; simp)
  exact .of hx h1 (h2.end_ (by rw [ho]; rfl) hr (Int.le_refl _))
theorem ticks {x : Img} {c : Cod} {s : FSt} {l : List Nat} {i : Nat} (d : Nat) (h : FSt.Top s l i (tb []) 0) (ho : ∀ j, i ≤ j → j < i + d → c.ops[j]? = some ⟨35, 1, 0⟩) (hf : ∀ j, i < j → j ≤ i + d → s.kn[j]? = some false) :
    ∃ s', FSt.Top s' l (i + d) (tb []) 0 ∧ FSt.Same s s' (fun j => j ≤ i ∨ i + d < j) ∧ (∀ j, i < j → j ≤ i + d → s'.kn[j]? = some true ∧ s'.st[j]? = some (tb [])) ∧ ∀ r, Runs x c s' r → Runs x c s r :=
  FSt.line (fun _ => tb []) (fun _ => 0) d s i h (fun j h1 h2 => ⟨_, ho j h1 h2, by simp [Fl.Str], after_tick x c [], by simp [tb_size], by simp [tb_size]⟩) hf
theorem jump_is {x : Img} {c : Cod} (n at_ : Nat) (to : Int) (ha : at_ < n) (hn : n ≤ 30) (hx : x.codes = [c]) (hr : c.ret = false) (ho : c.ops = juOps n at_ to) :
    Fl.Is x 0 (if 0 ≤ to ∧ to < n + 1 then some 0 else none) := by
  have hl : c.ops.length = n + 1 := by rw [ho]; simp [juOps]
  have hj : c.ops[at_]? = some ⟨21, to, 0⟩ := by
    rw [ho]; unfold juOps
    rw [List.getElem?_set_self (by simp; omega)]
  have ht : ∀ j, j < n → j ≠ at_ → c.ops[j]? = some ⟨35, 1, 0⟩ := fun j h1 h2 => by
    rw [ho]; unfold juOps
    rw [List.getElem?_set_ne (fun e => h2 e.symm), List.getElem?_append_left (by simpa using h1), List.getElem?_replicate, if_pos h1]
  have he : c.ops[n]? = some ⟨29, 0, 0⟩ := by
    rw [ho]; unfold juOps
    rw [List.getElem?_set_ne (by omega), List.getElem?_append_right (by simp)]; simp
  obtain ⟨s, h1, h2, h3, h4, h5⟩ := start_top (c := c) (by omega)
  obtain ⟨s1, k1, k2, k3, k4⟩ := ticks (x := x) (c := c) at_ h2 (fun j _ h => ht j (by omega) (by omega)) (fun j g1 g2 => h3 j g1 (by omega))
  rw [Nat.zero_add] at k1 k2 k3
  have hk : s1.kn.length = n + 1 := k2.1.trans (h4.trans hl)
  refine .of hx h1 (k4 _ ?_)
  by_cases hm : 0 ≤ to ∧ to ≤ 10000
  · have e := k1.jump hj (after_jump x c [] to hm) rfl (by simp [tb_size])
    rw [show max (0 : Int) ((tb []).size : Int) = 0 from rfl] at e
    by_cases hin : to < n + 1
    · rw [if_pos ⟨hm.1, hin⟩]
      obtain ⟨q, rfl⟩ : ∃ q : Nat, to = q := ⟨to.toNat, by omega⟩
      rcases Nat.lt_or_ge at_ q with h | h
      · obtain ⟨s2, g1, g2, g3, _⟩ := FSt.reach_new (s := { s1 with td := [], most := 0 }) (i := q) (t := tb []) (by
          show s1.kn[q]? = _
          rw [(k2.2.2 q (Or.inr h)).1]; exact h3 q (by omega) (by omega)) k1.len
        rw [g1] at e
        refine .more k1.td e ?_
        obtain ⟨s3, j1, _, _, j4⟩ := ticks (x := x) (c := c) (n - q) g2 (fun j a1 a2 => ht j (by omega) (by omega)) (fun j a1 a2 => by
          rw [(g3.2.2 j (by omega)).1]
          show s1.kn[j]? = _
          rw [(k2.2.2 j (by omega)).1]; exact h3 j (by omega) (by omega))
        rw [show q + (n - q) = n by omega] at j1
        exact j4 _ (j1.end_ he hr (Int.le_refl _))
      · have hq : s1.kn[q]? = some true ∧ s1.st[q]? = some (tb []) := by
          rcases Nat.eq_zero_or_pos q with rfl | h0
          · exact ⟨(k2.2.2 0 (Or.inl (Nat.zero_le _))).1.trans h5, (k2.2.2 0 (Or.inl (Nat.zero_le _))).2.trans h2.st⟩
          · exact k3 q h0 h
        rw [FSt.reach_old (s := { s1 with td := [], most := 0 }) hq.1 hq.2] at e
        exact .more k1.td e (.done rfl)
    · rw [if_neg (fun h => hin h.2)]
      rw [FSt.reach_out (by show ¬ (0 ≤ to ∧ to < (s1.kn.length : Int)); rw [hk]; omega)] at e
      exact .wrong k1.td e
  · rw [if_neg (by omega)]
    exact k1.wrong hj (after_jump_no x c to hm _)
end Go.Proofs.YtcgfabnmkbiogaaDoor
