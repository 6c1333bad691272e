/- A way along instructions that come one behind the other. -/
import Derived.Test.YtcgfabnmkbiogaaDoorFlowSpec
namespace Go.Proofs.YtcgfabnmkbiogaaDoor

/-- It goes on behind itself alone. -/
def Fl.Str (k : Int) : Prop := k ≠ 21 ∧ k ≠ 22 ∧ k ≠ 29 ∧ k ≠ 30
/-- The last thing to do is this one, with this stack. -/
structure FSt.Top (s : FSt) (l : List Nat) (i : Nat) (t : ByteArray) (m : Int) : Prop where
  td : s.td = l ++ [i]
  st : s.st[i]? = some t
  most : s.most = m
  len : s.st.length = s.kn.length
/-- Outside of some places nothing changed. -/
def FSt.Same (s s' : FSt) (P : Nat → Prop) : Prop := s'.kn.length = s.kn.length ∧ s'.st.length = s.st.length ∧ ∀ j, P j → s'.kn[j]? = s.kn[j]? ∧ s'.st[j]? = s.st[j]?
theorem FSt.Same.refl (s : FSt) (P : Nat → Prop) : FSt.Same s s P := ⟨rfl, rfl, fun _ _ => ⟨rfl, rfl⟩⟩
theorem FSt.Same.trans {a b c : FSt} {P Q R : Nat → Prop} (h : FSt.Same a b P) (k : FSt.Same b c Q) (hr : ∀ j, R j → P j ∧ Q j) : FSt.Same a c R :=
  ⟨k.1.trans h.1, k.2.1.trans h.2.1, fun j hj => ⟨(k.2.2 j (hr j hj).2).1.trans (h.2.2 j (hr j hj).1).1, (k.2.2 j (hr j hj).2).2.trans (h.2.2 j (hr j hj).1).2⟩⟩
theorem FSt.reach_new {s : FSt} {i : Nat} {t : ByteArray} (h : s.kn[i]? = some false) (hl : s.st.length = s.kn.length) :
    ∃ s', s.reach i t = some s' ∧ FSt.Top s' s.td i t s.most ∧ FSt.Same s s' (fun j => j ≠ i) ∧ s'.kn[i]? = some true := by
  have hi := (List.getElem?_eq_some_iff.1 h).1
  refine ⟨{ s with kn := s.kn.set i true, st := s.st.set i t, td := s.td ++ [i] }, ?_, ⟨rfl, ?_, rfl, by simp [hl]⟩, ⟨by simp, by simp, fun j hj => ⟨?_, ?_⟩⟩, ?_⟩
  · unfold FSt.reach
    rw [if_pos ⟨by omega, by omega⟩]
    simp [h]
  · simp only [List.getElem?_set_self (by omega : i < s.st.length)]
  · simp only [List.getElem?_set_ne (fun e => hj e.symm)]
  · simp only [List.getElem?_set_ne (fun e => hj e.symm)]
  · simp only [List.getElem?_set_self hi]
theorem FSt.reach_old {s : FSt} {i : Nat} {t : ByteArray} (h : s.kn[i]? = some true) (ht : s.st[i]? = some t) : s.reach i t = some s := by
  have hi := (List.getElem?_eq_some_iff.1 h).1
  unfold FSt.reach
  rw [if_pos ⟨by omega, by omega⟩]
  simp [h, ht]
theorem FSt.reach_other {s : FSt} {i : Nat} {t u : ByteArray} (h : s.kn[i]? = some true) (ht : s.st[i]? = some u) (hn : u ≠ t) : s.reach i t = none := by
  have hi := (List.getElem?_eq_some_iff.1 h).1
  unfold FSt.reach
  rw [if_pos ⟨by omega, by omega⟩]
  simp [h, ht, hn]
theorem FSt.reach_out {s : FSt} {i : Int} {t : ByteArray} (h : ¬ (0 ≤ i ∧ i < s.kn.length)) : s.reach i t = none := by
  unfold FSt.reach; rw [if_neg h]
section
variable {x : Img} {c : Cod} {s : FSt} {l : List Nat} {i : Nat} {t t' : ByteArray} {m : Int} {o : Opr}
theorem FSt.Top.step_is (h : FSt.Top s l i t m) (ho : c.ops[i]? = some o) (ha : Fl.after x c o t = some t') (hz : t'.size ≤ 10000) :
    FSt.step x c { s with td := l } i = FSt.go { s with td := l, most := max m t'.size } o.k o.a i t' := by
  unfold FSt.step
  simp only [ho, h.st, ha, if_pos hz, h.most]
theorem FSt.Top.step_no (h : FSt.Top s l i t m) (ho : c.ops[i]? = some o) (ha : Fl.after x c o t = none) :
    FSt.step x c { s with td := l } i = none := by
  unfold FSt.step
  simp only [ho, h.st, ha]
/-- It is wrong. -/
theorem FSt.Top.wrong (h : FSt.Top s l i t m) (ho : c.ops[i]? = some o) (ha : Fl.after x c o t = none) : Runs x c s none :=
  .wrong h.td (h.step_no ho ha)
/-- The end of a way. -/
theorem FSt.Top.ret (h : FSt.Top s l i t m) (ho : c.ops[i]? = some o) (ha : Fl.after x c o t = some t') (hk : o.k = 29 ∨ o.k = 30) (hz : t'.size = 0) {r : Option Int}
    (hr : Runs x c { s with td := l, most := max m 0 } r) : Runs x c s r := by
  refine .more h.td (s' := { s with td := l, most := max m 0 }) ?_ hr
  rw [h.step_is ho ha (by omega)]
  unfold FSt.go
  rw [if_pos hk, if_pos hz, hz]; rfl
theorem FSt.Top.ret_no (h : FSt.Top s l i t m) (ho : c.ops[i]? = some o) (ha : Fl.after x c o t = some t') (hk : o.k = 29 ∨ o.k = 30) (hz : t'.size ≠ 0) (hs : t'.size ≤ 10000) : Runs x c s none := by
  refine .wrong h.td ?_
  rw [h.step_is ho ha hs]
  unfold FSt.go
  rw [if_pos hk, if_neg hz]
/-- A jump. -/
theorem FSt.Top.jump (h : FSt.Top s l i t m) (ho : c.ops[i]? = some o) (ha : Fl.after x c o t = some t') (hk : o.k = 21) (hs : t'.size ≤ 10000) :
    FSt.step x c { s with td := l } i = FSt.reach { s with td := l, most := max m t'.size } o.a t' := by
  rw [h.step_is ho ha hs]
  unfold FSt.go
  rw [if_neg (by omega), if_neg (by omega), if_pos hk]
/-- One instruction. -/
theorem FSt.Top.one (h : FSt.Top s l i t m) (ho : c.ops[i]? = some o) (ha : Fl.after x c o t = some t') (hk : Fl.Str o.k) (hs : t'.size ≤ 10000) :
    FSt.step x c { s with td := l } i = FSt.reach { s with td := l, most := max m t'.size } ((i + 1 : Nat) : Int) t' := by
  obtain ⟨k1, k2, k3, k4⟩ := hk
  rw [h.step_is ho ha hs]
  unfold FSt.go
  rw [if_neg (by omega), if_neg k2, if_neg k1]; rfl
/-- A line of them. -/
theorem FSt.line (T : Nat → ByteArray) (mm : Nat → Int) (d : Nat) :
    ∀ (s : FSt) (i : Nat), FSt.Top s l i (T i) (mm i) →
    (∀ j, i ≤ j → j < i + d → ∃ o, c.ops[j]? = some o ∧ Fl.Str o.k ∧ Fl.after x c o (T j) = some (T (j + 1)) ∧ (T (j + 1)).size ≤ 10000 ∧ mm (j + 1) = max (mm j) (T (j + 1)).size) →
    (∀ j, i < j → j ≤ i + d → s.kn[j]? = some false) →
    ∃ s', FSt.Top s' l (i + d) (T (i + d)) (mm (i + d)) ∧ FSt.Same s s' (fun j => j ≤ i ∨ i + d < j) ∧ (∀ j, i < j → j ≤ i + d → s'.kn[j]? = some true ∧ s'.st[j]? = some (T j)) ∧ ∀ r, Runs x c s' r → Runs x c s r := by
  induction d with
  | zero => exact fun s i h _ _ => ⟨s, h, FSt.Same.refl _ _, fun j h1 h2 => by omega, fun _ hr => hr⟩
  | succ d ih =>
    intro s i h ho hf
    obtain ⟨o, h1, h2, h3, h4, h5⟩ := ho i (Nat.le_refl _) (by omega)
    have e1 := h.one h1 h3 h2 h4
    obtain ⟨s1, g1, g2, g3, g4⟩ := FSt.reach_new (s := { s with td := l, most := max (mm i) (T (i + 1)).size }) (i := i + 1) (t := T (i + 1)) (hf (i + 1) (by omega) (by omega)) h.len
    rw [g1] at e1
    have g2' : FSt.Top s1 l (i + 1) (T (i + 1)) (mm (i + 1)) := ⟨g2.td, g2.st, by rw [g2.most, h5], g2.len⟩
    have e2 : i + 1 + d = i + (d + 1) := by omega
    obtain ⟨s2, k1, k2, k4, k3⟩ := ih s1 (i + 1) g2' (fun j h6 h7 => ho j (by omega) (by omega)) (fun j h6 h7 => by
      rw [(g3.2.2 j (by omega)).1]; exact hf j (by omega) (by omega))
    rw [e2] at k1 k2 k4
    refine ⟨s2, k1, FSt.Same.trans g3 k2 (fun j hj => ⟨by omega, by omega⟩), fun j h6 h7 => ?_, fun r hr => .more h.td e1 (k3 r hr)⟩
    rcases Nat.lt_or_ge (i + 1) j with h8 | h8
    · exact k4 j h8 h7
    · obtain rfl : j = i + 1 := by omega
      exact ⟨(k2.2.2 _ (Or.inl (Nat.le_refl _))).1.trans g4, (k2.2.2 _ (Or.inl (Nat.le_refl _))).2.trans g2.st⟩
end
end Go.Proofs.YtcgfabnmkbiogaaDoor
