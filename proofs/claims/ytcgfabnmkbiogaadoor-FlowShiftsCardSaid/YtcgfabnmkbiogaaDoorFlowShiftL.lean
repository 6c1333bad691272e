/- A code that begins with a jump over what is none. -/
import Derived.Test.YtcgfabnmkbiogaaDoorFlowJoinL
namespace Go.Proofs.YtcgfabnmkbiogaaDoor

/-- What an instruction becomes: n instructions there were, d come ahead. -/
def shOp (n d : Nat) (o : Opr) : Opr :=
  if o.k = 21 ∨ o.k = 22 then
    (if 0 ≤ o.a ∧ o.a ≤ n then ⟨o.k, o.a + d, o.b⟩ else if (n : Int) < o.a then ⟨o.k, 10000, o.b⟩ else o)
  else o
def shOps (l : List Opr) (m : Nat) : List Opr := (⟨21, ((m : Int) + 1), 0⟩ :: (List.range m).map fun i : Nat => (⟨-1, (i : Int), 0⟩ : Opr)) ++ l.map (shOp l.length (m + 1))
/-- Two images that differ in one code's instructions alone. -/
structure ShImg (x y : Img) (n m : Nat) (c c' : Cod) : Prop where
  cls : y.classes = x.classes
  fac : y.faces = x.faces
  ins : y.insts = x.insts
  blk : y.blocks = x.blocks
  glo : y.globals = x.globals
  cx : x.codes[n]? = some c
  cod : y.codes = x.codes.set n c'
  c1 : c'.cls = c.cls
  c2 : c'.params = c.params
  c3 : c'.locals = c.locals
  c4 : c'.ret = c.ret
  ops : c'.ops = shOps c.ops m
section
variable {x y : Img} {n m : Nat} {c c' : Cod} (h : ShImg x y n m c c')
include h
theorem ShImg.cls_is (k : Int) : Fl.cls y k = Fl.cls x k := by unfold Fl.cls; rw [h.cls]
theorem ShImg.comes_is (of : Int) (f : Nat) : ∀ k, Fl.comes y of f k = Fl.comes x of f k := by
  induction f with
  | zero => exact fun _ => rfl
  | succ f ih =>
    intro k
    unfold Fl.comes
    rw [h.cls_is]
    cases Fl.cls x k with
    | none => rfl
    | some d => simp only [ih]
theorem ShImg.slots_is (k : Int) : Fl.slots y c' k = Fl.slots x c k := by
  unfold Fl.slots; rw [h.c1, h.c2, h.c3, h.glo, h.cls_is]
theorem ShImg.called_is (k a b : Int) : Fl.called y c' k a b = Fl.called x c k a b := by
  have hc : ∀ j : Nat, (y.codes[j]? = none ∧ x.codes[j]? = none) ∨ ∃ d d', y.codes[j]? = some d' ∧ x.codes[j]? = some d ∧ d'.cls = d.cls ∧ d'.params = d.params ∧ d'.ret = d.ret := by
    intro j
    have hn := (List.getElem?_eq_some_iff.1 h.cx).1
    rw [h.cod]
    by_cases e : n = j
    · subst e
      exact Or.inr ⟨c, c', by rw [List.getElem?_set_self hn], h.cx, h.c1, h.c2, h.c4⟩
    · rw [List.getElem?_set_ne e]
      cases hj : x.codes[j]? with
      | none => exact Or.inl ⟨rfl, rfl⟩
      | some d => exact Or.inr ⟨d, d, rfl, rfl, rfl, rfl, rfl⟩
  unfold Fl.called
  simp only [h.cls_is, h.comes_is, h.fac, h.cls, h.c1]
  rcases hc a.toNat with ⟨h1, h2⟩ | ⟨d, d', h1, h2, h3, h4, h5⟩
  · rw [h1, h2]
  · rw [h1, h2]; simp only [h3, h4, h5]
theorem ShImg.effect_is (k a b : Int) : Fl.effect y c' k a b = Fl.effect x c k a b := by
  unfold Fl.effect Fl.moved Fl.row
  rw [h.slots_is, h.called_is, h.blk, h.ins, h.fac, h.cls, h.c4]
theorem ShImg.op_at (i : Nat) : c'.ops[i + (m + 1)]? = (c.ops[i]?).map (shOp c.ops.length (m + 1)) := by
  rw [h.ops]; unfold shOps
  rw [List.getElem?_append_right (by simp), List.getElem?_map]
  congr 2
  simp
theorem ShImg.len : c'.ops.length = m + 1 + c.ops.length := by rw [h.ops]; simp [shOps]; omega
end
/-- The same way, so much further behind. -/
structure Sh (d : Nat) (s s' : FSt) : Prop where
  len : s'.kn.length = d + s.kn.length
  kn : ∀ j, s'.kn[j + d]? = s.kn[j]?
  st : ∀ j, s'.st[j + d]? = s.st[j]?
  td : s'.td = s.td.map (· + d)
  most : s'.most = s.most
/-- Both are wrong, or both go on alike. -/
def Both (d : Nat) (a b : Option FSt) : Prop := (a = none ∧ b = none) ∨ ∃ s s', a = some s ∧ b = some s' ∧ Sh d s s'
theorem set_shift {α : Type} {l l' : List α} {d : Nat} (h : ∀ j, l'[j + d]? = l[j]?) (hl : l'.length = d + l.length) (i : Nat) (v : α) (j : Nat) : (l'.set (i + d) v)[j + d]? = (l.set i v)[j]? := by
  by_cases e : i = j
  · subst e
    rcases Nat.lt_or_ge i l.length with h1 | h1
    · rw [List.getElem?_set_self (by omega), List.getElem?_set_self h1]
    · rw [List.getElem?_eq_none (by simp; omega), List.getElem?_eq_none (by simp; omega)]
  · rw [List.getElem?_set_ne (by omega), List.getElem?_set_ne e, h]
theorem Sh.slen {d : Nat} {s s' : FSt} (h : Sh d s s') (hs : s.st.length = s.kn.length) : s'.st.length = d + s.st.length ∨ s.st.length = 0 := by
  rcases Nat.eq_zero_or_pos s.st.length with h0 | h0
  · exact Or.inr h0
  refine Or.inl ?_
  have h1 := h.st (s.st.length - 1)
  have h2 := h.st s.st.length
  rw [List.getElem?_eq_getElem (by omega : s.st.length - 1 < s.st.length)] at h1
  rw [List.getElem?_eq_none (Nat.le_refl _)] at h2
  have h3 := (List.getElem?_eq_some_iff.1 h1).1
  have h4 := List.getElem?_eq_none_iff.1 h2
  omega
theorem Sh.reach {d : Nat} {s s' : FSt} (h : Sh d s s') (hs : s.st.length = s.kn.length) (i i' : Int) (t : ByteArray) (hi : (0 ≤ i ∧ i < s.kn.length ∧ i' = i + d) ∨ (¬ (0 ≤ i ∧ i < s.kn.length) ∧ ¬ (0 ≤ i' ∧ i' < s'.kn.length))) :
    Both d (s.reach i t) (s'.reach i' t) := by
  rcases hi with ⟨h1, h2, rfl⟩ | ⟨h1, h2⟩
  · obtain ⟨q, rfl⟩ : ∃ q : Nat, i = q := ⟨i.toNat, by omega⟩
    have e1 : ((q : Int) + d).toNat = q + d := by omega
    have e2 : (q : Int).toNat = q := by omega
    have hl := h.len
    have hsl : s'.st.length = d + s.st.length := (h.slen hs).resolve_right (by omega)
    have c2 : 0 ≤ (q : Int) + d ∧ (q : Int) + d < s'.kn.length := ⟨by omega, by omega⟩
    unfold FSt.reach
    rw [if_pos ⟨h1, h2⟩, if_pos c2, e1, e2, h.kn, h.st]
    have hnew : Sh d { s with kn := s.kn.set q true, st := s.st.set q t, td := s.td ++ [q] } { s' with kn := s'.kn.set (q + d) true, st := s'.st.set (q + d) t, td := s'.td ++ [q + d] } :=
      ⟨by simp [hl], fun j => set_shift h.kn hl q true j, fun j => set_shift h.st hsl q t j, by simp [h.td], h.most⟩
    cases hk : s.kn[q]? with
    | none => exact Or.inr ⟨_, _, rfl, rfl, hnew⟩
    | some b =>
      cases b
      · exact Or.inr ⟨_, _, rfl, rfl, hnew⟩
      · by_cases ht : s.st[q]? = some t
        · simp only [if_pos ht]; exact Or.inr ⟨_, _, rfl, rfl, h⟩
        · simp only [if_neg ht]; exact Or.inl ⟨rfl, rfl⟩
  · exact Or.inl ⟨FSt.reach_out h1, FSt.reach_out h2⟩
theorem FSt.reach_len {s s1 : FSt} {i : Int} {t : ByteArray} (h : s.reach i t = some s1) (hs : s.st.length = s.kn.length) : s1.st.length = s1.kn.length ∧ s1.kn.length = s.kn.length := by
  unfold FSt.reach at h
  split at h
  · split at h
    · split at h
      · cases h; exact ⟨hs, rfl⟩
      · cases h
    · cases h; exact ⟨by simp [hs], by simp⟩
  · cases h
theorem FSt.go_len {s s1 : FSt} {k a i : Int} {t : ByteArray} (h : s.go k a i t = some s1) (hs : s.st.length = s.kn.length) : s1.st.length = s1.kn.length ∧ s1.kn.length = s.kn.length := by
  unfold FSt.go at h
  split at h
  · split at h
    · cases h; exact ⟨hs, rfl⟩
    · cases h
  · split at h
    · cases hr : s.reach a t with
      | none => rw [hr] at h; cases h
      | some s2 =>
        rw [hr] at h
        obtain ⟨h1, h2⟩ := FSt.reach_len hr hs
        obtain ⟨h3, h4⟩ := FSt.reach_len h h1
        exact ⟨h3, h4.trans h2⟩
    · split at h
      · exact FSt.reach_len h hs
      · exact FSt.reach_len h hs
theorem FSt.step_len {x : Img} {c : Cod} {s s1 : FSt} {i : Nat} (h : FSt.step x c s i = some s1) (hs : s.st.length = s.kn.length) : s1.st.length = s1.kn.length ∧ s1.kn.length = s.kn.length := by
  unfold FSt.step at h
  split at h
  · split at h
    · cases h
    · split at h
      · obtain ⟨q1, q2⟩ := FSt.go_len h hs
        exact ⟨q1, q2⟩
      · cases h
  · cases h
section
variable {x y : Img} {n m : Nat} {c c' : Cod} (h : ShImg x y n m c c')
include h
theorem ShImg.step_is {s s' : FSt} (hs : Sh (m + 1) s s') (hl : s.st.length = s.kn.length) (hn : s.kn.length = c.ops.length) (hm : m ≤ 1000) (hc : c.ops.length ≤ 1000) (i : Nat) : Both (m + 1) (FSt.step x c s i) (FSt.step y c' s' (i + (m + 1))) := by
  unfold FSt.step
  rw [h.op_at, hs.st, hs.most]
  have hlen := hs.len
  cases ho : c.ops[i]? with
  | none => exact Or.inl ⟨rfl, rfl⟩
  | some o =>
    cases ht : s.st[i]? with
    | none => exact Or.inl ⟨rfl, rfl⟩
    | some t =>
      have hi := (List.getElem?_eq_some_iff.1 ho).1
      simp only [Option.map_some]
      have hs2 : ∀ mo : Int, Sh (m + 1) { s with most := mo } { s' with most := mo } := fun mo => ⟨hs.len, hs.kn, hs.st, hs.td, rfl⟩
      have next : ∀ (s1 s1' : FSt) (t' : ByteArray), Sh (m + 1) s1 s1' → s1.st.length = s1.kn.length → s1.kn.length = c.ops.length → Both (m + 1) (s1.reach ((i : Int) + 1) t') (s1'.reach (((i + (m + 1) : Nat) : Int) + 1) t') := fun s1 s1' t' g1 g2 g3 => by
        have := g1.len
        exact g1.reach g2 _ _ t' (by omega)
      by_cases hk : o.k = 21 ∨ o.k = 22
      · by_cases ha : 0 ≤ o.a ∧ o.a ≤ c.ops.length
        · have e : shOp c.ops.length (m + 1) o = ⟨o.k, o.a + (m + 1 : Nat), o.b⟩ := by unfold shOp; rw [if_pos hk, if_pos ha]
          have e2 : Op.may o.k (o.a + (m + 1 : Nat)) o.b = Op.may o.k o.a o.b := by
            have hw1 : Op.win (o.a + (m + 1 : Nat)) 0 10000 = true := by simp [Op.win]; omega
            have hw2 : Op.win o.a 0 10000 = true := by simp [Op.win]; omega
            rcases hk with hk | hk <;> rw [hk] <;> simp [Op.may, Op.operands, hw1, hw2, -Int.natCast_add]
          have e3 : Fl.effect y c' o.k (o.a + (m + 1 : Nat)) o.b = Fl.effect x c o.k o.a o.b := by
            rw [h.effect_is]
            rcases hk with hk | hk <;> rw [hk] <;> simp [Fl.effect]
          have e4 : Fl.after y c' (shOp c.ops.length (m + 1) o) t = Fl.after x c o t := by
            rw [e]; unfold Fl.after; rw [e2, e3]
          rw [e4, e]
          cases hf : Fl.after x c o t with
          | none => exact Or.inl ⟨rfl, rfl⟩
          | some t' =>
            simp only
            by_cases hz : t'.size ≤ 10000
            · rw [if_pos hz, if_pos hz]
              unfold FSt.go
              have k1 : ¬ (o.k = 29 ∨ o.k = 30) := by omega
              rw [if_neg k1, if_neg k1]
              have R := (hs2 (max s.most t'.size)).reach hl o.a (o.a + (m + 1 : Nat)) t' (by show (0 ≤ o.a ∧ o.a < (s.kn.length : Int) ∧ _) ∨ (¬ (0 ≤ o.a ∧ o.a < (s.kn.length : Int)) ∧ ¬ (_ ∧ _ < (s'.kn.length : Int))); omega)
              by_cases k2 : o.k = 22
              · rw [if_pos k2, if_pos k2]
                rcases R with ⟨r1, r2⟩ | ⟨a1, a2, r1, r2, r3⟩
                · rw [r1, r2]; exact Or.inl ⟨rfl, rfl⟩
                · rw [r1, r2]
                  obtain ⟨w1, w2⟩ := FSt.reach_len r1 hl
                  exact next a1 a2 t' r3 w1 (w2.trans hn)
              · have k3 : o.k = 21 := by omega
                rw [if_neg k2, if_neg k2, if_pos k3, if_pos k3]
                exact R
            · rw [if_neg hz, if_neg hz]; exact Or.inl ⟨rfl, rfl⟩
        · have bad : ∀ (X : Img) (C : Cod) (S : FSt) (o' : Opr) (j : Int), o'.k = o.k → ¬ (0 ≤ o'.a ∧ o'.a < (S.kn.length : Int)) → (match Fl.after X C o' t with | none => (none : Option FSt) | some t' => if t'.size ≤ 10000 then FSt.go { S with most := max s.most t'.size } o'.k o'.a j t' else none) = none := by
            intro X C S o' j h1 h2
            cases Fl.after X C o' t with
            | none => rfl
            | some t' =>
              simp only
              split
              · unfold FSt.go
                rw [h1, if_neg (by omega)]
                have hr := FSt.reach_out (s := { S with most := max s.most t'.size }) (t := t') h2
                by_cases k2 : o.k = 22
                · rw [if_pos k2, hr]
                · rw [if_neg k2, if_pos (by omega), hr]
              · rfl
          refine Or.inl ⟨bad x c s o i rfl (by omega), bad y c' s' _ _ ?_ ?_⟩
          · unfold shOp; rw [if_pos hk, if_neg ha]; split <;> rfl
          · unfold shOp; rw [if_pos hk, if_neg ha]; split <;> first | omega | (dsimp only; omega)
      · have e : shOp c.ops.length (m + 1) o = o := by unfold shOp; rw [if_neg hk]
        have e4 : Fl.after y c' o t = Fl.after x c o t := by
          unfold Fl.after; rw [h.effect_is]
        rw [e, e4]
        cases hf : Fl.after x c o t with
        | none => exact Or.inl ⟨rfl, rfl⟩
        | some t' =>
          simp only
          by_cases hz : t'.size ≤ 10000
          · rw [if_pos hz, if_pos hz]
            unfold FSt.go
            by_cases k1 : o.k = 29 ∨ o.k = 30
            · rw [if_pos k1, if_pos k1]
              by_cases k2 : t'.size = 0
              · rw [if_pos k2, if_pos k2]; exact Or.inr ⟨_, _, rfl, rfl, hs2 _⟩
              · rw [if_neg k2, if_neg k2]; exact Or.inl ⟨rfl, rfl⟩
            · rw [if_neg k1, if_neg k1, if_neg (by omega), if_neg (by omega), if_neg (by omega), if_neg (by omega)]
              exact next _ _ t' (hs2 _) hl hn
          · rw [if_neg hz, if_neg hz]; exact Or.inl ⟨rfl, rfl⟩
theorem ShImg.runs {s : FSt} {r : Option Int} (hm : m ≤ 1000) (hc : c.ops.length ≤ 1000) (hr : Runs x c s r) : ∀ s', Sh (m + 1) s s' → s.st.length = s.kn.length → s.kn.length = c.ops.length → Runs y c' s' r := by
  induction hr with
  | done h1 =>
    intro s' hs hl hn
    rw [← hs.most]
    exact .done (by rw [hs.td, h1]; rfl)
  | @wrong s l i h1 h2 =>
    intro s' hs hl hn
    have hs2 : Sh (m + 1) { s with td := l } { s' with td := l.map (· + (m + 1)) } := ⟨hs.len, hs.kn, hs.st, rfl, hs.most⟩
    refine .wrong (l := l.map (· + (m + 1))) (i := i + (m + 1)) (by rw [hs.td, h1]; simp) ?_
    rcases h.step_is hs2 hl hn hm hc i with ⟨_, k2⟩ | ⟨_, _, k1, _, _⟩
    · exact k2
    · rw [h2] at k1; cases k1
  | @more s s1 l i r h1 h2 h3 ih =>
    intro s' hs hl hn
    have hs2 : Sh (m + 1) { s with td := l } { s' with td := l.map (· + (m + 1)) } := ⟨hs.len, hs.kn, hs.st, rfl, hs.most⟩
    rcases h.step_is hs2 hl hn hm hc i with ⟨k1, _⟩ | ⟨a, b, k1, k2, k3⟩
    · rw [h2] at k1; cases k1
    · rw [h2] at k1
      obtain rfl : s1 = a := by simpa using k1
      obtain ⟨w1, w2⟩ := FSt.step_len h2 hl
      exact .more (l := l.map (· + (m + 1))) (i := i + (m + 1)) (by rw [hs.td, h1]; simp) k2 (ih b k3 w1 (w2.trans hn))
/-- It is as right, and as high, as it was. -/
theorem ShImg.is {r : Option Int} (hm : m ≤ 1000) (hc : c.ops.length ≤ 1000) (hr : Fl.Is x n r) : Fl.Is y n r := by
  have hn := (List.getElem?_eq_some_iff.1 h.cx).1
  rcases hr with ⟨h1, rfl⟩ | ⟨d, h0, h1, h2⟩
  · exact absurd ⟨by omega, by omega⟩ h1
  rw [show ((n : Int)).toNat = n by omega, h.cx] at h1
  obtain rfl : c = d := by simpa using h1
  refine Or.inr ⟨c', h0, by rw [h.cod, show ((n : Int)).toNat = n by omega, List.getElem?_set_self hn], Or.inr ?_⟩
  have hlen := h.len
  obtain ⟨s, k1, k2, k3, k4, k5⟩ := start_top (c := c') (by omega)
  refine ⟨s, k1, ?_⟩
  have o0 : c'.ops[0]? = some ⟨21, ((m + 1 : Nat) : Int), 0⟩ := by rw [h.ops]; unfold shOps; simp
  have e := k2.jump (x := y) o0 (after_jump y c' [] _ (by omega)) rfl (by simp [tb_size])
  rw [show max (0 : Int) ((tb []).size : Int) = 0 from rfl] at e
  dsimp only at e
  rcases Nat.eq_zero_or_pos c.ops.length with hz | hz
  · rcases h2 with ⟨_, rfl⟩ | ⟨s2, g1, _⟩
    · rw [FSt.reach_out (s := { s with td := [], most := 0 }) (i := ((m + 1 : Nat) : Int)) (by show ¬ (_ ∧ _ < (s.kn.length : Int)); rw [k4]; omega)] at e
      exact .wrong k2.td e
    · rw [FSt.reach_out (by simp [FSt.start, hz])] at g1; cases g1
  · obtain ⟨s2, g1, g2, g3, g4, g5⟩ := start_top hz
    obtain ⟨s1, j1, j2, j3, j4⟩ := FSt.reach_new (s := { s with td := [], most := 0 }) (i := m + 1) (t := tb []) (k3 (m + 1) (by omega) (by omega)) k2.len
    rw [j1] at e
    rcases h2 with ⟨w1, _⟩ | ⟨s3, w1, w2⟩
    · rw [w1] at g1; cases g1
    rw [w1] at g1
    obtain rfl : s3 = s2 := by simpa using g1
    refine .more k2.td e (h.runs hm hc w2 s1 ?_ g2.len g4)
    have l1 : s1.kn.length = c'.ops.length := j3.1.trans k4
    have st0 : ∀ (C : Cod) (S : FSt), (FSt.start C).reach 0 Fl.e = some S → ∀ j, 0 < j → j < C.ops.length → S.st[j]? = some (tb []) := by
      intro C S hS j q1 q2
      have hC : 0 < C.ops.length := by omega
      have h0 : (FSt.start C).kn[0]? = some false := by simp [FSt.start, List.getElem?_replicate, hC]
      obtain ⟨S', v1, v2, v3, _⟩ := FSt.reach_new (t := Fl.e) h0 (by simp [FSt.start])
      have v1' : (FSt.start C).reach 0 Fl.e = some S' := v1
      rw [hS] at v1'
      obtain rfl : S = S' := by simpa using v1'
      rw [(v3.2.2 j (by omega)).2]
      simp [FSt.start, List.getElem?_replicate, q2, tb_e]
    refine ⟨by omega, fun j => ?_, fun j => ?_, by rw [j2.td, g2.td]; simp, by rw [j2.most, g2.most]⟩
    · rcases Nat.lt_or_ge j c.ops.length with q | q
      · rcases Nat.eq_zero_or_pos j with rfl | q0
        · rw [Nat.zero_add, j4, g5]
        · rw [(j3.2.2 (j + (m + 1)) (by omega)).1, g3 j q0 q]; exact k3 _ (by omega) (by omega)
      · rw [List.getElem?_eq_none (by omega), List.getElem?_eq_none (by omega)]
    · rcases Nat.lt_or_ge j c.ops.length with q | q
      · rcases Nat.eq_zero_or_pos j with rfl | q0
        · rw [Nat.zero_add, j2.st, g2.st]
        · rw [(j3.2.2 (j + (m + 1)) (by omega)).2, st0 c _ w1 j q0 q]
          exact st0 c' s k1 _ (by omega) (by omega)
      · have := j2.len; have := g2.len
        rw [List.getElem?_eq_none (by omega), List.getElem?_eq_none (by omega)]
end
end Go.Proofs.YtcgfabnmkbiogaaDoor
