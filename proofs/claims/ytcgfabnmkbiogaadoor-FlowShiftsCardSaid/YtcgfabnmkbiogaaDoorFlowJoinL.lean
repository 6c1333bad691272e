/- Two ways that come together. -/
import Derived.Test.YtcgfabnmkbiogaaDoorFlowJumpL
namespace Go.Proofs.YtcgfabnmkbiogaaDoor

def joOp (f : Nat → Bool) (j : Nat) : Opr := if f j then ⟨2, 0, 0⟩ else ⟨1, 0, 0⟩
def joLt (f : Nat → Bool) (n : Nat) : List UInt8 := (List.range n).map (hiLt f)
theorem joLt_succ (f : Nat → Bool) (n : Nat) : joLt f (n + 1) = joLt f n ++ [hiLt f n] := by
  unfold joLt; rw [List.range_succ, List.map_append]; rfl
theorem joLt_len (f : Nat → Bool) (n : Nat) : (joLt f n).length = n := by simp [joLt]
theorem joOp_str (f : Nat → Bool) (j : Nat) : Fl.Str (joOp f j).k := by unfold joOp; split <;> simp [Fl.Str]
theorem after_jo (x : Img) (c : Cod) (f : Nat → Bool) (j : Nat) (L : List UInt8) : Fl.after x c (joOp f j) (tb L) = some (tb (L ++ [hiLt f j])) := by
  unfold joOp hiLt
  cases f j
  · exact after_push x c L 0 (by omega)
  · exact after_null x c L
/-- The places of the code of FlowJoins. -/
structure JoAt (c : Cod) (a b : Nat) (f g : Nat → Bool) : Prop where
  len : c.ops.length = a + 2 * b + 4
  o0 : c.ops[0]? = some ⟨1, 0, 0⟩
  o1 : c.ops[1]? = some ⟨22, (a + 3 : Nat), 0⟩
  of : ∀ j, j < a → c.ops[2 + j]? = some (joOp f j)
  oj : c.ops[2 + a]? = some ⟨21, (a + 3 + b : Nat), 0⟩
  og : ∀ j, j < b → c.ops[a + 3 + j]? = some (joOp g j)
  op : ∀ j, j < b → c.ops[a + 3 + b + j]? = some ⟨34, 0, 0⟩
  oe : c.ops[a + 3 + b + b]? = some ⟨29, 0, 0⟩
theorem puts {x : Img} {c : Cod} {s : FSt} {l : List Nat} {i : Nat} {m : Int} (f : Nat → Bool) (d : Nat) (hd : d ≤ 100) (hm : 0 ≤ m) (h : FSt.Top s l i (tb []) m)
    (ho : ∀ j, j < d → c.ops[i + j]? = some (joOp f j)) (hf : ∀ j, i < j → j ≤ i + d → s.kn[j]? = some false) :
    ∃ s', FSt.Top s' l (i + d) (tb (joLt f d)) (max m d) ∧ FSt.Same s s' (fun j => j ≤ i ∨ i + d < j) ∧ ∀ r, Runs x c s' r → Runs x c s r := by
  have h' : FSt.Top s l i (tb (joLt f (i - i))) (max m ((i - i : Nat) : Int)) := by
    rw [Nat.sub_self, Int.max_eq_left (by omega)]; exact h
  obtain ⟨s', h1, h2, _, h4⟩ := FSt.line (x := x) (c := c) (fun j => tb (joLt f (j - i))) (fun j => max m ((j - i : Nat) : Int)) d s i h' (fun j g1 g2 => by
    have e : j + 1 - i = j - i + 1 := by omega
    refine ⟨joOp f (j - i), ?_, joOp_str _ _, ?_, ?_, ?_⟩
    · have := ho (j - i) (by omega)
      rwa [show i + (j - i) = j by omega] at this
    · rw [after_jo, e, joLt_succ]
    · simp only [tb_size, joLt_len]; omega
    · simp only [tb_size, joLt_len]; omega) hf
  refine ⟨s', ?_, h2, h4⟩
  have e : i + d - i = d := by omega
  simp only [e] at h1
  exact h1
theorem pops {x : Img} {c : Cod} {s : FSt} {l : List Nat} {i : Nat} {m : Int} (L : List UInt8) (d : Nat) (hd : d ≤ L.length) (hL : L.length ≤ 100) (hm : (L.length : Int) ≤ m) (h : FSt.Top s l i (tb L) m)
    (ho : ∀ j, j < d → c.ops[i + j]? = some ⟨34, 0, 0⟩) (hf : ∀ j, i < j → j ≤ i + d → s.kn[j]? = some false) :
    ∃ s', FSt.Top s' l (i + d) (tb (L.take (L.length - d))) m ∧ FSt.Same s s' (fun j => j ≤ i ∨ i + d < j) ∧ ∀ r, Runs x c s' r → Runs x c s r := by
  have h' : FSt.Top s l i (tb (L.take (L.length - (i - i)))) m := by
    rw [Nat.sub_self, Nat.sub_zero, List.take_length]; exact h
  obtain ⟨s', h1, h2, _, h4⟩ := FSt.line (x := x) (c := c) (fun j => tb (L.take (L.length - (j - i)))) (fun _ => m) d s i h' (fun j g1 g2 => by
    have e : L.length - (j - i) = L.length - (j + 1 - i) + 1 := by omega
    refine ⟨⟨34, 0, 0⟩, ?_, by simp [Fl.Str], ?_, ?_, ?_⟩
    · have := ho (j - i) (by omega)
      rwa [show i + (j - i) = j by omega] at this
    · rw [e, List.take_succ_eq_append_getElem (by omega)]
      exact after_pop x c _ _
    · simp only [tb_size, List.length_take]; omega
    · simp only [tb_size, List.length_take]; omega) hf
  refine ⟨s', ?_, h2, h4⟩
  have e : i + d - i = d := by omega
  simp only [e] at h1
  exact h1
theorem joins_is {x : Img} {c : Cod} (a b : Nat) (f g : Nat → Bool) (ha : a ≤ 5) (hb : b ≤ 5) (hx : x.codes = [c]) (hr : c.ret = false) (ho : JoAt c a b f g) :
    Fl.Is x 0 (if joLt f a = joLt g b then some ((max b 1 : Nat) : Int) else none) := by
  have hl := ho.len
  obtain ⟨s, h1, h2, h3, h4, h5⟩ := start_top (c := c) (by omega)
  refine .of hx h1 ?_
  have e0 := h2.one (x := x) (o := ⟨1, 0, 0⟩) ho.o0 (after_push x c [] 0 (by omega)) (by simp [Fl.Str]) (by simp [tb_size])
  obtain ⟨s1, g1, g2, g3, g4⟩ := FSt.reach_new (s := { s with td := [], most := max 0 (tb ([] ++ [105])).size }) (i := 0 + 1) (t := tb ([] ++ [105])) (h3 1 (by omega) (by omega)) h2.len
  rw [g1] at e0
  refine .more h2.td e0 ?_
  have G : FSt.Top s1 [] 1 (tb ([] ++ [105])) 1 := ⟨g2.td, g2.st, g2.most, g2.len⟩
  have e1 := G.step_is (x := x) ho.o1 (after_false x c [] _ (by omega)) (by simp [tb_size])
  unfold FSt.go at e1
  rw [if_neg (by simp), if_pos rfl, show max (1 : Int) ((tb []).size : Int) = 1 from rfl] at e1
  have f1 : ∀ j, 1 < j → j < c.ops.length → s1.kn[j]? = some false := fun j q1 q2 => ((g3.2.2 j (by omega)).1).trans (h3 j (by omega) q2)
  obtain ⟨s2, k1, k2, k3, k4⟩ := FSt.reach_new (s := { s1 with td := [], most := 1 }) (i := a + 3) (t := tb []) (f1 _ (by omega) (by omega)) G.len
  have f2 : ∀ j, 1 < j → j ≠ a + 3 → j < c.ops.length → s2.kn[j]? = some false := fun j q1 q2 q3 => ((k3.2.2 j q2).1).trans (f1 j q1 q3)
  obtain ⟨s3, m1, m2, m3, m4⟩ := FSt.reach_new (s := s2) (i := 2) (t := tb []) (f2 _ (by omega) (by omega) (by omega)) k2.len
  rw [k1] at e1
  simp only at e1
  rw [show ((1 : Nat) : Int) + 1 = ((2 : Nat) : Int) from rfl, m1] at e1
  refine .more G.td e1 ?_
  have M : FSt.Top s3 [a + 3] 2 (tb []) 1 := ⟨by rw [m2.td, k2.td]; rfl, m2.st, by rw [m2.most, k2.most], m2.len⟩
  have f3 : ∀ j, 2 < j → j ≠ a + 3 → j < c.ops.length → s3.kn[j]? = some false := fun j q1 q2 q3 => ((m3.2.2 j (by omega)).1).trans (f2 j (by omega) q2 q3)
  have t3 : s3.kn[a + 3]? = some true ∧ s3.st[a + 3]? = some (tb []) := ⟨((m3.2.2 _ (by omega)).1).trans k4, ((m3.2.2 _ (by omega)).2).trans k2.st⟩
  obtain ⟨s4, n1, n2, n3⟩ := puts (x := x) (c := c) f a (by omega) (by omega) M ho.of (fun j q1 q2 => f3 j q1 (by omega) (by omega))
  refine n3 _ ?_
  have f4 : ∀ j, a + 3 < j → j < c.ops.length → s4.kn[j]? = some false := fun j q1 q2 => ((n2.2.2 j (Or.inr (by omega))).1).trans (f3 j (by omega) (by omega) q2)
  have t4 : s4.kn[a + 3]? = some true ∧ s4.st[a + 3]? = some (tb []) := ⟨((n2.2.2 _ (Or.inr (by omega))).1).trans t3.1, ((n2.2.2 _ (Or.inr (by omega))).2).trans t3.2⟩
  have e4 := n1.jump ho.oj (after_jump x c _ _ (by omega)) rfl (by rw [tb_size, joLt_len]; omega)
  rw [tb_size, joLt_len] at e4
  rw [show max (max (1 : Int) a) (a : Int) = max 1 (a : Int) by omega] at e4
  dsimp only at e4
  rcases Nat.eq_zero_or_pos b with rfl | hb0
  · by_cases h0 : a = 0
    · subst h0
      rw [show (if joLt f 0 = joLt g 0 then some ((max 0 1 : Nat) : Int) else none) = some 1 from if_pos rfl]
      rw [FSt.reach_old (s := { s4 with td := [0 + 3], most := max 1 ((0 : Nat) : Int) }) (i := 0 + 3 + 0) (t := tb (joLt f 0)) t4.1 t4.2] at e4
      refine .more n1.td e4 ?_
      exact FSt.Top.end_ (i := 3) (m := 1) ⟨rfl, t4.2, rfl, n1.len⟩ ho.oe hr (by omega)
    · have hn : joLt f a ≠ joLt g 0 := fun e => h0 (by have := congrArg List.length e; rwa [joLt_len, joLt_len] at this)
      rw [if_neg hn]
      rw [FSt.reach_other (s := { s4 with td := [a + 3], most := max 1 (a : Int) }) (i := a + 3 + 0) t4.1 t4.2 (fun e => hn (tb_inj e).symm)] at e4
      exact .wrong n1.td e4
  · obtain ⟨s5, p1, p2, p3, p4⟩ := FSt.reach_new (s := { s4 with td := [a + 3], most := max 1 (a : Int) }) (i := a + 3 + b) (t := tb (joLt f a)) (f4 _ (by omega) (by omega)) n1.len
    rw [p1] at e4
    refine .more n1.td e4 ?_
    have P : FSt.Top s5 [a + 3] (a + 3 + b) (tb (joLt f a)) (max 1 (a : Int)) := ⟨p2.td, p2.st, p2.most, p2.len⟩
    have f5 : ∀ j, a + 3 < j → j ≠ a + 3 + b → j < c.ops.length → s5.kn[j]? = some false := fun j q1 q2 q3 => ((p3.2.2 j q2).1).trans (f4 j q1 q3)
    have t5 : s5.kn[a + 3]? = some true ∧ s5.st[a + 3]? = some (tb []) := ⟨((p3.2.2 _ (by omega)).1).trans t4.1, ((p3.2.2 _ (by omega)).2).trans t4.2⟩
    rcases Nat.lt_or_ge a b with hab | hab
    · have hn : joLt f a ≠ joLt g b := fun e => by have := congrArg List.length e; rw [joLt_len, joLt_len] at this; omega
      rw [if_neg hn]
      obtain ⟨s6, q1, q2, q3⟩ := pops (x := x) (c := c) (joLt f a) a (by rw [joLt_len]; omega) (by rw [joLt_len]; omega) (by rw [joLt_len]; omega) P (fun j w1 => ho.op j (by omega)) (fun j w1 w2 => f5 j (by omega) (by omega) (by omega))
      rw [joLt_len, Nat.sub_self, List.take_zero] at q1
      exact q3 _ (q1.wrong (ho.op a hab) (after_pop_no x c))
    · obtain ⟨s6, q1, q2, q3⟩ := pops (x := x) (c := c) (joLt f a) b (by rw [joLt_len]; omega) (by rw [joLt_len]; omega) (by rw [joLt_len]; omega) P ho.op (fun j w1 w2 => f5 j (by omega) (by omega) (by omega))
      rw [joLt_len] at q1
      refine q3 _ ?_
      rcases Nat.lt_or_ge b a with hba | hba
      · have hn : joLt f a ≠ joLt g b := fun e => by have := congrArg List.length e; rw [joLt_len, joLt_len] at this; omega
        rw [if_neg hn]
        exact q1.ret_no ho.oe (after_ret x c _ hr) (Or.inl rfl) (by rw [tb_size, List.length_take, joLt_len]; omega) (by rw [tb_size, List.length_take, joLt_len]; omega)
      · obtain rfl : a = b := by omega
        rw [Nat.sub_self, List.take_zero] at q1
        refine q1.ret ho.oe (after_ret x c [] hr) (Or.inl rfl) rfl ?_
        rw [show max (max (1 : Int) a) 0 = max 1 (a : Int) by omega]
        have t6 : s6.kn[a + 3]? = some true ∧ s6.st[a + 3]? = some (tb []) := ⟨((q2.2.2 _ (Or.inl (by omega))).1).trans t5.1, ((q2.2.2 _ (Or.inl (by omega))).2).trans t5.2⟩
        have j6 : s6.kn[a + 3 + a]? = some true ∧ s6.st[a + 3 + a]? = some (tb (joLt f a)) := ⟨((q2.2.2 _ (Or.inl (Nat.le_refl _))).1).trans p4, ((q2.2.2 _ (Or.inl (Nat.le_refl _))).2).trans P.st⟩
        have Q : FSt.Top { s6 with td := [a + 3], most := max 1 (a : Int) } [] (a + 3) (tb []) (max 1 (a : Int)) := ⟨rfl, t6.2, rfl, q1.len⟩
        obtain ⟨s7, u1, u2, u3⟩ := puts (x := x) (c := c) g (a - 1) (by omega) (by omega) Q (fun j w1 => ho.og j (by omega)) (fun j w1 w2 => ((q2.2.2 j (Or.inl (by omega))).1).trans (f5 j w1 (by omega) (by omega)))
        refine u3 _ ?_
        have j7 : s7.kn[a + 3 + a]? = some true ∧ s7.st[a + 3 + a]? = some (tb (joLt f a)) := ⟨((u2.2.2 _ (Or.inr (by omega))).1).trans j6.1, ((u2.2.2 _ (Or.inr (by omega))).2).trans j6.2⟩
        have e7 := u1.one (x := x) (ho.og (a - 1) (by omega)) (after_jo x c g (a - 1) _) (joOp_str _ _) (by rw [tb_size, List.length_append, joLt_len]; simp; omega)
        rw [← joLt_succ, tb_size, joLt_len, show a - 1 + 1 = a by omega, show max (max (max (1 : Int) a) ((a - 1 : Nat) : Int)) (a : Int) = ((max a 1 : Nat) : Int) by omega, show a + 3 + (a - 1) + 1 = a + 3 + a by omega] at e7
        by_cases hst : joLt f a = joLt g a
        · rw [if_pos hst]
          rw [FSt.reach_old (s := { s7 with td := [], most := ((max a 1 : Nat) : Int) }) j7.1 (by rw [← hst]; exact j7.2)] at e7
          exact .more u1.td e7 (.done rfl)
        · rw [if_neg hst]
          rw [FSt.reach_other (s := { s7 with td := [], most := ((max a 1 : Nat) : Int) }) j7.1 j7.2 (fun e => hst (tb_inj e))] at e7
          exact .wrong u1.td e7
end Go.Proofs.YtcgfabnmkbiogaaDoor
