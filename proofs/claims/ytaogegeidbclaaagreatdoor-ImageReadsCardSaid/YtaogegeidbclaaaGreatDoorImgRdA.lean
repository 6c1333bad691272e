/- The program's reader: bytes taken. -/
import Derived.Test.YtaogegeidbclaaaGreatDoorImgRdL
namespace Go.Proofs.YtaogegeidbclaaaGreatDoor
open Go.RowKit

/-- What taking comes to. -/
def Took (T : TypeId) (p : Nat) (n : Int) (s : St) (w : World) (e : Ending) (w' : World) : Prop :=
  ∃ (A : Option Addr) (c : Nat) (o : List Int) (s' : St), e = .returned (.slice A o.length c) ∧ o.length ≤ c ∧ Reads w' p 1 A o.length (o.map (Value.int .u8)) ∧ (∀ y ∈ o, 0 ≤ y ∧ y < 256) ∧ Rd.Is w' T p s' ∧ Keep p w w' ∧
    ((s.x = true ∨ n < 0 ∨ (s.b.length : Int) < n) → o = [] ∧ s' = ⟨s.b, true⟩) ∧ (s.x = false → 0 ≤ n → n ≤ (s.b.length : Int) → o = s.b.take n.toNat ∧ s' = ⟨s.b.drop n.toNat, false⟩)
theorem Took.no {T : TypeId} {p : Nat} {n : Int} {s : St} {w : World} {e : Ending} (hs : s.x = true ∨ n < 0 ∨ (s.b.length : Int) < n) (h : Rd.Is w T p s) (he : e = .returned (.slice none 0 0)) :
    Took T p n s w e (w.setCell ⟨p, 1, none⟩ (.bool true)) := by
  obtain ⟨A, c, h1, h2, h3, h4⟩ := h
  refine ⟨none, 0, [], ⟨s.b, true⟩, he, Nat.le_refl _, Reads.none_, by simp, ⟨A, c, h1.set 1 _, h2, h3.setCell (Nat.le_refl _) _, h4⟩, Keep.set p w 1 _, fun _ => ⟨rfl, rfl⟩, fun a b d => ?_⟩
  rcases hs with h | h | h
  · rw [h] at a; cases a
  · omega
  · omega
theorem Took.yes {T : TypeId} {p m : Nat} {bs : List Int} {w : World} {A A2 : Option Addr} {c : Nat} {e : Ending} (hm : m ≤ bs.length) (h1 : Aid.Has w p [.slice A bs.length c, .bool false] T) (h2 : bs.length ≤ c)
    (h3 : Reads w p 1 A bs.length (bs.map (Value.int .u8))) (h4 : ∀ y ∈ bs, 0 ≤ y ∧ y < 256) (hA : (if c = m then A else A.map (·.add (m * 1))) = A2) (he : e = .returned (.slice A m c)) :
    Took T p m ⟨bs, false⟩ w e (w.setCell ⟨p, 0, none⟩ (.slice A2 (bs.length - m) (c - m))) := by
  have hl : (bs.take m).length = m := by rw [List.length_take]; omega
  have hr := h3.cut (k := m) (cap := c) hm h2
  rw [hA, Nat.mul_one, ← List.map_drop] at hr
  refine ⟨A, c, bs.take m, ⟨bs.drop m, false⟩, by rw [hl]; exact he, by rw [hl]; omega, ?_, fun y hy => h4 y (List.mem_of_mem_take hy), ⟨A2, c - m, ?_, ?_, ?_, fun y hy => h4 y (List.mem_of_mem_drop hy)⟩, Keep.set p w 0 _, fun h => ?_, fun _ _ _ => ⟨by simp, by simp⟩⟩
  · rw [hl]
    refine ⟨by simp; omega, fun hn => ?_⟩
    obtain ⟨ad, q1, q2, q3⟩ := h3.2 (by omega)
    refine ⟨ad, q1, q2, fun j u hu => ?_⟩
    have hj : j < m := by have := (List.getElem?_eq_some_iff.1 hu).1; simp at this; omega
    have h5 := q3 j u (by rw [List.map_take, List.getElem?_take, if_pos hj] at hu; exact hu)
    have h6 : (ad.add j).block ≠ p := by rw [block_of_add]; omega
    rw [show (w.setCell ⟨p, 0, none⟩ (.slice A2 (bs.length - m) (c - m))).cell? (ad.add j) = w.cell? (ad.add j) from by
      unfold World.cell?
      rw [Below.heap_setCell w ⟨p, 0, none⟩ _ _ h6]]
    exact h5
  · have := h1.set 0 (.slice A2 (bs.length - m) (c - m))
    rw [List.length_drop]; exact this
  · rw [List.length_drop]; show bs.length - m ≤ c - m; omega
  · rw [List.length_drop]; exact hr.setCell (Nat.le_refl _) _
  · simp only [Bool.false_eq_true, false_or] at h
    exact absurd h (by have : (m : Int) ≤ (bs.length : Int) := by exact_mod_cast hm
                       rintro (h | h) <;> omega)
set_option maxRecDepth 100000 in
set_option maxHeartbeats 1000000 in
theorem take_no (p : Nat) (n : Int) (s : St) (w : World) (h : Rd.Is w 92 p s) (hs : s.x = true ∨ n < 0 ∨ (s.b.length : Int) < n) :
    Calls Tryz.prog 77 #[.pointer (some ⟨p, 0, none⟩), .int .i64 n] w fun e w' => Took 92 p n s w e w' := by
  have HT := Aid.hid (fun e he => Took.no (e := e) hs h he)
  obtain ⟨A, c, h1, h2, h3, h4⟩ := h
  have p0 := h1.cell 0 _ rfl
  have p1 := h1.cell 1 _ rfl
  have pf := h1.frozen
  clear h3 h4 h1
  obtain ⟨bs, x⟩ := s
  cases x
  · by_cases hn : n < 0
    · clear hs
      go_enter Tryz.func77, Tryz.ntmps77
      try simp only [List.append_eq, List.cons_append, List.nil_append]
      go_wp2_with fail
      go_ret
      exact HT.out _ rfl
    · have hl : (bs.length : Int) < n := by rcases hs with h | h | h <;> simp_all <;> omega
      clear hs
      go_enter Tryz.func77, Tryz.ntmps77
      try simp only [List.append_eq, List.cons_append, List.nil_append]
      go_wp2_with fail
      go_ret
      exact HT.out _ rfl
  · clear hs
    go_enter Tryz.func77, Tryz.ntmps77
    try simp only [List.append_eq, List.cons_append, List.nil_append]
    go_wp2_with fail
    go_ret
    exact HT.out _ rfl
set_option maxRecDepth 100000 in
set_option maxHeartbeats 1000000 in
theorem take_yes (p : Nat) (m : Nat) (bs : List Int) (w : World) (h : Rd.Is w 92 p ⟨bs, false⟩) (hm : m ≤ bs.length) :
    Calls Tryz.prog 77 #[.pointer (some ⟨p, 0, none⟩), .int .i64 m] w fun e w' => Took 92 p m ⟨bs, false⟩ w e w' := by
  obtain ⟨A, c, h1, h2, h3, h4⟩ := h
  have p0 := h1.cell 0 _ rfl
  have p1 := h1.cell 1 _ rfl
  have pf := h1.frozen
  obtain ⟨A2, hA2⟩ : ∃ A2, (if c = m then A else A.map (·.add (m * 1))) = A2 := ⟨_, rfl⟩
  have HT := Aid.hid (fun (e : Ending) (he : e = .returned (.slice A m c)) => Took.yes hm h1 h2 h3 h4 hA2 he)
  simp only [Nat.mul_one] at hA2
  have hmc : m ≤ c := Nat.le_trans hm h2
  clear h1 h3 h4
  go_enter Tryz.func77, Tryz.ntmps77
  try simp only [List.append_eq, List.cons_append, List.nil_append]
  go_wp2_with fail
  go_ret
  exact HT.out _ rfl
theorem take_is (p : Nat) (n : Int) (s : St) (w : World) (h : Rd.Is w 92 p s) :
    Calls Tryz.prog 77 #[.pointer (some ⟨p, 0, none⟩), .int .i64 n] w fun e w' => Took 92 p n s w e w' := by
  by_cases hs : s.x = true ∨ n < 0 ∨ (s.b.length : Int) < n
  · exact take_no p n s w h hs
  · obtain ⟨bs, x⟩ := s
    obtain rfl : x = false := by cases x <;> simp_all
    obtain ⟨m, rfl⟩ : ∃ m : Nat, n = m := ⟨n.toNat, by omega⟩
    exact take_yes p m bs w h (by simp at hs; omega)
end Go.Proofs.YtaogegeidbclaaaGreatDoor
