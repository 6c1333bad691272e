/- How many, a text, a truth: laid. -/
import Derived.Test.YtaogegeidbclaaaGreatDoorImgPc
namespace Go.Proofs.YtaogegeidbclaaaGreatDoor
open Go.RowKit

theorem Pc.many_num (s : Pc) (n : Int) : (⟨s.b, s.x || decide (10000 < n)⟩ : Pc) ++ Pc.nums [n] = s ++ Pc.many n := by
  simp [Pc.app_def, Pc.nums, Pc.many, Bool.or_assoc]
set_option maxRecDepth 100000 in
set_option maxHeartbeats 1000000 in
theorem wmany_is (p : Nat) (n : Int) (s : Pc) (w : World) (hw : Wt.Is w 63 p s) (lb : (s ++ Pc.many n).b.length ≤ 100000000000000) :
    Calls Tryz.prog 91 #[.pointer (some ⟨p, 0, none⟩), .int .i64 n] w fun e w' => e = .returned (.tuple #[]) ∧ Wt.Is w' 63 p (s ++ Pc.many n) ∧ Wt.Kp p w w' := by
  have hp := hw.lt
  obtain ⟨B, d, HP, HO⟩ := hw
  have p1 := HP.cell 1 _ rfl
  have pf := HP.frozen
  have lb' : s.b.length + 4 ≤ 100000000000000 := by rw [Pc.len] at lb; exact lb
  have W1 : ∀ b : Bool, b = (s.x || decide (10000 < n)) → Hid (Wt.Is (w.setCell ⟨p, 1, none⟩ (.bool b)) 63 p ⟨s.b, s.x || decide (10000 < n)⟩) := fun b hb => Aid.hid ⟨B, d, by rw [← hb]; exact HP.set 1 _, own_other HO (fun q hq => by have := (HO.lt q hq).1; omega) 1 _⟩
  have K1 : ∀ b : Bool, Hid (Wt.Kp p w (w.setCell ⟨p, 1, none⟩ (.bool b))) := fun b => Aid.hid ((Wt.Kp.refl p w).set 1 _)
  have fin : ∀ b : Bool, b = (s.x || decide (10000 < n)) → Calls Tryz.prog 66 #[.pointer (some ⟨p, 0, none⟩), .slice (some ⟨w.heap.size, 0, none⟩) 1 1] ((w.setCell ⟨p, 1, none⟩ (.bool b)).alloc (.cells #[.int .i64 n] 3)) fun e w' => e = .returned (.tuple #[]) ∧ Wt.Is w' 63 p (s ++ Pc.many n) ∧ Wt.Kp p w w' := fun b hb => by
    have hs : (w.setCell ⟨p, 1, none⟩ (.bool b)).heap.size = w.heap.size := Aid.size_setCell _ _ _
    have h1 := wnum_pc p (some ⟨w.heap.size, 0, none⟩) 1 [n] ⟨s.b, s.x || decide (10000 < n)⟩ ((w.setCell ⟨p, 1, none⟩ (.bool b)).alloc (.cells #[.int .i64 n] 3)) ((W1 b hb).out.alloc _)
      (by rw [← hs]; exact Wt.ints_new [n] (by rw [hs]; exact hp)) (by simp) (by simpa using lb')
    refine h1.mono ?_
    rintro e w' ⟨rfl, h2, h3⟩
    rw [Pc.many_num] at h2
    exact ⟨rfl, h2, ((K1 b).out.alloc (by rw [hs]; omega) _).trans h3⟩
  have FIN := Aid.hid fin
  clear fin W1 K1 HO lb lb'
  have HPH := Aid.hid HP
  clear HP
  obtain ⟨sb, sx⟩ := s
  cases sx
  · by_cases h1 : 10000 < n
    · go_enter Tryz.func91, Tryz.ntmps91
      try simp only [List.append_eq, List.cons_append, List.nil_append]
      go_wp2_with fail
      go_at_call 66
      refine (FIN.out true (by simp [h1])).mono ?_
      rintro e w' ⟨rfl, h2, h3⟩
      go_wp2_with fail
      go_end0
      exact ⟨rfl, h2, h3⟩
    · go_enter Tryz.func91, Tryz.ntmps91
      try simp only [List.append_eq, List.cons_append, List.nil_append]
      go_wp2_with fail
      go_at_call 66
      refine (FIN.out false (by simp [h1])).mono ?_
      rintro e w' ⟨rfl, h2, h3⟩
      go_wp2_with fail
      go_end0
      exact ⟨rfl, h2, h3⟩
  · go_enter Tryz.func91, Tryz.ntmps91
    try simp only [List.append_eq, List.cons_append, List.nil_append]
    go_wp2_with fail
    go_at_call 66
    refine (FIN.out true (by simp)).mono ?_
    rintro e w' ⟨rfl, h2, h3⟩
    go_wp2_with fail
    go_end0
    exact ⟨rfl, h2, h3⟩

theorem Wt.cats_one (s : Pc) (n : Int) (t : ByteArray) (h : n = t.size) : (⟨(s ++ Pc.many n).b ++ Wt.chars t, (s ++ Pc.many n).x⟩ : Pc) = s ++ Pc.text t := by
  subst h; simp [Pc.text, Pc.app_def, List.append_assoc]
set_option maxRecDepth 100000 in
set_option maxHeartbeats 1000000 in
theorem wtext_is (p : Nat) (t : ByteArray) (s : Pc) (w : World) (hw : Wt.Is w 63 p s) (lb : (s ++ Pc.text t).b.length ≤ 100000000000000) :
    Calls Tryz.prog 54 #[.pointer (some ⟨p, 0, none⟩), .string t] w fun e w' => e = .returned (.tuple #[]) ∧ Wt.Is w' 63 p (s ++ Pc.text t) ∧ Wt.Kp p w w' := by
  have ls : t.size < 100000000000001 := by
    have h : (s ++ Pc.text t).b.length = s.b.length + (4 + t.size) := by rw [Pc.len, Pc.text, Pc.len]; simp [Pc.many, Wt.be, Wt.chars_len]
    omega
  have lm : (s ++ Pc.many t.size).b.length + t.size ≤ 100000000000000 := by
    have h : (s ++ Pc.text t).b.length = (s ++ Pc.many t.size).b.length + t.size := by rw [Pc.text, ← Pc.assoc, Pc.len]; simp [Wt.chars_len]
    omega
  obtain ⟨i0, hi, hz0, hz1, hz2⟩ := info_parts info_byte
  have HW := Aid.hid hw
  have HT : Hid (∀ m : Int, m = t.size → (⟨(s ++ Pc.many m).b ++ Wt.chars t, (s ++ Pc.many m).x⟩ : Pc) = s ++ Pc.text t) := Aid.hid fun m hm => Wt.cats_one s m t hm
  clear hw lb
  go_enter Tryz.func54, Tryz.ntmps54
  try simp only [List.append_eq, List.cons_append, List.nil_append]
  go_wp2_with fail
  go_at_call 91
  refine (wmany_is p _ s w HW.out (by omega)).mono ?_
  rintro e w1 ⟨rfl, h2, h3⟩
  obtain ⟨B, d, HP, HO⟩ := h2
  have p0 := HP.cell 0 _ rfl
  have pf := HP.frozen
  have hp := HP.lt
  go_wp2_with (at_builtin; refine Lib.wpList_append_own_string _ rfl _ _ 32 9 rfl (p + 1) 5 i0 Tryz.underlying32 Tryz.underlying9 hi hz0 hz1 hz2 _ _ _ rfl HO t rfl ?d1 ?d2 ?d3 ?_)
  case d1 => unfold maxLen; omega
  case d2 => omega
  case d3 => omega
  intro v' w2 hown' hgrow _
  obtain ⟨A2, c2, rfl⟩ := own_slice hown'
  have HP2 : Aid.Has w2 p [.slice B (s ++ Pc.many t.size).b.length d, .bool (s ++ Pc.many t.size).x] 63 := (hgrow.block p hp (fun e => by have := (HO.lt p e.symm).1; omega)).trans HP
  have K2 := (h3.grown (by omega) HO hgrow).set 0 (.slice A2 ((s ++ Pc.many t.size).b.length + t.size) c2)
  have S2 : Wt.Is (w2.setCell ⟨p, 0, none⟩ (.slice A2 ((s ++ Pc.many t.size).b.length + t.size) c2)) 63 p (s ++ Pc.text t) := by
    rw [← HT.out _ rfl]
    refine ⟨A2, c2, ?_, ?_⟩
    · have h := HP2.set 0 (.slice A2 ((s ++ Pc.many t.size).b.length + t.size) c2)
      simpa [Wt.chars_len] using h
    · have h := own_other hown' (fun q hq => by have := (hown'.lt q hq).1; omega) 0 (.slice A2 ((s ++ Pc.many t.size).b.length + t.size) c2) (b := p)
      simpa [Wt.chars_len, Wt.chars_cells] using h
  have q0 := HP2.cell 0 _ rfl
  have qf := HP2.frozen
  go_wp2_with fail
  go_end0
  exact ⟨rfl, S2, K2⟩

set_option maxRecDepth 100000 in
set_option maxHeartbeats 1000000 in
theorem wyes_is (p : Nat) (b : Bool) (s : Pc) (w : World) (hw : Wt.Is w 63 p s) (lb : (s ++ Pc.flag b).b.length ≤ 100000000000000) :
    Calls Tryz.prog 95 #[.pointer (some ⟨p, 0, none⟩), .bool b] w fun e w' => e = .returned (.tuple #[]) ∧ Wt.Is w' 63 p (s ++ Pc.flag b) ∧ Wt.Kp p w w' := by
  have hp := hw.lt
  have fin : ∀ x : Int, x = (if b then 1 else 0) → Calls Tryz.prog 66 #[.pointer (some ⟨p, 0, none⟩), .slice (some ⟨w.heap.size, 0, none⟩) 1 1] (w.alloc (.cells #[.int .i64 x] 3)) fun e w' => e = .returned (.tuple #[]) ∧ Wt.Is w' 63 p (s ++ Pc.flag b) ∧ Wt.Kp p w w' := fun x hx => by
    refine (wnum_pc p (some ⟨w.heap.size, 0, none⟩) 1 [x] s _ (hw.alloc _) (Wt.ints_new [x] hp) (by simp) (by rw [Pc.len] at lb; exact lb)).mono ?_
    rintro e w' ⟨rfl, h2, h3⟩
    rw [Pc.nums_one, hx] at h2
    exact ⟨rfl, h2, ((Wt.Kp.refl p w).alloc (by omega) _).trans h3⟩
  have FIN := Aid.hid fin
  clear fin hw lb
  cases b
  all_goals
    go_enter Tryz.func95, Tryz.ntmps95
    try simp only [List.append_eq, List.cons_append, List.nil_append]
    go_wp2_with fail
    go_at_call 66
    refine (FIN.out _ (by simp)).mono ?_
    rintro e w' ⟨rfl, h2, h3⟩
    go_wp2_with fail
    go_end0
    exact ⟨rfl, h2, h3⟩
end Go.Proofs.YtaogegeidbclaaaGreatDoor
