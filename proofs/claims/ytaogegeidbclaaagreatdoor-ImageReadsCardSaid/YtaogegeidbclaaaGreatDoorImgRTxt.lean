/- The document's writer: how many, a truth, a text. -/
import Derived.Test.YtaogegeidbclaaaGreatDoorImgRNum
namespace Go.Proofs.YtaogegeidbclaaaGreatDoor
open Go.RowKit

set_option maxRecDepth 100000 in
set_option maxHeartbeats 1000000 in
theorem rmany_is (p : Nat) (n : Int) (s : Pc) (w : World) (hw : Wt.Is w 68 p s) (lb : (s ++ Pc.many n).b.length ≤ 100000000000000) :
    Calls Tryz.prog 23 #[.pointer (some ⟨p, 0, none⟩), .int .i64 n] w fun e w' => e = .returned (.tuple #[]) ∧ Wt.Is w' 68 p (s ++ Pc.many n) ∧ Wt.Kp p w w' := by
  have lb' : s.b.length + 4 ≤ 100000000000000 := by rw [Pc.len] at lb; exact lb
  have hp := hw.lt
  obtain ⟨B, d, HP, HO⟩ := hw
  have p1 := HP.cell 1 _ rfl
  have pf := HP.frozen
  have fin : ∀ w1, Wt.Is w1 68 p ⟨s.b, s.x || decide (10000 < n)⟩ → Wt.Kp p w w1 → Calls Tryz.prog 29 #[.pointer (some ⟨p, 0, none⟩), .int .i64 n] w1 fun e w' => e = .returned (.tuple #[]) ∧ Wt.Is w' 68 p (s ++ Pc.many n) ∧ Wt.Kp p w w' := fun w1 h1 k1 => by
    refine (rnum_is p n ⟨s.b, s.x || decide (10000 < n)⟩ w1 h1 (by rw [Pc.len]; exact lb')).mono ?_
    rintro e w' ⟨rfl, h2, h3⟩
    rw [← Pc.nums_one, Pc.many_num] at h2
    exact ⟨rfl, h2, k1.trans h3⟩
  have FIN := Aid.hid fin
  have W1 : 10000 < n → Hid (Wt.Is (w.setCell ⟨p, 1, none⟩ (.bool true)) 68 p ⟨s.b, s.x || decide (10000 < n)⟩) := fun hb => Aid.hid ⟨B, d, by rw [show (s.x || decide (10000 < n)) = true by simp [hb]]; exact HP.set 1 _, own_other HO (fun q hq => by have := (HO.lt q hq).1; omega) 1 _⟩
  have W0 : ¬ 10000 < n → Hid (Wt.Is w 68 p ⟨s.b, s.x || decide (10000 < n)⟩) := fun hb => Aid.hid ⟨B, d, by rw [show (s.x || decide (10000 < n)) = s.x by simp [hb]]; exact HP, HO⟩
  have K1 : Hid (Wt.Kp p w (w.setCell ⟨p, 1, none⟩ (.bool true))) := Aid.hid ((Wt.Kp.refl p w).set 1 _)
  clear fin HO lb lb' HP
  by_cases h1 : 10000 < n
  · have W2 := W1 h1
    clear W1 W0
    go_enter Tryz.func23, Tryz.ntmps23
    try simp only [List.append_eq, List.cons_append, List.nil_append]
    go_wp2_with fail
    go_at_call 29
    refine (FIN.out _ W2.out K1.out).mono ?_
    rintro e w' ⟨rfl, h2, h3⟩
    go_wp2_with fail
    go_end0
    exact ⟨rfl, h2, h3⟩
  · have W2 := W0 h1
    clear W1 W0
    go_enter Tryz.func23, Tryz.ntmps23
    try simp only [List.append_eq, List.cons_append, List.nil_append]
    go_wp2_with fail
    go_at_call 29
    refine (FIN.out _ W2.out (Wt.Kp.refl p w)).mono ?_
    rintro e w' ⟨rfl, h2, h3⟩
    go_wp2_with fail
    go_end0
    exact ⟨rfl, h2, h3⟩
set_option maxRecDepth 100000 in
set_option maxHeartbeats 1000000 in
theorem rflag_is (p : Nat) (b : Bool) (s : Pc) (w : World) (hw : Wt.Is w 68 p s) (lb : (s ++ Pc.flag b).b.length ≤ 100000000000000) :
    Calls Tryz.prog 67 #[.pointer (some ⟨p, 0, none⟩), .bool b] w fun e w' => e = .returned (.tuple #[]) ∧ Wt.Is w' 68 p (s ++ Pc.flag b) ∧ Wt.Kp p w w' := by
  have FIN : ∀ x : Int, x = (if b then 1 else 0) → Hid (Calls Tryz.prog 29 #[.pointer (some ⟨p, 0, none⟩), .int .i64 x] w fun e w' => e = .returned (.tuple #[]) ∧ Wt.Is w' 68 p (s ++ Pc.flag b) ∧ Wt.Kp p w w') := fun x hx => Aid.hid (by
    refine (rnum_is p x s _ hw (by rw [Pc.len] at lb ⊢; exact lb)).mono ?_
    rintro e w' ⟨rfl, h2, h3⟩
    rw [hx] at h2
    exact ⟨rfl, h2, h3⟩)
  clear hw lb
  cases b
  · have F := FIN 0 (by simp)
    clear FIN
    go_enter Tryz.func67, Tryz.ntmps67
    try simp only [List.append_eq, List.cons_append, List.nil_append]
    go_wp2_with fail
    go_at_call 29
    refine F.out.mono ?_
    rintro e w' ⟨rfl, h2, h3⟩
    go_wp2_with fail
    go_end0
    exact ⟨rfl, h2, h3⟩
  · have F := FIN 1 (by simp)
    clear FIN
    go_enter Tryz.func67, Tryz.ntmps67
    try simp only [List.append_eq, List.cons_append, List.nil_append]
    go_wp2_with fail
    go_at_call 29
    refine F.out.mono ?_
    rintro e w' ⟨rfl, h2, h3⟩
    go_wp2_with fail
    go_end0
    exact ⟨rfl, h2, h3⟩
set_option maxRecDepth 100000 in
set_option maxHeartbeats 1000000 in
theorem rtext_is (p : Nat) (t : ByteArray) (s : Pc) (w : World) (hw : Wt.Is w 68 p s) (lb : (s ++ Pc.text t).b.length ≤ 100000000000000) :
    Calls Tryz.prog 22 #[.pointer (some ⟨p, 0, none⟩), .string t] w fun e w' => e = .returned (.tuple #[]) ∧ Wt.Is w' 68 p (s ++ Pc.text t) ∧ Wt.Kp p w w' := by
  have ls : t.size < 100000000000001 := by
    have h : (s ++ Pc.text t).b.length = s.b.length + (4 + t.size) := by rw [Pc.len, Pc.text, Pc.len]; simp [Pc.many, Wt.be, Wt.chars_len]
    omega
  have lm : (s ++ Pc.many t.size).b.length + t.size ≤ 100000000000000 := by
    have h : (s ++ Pc.text t).b.length = (s ++ Pc.many t.size).b.length + t.size := by rw [Pc.text, ← Pc.assoc, Pc.len]; simp [Wt.chars_len]
    omega
  obtain ⟨i0, hi, hz0, hz1, hz2⟩ := info_parts info_byte
  have HW := Aid.hid hw
  have HT : Hid (∀ m : Int, m = t.size → (⟨(s ++ Pc.many m).b ++ Wt.chars t, (s ++ Pc.many m).x⟩ : Pc) = s ++ Pc.text t) := Aid.hid fun m hm => Wt.cats_one s m t hm
  clear hw lb
  go_enter Tryz.func22, Tryz.ntmps22
  try simp only [List.append_eq, List.cons_append, List.nil_append]
  go_wp2_with fail
  go_at_call 23
  refine (rmany_is p _ s w HW.out (by omega)).mono ?_
  rintro e w1 ⟨rfl, h2, h3⟩
  obtain ⟨B, d, HP, HO⟩ := h2
  have p0 := HP.cell 0 _ rfl
  have pf := HP.frozen
  have hp := HP.lt
  go_wp2_with (at_builtin; refine Lib.wpList_append_own_string _ rfl _ _ 32 9 rfl (p + 1) 5 i0 Tryz.underlying32 Tryz.underlying9 hi hz0 hz1 hz2 _ _ _ rfl HO t rfl ?d1 ?d2 ?d3 ?_)
  case d1 => unfold maxLen; omega
  case d2 => omega
  case d3 => omega
  intro v' w2 hown' hgrow _
  obtain ⟨A2, c2, rfl⟩ := own_slice hown'
  have HP2 : Aid.Has w2 p [.slice B (s ++ Pc.many t.size).b.length d, .bool (s ++ Pc.many t.size).x] 68 := (hgrow.block p hp (fun e => by have := (HO.lt p e.symm).1; omega)).trans HP
  have K2 := (h3.grown (by omega) HO hgrow).set 0 (.slice A2 ((s ++ Pc.many t.size).b.length + t.size) c2)
  have S2 : Wt.Is (w2.setCell ⟨p, 0, none⟩ (.slice A2 ((s ++ Pc.many t.size).b.length + t.size) c2)) 68 p (s ++ Pc.text t) := by
    rw [← HT.out _ rfl]
    refine ⟨A2, c2, ?_, ?_⟩
    · have h := HP2.set 0 (.slice A2 ((s ++ Pc.many t.size).b.length + t.size) c2)
      simpa [Wt.chars_len] using h
    · have h := own_other hown' (fun q hq => by have := (hown'.lt q hq).1; omega) 0 (.slice A2 ((s ++ Pc.many t.size).b.length + t.size) c2) (b := p)
      simpa [Wt.chars_len, Wt.chars_cells] using h
  have q0 := HP2.cell 0 _ rfl
  have qf := HP2.frozen
  go_wp2_with fail
  go_end0
  exact ⟨rfl, S2, K2⟩

end Go.Proofs.YtaogegeidbclaaaGreatDoor
