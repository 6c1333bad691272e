/- The document's reader: how many, a text. -/
import Derived.Test.YtaogegeidbclaaaGreatDoorImgR2A
namespace Go.Proofs.YtaogegeidbclaaaGreatDoor
open Go.RowKit

/-- What reading how many there are comes to. -/
def Manyd2 (T : TypeId) (p : Nat) (s : St) (w : World) (e : Ending) (w' : World) : Prop :=
  ∃ (v : Nat) (s' : St), e = .returned (.int .i64 v) ∧ v ≤ 10000 ∧ Rd2.Is w' T p s' ∧ Keep p w w' ∧ GotM v s s' ∧ v ≤ s'.b.length
theorem GotM.of {s s1 : St} {v : Int} (h : Got Pc.num (fun u => v = u) s s1) (n : Nat) (s' : St) (hs : (∀ t, s1 = ⟨t, false⟩ → 0 ≤ v → v ≤ 10000 → v ≤ t.length → (n : Int) = v ∧ s' = s1)) : GotM n s s' := fun k t h1 h2 h3 h4 => by
  simp only [Pc.many, Bool.or_eq_false_iff, decide_eq_false_iff_not] at h3
  obtain ⟨rfl, e⟩ := h (k : Int) t h1 h2 (by simpa [Pc.num] using h3.2)
  obtain ⟨q1, q2⟩ := hs t e (by omega) (by omega) (by omega)
  exact ⟨by omega, by rw [q2, e]⟩
set_option maxRecDepth 100000 in
set_option maxHeartbeats 2000000 in
theorem many2_is (p : Nat) (s : St) (w : World) (h : Rd2.Is w 97 p s) :
    Calls Tryz.prog 47 #[.pointer (some ⟨p, 0, none⟩)] w fun e w' => Manyd2 97 p s w e w' := by
  have HC := Aid.hid (num2_is p s w h)
  clear h
  go_enter Tryz.func47, Tryz.ntmps47
  try simp only [List.append_eq, List.cons_append, List.nil_append]
  go_wp2_with fail
  go_at_call 53
  refine HC.out.mono ?_
  rintro e w1 ⟨v, s1, rfl, g1, g2, g3, g4, g5⟩
  clear HC
  have HI := Aid.hid g3
  have HK := Aid.hid g4
  have HG := Aid.hid g5
  obtain ⟨A, c, bs, a, h1, h2, h3, h4, h5, h6, h7⟩ := g3
  obtain ⟨b1, x1⟩ := s1
  have p0 := h1.cell 0 _ rfl
  have p1 := h1.cell 1 _ rfl
  have p2 := h1.cell 2 _ rfl
  have pf := h1.frozen
  have hp := h1.lt
  obtain rfl : b1 = bs.drop a := h3
  have hll : (bs.drop a).length = bs.length - a := List.length_drop
  have hwr : IntKind.i64.wrap ((bs.length : Int) - (a : Int)) = (bs.length : Int) - a := IntWalk.i64_in _ (by omega)
  have NO : Hid (∀ (n : Nat) (e : Ending), (v < 0 ∨ 10000 < v ∨ (bs.length : Int) - a < v) → e = .returned (.int .i64 0) → Manyd2 97 p s w e ((w1.drewN n).setCell ⟨p, 2, none⟩ (.bool true))) := Aid.hid fun n e hh he =>
    ⟨0, ⟨bs.drop a, true⟩, he, by omega, (HI.out.drewN n).bad true, (HK.out.drewN n).trans (Keep.set p _ 2 _), GotM.of HG.out 0 _ (fun t e h1 h2 h3 => by
      have e1 : bs.drop a = t := congrArg St.b e
      have e2 : t.length = bs.length - a := by rw [← e1, hll]
      omega), Nat.zero_le _⟩
  have YES : Hid (∀ (n : Nat) (e : Ending), ¬ v < 0 → ¬ 10000 < v → ¬ ((bs.length : Int) - a < v) → e = .returned (.int .i64 v) → Manyd2 97 p s w e (w1.drewN n)) := Aid.hid fun n e q1 q2 q3 he =>
    ⟨v.toNat, ⟨bs.drop a, x1⟩, by rw [Int.toNat_of_nonneg (by omega)]; exact he, by omega, HI.out.drewN n, HK.out.drewN n, GotM.of HG.out _ _ (fun t e h1 h2 h3 => ⟨by omega, rfl⟩), by show v.toNat ≤ (bs.drop a).length; rw [hll]; omega⟩
  clear h1 h2 h4 h5 h6 h7 hll g1 g2 g4 g5
  by_cases t1 : v < 0
  · have d1 : decide (v < 0) = true := decide_eq_true t1
    have pz : ∀ n, (w1.drewN n).cell? ⟨p, 2, none⟩ = some (.bool x1) := fun _ => p2
    go_wp2_with fail
    go_quiet (fail)
    clear hwr d1
    have pz2 := pz nq
    go_wp2_with fail
    go_ret
    exact NO.out _ _ (Or.inl t1) rfl
  · have d1 : decide (v < 0) = false := decide_eq_false t1
    by_cases t2 : 10000 < v
    · have d2 : decide (10000 < v) = true := decide_eq_true t2
      have pz : ∀ n, (w1.drewN n).cell? ⟨p, 2, none⟩ = some (.bool x1) := fun _ => p2
      go_wp2_with fail
      go_quiet (fail)
      clear hwr d1 d2
      have pz2 := pz nq
      go_wp2_with fail
      go_ret
      exact NO.out _ _ (Or.inr (Or.inl t2)) rfl
    · have d2 : decide (10000 < v) = false := decide_eq_false t2
      by_cases t3 : (bs.length : Int) - a < v
      · have d3 : decide ((bs.length : Int) - a < v) = true := decide_eq_true t3
        have pz : ∀ n, (w1.drewN n).cell? ⟨p, 2, none⟩ = some (.bool x1) := fun _ => p2
        go_wp2_with fail
        go_quiet (fail)
        clear hwr d1 d2 d3
        have pz2 := pz nq
        go_wp2_with fail
        go_ret
        exact NO.out _ _ (Or.inr (Or.inr t3)) rfl
      · have d3 : decide ((bs.length : Int) - a < v) = false := decide_eq_false t3
        go_wp2_with fail
        go_quiet (fail)
        clear hwr d1 d2 d3
        go_wp2_with fail
        go_ret
        exact YES.out _ _ t1 t2 t3 rfl
/-- What reading a text comes to. -/
def Textd2 (T : TypeId) (p : Nat) (s : St) (w : World) (e : Ending) (w' : World) : Prop :=
  ∃ (t : ByteArray) (s' : St), e = .returned (.string t) ∧ t.size ≤ 10000 ∧ Rd2.Is w' T p s' ∧ Keep p w w' ∧ Got Pc.text (fun u => t = u) s s'
theorem GotM.text {s s1 s2 : St} {n : Nat} {t : ByteArray} (h : GotM n s s1) (hs : ∀ r, s1 = ⟨r, false⟩ → n ≤ r.length → t = strOfNums (r.take n) ∧ s2 = ⟨r.drop n, false⟩) : Got Pc.text (fun u => t = u) s s2 := fun u r k1 k2 k3 => by
  have k4 : (Pc.many (u.size : Int)).x = false := by simpa [Pc.text, Pc.app_def] using k3
  obtain ⟨rfl, e⟩ := h u.size (Wt.chars u ++ r) k1 (by rw [k2]; simp [Pc.text, Pc.app_def, List.append_assoc]) k4 (by rw [List.length_append, Wt.chars_len]; omega)
  obtain ⟨q1, q2⟩ := hs _ e (by rw [List.length_append, Wt.chars_len]; omega)
  have k6 : (Wt.chars u ++ r).take u.size = Wt.chars u := by rw [List.take_append_of_le_length (by rw [Wt.chars_len]; exact Nat.le_refl _), List.take_of_length_le (by rw [Wt.chars_len]; exact Nat.le_refl _)]
  have k7 : (Wt.chars u ++ r).drop u.size = r := by rw [List.drop_append_of_le_length (by rw [Wt.chars_len]; exact Nat.le_refl _), List.drop_of_length_le (by rw [Wt.chars_len]; exact Nat.le_refl _)]; rfl
  exact ⟨by rw [q1, k6, Rd.str_chars], by rw [q2, k7]⟩
set_option maxRecDepth 100000 in
set_option maxHeartbeats 2000000 in
theorem text2_is (p : Nat) (s : St) (w : World) (h : Rd2.Is w 97 p s) :
    Calls Tryz.prog 46 #[.pointer (some ⟨p, 0, none⟩)] w fun e w' => Textd2 97 p s w e w' := by
  have HC := Aid.hid (many2_is p s w h)
  clear h
  go_enter Tryz.func46, Tryz.ntmps46
  try simp only [List.append_eq, List.cons_append, List.nil_append]
  go_wp2_with fail
  go_at_call 47
  refine HC.out.mono ?_
  rintro e w1 ⟨v, s1, rfl, g1, g3, g4, g5, g6⟩
  clear HC
  have HI := Aid.hid g3
  have HK := Aid.hid g4
  have HG := Aid.hid g5
  obtain ⟨A, c, bs, a, h1, h2, h3, h4, h5, h6, h7⟩ := g3
  obtain ⟨b1, x1⟩ := s1
  have p0 := h1.cell 0 _ rfl
  have p1 := h1.cell 1 _ rfl
  have p2 := h1.cell 2 _ rfl
  have pf := h1.frozen
  obtain rfl : b1 = bs.drop a := h3
  have hll : (bs.drop a).length = bs.length - a := List.length_drop
  have hva : a + v ≤ bs.length := by have : v ≤ (bs.drop a).length := g6; omega
  cases x1
  · have hA2 : ∃ A2, (if c = a then A else A.map (·.add (a * 1))) = A2 := ⟨_, rfl⟩
    obtain ⟨A2, hA2⟩ := hA2
    have hcut := h6.cut (k := a) (cap := c) h2 h4
    rw [hA2, Nat.mul_one, ← List.map_drop, ← hll] at hcut
    have htk := reads_take hcut (k := v) g6
    have hlt : ((bs.drop a).take v).length = v := by rw [List.length_take]; have : v ≤ (bs.drop a).length := g6; omega
    rw [hlt] at htk
    obtain ⟨w2, hw2⟩ : ∃ w2, w1.setCell ⟨p, 1, none⟩ (.int .i64 ((a + v : Nat) : Int)) = w2 := ⟨_, rfl⟩
    have r2 : Reads w2 p 1 A2 v (((bs.drop a).take v).map (Value.int .u8)) := by rw [← hw2]; exact htk.setCell (Nat.le_refl _) _
    have hcv : ∀ n, (convert 32 9 (.slice A2 v (c - a))).run Tryz.prog (w2.drewN n) = .ok (.string (strOfNums ((bs.drop a).take v))) (w2.drewN n) := fun n => by
      have := Rd.str (w2.drewN n) p A2 ((bs.drop a).take v) (c - a) (by rw [hlt]; exact r2)
      rwa [hlt] at this
    have I2 := Rd2.Is.on h1 h4 h5 h6 h7 (a + v) hva
    have K2 := g4.trans (Keep.set p w1 1 (.int .i64 ((a + v : Nat) : Int)))
    rw [hw2] at I2 K2
    have FIN : Hid (∀ (n : Nat) (e : Ending), e = .returned (.string (strOfNums ((bs.drop a).take v))) → Textd2 97 p s w e (w2.drewN n)) := Aid.hid fun n e he =>
      ⟨_, ⟨bs.drop (a + v), false⟩, he, by rw [Rd.str_size, hlt]; exact g1, I2.drewN n, K2.drewN n, HG.out.text (fun r hr _ => by
        have e1 : bs.drop a = r := congrArg St.b hr
        rw [← e1, List.drop_drop]; exact ⟨rfl, rfl⟩)⟩
    have q0 : w2.cell? ⟨p, 0, none⟩ = some (.slice A bs.length c) := by rw [← hw2]; exact (h1.set 1 _).cell 0 _ rfl
    have q1 : w2.cell? ⟨p, 1, none⟩ = some (.int .i64 ((a : Int) + v)) := by rw [← hw2]; have := (h1.set 1 (.int .i64 ((a + v : Nat) : Int))).cell 1 _ rfl; simpa using this
    have hsub : IntKind.i64.wrap ((a : Int) + (v : Int) - (v : Int)) = (a : Int) := by rw [IntWalk.i64_in _ (by omega)]; omega
    have hcast : ((a + v : Nat) : Int) = (a : Int) + v := by omega
    rw [hcast] at hw2
    have H2 := Aid.hid hw2
    have hac : a + v ≤ c := by omega
    simp only [Nat.mul_one] at hA2
    have hlen : a + v - a = v := by omega
    have hbnd : a + v ≤ 100000000000000 := by omega
    clear h1 h2 h4 h5 h6 h7 hcut htk r2 I2 K2 hll g4 g5 g6 HI HK hw2 hcast
    go_wp2_with fail
    rw [H2.out]
    clear p0 p1 p2
    go_quiet (fail)
    clear hsub hcv
    go_wp2_with fail
    go_ret
    exact FIN.out _ _ rfl
  · have FIN : Hid (Textd2 97 p s w (.returned (.string ⟨#[]⟩)) w1) := Aid.hid ⟨⟨#[]⟩, ⟨bs.drop a, true⟩, rfl, by decide, HI.out, HK.out, HG.out.text (fun r hr _ => by cases hr)⟩
    clear h1 h2 h4 h5 h6 h7 hll g4 g5 g6 HI HK HG hva
    go_wp2_with fail
    go_ret
    exact FIN.out
end Go.Proofs.YtaogegeidbclaaaGreatDoor
