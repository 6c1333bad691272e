/- The program's reader: how many, a text, a truth. -/
import Derived.Test.YtaogegeidbclaaaGreatDoorImgRdB
import Derived.Laws.BytesArg
namespace Go.Proofs.YtaogegeidbclaaaGreatDoor
open Go.RowKit

theorem Rd.Is.bad {w : World} {T : TypeId} {p : Nat} {s : St} (h : Rd.Is w T p s) (x : Bool) : Rd.Is (w.setCell ⟨p, 1, none⟩ (.bool x)) T p ⟨s.b, x⟩ := by
  obtain ⟨A, c, h1, h2, h3, h4⟩ := h
  exact ⟨A, c, h1.set 1 _, h2, h3.setCell (Nat.le_refl _) _, h4⟩
/-- What reading how many there are comes to. -/
def Manyd (T : TypeId) (p : Nat) (s : St) (w : World) (e : Ending) (w' : World) : Prop :=
  ∃ (v : Nat) (s' : St), e = .returned (.int .i64 v) ∧ v ≤ 10000 ∧ Rd.Is w' T p s' ∧ Keep p w w' ∧ Got (fun k : Nat => Pc.many k) (fun k => v = k) s s'
theorem Got.many {s s1 : St} {v : Int} (h : Got Pc.num (fun u => v = u) s s1) (x : Bool) (hx : x = true → s1.x = true ∨ v < 0 ∨ 10000 < v) (hy : x = false → s1.x = false ∧ 0 ≤ v) (k : Nat) (hk : x = false → (k : Int) = v) :
    Got (fun k : Nat => Pc.many k) (fun u => k = u) s ⟨s1.b, x⟩ := fun u t h1 h2 h3 => by
  simp only [Pc.many, Bool.or_eq_false_iff, decide_eq_false_iff_not] at h3
  obtain ⟨rfl, rfl⟩ := h (u : Int) t h1 h2 (by simpa [Pc.num] using h3.2)
  cases x
  · exact ⟨by have := hk rfl; omega, rfl⟩
  · rcases hx rfl with h | h | h
    · cases h
    · omega
    · omega
set_option maxRecDepth 100000 in
set_option maxHeartbeats 1000000 in
theorem many_is (p : Nat) (s : St) (w : World) (h : Rd.Is w 92 p s) :
    Calls Tryz.prog 78 #[.pointer (some ⟨p, 0, none⟩)] w fun e w' => Manyd 92 p s w e w' := by
  have HC := Aid.hid (num_is p s w h)
  clear h
  go_enter Tryz.func78, Tryz.ntmps78
  try simp only [List.append_eq, List.cons_append, List.nil_append]
  go_wp2_with fail
  go_at_call 90
  refine HC.out.mono ?_
  rintro e w1 ⟨v, s1, rfl, h1, h2, h3, h4, h5⟩
  clear HC
  have H3 := Aid.hid h3
  have H5 := Aid.hid h5
  have H4 := Aid.hid h4
  obtain ⟨B, d, q1, q2, q3, q4⟩ := h3
  have p1 := q1.cell 1 _ rfl
  have pf := q1.frozen
  clear q1 q2 q3 q4 h4 h5
  have FIN : Hid (∀ (x : Bool) (k : Nat) (e : Ending), (x = true → s1.x = true ∨ v < 0 ∨ 10000 < v) → (x = false → s1.x = false ∧ 0 ≤ v) → (x = false → (k : Int) = v) → k ≤ 10000 → e = .returned (.int .i64 k) → Manyd 92 p s w e (w1.setCell ⟨p, 1, none⟩ (.bool x))) :=
    Aid.hid fun x k e a b c d he => ⟨k, ⟨s1.b, x⟩, he, d, H3.out.bad x, H4.out.trans (Keep.set p w1 1 _), Got.many H5.out x a b k c⟩
  cases hx : s1.x
  · rw [hx] at p1
    have HX := Aid.hid hx
    clear hx
    by_cases hn : v < 0
    · go_wp2_with fail
      go_ret
      exact FIN.out true 0 _ (fun _ => Or.inr (Or.inl hn)) (fun h => by cases h) (fun h => by cases h) (by omega) rfl
    · by_cases hm : 10000 < v
      · go_wp2_with fail
        go_ret
        exact FIN.out true 0 _ (fun _ => Or.inr (Or.inr hm)) (fun h => by cases h) (fun h => by cases h) (by omega) rfl
      · obtain ⟨k, rfl⟩ : ∃ k : Nat, v = k := ⟨v.toNat, by omega⟩
        have f1 : decide ((k : Int) < 0) = false := by simp
        have f2 : decide ((10000 : Int) < (k : Int)) = false := by simp; omega
        have f3 : decide (10000 < k) = false := by simp; omega
        go_wp2_with fail
        go_ret
        exact FIN.out false k _ (fun h => by cases h) (fun _ => ⟨HX.out, by omega⟩) (fun _ => rfl) (by omega) rfl
  · rw [hx] at p1
    have HX := Aid.hid hx
    clear hx
    go_wp2_with fail
    go_ret
    exact FIN.out true 0 _ (fun _ => Or.inl HX.out) (fun h => by cases h) (fun h => by cases h) (by omega) rfl
theorem Rd.str (w : World) (B : Nat) (A : Option Addr) (o : List Int) (c : Nat) (h : Reads w B 1 A o.length (o.map (Value.int .u8))) :
    (convert 32 9 (.slice A o.length c)).run Tryz.prog w = .ok (.string (strOfNums o)) w := by
  cases A with
  | none =>
    have ho : o = [] := by
      cases o with
      | nil => rfl
      | cons a l => obtain ⟨ad, h1, _⟩ := h.2 (by simp); cases h1
    subst ho
    exact run_convert_bytes_nil (P := Tryz.prog) w 32 5 Tryz.underlying32 Tryz.underlying5 0 c 9 Tryz.underlying9
  | some ad =>
    have hl : (loadCells ad o.length).run Tryz.prog w = .ok (o.map (Value.int .u8)).toArray w := by
      have := run_loadCells_list (P := Tryz.prog) w ad (o.map (Value.int .u8)) (fun j v hj => by
        have hj' : j < o.length := by have := (List.getElem?_eq_some_iff.1 hj).1; simpa using this
        obtain ⟨ad', h1, h2, h3⟩ := h.2 (by omega)
        cases h1
        exact h3 j v hj)
      simpa using this
    rw [run_convert_bytes_string w 32 9 5 _ o.length c Tryz.underlying32 Tryz.underlying5 Tryz.underlying9, run_bytesToString w _ o.length c o hl, foldl_push_bytes]
    simp [strOfNums, ByteArray.empty, ByteArray.emptyWithCapacity]
    rfl
theorem Rd.str_chars (t : ByteArray) : strOfNums (Wt.chars t) = t := by
  unfold strOfNums Wt.chars
  rw [List.map_map]
  have : ((fun n : Int => UInt8.ofNat n.toNat) ∘ fun b : UInt8 => (b.toNat : Int)) = id := by
    funext b; simp
  rw [this, List.map_id]
theorem Rd.str_size (o : List Int) : (strOfNums o).size = o.length := by
  unfold strOfNums; simp [ByteArray.size]
/-- What reading a text comes to. -/
def Textd (T : TypeId) (p : Nat) (s : St) (w : World) (e : Ending) (w' : World) : Prop :=
  ∃ (t : ByteArray) (s' : St), e = .returned (.string t) ∧ t.size ≤ 10000 ∧ Rd.Is w' T p s' ∧ Keep p w w' ∧ Got Pc.text (fun u => t = u) s s'
set_option maxRecDepth 100000 in
set_option maxHeartbeats 1000000 in
theorem text_is (p : Nat) (s : St) (w : World) (h : Rd.Is w 92 p s) :
    Calls Tryz.prog 43 #[.pointer (some ⟨p, 0, none⟩)] w fun e w' => Textd 92 p s w e w' := by
  have HC := Aid.hid (many_is p s w h)
  clear h
  go_enter Tryz.func43, Tryz.ntmps43
  try simp only [List.append_eq, List.cons_append, List.nil_append]
  go_wp2_with fail
  go_at_call 78
  refine HC.out.mono ?_
  rintro e w1 ⟨v, s1, rfl, h1, h2, h3, h4⟩
  clear HC
  have H3 := Aid.hid h3
  have H4 := Aid.hid h4
  have HC := Aid.hid (take_is p v s1 w1 h2)
  clear h2 h3 h4
  go_wp2_with fail
  go_at_call 77
  refine HC.out.mono ?_
  rintro e w2 ⟨A, c, o, s2, rfl, g1, g2, g3, g4, g5, g6, g7⟩
  clear HC
  have hcv := Rd.str w2 p A o c g2
  have lo : o.length ≤ 10000 := by
    by_cases hb : s1.x = true ∨ ((v : Int) < 0) ∨ (s1.b.length : Int) < v
    · rw [(g6 hb).1]; simp
    · have hz : s1.x = false := by
        cases hz : s1.x
        · rfl
        · exact absurd (Or.inl hz) hb
      rw [(g7 hz (by omega) (by omega)).1, List.length_take]; simp; omega
  have FIN : Hid (Textd 92 p s w (.returned (.string (strOfNums o))) w2) := Aid.hid ⟨strOfNums o, s2, rfl, by rw [Rd.str_size]; exact lo, g4, H3.out.trans g5, fun u t k1 k2 k3 => by
    have k4 : (Pc.many (u.size : Int)).x = false := by simpa [Pc.text, Pc.app_def] using k3
    obtain ⟨rfl, rfl⟩ := H4.out u.size (Wt.chars u ++ t) k1 (by rw [k2]; simp [Pc.text, Pc.app_def, List.append_assoc]) k4
    have k5 := g7 rfl (by omega) (by simp [Wt.chars_len]; omega)
    have k6 : (Wt.chars u ++ t).take u.size = Wt.chars u := by rw [List.take_append_of_le_length (by rw [Wt.chars_len]; exact Nat.le_refl _), List.take_of_length_le (by rw [Wt.chars_len]; exact Nat.le_refl _)]
    have k7 : (Wt.chars u ++ t).drop u.size = t := by rw [List.drop_append_of_le_length (by rw [Wt.chars_len]; exact Nat.le_refl _), List.drop_of_length_le (by rw [Wt.chars_len]; exact Nat.le_refl _)]; rfl
    simp only [Int.toNat_natCast, k6, k7] at k5
    exact ⟨by rw [k5.1, Rd.str_chars], k5.2⟩⟩
  clear g1 g2 g3 g4 g5 g6 g7 lo
  go_wp2_with fail
  go_ret
  exact FIN.out
/-- What reading a truth comes to. -/
def Yesd (T : TypeId) (p : Nat) (s : St) (w : World) (e : Ending) (w' : World) : Prop :=
  ∃ (b : Bool) (s' : St), e = .returned (.bool b) ∧ Rd.Is w' T p s' ∧ Keep p w w' ∧ Got Pc.flag (fun u => b = u) s s'
set_option maxRecDepth 100000 in
set_option maxHeartbeats 1000000 in
theorem yes_is (p : Nat) (s : St) (w : World) (h : Rd.Is w 92 p s) :
    Calls Tryz.prog 107 #[.pointer (some ⟨p, 0, none⟩)] w fun e w' => Yesd 92 p s w e w' := by
  have HC := Aid.hid (num_is p s w h)
  clear h
  go_enter Tryz.func107, Tryz.ntmps107
  try simp only [List.append_eq, List.cons_append, List.nil_append]
  go_wp2_with fail
  go_at_call 90
  refine HC.out.mono ?_
  rintro e w1 ⟨v, s1, rfl, h1, h2, h3, h4, h5⟩
  clear HC
  have H3 := Aid.hid h3
  have H5 := Aid.hid h5
  have H4 := Aid.hid h4
  obtain ⟨B, d, q1, q2, q3, q4⟩ := h3
  have p1 := q1.cell 1 _ rfl
  have pf := q1.frozen
  clear q1 q2 q3 q4 h4 h5
  have FIN : Hid (∀ (x b : Bool) (e : Ending), (x = true → s1.x = true ∨ (v ≠ 0 ∧ v ≠ 1)) → (b = decide (v = 1)) → e = .returned (.bool b) → Yesd 92 p s w e (w1.setCell ⟨p, 1, none⟩ (.bool x))) :=
    Aid.hid fun x b e a hb he => ⟨b, ⟨s1.b, x⟩, he, H3.out.bad x, H4.out.trans (Keep.set p w1 1 _), fun u t k1 k2 k3 => by
      obtain ⟨rfl, rfl⟩ := H5.out _ t k1 k2 k3
      cases x
      · exact ⟨by rw [hb]; cases u <;> simp, rfl⟩
      · rcases a rfl with h | h
        · cases h
        · cases u <;> simp at h⟩
  by_cases hv1 : v = 1
  · subst hv1
    cases hx : s1.x
    · rw [hx] at p1
      go_wp2_with fail
      go_ret
      exact FIN.out false true _ (fun h => by cases h) (by decide) rfl
    · rw [hx] at p1
      have HX := Aid.hid hx
      clear hx
      go_wp2_with fail
      go_ret
      exact FIN.out true true _ (fun _ => Or.inl HX.out) (by decide) rfl
  · by_cases hv0 : v = 0
    · subst hv0
      cases hx : s1.x
      · rw [hx] at p1
        go_wp2_with fail
        go_ret
        exact FIN.out false false _ (fun h => by cases h) (by decide) rfl
      · rw [hx] at p1
        have HX := Aid.hid hx
        clear hx
        go_wp2_with fail
        go_ret
        exact FIN.out true false _ (fun _ => Or.inl HX.out) (by decide) rfl
    · have n1 : (v == 1) = false := by simpa using hv1
      have n2 : (v != 0) = true := by simpa using hv0
      have n3 : (v != 1) = true := by simpa using hv1
      have HV := Aid.hid (⟨hv0, hv1⟩ : v ≠ 0 ∧ v ≠ 1)
      cases hx : s1.x
      · rw [hx] at p1
        go_wp2_with fail
        go_ret
        exact FIN.out true false _ (fun _ => Or.inr HV.out) (by simp [hv1]) rfl
      · rw [hx] at p1
        go_wp2_with fail
        go_ret
        exact FIN.out true false _ (fun _ => Or.inr HV.out) (by simp [hv1]) rfl
end Go.Proofs.YtaogegeidbclaaaGreatDoor
