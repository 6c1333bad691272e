/- The document's writer: a number. -/
import Derived.Test.YtaogegeidbclaaaGreatDoorImgSpec
namespace Go.Proofs.YtaogegeidbclaaaGreatDoor
open Go.RowKit

theorem be_u32 (n : Int) : ([.int .u8 (n % 4294967296 / 16777216), .int .u8 (n % 4294967296 / 65536 % 256), .int .u8 (n % 4294967296 / 256 % 256), .int .u8 (n % 256)] : List Value) = (Wt.be n).map (Value.int .u8) := by
  simp only [Wt.be, List.map_cons, List.map_nil]
  have h1 : n % 4294967296 / 16777216 = n / 16777216 % 256 := by omega
  have h2 : n % 4294967296 / 65536 % 256 = n / 65536 % 256 := by omega
  have h3 : n % 4294967296 / 256 % 256 = n / 256 % 256 := by omega
  rw [h1, h2, h3]
set_option maxRecDepth 100000 in
set_option maxHeartbeats 1000000 in
theorem rnum_is (p : Nat) (n : Int) (s : Pc) (w : World) (hw : Wt.Is w 68 p s) (lb : (s ++ Pc.num n).b.length ≤ 100000000000000) :
    Calls Tryz.prog 29 #[.pointer (some ⟨p, 0, none⟩), .int .i64 n] w fun e w' => e = .returned (.tuple #[]) ∧ Wt.Is w' 68 p (s ++ Pc.num n) ∧ Wt.Kp p w w' := by
  have lb' : s.b.length + 4 ≤ 100000000000000 := by rw [Pc.len] at lb; exact lb
  obtain ⟨i0, hi, hz0, hz1, hz2⟩ := info_parts info_byte
  obtain ⟨B, d, HP, HO⟩ := hw
  have p0 := HP.cell 0 _ rfl
  have p1 := HP.cell 1 _ rfl
  have pf := HP.frozen
  have hp := HP.lt
  clear lb
  by_cases h1 : n < -2147483648
  · have NB : (s.x || Wt.out n) = true := by simp [Wt.out, h1]
    go_enter Tryz.func29, Tryz.ntmps29
    try simp only [List.append_eq, List.cons_append, List.nil_append]
    have HP1 : Aid.Has (w.setCell ⟨p, 1, none⟩ (.bool true)) p [.slice B s.b.length d, .bool true] 68 := HP.set 1 (.bool true)
    have HO1 : World.ownsRow (w.setCell ⟨p, 1, none⟩ (.bool true)) (p + 1) 5 1 (.slice B s.b.length d) s.b.length (s.b.map (Value.int .u8)) := own_other HO (fun q hq => by have := (HO.lt q hq).1; omega) 1 (.bool true)
    have K1 : Wt.Kp p w (w.setCell ⟨p, 1, none⟩ (.bool true)) := (Wt.Kp.refl p w).set 1 (.bool true)
    have hs1 : (w.setCell ⟨p, 1, none⟩ (.bool true)).heap.size = w.heap.size := by simp [World.setCell]
    have q0 := HP1.cell 0 _ rfl
    have qf := HP1.frozen
    have bc : ∀ (j : Nat) (u : Value), [.int .u8 (n % 4294967296 / 16777216), .int .u8 (n % 4294967296 / 65536 % 256), .int .u8 (n % 4294967296 / 256 % 256), .int .u8 (n % 256)][j]? = some u → ((w.setCell ⟨p, 1, none⟩ (.bool true)).alloc (.cells #[.int .u8 (n % 4294967296 / 16777216), .int .u8 (n % 4294967296 / 65536 % 256), .int .u8 (n % 4294967296 / 256 % 256), .int .u8 (n % 256)] 5)).cell? (Addr.add ⟨w.heap.size, 0, none⟩ j) = some u := fun j u hj => by
      rw [Go.WideShapes.add_plain, Nat.zero_add, ← hs1]
      exact (Aid.Has.new (w.setCell ⟨p, 1, none⟩ (.bool true)) [.int .u8 (n % 4294967296 / 16777216), .int .u8 (n % 4294967296 / 65536 % 256), .int .u8 (n % 4294967296 / 256 % 256), .int .u8 (n % 256)] 5).cell j u hj
    have pz : p + 1 ≤ ((w.setCell ⟨p, 1, none⟩ (.bool true)).alloc (.cells #[.int .u8 (n % 4294967296 / 16777216), .int .u8 (n % 4294967296 / 65536 % 256), .int .u8 (n % 4294967296 / 256 % 256), .int .u8 (n % 256)] 5)).heap.size := by rw [World.size_alloc, hs1]; omega
    go_wp2_with (at_builtin; refine wpList_append_own _ rfl _ _ 32 rfl (p + 1) 5 i0 (.int .u8 0) 1 1 Tryz.underlying32 hi hz0 hz1 hz2 rfl (by decide) _ _ _ rfl (HO1.alloc _) ⟨w.heap.size, 0, none⟩ 4 4 [.int .u8 (n % 4294967296 / 16777216), .int .u8 (n % 4294967296 / 65536 % 256), .int .u8 (n % 4294967296 / 256 % 256), .int .u8 (n % 256)] rfl rfl bc ?d1 ?d2 ?d3 pz ?_)
    case d1 => first | exact ⟨rfl, rfl, rfl, rfl⟩ | (intro u hu; simp at hu; rcases hu with rfl | rfl | rfl | rfl <;> rfl)
    case d2 => unfold maxLen; omega
    case d3 => omega
    · intro v2 w9 hown2 hgrow2 _
      obtain ⟨A2, c2, rfl⟩ := own_slice hown2
      have HP9 : Aid.Has w9 p [.slice B s.b.length d, .bool true] 68 := (hgrow2.block p (by rw [World.size_alloc, hs1]; omega) (fun e => by have := (HO1.lt p e.symm).1; omega)).trans (HP1.alloc _)
      have K9 : Wt.Kp p w (w9.setCell ⟨p, 0, none⟩ (.slice A2 (s.b.length + 4) c2)) := ((K1.alloc (by rw [hs1]; omega) (.cells #[.int .u8 (n % 4294967296 / 16777216), .int .u8 (n % 4294967296 / 65536 % 256), .int .u8 (n % 4294967296 / 256 % 256), .int .u8 (n % 256)] 5)).grown (by rw [World.size_alloc, hs1]; omega) (HO1.alloc _) hgrow2).set 0 _
      have HA : Hid (Wt.Is (w9.setCell ⟨p, 0, none⟩ (.slice A2 (s.b.length + 4) c2)) 68 p (s ++ Pc.num n)) := Aid.hid ⟨A2, c2, by
        have h := HP9.set 0 (.slice A2 (s.b.length + 4) c2)
        rw [Pc.len]; show Aid.Has _ p [.slice A2 (s.b.length + 4) c2, .bool (s.x || Wt.out n)] _; rw [NB]; exact h, by
        have h := own_other hown2 (fun q hq => by have := (hown2.lt q hq).1; omega) 0 (.slice A2 (s.b.length + 4) c2) (b := p)
        rw [be_u32] at h
        rw [Pc.len]; show World.ownsRow _ (p + 1) 5 1 (.slice A2 (s.b.length + 4) c2) (s.b.length + 4) ((s.b ++ Wt.be n).map (Value.int .u8)); rw [List.map_append]; exact h⟩
      have r0 := HP9.cell 0 _ rfl
      have rf := HP9.frozen
      have HK9 := Aid.hid K9
      clear hown2 hgrow2 HP9 K9 K1 HO1 HP1 bc HO HP p0 p1 pf q0 qf
      go_wp2_with fail
      go_end0
      exact ⟨rfl, HA.out, HK9.out⟩
  · by_cases h2 : 2147483647 < n
    · have NB : (s.x || Wt.out n) = true := by simp [Wt.out, h2]
      go_enter Tryz.func29, Tryz.ntmps29
      try simp only [List.append_eq, List.cons_append, List.nil_append]
      have HP1 : Aid.Has (w.setCell ⟨p, 1, none⟩ (.bool true)) p [.slice B s.b.length d, .bool true] 68 := HP.set 1 (.bool true)
      have HO1 : World.ownsRow (w.setCell ⟨p, 1, none⟩ (.bool true)) (p + 1) 5 1 (.slice B s.b.length d) s.b.length (s.b.map (Value.int .u8)) := own_other HO (fun q hq => by have := (HO.lt q hq).1; omega) 1 (.bool true)
      have K1 : Wt.Kp p w (w.setCell ⟨p, 1, none⟩ (.bool true)) := (Wt.Kp.refl p w).set 1 (.bool true)
      have hs1 : (w.setCell ⟨p, 1, none⟩ (.bool true)).heap.size = w.heap.size := by simp [World.setCell]
      have q0 := HP1.cell 0 _ rfl
      have qf := HP1.frozen
      have bc : ∀ (j : Nat) (u : Value), [.int .u8 (n % 4294967296 / 16777216), .int .u8 (n % 4294967296 / 65536 % 256), .int .u8 (n % 4294967296 / 256 % 256), .int .u8 (n % 256)][j]? = some u → ((w.setCell ⟨p, 1, none⟩ (.bool true)).alloc (.cells #[.int .u8 (n % 4294967296 / 16777216), .int .u8 (n % 4294967296 / 65536 % 256), .int .u8 (n % 4294967296 / 256 % 256), .int .u8 (n % 256)] 5)).cell? (Addr.add ⟨w.heap.size, 0, none⟩ j) = some u := fun j u hj => by
        rw [Go.WideShapes.add_plain, Nat.zero_add, ← hs1]
        exact (Aid.Has.new (w.setCell ⟨p, 1, none⟩ (.bool true)) [.int .u8 (n % 4294967296 / 16777216), .int .u8 (n % 4294967296 / 65536 % 256), .int .u8 (n % 4294967296 / 256 % 256), .int .u8 (n % 256)] 5).cell j u hj
      have pz : p + 1 ≤ ((w.setCell ⟨p, 1, none⟩ (.bool true)).alloc (.cells #[.int .u8 (n % 4294967296 / 16777216), .int .u8 (n % 4294967296 / 65536 % 256), .int .u8 (n % 4294967296 / 256 % 256), .int .u8 (n % 256)] 5)).heap.size := by rw [World.size_alloc, hs1]; omega
      go_wp2_with (at_builtin; refine wpList_append_own _ rfl _ _ 32 rfl (p + 1) 5 i0 (.int .u8 0) 1 1 Tryz.underlying32 hi hz0 hz1 hz2 rfl (by decide) _ _ _ rfl (HO1.alloc _) ⟨w.heap.size, 0, none⟩ 4 4 [.int .u8 (n % 4294967296 / 16777216), .int .u8 (n % 4294967296 / 65536 % 256), .int .u8 (n % 4294967296 / 256 % 256), .int .u8 (n % 256)] rfl rfl bc ?d1 ?d2 ?d3 pz ?_)
      case d1 => first | exact ⟨rfl, rfl, rfl, rfl⟩ | (intro u hu; simp at hu; rcases hu with rfl | rfl | rfl | rfl <;> rfl)
      case d2 => unfold maxLen; omega
      case d3 => omega
      · intro v2 w9 hown2 hgrow2 _
        obtain ⟨A2, c2, rfl⟩ := own_slice hown2
        have HP9 : Aid.Has w9 p [.slice B s.b.length d, .bool true] 68 := (hgrow2.block p (by rw [World.size_alloc, hs1]; omega) (fun e => by have := (HO1.lt p e.symm).1; omega)).trans (HP1.alloc _)
        have K9 : Wt.Kp p w (w9.setCell ⟨p, 0, none⟩ (.slice A2 (s.b.length + 4) c2)) := ((K1.alloc (by rw [hs1]; omega) (.cells #[.int .u8 (n % 4294967296 / 16777216), .int .u8 (n % 4294967296 / 65536 % 256), .int .u8 (n % 4294967296 / 256 % 256), .int .u8 (n % 256)] 5)).grown (by rw [World.size_alloc, hs1]; omega) (HO1.alloc _) hgrow2).set 0 _
        have HA : Hid (Wt.Is (w9.setCell ⟨p, 0, none⟩ (.slice A2 (s.b.length + 4) c2)) 68 p (s ++ Pc.num n)) := Aid.hid ⟨A2, c2, by
          have h := HP9.set 0 (.slice A2 (s.b.length + 4) c2)
          rw [Pc.len]; show Aid.Has _ p [.slice A2 (s.b.length + 4) c2, .bool (s.x || Wt.out n)] _; rw [NB]; exact h, by
          have h := own_other hown2 (fun q hq => by have := (hown2.lt q hq).1; omega) 0 (.slice A2 (s.b.length + 4) c2) (b := p)
          rw [be_u32] at h
          rw [Pc.len]; show World.ownsRow _ (p + 1) 5 1 (.slice A2 (s.b.length + 4) c2) (s.b.length + 4) ((s.b ++ Wt.be n).map (Value.int .u8)); rw [List.map_append]; exact h⟩
        have r0 := HP9.cell 0 _ rfl
        have rf := HP9.frozen
        have HK9 := Aid.hid K9
        clear hown2 hgrow2 HP9 K9 K1 HO1 HP1 bc HO HP p0 p1 pf q0 qf
        go_wp2_with fail
        go_end0
        exact ⟨rfl, HA.out, HK9.out⟩
    · have NB : (s.x || Wt.out n) = s.x := by simp [Wt.out, h1, h2]
      go_enter Tryz.func29, Tryz.ntmps29
      try simp only [List.append_eq, List.cons_append, List.nil_append]
      have HP1 := HP
      have HO1 := HO
      have K1 := Wt.Kp.refl p w
      have hs1 : w.heap.size = w.heap.size := rfl
      have bc : ∀ (j : Nat) (u : Value), [.int .u8 (n % 4294967296 / 16777216), .int .u8 (n % 4294967296 / 65536 % 256), .int .u8 (n % 4294967296 / 256 % 256), .int .u8 (n % 256)][j]? = some u → (w.alloc (.cells #[.int .u8 (n % 4294967296 / 16777216), .int .u8 (n % 4294967296 / 65536 % 256), .int .u8 (n % 4294967296 / 256 % 256), .int .u8 (n % 256)] 5)).cell? (Addr.add ⟨w.heap.size, 0, none⟩ j) = some u := fun j u hj => by
        rw [Go.WideShapes.add_plain, Nat.zero_add]
        exact (Aid.Has.new w [.int .u8 (n % 4294967296 / 16777216), .int .u8 (n % 4294967296 / 65536 % 256), .int .u8 (n % 4294967296 / 256 % 256), .int .u8 (n % 256)] 5).cell j u hj
      have pz : p + 1 ≤ (w.alloc (.cells #[.int .u8 (n % 4294967296 / 16777216), .int .u8 (n % 4294967296 / 65536 % 256), .int .u8 (n % 4294967296 / 256 % 256), .int .u8 (n % 256)] 5)).heap.size := by rw [World.size_alloc]; omega
      go_wp2_with (at_builtin; refine wpList_append_own _ rfl _ _ 32 rfl (p + 1) 5 i0 (.int .u8 0) 1 1 Tryz.underlying32 hi hz0 hz1 hz2 rfl (by decide) _ _ _ rfl (HO1.alloc _) ⟨w.heap.size, 0, none⟩ 4 4 [.int .u8 (n % 4294967296 / 16777216), .int .u8 (n % 4294967296 / 65536 % 256), .int .u8 (n % 4294967296 / 256 % 256), .int .u8 (n % 256)] rfl rfl bc ?d1 ?d2 ?d3 pz ?_)
      case d1 => first | exact ⟨rfl, rfl, rfl, rfl⟩ | (intro u hu; simp at hu; rcases hu with rfl | rfl | rfl | rfl <;> rfl)
      case d2 => unfold maxLen; omega
      case d3 => omega
      · intro v2 w9 hown2 hgrow2 _
        obtain ⟨A2, c2, rfl⟩ := own_slice hown2
        have HP9 : Aid.Has w9 p [.slice B s.b.length d, .bool s.x] 68 := (hgrow2.block p (by rw [World.size_alloc]; omega) (fun e => by have := (HO1.lt p e.symm).1; omega)).trans (HP1.alloc _)
        have K9 : Wt.Kp p w (w9.setCell ⟨p, 0, none⟩ (.slice A2 (s.b.length + 4) c2)) := ((K1.alloc (by omega) (.cells #[.int .u8 (n % 4294967296 / 16777216), .int .u8 (n % 4294967296 / 65536 % 256), .int .u8 (n % 4294967296 / 256 % 256), .int .u8 (n % 256)] 5)).grown (by rw [World.size_alloc]; omega) (HO1.alloc _) hgrow2).set 0 _
        have HA : Hid (Wt.Is (w9.setCell ⟨p, 0, none⟩ (.slice A2 (s.b.length + 4) c2)) 68 p (s ++ Pc.num n)) := Aid.hid ⟨A2, c2, by
          have h := HP9.set 0 (.slice A2 (s.b.length + 4) c2)
          rw [Pc.len]; show Aid.Has _ p [.slice A2 (s.b.length + 4) c2, .bool (s.x || Wt.out n)] _; rw [NB]; exact h, by
          have h := own_other hown2 (fun q hq => by have := (hown2.lt q hq).1; omega) 0 (.slice A2 (s.b.length + 4) c2) (b := p)
          rw [be_u32] at h
          rw [Pc.len]; show World.ownsRow _ (p + 1) 5 1 (.slice A2 (s.b.length + 4) c2) (s.b.length + 4) ((s.b ++ Wt.be n).map (Value.int .u8)); rw [List.map_append]; exact h⟩
        have r0 := HP9.cell 0 _ rfl
        have rf := HP9.frozen
        have HK9 := Aid.hid K9
        clear hown2 hgrow2 HP9 K9 K1 HO1 HP1 bc HO HP p0 p1 pf
        go_wp2_with fail
        go_end0
        exact ⟨rfl, HA.out, HK9.out⟩
end Go.Proofs.YtaogegeidbclaaaGreatDoor
