/- The document's answers: Find, Kind, has, own, as walks. -/
import Derived.Test.YtmhdcehpddbjaaaTabF
namespace Go.Proofs.Ytmhdcehpddbjaaa
open Go.RowKit

set_option maxRecDepth 100000 in
set_option maxHeartbeats 2000000 in
theorem rfind_any (u : List Dk) (a : Option Addr) (B cap : Nat) (s : ByteArray) (w : World) (hu : UnitAt w B a u) (hB : B ≤ w.heap.size) :
    Calls Try.prog 61 #[.agg #[.slice a u.length cap], .string s] w fun e w' => e = .returned (.int .i64 (Tb.find u s)) ∧ Below w.heap.size w w' := by
  have sm := hu.small
  have hb0 : Below w.heap.size w (w.alloc (.cells #[.slice a u.length cap] 24)) := (Below.refl _ _).alloc (Nat.le_refl _) _
  have P0 : Aid.Has (w.alloc (.cells #[.slice a u.length cap] 24)) w.heap.size [.slice a u.length cap] 24 := Aid.Has.new _ _ _
  have HU := Aid.hid (hu.below hb0 hB)
  clear hu
  go_enter Try.func61, Try.ntmps61
  try simp only [List.append_eq, List.cons_append, List.nil_append]
  go_wp2_with fail
  obtain ⟨pb, hpb⟩ : ∃ pb, w.heap.size = pb := ⟨_, rfl⟩
  generalize (w.alloc (.cells #[.slice a u.length cap] 24)) = W at *
  rw [hpb] at P0 ⊢
  have cp := P0.cell 0 _ rfl
  have HB := Aid.hid hb0
  clear hb0 hpb
  go_loopw [5] (fun vi wr => ∃ k : Nat, vi = .int .i64 k ∧ k ≤ u.length ∧ Hid (∀ j, j < k → ∀ e, u[j]? = some e → (e.name.toList == s.toList) = false) ∧ wr = W) (fun vi _ => u.length - (intOf vi).toNat)
  case atStart => exact ⟨0, rfl, Nat.zero_le _, Aid.hid (fun j hj => by omega), rfl⟩
  case round =>
    obtain ⟨k, rfl, hk, NO, rfl⟩ := hrel
    by_cases hkl : k < u.length
    · obtain ⟨b, off, rfl, _, hc⟩ := HU.out.at_ (by omega)
      obtain ⟨d, hd⟩ : ∃ d, u[k]? = some d := ⟨_, List.getElem?_eq_getElem hkl⟩
      have c1 := hc k d hd 1 _ rfl
      have HD := Aid.hid hd
      clear hc hd
      cases hr : (d.name.toList == s.toList)
      · have NX : Hid (∀ j, j < k + 1 → ∀ e, u[j]? = some e → (e.name.toList == s.toList) = false) := Aid.hid (fun j hj e he => by
          rcases Nat.lt_or_ge j k with h | h
          · exact NO.out j h e he
          · obtain rfl : j = k := by omega
            rw [HD.out] at he
            obtain rfl := Option.some.inj he
            exact hr)
        go_wp2_with fail
        go_roundw
        case rel => exact ⟨k + 1, by go_num, by omega, NX, by trivial⟩
        case measure => simp [intOf]; omega
      · have E := Aid.hid (Tb.find_hit HD.out hr NO.out)
        go_wp2_with fail
        go_ret
        exact ⟨by rw [E.out]; rfl, HB.out⟩
    · have E := Aid.hid (Tb.find_miss (u := u) (s := s) (fun j hj => NO.out j (by omega)))
      go_wp2_with fail
      go_ret
      exact ⟨by rw [E.out]; rfl, HB.out⟩
theorem rfind_is (u : List Dk) (a : Option Addr) (B cap : Nat) (s : ByteArray) (r : Int) (w : World) (hr : Tb.find u s = r) (hu : UnitAt w B a u) (hB : B ≤ w.heap.size) :
    Calls Try.prog 61 #[.agg #[.slice a u.length cap], .string s] w fun e w' => e = .returned (.int .i64 r) ∧ Below w.heap.size w w' := by
  rw [← hr]; exact rfind_any u a B cap s w hu hB

set_option maxRecDepth 100000 in
set_option maxHeartbeats 2000000 in
theorem rkind_any (u : List Dk) (a : Option Addr) (B cap : Nat) (d : Int) (w : World) (hu : UnitAt w B a u) (hB : B ≤ w.heap.size) :
    Calls Try.prog 57 #[.agg #[.slice a u.length cap], .int .i64 d] w fun e w' => e = .returned (.int .i64 (Tb.kind u d)) ∧ Below w.heap.size w w' := by
  have HU := Aid.hid hu
  have sm := hu.small
  clear hu
  have hb : Below w.heap.size w (w.alloc (.cells #[.slice a u.length cap] 24)) := (Below.refl _ _).alloc (Nat.le_refl _) _
  by_cases h0 : 0 ≤ d
  · obtain ⟨i, rfl⟩ := Int.eq_ofNat_of_zero_le h0
    by_cases hi : i < u.length
    · obtain ⟨x, hx⟩ : ∃ x, u[i]? = some x := ⟨_, List.getElem?_eq_getElem hi⟩
      have E : Hid (Tb.kind u i = x.kind) := Aid.hid (by unfold Tb.kind; rw [if_pos h0]; simp [hx])
      obtain ⟨b, off, rfl, _, hc⟩ := (HU.out.below hb hB).at_ (by omega)
      have c0 := hc i x hx 0 _ rfl
      simp only [Nat.add_zero] at c0
      have HB := Aid.hid hb
      clear hc hx hb
      go_enter Try.func57, Try.ntmps57
      go_wp2_with fail
      go_ret
      exact ⟨by rw [E.out]; rfl, HB.out⟩
    · have E : Hid (Tb.kind u i = 0) := Aid.hid (by unfold Tb.kind; rw [if_pos h0]; simp [List.getElem?_eq_none (Nat.le_of_not_lt hi)])
      have HB := Aid.hid hb
      clear hb
      go_enter Try.func57, Try.ntmps57
      go_wp2_with fail
      go_ret
      exact ⟨by rw [E.out]; rfl, HB.out⟩
  · have E : Hid (Tb.kind u d = 0) := Aid.hid (by unfold Tb.kind; rw [if_neg h0])
    have HB := Aid.hid hb
    clear hb
    go_enter Try.func57, Try.ntmps57
    go_wp2_with fail
    go_ret
    exact ⟨by rw [E.out]; rfl, HB.out⟩
theorem rkind_is (u : List Dk) (a : Option Addr) (B cap : Nat) (d r : Int) (w : World) (hr : Tb.kind u d = r) (hu : UnitAt w B a u) (hB : B ≤ w.heap.size) :
    Calls Try.prog 57 #[.agg #[.slice a u.length cap], .int .i64 d] w fun e w' => e = .returned (.int .i64 r) ∧ Below w.heap.size w w' := by
  rw [← hr]; exact rkind_any u a B cap d w hu hB

set_option maxRecDepth 100000 in
set_option maxHeartbeats 2000000 in
theorem rhas_any (A : Option Addr) (c B : Nat) (zs : List Int) (x : Int) (w : World) (h : IntsAt w B A zs) (hl : zs.length ≤ 1000000000) :
    Calls Try.prog 70 #[.slice A zs.length c, .int .i64 x] w fun e w' => e = .returned (.bool (decide (x ∈ zs))) ∧ w = w' := by
  have H := Aid.hid h
  clear h
  go_enter Try.func70, Try.ntmps70
  try simp only [List.append_eq, List.cons_append, List.nil_append]
  go_wp2_with fail
  go_loopw [5] (fun i wr => ∃ k : Nat, i = .int .i64 k ∧ k ≤ zs.length ∧ Hid (x ∉ zs.take k) ∧ wr = w) (fun i _ => zs.length - (intOf i).toNat)
  case atStart => exact ⟨0, rfl, Nat.zero_le _, Aid.hid (by simp), rfl⟩
  case round =>
    obtain ⟨k, rfl, hk, N, rfl⟩ := hrel
    by_cases hlt : k < zs.length
    · obtain ⟨ad, rfl, _, hc⟩ := H.out.at_ hlt
      obtain ⟨z, hz⟩ : ∃ z, zs[k]? = some z := ⟨_, List.getElem?_eq_getElem hlt⟩
      have c1 := hc k z hz
      have HZ := Aid.hid hz
      clear hc hz
      by_cases he : z = x
      · have E := Aid.hid (show decide (x ∈ zs) = true from decide_eq_true (he ▸ List.mem_of_getElem? HZ.out))
        subst he
        go_wp2_with fail
        go_ret
        exact ⟨by rw [E.out]; rfl, rfl⟩
      · have NX : Hid (x ∉ zs.take (k + 1)) := Aid.hid (by
          rw [List.take_add_one, HZ.out]
          intro hm
          rcases List.mem_append.1 hm with h | h
          · exact N.out h
          · have h2 : x = z := by simpa using h
            exact he h2.symm)
        have he2 : (z == x) = false := by simpa using he
        go_wp2_with fail
        go_roundw
        case rel => exact ⟨k + 1, by go_num, by omega, NX, by trivial⟩
        case measure => simp [intOf]; omega
    · have E : Hid (decide (x ∈ zs) = false) := Aid.hid (decide_eq_false (by have h := N.out; rwa [List.take_of_length_le (by omega)] at h))
      go_wp2_with fail
      go_ret
      exact ⟨by rw [E.out]; rfl, rfl⟩
theorem rhas_is (A : Option Addr) (c B : Nat) (zs : List Int) (x : Int) (r : Bool) (w : World) (hr : decide (x ∈ zs) = r) (h : IntsAt w B A zs) (hl : zs.length ≤ 1000000000) :
    Calls Try.prog 70 #[.slice A zs.length c, .int .i64 x] w fun e w' => e = .returned (.bool r) ∧ w = w' := by
  rw [← hr]; exact rhas_any A c B zs x w h hl

set_option maxRecDepth 100000 in
set_option maxHeartbeats 2000000 in
theorem rown_any (d : Dk) (B : Nat) (s : ByteArray) (w : World) (hd : DkAt w B d) (hB : B ≤ w.heap.size) :
    Calls Try.prog 82 #[.agg d.cells.toArray, .string s] w fun e w' => e = .returned (.int .i64 (Tb.mindex d.ms s)) ∧ Below w.heap.size w w' := by
  have sm := hd.smallM
  have hb0 : Below w.heap.size w (w.alloc (.cells d.cells.toArray 48)) := (Below.refl _ _).alloc (Nat.le_refl _) _
  have P0 : Aid.Has (w.alloc (.cells d.cells.toArray 48)) w.heap.size d.cells 48 := Aid.Has.new _ _ _
  have HD := Aid.hid (hd.below hb0 hB)
  clear hd
  unfold Dk.cells at hb0 P0 HD ⊢
  go_enter Try.func82, Try.ntmps82
  try simp only [List.append_eq, List.cons_append, List.nil_append]
  go_wp2_with fail
  obtain ⟨pb, hpb⟩ : ∃ pb, w.heap.size = pb := ⟨_, rfl⟩
  generalize hW : w.alloc _ = W at *
  clear hW
  rw [hpb] at P0 ⊢
  have cp := P0.cell 7 _ rfl
  have HB := Aid.hid hb0
  clear hb0 hpb
  go_loopw [5] (fun vi wr => ∃ k : Nat, vi = .int .i64 k ∧ k ≤ d.ms.length ∧ Hid (∀ j, j < k → ∀ e, d.ms[j]? = some e → (e.name.toList == s.toList) = false) ∧ wr = W) (fun vi _ => d.ms.length - (intOf vi).toNat)
  case atStart => exact ⟨0, rfl, Nat.zero_le _, Aid.hid (fun j hj => by omega), rfl⟩
  case round =>
    obtain ⟨k, rfl, hk, NO, rfl⟩ := hrel
    by_cases hkl : k < d.ms.length
    · obtain ⟨b, off, hA, _, hc⟩ := HD.out.meth (by omega)
      rw [hA] at cp
      obtain ⟨m, hm⟩ : ∃ m, d.ms[k]? = some m := ⟨_, List.getElem?_eq_getElem hkl⟩
      have c0 := hc k m hm 0 _ rfl
      simp only [Nat.add_zero] at c0
      have HM := Aid.hid hm
      clear hc hm hA
      cases hr : (m.name.toList == s.toList)
      · have NX : Hid (∀ j, j < k + 1 → ∀ e, d.ms[j]? = some e → (e.name.toList == s.toList) = false) := Aid.hid (fun j hj e he => by
          rcases Nat.lt_or_ge j k with h | h
          · exact NO.out j h e he
          · obtain rfl : j = k := by omega
            rw [HM.out] at he
            obtain rfl := Option.some.inj he
            exact hr)
        go_wp2_with fail
        go_roundw
        case rel => exact ⟨k + 1, by go_num, by omega, NX, by trivial⟩
        case measure => simp [intOf]; omega
      · have E := Aid.hid (Tb.mindex_hit HM.out hr NO.out)
        go_wp2_with fail
        go_ret
        exact ⟨by rw [E.out]; rfl, HB.out⟩
    · have E := Aid.hid (Tb.mindex_miss (u := d.ms) (s := s) (fun j hj => NO.out j (by omega)))
      go_wp2_with fail
      go_ret
      exact ⟨by rw [E.out]; rfl, HB.out⟩
theorem rown_is (d : Dk) (B : Nat) (s : ByteArray) (r : Int) (w : World) (hr : Tb.mindex d.ms s = r) (hd : DkAt w B d) (hB : B ≤ w.heap.size) :
    Calls Try.prog 82 #[.agg d.cells.toArray, .string s] w fun e w' => e = .returned (.int .i64 r) ∧ Below w.heap.size w w' := by
  rw [← hr]; exact rown_any d B s w hd hB
end Go.Proofs.Ytmhdcehpddbjaaa
