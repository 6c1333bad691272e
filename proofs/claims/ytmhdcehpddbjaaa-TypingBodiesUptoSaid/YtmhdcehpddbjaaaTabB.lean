/- kind, slices.Contains, Chain, as walks. -/
import Derived.Test.YtmhdcehpddbjaaaTabA
import Derived.Test.YtmhdcehpddbjaaaTabChainSpec
import Derived.Test.YtmhdcehpddbjaaaInts
import Derived.StillTailTactics
namespace Go.Proofs.Ytmhdcehpddbjaaa
open Go.RowKit

set_option maxRecDepth 100000 in
set_option maxHeartbeats 1000000 in
theorem kind_any (u : List Dk) (a : Option Addr) (B cap : Nat) (d : Int) (w : World) (hu : UnitAt w B a u) (hB : B ≤ w.heap.size) :
    Calls Try.prog 66 #[.agg #[.slice a u.length cap], .int .i64 d] w fun e w' => e = .returned (.int .i64 (Tb.kind u d)) ∧ Below w.heap.size w w' := by
  have HU := Aid.hid hu
  have sm := hu.small
  clear hu
  have hb : Below w.heap.size w (w.alloc (.cells #[.slice a u.length cap] 24)) := (Below.refl _ _).alloc (Nat.le_refl _) _
  by_cases h0 : 0 ≤ d
  · obtain ⟨i, rfl⟩ := Int.eq_ofNat_of_zero_le h0
    by_cases hi : i < u.length
    · obtain ⟨x, hx⟩ : ∃ x, u[i]? = some x := ⟨_, List.getElem?_eq_getElem hi⟩
      have E : Hid (Tb.kind u i = x.kind) := Aid.hid (by unfold Tb.kind; rw [if_pos h0]; simp [hx])
      obtain ⟨b, off, rfl, _, hc⟩ := (HU.out.below hb hB).at_ (by omega)
      have c0 := hc i x hx 0 _ rfl
      simp only [Nat.add_zero] at c0
      have HB := Aid.hid hb
      clear hc hx hb
      go_enter Try.func66, Try.ntmps66
      go_wp2_with fail
      go_ret
      exact ⟨by rw [E.out]; rfl, HB.out⟩
    · have E : Hid (Tb.kind u i = 0) := Aid.hid (by unfold Tb.kind; rw [if_pos h0]; simp [List.getElem?_eq_none (Nat.le_of_not_lt hi)])
      have HB := Aid.hid hb
      clear hb
      go_enter Try.func66, Try.ntmps66
      go_wp2_with fail
      go_ret
      exact ⟨by rw [E.out]; rfl, HB.out⟩
  · have E : Hid (Tb.kind u d = 0) := Aid.hid (by unfold Tb.kind; rw [if_neg h0])
    have HB := Aid.hid hb
    clear hb
    go_enter Try.func66, Try.ntmps66
    go_wp2_with fail
    go_ret
    exact ⟨by rw [E.out]; rfl, HB.out⟩
theorem kind_is (u : List Dk) (a : Option Addr) (B cap : Nat) (d r : Int) (w : World) (hr : Tb.kind u d = r) (hu : UnitAt w B a u) (hB : B ≤ w.heap.size) :
    Calls Try.prog 66 #[.agg #[.slice a u.length cap], .int .i64 d] w fun e w' => e = .returned (.int .i64 r) ∧ Below w.heap.size w w' := by
  rw [← hr]; exact kind_any u a B cap d w hu hB

set_option maxRecDepth 100000 in
set_option maxHeartbeats 1000000 in
theorem index_any (A : Option Addr) (c B : Nat) (zs : List Int) (x : Int) (w : World) (h : IntsAt w B A zs) (hl : zs.length ≤ 1000000000) :
    Calls Try.prog 95 #[.slice A zs.length c, .int .i64 x] w fun e w' => ∃ k, e = .returned (.int .i64 k) ∧ decide (0 ≤ k) = decide (x ∈ zs) ∧ w = w' := by
  have H := Aid.hid h
  clear h
  go_enter Try.func95, Try.ntmps95
  try simp only [List.append_eq, List.cons_append, List.nil_append]
  go_wp2_with fail
  go_loopw [8] (fun i wr => ∃ k : Nat, i = .int .i64 k ∧ k ≤ zs.length ∧ Hid (x ∉ zs.take k) ∧ wr = w) (fun i _ => zs.length - (intOf i).toNat)
  case atStart => exact ⟨0, rfl, Nat.zero_le _, Aid.hid (by simp), rfl⟩
  case round =>
    obtain ⟨k, rfl, hk, N, rfl⟩ := hrel
    by_cases hlt : k < zs.length
    · obtain ⟨ad, rfl, _, hc⟩ := H.out.at_ hlt
      obtain ⟨z, hz⟩ : ∃ z, zs[k]? = some z := ⟨_, List.getElem?_eq_getElem hlt⟩
      have c1 := hc k z hz
      have HZ := Aid.hid hz
      clear hc hz
      by_cases he : x = z
      · have E := Aid.hid (show decide (x ∈ zs) = true from decide_eq_true (he ▸ List.mem_of_getElem? HZ.out))
        subst he
        go_wp2_with fail
        go_ret
        exact ⟨k, rfl, by rw [E.out]; simp, rfl⟩
      · have NX : Hid (x ∉ zs.take (k + 1)) := Aid.hid (by
          rw [List.take_add_one, HZ.out]
          intro hm
          rcases List.mem_append.1 hm with h | h
          · exact N.out h
          · have h2 : x = z := by simpa using h
            exact he h2)
        have hb : (x == z) = false := by simpa using he
        go_wp2_with fail
        go_roundw
        case rel => exact ⟨k + 1, by go_num, by omega, NX, trivial⟩
        case measure => simp [intOf]; omega
    · have E : Hid (decide (x ∈ zs) = false) := Aid.hid (decide_eq_false (by have := N.out; rwa [List.take_of_length_le (by omega)] at this))
      go_wp2_with fail
      go_ret
      exact ⟨-1, rfl, by rw [E.out]; rfl, rfl⟩
theorem contains_is (A : Option Addr) (c B : Nat) (zs : List Int) (x : Int) (r : Bool) (w : World) (hr : decide (x ∈ zs) = r) (h : IntsAt w B A zs) (hl : zs.length ≤ 1000000000) :
    Calls Try.prog 67 #[.slice A zs.length c, .int .i64 x] w fun e w' => e = .returned (.bool r) ∧ w = w' := by
  have H := Aid.hid h
  have HR := Aid.hid hr
  clear h hr
  go_enter Try.func67, Try.ntmps67
  go_wp2_with fail
  refine (index_any A c B zs x w H.out hl).mono ?_; rintro e w' ⟨k, rfl, hk, rfl⟩
  go_wp2_with fail
  go_ret
  exact ⟨Aid.ret_bool (by first | (rw [← HR.out]; done) | (rw [← HR.out]; exact hk)), rfl⟩
end Go.Proofs.Ytmhdcehpddbjaaa
