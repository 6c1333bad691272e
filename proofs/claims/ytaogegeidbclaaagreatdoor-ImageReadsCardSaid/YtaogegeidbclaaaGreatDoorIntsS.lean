/- Lists of numbers: SameInts, as a walk (XInts without OverInts: for seats that do not reach it). -/
import Derived.Test.YtaogegeidbclaaaGreatDoorProg
import Derived.Test.YtaogegeidbclaaaGreatDoorAid
import Derived.Test.YtaogegeidbclaaaGreatDoorMem
import Derived.WalkKit
import Derived.WalkSpells
import Derived.WalkLawsBesides
import Derived.Deep.QuietTactic
import Derived.BigQuiet
namespace Go.Proofs.YtaogegeidbclaaaGreatDoor
open Go.RowKit

theorem info_int : (Tryz.prog.info? 3).map (fun i => (i.zero, i.size, i.bytes)) = some (some (.int .i64 0), 1, 8) := by kernel_rfl

/-- The slice of address A reads as the list xs, and lies below block B. -/
def IntsAt (w : World) (B : Nat) (A : Option Addr) (xs : List Int) : Prop := Reads w B 1 A xs.length (xs.map (Value.int .i64))
theorem IntsAt.at_ {w : World} {B : Nat} {A : Option Addr} {xs : List Int} {k : Nat} (h : IntsAt w B A xs) (hk : k < xs.length) :
    ∃ ad, A = some ad ∧ ad.block < B ∧ ∀ j x, xs[j]? = some x → w.cell? (ad.add j) = some (.int .i64 x) := by
  obtain ⟨ad, h1, h2, h3⟩ := h.2 (by omega)
  exact ⟨ad, h1, h2, fun j x hj => h3 j _ (by simp [hj])⟩
theorem IntsAt.nil_ (w : World) (B : Nat) (A : Option Addr) : IntsAt w B A [] := ⟨by simp, fun h => absurd h (by simp)⟩
theorem drewN_more (w : World) (m n : Nat) : (w.drewN m).drewN n = w.drewN (m + n) := by simp [World.drewN, Nat.add_assoc]
theorem below_drewN' {B : Nat} {a w : World} (h : Below B a w) (n : Nat) : Below B a (w.drewN n) := ⟨h.os, h.tape, h.output, h.size, h.block⟩

set_option maxRecDepth 100000 in
set_option maxHeartbeats 1000000 in
theorem sameInts_walk (A C : Option Addr) (c d B B' : Nat) (xs ys : List Int) (w : World) (hx : IntsAt w B A xs) (hy : IntsAt w B' C ys) (lx : xs.length < 1000000000) (ly : ys.length < 1000000000) :
    Calls Tryz.prog 72 #[.slice A xs.length c, .slice C ys.length d] w fun e w' => e = .returned (.bool (decide (xs = ys))) ∧ ∃ n, w' = w.drewN n := by
  have HX := Aid.hid hx; have HY := Aid.hid hy
  clear hx hy
  by_cases hl : xs.length = ys.length
  · go_enter Tryz.func72, Tryz.ntmps72
    try simp only [List.append_eq, List.cons_append, List.nil_append]
    rw [← hl]
    have HL := Aid.hid hl
    clear hl
    go_wp2_with fail
    go_loopw [5] (fun i wr => ∃ k : Nat, i = .int .i64 k ∧ k ≤ xs.length ∧ Hid (xs.take k = ys.take k) ∧ ∃ n, wr = w.drewN n) (fun i _ => xs.length - (intOf i).toNat)
    case atStart => exact ⟨0, rfl, Nat.zero_le _, Aid.hid (by simp), 0, rfl⟩
    case round =>
      obtain ⟨k, rfl, hk, E, n, rfl⟩ := hrel
      by_cases hlt : k < xs.length
      · obtain ⟨a1, rfl, _, hc1⟩ := HX.out.at_ hlt
        obtain ⟨a2, rfl, _, hc2⟩ := HY.out.at_ (k := k) (by have := HL.out; omega)
        obtain ⟨x, hx⟩ : ∃ x, xs[k]? = some x := ⟨_, List.getElem?_eq_getElem hlt⟩
        obtain ⟨y, hy⟩ : ∃ y, ys[k]? = some y := ⟨_, List.getElem?_eq_getElem (by have := HL.out; omega)⟩
        have NX : Hid (x = y → xs.take (k + 1) = ys.take (k + 1)) := Aid.hid (fun h => by rw [List.take_add_one, List.take_add_one, E.out, hx, hy, h])
        have NE : Hid (x ≠ y → decide (xs = ys) = false) := Aid.hid (fun h => decide_eq_false (fun e => h (by subst e; rw [hx] at hy; exact Option.some.inj hy)))
        obtain ⟨wr, hwr⟩ : ∃ wr, wr = w.drewN n := ⟨_, rfl⟩
        have c1 : wr.cell? (a1.add k) = some (.int .i64 x) := by rw [hwr]; exact hc1 k x hx
        have c2 : wr.cell? (a2.add k) = some (.int .i64 y) := by rw [hwr]; exact hc2 k y hy
        rw [← hwr]
        have HW := Aid.hid hwr
        clear hc1 hc2 E hwr hx hy
        by_cases he : x = y
        · go_wp2_with fail
          go_quiet (fail)
          go_wp2_with fail
          go_roundw
          case rel => exact ⟨k + 1, by go_num, by omega, Aid.hid (NX.out he), n + nq, by rw [HW.out]; exact drewN_more _ _ _⟩
          case measure => simp [intOf]; omega
        · go_wp2_with fail
          go_quiet (fail)
          go_wp2_with fail
          go_ret
          exact ⟨by rw [NE.out he]; rfl, n + nq, by rw [HW.out]; exact drewN_more _ _ _⟩
      · go_wp2_with fail
        go_ret
        exact ⟨Aid.ret_bool (by
          have h := E.out
          have := HL.out
          rw [List.take_of_length_le (by omega), List.take_of_length_le (by omega)] at h
          simp [h]), n, rfl⟩
  · have hl2 : ((xs.length : Int) != (ys.length : Int)) = true := by simpa using (by omega : ¬ (xs.length : Int) = ys.length)
    have E := Aid.hid (show decide (xs = ys) = false from decide_eq_false (fun e => hl (by rw [e])))
    go_enter Tryz.func72, Tryz.ntmps72
    try simp only [List.append_eq, List.cons_append, List.nil_append]
    go_wp2_with fail
    go_ret
    exact ⟨by rw [E.out]; rfl, 0, rfl⟩

theorem IntsAt.of_own {w : World} {base c : Nat} {A : Option Addr} {xs : List Int} (h : w.ownsRow base 3 1 (.slice A xs.length c) xs.length (xs.map (Value.int .i64))) : IntsAt w w.heap.size A xs := Reads.of_own h
end Go.Proofs.YtaogegeidbclaaaGreatDoor
