/- slices.Backward's iterator, as the evaluator asks for it. -/
import Derived.RangeFuncNested
import Derived.RangeFuncBound
import Derived.RangeFuncCalls
import Derived.RangeFuncLeaves
import Derived.RangeFuncBox
import Derived.Shelf.Abstract
import Derived.Shelf.RegionOpen
import Derived.WalkKit
import Derived.OwnWalkIn
import Derived.TacticsInMore
import Derived.LoopNIn
import Derived.LoopIn
import Derived.Test.YtlajbngfdbnoiaaProg
import Derived.Test.YtlajbngfdbnoiaaEvZd
namespace Go.Proofs.Ytlajbngfdbnoiaa
open Go Go.RowKit Go.Shelf
attribute [local go_sem] Oper.semAt_some
set_option maxRecDepth 100000 in
set_option maxHeartbeats 2000000 in
theorem back_in (l Bs Co N cap : Nat) (A : Option Addr) (W : World) (J : Nat → World → Prop) (lN : N ≤ 1000000) (hS : W.cell? ⟨Bs, Co, none⟩ = some (.slice A N cap)) (h0 : J N W)
    (hr : ∀ i W', i < N → J (i + 1) W' → ∃ (b off M cap' : Nat) (x : Int), i < M ∧ M ≤ cap' ∧ W'.cell? ⟨Bs, Co, none⟩ = some (.slice (some ⟨b, off, none⟩) M cap') ∧ W'.cell? ⟨b, off + i, none⟩ = some (.int .i64 x) ∧
      YieldAt Fence.wide 7 Try.prog l #[.int .i64 (i : Int), .int .i64 x] W' fun e W2 => e = .returned (.bool true) ∧ J i W2) :
    CallsIn Fence.wide 8 Try.prog 58 #[.func (.yield l) #[] #[], .pointer (some ⟨Bs, Co, none⟩)] W fun e W' => (∃ v, e = .returned v) ∧ J 0 W' := by
  refine callsIn_of_wp Try.func58 rfl trivial ?_ rfl
  simp only [Try.ntmps58, List.size_toArray, List.length_cons, List.length_nil, Nat.reduceAdd, Nat.reduceSub, Array.replicate_succ, Array.replicate_zero, List.push_toArray, List.append_toArray, List.nil_append, List.cons_append]
  gi_wp2
  gi_loopw [3] (fun i wr => ∃ (k : Nat), k ≤ N ∧ i = .int .i64 ((k : Int) - 1) ∧ J k wr) (fun i _ => (intOf i + 1).toNat)
  case atStart => exact ⟨N, Nat.le_refl _, by first | rfl | (rw [wrap64_id] <;> omega), h0⟩
  case round =>
    obtain ⟨k, hk, rfl, hJs⟩ := hrel
    rcases k with _ | k
    · have t0 : decide ((0 : Int) ≤ ((0 : Nat) : Int) - 1) = false := by decide
      gi_wp2
      go_end0
      exact ⟨⟨_, rfl⟩, hJs⟩
    · have e1 : (((k + 1 : Nat) : Int) - 1) = (k : Int) := by omega
      rw [e1]
      have t0 : decide ((0 : Int) ≤ (k : Int)) = true := by simp
      obtain ⟨b, off, M, cap', x, hlt, hM, hS', hcx, hY⟩ := hr k wr (by omega) hJs
      obtain ⟨fn, tmps, assign, body, hy, hR⟩ := hY
      gi_wp2
      refine hR.mono ?_
      rintro e W3 ⟨rfl, hJ3⟩
      gi_wp2
      go_roundw
      case rel => exact ⟨k, by omega, by first | rfl | go_num, hJ3⟩
      case measure => simp [intOf]
theorem back_it : Ev.BackIt Try.prog 58 :=
  ⟨fun args w => by rfl, fun l Bs Co N cap A W J lN hS h0 hr => back_in l Bs Co N cap A W J lN hS h0 hr⟩
end Go.Proofs.Ytlajbngfdbnoiaa
