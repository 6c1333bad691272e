/- cmp.Compare, and the comparison that Which hands on, as walks. -/
import Derived.Test.YtimojijbjmchkaaDueA
import Derived.Test.YtimojijbjmchkaaOrd
namespace Go.Proofs.Ytimojijbjmchkaa
open Go.RowKit

/-- -1, 0, 1. -/
def Du.cmp (x y : Int) : Int := if x < y then -1 else if y < x then 1 else 0

theorem quiet_left {P : Program} {f : FuncId} {args : Array Value} {w : World} {n : Nat} {v : Value}
    (h : Calls P f args (w.drewN n) fun e w' => e = .returned v ∧ w.drewN n = w') : Calls P f args (w.drewN n) fun e w' => e = .returned v ∧ ∃ m, w' = w.drewN m :=
  h.mono fun _ _ ⟨he, hm⟩ => ⟨he, n, hm.symm⟩

set_option maxHeartbeats 400000 in
theorem isNaN_any (x : Int) (w : World) :
    Calls Try.prog 22 #[.int .i64 x] w fun e w' => e = .returned (.bool false) ∧ w = w' := by
  go_enter Try.func22, Try.ntmps22
  go_wp2
  go_ret
  exact ⟨rfl, rfl⟩

set_option maxHeartbeats 400000 in
theorem compare_any (x y : Int) (w : World) :
    Calls Try.prog 20 #[.int .i64 x, .int .i64 y] w fun e w' => e = .returned (.int .i64 (Du.cmp x y)) ∧ w = w' := by
  by_cases h : x < y
  · have F : Hid (Du.cmp x y = -1) := Aid.hid (by unfold Du.cmp; rw [if_pos h])
    go_enter Try.func20, Try.ntmps20
    go_wp2_with (go_at_call 22; refine (isNaN_any _ _).mono ?_; rintro e w' ⟨rfl, rfl⟩)
    go_ret
    exact ⟨Aid.ret_int F.out.symm, rfl⟩
  · by_cases h' : y < x
    · have F : Hid (Du.cmp x y = 1) := Aid.hid (by unfold Du.cmp; rw [if_neg h, if_pos h'])
      go_enter Try.func20, Try.ntmps20
      go_wp2_with (go_at_call 22; refine (isNaN_any _ _).mono ?_; rintro e w' ⟨rfl, rfl⟩)
      go_ret
      exact ⟨Aid.ret_int F.out.symm, rfl⟩
    · have F : Hid (Du.cmp x y = 0) := Aid.hid (by unfold Du.cmp; rw [if_neg h, if_neg h'])
      go_enter Try.func20, Try.ntmps20
      go_wp2_with (go_at_call 22; refine (isNaN_any _ _).mono ?_; rintro e w' ⟨rfl, rfl⟩)
      go_ret
      exact ⟨Aid.ret_int F.out.symm, rfl⟩
end Go.Proofs.Ytimojijbjmchkaa
