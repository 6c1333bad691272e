/- What every program answers that is one (chapter 12). -/
import Derived.Test.YtimojijbjmchkaaDueWhich2
namespace Go.Proofs.Ytimojijbjmchkaa
open Go.RowKit

def Du.e3 (i : Int) : Int := if i = 0 then 2 else if i = 1 then 3 else 1
def Du.f3 (i : Int) : Int := if i = 1 then 0 else 5
theorem Du.is3 : Du.Is Du.e3 Du.f3 5 6 3 [1, 0, 2] := by
  refine ⟨?_, by simp [Du.Lt, Du.f3]⟩
  have : Du.list Du.e3 5 6 3 = [0, 1, 2] := by decide +kernel
  rw [this]
  exact List.Perm.swap 0 1 [2]

set_option maxRecDepth 100000 in
set_option maxHeartbeats 1000000 in
theorem awake_any (w : World) :
    Calls Try.prog 7 #[] w fun e w' => e = .returned (.bool true) ∧ Below w.heap.size w w' := by
  go_enter Try.func7, Try.ntmps7
  try simp only [List.append_eq, List.cons_append, List.nil_append]
  go_wp2_with fail
  have J : JobsIn (w.alloc (.cells #[.int .i64 0, .int .i64 2, .int .i64 5, .int .i64 0, .int .i64 3, .int .i64 0, .int .i64 0, .int .i64 1, .int .i64 5] 33)) (some ⟨w.heap.size, 0, none⟩) w.heap.size 0 3 Du.e3 Du.f3 := by
    have h := Aid.Has.new w [.int .i64 0, .int .i64 2, .int .i64 5, .int .i64 0, .int .i64 3, .int .i64 0, .int .i64 0, .int .i64 1, .int .i64 5] 33
    refine ⟨fun _ => rfl, fun _ => by simp, fun i hi => ?_, fun i hi => ?_, fun i hi => ?_⟩
    · match i, hi with
      | 0, _ => exact ⟨0, h.cell 0 _ rfl⟩
      | 1, _ => exact ⟨0, h.cell 3 _ rfl⟩
      | 2, _ => exact ⟨0, h.cell 6 _ rfl⟩
    · match i, hi with
      | 0, _ => exact h.cell 1 _ rfl
      | 1, _ => exact h.cell 4 _ rfl
      | 2, _ => exact h.cell 7 _ rfl
    · match i, hi with
      | 0, _ => exact h.cell 2 _ rfl
      | 1, _ => exact h.cell 5 _ rfl
      | 2, _ => exact h.cell 8 _ rfl
  have B : Below w.heap.size w (w.alloc (.cells #[.int .i64 0, .int .i64 2, .int .i64 5, .int .i64 0, .int .i64 3, .int .i64 0, .int .i64 0, .int .i64 1, .int .i64 5] 33)) := (Below.refl _ _).alloc (Nat.le_refl _) _
  generalize (w.alloc (.cells #[.int .i64 0, .int .i64 2, .int .i64 5, .int .i64 0, .int .i64 3, .int .i64 0, .int .i64 0, .int .i64 1, .int .i64 5] 33)) = w1 at *
  generalize w.heap.size = jb at J ⊢
  refine (due_is 5 4 5 true (by decide +kernel) _ (by decide)).mono ?_; rintro e w2 ⟨rfl, hb⟩
  replace J := J.below hb
  replace B := B.trans (hb.mono B.size)
  clear hb
  go_wp2_with fail
  refine (due_is 5 5 9 false (by decide +kernel) _ (by decide)).mono ?_; rintro e w3 ⟨rfl, hb⟩
  replace J := J.below hb
  replace B := B.trans (hb.mono B.size)
  clear hb
  go_wp2_with fail
  refine (which_any _ jb 0 3 3 Du.e3 Du.f3 5 6 _ (by decide) J (by decide)).mono ?_; rintro e w4 ⟨A, c, zs, rfl, his, hown, hb⟩
  obtain rfl := his.unique Du.is3
  replace B := B.trans (hb.mono B.size)
  clear hb J
  have I1 := IntsAt.of_own (c := c) hown
  clear hown
  go_wp2_with fail
  have I2 : IntsAt (w4.alloc (.cells #[.int .i64 1, .int .i64 0, .int .i64 2] 3)) (w4.heap.size + 1) (some ⟨w4.heap.size, 0, none⟩) [1, 0, 2] := by
    have h := Aid.Has.new w4 [.int .i64 1, .int .i64 0, .int .i64 2] 3
    refine ⟨rfl, fun _ => ⟨_, rfl, by simp, fun j u hj => ?_⟩⟩
    match j, hj with
    | 0, hj => cases hj; exact h.cell 0 _ rfl
    | 1, hj => cases hj; exact h.cell 1 _ rfl
    | 2, hj => cases hj; exact h.cell 2 _ rfl
  refine (sameInts_walk _ _ c 3 _ _ [1, 0, 2] [1, 0, 2] _ (I1.alloc (Nat.le_refl _) _) I2 (by decide) (by decide)).mono ?_; rintro e w5 ⟨rfl, n, hw⟩
  have B5 : Below w.heap.size w w5 := by rw [hw]; exact below_drewN' (B.alloc B.size _) _
  clear hw I1 I2 B
  go_wp2_with fail
  refine (clip_any _ _).mono ?_; rintro e w6 ⟨rfl, rfl⟩
  go_wp2_with fail
  go_ret
  exact ⟨rfl, B5⟩
end Go.Proofs.Ytimojijbjmchkaa
