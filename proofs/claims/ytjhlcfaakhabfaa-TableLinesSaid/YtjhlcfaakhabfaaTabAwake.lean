/- What every program answers that is one (chapter 6). -/
import Derived.Test.YtjhlcfaakhabfaaTabTwo
namespace Go.Proofs.Ytjhlcfaakhabfaa
open Go.RowKit

set_option maxRecDepth 100000 in
set_option maxHeartbeats 4000000 in
theorem awake_any (w : World) :
    Calls Try.prog 9 #[] w fun e w' => e = .returned (.bool true) ∧ Below w.heap.size w w' := by
  go_enter Try.func9, Try.ntmps9
  try simp only [List.append_eq, List.cons_append, List.nil_append]
  go_wp2_with fail
  refine (two_any _).mono ?_; rintro e w1 ⟨a1, m1, rfl, u1, hb1⟩
  go_wp2_with fail
  refine (method_is (Tb.two m1) a1 _ 2 1 ⟨#[77]⟩ 0 0 true _ (Tb.two_method m1) u1 (Nat.le_refl _)).mono ?_; rintro e w2 ⟨rfl, hb2⟩
  have hb := hb1.trans (hb2.mono hb1.size)
  clear hb1 hb2 u1
  go_wp2_with fail
  have P := Aid.Has.new w2 [.int .i64 0, .int .i64 0] 48
  replace hb := hb.alloc hb.size (.cells #[.int .i64 0, .int .i64 0] 48)
  have hpw := P.lt
  generalize hpe : w2.heap.size = pw at *
  generalize w2.alloc (.cells #[.int .i64 0, .int .i64 0] 48) = W at *
  obtain ⟨V, hV⟩ : ∃ V : World, V = W := ⟨_, rfl⟩
  have BW := Aid.hid hb
  have P0 := Aid.hid (P.cell 0 _ rfl)
  have P1 := Aid.hid (P.cell 1 _ rfl)
  have hc : Below W.heap.size W W := Below.refl _ _
  clear P hb hpe hV
  refine (two_any _).mono ?_; rintro e w3 ⟨a3, m3, rfl, u3, hb3⟩
  replace hc := hc.trans (hb3.mono hc.size)
  clear hb3
  go_wp2_with fail
  refine (chain_is (Tb.two m3) a3 _ 2 1 [1, 0] _ (Tb.two_chain m3) u3 (Nat.le_refl _)).mono ?_; rintro e w4 ⟨A, c, rfl, ow, hb4⟩
  replace hc := hc.trans (hb4.mono hc.size)
  have I1 := IntsAt.of_own (c := c) ow
  clear hb4 u3 ow
  go_wp2_with fail
  have I2 : IntsAt (w4.alloc (.cells #[.int .i64 1, .int .i64 0] 3)) (w4.heap.size + 1) (some ⟨w4.heap.size, 0, none⟩) [1, 0] := by
    have h := Aid.Has.new w4 [.int .i64 1, .int .i64 0] 3
    refine ⟨rfl, fun _ => ⟨_, rfl, by simp, fun j u hj => ?_⟩⟩
    match j, hj with
    | 0, hj => cases hj; exact h.cell 0 _ rfl
    | 1, hj => cases hj; exact h.cell 1 _ rfl
  refine (sameInts_walk _ _ c 2 _ _ [1, 0] [1, 0] _ (I1.alloc (Nat.le_refl _) _) I2 (by decide) (by decide)).mono ?_; rintro e w5 ⟨rfl, n, hw⟩
  have hc5 : Below W.heap.size W w5 := by rw [hw]; exact below_drewN' (hc.alloc hc.size _) _
  clear hw I1 I2 hc
  go_wp2_with fail
  refine (two_any _).mono ?_; rintro e w6 ⟨a6, m6, rfl, u6, hb6⟩
  have hc6 := hc5.trans (hb6.mono hc5.size)
  clear hb6 hc5
  go_wp2_with fail
  refine (is_is (Tb.two m6) a6 _ 2 ⟨#[66]⟩ ⟨#[65]⟩ true _ (Tb.two_is m6) u6 (Nat.le_refl _)).mono ?_; rintro e w7 ⟨rfl, hb7⟩
  have hc7 := hc6.trans (hb7.mono hc6.size)
  clear hb7 hc6 u6
  go_wp2_with fail
  refine (two_any _).mono ?_; rintro e w8 ⟨a8, m8, rfl, u8, hb8⟩
  have hc8 := hc7.trans (hb8.mono hc7.size)
  clear hb8 hc7
  go_wp2_with fail
  refine (is_is (Tb.two m8) a8 _ 2 ⟨#[65]⟩ ⟨#[66]⟩ false _ (Tb.two_isnt m8) u8 (Nat.le_refl _)).mono ?_; rintro e w9 ⟨rfl, hb9⟩
  have hc9 := hc8.trans (hb9.mono hc8.size)
  clear hb9 hc8 u8
  have p0 := (hc9.cell (p := ⟨pw, 0, none⟩) hpw).trans P0.out
  have p1 := (hc9.cell (p := ⟨pw, 1, none⟩) hpw).trans P1.out
  go_wp2_with fail
  clear p0 p1
  refine (two_any _).mono ?_; rintro e w10 ⟨a10, m10, rfl, u10, hb10⟩
  have hc10 := hc9.trans (hb10.mono hc9.size)
  clear hb10 hc9
  go_wp2_with fail
  refine (find_is (Tb.two m10) a10 _ 2 ⟨#[66]⟩ 1 _ (Tb.two_findB m10) u10 (Nat.le_refl _)).mono ?_; rintro e w11 ⟨rfl, hb11⟩
  have hc11 := hc10.trans (hb11.mono hc10.size)
  clear hb11 hc10 u10
  go_wp2_with fail
  refine (two_any _).mono ?_; rintro e w12 ⟨a12, m12, rfl, u12, hb12⟩
  have hc12 := hc11.trans (hb12.mono hc11.size)
  clear hb12 hc11
  go_wp2_with fail
  refine (find_is (Tb.two m12) a12 _ 2 ⟨#[67]⟩ (-1) _ (Tb.two_findC m12) u12 (Nat.le_refl _)).mono ?_; rintro e w13 ⟨rfl, hb13⟩
  have hc13 := hc12.trans (hb13.mono hc12.size)
  clear hb13 hc12 u12
  go_wp2_with fail
  go_ret
  exact ⟨Aid.ret_bool (by simp), BW.out.trans (hc13.mono BW.out.size)⟩
end Go.Proofs.Ytjhlcfaakhabfaa
