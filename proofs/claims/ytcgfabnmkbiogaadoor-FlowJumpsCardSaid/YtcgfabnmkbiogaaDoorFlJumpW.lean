/- FlowJumps, as a walk. -/
import Derived.Test.YtcgfabnmkbiogaaDoorFlN
import Derived.Test.YtcgfabnmkbiogaaDoorFlowJumpL
import Derived.LoopTactic
import Derived.WalkKit
import Derived.WalkSpells
import Derived.WalkLawsBesides
import Derived.LoopTactic
import Derived.Deep.QuietTactic
import Derived.BigQuiet
import Derived.Below
import Derived.Laws.ResultCell
import Derived.Laws.Tables
import Derived.Laws.Rows
import Derived.Deep.Cut
import Derived.KernelRfl
namespace Go.Proofs.YtcgfabnmkbiogaaDoor
open Go.RowKit

set_option maxRecDepth 100000 in
set_option maxHeartbeats 2000000 in
theorem flowJumps_walk (m0 a0 t0 : Int) (ah : Bool) (w : World) (ml : Fl.Max w) :
    Calls Tryd.prog 3 #[.int .i64 m0, .int .i64 a0, .int .i64 t0, .bool ah] w fun e w' => e = .returned (.bool true) ∧ Below w.heap.size w w' := by
  have ML := Aid.hid ml
  have KW : Hid (Below w.heap.size w w) := Aid.hid (Below.refl _ _)
  obtain ⟨i0, hi, hz0, hz1, hz2⟩ := info_parts info_op
  clear ml
  go_enter Tryd.func3, Tryd.ntmps3
  try simp only [List.append_eq, List.cons_append, List.nil_append]
  go_wp2_with fail
  go_at_call 7
  refine (low_is m0 30 (by decide) (by decide) w).mono ?_
  rintro e w1 ⟨⟨k1, rfl, hk1⟩, rfl⟩
  obtain ⟨N, hN⟩ : ∃ N : Nat, (1 : Int) + k1 = N := ⟨1 + k1, by omega⟩
  have hN1 : 1 ≤ N ∧ N ≤ 30 := by omega
  go_wp2_with fail
  go_at_call 7
  refine (low_is a0 N (by omega) (by omega) w).mono ?_
  rintro e w1 ⟨⟨k2, rfl, hk2⟩, rfl⟩
  go_wp2_with fail
  go_at_call 7
  refine (low_is t0 60 (by decide) (by decide) w).mono ?_
  rintro e w1 ⟨⟨k3, rfl, hk3⟩, rfl⟩
  obtain ⟨to, hto⟩ : ∃ to : Int, (k3 : Int) - 10 = to := ⟨_, rfl⟩
  have htb : -10 ≤ to ∧ to ≤ 49 := by omega
  go_wp2_with fail
  clear hN hto hk1 hk3
  go_loopw [9, 10] (fun vo vi wr => ∃ (k : Nat) (A : Option Addr) (c : Nat), vi = .int .i64 k ∧ vo = .slice A k c ∧ k ≤ N ∧ Hid (wr.ownsRow w.heap.size 25 3 (.slice A k c) k (flat (List.replicate k (⟨35, 1, 0⟩ : Opr)))) ∧ Hid (Below w.heap.size w wr)) (fun _ vi _ => N - (intOf vi).toNat)
  case atStart => exact ⟨0, none, 0, rfl, rfl, Nat.zero_le _, Aid.hid ⟨rfl, Or.inl ⟨rfl, rfl⟩⟩, KW⟩
  case round =>
    clear KW
    obtain ⟨k, A, c, rfl, rfl, hk, O, KW⟩ := hrel
    by_cases hlt : k < N
    ·
      have hr := reads_new (w := wr) (xs := [.int .i64 35, .int .i64 1, .int .i64 0]) (T := 25) (sz := 3) (n := 1) rfl
      have HR := Aid.hid hr
      have hbs : w.heap.size ≤ (wr.alloc (.cells [.int .i64 35, .int .i64 1, .int .i64 0].toArray 25)).heap.size := Nat.le_trans KW.out.size (by simp)
      have KA := Aid.hid (KW.out.alloc KW.out.size (.cells [.int .i64 35, .int .i64 1, .int .i64 0].toArray 25))
      clear hr
      go_wp2_with (at_builtin; refine wpList_append_any _ rfl _ _ 23 rfl w.heap.size 25 i0 (.agg #[.int .i64 0, .int .i64 0, .int .i64 0]) 3 24 Tryd.underlying23 hi hz0 hz1 hz2 rfl (by decide) _ k _ rfl (O.out.alloc _) _ (some ⟨wr.heap.size, 0, none⟩) 1 1 [.int .i64 35, .int .i64 1, .int .i64 0] rfl HR.out ?d1 ?d2 ?d3 hbs ?_)
      case d1 => exact flat_one [⟨35, 1, 0⟩]
      case d2 => unfold maxLen; omega
      case d3 => omega
      intro v9 w9 ho9 hg9 _
      obtain ⟨A9, c9, rfl⟩ := own_slice ho9
      have KW9 := Aid.hid (KA.out.grown hg9 hbs (fun p hp => (O.out.lt p hp).1))
      have O9 : Hid (w9.ownsRow w.heap.size 25 3 (.slice A9 (k + 1) c9) (k + 1) (flat (List.replicate (k + 1) (⟨35, 1, 0⟩ : Opr)))) := Aid.hid (by rw [List.replicate_succ', flat_app]; exact ho9)
      clear ho9 hg9 HR KA hbs
      go_wp2_with fail
      go_roundw
      case rel => exact ⟨k + 1, A9, c9, by go_num, rfl, by omega, O9, KW9⟩
      case measure => simp [intOf]; omega
    · obtain rfl : k = N := by omega
      have hr := reads_new (w := wr) (xs := [.int .i64 29, .int .i64 0, .int .i64 0]) (T := 25) (sz := 3) (n := 1) rfl
      have HR := Aid.hid hr
      have hbs : w.heap.size ≤ (wr.alloc (.cells [.int .i64 29, .int .i64 0, .int .i64 0].toArray 25)).heap.size := Nat.le_trans KW.out.size (by simp)
      have KA := Aid.hid (KW.out.alloc KW.out.size (.cells [.int .i64 29, .int .i64 0, .int .i64 0].toArray 25))
      clear hr
      go_wp2_with (at_builtin; refine wpList_append_any _ rfl _ _ 23 rfl w.heap.size 25 i0 (.agg #[.int .i64 0, .int .i64 0, .int .i64 0]) 3 24 Tryd.underlying23 hi hz0 hz1 hz2 rfl (by decide) _ k _ rfl (O.out.alloc _) _ (some ⟨wr.heap.size, 0, none⟩) 1 1 [.int .i64 29, .int .i64 0, .int .i64 0] rfl HR.out ?d1 ?d2 ?d3 hbs ?_)
      case d1 => exact flat_one [⟨29, 0, 0⟩]
      case d2 => unfold maxLen; omega
      case d3 => omega
      intro v9 w9 ho9 hg9 _
      obtain ⟨A9, c9, rfl⟩ := own_slice ho9
      have KW9 := Aid.hid (KA.out.grown hg9 hbs (fun p hp => (O.out.lt p hp).1))
      have O9 : Hid (w9.ownsRow w.heap.size 25 3 (.slice A9 (k + 1) c9) (k + 1) (flat (List.replicate k (⟨35, 1, 0⟩ : Opr) ++ [(⟨29, 0, 0⟩ : Opr)]))) := Aid.hid (by rw [flat_app]; exact ho9)
      clear ho9 hg9 HR KA hbs
      have KW := KW9
      clear KW9 O
      obtain ⟨g, cap, hv, hg, hgs⟩ := O9.out.form (by omega)
      obtain ⟨rfl, rfl⟩ : A9 = some ⟨g, 0, none⟩ ∧ c9 = cap := by simpa using hv
      have st0 := O9.out.stored (k2 * 3) (.int .i64 21)
      have st1 := st0.1.stored (k2 * 3 + 1) (.int .i64 to)
      have st2 := st1.1.stored (k2 * 3 + 2) (.int .i64 0)
      have hlx : (flat (List.replicate k (⟨35, 1, 0⟩ : Opr) ++ [(⟨29, 0, 0⟩ : Opr)])).length = (k + 1) * 3 := O9.out.1
      obtain ⟨x0, hx0⟩ : ∃ u, (flat (List.replicate k (⟨35, 1, 0⟩ : Opr) ++ [(⟨29, 0, 0⟩ : Opr)]))[k2 * 3]? = some u := ⟨_, List.getElem?_eq_getElem (by omega)⟩
      have c0 := O9.out.cellAt (k2 * 3) (by omega)
      rw [hx0] at c0
      obtain ⟨x1, hx1⟩ : ∃ u, ((flat (List.replicate k (⟨35, 1, 0⟩ : Opr) ++ [(⟨29, 0, 0⟩ : Opr)])).set (k2 * 3) (.int .i64 21))[k2 * 3 + 1]? = some u := ⟨_, List.getElem?_eq_getElem (by rw [List.length_set]; omega)⟩
      have c1 := st0.1.cellAt (k2 * 3 + 1) (by omega)
      rw [hx1] at c1
      obtain ⟨x2, hx2⟩ : ∃ u, (((flat (List.replicate k (⟨35, 1, 0⟩ : Opr) ++ [(⟨29, 0, 0⟩ : Opr)])).set (k2 * 3) (.int .i64 21)).set (k2 * 3 + 1) (.int .i64 to))[k2 * 3 + 2]? = some u := ⟨_, List.getElem?_eq_getElem (by rw [List.length_set, List.length_set]; omega)⟩
      have c2 := st1.1.cellAt (k2 * 3 + 2) (by omega)
      rw [hx2] at c2
      have f0 := O9.out.frozenAt
      have f1 := st0.1.frozenAt
      have f2 := st1.1.frozenAt
      obtain ⟨S, hS⟩ : ∃ S, ((w9.setCell ⟨g, k2 * 3, none⟩ (.int .i64 21)).setCell ⟨g, k2 * 3 + 1, none⟩ (.int .i64 to)).setCell ⟨g, k2 * 3 + 2, none⟩ (.int .i64 0) = S := ⟨_, rfl⟩
      have jl : (juOps k k2 to).length = k + 1 := by simp [juOps]
      have OS : Hid (S.ownsRow w.heap.size 25 3 (.slice (some ⟨g, 0, none⟩) (k + 1) c9) (k + 1) (flat (juOps k k2 to))) := Aid.hid (by
        have h := st2.1
        rw [hS] at h
        have e := flat_set (List.replicate k (⟨35, 1, 0⟩ : Opr) ++ [(⟨29, 0, 0⟩ : Opr)]) k2 ⟨21, to, 0⟩
        simp only at e
        rw [e] at h; exact h)
      have KW := Aid.hid (show Below w.heap.size w S by rw [← hS]; exact ((KW.out.setCell (p := ⟨g, k2 * 3, none⟩) hg _).setCell (p := ⟨g, k2 * 3 + 1, none⟩) hg _).setCell (p := ⟨g, k2 * 3 + 2, none⟩) hg _)
      have HS := Aid.hid hS
      have JL := Aid.hid jl
      clear st0 st1 st2 hx0 hx1 hx2 hlx hS hv hg hgs jl hk hlt O9
      cases ah
      · by_cases h1 : 0 ≤ to
        · by_cases h2 : to < (k : Int) + 1
          · have LAW : Hid (∀ d, Fl.Is (oneImg d (oneCode false (some ⟨g, 0, none⟩) (juOps k k2 to) c9)) 0 (some 0)) := Aid.hid (fun d => by
              have h := jump_is (x := oneImg d (oneCode false (some ⟨g, 0, none⟩) (juOps k k2 to) c9)) (c := oneCode false (some ⟨g, 0, none⟩) (juOps k k2 to) c9) k k2 to hk2 hN1.2 rfl rfl rfl
              rwa [if_pos ⟨h1, h2⟩] at h)
            have HK := Aid.hid (code_is false (some ⟨g, 0, none⟩) (k + 1) c9 S)
            have HL := Aid.hid (ops_of_own (ops := (juOps k k2 to)) (c := c9) (by rw [JL.out]; exact OS.out) (by rw [JL.out]; omega))
            go_wp2_with fail
            try rw [HS.out]
            go_at_call 9
            refine HK.out.mono ?_
            rintro e u1 ⟨rfl, hd, hb⟩
            have KW := Aid.hid (KW.out.trans (hb.mono KW.out.size))
            have HC := Aid.hid (check_one false (some ⟨g, 0, none⟩) (juOps k k2 to) c9 _ u1 (by rw [JL.out]; exact hd) (HL.out.up hb) (by rw [JL.out]; omega) (ML.out.below KW.out) (some 0) (LAW.out _))
            clear hd hb HK HL
            go_wp2_with fail
            go_at_call 8
            refine HC.out.mono ?_
            rintro e u2 ⟨rfl, hb⟩
            have KW := Aid.hid (KW.out.trans (hb.mono KW.out.size))
            clear hb HC
            go_wp2_with fail
            go_at_call 10
            refine (awake_is _ (ML.out.below KW.out)).mono ?_
            rintro e wz ⟨rfl, hb⟩
            have KW := Aid.hid (KW.out.trans (hb.mono KW.out.size))
            clear hb
            go_wp2_with fail
            go_ret
            exact ⟨rfl, KW.out⟩
          · have h3 : (k : Int) + 1 ≤ to := by omega
            have h4 : decide (to < (k : Int) + 1) = false := decide_eq_false h2
            have LAW : Hid (∀ d, Fl.Is (oneImg d (oneCode false (some ⟨g, 0, none⟩) (juOps k k2 to) c9)) 0 none) := Aid.hid (fun d => by
              have h := jump_is (x := oneImg d (oneCode false (some ⟨g, 0, none⟩) (juOps k k2 to) c9)) (c := oneCode false (some ⟨g, 0, none⟩) (juOps k k2 to) c9) k k2 to hk2 hN1.2 rfl rfl rfl
              rwa [if_neg (fun h => h2 h.2)] at h)
            have HK := Aid.hid (code_is false (some ⟨g, 0, none⟩) (k + 1) c9 S)
            have HL := Aid.hid (ops_of_own (ops := (juOps k k2 to)) (c := c9) (by rw [JL.out]; exact OS.out) (by rw [JL.out]; omega))
            go_wp2_with fail
            try rw [HS.out]
            go_at_call 9
            refine HK.out.mono ?_
            rintro e u1 ⟨rfl, hd, hb⟩
            have KW := Aid.hid (KW.out.trans (hb.mono KW.out.size))
            have HC := Aid.hid (check_one false (some ⟨g, 0, none⟩) (juOps k k2 to) c9 _ u1 (by rw [JL.out]; exact hd) (HL.out.up hb) (by rw [JL.out]; omega) (ML.out.below KW.out) none (LAW.out _))
            clear hd hb HK HL
            go_wp2_with fail
            go_at_call 8
            refine HC.out.mono ?_
            rintro e u2 ⟨rfl, hb⟩
            have KW := Aid.hid (KW.out.trans (hb.mono KW.out.size))
            clear hb HC
            go_wp2_with fail
            go_at_call 10
            refine (awake_is _ (ML.out.below KW.out)).mono ?_
            rintro e wz ⟨rfl, hb⟩
            have KW := Aid.hid (KW.out.trans (hb.mono KW.out.size))
            clear hb
            go_wp2_with fail
            go_ret
            exact ⟨rfl, KW.out⟩
        · have h3 : to < 0 := by omega
          have h4 : decide (0 ≤ to) = false := decide_eq_false h1
          have LAW : Hid (∀ d, Fl.Is (oneImg d (oneCode false (some ⟨g, 0, none⟩) (juOps k k2 to) c9)) 0 none) := Aid.hid (fun d => by
            have h := jump_is (x := oneImg d (oneCode false (some ⟨g, 0, none⟩) (juOps k k2 to) c9)) (c := oneCode false (some ⟨g, 0, none⟩) (juOps k k2 to) c9) k k2 to hk2 hN1.2 rfl rfl rfl
            rwa [if_neg (fun h => h1 h.1)] at h)
          have HK := Aid.hid (code_is false (some ⟨g, 0, none⟩) (k + 1) c9 S)
          have HL := Aid.hid (ops_of_own (ops := (juOps k k2 to)) (c := c9) (by rw [JL.out]; exact OS.out) (by rw [JL.out]; omega))
          go_wp2_with fail
          try rw [HS.out]
          go_at_call 9
          refine HK.out.mono ?_
          rintro e u1 ⟨rfl, hd, hb⟩
          have KW := Aid.hid (KW.out.trans (hb.mono KW.out.size))
          have HC := Aid.hid (check_one false (some ⟨g, 0, none⟩) (juOps k k2 to) c9 _ u1 (by rw [JL.out]; exact hd) (HL.out.up hb) (by rw [JL.out]; omega) (ML.out.below KW.out) none (LAW.out _))
          clear hd hb HK HL
          go_wp2_with fail
          go_at_call 8
          refine HC.out.mono ?_
          rintro e u2 ⟨rfl, hb⟩
          have KW := Aid.hid (KW.out.trans (hb.mono KW.out.size))
          clear hb HC
          go_wp2_with fail
          go_at_call 10
          refine (awake_is _ (ML.out.below KW.out)).mono ?_
          rintro e wz ⟨rfl, hb⟩
          have KW := Aid.hid (KW.out.trans (hb.mono KW.out.size))
          clear hb
          go_wp2_with fail
          go_ret
          exact ⟨rfl, KW.out⟩
      · have ob := own_of_has (base := S.heap.size) (sz := 3) (n := 1) (Aid.Has.new S [.int .i64 29, .int .i64 0, .int .i64 0] 25) (Nat.le_refl _) rfl (by omega)
        have OB := Aid.hid (own_lowers ob KW.out.size)
        have hr := Reads.of_own (OS.out.alloc (.cells [.int .i64 29, .int .i64 0, .int .i64 0].toArray 25))
        have HR : Hid (Reads (S.alloc (.cells #[.int .i64 29, .int .i64 0, .int .i64 0] 25)) (S.heap.size + 1) 3 (some ⟨g, 0, none⟩) (k + 1) (flat (juOps k k2 to))) := Aid.hid (by rw [World.size_alloc] at hr; exact hr)
        replace OB : Hid ((S.alloc (.cells #[.int .i64 29, .int .i64 0, .int .i64 0] 25)).ownsRow w.heap.size 25 3 (.slice (some ⟨S.heap.size, 0, none⟩) 1 1) 1 [.int .i64 29, .int .i64 0, .int .i64 0]) := OB
        have hbs : w.heap.size ≤ (S.alloc (.cells #[.int .i64 29, .int .i64 0, .int .i64 0] 25)).heap.size := Nat.le_trans KW.out.size (by simp)
        have KA := Aid.hid (KW.out.alloc KW.out.size (.cells #[.int .i64 29, .int .i64 0, .int .i64 0] 25))
        clear hr ob
        have hS := HS.out
        go_wp2_with (at_builtin; clear hS; refine wpList_append_any _ rfl _ _ 23 rfl w.heap.size 25 i0 (.agg #[.int .i64 0, .int .i64 0, .int .i64 0]) 3 24 Tryd.underlying23 hi hz0 hz1 hz2 rfl (by decide) (.slice (some ⟨S.heap.size, 0, none⟩) 1 1) 1 [.int .i64 29, .int .i64 0, .int .i64 0] rfl OB.out (S.heap.size + 1) (some ⟨g, 0, none⟩) (k + 1) c9 (flat (juOps k k2 to)) rfl HR.out ?d1 ?d2 ?d3 hbs ?_)
        case d1 => exact flat_one _
        case d2 => unfold maxLen; omega
        case d3 => omega
        intro v8 w8 ho8 hg8 _
        obtain ⟨A8, c8, rfl⟩ := own_slice ho8
        have KW := Aid.hid (KA.out.grown hg8 hbs (fun p hp => (OB.out.lt p hp).1))
        have JM : Hid (((⟨29, 0, 0⟩ : Opr) :: juOps k k2 to).length = 1 + (k + 1)) := Aid.hid (by rw [List.length_cons, JL.out]; omega)
        have O8 : Hid (w8.ownsRow w.heap.size 25 3 (.slice A8 (1 + (k + 1)) c8) (1 + (k + 1)) (flat ((⟨29, 0, 0⟩ : Opr) :: juOps k k2 to))) := Aid.hid ho8
        have LAW : Hid (∀ d, Fl.Is (oneImg d (oneCode false A8 ((⟨29, 0, 0⟩ : Opr) :: juOps k k2 to) c8)) 0 (some 0)) := Aid.hid (fun d => jump_ahead (juOps k k2 to) rfl rfl rfl)
        clear ho8 hg8 HR OB KA hbs OS c0 c1 c2 f0 f1 f2 HS
        by_cases h1 : 0 ≤ to
        · have HK := Aid.hid (code_is false A8 (1 + (k + 1)) c8 w8)
          have HL := Aid.hid (ops_of_own (ops := ((⟨29, 0, 0⟩ : Opr) :: juOps k k2 to)) (c := c8) (by rw [JM.out]; exact O8.out) (by rw [JM.out]; omega))
          go_wp2_with fail
          go_at_call 9
          refine HK.out.mono ?_
          rintro e u1 ⟨rfl, hd, hb⟩
          have KW := Aid.hid (KW.out.trans (hb.mono KW.out.size))
          have HC := Aid.hid (check_one false A8 ((⟨29, 0, 0⟩ : Opr) :: juOps k k2 to) c8 _ u1 (by rw [JM.out]; exact hd) (HL.out.up hb) (by rw [JM.out]; omega) (ML.out.below KW.out) (some 0) (LAW.out _))
          clear hd hb HK HL
          go_wp2_with fail
          go_at_call 8
          refine HC.out.mono ?_
          rintro e u2 ⟨rfl, hb⟩
          have KW := Aid.hid (KW.out.trans (hb.mono KW.out.size))
          clear hb HC
          go_wp2_with fail
          go_at_call 10
          refine (awake_is _ (ML.out.below KW.out)).mono ?_
          rintro e wz ⟨rfl, hb⟩
          have KW := Aid.hid (KW.out.trans (hb.mono KW.out.size))
          clear hb
          go_wp2_with fail
          go_ret
          exact ⟨rfl, KW.out⟩
        · have h3 : to < 0 := by omega
          have h4 : decide (0 ≤ to) = false := decide_eq_false h1
          have HK := Aid.hid (code_is false A8 (1 + (k + 1)) c8 w8)
          have HL := Aid.hid (ops_of_own (ops := ((⟨29, 0, 0⟩ : Opr) :: juOps k k2 to)) (c := c8) (by rw [JM.out]; exact O8.out) (by rw [JM.out]; omega))
          go_wp2_with fail
          go_at_call 9
          refine HK.out.mono ?_
          rintro e u1 ⟨rfl, hd, hb⟩
          have KW := Aid.hid (KW.out.trans (hb.mono KW.out.size))
          have HC := Aid.hid (check_one false A8 ((⟨29, 0, 0⟩ : Opr) :: juOps k k2 to) c8 _ u1 (by rw [JM.out]; exact hd) (HL.out.up hb) (by rw [JM.out]; omega) (ML.out.below KW.out) (some 0) (LAW.out _))
          clear hd hb HK HL
          go_wp2_with fail
          go_at_call 8
          refine HC.out.mono ?_
          rintro e u2 ⟨rfl, hb⟩
          have KW := Aid.hid (KW.out.trans (hb.mono KW.out.size))
          clear hb HC
          go_wp2_with fail
          go_at_call 10
          refine (awake_is _ (ML.out.below KW.out)).mono ?_
          rintro e wz ⟨rfl, hb⟩
          have KW := Aid.hid (KW.out.trans (hb.mono KW.out.size))
          clear hb
          go_wp2_with fail
          go_ret
          exact ⟨rfl, KW.out⟩
end Go.Proofs.YtcgfabnmkbiogaaDoor
