/- FlowJoins, as a walk. -/
import Derived.Test.YtcgfabnmkbiogaaDoorFlJoinP
import Derived.LoopTactic
import Derived.WalkKit
import Derived.WalkSpells
import Derived.WalkLawsBesides
import Derived.LoopTactic
import Derived.Deep.QuietTactic
import Derived.BigQuiet
import Derived.Below
import Derived.Laws.ResultCell
import Derived.Laws.Tables
import Derived.Laws.Rows
import Derived.Deep.Cut
import Derived.KernelRfl
namespace Go.Proofs.YtcgfabnmkbiogaaDoor
open Go.RowKit

set_option maxRecDepth 100000 in
set_option maxHeartbeats 8000000 in
theorem flowJoins_walk (a0 x0 b0 y0 : Int) (w : World) (ml : Fl.Max w) :
    Calls Tryd.prog 5 #[.int .i64 a0, .int .i64 x0, .int .i64 b0, .int .i64 y0] w fun e w' => e = .returned (.bool true) ∧ Below w.heap.size w w' := by
  have ML := Aid.hid ml
  obtain ⟨i0, hi, hz0, hz1, hz2⟩ := info_parts info_op
  have hn := Aid.Has.new w [.int .i64 1, .int .i64 0, .int .i64 0, .int .i64 22, .int .i64 0, .int .i64 0] 25
  have HNW := Aid.hid hn
  have KW0 : Hid (Below w.heap.size w (w.alloc (.cells #[.int .i64 1, .int .i64 0, .int .i64 0, .int .i64 22, .int .i64 0, .int .i64 0] 25))) := Aid.hid ((Below.refl _ _).alloc (Nat.le_refl _) _)
  clear ml hn
  go_enter Tryd.func5, Tryd.ntmps5
  try simp only [List.append_eq, List.cons_append, List.nil_append]
  go_wp2_with fail
  go_at_call 7
  refine (low_is a0 6 (by decide) (by decide) w).mono ?_
  rintro e w1 ⟨⟨a, rfl, ha⟩, rfl⟩
  go_wp2_with fail
  go_at_call 7
  refine (low_is b0 6 (by decide) (by decide) w).mono ?_
  rintro e w1 ⟨⟨b, rfl, hb⟩, rfl⟩
  have OX := Aid.hid (own_of_has (base := w.heap.size) (n := 2) (sz := 3) HNW.out (Nat.le_refl _) rfl (by omega))
  obtain ⟨X, hX⟩ : ∃ X, w.alloc (.cells #[.int .i64 1, .int .i64 0, .int .i64 0, .int .i64 22, .int .i64 0, .int .i64 0] 25) = X := ⟨_, rfl⟩
  rw [hX] at OX KW0
  have HX := Aid.hid hX
  clear HNW hX
  go_wp2_with fail
  rw [HX.out]
  clear HX
  go_loopw [9, 10, 12] (fun vo vs vi wr => ∃ (k m : Nat) (A : Option Addr) (c : Nat), vi = .int .i64 k ∧ vo = .slice A m c ∧ vs = .string (tb (joLt (jB x0) k)) ∧ k ≤ a ∧ Hid (m = 2 + k) ∧ Hid (wr.ownsRow w.heap.size 25 3 (.slice A m c) m (flat (joHead 0 ++ joGs (jB x0) k))) ∧ Hid (Below w.heap.size w wr)) (fun _ _ vi _ => a - (intOf vi).toNat)
  case atStart => exact ⟨0, 2, _, 2, rfl, rfl, rfl, Nat.zero_le _, Aid.hid rfl, OX, KW0⟩
  case round =>
    clear KW0 OX
    obtain ⟨k, m, A, c, rfl, rfl, rfl, hk, NM, O, KW⟩ := hrel
    by_cases hlt : k < a
    ·
      have hc2 : (k : Int) < 64 := by omega
      have HP := Aid.hid (put_is A c m w.heap.size (joHead 0 ++ joGs (jB x0) k) (joLt (jB x0) k) ((jB x0) k) wr O.out KW.out.size (by have := NM.out; omega) (by rw [joLt_len]; omega))
      go_wp2_with fail
      go_at_call 11
      refine HP.out.mono ?_
      rintro e w1 ⟨A', c', rfl, ho, hb⟩
      have KW1 := Aid.hid (KW.out.trans hb)
      have O1 := Aid.hid ho
      clear ho hb HP
      go_wp2_with fail
      go_roundw
      case rel => exact ⟨k + 1, m + 1, A', c', by go_num, rfl, by rw [put_lt], by omega, Aid.hid (by have := NM.out; omega), Aid.hid (by rw [joGs_succ, ← List.append_assoc]; exact O1.out), KW1⟩
      case measure => simp [intOf]; omega
    · obtain rfl : k = a := by omega
      have hm5 : m ≤ 7 := by have := NM.out; omega
      have hm2 : 2 ≤ m := by have := NM.out; omega
      clear hlt hk
      have hr := reads_new (w := wr) (xs := [.int .i64 21, .int .i64 0, .int .i64 0]) (T := 25) (sz := 3) (n := 1) rfl
      have HR := Aid.hid hr
      have hbs : w.heap.size ≤ (wr.alloc (.cells [.int .i64 21, .int .i64 0, .int .i64 0].toArray 25)).heap.size := Nat.le_trans KW.out.size (by simp)
      have KA := Aid.hid (KW.out.alloc KW.out.size (.cells [.int .i64 21, .int .i64 0, .int .i64 0].toArray 25))
      clear hr
      go_wp2_with (at_builtin; refine wpList_append_any _ rfl _ _ 23 rfl w.heap.size 25 i0 (.agg #[.int .i64 0, .int .i64 0, .int .i64 0]) 3 24 Tryd.underlying23 hi hz0 hz1 hz2 rfl (by decide) _ m _ rfl (O.out.alloc _) _ (some ⟨wr.heap.size, 0, none⟩) 1 1 [.int .i64 21, .int .i64 0, .int .i64 0] rfl HR.out ?d1 ?d2 ?d3 hbs ?_)
      case d1 => exact flat_one [⟨21, 0, 0⟩]
      case d2 => unfold maxLen; omega
      case d3 => omega
      intro v9 w9 ho9 hg9 _
      obtain ⟨A9, c9, rfl⟩ := own_slice ho9
      have KW9 := Aid.hid (KA.out.grown hg9 hbs (fun p hp => (O.out.lt p hp).1))
      have O9 : Hid (w9.ownsRow w.heap.size 25 3 (.slice A9 (m + 1) c9) (m + 1) (flat (joHead 0 ++ joGs (jB x0) k ++ [(⟨21, 0, 0⟩ : Opr)]))) := Aid.hid (by rw [flat_app (joHead 0 ++ joGs (jB x0) k)]; exact ho9)
      clear ho9 hg9 HR KA hbs
      clear O KW
      obtain ⟨g, cap, hv, hg, hgs⟩ := O9.out.form (by omega)
      obtain ⟨rfl, rfl⟩ : A9 = some ⟨g, 0, none⟩ ∧ c9 = cap := by simpa using hv
      have hlx : (flat (joHead 0 ++ joGs (jB x0) k ++ [(⟨21, 0, 0⟩ : Opr)])).length = (m + 1) * 3 := O9.out.1
      obtain ⟨y4, hy4⟩ : ∃ u, (flat (joHead 0 ++ joGs (jB x0) k ++ [(⟨21, 0, 0⟩ : Opr)]))[4]? = some u := ⟨_, List.getElem?_eq_getElem (by omega)⟩
      have c4 := O9.out.cellAt 4 (by omega)
      rw [hy4] at c4
      have f4 := O9.out.frozenAt
      obtain ⟨S, hS⟩ : ∃ S, w9.setCell ⟨g, 4, none⟩ (.int .i64 ((m : Int) + 1)) = S := ⟨_, rfl⟩
      have st := (O9.out.stored 4 (.int .i64 ((m : Int) + 1))).1
      rw [hS] at st
      have OS : Hid (S.ownsRow w.heap.size 25 3 (.slice (some ⟨g, 0, none⟩) (m + 1) c9) (m + 1) (flat (joHead ((m : Int) + 1) ++ joGs (jB x0) k ++ [(⟨21, 0, 0⟩ : Opr)]))) := Aid.hid (by
        have e := flat_setA (joHead 0 ++ joGs (jB x0) k ++ [(⟨21, 0, 0⟩ : Opr)]) 1 ⟨22, 0, 0⟩ ((m : Int) + 1) rfl
        have e2 : (flat (joHead 0 ++ joGs (jB x0) k ++ [(⟨21, 0, 0⟩ : Opr)])).set 4 (.int .i64 ((m : Int) + 1)) = flat (joHead ((m : Int) + 1) ++ joGs (jB x0) k ++ [(⟨21, 0, 0⟩ : Opr)]) := e
        rw [e2] at st; exact st)
      have KS : Hid (Below w.heap.size w S) := Aid.hid (by rw [← hS]; exact KW9.out.setCell (p := ⟨g, 4, none⟩) hg _)
      have HS := Aid.hid hS
      clear hv hg hgs hlx hy4 hS st O9 KW9
      go_wp2_with fail
      rw [HS.out]
      clear HS c4 f4
      go_loopw [9, 11, 14] (fun vo vs vi wr => ∃ (j p : Nat) (A : Option Addr) (c : Nat), vi = .int .i64 j ∧ vo = .slice A p c ∧ vs = .string (tb (joLt (jB y0) j)) ∧ j ≤ b ∧ Hid (p = m + 1 + j) ∧ Hid (wr.ownsRow w.heap.size 25 3 (.slice A p c) p (flat (joHead ((m : Int) + 1) ++ joGs (jB x0) k ++ [(⟨21, 0, 0⟩ : Opr)] ++ joGs (jB y0) j))) ∧ Hid (Below w.heap.size w wr)) (fun _ _ vi _ => b - (intOf vi).toNat)
      case atStart => exact ⟨0, m + 1, _, _, rfl, rfl, rfl, Nat.zero_le _, Aid.hid rfl, Aid.hid (by simpa [joGs] using OS.out), KS⟩
      case round =>
        clear KS OS
        obtain ⟨j, p, A, c, rfl, rfl, rfl, hj, NP, O, KW⟩ := hrel
        by_cases hlt : j < b
        ·
          have hc2 : (j : Int) < 64 := by omega
          have HP := Aid.hid (put_is A c p w.heap.size (joHead ((m : Int) + 1) ++ joGs (jB x0) k ++ [(⟨21, 0, 0⟩ : Opr)] ++ joGs (jB y0) j) (joLt (jB y0) j) ((jB y0) j) wr O.out KW.out.size (by have := NP.out; omega) (by rw [joLt_len]; omega))
          go_wp2_with fail
          go_at_call 11
          refine HP.out.mono ?_
          rintro e w1 ⟨A', c', rfl, ho, hb1⟩
          have KW1 := Aid.hid (KW.out.trans hb1)
          have O1 := Aid.hid ho
          clear ho hb1 HP
          go_wp2_with fail
          go_roundw
          case rel => exact ⟨j + 1, p + 1, A', c', by go_num, rfl, by rw [put_lt], by omega, Aid.hid (by have := NP.out; omega), Aid.hid (by rw [joGs_succ, ← List.append_assoc]; exact O1.out), KW1⟩
          case measure => simp [intOf]; omega
        · obtain rfl : j = b := by omega
          have hp1 : m + 1 ≤ p := by have := NP.out; omega
          have hp2 : p ≤ 20 := by have := NP.out; omega
          obtain ⟨g, cap, hv, hg, hgs⟩ := O.out.form (by omega)
          obtain ⟨rfl, rfl⟩ : A = some ⟨g, 0, none⟩ ∧ c = cap := by simpa using hv
          obtain ⟨LA, hLA⟩ : ∃ LA, joHead ((m : Int) + 1) ++ joGs (jB x0) k = LA := ⟨_, rfl⟩
          have hla : LA.length = m := by rw [← hLA, List.length_append, joGs_len, NM.out]; rfl
          rw [hLA] at O
          obtain ⟨y4, hy4⟩ : ∃ u, (flat (LA ++ [(⟨21, 0, 0⟩ : Opr)] ++ joGs (jB y0) j))[m * 3 + 1]? = some u := ⟨_, List.getElem?_eq_getElem (by rw [O.out.1]; omega)⟩
          have c4 := O.out.cellAt (m * 3 + 1) (by omega)
          rw [hy4] at c4
          have f4 := O.out.frozenAt
          obtain ⟨S, hS⟩ : ∃ S, wr.setCell ⟨g, m * 3 + 1, none⟩ (.int .i64 (p : Int)) = S := ⟨_, rfl⟩
          have st := (O.out.stored (m * 3 + 1) (.int .i64 (p : Int))).1
          rw [hS] at st
          have OS : Hid (S.ownsRow w.heap.size 25 3 (.slice (some ⟨g, 0, none⟩) p c) p (flat (LA ++ [(⟨21, (p : Int), 0⟩ : Opr)] ++ joGs (jB y0) j))) := Aid.hid (by
            have hget : (LA ++ [(⟨21, 0, 0⟩ : Opr)] ++ joGs (jB y0) j)[m]? = some ⟨21, 0, 0⟩ := at_left (at_right (j := 0) (by rw [hla]; rfl) rfl)
            have e := flat_setA (LA ++ [(⟨21, 0, 0⟩ : Opr)] ++ joGs (jB y0) j) m ⟨21, 0, 0⟩ (p : Int) hget
            rw [e] at st
            have e3 := set_mid LA (joGs (jB y0) j) (⟨21, 0, 0⟩ : Opr) ⟨21, (p : Int), 0⟩
            rw [hla] at e3
            rw [e3] at st; exact st)
          have KS : Hid (Below w.heap.size w S) := Aid.hid (by rw [← hS]; exact KW.out.setCell (p := ⟨g, m * 3 + 1, none⟩) hg _)
          have HS := Aid.hid hS
          have HLA := Aid.hid hLA
          clear hv hg hgs hy4 hS st O KW hlt hj hla hLA
          go_wp2_with fail
          rw [HS.out]
          clear HS c4 f4
          go_loopw [9, 15] (fun vo vi wr => ∃ (z q : Nat) (A : Option Addr) (c : Nat), vi = .int .i64 z ∧ vo = .slice A q c ∧ z ≤ j ∧ Hid (q = p + z) ∧ Hid (wr.ownsRow w.heap.size 25 3 (.slice A q c) q (flat (LA ++ [(⟨21, (p : Int), 0⟩ : Opr)] ++ joGs (jB y0) j ++ joPops z))) ∧ Hid (Below w.heap.size w wr)) (fun _ vi _ => j - (intOf vi).toNat)
          case atStart => exact ⟨0, p, _, _, rfl, rfl, Nat.zero_le _, Aid.hid rfl, Aid.hid (by simpa [joPops] using OS.out), KS⟩
          case round =>
            clear KS OS
            obtain ⟨z, q, A, c, rfl, rfl, hz, NQ, O, KW⟩ := hrel
            have hq2 : q ≤ 40 := by have := NQ.out; omega
            obtain ⟨LQ, hLQ⟩ : ∃ LQ, LA ++ [(⟨21, (p : Int), 0⟩ : Opr)] ++ joGs (jB y0) j ++ joPops z = LQ := ⟨_, rfl⟩
            rw [hLQ] at O
            have HLQ := Aid.hid hLQ
            clear hLQ
            by_cases hlt : z < j
            ·
              have hr := reads_new (w := wr) (xs := [.int .i64 34, .int .i64 0, .int .i64 0]) (T := 25) (sz := 3) (n := 1) rfl
              have HR := Aid.hid hr
              have hbs : w.heap.size ≤ (wr.alloc (.cells [.int .i64 34, .int .i64 0, .int .i64 0].toArray 25)).heap.size := Nat.le_trans KW.out.size (by simp)
              have KA := Aid.hid (KW.out.alloc KW.out.size (.cells [.int .i64 34, .int .i64 0, .int .i64 0].toArray 25))
              clear hr
              go_wp2_with (at_builtin; refine wpList_append_any _ rfl _ _ 23 rfl w.heap.size 25 i0 (.agg #[.int .i64 0, .int .i64 0, .int .i64 0]) 3 24 Tryd.underlying23 hi hz0 hz1 hz2 rfl (by decide) _ q _ rfl (O.out.alloc _) _ (some ⟨wr.heap.size, 0, none⟩) 1 1 [.int .i64 34, .int .i64 0, .int .i64 0] rfl HR.out ?d1 ?d2 ?d3 hbs ?_)
              case d1 => exact flat_one [⟨34, 0, 0⟩]
              case d2 => unfold maxLen; omega
              case d3 => omega
              intro v9 w9 ho9 hg9 _
              obtain ⟨A9, c9, rfl⟩ := own_slice ho9
              have KW9 := Aid.hid (KA.out.grown hg9 hbs (fun p hp => (O.out.lt p hp).1))
              have O9 : Hid (w9.ownsRow w.heap.size 25 3 (.slice A9 (q + 1) c9) (q + 1) (flat (LA ++ [(⟨21, (p : Int), 0⟩ : Opr)] ++ joGs (jB y0) j ++ joPops (z + 1)))) := Aid.hid (by have e : LA ++ [(⟨21, (p : Int), 0⟩ : Opr)] ++ joGs (jB y0) j ++ joPops (z + 1) = LQ ++ [(⟨34, 0, 0⟩ : Opr)] := (by rw [← HLQ.out]; unfold joPops; rw [List.replicate_succ', ← List.append_assoc]); rw [e, flat_app]; exact ho9)
              clear ho9 hg9 HR KA hbs
              go_wp2_with fail
              go_roundw
              case rel => exact ⟨z + 1, q + 1, A9, c9, by go_num, rfl, by omega, Aid.hid (by have := NQ.out; omega), O9, KW9⟩
              case measure => simp [intOf]; omega
            · obtain rfl : z = j := by omega
              have hr := reads_new (w := wr) (xs := [.int .i64 29, .int .i64 0, .int .i64 0]) (T := 25) (sz := 3) (n := 1) rfl
              have HR := Aid.hid hr
              have hbs : w.heap.size ≤ (wr.alloc (.cells [.int .i64 29, .int .i64 0, .int .i64 0].toArray 25)).heap.size := Nat.le_trans KW.out.size (by simp)
              have KA := Aid.hid (KW.out.alloc KW.out.size (.cells [.int .i64 29, .int .i64 0, .int .i64 0].toArray 25))
              clear hr
              go_wp2_with (at_builtin; refine wpList_append_any _ rfl _ _ 23 rfl w.heap.size 25 i0 (.agg #[.int .i64 0, .int .i64 0, .int .i64 0]) 3 24 Tryd.underlying23 hi hz0 hz1 hz2 rfl (by decide) _ q _ rfl (O.out.alloc _) _ (some ⟨wr.heap.size, 0, none⟩) 1 1 [.int .i64 29, .int .i64 0, .int .i64 0] rfl HR.out ?d1 ?d2 ?d3 hbs ?_)
              case d1 => exact flat_one [⟨29, 0, 0⟩]
              case d2 => unfold maxLen; omega
              case d3 => omega
              intro v9 w9 ho9 hg9 _
              obtain ⟨A9, c9, rfl⟩ := own_slice ho9
              have KW9 := Aid.hid (KA.out.grown hg9 hbs (fun p hp => (O.out.lt p hp).1))
              have O9 : Hid (w9.ownsRow w.heap.size 25 3 (.slice A9 (q + 1) c9) (q + 1) (flat (LA ++ [(⟨21, (p : Int), 0⟩ : Opr)] ++ joGs (jB y0) z ++ joPops z ++ [(⟨29, 0, 0⟩ : Opr)]))) := Aid.hid (by rw [HLQ.out, flat_app]; exact ho9)
              clear ho9 hg9 HR KA hbs
              obtain ⟨LL, hLL⟩ : ∃ LL, LA ++ [(⟨21, (p : Int), 0⟩ : Opr)] ++ joGs (jB y0) z ++ joPops z ++ [(⟨29, 0, 0⟩ : Opr)] = LL := ⟨_, rfl⟩
              rw [hLL] at O9
              have LN : Hid (LL.length = q + 1) := Aid.hid (by
                have h1 := O9.out.1
                rw [flat_len] at h1; omega)
              have LAW : Hid (∀ d, Fl.Is (oneImg d (oneCode false A9 LL c9)) 0 (if joLt (jB x0) k = joLt (jB y0) z then some ((max z 1 : Nat) : Int) else none)) := Aid.hid (fun d =>
                joins_is (x := oneImg d (oneCode false A9 LL c9)) (c := oneCode false A9 LL c9) k z (jB x0) (jB y0) (by omega) (by omega) rfl rfl (jo_at (u := (m : Int) + 1) (v := (p : Int)) (by have := NM.out; omega) (by have := NM.out; have := NP.out; omega) (by rw [HLA.out]; exact hLL.symm)))
              have KW := KW9
              clear KW9 O hLL hlt hz HLA NQ
              by_cases hst : joLt (jB x0) k = joLt (jB y0) z
              · have LAW2 : Hid (∀ d, Fl.Is (oneImg d (oneCode false A9 LL c9)) 0 (some ((max z 1 : Nat) : Int))) := Aid.hid (fun d => by have h := LAW.out d; rwa [if_pos hst] at h)
                clear LAW
                have HK := Aid.hid (code_is false A9 (q + 1) c9 w9)
                have HL := Aid.hid (ops_of_own (ops := LL) (c := c9) (by rw [LN.out]; exact O9.out) (by rw [LN.out]; omega))
                have hne : ((tb (joLt (jB x0) k)).toList == (tb (joLt (jB y0) z)).toList) = true := by rw [hst]; simp
                have hmax : ∀ (ts : Array TypeId) (ty : TypeId) (w : World), (Builtin.max_ ts ty #[.int .i64 (z : Int), .int .i64 1]).run Tryd.prog w = .ok (.int .i64 ((max z 1 : Nat) : Int)) w := fun ts ty w => by
                  have e : (if (1 : Int) > (z : Int) then (1 : Int) else (z : Int)) = ((max z 1 : Nat) : Int) := by split <;> omega
                  rw [← e]; simp [Builtin.max_, Builtin.max2]
                obtain ⟨MX, hMX⟩ : ∃ MX : Int, ((max z 1 : Nat) : Int) = MX := ⟨_, rfl⟩
                rw [hMX] at LAW2
                simp only [hMX] at hmax
                clear hMX hst
                go_wp2_with fail
                go_at_call 9
                refine HK.out.mono ?_
                rintro e u1 ⟨rfl, hd, hbb⟩
                have KW := Aid.hid (KW.out.trans (hbb.mono KW.out.size))
                have HC := Aid.hid (check_one false A9 LL c9 _ u1 (by rw [LN.out]; exact hd) (HL.out.up hbb) (by rw [LN.out]; omega) (ML.out.below KW.out) (some MX) (LAW2.out _))
                clear hd hbb HK HL
                go_wp2_with fail
                go_at_call 8
                refine HC.out.mono ?_
                rintro e u2 ⟨rfl, hbb⟩
                have KW := Aid.hid (KW.out.trans (hbb.mono KW.out.size))
                clear hbb HC
                go_wp2_with fail
                go_at_call 10
                refine (awake_is _ (ML.out.below KW.out)).mono ?_
                rintro e wz ⟨rfl, hb⟩
                have KW := Aid.hid (KW.out.trans (hb.mono KW.out.size))
                clear hb
                go_wp2_with fail
                go_ret
                exact ⟨rfl, KW.out⟩
              · have LAW2 : Hid (∀ d, Fl.Is (oneImg d (oneCode false A9 LL c9)) 0 none) := Aid.hid (fun d => by have h := LAW.out d; rwa [if_neg hst] at h)
                clear LAW
                have HK := Aid.hid (code_is false A9 (q + 1) c9 w9)
                have HL := Aid.hid (ops_of_own (ops := LL) (c := c9) (by rw [LN.out]; exact O9.out) (by rw [LN.out]; omega))
                have hne : ((tb (joLt (jB x0) k)).toList == (tb (joLt (jB y0) z)).toList) = false := by
                  rw [ByteArray.toList_eq, ByteArray.toList_eq]
                  exact beq_eq_false_iff_ne.2 hst
                clear hst
                go_wp2_with fail
                go_at_call 9
                refine HK.out.mono ?_
                rintro e u1 ⟨rfl, hd, hbb⟩
                have KW := Aid.hid (KW.out.trans (hbb.mono KW.out.size))
                have HC := Aid.hid (check_one false A9 LL c9 _ u1 (by rw [LN.out]; exact hd) (HL.out.up hbb) (by rw [LN.out]; omega) (ML.out.below KW.out) none (LAW2.out _))
                clear hd hbb HK HL
                go_wp2_with fail
                go_at_call 8
                refine HC.out.mono ?_
                rintro e u2 ⟨rfl, hbb⟩
                have KW := Aid.hid (KW.out.trans (hbb.mono KW.out.size))
                clear hbb HC
                go_wp2_with fail
                go_at_call 10
                refine (awake_is _ (ML.out.below KW.out)).mono ?_
                rintro e wz ⟨rfl, hb⟩
                have KW := Aid.hid (KW.out.trans (hb.mono KW.out.size))
                clear hb
                go_wp2_with fail
                go_ret
                exact ⟨rfl, KW.out⟩
end Go.Proofs.YtcgfabnmkbiogaaDoor
