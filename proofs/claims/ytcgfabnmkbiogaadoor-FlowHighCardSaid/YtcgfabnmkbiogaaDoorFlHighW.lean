/- FlowHigh, as a walk. -/
import Derived.Test.YtcgfabnmkbiogaaDoorFlN
import Derived.Test.YtcgfabnmkbiogaaDoorFlowHighL
import Derived.LoopTactic
import Derived.WalkKit
import Derived.WalkSpells
import Derived.WalkLawsBesides
import Derived.LoopTactic
import Derived.Deep.QuietTactic
import Derived.BigQuiet
import Derived.Below
import Derived.Laws.ResultCell
import Derived.Laws.Tables
import Derived.Laws.Rows
import Derived.Deep.Cut
import Derived.KernelRfl
namespace Go.Proofs.YtcgfabnmkbiogaaDoor
open Go.RowKit

def hiB (bits : Int) (j : Nat) : Bool := Go.bits BinOp.and IntKind.i64 (bits / 2 ^ (j % 60)) 1 == 1
theorem own_grown {w w' : World} {B e s n : Nat} {v : Value} {xs : List Value} {r : Option Nat} (h : w.ownsRow B e s v n xs) (hg : w.grownBy w' r) (hr : ∀ g, v.ownBlock = some g → some g ≠ r) : w'.ownsRow B e s v n xs := by
  rcases h with ⟨h1, h2 | ⟨g, cap, cur, p1, p2, p3, p4⟩⟩
  · exact ⟨h1, Or.inl h2⟩
  · exact ⟨h1, Or.inr ⟨g, cap, cur, p1, p2, (hg.block g (Array.getElem?_eq_some_iff.1 p3).1 (hr g (by rw [p1]; rfl))).trans p3, p4⟩⟩
set_option maxRecDepth 100000 in
set_option maxHeartbeats 8000000 in
theorem flowHigh_walk (m0 bits : Int) (w : World) (ml : Fl.Max w) :
    Calls Tryd.prog 4 #[.int .i64 m0, .int .i64 bits] w fun e w' => e = .returned (.bool true) ∧ Below w.heap.size w w' := by
  have ML := Aid.hid ml
  have KW : Hid (Below w.heap.size w w) := Aid.hid (Below.refl _ _)
  obtain ⟨i0, hi, hz0, hz1, hz2⟩ := info_parts info_op
  clear ml
  go_enter Tryd.func4, Tryd.ntmps4
  try simp only [List.append_eq, List.cons_append, List.nil_append]
  go_wp2_with fail
  go_at_call 7
  refine (low_is m0 100 (by decide) (by decide) w).mono ?_
  rintro e w1 ⟨⟨N, rfl, hN⟩, rfl⟩
  go_wp2_with fail
  go_loopw [5, 6] (fun vo vi wr => ∃ (k : Nat) (A : Option Addr) (c : Nat), vi = .int .i64 k ∧ vo = .slice A k c ∧ k ≤ N ∧ Hid (wr.ownsRow w.heap.size 25 3 (.slice A k c) k (flat ((List.range k).map (hiOp (hiB bits))))) ∧ Hid (Below w.heap.size w wr)) (fun _ vi _ => N - (intOf vi).toNat)
  case atStart => exact ⟨0, none, 0, rfl, rfl, Nat.zero_le _, Aid.hid ⟨rfl, Or.inl ⟨rfl, rfl⟩⟩, KW⟩
  case round =>
    clear KW
    obtain ⟨k, A, c, rfl, rfl, hk, O, KW⟩ := hrel
    by_cases hlt : k < N
    ·
      have HN : Hid (flat ((List.range (k + 1)).map (hiOp (hiB bits))) = flat ((List.range k).map (hiOp (hiB bits))) ++ flat [hiOp (hiB bits) k]) := Aid.hid (by rw [List.range_succ, List.map_append, flat_app]; rfl)
      cases hb : hiB bits k
      · have hb2 : (Go.bits BinOp.and IntKind.i64 (bits / 2 ^ (k % 60)) 1 == 1) = false := hb
        have HN2 : Hid (flat ((List.range (k + 1)).map (hiOp (hiB bits))) = flat ((List.range k).map (hiOp (hiB bits))) ++ [.int .i64 1, .int .i64 k, .int .i64 0]) := Aid.hid (by rw [HN.out]; unfold hiOp; rw [hb]; rfl)
        clear hb HN
        have hr := reads_new (w := wr) (xs := [.int .i64 1, .int .i64 (k : Int), .int .i64 0]) (T := 25) (sz := 3) (n := 1) rfl
        have HR := Aid.hid hr
        have hbs : w.heap.size ≤ (wr.alloc (.cells [.int .i64 1, .int .i64 (k : Int), .int .i64 0].toArray 25)).heap.size := Nat.le_trans KW.out.size (by simp)
        have KA := Aid.hid (KW.out.alloc KW.out.size (.cells [.int .i64 1, .int .i64 (k : Int), .int .i64 0].toArray 25))
        clear hr
        go_wp2_with (at_builtin; refine wpList_append_any _ rfl _ _ 23 rfl w.heap.size 25 i0 (.agg #[.int .i64 0, .int .i64 0, .int .i64 0]) 3 24 Tryd.underlying23 hi hz0 hz1 hz2 rfl (by decide) _ k _ rfl (O.out.alloc _) _ (some ⟨wr.heap.size, 0, none⟩) 1 1 [.int .i64 1, .int .i64 (k : Int), .int .i64 0] rfl HR.out ?d1 ?d2 ?d3 hbs ?_)
        case d1 => exact flat_one [⟨1, k, 0⟩]
        case d2 => unfold maxLen; omega
        case d3 => omega
        intro v9 w9 ho9 hg9 _
        obtain ⟨A9, c9, rfl⟩ := own_slice ho9
        have KW9 := Aid.hid (KA.out.grown hg9 hbs (fun p hp => (O.out.lt p hp).1))
        have O9 : Hid (w9.ownsRow w.heap.size 25 3 (.slice A9 (k + 1) c9) (k + 1) (flat ((List.range (k + 1)).map (hiOp (hiB bits))))) := Aid.hid (by rw [HN2.out]; exact ho9)
        clear ho9 hg9 HR KA hbs
        go_wp2_with fail
        go_roundw
        case rel => exact ⟨k + 1, A9, c9, by go_num, rfl, by omega, O9, KW9⟩
        case measure => simp [intOf]; omega
      · have hb2 : (Go.bits BinOp.and IntKind.i64 (bits / 2 ^ (k % 60)) 1 == 1) = true := hb
        have HN2 : Hid (flat ((List.range (k + 1)).map (hiOp (hiB bits))) = flat ((List.range k).map (hiOp (hiB bits))) ++ [.int .i64 2, .int .i64 0, .int .i64 0]) := Aid.hid (by rw [HN.out]; unfold hiOp; rw [hb]; rfl)
        clear hb HN
        have hr := reads_new (w := wr) (xs := [.int .i64 2, .int .i64 0, .int .i64 0]) (T := 25) (sz := 3) (n := 1) rfl
        have HR := Aid.hid hr
        have hbs : w.heap.size ≤ (wr.alloc (.cells [.int .i64 2, .int .i64 0, .int .i64 0].toArray 25)).heap.size := Nat.le_trans KW.out.size (by simp)
        have KA := Aid.hid (KW.out.alloc KW.out.size (.cells [.int .i64 2, .int .i64 0, .int .i64 0].toArray 25))
        clear hr
        go_wp2_with (at_builtin; refine wpList_append_any _ rfl _ _ 23 rfl w.heap.size 25 i0 (.agg #[.int .i64 0, .int .i64 0, .int .i64 0]) 3 24 Tryd.underlying23 hi hz0 hz1 hz2 rfl (by decide) _ k _ rfl (O.out.alloc _) _ (some ⟨wr.heap.size, 0, none⟩) 1 1 [.int .i64 2, .int .i64 0, .int .i64 0] rfl HR.out ?d1 ?d2 ?d3 hbs ?_)
        case d1 => exact flat_one [⟨2, 0, 0⟩]
        case d2 => unfold maxLen; omega
        case d3 => omega
        intro v9 w9 ho9 hg9 _
        obtain ⟨A9, c9, rfl⟩ := own_slice ho9
        have KW9 := Aid.hid (KA.out.grown hg9 hbs (fun p hp => (O.out.lt p hp).1))
        have O9 : Hid (w9.ownsRow w.heap.size 25 3 (.slice A9 (k + 1) c9) (k + 1) (flat ((List.range (k + 1)).map (hiOp (hiB bits))))) := Aid.hid (by rw [HN2.out]; exact ho9)
        clear ho9 hg9 HR KA hbs
        go_wp2_with fail
        go_roundw
        case rel => exact ⟨k + 1, A9, c9, by go_num, rfl, by omega, O9, KW9⟩
        case measure => simp [intOf]; omega
    · obtain rfl : k = N := by omega
      obtain ⟨L, hL⟩ : ∃ L, (List.range k).map (hiOp (hiB bits)) = L := ⟨_, rfl⟩
      rw [hL] at O
      have HLL := Aid.hid hL
      clear hlt hL hk
      go_wp2_with fail
      go_loopw [5, 7] (fun vo vi wr => ∃ (j : Nat) (A : Option Addr) (c : Nat), vi = .int .i64 j ∧ vo = .slice A (k + j) c ∧ j ≤ k ∧ Hid (wr.ownsRow w.heap.size 25 3 (.slice A (k + j) c) (k + j) (flat (L ++ List.replicate j (⟨34, 0, 0⟩ : Opr)))) ∧ Hid (Below w.heap.size w wr)) (fun _ vi _ => k - (intOf vi).toNat)
      case atStart => exact ⟨0, A, c, rfl, rfl, Nat.zero_le _, Aid.hid (by simpa using O.out), KW⟩
      case round =>
        clear KW O
        obtain ⟨j, A, c, rfl, rfl, hj, O, KW⟩ := hrel
        by_cases hlt : j < k
        ·
          have hr := reads_new (w := wr) (xs := [.int .i64 34, .int .i64 0, .int .i64 0]) (T := 25) (sz := 3) (n := 1) rfl
          have HR := Aid.hid hr
          have hbs : w.heap.size ≤ (wr.alloc (.cells [.int .i64 34, .int .i64 0, .int .i64 0].toArray 25)).heap.size := Nat.le_trans KW.out.size (by simp)
          have KA := Aid.hid (KW.out.alloc KW.out.size (.cells [.int .i64 34, .int .i64 0, .int .i64 0].toArray 25))
          clear hr
          go_wp2_with (at_builtin; refine wpList_append_any _ rfl _ _ 23 rfl w.heap.size 25 i0 (.agg #[.int .i64 0, .int .i64 0, .int .i64 0]) 3 24 Tryd.underlying23 hi hz0 hz1 hz2 rfl (by decide) _ (k + j) _ rfl (O.out.alloc _) _ (some ⟨wr.heap.size, 0, none⟩) 1 1 [.int .i64 34, .int .i64 0, .int .i64 0] rfl HR.out ?d1 ?d2 ?d3 hbs ?_)
          case d1 => exact flat_one [⟨34, 0, 0⟩]
          case d2 => unfold maxLen; omega
          case d3 => omega
          intro v9 w9 ho9 hg9 _
          obtain ⟨A9, c9, rfl⟩ := own_slice ho9
          have KW9 := Aid.hid (KA.out.grown hg9 hbs (fun p hp => (O.out.lt p hp).1))
          have O9 : Hid (w9.ownsRow w.heap.size 25 3 (.slice A9 ((k + j) + 1) c9) ((k + j) + 1) (flat (L ++ List.replicate (j + 1) (⟨34, 0, 0⟩ : Opr)))) := Aid.hid (by rw [List.replicate_succ', ← List.append_assoc, flat_app]; exact ho9)
          clear ho9 hg9 HR KA hbs
          go_wp2_with fail
          go_roundw
          case rel => exact ⟨j + 1, A9, c9, by go_num, rfl, by omega, O9, KW9⟩
          case measure => simp [intOf]; omega
        · obtain rfl : j = k := by omega
          obtain ⟨M, hM⟩ : ∃ M, j + j = M := ⟨_, rfl⟩
          obtain ⟨LL, hLL⟩ : ∃ LL, L ++ List.replicate j (⟨34, 0, 0⟩ : Opr) = LL := ⟨_, rfl⟩
          have HOP : Hid (LL = hiOps (hiB bits) j) := Aid.hid (by rw [← hLL, ← HLL.out]; rfl)
          have hlen : LL.length = M := by rw [HOP.out, ← hM]; simp [hiOps]
          have hM2 : M ≤ 200 := by omega
          rw [hM, hLL] at O
          have HLN := Aid.hid hlen
          have HJ : Hid (j ≤ 100) := Aid.hid (by omega)
          clear hlt hLL hlen HLL hj
          have hr := Reads.of_own O.out
          have HR := Aid.hid hr
          have hbs := KW.out.size
          clear hr
          go_wp2_with (at_builtin; rw [hM]; refine wpList_append_any _ rfl _ _ 23 rfl w.heap.size 25 i0 (.agg #[.int .i64 0, .int .i64 0, .int .i64 0]) 3 24 Tryd.underlying23 hi hz0 hz1 hz2 rfl (by decide) (.slice none 0 0) 0 [] rfl ⟨rfl, Or.inl ⟨rfl, rfl⟩⟩ wr.heap.size A M c (flat LL) rfl HR.out ?d1 ?d2 ?d3 hbs ?_)
          case d1 => exact flat_one _
          case d2 => unfold maxLen; omega
          case d3 => omega
          intro v7 w7a ho7 hg7 hv7
          obtain ⟨A7, c7, rfl⟩ := own_slice ho7
          try rw [Nat.zero_add] at ho7
          try rw [List.nil_append] at ho7
          try rw [Nat.zero_add] at hv7
          have K7 : Below wr.heap.size wr w7a := (Below.refl _ _).grown hg7 (Nat.le_refl _) (fun q hq => by cases hq)
          have SEP : Hid (∀ g, (Value.slice A M c).ownBlock = some g → (Value.slice A7 M c7).ownBlock ≠ some g) := Aid.hid (fun g h1 h2 => by
            have l1 := (O.out.lt g h1).2
            rcases hv7 with e | e
            · rw [h2] at e; cases e
            · rw [h2] at e
              have : g = wr.heap.size := by simpa using e
              omega)
          have O7 := Aid.hid (own_keeps O.out K7)
          have KW := Aid.hid (KW.out.trans (K7.mono KW.out.size))
          have P7 := Aid.hid ho7
          clear O ho7 hg7 hv7 K7 HR hbs
          have hr := reads_new (w := w7a) (xs := [.int .i64 29, .int .i64 0, .int .i64 0]) (T := 25) (sz := 3) (n := 1) rfl
          have HR := Aid.hid hr
          have hbs : w.heap.size ≤ (w7a.alloc (.cells [.int .i64 29, .int .i64 0, .int .i64 0].toArray 25)).heap.size := Nat.le_trans KW.out.size (by simp)
          have KA := Aid.hid (KW.out.alloc KW.out.size (.cells [.int .i64 29, .int .i64 0, .int .i64 0].toArray 25))
          clear hr
          go_wp2_with (at_builtin; refine wpList_append_any _ rfl _ _ 23 rfl w.heap.size 25 i0 (.agg #[.int .i64 0, .int .i64 0, .int .i64 0]) 3 24 Tryd.underlying23 hi hz0 hz1 hz2 rfl (by decide) _ M _ rfl (P7.out.alloc _) _ (some ⟨w7a.heap.size, 0, none⟩) 1 1 [.int .i64 29, .int .i64 0, .int .i64 0] rfl HR.out ?d1 ?d2 ?d3 hbs ?_)
          case d1 => exact flat_one [⟨29, 0, 0⟩]
          case d2 => unfold maxLen; omega
          case d3 => omega
          intro v8 w8a ho8 hg8 _
          obtain ⟨A8, c8, rfl⟩ := own_slice ho8
          have KW := Aid.hid (KA.out.grown hg8 hbs (fun p hp => (P7.out.lt p hp).1))
          have O := Aid.hid (own_grown (O7.out.alloc _) hg8 (fun g hg h => SEP.out g hg h.symm))
          have P8 : Hid (w8a.ownsRow w.heap.size 25 3 (.slice A8 (M + 1) c8) (M + 1) (flat (LL ++ [⟨29, 0, 0⟩]))) := Aid.hid (by rw [flat_app]; exact ho8)
          have LN : Hid ((LL ++ ([⟨29, 0, 0⟩] : List Opr)).length = M + 1) := Aid.hid (by rw [List.length_append, HLN.out]; rfl)
          clear ho8 hg8 HR KA hbs O7 P7 SEP
          have HK := Aid.hid (code_is false A8 (M + 1) c8 w8a)
          have HL := Aid.hid (ops_of_own (ops := LL ++ [⟨29, 0, 0⟩]) (c := c8) (by rw [LN.out]; exact P8.out) (by rw [LN.out]; omega))
          go_wp2_with fail
          go_at_call 9
          refine HK.out.mono ?_
          rintro e ua ⟨rfl, hd, hb⟩
          have KW := Aid.hid (KW.out.trans (hb.mono KW.out.size))
          have HC := Aid.hid (check_one false A8 (LL ++ [⟨29, 0, 0⟩]) c8 _ ua (by rw [LN.out]; exact hd) (HL.out.up hb) (by rw [LN.out]; omega) (ML.out.below KW.out) (some (j : Int)) (high_good (hiB bits) j HJ.out rfl rfl (by rw [HOP.out]; rfl)))
          replace O := Aid.hid (own_keeps O.out hb)
          clear hd hb HK HL P8 LN
          go_wp2_with fail
          go_at_call 8
          refine HC.out.mono ?_
          rintro e xa ⟨rfl, hb⟩
          have KW := Aid.hid (KW.out.trans (hb.mono KW.out.size))
          replace O := Aid.hid (own_keeps O.out hb)
          clear hb HC
          have hr := Reads.of_own O.out
          have HR := Aid.hid hr
          have hbs := KW.out.size
          clear hr
          go_wp2_with (at_builtin; refine wpList_append_any _ rfl _ _ 23 rfl w.heap.size 25 i0 (.agg #[.int .i64 0, .int .i64 0, .int .i64 0]) 3 24 Tryd.underlying23 hi hz0 hz1 hz2 rfl (by decide) (.slice none 0 0) 0 [] rfl ⟨rfl, Or.inl ⟨rfl, rfl⟩⟩ xa.heap.size A M c (flat LL) rfl HR.out ?d1 ?d2 ?d3 hbs ?_)
          case d1 => exact flat_one _
          case d2 => unfold maxLen; omega
          case d3 => omega
          intro v7 w7b ho7 hg7 hv7
          obtain ⟨A7, c7, rfl⟩ := own_slice ho7
          try rw [Nat.zero_add] at ho7
          try rw [List.nil_append] at ho7
          try rw [Nat.zero_add] at hv7
          have K7 : Below xa.heap.size xa w7b := (Below.refl _ _).grown hg7 (Nat.le_refl _) (fun q hq => by cases hq)
          have SEP : Hid (∀ g, (Value.slice A M c).ownBlock = some g → (Value.slice A7 M c7).ownBlock ≠ some g) := Aid.hid (fun g h1 h2 => by
            have l1 := (O.out.lt g h1).2
            rcases hv7 with e | e
            · rw [h2] at e; cases e
            · rw [h2] at e
              have : g = xa.heap.size := by simpa using e
              omega)
          have O7 := Aid.hid (own_keeps O.out K7)
          have KW := Aid.hid (KW.out.trans (K7.mono KW.out.size))
          have P7 := Aid.hid ho7
          clear O ho7 hg7 hv7 K7 HR hbs
          have hr := reads_new (w := w7b) (xs := [.int .i64 1, .int .i64 0, .int .i64 0, .int .i64 29, .int .i64 0, .int .i64 0]) (T := 25) (sz := 3) (n := 2) rfl
          have HR := Aid.hid hr
          have hbs : w.heap.size ≤ (w7b.alloc (.cells [.int .i64 1, .int .i64 0, .int .i64 0, .int .i64 29, .int .i64 0, .int .i64 0].toArray 25)).heap.size := Nat.le_trans KW.out.size (by simp)
          have KA := Aid.hid (KW.out.alloc KW.out.size (.cells [.int .i64 1, .int .i64 0, .int .i64 0, .int .i64 29, .int .i64 0, .int .i64 0].toArray 25))
          clear hr
          go_wp2_with (at_builtin; refine wpList_append_any _ rfl _ _ 23 rfl w.heap.size 25 i0 (.agg #[.int .i64 0, .int .i64 0, .int .i64 0]) 3 24 Tryd.underlying23 hi hz0 hz1 hz2 rfl (by decide) _ M _ rfl (P7.out.alloc _) _ (some ⟨w7b.heap.size, 0, none⟩) 2 2 [.int .i64 1, .int .i64 0, .int .i64 0, .int .i64 29, .int .i64 0, .int .i64 0] rfl HR.out ?d1 ?d2 ?d3 hbs ?_)
          case d1 => exact flat_one [⟨1, 0, 0⟩, ⟨29, 0, 0⟩]
          case d2 => unfold maxLen; omega
          case d3 => omega
          intro v8 w8b ho8 hg8 _
          obtain ⟨A8, c8, rfl⟩ := own_slice ho8
          have KW := Aid.hid (KA.out.grown hg8 hbs (fun p hp => (P7.out.lt p hp).1))
          have O := Aid.hid (own_grown (O7.out.alloc _) hg8 (fun g hg h => SEP.out g hg h.symm))
          have P8 : Hid (w8b.ownsRow w.heap.size 25 3 (.slice A8 (M + 2) c8) (M + 2) (flat (LL ++ [⟨1, 0, 0⟩, ⟨29, 0, 0⟩]))) := Aid.hid (by rw [flat_app]; exact ho8)
          have LN : Hid ((LL ++ ([⟨1, 0, 0⟩, ⟨29, 0, 0⟩] : List Opr)).length = M + 2) := Aid.hid (by rw [List.length_append, HLN.out]; rfl)
          clear ho8 hg8 HR KA hbs O7 P7 SEP
          have HK := Aid.hid (code_is false A8 (M + 2) c8 w8b)
          have HL := Aid.hid (ops_of_own (ops := LL ++ [⟨1, 0, 0⟩, ⟨29, 0, 0⟩]) (c := c8) (by rw [LN.out]; exact P8.out) (by rw [LN.out]; omega))
          go_wp2_with fail
          go_at_call 9
          refine HK.out.mono ?_
          rintro e ub ⟨rfl, hd, hb⟩
          have KW := Aid.hid (KW.out.trans (hb.mono KW.out.size))
          have HC := Aid.hid (check_one false A8 (LL ++ [⟨1, 0, 0⟩, ⟨29, 0, 0⟩]) c8 _ ub (by rw [LN.out]; exact hd) (HL.out.up hb) (by rw [LN.out]; omega) (ML.out.below KW.out) none (high_more (hiB bits) j HJ.out rfl rfl (by rw [HOP.out]; rfl)))
          replace O := Aid.hid (own_keeps O.out hb)
          clear hd hb HK HL P8 LN
          go_wp2_with fail
          go_at_call 8
          refine HC.out.mono ?_
          rintro e xb ⟨rfl, hb⟩
          have KW := Aid.hid (KW.out.trans (hb.mono KW.out.size))
          replace O := Aid.hid (own_keeps O.out hb)
          clear hb HC
          have hr := Reads.of_own O.out
          have HR := Aid.hid hr
          have hbs := KW.out.size
          clear hr
          go_wp2_with (at_builtin; refine wpList_append_any _ rfl _ _ 23 rfl w.heap.size 25 i0 (.agg #[.int .i64 0, .int .i64 0, .int .i64 0]) 3 24 Tryd.underlying23 hi hz0 hz1 hz2 rfl (by decide) (.slice none 0 0) 0 [] rfl ⟨rfl, Or.inl ⟨rfl, rfl⟩⟩ xb.heap.size A M c (flat LL) rfl HR.out ?d1 ?d2 ?d3 hbs ?_)
          case d1 => exact flat_one _
          case d2 => unfold maxLen; omega
          case d3 => omega
          intro v7 w7c ho7 hg7 hv7
          obtain ⟨A7, c7, rfl⟩ := own_slice ho7
          try rw [Nat.zero_add] at ho7
          try rw [List.nil_append] at ho7
          try rw [Nat.zero_add] at hv7
          have K7 : Below xb.heap.size xb w7c := (Below.refl _ _).grown hg7 (Nat.le_refl _) (fun q hq => by cases hq)
          have SEP : Hid (∀ g, (Value.slice A M c).ownBlock = some g → (Value.slice A7 M c7).ownBlock ≠ some g) := Aid.hid (fun g h1 h2 => by
            have l1 := (O.out.lt g h1).2
            rcases hv7 with e | e
            · rw [h2] at e; cases e
            · rw [h2] at e
              have : g = xb.heap.size := by simpa using e
              omega)
          have O7 := Aid.hid (own_keeps O.out K7)
          have KW := Aid.hid (KW.out.trans (K7.mono KW.out.size))
          have P7 := Aid.hid ho7
          clear O ho7 hg7 hv7 K7 HR hbs
          have hr := reads_new (w := w7c) (xs := [.int .i64 34, .int .i64 0, .int .i64 0, .int .i64 29, .int .i64 0, .int .i64 0]) (T := 25) (sz := 3) (n := 2) rfl
          have HR := Aid.hid hr
          have hbs : w.heap.size ≤ (w7c.alloc (.cells [.int .i64 34, .int .i64 0, .int .i64 0, .int .i64 29, .int .i64 0, .int .i64 0].toArray 25)).heap.size := Nat.le_trans KW.out.size (by simp)
          have KA := Aid.hid (KW.out.alloc KW.out.size (.cells [.int .i64 34, .int .i64 0, .int .i64 0, .int .i64 29, .int .i64 0, .int .i64 0].toArray 25))
          clear hr
          go_wp2_with (at_builtin; refine wpList_append_any _ rfl _ _ 23 rfl w.heap.size 25 i0 (.agg #[.int .i64 0, .int .i64 0, .int .i64 0]) 3 24 Tryd.underlying23 hi hz0 hz1 hz2 rfl (by decide) _ M _ rfl (P7.out.alloc _) _ (some ⟨w7c.heap.size, 0, none⟩) 2 2 [.int .i64 34, .int .i64 0, .int .i64 0, .int .i64 29, .int .i64 0, .int .i64 0] rfl HR.out ?d1 ?d2 ?d3 hbs ?_)
          case d1 => exact flat_one [⟨34, 0, 0⟩, ⟨29, 0, 0⟩]
          case d2 => unfold maxLen; omega
          case d3 => omega
          intro v8 w8c ho8 hg8 _
          obtain ⟨A8, c8, rfl⟩ := own_slice ho8
          have KW := Aid.hid (KA.out.grown hg8 hbs (fun p hp => (P7.out.lt p hp).1))
          have O := Aid.hid (own_grown (O7.out.alloc _) hg8 (fun g hg h => SEP.out g hg h.symm))
          have P8 : Hid (w8c.ownsRow w.heap.size 25 3 (.slice A8 (M + 2) c8) (M + 2) (flat (LL ++ [⟨34, 0, 0⟩, ⟨29, 0, 0⟩]))) := Aid.hid (by rw [flat_app]; exact ho8)
          have LN : Hid ((LL ++ ([⟨34, 0, 0⟩, ⟨29, 0, 0⟩] : List Opr)).length = M + 2) := Aid.hid (by rw [List.length_append, HLN.out]; rfl)
          clear ho8 hg8 HR KA hbs O7 P7 SEP
          have HK := Aid.hid (code_is false A8 (M + 2) c8 w8c)
          have HL := Aid.hid (ops_of_own (ops := LL ++ [⟨34, 0, 0⟩, ⟨29, 0, 0⟩]) (c := c8) (by rw [LN.out]; exact P8.out) (by rw [LN.out]; omega))
          go_wp2_with fail
          go_at_call 9
          refine HK.out.mono ?_
          rintro e uc ⟨rfl, hd, hb⟩
          have KW := Aid.hid (KW.out.trans (hb.mono KW.out.size))
          have HC := Aid.hid (check_one false A8 (LL ++ [⟨34, 0, 0⟩, ⟨29, 0, 0⟩]) c8 _ uc (by rw [LN.out]; exact hd) (HL.out.up hb) (by rw [LN.out]; omega) (ML.out.below KW.out) none (high_less (hiB bits) j HJ.out rfl (by rw [HOP.out]; rfl)))
          replace O := Aid.hid (own_keeps O.out hb)
          clear hd hb HK HL P8 LN
          go_wp2_with fail
          go_at_call 8
          refine HC.out.mono ?_
          rintro e xc ⟨rfl, hb⟩
          have KW := Aid.hid (KW.out.trans (hb.mono KW.out.size))
          replace O := Aid.hid (own_keeps O.out hb)
          clear hb HC
          go_wp2_with fail
          go_at_call 10
          refine (awake_is _ (ML.out.below KW.out)).mono ?_
          rintro e wz ⟨rfl, hb⟩
          have KW := Aid.hid (KW.out.trans (hb.mono KW.out.size))
          clear hb
          go_wp2_with fail
          go_ret
          exact ⟨rfl, KW.out⟩
end Go.Proofs.YtcgfabnmkbiogaaDoor
