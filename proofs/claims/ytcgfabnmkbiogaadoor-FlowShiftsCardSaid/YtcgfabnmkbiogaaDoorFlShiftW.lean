/- FlowShifts, as a walk. -/
import Derived.Test.YtcgfabnmkbiogaaDoorFlShA
import Derived.LoopTactic
import Derived.WalkKit
import Derived.WalkSpells
import Derived.WalkLawsBesides
import Derived.LoopTactic
import Derived.Deep.QuietTactic
import Derived.BigQuiet
import Derived.Below
import Derived.Laws.ResultCell
import Derived.Laws.Tables
import Derived.Laws.Rows
import Derived.Deep.Cut
import Derived.KernelRfl
namespace Go.Proofs.YtcgfabnmkbiogaaDoor
open Go.RowKit

set_option maxRecDepth 100000 in
set_option maxHeartbeats 8000000 in
theorem flowShifts_walk (x : Img) (c0 m0 : Int) (w : World) (ml : Fl.Max w) (hx : Img.At w w.heap.size x) :
    Calls Tryd.prog 6 #[.agg #[.slice x.fA x.faces.length x.fc, .slice x.cA x.classes.length x.cc, .slice x.dA x.codes.length x.dc, .slice x.nA x.insts.length x.nc, .string x.globals, .slice x.iA x.init.length x.ic, .slice x.bA x.blocks.length x.bc, .slice x.xA x.ins.length x.xc, .slice x.oA x.outs.length x.oc, .slice x.jA x.jobs.length x.jc, .int .i64 x.d, .int .i64 x.w], .int .i64 c0, .int .i64 m0] w fun e w' => e = .returned (.bool true) ∧ Below w.heap.size w w' := by
  obtain ⟨i0, hi, hz0, hz1, hz2⟩ := info_parts info_op
  obtain ⟨W, hW⟩ : ∃ W, (w.alloc (.cells #[.slice x.fA x.faces.length x.fc, .slice x.cA x.classes.length x.cc, .slice x.dA x.codes.length x.dc, .slice x.nA x.insts.length x.nc, .string x.globals, .slice x.iA x.init.length x.ic, .slice x.bA x.blocks.length x.bc, .slice x.xA x.ins.length x.xc, .slice x.oA x.outs.length x.oc, .slice x.jA x.jobs.length x.jc, .int .i64 x.d, .int .i64 x.w] 35)) = W := ⟨_, rfl⟩
  have hbx : Aid.Has W w.heap.size [.slice x.fA x.faces.length x.fc, .slice x.cA x.classes.length x.cc, .slice x.dA x.codes.length x.dc, .slice x.nA x.insts.length x.nc, .string x.globals, .slice x.iA x.init.length x.ic, .slice x.bA x.blocks.length x.bc, .slice x.xA x.ins.length x.xc, .slice x.oA x.outs.length x.oc, .slice x.jA x.jobs.length x.jc, .int .i64 x.d, .int .i64 x.w] 35 := by subst hW; exact Aid.Has.new w [.slice x.fA x.faces.length x.fc, .slice x.cA x.classes.length x.cc, .slice x.dA x.codes.length x.dc, .slice x.nA x.insts.length x.nc, .string x.globals, .slice x.iA x.init.length x.ic, .slice x.bA x.blocks.length x.bc, .slice x.xA x.ins.length x.xc, .slice x.oA x.outs.length x.oc, .slice x.jA x.jobs.length x.jc, .int .i64 x.d, .int .i64 x.w] 35
  have b0 : Below w.heap.size w W := by subst hW; exact (Below.refl _ w).alloc (Nat.le_refl _) _
  have RX : Hid (∀ wr, Below W.heap.size W wr → Aid.Has wr w.heap.size [.slice x.fA x.faces.length x.fc, .slice x.cA x.classes.length x.cc, .slice x.dA x.codes.length x.dc, .slice x.nA x.insts.length x.nc, .string x.globals, .slice x.iA x.init.length x.ic, .slice x.bA x.blocks.length x.bc, .slice x.xA x.ins.length x.xc, .slice x.oA x.outs.length x.oc, .slice x.jA x.jobs.length x.jc, .int .i64 x.d, .int .i64 x.w] 35 ∧ Img.At wr w.heap.size x) := Aid.hid fun wr h => ⟨hbx.below h hbx.lt, (hx.below b0 (Nat.le_refl _)).below h b0.size⟩
  have SZ : Hid (w.heap.size ≤ W.heap.size) := Aid.hid b0.size
  have KW : Hid (Below W.heap.size W W) := Aid.hid (Below.refl _ _)
  have FB : Hid (∀ wr, Below W.heap.size W wr → Below w.heap.size w wr) := Aid.hid fun wr h => b0.trans (h.mono b0.size)
  have ML : Hid (∀ wr, Below W.heap.size W wr → Fl.Max wr) := Aid.hid fun wr h => (ml.below b0).below h
  have HWW := hW
  clear hbx b0 hx ml
  clear HWW
  subst hW
  have fx := (RX.out _ KW.out).1
  have a0 := fx.cell 0 _ rfl
  have a1 := fx.cell 1 _ rfl
  have a2 := fx.cell 2 _ rfl
  have a3 := fx.cell 3 _ rfl
  have a4 := fx.cell 4 _ rfl
  have a5 := fx.cell 5 _ rfl
  have a6 := fx.cell 6 _ rfl
  have a7 := fx.cell 7 _ rfl
  have a8 := fx.cell 8 _ rfl
  have a9 := fx.cell 9 _ rfl
  have a10 := fx.cell 10 _ rfl
  have a11 := fx.cell 11 _ rfl
  clear fx
  have HC := Aid.hid (great_is w.heap.size x (w.alloc (.cells #[.slice x.fA x.faces.length x.fc, .slice x.cA x.classes.length x.cc, .slice x.dA x.codes.length x.dc, .slice x.nA x.insts.length x.nc, .string x.globals, .slice x.iA x.init.length x.ic, .slice x.bA x.blocks.length x.bc, .slice x.xA x.ins.length x.xc, .slice x.oA x.outs.length x.oc, .slice x.jA x.jobs.length x.jc, .int .i64 x.d, .int .i64 x.w] 35)) (RX.out _ KW.out).2 SZ.out)
  go_enter Tryd.func6, Tryd.ntmps6
  try simp only [List.append_eq, List.cons_append, List.nil_append]
  go_wp2_with fail
  go_at_call 12
  refine HC.out.mono ?_
  rintro e w1 ⟨⟨bb, rfl, hs⟩, hb1⟩
  have KW := Aid.hid (KW.out.trans (hb1.mono KW.out.size))
  have SX := Aid.hid hs
  clear hb1 hs HC
  clear a0 a1 a2 a3 a4 a5 a6 a7 a8 a9 a10 a11
  cases bb
  case true =>
    go_wp2_with fail
    go_at_call 10
    refine (awake_is _ (ML.out _ KW.out)).mono ?_
    rintro e wq ⟨rfl, hbq⟩
    have KQ := Aid.hid (KW.out.trans (hbq.mono KW.out.size))
    clear hbq
    go_wp2_with fail
    go_ret
    exact ⟨rfl, FB.out _ KQ.out⟩
  case false =>
    have SM := Aid.hid (SX.out rfl)
    clear SX
    have a2 := (RX.out _ KW.out).1.cell 2 _ rfl
    by_cases hc0 : x.codes.length = 0
    · rw [hc0] at a2
      go_wp2_with fail
      go_at_call 10
      refine (awake_is _ (ML.out _ KW.out)).mono ?_
      rintro e wq ⟨rfl, hbq⟩
      have KQ := Aid.hid (KW.out.trans (hbq.mono KW.out.size))
      clear hbq
      go_wp2_with fail
      go_ret
      exact ⟨rfl, FB.out _ KQ.out⟩
    · have hcl := SM.out.codes.1
      have hne : ((x.codes.length : Int) == 0) = false := beq_eq_false_iff_ne.2 (by omega)
      go_wp2_with fail
      go_at_call 7
      refine (low_is c0 x.codes.length (by omega) (by omega) w1).mono ?_
      rintro e w2 ⟨⟨q, rfl, hq⟩, rfl⟩
      go_wp2_with fail
      go_at_call 7
      refine (low_is m0 20 (by decide) (by decide) w1).mono ?_
      rintro e w2 ⟨⟨m, rfl, hm⟩, rfl⟩
      clear a2 hne hc0
      obtain ⟨f, hf⟩ : ∃ f, x.codes[q]? = some f := ⟨_, List.getElem?_eq_getElem hq⟩
      have hfl := (SM.out.codes.2 f (List.mem_of_getElem? hf)).2.2
      have HF := Aid.hid hf
      have hn := Aid.Has.new w1 [.int .i64 21, .int .i64 ((m : Int) + 1), .int .i64 0] 25
      obtain ⟨X, hX⟩ : ∃ X, w1.alloc (.cells #[.int .i64 21, .int .i64 ((m : Int) + 1), .int .i64 0] 25) = X := ⟨_, rfl⟩
      have hn2 : Aid.Has X w1.heap.size [.int .i64 21, .int .i64 ((m : Int) + 1), .int .i64 0] 25 := by rw [← hX]; exact hn
      have OX : Hid (X.ownsRow w1.heap.size 25 3 (.slice (some ⟨w1.heap.size, 0, none⟩) 1 1) 1 (flat (shHead m 0))) := Aid.hid (own_of_has (base := w1.heap.size) (n := 1) (sz := 3) hn2 (Nat.le_refl _) rfl (by omega))
      have KX : Hid (Below w1.heap.size w1 X) := Aid.hid (by rw [← hX]; exact (Below.refl _ _).alloc (Nat.le_refl _) _)
      have HX := Aid.hid hX
      clear hn hn2 hX hf
      go_wp2_with fail
      rw [HX.out]
      clear HX
      go_loopw [7, 8] (fun vo vi wr => ∃ (k n : Nat) (A : Option Addr) (c : Nat), vi = .int .i64 k ∧ vo = .slice A n c ∧ k ≤ m ∧ Hid (n = 1 + k) ∧ Hid (wr.ownsRow w1.heap.size 25 3 (.slice A n c) n (flat (shHead m k))) ∧ Hid (Below w1.heap.size w1 wr)) (fun _ vi _ => m - (intOf vi).toNat)
      case atStart => exact ⟨0, 1, _, 1, rfl, rfl, Nat.zero_le _, Aid.hid rfl, OX, KX⟩
      case round =>
        clear OX KX
        obtain ⟨k, n, A, c, rfl, rfl, hk, NN, O, KL⟩ := hrel
        have hn2 : n ≤ 21 := by have := NN.out; omega
        by_cases hlt : k < m
        ·
          have hr := reads_new (w := wr) (xs := [.int .i64 (-1), .int .i64 (k : Int), .int .i64 0]) (T := 25) (sz := 3) (n := 1) rfl
          have HR : Hid (Reads (wr.alloc (.cells [.int .i64 (-1), .int .i64 (k : Int), .int .i64 0].toArray 25)) (wr.alloc (.cells [.int .i64 (-1), .int .i64 (k : Int), .int .i64 0].toArray 25)).heap.size 3 (some ⟨wr.heap.size, 0, none⟩) 1 [.int .i64 (-1), .int .i64 (k : Int), .int .i64 0]) := Aid.hid (by first | exact hr | (rw [World.size_alloc] at hr ⊢; exact hr) | (simpa [World.size_alloc] using hr))
          have hbs : w1.heap.size ≤ (wr.alloc (.cells [.int .i64 (-1), .int .i64 (k : Int), .int .i64 0].toArray 25)).heap.size := Nat.le_trans KL.out.size (by simp)
          have KA := Aid.hid (KL.out.alloc KL.out.size (.cells [.int .i64 (-1), .int .i64 (k : Int), .int .i64 0].toArray 25))
          clear hr
          go_wp2_with (at_builtin; refine wpList_append_any _ rfl _ _ 23 rfl w1.heap.size 25 i0 (.agg #[.int .i64 0, .int .i64 0, .int .i64 0]) 3 24 Tryd.underlying23 hi hz0 hz1 hz2 rfl (by decide) _ n _ rfl ((O.out).alloc _) _ (some ⟨wr.heap.size, 0, none⟩) 1 1 [.int .i64 (-1), .int .i64 (k : Int), .int .i64 0] rfl HR.out ?d1 ?d2 ?d3 hbs ?_)
          case d1 => first | exact flat_one [⟨-1, (k : Int), 0⟩] | exact ⟨rfl, rfl, rfl⟩ | simp [Value.oneCell']
          case d2 => unfold maxLen; omega
          case d3 => omega
          intro v9 w9 ho9 hg9 _
          obtain ⟨A9, c9, rfl⟩ := own_slice ho9
          have KL9 := Aid.hid (KA.out.grown hg9 hbs (fun p hp => ((O.out).lt p hp).1))
          have O9 : Hid (w9.ownsRow w1.heap.size 25 3 (.slice A9 (n + 1) c9) (n + 1) (flat (shHead m (k + 1)))) := Aid.hid (by rw [shHead_succ, flat_app]; exact ho9)
          clear ho9 hg9 HR KA hbs
          go_wp2_with fail
          go_roundw
          case rel => exact ⟨k + 1, n + 1, A9, c9, by go_num, rfl, by omega, Aid.hid (by have := NN.out; omega), O9, KL9⟩
          case measure => simp [intOf]; omega
        · obtain rfl : k = m := by omega
          clear hlt hk
          have KT := Aid.hid (KW.out.trans (KL.out.mono KW.out.size))
          have RXW := RX.out wr KT.out
          obtain ⟨p1, o1, hA, hb1, hcr⟩ := Rows.get RXW.2.codes.2.1 HF.out
          have a2 := RXW.1.cell 2 _ rfl
          rw [hA] at a2
          have c5 := hcr 5 _ rfl
          obtain ⟨FA, hFA⟩ : ∃ FA, f.oA = FA := ⟨_, rfl⟩
          rw [hFA] at c5
          have HFA := Aid.hid hFA
          clear hFA
          have lx := RXW.2.codes.1
          unfold Lim at lx
          clear hcr hA RXW
          go_wp2_with fail
          clear a2 c5 hb1
          have hk20 : k < 20 := hm
          go_loopw [7, 10] (fun vo vi wr => ∃ (j n : Nat) (A : Option Addr) (c : Nat), vi = .int .i64 j ∧ vo = .slice A n c ∧ j ≤ f.ops.length ∧ Hid (n = 1 + k + j) ∧ Hid (wr.ownsRow w1.heap.size 25 3 (.slice A n c) n (flat (shTook f.ops k j))) ∧ Hid (Below w1.heap.size w1 wr)) (fun _ vi _ => f.ops.length - (intOf vi).toNat)
          case atStart => exact ⟨0, n, A, c, rfl, rfl, Nat.zero_le _, Aid.hid (by have := NN.out; omega), Aid.hid (by rw [shTook_zero]; exact O.out), KL⟩
          case round =>
            clear O KL KT NN hn2
            obtain ⟨j, n, A, c, rfl, rfl, hj, NN, O, KL⟩ := hrel
            have hn3 : n ≤ 221 := by have := NN.out; omega
            have KT := Aid.hid (KW.out.trans (KL.out.mono KW.out.size))
            by_cases hlt : j < f.ops.length
            · obtain ⟨o, ho⟩ : ∃ o, f.ops[j]? = some o := ⟨_, List.getElem?_eq_getElem hlt⟩
              obtain ⟨p2, o2, hA2, hb2, hc2⟩ := Rows.get ((RX.out wr KT.out).2.codes.2.2 f (List.mem_of_getElem? HF.out)).2 ho
              have hA3 : FA = some ⟨p2, o2, none⟩ := HFA.out.symm.trans hA2
              clear hA2
              subst hA3
              have hb3 : p2 < wr.heap.size := Nat.lt_of_lt_of_le hb2 (Nat.le_trans SZ.out KT.out.size)
              have c0 := hc2 0 _ rfl
              have c1 := hc2 1 _ rfl
              have c2 := hc2 2 _ rfl
              simp only [Nat.add_zero] at c0
              have HO := Aid.hid ho
              clear hc2 hb2 ho KT
              by_cases k21 : o.k = 21
              ·
                by_cases h0 : 0 ≤ o.a
                · by_cases h1 : o.a ≤ f.ops.length
                  ·
                    have h2 : ¬ ((f.ops.length : Int) < o.a) := by omega
                    have h3 : decide ((f.ops.length : Int) < o.a) = false := decide_eq_false h2
                    have KL0 := KL
                    have KL := Aid.hid (KL0.out.alloc KL0.out.size (.cells [.int .i64 (21), .int .i64 (o.a + (k : Int) + 1), .int .i64 o.b].toArray 25))
                    have es : shOp f.ops.length (k + 1) o = ⟨21, o.a + (k : Int) + 1, o.b⟩ := by unfold shOp; rw [if_pos (by omega), if_pos ⟨h0, h1⟩, k21]; congr 1; omega
                    have ES := Aid.hid es
                    clear es KL0
                    have hr := reads_new (w := (wr.alloc (.cells [.int .i64 (21), .int .i64 (o.a + (k : Int) + 1), .int .i64 o.b].toArray 25))) (xs := [.int .i64 (21), .int .i64 (o.a + (k : Int) + 1), .int .i64 o.b]) (T := 25) (sz := 3) (n := 1) rfl
                    have HR : Hid (Reads ((wr.alloc (.cells [.int .i64 (21), .int .i64 (o.a + (k : Int) + 1), .int .i64 o.b].toArray 25)).alloc (.cells [.int .i64 (21), .int .i64 (o.a + (k : Int) + 1), .int .i64 o.b].toArray 25)) ((wr.alloc (.cells [.int .i64 (21), .int .i64 (o.a + (k : Int) + 1), .int .i64 o.b].toArray 25)).alloc (.cells [.int .i64 (21), .int .i64 (o.a + (k : Int) + 1), .int .i64 o.b].toArray 25)).heap.size 3 (some ⟨(wr.heap.size + 1), 0, none⟩) 1 [.int .i64 (21), .int .i64 (o.a + (k : Int) + 1), .int .i64 o.b]) := Aid.hid (by first | exact hr | (rw [World.size_alloc] at hr ⊢; exact hr) | (simpa [World.size_alloc] using hr))
                    have hbs : w1.heap.size ≤ ((wr.alloc (.cells [.int .i64 (21), .int .i64 (o.a + (k : Int) + 1), .int .i64 o.b].toArray 25)).alloc (.cells [.int .i64 (21), .int .i64 (o.a + (k : Int) + 1), .int .i64 o.b].toArray 25)).heap.size := Nat.le_trans KL.out.size (by simp)
                    have KA := Aid.hid (KL.out.alloc KL.out.size (.cells [.int .i64 (21), .int .i64 (o.a + (k : Int) + 1), .int .i64 o.b].toArray 25))
                    clear hr
                    go_wp2_with (at_builtin; refine wpList_append_any _ rfl _ _ 23 rfl w1.heap.size 25 i0 (.agg #[.int .i64 0, .int .i64 0, .int .i64 0]) 3 24 Tryd.underlying23 hi hz0 hz1 hz2 rfl (by decide) _ n _ rfl ((O.out.alloc (.cells [.int .i64 (21), .int .i64 (o.a + (k : Int) + 1), .int .i64 o.b].toArray 25)).alloc _) _ (some ⟨(wr.heap.size + 1), 0, none⟩) 1 1 [.int .i64 (21), .int .i64 (o.a + (k : Int) + 1), .int .i64 o.b] rfl HR.out ?d1 ?d2 ?d3 hbs ?_)
                    case d1 => first | exact flat_one [⟨21, o.a + (k : Int) + 1, o.b⟩] | exact ⟨rfl, rfl, rfl⟩ | simp [Value.oneCell']
                    case d2 => unfold maxLen; omega
                    case d3 => omega
                    intro v9 w9 ho9 hg9 _
                    obtain ⟨A9, c9, rfl⟩ := own_slice ho9
                    have KL9 := Aid.hid (KA.out.grown hg9 hbs (fun p hp => ((O.out.alloc (.cells [.int .i64 (21), .int .i64 (o.a + (k : Int) + 1), .int .i64 o.b].toArray 25)).lt p hp).1))
                    have O9 : Hid (w9.ownsRow w1.heap.size 25 3 (.slice A9 (n + 1) c9) (n + 1) (flat (shTook f.ops k (j + 1)))) := Aid.hid (by rw [shTook_succ HO.out, ES.out, flat_app]; exact ho9)
                    clear ho9 hg9 HR KA hbs
                    go_wp2_with fail
                    go_roundw
                    case rel => exact ⟨j + 1, n + 1, A9, c9, by go_num, rfl, by omega, Aid.hid (by have := NN.out; omega), O9, KL9⟩
                    case measure => simp [intOf]; omega
                  ·
                    have h2 : (f.ops.length : Int) < o.a := by omega
                    have h3 : decide (o.a ≤ (f.ops.length : Int)) = false := decide_eq_false h1
                    have KL0 := KL
                    have KL := Aid.hid (KL0.out.alloc KL0.out.size (.cells [.int .i64 (21), .int .i64 (10000), .int .i64 o.b].toArray 25))
                    have es : shOp f.ops.length (k + 1) o = ⟨21, 10000, o.b⟩ := by unfold shOp; rw [if_pos (by omega), if_neg (fun h => h1 h.2), if_pos (by omega), k21]
                    have ES := Aid.hid es
                    clear es KL0
                    have hr := reads_new (w := (wr.alloc (.cells [.int .i64 (21), .int .i64 (10000), .int .i64 o.b].toArray 25))) (xs := [.int .i64 (21), .int .i64 (10000), .int .i64 o.b]) (T := 25) (sz := 3) (n := 1) rfl
                    have HR : Hid (Reads ((wr.alloc (.cells [.int .i64 (21), .int .i64 (10000), .int .i64 o.b].toArray 25)).alloc (.cells [.int .i64 (21), .int .i64 (10000), .int .i64 o.b].toArray 25)) ((wr.alloc (.cells [.int .i64 (21), .int .i64 (10000), .int .i64 o.b].toArray 25)).alloc (.cells [.int .i64 (21), .int .i64 (10000), .int .i64 o.b].toArray 25)).heap.size 3 (some ⟨(wr.heap.size + 1), 0, none⟩) 1 [.int .i64 (21), .int .i64 (10000), .int .i64 o.b]) := Aid.hid (by first | exact hr | (rw [World.size_alloc] at hr ⊢; exact hr) | (simpa [World.size_alloc] using hr))
                    have hbs : w1.heap.size ≤ ((wr.alloc (.cells [.int .i64 (21), .int .i64 (10000), .int .i64 o.b].toArray 25)).alloc (.cells [.int .i64 (21), .int .i64 (10000), .int .i64 o.b].toArray 25)).heap.size := Nat.le_trans KL.out.size (by simp)
                    have KA := Aid.hid (KL.out.alloc KL.out.size (.cells [.int .i64 (21), .int .i64 (10000), .int .i64 o.b].toArray 25))
                    clear hr
                    go_wp2_with (at_builtin; refine wpList_append_any _ rfl _ _ 23 rfl w1.heap.size 25 i0 (.agg #[.int .i64 0, .int .i64 0, .int .i64 0]) 3 24 Tryd.underlying23 hi hz0 hz1 hz2 rfl (by decide) _ n _ rfl ((O.out.alloc (.cells [.int .i64 (21), .int .i64 (10000), .int .i64 o.b].toArray 25)).alloc _) _ (some ⟨(wr.heap.size + 1), 0, none⟩) 1 1 [.int .i64 (21), .int .i64 (10000), .int .i64 o.b] rfl HR.out ?d1 ?d2 ?d3 hbs ?_)
                    case d1 => first | exact flat_one [⟨21, 10000, o.b⟩] | exact ⟨rfl, rfl, rfl⟩ | simp [Value.oneCell']
                    case d2 => unfold maxLen; omega
                    case d3 => omega
                    intro v9 w9 ho9 hg9 _
                    obtain ⟨A9, c9, rfl⟩ := own_slice ho9
                    have KL9 := Aid.hid (KA.out.grown hg9 hbs (fun p hp => ((O.out.alloc (.cells [.int .i64 (21), .int .i64 (10000), .int .i64 o.b].toArray 25)).lt p hp).1))
                    have O9 : Hid (w9.ownsRow w1.heap.size 25 3 (.slice A9 (n + 1) c9) (n + 1) (flat (shTook f.ops k (j + 1)))) := Aid.hid (by rw [shTook_succ HO.out, ES.out, flat_app]; exact ho9)
                    clear ho9 hg9 HR KA hbs
                    go_wp2_with fail
                    go_roundw
                    case rel => exact ⟨j + 1, n + 1, A9, c9, by go_num, rfl, by omega, Aid.hid (by have := NN.out; omega), O9, KL9⟩
                    case measure => simp [intOf]; omega
                ·
                  have h1 : o.a < 0 := by omega
                  have h2 : ¬ ((f.ops.length : Int) < o.a) := by omega
                  have h3 : decide ((f.ops.length : Int) < o.a) = false := decide_eq_false h2
                  have h4 : decide (0 ≤ o.a) = false := decide_eq_false h0
                  have KL0 := KL
                  have KL := Aid.hid (KL0.out.alloc KL0.out.size (.cells [.int .i64 (21), .int .i64 (o.a), .int .i64 o.b].toArray 25))
                  have es : shOp f.ops.length (k + 1) o = ⟨21, o.a, o.b⟩ := by unfold shOp; rw [if_pos (by omega), if_neg (fun h => h0 h.1), if_neg (by omega), ← k21]
                  have ES := Aid.hid es
                  clear es KL0
                  have hr := reads_new (w := (wr.alloc (.cells [.int .i64 (21), .int .i64 (o.a), .int .i64 o.b].toArray 25))) (xs := [.int .i64 (21), .int .i64 (o.a), .int .i64 o.b]) (T := 25) (sz := 3) (n := 1) rfl
                  have HR : Hid (Reads ((wr.alloc (.cells [.int .i64 (21), .int .i64 (o.a), .int .i64 o.b].toArray 25)).alloc (.cells [.int .i64 (21), .int .i64 (o.a), .int .i64 o.b].toArray 25)) ((wr.alloc (.cells [.int .i64 (21), .int .i64 (o.a), .int .i64 o.b].toArray 25)).alloc (.cells [.int .i64 (21), .int .i64 (o.a), .int .i64 o.b].toArray 25)).heap.size 3 (some ⟨(wr.heap.size + 1), 0, none⟩) 1 [.int .i64 (21), .int .i64 (o.a), .int .i64 o.b]) := Aid.hid (by first | exact hr | (rw [World.size_alloc] at hr ⊢; exact hr) | (simpa [World.size_alloc] using hr))
                  have hbs : w1.heap.size ≤ ((wr.alloc (.cells [.int .i64 (21), .int .i64 (o.a), .int .i64 o.b].toArray 25)).alloc (.cells [.int .i64 (21), .int .i64 (o.a), .int .i64 o.b].toArray 25)).heap.size := Nat.le_trans KL.out.size (by simp)
                  have KA := Aid.hid (KL.out.alloc KL.out.size (.cells [.int .i64 (21), .int .i64 (o.a), .int .i64 o.b].toArray 25))
                  clear hr
                  go_wp2_with (at_builtin; refine wpList_append_any _ rfl _ _ 23 rfl w1.heap.size 25 i0 (.agg #[.int .i64 0, .int .i64 0, .int .i64 0]) 3 24 Tryd.underlying23 hi hz0 hz1 hz2 rfl (by decide) _ n _ rfl ((O.out.alloc (.cells [.int .i64 (21), .int .i64 (o.a), .int .i64 o.b].toArray 25)).alloc _) _ (some ⟨(wr.heap.size + 1), 0, none⟩) 1 1 [.int .i64 (21), .int .i64 (o.a), .int .i64 o.b] rfl HR.out ?d1 ?d2 ?d3 hbs ?_)
                  case d1 => first | exact flat_one [⟨21, o.a, o.b⟩] | exact ⟨rfl, rfl, rfl⟩ | simp [Value.oneCell']
                  case d2 => unfold maxLen; omega
                  case d3 => omega
                  intro v9 w9 ho9 hg9 _
                  obtain ⟨A9, c9, rfl⟩ := own_slice ho9
                  have KL9 := Aid.hid (KA.out.grown hg9 hbs (fun p hp => ((O.out.alloc (.cells [.int .i64 (21), .int .i64 (o.a), .int .i64 o.b].toArray 25)).lt p hp).1))
                  have O9 : Hid (w9.ownsRow w1.heap.size 25 3 (.slice A9 (n + 1) c9) (n + 1) (flat (shTook f.ops k (j + 1)))) := Aid.hid (by rw [shTook_succ HO.out, ES.out, flat_app]; exact ho9)
                  clear ho9 hg9 HR KA hbs
                  go_wp2_with fail
                  go_roundw
                  case rel => exact ⟨j + 1, n + 1, A9, c9, by go_num, rfl, by omega, Aid.hid (by have := NN.out; omega), O9, KL9⟩
                  case measure => simp [intOf]; omega
              · by_cases k22 : o.k = 22
                ·
                  by_cases h0 : 0 ≤ o.a
                  · by_cases h1 : o.a ≤ f.ops.length
                    ·
                      have h2 : ¬ ((f.ops.length : Int) < o.a) := by omega
                      have h3 : decide ((f.ops.length : Int) < o.a) = false := decide_eq_false h2
                      have KL0 := KL
                      have KL := Aid.hid (KL0.out.alloc KL0.out.size (.cells [.int .i64 (22), .int .i64 (o.a + (k : Int) + 1), .int .i64 o.b].toArray 25))
                      have es : shOp f.ops.length (k + 1) o = ⟨22, o.a + (k : Int) + 1, o.b⟩ := by unfold shOp; rw [if_pos (by omega), if_pos ⟨h0, h1⟩, k22]; congr 1; omega
                      have ES := Aid.hid es
                      clear es KL0
                      have hr := reads_new (w := (wr.alloc (.cells [.int .i64 (22), .int .i64 (o.a + (k : Int) + 1), .int .i64 o.b].toArray 25))) (xs := [.int .i64 (22), .int .i64 (o.a + (k : Int) + 1), .int .i64 o.b]) (T := 25) (sz := 3) (n := 1) rfl
                      have HR : Hid (Reads ((wr.alloc (.cells [.int .i64 (22), .int .i64 (o.a + (k : Int) + 1), .int .i64 o.b].toArray 25)).alloc (.cells [.int .i64 (22), .int .i64 (o.a + (k : Int) + 1), .int .i64 o.b].toArray 25)) ((wr.alloc (.cells [.int .i64 (22), .int .i64 (o.a + (k : Int) + 1), .int .i64 o.b].toArray 25)).alloc (.cells [.int .i64 (22), .int .i64 (o.a + (k : Int) + 1), .int .i64 o.b].toArray 25)).heap.size 3 (some ⟨(wr.heap.size + 1), 0, none⟩) 1 [.int .i64 (22), .int .i64 (o.a + (k : Int) + 1), .int .i64 o.b]) := Aid.hid (by first | exact hr | (rw [World.size_alloc] at hr ⊢; exact hr) | (simpa [World.size_alloc] using hr))
                      have hbs : w1.heap.size ≤ ((wr.alloc (.cells [.int .i64 (22), .int .i64 (o.a + (k : Int) + 1), .int .i64 o.b].toArray 25)).alloc (.cells [.int .i64 (22), .int .i64 (o.a + (k : Int) + 1), .int .i64 o.b].toArray 25)).heap.size := Nat.le_trans KL.out.size (by simp)
                      have KA := Aid.hid (KL.out.alloc KL.out.size (.cells [.int .i64 (22), .int .i64 (o.a + (k : Int) + 1), .int .i64 o.b].toArray 25))
                      clear hr
                      go_wp2_with (at_builtin; refine wpList_append_any _ rfl _ _ 23 rfl w1.heap.size 25 i0 (.agg #[.int .i64 0, .int .i64 0, .int .i64 0]) 3 24 Tryd.underlying23 hi hz0 hz1 hz2 rfl (by decide) _ n _ rfl ((O.out.alloc (.cells [.int .i64 (22), .int .i64 (o.a + (k : Int) + 1), .int .i64 o.b].toArray 25)).alloc _) _ (some ⟨(wr.heap.size + 1), 0, none⟩) 1 1 [.int .i64 (22), .int .i64 (o.a + (k : Int) + 1), .int .i64 o.b] rfl HR.out ?d1 ?d2 ?d3 hbs ?_)
                      case d1 => first | exact flat_one [⟨22, o.a + (k : Int) + 1, o.b⟩] | exact ⟨rfl, rfl, rfl⟩ | simp [Value.oneCell']
                      case d2 => unfold maxLen; omega
                      case d3 => omega
                      intro v9 w9 ho9 hg9 _
                      obtain ⟨A9, c9, rfl⟩ := own_slice ho9
                      have KL9 := Aid.hid (KA.out.grown hg9 hbs (fun p hp => ((O.out.alloc (.cells [.int .i64 (22), .int .i64 (o.a + (k : Int) + 1), .int .i64 o.b].toArray 25)).lt p hp).1))
                      have O9 : Hid (w9.ownsRow w1.heap.size 25 3 (.slice A9 (n + 1) c9) (n + 1) (flat (shTook f.ops k (j + 1)))) := Aid.hid (by rw [shTook_succ HO.out, ES.out, flat_app]; exact ho9)
                      clear ho9 hg9 HR KA hbs
                      go_wp2_with fail
                      go_roundw
                      case rel => exact ⟨j + 1, n + 1, A9, c9, by go_num, rfl, by omega, Aid.hid (by have := NN.out; omega), O9, KL9⟩
                      case measure => simp [intOf]; omega
                    ·
                      have h2 : (f.ops.length : Int) < o.a := by omega
                      have h3 : decide (o.a ≤ (f.ops.length : Int)) = false := decide_eq_false h1
                      have KL0 := KL
                      have KL := Aid.hid (KL0.out.alloc KL0.out.size (.cells [.int .i64 (22), .int .i64 (10000), .int .i64 o.b].toArray 25))
                      have es : shOp f.ops.length (k + 1) o = ⟨22, 10000, o.b⟩ := by unfold shOp; rw [if_pos (by omega), if_neg (fun h => h1 h.2), if_pos (by omega), k22]
                      have ES := Aid.hid es
                      clear es KL0
                      have hr := reads_new (w := (wr.alloc (.cells [.int .i64 (22), .int .i64 (10000), .int .i64 o.b].toArray 25))) (xs := [.int .i64 (22), .int .i64 (10000), .int .i64 o.b]) (T := 25) (sz := 3) (n := 1) rfl
                      have HR : Hid (Reads ((wr.alloc (.cells [.int .i64 (22), .int .i64 (10000), .int .i64 o.b].toArray 25)).alloc (.cells [.int .i64 (22), .int .i64 (10000), .int .i64 o.b].toArray 25)) ((wr.alloc (.cells [.int .i64 (22), .int .i64 (10000), .int .i64 o.b].toArray 25)).alloc (.cells [.int .i64 (22), .int .i64 (10000), .int .i64 o.b].toArray 25)).heap.size 3 (some ⟨(wr.heap.size + 1), 0, none⟩) 1 [.int .i64 (22), .int .i64 (10000), .int .i64 o.b]) := Aid.hid (by first | exact hr | (rw [World.size_alloc] at hr ⊢; exact hr) | (simpa [World.size_alloc] using hr))
                      have hbs : w1.heap.size ≤ ((wr.alloc (.cells [.int .i64 (22), .int .i64 (10000), .int .i64 o.b].toArray 25)).alloc (.cells [.int .i64 (22), .int .i64 (10000), .int .i64 o.b].toArray 25)).heap.size := Nat.le_trans KL.out.size (by simp)
                      have KA := Aid.hid (KL.out.alloc KL.out.size (.cells [.int .i64 (22), .int .i64 (10000), .int .i64 o.b].toArray 25))
                      clear hr
                      go_wp2_with (at_builtin; refine wpList_append_any _ rfl _ _ 23 rfl w1.heap.size 25 i0 (.agg #[.int .i64 0, .int .i64 0, .int .i64 0]) 3 24 Tryd.underlying23 hi hz0 hz1 hz2 rfl (by decide) _ n _ rfl ((O.out.alloc (.cells [.int .i64 (22), .int .i64 (10000), .int .i64 o.b].toArray 25)).alloc _) _ (some ⟨(wr.heap.size + 1), 0, none⟩) 1 1 [.int .i64 (22), .int .i64 (10000), .int .i64 o.b] rfl HR.out ?d1 ?d2 ?d3 hbs ?_)
                      case d1 => first | exact flat_one [⟨22, 10000, o.b⟩] | exact ⟨rfl, rfl, rfl⟩ | simp [Value.oneCell']
                      case d2 => unfold maxLen; omega
                      case d3 => omega
                      intro v9 w9 ho9 hg9 _
                      obtain ⟨A9, c9, rfl⟩ := own_slice ho9
                      have KL9 := Aid.hid (KA.out.grown hg9 hbs (fun p hp => ((O.out.alloc (.cells [.int .i64 (22), .int .i64 (10000), .int .i64 o.b].toArray 25)).lt p hp).1))
                      have O9 : Hid (w9.ownsRow w1.heap.size 25 3 (.slice A9 (n + 1) c9) (n + 1) (flat (shTook f.ops k (j + 1)))) := Aid.hid (by rw [shTook_succ HO.out, ES.out, flat_app]; exact ho9)
                      clear ho9 hg9 HR KA hbs
                      go_wp2_with fail
                      go_roundw
                      case rel => exact ⟨j + 1, n + 1, A9, c9, by go_num, rfl, by omega, Aid.hid (by have := NN.out; omega), O9, KL9⟩
                      case measure => simp [intOf]; omega
                  ·
                    have h1 : o.a < 0 := by omega
                    have h2 : ¬ ((f.ops.length : Int) < o.a) := by omega
                    have h3 : decide ((f.ops.length : Int) < o.a) = false := decide_eq_false h2
                    have h4 : decide (0 ≤ o.a) = false := decide_eq_false h0
                    have KL0 := KL
                    have KL := Aid.hid (KL0.out.alloc KL0.out.size (.cells [.int .i64 (22), .int .i64 (o.a), .int .i64 o.b].toArray 25))
                    have es : shOp f.ops.length (k + 1) o = ⟨22, o.a, o.b⟩ := by unfold shOp; rw [if_pos (by omega), if_neg (fun h => h0 h.1), if_neg (by omega), ← k22]
                    have ES := Aid.hid es
                    clear es KL0
                    have hr := reads_new (w := (wr.alloc (.cells [.int .i64 (22), .int .i64 (o.a), .int .i64 o.b].toArray 25))) (xs := [.int .i64 (22), .int .i64 (o.a), .int .i64 o.b]) (T := 25) (sz := 3) (n := 1) rfl
                    have HR : Hid (Reads ((wr.alloc (.cells [.int .i64 (22), .int .i64 (o.a), .int .i64 o.b].toArray 25)).alloc (.cells [.int .i64 (22), .int .i64 (o.a), .int .i64 o.b].toArray 25)) ((wr.alloc (.cells [.int .i64 (22), .int .i64 (o.a), .int .i64 o.b].toArray 25)).alloc (.cells [.int .i64 (22), .int .i64 (o.a), .int .i64 o.b].toArray 25)).heap.size 3 (some ⟨(wr.heap.size + 1), 0, none⟩) 1 [.int .i64 (22), .int .i64 (o.a), .int .i64 o.b]) := Aid.hid (by first | exact hr | (rw [World.size_alloc] at hr ⊢; exact hr) | (simpa [World.size_alloc] using hr))
                    have hbs : w1.heap.size ≤ ((wr.alloc (.cells [.int .i64 (22), .int .i64 (o.a), .int .i64 o.b].toArray 25)).alloc (.cells [.int .i64 (22), .int .i64 (o.a), .int .i64 o.b].toArray 25)).heap.size := Nat.le_trans KL.out.size (by simp)
                    have KA := Aid.hid (KL.out.alloc KL.out.size (.cells [.int .i64 (22), .int .i64 (o.a), .int .i64 o.b].toArray 25))
                    clear hr
                    go_wp2_with (at_builtin; refine wpList_append_any _ rfl _ _ 23 rfl w1.heap.size 25 i0 (.agg #[.int .i64 0, .int .i64 0, .int .i64 0]) 3 24 Tryd.underlying23 hi hz0 hz1 hz2 rfl (by decide) _ n _ rfl ((O.out.alloc (.cells [.int .i64 (22), .int .i64 (o.a), .int .i64 o.b].toArray 25)).alloc _) _ (some ⟨(wr.heap.size + 1), 0, none⟩) 1 1 [.int .i64 (22), .int .i64 (o.a), .int .i64 o.b] rfl HR.out ?d1 ?d2 ?d3 hbs ?_)
                    case d1 => first | exact flat_one [⟨22, o.a, o.b⟩] | exact ⟨rfl, rfl, rfl⟩ | simp [Value.oneCell']
                    case d2 => unfold maxLen; omega
                    case d3 => omega
                    intro v9 w9 ho9 hg9 _
                    obtain ⟨A9, c9, rfl⟩ := own_slice ho9
                    have KL9 := Aid.hid (KA.out.grown hg9 hbs (fun p hp => ((O.out.alloc (.cells [.int .i64 (22), .int .i64 (o.a), .int .i64 o.b].toArray 25)).lt p hp).1))
                    have O9 : Hid (w9.ownsRow w1.heap.size 25 3 (.slice A9 (n + 1) c9) (n + 1) (flat (shTook f.ops k (j + 1)))) := Aid.hid (by rw [shTook_succ HO.out, ES.out, flat_app]; exact ho9)
                    clear ho9 hg9 HR KA hbs
                    go_wp2_with fail
                    go_roundw
                    case rel => exact ⟨j + 1, n + 1, A9, c9, by go_num, rfl, by omega, Aid.hid (by have := NN.out; omega), O9, KL9⟩
                    case measure => simp [intOf]; omega
                ·
                  have KL0 := KL
                  have KL := Aid.hid (KL0.out.alloc KL0.out.size (.cells [.int .i64 o.k, .int .i64 (o.a), .int .i64 o.b].toArray 25))
                  have es : shOp f.ops.length (k + 1) o = ⟨o.k, o.a, o.b⟩ := by unfold shOp; rw [if_neg (by omega)]
                  have ES := Aid.hid es
                  clear es KL0
                  have hr := reads_new (w := (wr.alloc (.cells [.int .i64 o.k, .int .i64 (o.a), .int .i64 o.b].toArray 25))) (xs := [.int .i64 o.k, .int .i64 (o.a), .int .i64 o.b]) (T := 25) (sz := 3) (n := 1) rfl
                  have HR : Hid (Reads ((wr.alloc (.cells [.int .i64 o.k, .int .i64 (o.a), .int .i64 o.b].toArray 25)).alloc (.cells [.int .i64 o.k, .int .i64 (o.a), .int .i64 o.b].toArray 25)) ((wr.alloc (.cells [.int .i64 o.k, .int .i64 (o.a), .int .i64 o.b].toArray 25)).alloc (.cells [.int .i64 o.k, .int .i64 (o.a), .int .i64 o.b].toArray 25)).heap.size 3 (some ⟨(wr.heap.size + 1), 0, none⟩) 1 [.int .i64 o.k, .int .i64 (o.a), .int .i64 o.b]) := Aid.hid (by first | exact hr | (rw [World.size_alloc] at hr ⊢; exact hr) | (simpa [World.size_alloc] using hr))
                  have hbs : w1.heap.size ≤ ((wr.alloc (.cells [.int .i64 o.k, .int .i64 (o.a), .int .i64 o.b].toArray 25)).alloc (.cells [.int .i64 o.k, .int .i64 (o.a), .int .i64 o.b].toArray 25)).heap.size := Nat.le_trans KL.out.size (by simp)
                  have KA := Aid.hid (KL.out.alloc KL.out.size (.cells [.int .i64 o.k, .int .i64 (o.a), .int .i64 o.b].toArray 25))
                  clear hr
                  go_wp2_with (at_builtin; refine wpList_append_any _ rfl _ _ 23 rfl w1.heap.size 25 i0 (.agg #[.int .i64 0, .int .i64 0, .int .i64 0]) 3 24 Tryd.underlying23 hi hz0 hz1 hz2 rfl (by decide) _ n _ rfl ((O.out.alloc (.cells [.int .i64 o.k, .int .i64 (o.a), .int .i64 o.b].toArray 25)).alloc _) _ (some ⟨(wr.heap.size + 1), 0, none⟩) 1 1 [.int .i64 o.k, .int .i64 (o.a), .int .i64 o.b] rfl HR.out ?d1 ?d2 ?d3 hbs ?_)
                  case d1 => first | exact flat_one [⟨o.k, o.a, o.b⟩] | exact ⟨rfl, rfl, rfl⟩ | simp [Value.oneCell']
                  case d2 => unfold maxLen; omega
                  case d3 => omega
                  intro v9 w9 ho9 hg9 _
                  obtain ⟨A9, c9, rfl⟩ := own_slice ho9
                  have KL9 := Aid.hid (KA.out.grown hg9 hbs (fun p hp => ((O.out.alloc (.cells [.int .i64 o.k, .int .i64 (o.a), .int .i64 o.b].toArray 25)).lt p hp).1))
                  have O9 : Hid (w9.ownsRow w1.heap.size 25 3 (.slice A9 (n + 1) c9) (n + 1) (flat (shTook f.ops k (j + 1)))) := Aid.hid (by rw [shTook_succ HO.out, ES.out, flat_app]; exact ho9)
                  clear ho9 hg9 HR KA hbs
                  go_wp2_with fail
                  go_roundw
                  case rel => exact ⟨j + 1, n + 1, A9, c9, by go_num, rfl, by omega, Aid.hid (by have := NN.out; omega), O9, KL9⟩
                  case measure => simp [intOf]; omega
            · obtain rfl : j = f.ops.length := by omega
              have O2 : Hid (wr.ownsRow w1.heap.size 25 3 (.slice A n c) n (flat (shOps f.ops k))) := Aid.hid (by rw [← shTook_all]; exact O.out)
              clear O hlt hj
              have KT := Aid.hid (KW.out.trans (KL.out.mono KW.out.size))
              have HL := Aid.hid hfl
              obtain ⟨j0, hj0, hy0, hy1, hy2⟩ := info_parts info_code
              have RXW := RX.out wr KT.out
              have hcl2 : x.codes.length ≤ 60 := hcl
              have hrd0 : Reads wr w.heap.size 6 x.dA x.codes.length (flatC x.codes) := by
                have h := Rows.reads (rows := x.codes.map Cod.cells) (by intro r hr; obtain ⟨y, _, rfl⟩ := List.mem_map.1 hr; rfl) RXW.2.codes.2.1
                rw [List.length_map] at h; exact h
              have HRD := Aid.hid (hrd0.alloc (Nat.le_trans SZ.out KT.out.size) (.cells #[.slice x.fA x.faces.length x.fc, .slice x.cA x.classes.length x.cc, .slice x.dA x.codes.length x.dc, .slice x.nA x.insts.length x.nc, .string x.globals, .slice x.iA x.init.length x.ic, .slice x.bA x.blocks.length x.bc, .slice x.xA x.ins.length x.xc, .slice x.oA x.outs.length x.oc, .slice x.jA x.jobs.length x.jc, .int .i64 x.d, .int .i64 x.w] 35))
              have hbs : w1.heap.size ≤ (wr.alloc (.cells #[.slice x.fA x.faces.length x.fc, .slice x.cA x.classes.length x.cc, .slice x.dA x.codes.length x.dc, .slice x.nA x.insts.length x.nc, .string x.globals, .slice x.iA x.init.length x.ic, .slice x.bA x.blocks.length x.bc, .slice x.xA x.ins.length x.xc, .slice x.oA x.outs.length x.oc, .slice x.jA x.jobs.length x.jc, .int .i64 x.d, .int .i64 x.w] 35)).heap.size := Nat.le_trans KL.out.size (by simp)
              have HNB := Aid.hid (Aid.Has.new wr [.slice x.fA x.faces.length x.fc, .slice x.cA x.classes.length x.cc, .slice x.dA x.codes.length x.dc, .slice x.nA x.insts.length x.nc, .string x.globals, .slice x.iA x.init.length x.ic, .slice x.bA x.blocks.length x.bc, .slice x.xA x.ins.length x.xc, .slice x.oA x.outs.length x.oc, .slice x.jA x.jobs.length x.jc, .int .i64 x.d, .int .i64 x.w] 35)
              have OY := Aid.hid (O2.out.alloc (.cells #[.slice x.fA x.faces.length x.fc, .slice x.cA x.classes.length x.cc, .slice x.dA x.codes.length x.dc, .slice x.nA x.insts.length x.nc, .string x.globals, .slice x.iA x.init.length x.ic, .slice x.bA x.blocks.length x.bc, .slice x.xA x.ins.length x.xc, .slice x.oA x.outs.length x.oc, .slice x.jA x.jobs.length x.jc, .int .i64 x.d, .int .i64 x.w] 35))
              have KY := Aid.hid (KL.out.alloc KL.out.size (.cells #[.slice x.fA x.faces.length x.fc, .slice x.cA x.classes.length x.cc, .slice x.dA x.codes.length x.dc, .slice x.nA x.insts.length x.nc, .string x.globals, .slice x.iA x.init.length x.ic, .slice x.bA x.blocks.length x.bc, .slice x.xA x.ins.length x.xc, .slice x.oA x.outs.length x.oc, .slice x.jA x.jobs.length x.jc, .int .i64 x.d, .int .i64 x.w] 35))
              have a0 := RXW.1.cell 0 _ rfl
              have a1 := RXW.1.cell 1 _ rfl
              have a2 := RXW.1.cell 2 _ rfl
              have a3 := RXW.1.cell 3 _ rfl
              have a4 := RXW.1.cell 4 _ rfl
              have a5 := RXW.1.cell 5 _ rfl
              have a6 := RXW.1.cell 6 _ rfl
              have a7 := RXW.1.cell 7 _ rfl
              have a8 := RXW.1.cell 8 _ rfl
              have a9 := RXW.1.cell 9 _ rfl
              have a10 := RXW.1.cell 10 _ rfl
              have a11 := RXW.1.cell 11 _ rfl
              have hlw := RXW.1.lt
              have y2 := (RXW.1.alloc (.cells #[.slice x.fA x.faces.length x.fc, .slice x.cA x.classes.length x.cc, .slice x.dA x.codes.length x.dc, .slice x.nA x.insts.length x.nc, .string x.globals, .slice x.iA x.init.length x.ic, .slice x.bA x.blocks.length x.bc, .slice x.xA x.ins.length x.xc, .slice x.oA x.outs.length x.oc, .slice x.jA x.jobs.length x.jc, .int .i64 x.d, .int .i64 x.w] 35)).cell 2 _ rfl
              clear hrd0 RXW
              go_wp2_with (at_builtin; refine wpList_append_any _ rfl _ _ 30 rfl w1.heap.size 45 j0 (.agg #[.int .i64 0, .string ⟨#[]⟩, .string ⟨#[]⟩, .bool false, .int .i64 0, .slice none 0 0]) 6 80 Tryd.underlying30 hj0 hy0 hy1 hy2 rfl (by decide) (.slice none 0 0) 0 [] rfl ⟨rfl, Or.inl ⟨rfl, rfl⟩⟩ w.heap.size x.dA x.codes.length x.dc (flatC x.codes) rfl HRD.out ?d1 ?d2 ?d3 hbs ?_)
              case d1 => exact flatC_one _
              case d2 => unfold maxLen; omega
              case d3 => omega
              intro v6 w6 ho6 hg6 hv6
              obtain ⟨A6, c6, rfl⟩ := own_slice ho6
              try rw [Nat.zero_add] at ho6
              try rw [List.nil_append] at ho6
              try rw [Nat.zero_add] at hv6
              have K6 : Below (wr.alloc (.cells #[.slice x.fA x.faces.length x.fc, .slice x.cA x.classes.length x.cc, .slice x.dA x.codes.length x.dc, .slice x.nA x.insts.length x.nc, .string x.globals, .slice x.iA x.init.length x.ic, .slice x.bA x.blocks.length x.bc, .slice x.xA x.ins.length x.xc, .slice x.oA x.outs.length x.oc, .slice x.jA x.jobs.length x.jc, .int .i64 x.d, .int .i64 x.w] 35)).heap.size (wr.alloc (.cells #[.slice x.fA x.faces.length x.fc, .slice x.cA x.classes.length x.cc, .slice x.dA x.codes.length x.dc, .slice x.nA x.insts.length x.nc, .string x.globals, .slice x.iA x.init.length x.ic, .slice x.bA x.blocks.length x.bc, .slice x.xA x.ins.length x.xc, .slice x.oA x.outs.length x.oc, .slice x.jA x.jobs.length x.jc, .int .i64 x.d, .int .i64 x.w] 35)) w6 := (Below.refl _ _).grown hg6 (Nat.le_refl _) (fun q hq => by cases hq)
              obtain ⟨g6, cap, hv, hg, hgs⟩ := ho6.form (by omega)
              obtain ⟨rfl, rfl⟩ : A6 = some ⟨g6, 0, none⟩ ∧ c6 = cap := by simpa using hv
              have hg6e : g6 = wr.heap.size + 1 := by
                rcases hv6 with e | e
                · cases e
                · have h : g6 = _ := Option.some.inj e
                  first | exact h | (rw [World.size_alloc] at h; exact h)
              have hb6 := HNB.out.below K6 HNB.out.lt
              have OB6 := own_keeps OY.out K6
              have KB6 := KY.out.trans (K6.mono KY.out.size)
              have hoB : ∀ p, (Value.slice A n c).ownBlock = some p → p < wr.heap.size := fun p hp => (O2.out.lt p hp).2
              have e2 := hb6.cell 2 _ rfl
              have ef2 := hb6.frozen 2
              obtain ⟨Z1, hZ1⟩ : ∃ Z, w6.setCell ⟨wr.heap.size, 2, none⟩ (.slice (some ⟨g6, 0, none⟩) x.codes.length c6) = Z := ⟨_, rfl⟩
              have hb7 : Aid.Has Z1 wr.heap.size [.slice x.fA x.faces.length x.fc, .slice x.cA x.classes.length x.cc, .slice (some ⟨g6, 0, none⟩) x.codes.length c6, .slice x.nA x.insts.length x.nc, .string x.globals, .slice x.iA x.init.length x.ic, .slice x.bA x.blocks.length x.bc, .slice x.xA x.ins.length x.xc, .slice x.oA x.outs.length x.oc, .slice x.jA x.jobs.length x.jc, .int .i64 x.d, .int .i64 x.w] 35 := by rw [← hZ1]; exact hb6.set 2 _
              have ho7 : Z1.ownsRow w1.heap.size 45 6 (.slice (some ⟨g6, 0, none⟩) x.codes.length c6) x.codes.length (flatC x.codes) := by
                rw [← hZ1]; exact own_other ho6 (fun p hp => by have : g6 = p := Option.some.inj hp; omega) 2 _
              have OB7 : Z1.ownsRow w1.heap.size 25 3 (.slice A n c) n (flat (shOps f.ops k)) := by
                rw [← hZ1]; exact own_other OB6 (fun p hp => Nat.ne_of_lt (hoB p hp)) 2 _
              have KB7 : Below w1.heap.size w1 Z1 := by rw [← hZ1]; exact KB6.setCell (p := ⟨wr.heap.size, 2, none⟩) KL.out.size _
              have e7 := hb7.cell 2 _ rfl
              have hlc : (flatC x.codes).length = x.codes.length * 6 := ho7.1
              obtain ⟨y5, hy5⟩ : ∃ u, (flatC x.codes)[q * 6 + 5]? = some u := ⟨_, List.getElem?_eq_getElem (by omega)⟩
              have d5 := ho7.cellAt (q * 6 + 5) (by omega)
              rw [hy5] at d5
              have df := ho7.frozenAt
              obtain ⟨Z2, hZ2⟩ : ∃ Z, Z1.setCell ⟨g6, q * 6 + 5, none⟩ (.slice A n c) = Z := ⟨_, rfl⟩
              have LNN : Hid ((shOps f.ops k).length = n) := Aid.hid (by have h := OB7.1; rw [flat_len] at h; omega)
              have ho8 : Z2.ownsRow w1.heap.size 45 6 (.slice (some ⟨g6, 0, none⟩) x.codes.length c6) x.codes.length (flatC (x.codes.set q (shCod f A (shOps f.ops k) c))) := by
                have h := (ho7.stored (q * 6 + 5) (.slice A n c)).1
                have e := flatC_set x.codes q f A (shOps f.ops k) c HF.out
                rw [LNN.out] at e
                rw [e, hZ2] at h; exact h
              have hb8 : Aid.Has Z2 wr.heap.size [.slice x.fA x.faces.length x.fc, .slice x.cA x.classes.length x.cc, .slice (some ⟨g6, 0, none⟩) x.codes.length c6, .slice x.nA x.insts.length x.nc, .string x.globals, .slice x.iA x.init.length x.ic, .slice x.bA x.blocks.length x.bc, .slice x.xA x.ins.length x.xc, .slice x.oA x.outs.length x.oc, .slice x.jA x.jobs.length x.jc, .int .i64 x.d, .int .i64 x.w] 35 := by rw [← hZ2]; exact hb7.other ⟨g6, q * 6 + 5, none⟩ _ (by show wr.heap.size ≠ g6; omega)
              have OB8 : Z2.ownsRow w1.heap.size 25 3 (.slice A n c) n (flat (shOps f.ops k)) := by
                rw [← hZ2]; exact own_other OB7 (fun p hp => by have := hoB p hp; omega) (q * 6 + 5) _
              have KB8 : Below w1.heap.size w1 Z2 := by rw [← hZ2]; exact KB7.setCell (p := ⟨g6, q * 6 + 5, none⟩) (by show w1.heap.size ≤ g6; have := KL.out.size; omega) _
              have KT8 := Aid.hid (KW.out.trans (KB8.mono KW.out.size))
              have RX8 := RX.out Z2 KT8.out
              have AY : Hid (Img.At Z2 Z2.heap.size (shImg x q (shCod f A (shOps f.ops k) c) (some ⟨g6, 0, none⟩) c6)) := Aid.hid (sh_at RX8.2 (Nat.le_trans SZ.out KT8.out.size) (Rows.of_own (base := w1.heap.size) (e := 45) (c := c6) (by intro r hr; obtain ⟨y, _, rfl⟩ := List.mem_map.1 hr; rfl) (by rw [List.length_map, List.length_set]; exact ho8)) (ops_of_own (base := w1.heap.size) (c := c) (by show Z2.ownsRow w1.heap.size 25 3 (.slice A (shOps f.ops k).length c) (shOps f.ops k).length (flat (shOps f.ops k)); rw [LNN.out]; exact OB8) (by show (shOps f.ops k).length ≤ 1000; rw [LNN.out]; omega)) hcl2)
              have HB8 := Aid.hid hb8
              clear hg6e
              have b0 := RX8.1.cell 0 _ rfl
              have b1 := RX8.1.cell 1 _ rfl
              have b2 := RX8.1.cell 2 _ rfl
              have b3 := RX8.1.cell 3 _ rfl
              have b4 := RX8.1.cell 4 _ rfl
              have b5 := RX8.1.cell 5 _ rfl
              have b6 := RX8.1.cell 6 _ rfl
              have b7 := RX8.1.cell 7 _ rfl
              have b8 := RX8.1.cell 8 _ rfl
              have b9 := RX8.1.cell 9 _ rfl
              have b10 := RX8.1.cell 10 _ rfl
              have b11 := RX8.1.cell 11 _ rfl
              have HC := Aid.hid (check_is x q w.heap.size Z2 RX8.2 (Nat.le_trans SZ.out KT8.out.size) (Fl.Sm.of SM.out) (ML.out _ KT8.out))
              have hlw8 := RX8.1.lt
              clear ho6 hg6 hv6 K6 hv hg hgs hb6 OB6 KB6 hoB hb7 ho7 OB7 KB7 hlc hy5 ho8 hb8 OB8 KB8 RX8 O2 OY KY HNB HRD hbs a0 a1 a2 a3 a4 a5 a6 a7 a8 a9 a10 a11
              go_wp2_with fail
              go_at_call 8
              refine HC.out.mono ?_
              rintro e u1 ⟨⟨r, hr1, rfl⟩, hb1⟩
              have HR1 := Aid.hid hr1
              have KV := Aid.hid (KT8.out.trans (hb1.mono KT8.out.size))
              have hcc := check_is (shImg x q (shCod f A (shOps f.ops k) c) (some ⟨g6, 0, none⟩) c6) q Z2.heap.size u1 (AY.out.below hb1 (Nat.le_refl _)) hb1.size (sh_sm (Fl.Sm.of SM.out) (List.mem_of_getElem? HF.out) HL.out (by omega)) (ML.out _ KV.out)
              have ecl : (shImg x q (shCod f A (shOps f.ops k) c) (some ⟨g6, 0, none⟩) c6).codes.length = x.codes.length := List.length_set ..
              rw [ecl] at hcc
              have HC2 := Aid.hid hcc
              have hv8 := HB8.out.below hb1 HB8.out.lt
              have s0 := hv8.cell 0 _ rfl
              have s1 := hv8.cell 1 _ rfl
              have s2 := hv8.cell 2 _ rfl
              have s3 := hv8.cell 3 _ rfl
              have s4 := hv8.cell 4 _ rfl
              have s5 := hv8.cell 5 _ rfl
              have s6 := hv8.cell 6 _ rfl
              have s7 := hv8.cell 7 _ rfl
              have s8 := hv8.cell 8 _ rfl
              have s9 := hv8.cell 9 _ rfl
              have s10 := hv8.cell 10 _ rfl
              have s11 := hv8.cell 11 _ rfl
              obtain ⟨rn, hrn⟩ : ∃ rn, r.getD 0 = rn := ⟨_, rfl⟩
              obtain ⟨rb, hrb⟩ : ∃ rb, r.isSome = rb := ⟨_, rfl⟩
              rw [hrn, hrb]
              have HRN := Aid.hid (⟨hrn, hrb⟩ : _ ∧ _)
              clear hr1 hb1 hcc ecl hv8 HC hrn hrb b0 b1 b2 b3 b4 b5 b6 b7 b8 b9 b10 b11 d5 e2 ef2 e7
              go_wp2_with fail
              go_at_call 8
              refine HC2.out.mono ?_
              rintro e u2 ⟨⟨r2, hr2, rfl⟩, hb2⟩
              have er : r2 = r := hr2.same ((sh_is HF.out).is (by omega) (by have := HL.out; omega) HR1.out)
              rw [er, HRN.out.1, HRN.out.2]
              have KW := Aid.hid (KV.out.trans (hb2.mono KV.out.size))
              clear hr2 hb2 er HC2 s0 s1 s2 s3 s4 s5 s6 s7 s8 s9 s10 s11
              go_wp2_with fail
              go_at_call 10
              refine (awake_is _ (ML.out _ KW.out)).mono ?_
              rintro e wq ⟨rfl, hbq⟩
              have KQ := Aid.hid (KW.out.trans (hbq.mono KW.out.size))
              clear hbq
              go_wp2_with fail
              go_ret
              exact ⟨rfl, FB.out _ KQ.out⟩
end Go.Proofs.YtcgfabnmkbiogaaDoor
