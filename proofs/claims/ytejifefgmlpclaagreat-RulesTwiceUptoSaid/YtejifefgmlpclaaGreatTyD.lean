/- Parts of typing, as walks: both, binary, as. -/
import Derived.Test.YtejifefgmlpclaaGreatTyC
import Derived.StillTail
import Derived.WalkKit
import Derived.WalkSpells
import Derived.WalkLawsBesides
import Derived.LoopTactic
import Derived.Deep.QuietTactic
import Derived.BigQuiet
import Derived.Below
import Derived.Laws.ResultCell
import Derived.Laws.Tables
import Derived.Laws.Rows
import Derived.Deep.Cut
import Derived.KernelRfl
set_option linter.unusedSimpArgs false
set_option linter.unusedVariables false
namespace Go.Proofs.YtejifefgmlpclaaGreat
open Go.RowKit

theorem results_row22 {P : Program} {fn : Func} {p q u : Tmp} {ty : TypeId} (h : fn.results = #[.cell p ty, .cell q ty, .tmp u]) (tmps : Array Value) (w : World) (g g2 : Nat) (t : TypeId) (cs cs2 : Array Value) (fr fr2 : Nat × Nat) (d : TypeDesc)
    (x : Value) (hp : tmps.getD p undef = .pointer (some ⟨g, 0, none⟩)) (hq : tmps.getD q undef = .pointer (some ⟨g2, 0, none⟩)) (hx : tmps.getD u undef = x) (hg : w.heap[g]? = some (.cells cs t fr)) (hg2 : w.heap[g2]? = some (.cells cs2 t fr2))
    (hu : P.underlying ty = some d) (hd : (match d with | .struct _ | .array _ _ => true | _ => false) = true) (hi : (P.info? ty).map (·.size) = some cs.size) (hi2 : (P.info? ty).map (·.size) = some cs2.size) :
    (results fn tmps).run P w = .ok (.tuple #[.agg cs, .agg cs2, x]) w := by
  have e : (results fn tmps).run P w =
      ((asAddr (tmps.getD p undef)).run P w).andThen fun a w₁ => ((loadVar ty a).run P w₁).andThen fun v w₂ => ((asAddr (tmps.getD q undef)).run P w₂).andThen fun a' w₃ => ((loadVar ty a').run P w₃).andThen fun v' w₄ => .ok (.tuple #[v, v', tmps.getD u undef]) w₄ := by
    simp only [results, h]
    simp [Sem.run_bind, Result.andThen]
  rw [e, hp, hq, hx]
  simp only [asAddr, Sem.run_pure, Result.andThen]
  rw [run_loadVar_row w g t ty cs fr d hg hu hd hi]
  simp only [Result.andThen]
  rw [run_loadVar_row w g2 t ty cs2 fr2 d hg2 hu hd hi2]
theorem set4 {w : World} {g : Nat} {t : TypeId} {x0 x1 x2 x3 : Value} (a b c d : Value) (h : Aid.Has w g [x0, x1, x2, x3] t) :
    Aid.Has ((((w.setCell ⟨g, 0, none⟩ a).setCell ⟨g, 1, none⟩ b).setCell ⟨g, 2, none⟩ c).setCell ⟨g, 3, none⟩ d) g [a, b, c, d] t := (((h.set 0 a).set 1 b).set 2 c).set 3 d
theorem other4 {w : World} {g k : Nat} {t : TypeId} {xs : List Value} (a b c d : Value) (h : Aid.Has w k xs t) (hne : k ≠ g) :
    Aid.Has ((((w.setCell ⟨g, 0, none⟩ a).setCell ⟨g, 1, none⟩ b).setCell ⟨g, 2, none⟩ c).setCell ⟨g, 3, none⟩ d) k xs t := (((h.other _ a hne).other _ b hne).other _ c hne).other _ d hne
theorem below4 {B g : Nat} {w0 w : World} (a b c d : Value) (h : Below B w0 w) (hg : B ≤ g) :
    Below B w0 ((((w.setCell ⟨g, 0, none⟩ a).setCell ⟨g, 1, none⟩ b).setCell ⟨g, 2, none⟩ c).setCell ⟨g, 3, none⟩ d) := (((h.setCell hg a).setCell hg b).setCell hg c).setCell hg d

set_option maxRecDepth 100000 in
set_option maxHeartbeats 4000000 in
theorem both_is (f B b : Nat) (p : Pl) (a : Pa) (l : List Ex) (x y : Ex) (A : Option Addr) (cap : Nat) (t1 t2 : Ty) (c1 c2 : Int) (w : World) (hX : ExOK f B b p a x) (hY : ExOK f B b p a y) (h1 : Ty.expr p x = (t1, c1)) (h2 : Ty.expr p y = (t2, c2)) (h : PlAt w B b p a) (he : ExsAt (f + 1) w B A l) (hl : l = [x, y]) :
    Calls Tryz.prog 106 #[.pointer (some ⟨b, 0, none⟩), .slice A 2 cap] w fun r w' => ∃ s c, r = .returned (.tuple #[.agg #[.int .i64 t1.k, .int .i64 t1.lo, .int .i64 t1.hi, .string t1.name], .agg #[.int .i64 s.k, .int .i64 s.lo, .int .i64 s.hi, .string s.name], .int .i64 c]) ∧ (c = if c1 ≠ 0 then c1 else c2) ∧ (c1 = 0 → s = t2) ∧ Below w.heap.size w w' := by
  obtain ⟨hz4, hz5, k0⟩ := two_new w [.int .i64 0, .int .i64 0, .int .i64 0, .string ⟨#[]⟩] [.int .i64 0, .int .i64 0, .int .i64 0, .string ⟨#[]⟩] 44 44
  have K0 := Aid.hid k0
  have HZ4 := Aid.hid hz4
  have HZ5 := Aid.hid hz5
  have HC := Aid.hid (hX _ t1 c1 h1 (h.below k0))
  have H2 := Aid.hid h2
  have H := Aid.hid h
  have HE := Aid.hid he
  have HYH := Aid.hid hY
  obtain ⟨eb0, off0, rfl, hlt, hc, hs⟩ := Ex.at1 (he.below k0 h.le) (i := 0) (e := x) (by rw [hl]; rfl)
  have HS := Aid.hid hs
  have c0 := hc 0 _ rfl
  have d1 := hc 1 _ rfl
  have d2 := hc 2 _ rfl
  have d3 := hc 3 _ rfl
  have d4 := hc 4 _ rfl
  simp only [Nat.add_zero, Nat.zero_mul] at c0 d1 d2 d3 d4
  have hB : B ≤ w.heap.size := h.le
  clear hX hY h h1 h2 he k0 hz4 hz5 hc hs
  go_enter Tryz.func106, Tryz.ntmps106
  try simp only [List.append_eq, List.cons_append, List.nil_append]
  go_wp2_with fail
  refine (HC.out HS.out).mono ?_; rintro _ w1 ⟨rfl, hb1⟩
  have KW := Aid.hid (K0.out.trans (hb1.mono K0.out.size))
  have hz4 := HZ4.out.below hb1 HZ4.out.lt
  have hz5 := HZ5.out.below hb1 HZ5.out.lt
  clear hb1 HC HZ4 HZ5 K0 c0 d1 d2 d3 d4 HS
  have n4 := hz4.alloc (.cells #[.int .i64 t1.k, .int .i64 t1.lo, .int .i64 t1.hi, .string t1.name] 44)
  have n5 := hz5.alloc (.cells #[.int .i64 t1.k, .int .i64 t1.lo, .int .i64 t1.hi, .string t1.name] 44)
  have n7 := Aid.Has.new w1 [.int .i64 t1.k, .int .i64 t1.lo, .int .i64 t1.hi, .string t1.name] 44
  have KN := KW.out.alloc KW.out.size (.cells #[.int .i64 t1.k, .int .i64 t1.lo, .int .i64 t1.hi, .string t1.name] 44)
  have l1 := hz5.lt
  have lW : w.heap.size ≤ w1.heap.size := KW.out.size
  obtain ⟨W, hW⟩ : ∃ W, w1.alloc (.cells #[.int .i64 t1.k, .int .i64 t1.lo, .int .i64 t1.hi, .string t1.name] 44) = W := ⟨_, rfl⟩
  rw [hW] at n4 n5 n7 KN
  by_cases hc : c1 = 0
  · subst hc
    have hy : ∃ eb off, (some ⟨eb0, off0, none⟩ : Option Addr) = some ⟨eb, off, none⟩ ∧ eb < B ∧ (∀ j v, [.int .i64 y.k, .int .i64 y.n, .string y.name, .string y.what, .slice y.A y.args.length y.c][j]? = some v → W.cell? ⟨eb, off + 1 * 5 + j, none⟩ = some v) ∧ ExsAt f W B y.A y.args := Ex.at1 (HE.out.below KN hB) (i := 1) (e := y) (by rw [hl]; rfl)
    obtain ⟨_, _, he, _, hc, hs⟩ := hy
    simp only [Option.some.injEq, Addr.mk.injEq, and_true] at he
    obtain ⟨rfl, rfl⟩ := he
    have HS := Aid.hid hs
    have c0 := hc 0 _ rfl
    have d1 := hc 1 _ rfl
    have d2 := hc 2 _ rfl
    have d3 := hc 3 _ rfl
    have d4 := hc 4 _ rfl
    simp only [Nat.add_zero, Nat.one_mul] at c0 d1 d2 d3 d4
    have HC := Aid.hid (HYH.out W t2 c2 H2.out (H.out.below KN) HS.out)
    have N := Aid.hid (⟨n4, n5, KN⟩ : _ ∧ _ ∧ _)
    have N7 := Aid.hid n7
    clear n4 n5 n7 KN hz4 hz5 hc hs HYH
    go_wp2_with fail
    clear hW
    refine HC.out.mono ?_; rintro _ w2 ⟨rfl, hb2⟩
    obtain ⟨m4, m5, KN⟩ := N.out
    have q4 := (m4.below hb2 m4.lt).alloc (.cells #[.int .i64 t2.k, .int .i64 t2.lo, .int .i64 t2.hi, .string t2.name] 44)
    have q5 := (m5.below hb2 m5.lt).alloc (.cells #[.int .i64 t2.k, .int .i64 t2.lo, .int .i64 t2.hi, .string t2.name] 44)
    have q7 := (N7.out.below hb2 N7.out.lt).alloc (.cells #[.int .i64 t2.k, .int .i64 t2.lo, .int .i64 t2.hi, .string t2.name] 44)
    have q9 := Aid.Has.new w2 [.int .i64 t2.k, .int .i64 t2.lo, .int .i64 t2.hi, .string t2.name] 44
    have K2 := KN.trans (hb2.mono KN.size)
    have KM := K2.alloc K2.size (.cells #[.int .i64 t2.k, .int .i64 t2.lo, .int .i64 t2.hi, .string t2.name] 44)
    have lW2 : w1.heap.size < w2.heap.size := (N7.out.below hb2 N7.out.lt).lt
    clear m4 m5 KN K2 N N7 hb2 HC c0 d1 d2 d3 d4
    obtain ⟨Y, hY⟩ : ∃ Y, w2.alloc (.cells #[.int .i64 t2.k, .int .i64 t2.lo, .int .i64 t2.hi, .string t2.name] 44) = Y := ⟨_, rfl⟩
    rw [hY] at q4 q5 q7 q9 KM
    have g0 := q7.cell 0 _ rfl
    have g1 := q7.cell 1 _ rfl
    have g2 := q7.cell 2 _ rfl
    have g3 := q7.cell 3 _ rfl
    have i0 := q9.cell 0 _ rfl
    have i1 := q9.cell 1 _ rfl
    have i2 := q9.cell 2 _ rfl
    have i3 := q9.cell 3 _ rfl
    have lt4 := q4.lt
    have lt5 := q5.lt
    have lt7 := q7.lt
    have lt9 := q9.lt
    have a40 := q4.cell 0 _ rfl
    have f40 := q4.frozen 0
    have a41 := q4.cell 1 _ rfl
    have f41 := q4.frozen 1
    have a42 := q4.cell 2 _ rfl
    have f42 := q4.frozen 2
    have a43 := q4.cell 3 _ rfl
    have f43 := q4.frozen 3
    have a50 := q5.cell 0 _ rfl
    have f50 := q5.frozen 0
    have a51 := q5.cell 1 _ rfl
    have f51 := q5.frozen 1
    have a52 := q5.cell 2 _ rfl
    have f52 := q5.frozen 2
    have a53 := q5.cell 3 _ rfl
    have f53 := q5.frozen 3
    have N := Aid.hid (⟨q4, q5, KM⟩ : _ ∧ _ ∧ _)
    clear q4 q5 q7 q9 KM
    go_wp2_with fail
    clear hY
    go_region
    obtain ⟨m4, m5, KM⟩ := N.out
    have r4 := (other4 (g := w.heap.size + 1) (.int .i64 t2.k) (.int .i64 t2.lo) (.int .i64 t2.hi) (.string t2.name) (set4 (.int .i64 t1.k) (.int .i64 t1.lo) (.int .i64 t1.hi) (.string t1.name) m4) (by omega)).drew
    have r5 := (set4 (.int .i64 t2.k) (.int .i64 t2.lo) (.int .i64 t2.hi) (.string t2.name) (other4 (g := w.heap.size) (.int .i64 t1.k) (.int .i64 t1.lo) (.int .i64 t1.hi) (.string t1.name) m5 (by omega))).drew
    have rb := (below4 (g := w.heap.size + 1) (.int .i64 t2.k) (.int .i64 t2.lo) (.int .i64 t2.hi) (.string t2.name) (below4 (g := w.heap.size) (.int .i64 t1.k) (.int .i64 t1.lo) (.int .i64 t1.hi) (.string t1.name) KM (Nat.le_refl _)) (by omega)).drew
    have R := Aid.hid (⟨r4, r5, rb⟩ : _ ∧ _ ∧ _)
    clear r4 r5 rb m4 m5 KM N
    go_wp2_with fail
    refine bodyPost_ret (v := _) (results_row22 rfl _ _ w.heap.size (w.heap.size + 1) 44 _ _ (0, 0) (0, 0) _ _ rfl rfl rfl R.out.1 R.out.2.1 Tryz.underlying44 rfl (by kernel_rfl) (by kernel_rfl)) rfl ⟨t2, c2, rfl, by simp, by first | exact ⟨fun _ => rfl, R.out.2.2⟩ | exact ⟨rfl, R.out.2.2⟩ | exact R.out.2.2⟩
  · have g0 := n7.cell 0 _ rfl
    have g1 := n7.cell 1 _ rfl
    have g2 := n7.cell 2 _ rfl
    have g3 := n7.cell 3 _ rfl
    have lt4 := n4.lt
    have lt5 := n5.lt
    have lt7 := n7.lt
    have a40 := n4.cell 0 _ rfl
    have f40 := n4.frozen 0
    have a41 := n4.cell 1 _ rfl
    have f41 := n4.frozen 1
    have a42 := n4.cell 2 _ rfl
    have f42 := n4.frozen 2
    have a43 := n4.cell 3 _ rfl
    have f43 := n4.frozen 3
    have a50 := n5.cell 0 _ rfl
    have f50 := n5.frozen 0
    have a51 := n5.cell 1 _ rfl
    have f51 := n5.frozen 1
    have a52 := n5.cell 2 _ rfl
    have f52 := n5.frozen 2
    have a53 := n5.cell 3 _ rfl
    have f53 := n5.frozen 3
    have N := Aid.hid (⟨n4, n5, KN⟩ : _ ∧ _ ∧ _)
    clear n4 n5 n7 KN hz4 hz5
    go_wp2_with fail
    clear hW
    go_region
    obtain ⟨m4, m5, KM⟩ := N.out
    have r4 := (other4 (g := w.heap.size + 1) (.int .i64 t1.k) (.int .i64 t1.lo) (.int .i64 t1.hi) (.string t1.name) (set4 (.int .i64 t1.k) (.int .i64 t1.lo) (.int .i64 t1.hi) (.string t1.name) m4) (by omega)).drew
    have r5 := (set4 (.int .i64 t1.k) (.int .i64 t1.lo) (.int .i64 t1.hi) (.string t1.name) (other4 (g := w.heap.size) (.int .i64 t1.k) (.int .i64 t1.lo) (.int .i64 t1.hi) (.string t1.name) m5 (by omega))).drew
    have rb := (below4 (g := w.heap.size + 1) (.int .i64 t1.k) (.int .i64 t1.lo) (.int .i64 t1.hi) (.string t1.name) (below4 (g := w.heap.size) (.int .i64 t1.k) (.int .i64 t1.lo) (.int .i64 t1.hi) (.string t1.name) KM (Nat.le_refl _)) (by omega)).drew
    have R := Aid.hid (⟨r4, r5, rb⟩ : _ ∧ _ ∧ _)
    clear r4 r5 rb m4 m5 KM N
    go_wp2_with fail
    refine bodyPost_ret (v := _) (results_row22 rfl _ _ w.heap.size (w.heap.size + 1) 44 _ _ (0, 0) (0, 0) _ _ rfl rfl rfl R.out.1 R.out.2.1 Tryz.underlying44 rfl (by kernel_rfl) (by kernel_rfl)) rfl ⟨t1, c1, rfl, by first | exact ⟨by simp [hc], fun hq => absurd hq hc, R.out.2.2⟩ | exact ⟨by simp [hc], R.out.2.2⟩ | exact R.out.2.2⟩
set_option maxRecDepth 100000 in
set_option maxHeartbeats 4000000 in
theorem binary_is (f B b : Nat) (p : Pl) (a : Pa) (e x y : Ex) (t1 t2 t : Ty) (c1 c2 c : Int) (w : World) (hX : ExOK f B b p a x) (hY : ExOK f B b p a y) (h1 : Ty.expr p x = (t1, c1)) (h2 : Ty.expr p y = (t2, c2)) (hr : Ty.bin e.n (t1, c1) (t2, c2) = (t, c)) (h : PlAt w B b p a) (he : ExsAt (f + 1) w B e.A e.args) (hl : e.args = [x, y]) :
    Calls Tryz.prog 100 #[.pointer (some ⟨b, 0, none⟩), .agg #[.int .i64 e.k, .int .i64 e.n, .string e.name, .string e.what, .slice e.A e.args.length e.c]] w fun r w' => r = .returned (.tuple #[.agg #[.int .i64 t.k, .int .i64 t.lo, .int .i64 t.hi, .string t.name], .int .i64 c]) ∧ Below w.heap.size w w' := by
  obtain ⟨P0, hz, k0⟩ := two_new w [.int .i64 e.k, .int .i64 e.n, .string e.name, .string e.what, .slice e.A e.args.length e.c] [.int .i64 0, .int .i64 0, .int .i64 0, .string ⟨#[]⟩] 79 44
  have hlen : e.args.length = 2 := by rw [hl]; rfl
  have HC := Aid.hid (both_is f B b p a e.args x y e.A e.c t1 t2 c1 c2 _ hX hY h1 h2 (h.below k0) (he.below k0 h.le) hl)
  rw [hlen] at P0 hz k0 HC ⊢
  have HR := Aid.hid hr
  have K0 := Aid.hid k0
  have HZ := Aid.hid hz
  have HP := Aid.hid P0
  clear hX hY h1 h2 hr h he hl k0 hz P0 hlen
  go_enter Tryz.func100, Tryz.ntmps100
  try simp only [List.append_eq, List.cons_append, List.nil_append]
  go_wp2_with fail
  refine HC.out.mono ?_; rintro _ w1 ⟨s, cb, rfl, hcb, hs, hb1⟩
  have KW := Aid.hid (K0.out.trans (hb1.mono K0.out.size))
  have hs1 : w.heap.size ≤ w1.heap.size := KW.out.size
  obtain ⟨q6, q7, kk⟩ := two_new w1 [.int .i64 t1.k, .int .i64 t1.lo, .int .i64 t1.hi, .string t1.name] [.int .i64 s.k, .int .i64 s.lo, .int .i64 s.hi, .string s.name] 44 44
  have hz := (HZ.out.below hb1 HZ.out.lt).below kk (HZ.out.below hb1 HZ.out.lt).lt
  have hp := (HP.out.below hb1 HP.out.lt).below kk (HP.out.below hb1 HP.out.lt).lt
  have KX := KW.out.trans (kk.mono KW.out.size)
  have hln : w.heap.size + 1 < w1.heap.size := (HZ.out.below hb1 HZ.out.lt).lt
  clear HC K0 HZ HP KW hb1 kk
  obtain ⟨X, hX⟩ : ∃ X, (w1.alloc (.cells #[.int .i64 t1.k, .int .i64 t1.lo, .int .i64 t1.hi, .string t1.name] 44)).alloc (.cells #[.int .i64 s.k, .int .i64 s.lo, .int .i64 s.hi, .string s.name] 44) = X := ⟨_, rfl⟩
  rw [hX] at q6 q7 hz hp KX
  have HCB := Aid.hid hcb
  have HS := Aid.hid hs
  have HZ := Aid.hid hz
  have KW := Aid.hid KX
  have n1 := hp.cell 1 _ rfl
  have lp := hp.lt
  have g0 := q6.cell 0 _ rfl
  have i0 := q7.cell 0 _ rfl
  have lt6 := q6.lt
  have lt7 := q7.lt
  clear hcb hs hz KX hp q6 q7
  by_cases hc : cb = 0
  · subst hc
    have e1 : c1 = 0 ∧ c2 = 0 := by
      have h := HCB.out
      by_cases h1 : c1 = 0
      · exact ⟨h1, by rw [if_neg (by simp [h1])] at h; exact h.symm⟩
      · rw [if_pos h1] at h; exact absurd h.symm h1
    obtain ⟨rfl, rfl⟩ := e1
    obtain rfl := HS.out rfl
    clear HCB HS
    go_wp2_with fail
    all_goals clear hX
    all_goals first
      | (have E : Aid.Kept (Ty.none_ = t ∧ 14 = c) := (by have h := HR.out; clear HR HZ KW n1 lp g0 i0 lt6 lt7 hs1 hln; unfold Aid.Kept; simp_all [Ty.bin, Ty.opk]; done)
         obtain ⟨rfl, rfl⟩ := E.out
         refine (wrong_x 14 _).mono ?_; rintro _ w8 ⟨rfl, hb8⟩
         have HZ8 := Aid.hid ((HZ.out).below hb8 (HZ.out).lt)
         have KW8 := Aid.hid ((KW.out).trans (hb8.mono (KW.out).size))
         clear hb8
         go_wp2_with (refine wpList_store_row rfl 44 _ _ rfl (w.heap.size + 1) _ rfl rfl 44 _ (HZ8.out) (by kernel_rfl) rfl (by simp [Value.oneCell']) ?_)
         refine bodyPost_ret (v := _) (results_row2 rfl _ _ (w.heap.size + 1) 44 _ (0, 0) _ _ rfl rfl (row_has (HZ8.out)) Tryz.underlying44 rfl (by kernel_rfl)) rfl ⟨rfl, row_below (KW8.out) (by omega) _⟩)
      | skip
    all_goals first
      | (have E : Aid.Kept (Ty.of 1 = t ∧ 0 = c) := (by have h := HR.out; clear HR HZ KW n1 lp g0 i0 lt6 lt7 hs1 hln; unfold Aid.Kept; simp_all [Ty.bin, Ty.opk]; done)
         obtain ⟨rfl, rfl⟩ := E.out
         refine (of_x 1 _).mono ?_; rintro _ w8 ⟨rfl, hb8⟩
         have HZ8 := Aid.hid ((HZ.out).below hb8 (HZ.out).lt)
         have KW8 := Aid.hid ((KW.out).trans (hb8.mono (KW.out).size))
         clear hb8
         go_wp2_with (refine wpList_store_row rfl 44 _ _ rfl (w.heap.size + 1) _ rfl rfl 44 _ (HZ8.out) (by kernel_rfl) rfl (by simp [Value.oneCell']) ?_)
         refine bodyPost_ret (v := _) (results_row2 rfl _ _ (w.heap.size + 1) 44 _ (0, 0) _ _ rfl rfl (row_has (HZ8.out)) Tryz.underlying44 rfl (by kernel_rfl)) rfl ⟨rfl, row_below (KW8.out) (by omega) _⟩)
      | (have E : Aid.Kept (Ty.of 2 = t ∧ 0 = c) := (by have h := HR.out; clear HR HZ KW n1 lp g0 i0 lt6 lt7 hs1 hln; unfold Aid.Kept; simp_all [Ty.bin, Ty.opk]; done)
         obtain ⟨rfl, rfl⟩ := E.out
         refine (of_x 2 _).mono ?_; rintro _ w8 ⟨rfl, hb8⟩
         have HZ8 := Aid.hid ((HZ.out).below hb8 (HZ.out).lt)
         have KW8 := Aid.hid ((KW.out).trans (hb8.mono (KW.out).size))
         clear hb8
         go_wp2_with (refine wpList_store_row rfl 44 _ _ rfl (w.heap.size + 1) _ rfl rfl 44 _ (HZ8.out) (by kernel_rfl) rfl (by simp [Value.oneCell']) ?_)
         refine bodyPost_ret (v := _) (results_row2 rfl _ _ (w.heap.size + 1) 44 _ (0, 0) _ _ rfl rfl (row_has (HZ8.out)) Tryz.underlying44 rfl (by kernel_rfl)) rfl ⟨rfl, row_below (KW8.out) (by omega) _⟩)
  · obtain ⟨rfl, rfl⟩ : Ty.none_ = t ∧ cb = c := by
      have h := HR.out
      have h' := HCB.out
      by_cases h1 : c1 = 0
      · subst h1
        rw [if_neg (by simp)] at h'
        subst h'
        simpa [Ty.bin, hc] using h
      · rw [if_pos h1] at h'
        subst h'
        simpa [Ty.bin, h1] using h
    go_wp2_with fail
    clear hX
    refine (wrong_x cb _).mono ?_; rintro _ w8 ⟨rfl, hb8⟩
    have HZ8 := Aid.hid ((HZ.out).below hb8 (HZ.out).lt)
    have KW8 := Aid.hid ((KW.out).trans (hb8.mono (KW.out).size))
    clear hb8
    go_wp2_with (refine wpList_store_row rfl 44 _ _ rfl (w.heap.size + 1) _ rfl rfl 44 _ (HZ8.out) (by kernel_rfl) rfl (by simp [Value.oneCell']) ?_)
    refine bodyPost_ret (v := _) (results_row2 rfl _ _ (w.heap.size + 1) 44 _ (0, 0) _ _ rfl rfl (row_has (HZ8.out)) Tryz.underlying44 rfl (by kernel_rfl)) rfl ⟨rfl, row_below (KW8.out) (by omega) _⟩

end Go.Proofs.YtejifefgmlpclaaGreat
