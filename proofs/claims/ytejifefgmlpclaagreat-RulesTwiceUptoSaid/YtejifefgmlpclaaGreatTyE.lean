/- Parts of typing, as walks: as, named. -/
import Derived.Test.YtejifefgmlpclaaGreatTyD
import Derived.StillTail
import Derived.StillTailTactics
import Derived.WalkKit
import Derived.WalkSpells
import Derived.WalkLawsBesides
import Derived.LoopTactic
import Derived.Deep.QuietTactic
import Derived.BigQuiet
import Derived.Below
import Derived.Laws.ResultCell
import Derived.Laws.Tables
import Derived.Laws.Rows
import Derived.Deep.Cut
import Derived.KernelRfl
set_option linter.unusedSimpArgs false
set_option linter.unusedVariables false
namespace Go.Proofs.YtejifefgmlpclaaGreat
open Go.RowKit

theorem PlAt.drew {w : World} {B b : Nat} {p : Pl} {a : Pa} (h : PlAt w B b p a) : PlAt w.drew B b p a := h.below (Below.refl _ _).drew
theorem ExsAt.drew {w : World} {f B : Nat} {A : Option Addr} {l : List Ex} (h : ExsAt f w B A l) : ExsAt f w.drew B A l := h.below (C := B) (Below.refl _ _).drew (Nat.le_refl _)

set_option maxRecDepth 100000 in
set_option maxHeartbeats 4000000 in
theorem cast_is (f B b : Nat) (p : Pl) (a : Pa) (e x : Ex) (t : Ty) (c : Int) (w : World) (hX : ExOK f B b p a x) (hr : Ty.cast p.u e.name (Ty.expr p x) = (t, c)) (h : PlAt w B b p a) (he : ExsAt (f + 1) w B e.A e.args) (hl : e.args = [x]) :
    Calls Tryz.prog 101 #[.pointer (some ⟨b, 0, none⟩), .agg #[.int .i64 e.k, .int .i64 e.n, .string e.name, .string e.what, .slice e.A e.args.length e.c]] w fun r w' => r = .returned (.tuple #[.agg #[.int .i64 t.k, .int .i64 t.lo, .int .i64 t.hi, .string t.name], .int .i64 c]) ∧ Below w.heap.size w w' := by
  obtain ⟨P0, hz, k0⟩ := two_new w [.int .i64 e.k, .int .i64 e.n, .string e.name, .string e.what, .slice e.A e.args.length e.c] [.int .i64 0, .int .i64 0, .int .i64 0, .string ⟨#[]⟩] 79 44
  obtain ⟨⟨s, cs⟩, hs⟩ : ∃ r, Ty.same (Ty.expr p x) 5 = r := ⟨_, rfl⟩
  have HSM := Aid.hid hs
  obtain ⟨r, htr⟩ : ∃ r, Tb.typed p.u e.name = r := ⟨_, rfl⟩
  have HTR := Aid.hid htr
  have hr2 : (if r = false then (Ty.none_, 13) else if cs ≠ 0 then (Ty.none_, cs) else ((⟨5, 0, 0, e.name⟩ : Ty), 0)) = (t, c) := by
    rw [← hr, Ty.cast, htr, hs]
  have HR := Aid.hid hr2
  have HH := Aid.hid h
  have HE := Aid.hid he
  have HL := Aid.hid hl
  have HX := Aid.hid hX
  have hlen : e.args.length = 1 := by rw [hl]; rfl
  rw [hlen] at P0 hz k0 ⊢
  have hP := h.below k0
  have a0 := hP.has.cell 0 _ rfl
  have b2 := P0.cell 2 _ rfl
  have l0 := hP.has.lt
  have l1 := P0.lt
  have hB : B ≤ w.heap.size := h.le
  obtain ⟨W, hW⟩ : ∃ W, (w.alloc (.cells #[.int .i64 e.k, .int .i64 e.n, .string e.name, .string e.what, .slice e.A 1 e.c] 79)).alloc (.cells #[.int .i64 0, .int .i64 0, .int .i64 0, .string ⟨#[]⟩] 44) = W := ⟨_, rfl⟩
  rw [hW] at P0 hz k0 hP a0 b2 l0 l1
  have N := Aid.hid (⟨P0, hz, k0⟩ : _ ∧ _ ∧ _)
  clear hX hr hr2 h he hl hs htr P0 hz k0 hP hlen
  go_enter Tryz.func101, Tryz.ntmps101
  try simp only [List.append_eq, List.cons_append, List.nil_append]
  go_wp2_with fail
  clear hW
  go_still_tail 6, (by kernel_rfl)
  change wpList _ _ _ _ _ W.drew
  obtain ⟨P0, hz, k0⟩ := N.out
  replace P0 := P0.drew
  replace hz := hz.drew
  replace k0 := k0.drew
  clear a0 b2 l0 l1 N
  generalize W.drew = w2 at *
  have N := Aid.hid (⟨P0, hz, k0⟩ : _ ∧ _ ∧ _)
  have HU := (HH.out.below k0).unit
  have hB2 := (HH.out.below k0).le
  clear P0 hz k0
  go_wp2_with fail
  refine (typed_is p.u a.uA B a.uc e.name r _ HTR.out HU hB2).mono ?_; rintro _ w3 ⟨rfl, hb3⟩
  obtain ⟨P0, hz, k0⟩ := N.out
  have K3 := Aid.hid (k0.trans (hb3.mono k0.size))
  have HZ := Aid.hid (hz.below hb3 hz.lt)
  have hp := P0.below hb3 P0.lt
  have ln : w.heap.size + 1 < w3.heap.size := HZ.out.lt
  have b2 := hp.cell 2 _ rfl
  have b4 := hp.cell 4 _ rfl
  have HP := Aid.hid hp
  clear hp P0 hz k0 hb3 N HU hB2
  cases r
  · obtain ⟨rfl, rfl⟩ : Ty.none_ = t ∧ 13 = c := by have := HR.out; simpa using this
    go_wp2_with fail
    refine (wrong_x 13 _).mono ?_; rintro _ w8 ⟨rfl, hb8⟩
    have HZ8 := Aid.hid ((HZ.out).below hb8 (HZ.out).lt)
    have KW8 := Aid.hid ((K3.out).trans (hb8.mono (K3.out).size))
    clear hb8
    go_wp2_with (refine wpList_store_row rfl 44 _ _ rfl (w.heap.size + 1) _ rfl rfl 44 _ (HZ8.out) (by kernel_rfl) rfl (by simp [Value.oneCell']) ?_)
    refine bodyPost_ret (v := _) (results_row2 rfl _ _ (w.heap.size + 1) 44 _ (0, 0) _ _ rfl rfl (row_has (HZ8.out)) Tryz.underlying44 rfl (by kernel_rfl)) rfl ⟨rfl, row_below (KW8.out) (by omega) _⟩
  · obtain ⟨eb, off, hA, hlt, hc, hs⟩ := Ex.at1 (HE.out.below K3.out hB) (i := 0) (e := x) (by rw [HL.out]; rfl)
    have HC := Aid.hid (same_is f B b p a x 5 s cs _ HX.out HSM.out (HH.out.below K3.out) hs)
    rw [hA] at b4
    have c0 := hc 0 _ rfl
    have d1 := hc 1 _ rfl
    have d2 := hc 2 _ rfl
    have d3 := hc 3 _ rfl
    have d4 := hc 4 _ rfl
    simp only [Nat.add_zero, Nat.zero_mul] at c0 d1 d2 d3 d4
    have lb : eb < w3.heap.size := by have := K3.out.size; omega
    clear hc hs hA
    go_wp2_with fail
    refine HC.out.mono ?_; rintro _ w4 ⟨rfl, hb4⟩
    have K4 := Aid.hid (K3.out.trans (hb4.mono K3.out.size))
    have HZ4 := Aid.hid (HZ.out.below hb4 HZ.out.lt)
    have hp4 := HP.out.below hb4 HP.out.lt
    have b2 := hp4.cell 2 _ rfl
    have lp := hp4.lt
    have hs4 : w.heap.size ≤ w4.heap.size := K4.out.size
    clear hb4 HC c0 d1 d2 d3 d4 b4 hp4 K3 HZ
    by_cases hc : cs = 0
    · subst hc
      obtain ⟨rfl, rfl⟩ : (⟨5, 0, 0, e.name⟩ : Ty) = t ∧ 0 = c := by have := HR.out; simpa using this
      go_wp2_with (refine wpList_store_row rfl 44 _ _ rfl (w.heap.size + 1) _ rfl rfl 44 _ (HZ4.out.alloc _) (by kernel_rfl) rfl (by simp [Value.oneCell']) ?_)
      refine bodyPost_ret (v := _) (results_row2 rfl _ _ (w.heap.size + 1) 44 _ (0, 0) _ _ rfl rfl (row_has (HZ4.out.alloc _)) Tryz.underlying44 rfl (by kernel_rfl)) rfl ⟨rfl, row_below (K4.out.alloc hs4 _) (by omega) _⟩
    · obtain ⟨rfl, rfl⟩ : Ty.none_ = t ∧ cs = c := by have := HR.out; simpa [hc] using this
      go_wp2_with fail
      refine (wrong_x cs _).mono ?_; rintro _ w8 ⟨rfl, hb8⟩
      have HZ8 := Aid.hid ((HZ4.out.alloc _).below hb8 (HZ4.out.alloc _).lt)
      have KW8 := Aid.hid ((K4.out.alloc hs4 _).trans (hb8.mono (K4.out.alloc hs4 _).size))
      clear hb8
      go_wp2_with (refine wpList_store_row rfl 44 _ _ rfl (w.heap.size + 1) _ rfl rfl 44 _ (HZ8.out) (by kernel_rfl) rfl (by simp [Value.oneCell']) ?_)
      refine bodyPost_ret (v := _) (results_row2 rfl _ _ (w.heap.size + 1) 44 _ (0, 0) _ _ rfl rfl (row_has (HZ8.out)) Tryz.underlying44 rfl (by kernel_rfl)) rfl ⟨rfl, row_below (KW8.out) (by omega) _⟩

set_option maxRecDepth 100000 in
set_option maxHeartbeats 4000000 in
theorem named_is (f B b : Nat) (p : Pl) (a : Pa) (e : Ex) (o : Option Vd) (t : Ty) (c : Int) (w : World) (hX : e.k = 6 → ∃ x, e.args = [x] ∧ ExOK f B b p a x) (ho : p.var e.name = o) (hr : Ty.named e.k o (Ty.hd (e.args.map (Ty.expr p))) = (t, c)) (h : PlAt w B b p a) (he : ExsAt (f + 1) w B e.A e.args) :
    Calls Tryz.prog 102 #[.pointer (some ⟨b, 0, none⟩), .agg #[.int .i64 e.k, .int .i64 e.n, .string e.name, .string e.what, .slice e.A e.args.length e.c]] w fun r w' => r = .returned (.tuple #[.agg #[.int .i64 t.k, .int .i64 t.lo, .int .i64 t.hi, .string t.name], .int .i64 c]) ∧ Below w.heap.size w w' := by
  obtain ⟨P0, hz, k0⟩ := two_new w [.int .i64 e.k, .int .i64 e.n, .string e.name, .string e.what, .slice e.A e.args.length e.c] [.int .i64 0, .int .i64 0, .int .i64 0, .string ⟨#[]⟩] 79 44
  have HP := Aid.hid P0
  have HZ := Aid.hid hz
  have K0 := Aid.hid k0
  have HH := Aid.hid h
  have HE := Aid.hid he
  have HR := Aid.hid hr
  have HX := Aid.hid hX
  have HO := Aid.hid ho
  have hB : B ≤ w.heap.size := h.le
  clear hX ho hr h he P0 hz k0
  go_enter Tryz.func102, Tryz.ntmps102
  try simp only [List.append_eq, List.cons_append, List.nil_append]
  go_wp2_with fail
  cases o with
  | none =>
    refine (visible_x B b p a e.name none Vd.zero false _ (HH.out.below K0.out) HO.out rfl rfl).mono ?_; rintro _ w1 ⟨rfl, hb1⟩
    obtain ⟨rfl, rfl⟩ : Ty.none_ = t ∧ 13 = c := by have := HR.out; simpa [Ty.named] using this
    have KW := Aid.hid (K0.out.trans (hb1.mono K0.out.size))
    have HZ1 := Aid.hid (HZ.out.below hb1 HZ.out.lt)
    have hs1 : w.heap.size ≤ w1.heap.size := KW.out.size
    clear hb1
    go_wp2_with fail
    refine (wrong_x 13 _).mono ?_; rintro _ w8 ⟨rfl, hb8⟩
    have HZ8 := Aid.hid ((HZ1.out.alloc _).below hb8 (HZ1.out.alloc _).lt)
    have KW8 := Aid.hid ((KW.out.alloc hs1 _).trans (hb8.mono (KW.out.alloc hs1 _).size))
    clear hb8
    go_wp2_with (refine wpList_store_row rfl 44 _ _ rfl (w.heap.size + 1) _ rfl rfl 44 _ (HZ8.out) (by kernel_rfl) rfl (by simp [Value.oneCell']) ?_)
    refine bodyPost_ret (v := _) (results_row2 rfl _ _ (w.heap.size + 1) 44 _ (0, 0) _ _ rfl rfl (row_has (HZ8.out)) Tryz.underlying44 rfl (by kernel_rfl)) rfl ⟨rfl, row_below (KW8.out) (by omega) _⟩
  | some v =>
    refine (visible_x B b p a e.name (some v) v true _ (HH.out.below K0.out) HO.out rfl rfl).mono ?_; rintro _ w1 ⟨rfl, hb1⟩
    have kw1 := K0.out.trans (hb1.mono K0.out.size)
    have hz1 := HZ.out.below hb1 HZ.out.lt
    have hp1 := HP.out.below hb1 HP.out.lt
    obtain ⟨n6, n8, kk⟩ := two_new w1 [.string v.name, .int .i64 v.ty.k, .int .i64 v.ty.lo, .int .i64 v.ty.hi, .string v.ty.name, .int .i64 v.init, .int .i64 v.dir, .int .i64 v.slot] [.int .i64 v.ty.k, .int .i64 v.ty.lo, .int .i64 v.ty.hi, .string v.ty.name] 55 44
    have kx := kw1.trans (kk.mono kw1.size)
    have hz := hz1.below kk hz1.lt
    have hp := hp1.below kk hp1.lt
    have ln : w.heap.size + 1 < w1.heap.size := hz1.lt
    obtain ⟨X, hX⟩ : ∃ X, (w1.alloc (.cells #[.string v.name, .int .i64 v.ty.k, .int .i64 v.ty.lo, .int .i64 v.ty.hi, .string v.ty.name, .int .i64 v.init, .int .i64 v.dir, .int .i64 v.slot] 55)).alloc (.cells #[.int .i64 v.ty.k, .int .i64 v.ty.lo, .int .i64 v.ty.hi, .string v.ty.name] 44) = X := ⟨_, rfl⟩
    rw [hX] at n8 kx hz hp
    have b0 := hp.cell 0 _ rfl
    have b4 := hp.cell 4 _ rfl
    have lp := hp.lt
    have l8 := n8.lt
    have i0 := n8.cell 0 _ rfl
    have i1 := n8.cell 1 _ rfl
    have i2 := n8.cell 2 _ rfl
    have i3 := n8.cell 3 _ rfl
    have KX := Aid.hid kx
    have HZX := Aid.hid hz
    obtain ⟨q6, h6⟩ : ∃ q, (e.k == 6) = q := ⟨_, rfl⟩
    clear hb1 kw1 hz1 hp1 n6 n8 kk kx hz hp HZ HP K0
    cases q6
    · clear HX HE HH HO
      go_wp2_with (refine wpList_store_row rfl 44 _ _ rfl (w.heap.size + 1) _ rfl rfl 44 _ (HZX.out) (by kernel_rfl) rfl (by simp [Value.oneCell']) ?_)
      all_goals clear hX
      all_goals first
        | (have E : Aid.Kept (Ty.none_ = t ∧ 14 = c) := (by have h := HR.out; clear HR HZX KX b0 b4 lp l8 i0 i1 i2 i3 ln; unfold Aid.Kept; first | (simp_all [Ty.named]; done) | (simp only [beq_iff_eq, beq_eq_false_iff_ne] at *; simp [Ty.named, *] at h; exact h))
           obtain ⟨rfl, rfl⟩ := E.out
           refine (wrong_x 14 _).mono ?_; rintro _ w8 ⟨rfl, hb8⟩
           have HZ8 := Aid.hid ((HZX.out).below hb8 (HZX.out).lt)
           have KW8 := Aid.hid ((KX.out).trans (hb8.mono (KX.out).size))
           clear hb8
           go_wp2_with (refine wpList_store_row rfl 44 _ _ rfl (w.heap.size + 1) _ rfl rfl 44 _ (HZ8.out) (by kernel_rfl) rfl (by simp [Value.oneCell']) ?_)
           refine bodyPost_ret (v := _) (results_row2 rfl _ _ (w.heap.size + 1) 44 _ (0, 0) _ _ rfl rfl (row_has (HZ8.out)) Tryz.underlying44 rfl (by kernel_rfl)) rfl ⟨rfl, row_below (KW8.out) (by omega) _⟩)
        | (have E : Aid.Kept (Ty.of 1 = t ∧ 0 = c) := (by have h := HR.out; clear HR HZX KX b0 b4 lp l8 i0 i1 i2 i3 ln; unfold Aid.Kept; first | (simp_all [Ty.named]; done) | (simp only [beq_iff_eq, beq_eq_false_iff_ne] at *; simp [Ty.named, *] at h; exact h))
           obtain ⟨rfl, rfl⟩ := E.out
           refine (of_x 1 _).mono ?_; rintro _ w8 ⟨rfl, hb8⟩
           have HZ8 := Aid.hid ((HZX.out).below hb8 (HZX.out).lt)
           have KW8 := Aid.hid ((KX.out).trans (hb8.mono (KX.out).size))
           clear hb8
           go_wp2_with (refine wpList_store_row rfl 44 _ _ rfl (w.heap.size + 1) _ rfl rfl 44 _ (HZ8.out) (by kernel_rfl) rfl (by simp [Value.oneCell']) ?_)
           refine bodyPost_ret (v := _) (results_row2 rfl _ _ (w.heap.size + 1) 44 _ (0, 0) _ _ rfl rfl (row_has (HZ8.out)) Tryz.underlying44 rfl (by kernel_rfl)) rfl ⟨rfl, row_below (KW8.out) (by omega) _⟩)
        | (have E : Aid.Kept (Ty.of 2 = t ∧ 0 = c) := (by have h := HR.out; clear HR HZX KX b0 b4 lp l8 i0 i1 i2 i3 ln; unfold Aid.Kept; first | (simp_all [Ty.named]; done) | (simp only [beq_iff_eq, beq_eq_false_iff_ne] at *; simp [Ty.named, *] at h; exact h))
           obtain ⟨rfl, rfl⟩ := E.out
           refine (of_x 2 _).mono ?_; rintro _ w8 ⟨rfl, hb8⟩
           have HZ8 := Aid.hid ((HZX.out).below hb8 (HZX.out).lt)
           have KW8 := Aid.hid ((KX.out).trans (hb8.mono (KX.out).size))
           clear hb8
           go_wp2_with (refine wpList_store_row rfl 44 _ _ rfl (w.heap.size + 1) _ rfl rfl 44 _ (HZ8.out) (by kernel_rfl) rfl (by simp [Value.oneCell']) ?_)
           refine bodyPost_ret (v := _) (results_row2 rfl _ _ (w.heap.size + 1) 44 _ (0, 0) _ _ rfl rfl (row_has (HZ8.out)) Tryz.underlying44 rfl (by kernel_rfl)) rfl ⟨rfl, row_below (KW8.out) (by omega) _⟩)
        | (have E : Aid.Kept (v.ty = t ∧ 0 = c) := (by have h := HR.out; clear HR HZX KX b0 b4 lp l8 i0 i1 i2 i3 ln; unfold Aid.Kept; first | (simp_all [Ty.named]; done) | (simp only [beq_iff_eq, beq_eq_false_iff_ne] at *; simp [Ty.named, *] at h; exact h))
           obtain ⟨rfl, rfl⟩ := E.out
           refine bodyPost_ret (v := _) (results_row2 rfl _ _ (w.heap.size + 1) 44 _ (0, 0) _ _ rfl rfl (row_has (HZX.out)) Tryz.underlying44 rfl (by kernel_rfl)) rfl ⟨rfl, row_below (KX.out) (by omega) _⟩)
        | (have E : Aid.Kept ((⟨5, 0, 0, v.ty.name⟩ : Ty) = t ∧ 0 = c) := (by have h := HR.out; clear HR HZX KX b0 b4 lp l8 i0 i1 i2 i3 ln; unfold Aid.Kept; first | (simp_all [Ty.named]; done) | (simp only [beq_iff_eq, beq_eq_false_iff_ne] at *; simp [Ty.named, *] at h; exact h))
           obtain ⟨rfl, rfl⟩ := E.out
           refine bodyPost_ret (v := _) (results_row2 rfl _ _ (w.heap.size + 1) 44 _ (0, 0) _ _ rfl rfl (row_has (HZX.out)) Tryz.underlying44 rfl (by kernel_rfl)) rfl ⟨rfl, row_below (KX.out) (by omega) _⟩)
    · have h66 : e.k = 6 := by simpa using h6
      have k5 : (e.k == 5) = false := by simp [h66]
      have k10 : (e.k == 10) = false := by simp [h66]
      have k11 : (e.k == 11) = false := by simp [h66]
      have k12 : (e.k == 12) = false := by simp [h66]
      obtain ⟨x, hl, hx⟩ := HX.out h66
      have hr := HR.out
      rw [hl] at hr
      have HR := Aid.hid (show Ty.named e.k (some v) (Ty.expr p x) = (t, c) from hr)
      obtain ⟨⟨s, cs⟩, hs⟩ : ∃ r, Ty.same (Ty.expr p x) 1 = r := ⟨_, rfl⟩
      obtain ⟨eb, off, hA, hlt, hc, hes⟩ := Ex.at1 (HE.out.below KX.out hB) (i := 0) (e := x) (by rw [hl]; rfl)
      have HC := Aid.hid (same_is f B b p a x 1 s cs _ hx hs (HH.out.below KX.out) hes)
      rw [hA, hl] at b4
      have c0 := hc 0 _ rfl
      have d1 := hc 1 _ rfl
      have d2 := hc 2 _ rfl
      have d3 := hc 3 _ rfl
      have d4 := hc 4 _ rfl
      simp only [Nat.add_zero, Nat.zero_mul] at c0 d1 d2 d3 d4
      have lb : eb < X.heap.size := by have := KX.out.size; omega
      obtain ⟨q4, h4⟩ : ∃ q, (v.ty.k == 4) = q := ⟨_, rfl⟩
      clear hr hc hes hx hA HX HE HH HO
      cases q4
      · obtain ⟨rfl, rfl⟩ : Ty.none_ = t ∧ 14 = c := by
          have := HR.out
          have h44 : ¬ v.ty.k = 4 := by simpa using h4
          simpa [Ty.named, h66, h44] using this
        clear h66 hs HC
        go_wp2_with fail
        clear hX
        refine (wrong_x 14 _).mono ?_; rintro _ w8 ⟨rfl, hb8⟩
        have HZ8 := Aid.hid ((HZX.out).below hb8 (HZX.out).lt)
        have KW8 := Aid.hid ((KX.out).trans (hb8.mono (KX.out).size))
        clear hb8
        go_wp2_with (refine wpList_store_row rfl 44 _ _ rfl (w.heap.size + 1) _ rfl rfl 44 _ (HZ8.out) (by kernel_rfl) rfl (by simp [Value.oneCell']) ?_)
        refine bodyPost_ret (v := _) (results_row2 rfl _ _ (w.heap.size + 1) 44 _ (0, 0) _ _ rfl rfl (row_has (HZ8.out)) Tryz.underlying44 rfl (by kernel_rfl)) rfl ⟨rfl, row_below (KW8.out) (by omega) _⟩
      · have hr2 : (if cs ≠ 0 then (Ty.none_, cs) else (Ty.of 1, 0)) = (t, c) := by
          have := HR.out
          have h44 : v.ty.k = 4 := by simpa using h4
          simpa [Ty.named, h66, h44, hs] using this
        have HR := Aid.hid hr2
        clear h66 hs hr2
        go_wp2_with fail
        clear hX
        refine HC.out.mono ?_; rintro _ w4 ⟨rfl, hb4⟩
        have K4 := Aid.hid (KX.out.trans (hb4.mono KX.out.size))
        have HZ4 := Aid.hid (HZX.out.below hb4 HZX.out.lt)
        have hs4 : w.heap.size ≤ w4.heap.size := K4.out.size
        clear hb4 HC b0 b4 lp l8 i0 i1 i2 i3 c0 d1 d2 d3 d4 lb
        by_cases hc : cs = 0
        · subst hc
          obtain ⟨rfl, rfl⟩ : Ty.of 1 = t ∧ 0 = c := by have := HR.out; simpa using this
          go_wp2_with fail
          refine (of_x 1 _).mono ?_; rintro _ w8 ⟨rfl, hb8⟩
          have HZ8 := Aid.hid ((HZ4.out.alloc _).below hb8 (HZ4.out.alloc _).lt)
          have KW8 := Aid.hid ((K4.out.alloc hs4 _).trans (hb8.mono (K4.out.alloc hs4 _).size))
          clear hb8
          go_wp2_with (refine wpList_store_row rfl 44 _ _ rfl (w.heap.size + 1) _ rfl rfl 44 _ (HZ8.out) (by kernel_rfl) rfl (by simp [Value.oneCell']) ?_)
          refine bodyPost_ret (v := _) (results_row2 rfl _ _ (w.heap.size + 1) 44 _ (0, 0) _ _ rfl rfl (row_has (HZ8.out)) Tryz.underlying44 rfl (by kernel_rfl)) rfl ⟨rfl, row_below (KW8.out) (by omega) _⟩
        · obtain ⟨rfl, rfl⟩ : Ty.none_ = t ∧ cs = c := by have := HR.out; simpa [hc] using this
          go_wp2_with fail
          refine (wrong_x cs _).mono ?_; rintro _ w8 ⟨rfl, hb8⟩
          have HZ8 := Aid.hid ((HZ4.out.alloc _).below hb8 (HZ4.out.alloc _).lt)
          have KW8 := Aid.hid ((K4.out.alloc hs4 _).trans (hb8.mono (K4.out.alloc hs4 _).size))
          clear hb8
          go_wp2_with (refine wpList_store_row rfl 44 _ _ rfl (w.heap.size + 1) _ rfl rfl 44 _ (HZ8.out) (by kernel_rfl) rfl (by simp [Value.oneCell']) ?_)
          refine bodyPost_ret (v := _) (results_row2 rfl _ _ (w.heap.size + 1) 44 _ (0, 0) _ _ rfl rfl (row_has (HZ8.out)) Tryz.underlying44 rfl (by kernel_rfl)) rfl ⟨rfl, row_below (KW8.out) (by omega) _⟩

end Go.Proofs.YtejifefgmlpclaaGreat
