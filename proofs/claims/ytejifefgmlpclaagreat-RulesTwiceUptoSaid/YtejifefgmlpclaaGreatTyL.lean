/- Parts of typing, as walks: a statement that changes a variable. -/
import Derived.Test.YtejifefgmlpclaaGreatTyJ
import Derived.StillTail
import Derived.StillTailTactics
import Derived.WalkKit
import Derived.WalkSpells
import Derived.WalkLawsBesides
import Derived.LoopTactic
import Derived.Deep.QuietTactic
import Derived.BigQuiet
import Derived.Below
import Derived.Laws.ResultCell
import Derived.Laws.Tables
import Derived.Laws.Rows
import Derived.Deep.Cut
import Derived.KernelRfl
set_option linter.unusedSimpArgs false
set_option linter.unusedVariables false
namespace Go.Proofs.YtejifefgmlpclaaGreat
open Go.RowKit

/-- Statements are answered as the program does. -/
def StsOK (f B b : Nat) (p : Pl) (a : Pa) (l : List St) : Prop :=
  ∀ (w : World) (A : Option Addr) (cap : Nat) (lo : Bool) (r : Int), Ty.stmts p lo l = r → PlAt w B b p a → StsAt f w B A l →
    Calls Tryz.prog 60 #[.pointer (some ⟨b, 0, none⟩), .slice A l.length cap, .bool lo] w fun z w' => z = .returned (.int .i64 r) ∧ Below w.heap.size w w'
theorem len1 {α : Type} : ∀ {l : List α}, l.length = 1 → ∃ x, l = [x]
  | [x], _ => ⟨x, rfl⟩
theorem len2' {α : Type} : ∀ {l : List α}, l.length = 2 → ∃ x y, l = [x, y]
  | [x, y], _ => ⟨x, y, rfl⟩
theorem ints_new (w : World) (xs : List Int) : IntsAt (w.alloc (.cells (xs.map (Value.int .i64)).toArray 3)) (w.alloc (.cells (xs.map (Value.int .i64)).toArray 3)).heap.size (some ⟨w.heap.size, 0, none⟩) xs := by
  have h := Aid.Has.new w (xs.map (Value.int .i64)) 3
  refine ⟨by simp, fun _ => ⟨_, rfl, by simp, fun j u hj => ?_⟩⟩
  rw [Go.WideShapes.add_plain, Nat.zero_add]
  exact h.cell j u hj
theorem Bk.at1 {w : World} {B : Nat} {A : Option Addr} {l : List Bk} (h : Rows w B 1 A (l.map Bk.cells)) {i : Nat} {x : Bk} (hi : l[i]? = some x) :
    ∃ g off, A = some ⟨g, off, none⟩ ∧ g < B ∧ w.cell? ⟨g, off + i, none⟩ = some (.slice x.A x.l.length x.c) := by
  obtain ⟨g, off, h1, h2, h3⟩ := h (by have := (List.getElem?_eq_some_iff.1 hi).1; simp; omega)
  have h4 := h3 i x.cells (by simp [hi]) 0 _ rfl
  simp only [Nat.add_zero, Nat.mul_one] at h4
  exact ⟨g, off, h1, h2, h4⟩

set_option maxRecDepth 100000 in
set_option maxHeartbeats 4000000 in
theorem changed_1 (f B b : Nat) (p : Pl) (a : Pa) (s : St) (r : Int) (w : World) (hk : s.k = 1) (hX : ∀ x ∈ s.es, ExOK f B b p a x) (hr : Ty.changed p s.k s.n s.name (s.es.map (Ty.expr p)) (s.bs.map fun x => Ty.stmts p true x.l) = r) (h : PlAt w B b p a) (he : ExsAt (f + 1) w B s.eA s.es) (hn : s.es.length = 1) :
    Calls Tryz.prog 78 #[.pointer (some ⟨b, 0, none⟩), .agg #[.int .i64 s.k, .int .i64 s.n, .string s.name, .slice s.eA s.es.length s.ec, .slice s.lA s.ls.length s.lc, .slice s.bA s.bs.length s.bc]] w fun z w' => z = .returned (.int .i64 r) ∧ Below w.heap.size w w' := by
  have k1 : (s.k == 1) = true := by simp [hk]
  have k2 : (s.k == 2) = false := by simp [hk]
  have k3 : (s.k == 3) = false := by simp [hk]
  have k11 : (s.k == 11) = false := by simp [hk]
  have k8 : (s.k == 8) = false := by simp [hk]
  have HKK := Aid.hid hk
  clear hk
  have HN := Aid.hid hn
  rw [hn]
  clear hn
  have n3 := Aid.Has.new w [.int .i64 s.k, .int .i64 s.n, .string s.name, .slice s.eA 1 s.ec, .slice s.lA s.ls.length s.lc, .slice s.bA s.bs.length s.bc] 60
  have k0 := below_new w (.cells #[.int .i64 s.k, .int .i64 s.n, .string s.name, .slice s.eA 1 s.ec, .slice s.lA s.ls.length s.lc, .slice s.bA s.bs.length s.bc] 60)
  have HR := Aid.hid hr
  have HX := Aid.hid hX
  have HH := Aid.hid h
  have HE := Aid.hid he

  have hB := h.le
  obtain ⟨W, hW⟩ : ∃ W, w.alloc (.cells #[.int .i64 s.k, .int .i64 s.n, .string s.name, .slice s.eA 1 s.ec, .slice s.lA s.ls.length s.lc, .slice s.bA s.bs.length s.bc] 60) = W := ⟨_, rfl⟩
  rw [hW] at n3 k0
  have b2 := n3.cell 2 _ rfl
  have l3 := n3.lt
  have N3 := Aid.hid n3
  have K0 := Aid.hid k0
  obtain ⟨o, ho⟩ : ∃ o, p.var s.name = o := ⟨_, rfl⟩
  have HO := Aid.hid ho
  clear hX hr h he n3 k0 ho
  go_enter Tryz.func78, Tryz.ntmps78
  try simp only [List.append_eq, List.cons_append, List.nil_append]
  go_wp2_with fail
  clear hW
  cases o with
  | none =>
    refine (visible_x B b p a s.name none Vd.zero false _ (HH.out.below K0.out) HO.out rfl rfl).mono ?_; rintro _ w1 ⟨rfl, hb1⟩
    obtain rfl : 13 = r := by have := HR.out; rw [Ty.changed, HO.out] at this; exact this
    have KW := Aid.hid ((K0.out.trans (hb1.mono K0.out.size)).alloc (K0.out.trans (hb1.mono K0.out.size)).size (.cells #[.string ⟨#[]⟩, .int .i64 0, .int .i64 0, .int .i64 0, .string ⟨#[]⟩, .int .i64 0, .int .i64 0, .int .i64 0] 55))
    clear hb1
    go_wp2_with fail
    go_ret
    exact ⟨rfl, KW.out⟩
  | some v =>
    refine (visible_x B b p a s.name (some v) v true _ (HH.out.below K0.out) HO.out rfl rfl).mono ?_; rintro _ w1 ⟨rfl, hb1⟩
    have k1 := K0.out.trans (hb1.mono K0.out.size)
    have n5 := Aid.Has.new w1 [.string v.name, .int .i64 v.ty.k, .int .i64 v.ty.lo, .int .i64 v.ty.hi, .string v.ty.name, .int .i64 v.init, .int .i64 v.dir, .int .i64 v.slot] 55
    have kx := k1.alloc k1.size (.cells #[.string v.name, .int .i64 v.ty.k, .int .i64 v.ty.lo, .int .i64 v.ty.hi, .string v.ty.name, .int .i64 v.init, .int .i64 v.dir, .int .i64 v.slot] 55)
    have n3 := (N3.out.below hb1 N3.out.lt).alloc (.cells #[.string v.name, .int .i64 v.ty.k, .int .i64 v.ty.lo, .int .i64 v.ty.hi, .string v.ty.name, .int .i64 v.init, .int .i64 v.dir, .int .i64 v.slot] 55)
    obtain ⟨X, hX⟩ : ∃ X, w1.alloc (.cells #[.string v.name, .int .i64 v.ty.k, .int .i64 v.ty.lo, .int .i64 v.ty.hi, .string v.ty.name, .int .i64 v.init, .int .i64 v.dir, .int .i64 v.slot] 55) = X := ⟨_, rfl⟩
    rw [hX] at n5 kx n3
    have hr := HR.out
    rw [Ty.changed, HO.out] at hr
    have i1 := n5.cell 1 _ rfl
    have i6 := n5.cell 6 _ rfl
    have l5 := n5.lt
    have b0 := n3.cell 0 _ rfl
    have b1 := n3.cell 1 _ rfl
    have b3 := n3.cell 3 _ rfl
    have b5 := n3.cell 5 _ rfl
    have l3 := n3.lt
    have KX := Aid.hid kx; have N5 := Aid.hid n5; have N3 := Aid.hid n3
    clear hb1 k1 b2 kx n5 n3 HR HO
    obtain ⟨x, hes⟩ := len1 HN.out
    obtain ⟨⟨t1, c1⟩, h1⟩ : ∃ q, Ty.expr p x = q := ⟨_, rfl⟩
    have hr2 : (if v.dir = 1 then (14 : Int) else if c1 = 0 ∧ Ty.fits p.u v.ty t1 = false then 14 else c1) = r := by rw [← hr]; simp [HKK.out, hes, Ty.hd, h1]
    have HRR := Aid.hid hr2
    obtain ⟨q1, hq1⟩ : ∃ q, (v.dir == 1) = q := ⟨_, rfl⟩
    cases q1
    · have hd : ¬ v.dir = 1 := by simpa using hq1
      have hr3 : (if c1 = 0 ∧ Ty.fits p.u v.ty t1 = false then (14 : Int) else c1) = r := by rw [← hr2, if_neg hd]
      have HRR := Aid.hid hr3
      obtain ⟨eb, off, hA, hebB, hc, hs⟩ := Ex.at1 (HE.out.below KX.out hB) (i := 0) (e := x) (by rw [hes]; rfl)
      have c0 := hc 0 _ rfl
      have d1 := hc 1 _ rfl
      have d2 := hc 2 _ rfl
      have d3 := hc 3 _ rfl
      have d4 := hc 4 _ rfl
      simp only [Nat.add_zero, Nat.zero_mul] at c0 d1 d2 d3 d4
      have leb : eb < X.heap.size := by have := KX.out.size; omega
      rw [hA] at b3
      have HC := Aid.hid (HX.out x (by rw [hes]; simp) X t1 c1 h1 (HH.out.below KX.out) hs)
      clear hr hr2 hr3 hd hes h1 hA hc hs HX
      go_wp2_with fail
      clear hX
      refine HC.out.mono ?_; rintro _ w2 ⟨rfl, hb2⟩
      have k2 := KX.out.trans (hb2.mono KX.out.size)
      have n8 := Aid.Has.new w2 [.int .i64 t1.k, .int .i64 t1.lo, .int .i64 t1.hi, .string t1.name] 44
      have ky := k2.alloc k2.size (.cells #[.int .i64 t1.k, .int .i64 t1.lo, .int .i64 t1.hi, .string t1.name] 44)
      have n5 := (N5.out.below hb2 N5.out.lt).alloc (.cells #[.int .i64 t1.k, .int .i64 t1.lo, .int .i64 t1.hi, .string t1.name] 44)
      obtain ⟨Y, hY⟩ : ∃ Y, w2.alloc (.cells #[.int .i64 t1.k, .int .i64 t1.lo, .int .i64 t1.hi, .string t1.name] 44) = Y := ⟨_, rfl⟩
      rw [hY] at n8 ky n5
      have KY := Aid.hid ky
      clear hb2 k2 HC c0 d1 d2 d3 d4 leb i1 i6 l5 b0 b1 b3 b5 l3 KX N5 N3
      by_cases hc : c1 = 0
      · subst hc
        obtain ⟨q, hq⟩ : ∃ q, Ty.fits p.u v.ty t1 = q := ⟨_, rfl⟩
        have HF := Aid.hid hq
        have hr : (if q = false then (14 : Int) else 0) = r := by have := HRR.out; rw [hq] at this; simpa using this
        have HRR := Aid.hid hr
        have HP := HH.out.below ky
        have a0 := HP.has.cell 0 _ rfl
        have la := HP.has.lt
        have i1 := n5.cell 1 _ rfl
        have i2 := n5.cell 2 _ rfl
        have i3 := n5.cell 3 _ rfl
        have i4 := n5.cell 4 _ rfl
        have l5 := n5.lt
        have j0 := n8.cell 0 _ rfl
        have j1 := n8.cell 1 _ rfl
        have j2 := n8.cell 2 _ rfl
        have j3 := n8.cell 3 _ rfl
        have l8 := n8.lt
        clear ky n5 n8 HP hq hr
        go_wp2_with fail
        clear hY
        go_still_tail 10, (by kernel_rfl)
        change wpList _ _ _ _ _ Y.drew
        have kx := KY.out.drew
        clear a0 la i1 i2 i3 i4 l5 j0 j1 j2 j3 l8 KY
        generalize Y.drew = w3 at *
        have HP := HH.out.below kx
        go_wp2_with fail
        refine (fits_is p.u a.uA B a.uc v.ty t1 q _ HF.out HP.unit HP.le).mono ?_; rintro _ w4 ⟨rfl, hb4⟩
        have K4 := Aid.hid (kx.trans (hb4.mono kx.size))
        clear kx hb4 HP
        cases q
        all_goals
          obtain rfl := HRR.out
          go_wp2_with fail
          go_ret
          exact ⟨rfl, K4.out⟩
      · obtain rfl : c1 = r := by have := HRR.out; simpa [hc] using this
        have hc2 : (c1 == 0) = false := by simpa using hc
        clear ky n5 n8
        go_wp2_with fail
        clear hY
        go_quiet (fail)
        go_wp2_with fail
        go_ret
        exact ⟨rfl, Fl_drewN KY.out _⟩
    · have hd : v.dir = 1 := by simpa using hq1
      obtain rfl : 14 = r := by rw [← hr2, if_pos hd]
      clear hr hr2 hd hes h1
      go_wp2_with fail
      go_ret
      exact ⟨rfl, KX.out⟩
set_option maxRecDepth 100000 in
set_option maxHeartbeats 4000000 in
theorem changed_2 (f B b : Nat) (p : Pl) (a : Pa) (s : St) (r : Int) (w : World) (hk : s.k = 2) (hX : ∀ x ∈ s.es, ExOK f B b p a x) (hr : Ty.changed p s.k s.n s.name (s.es.map (Ty.expr p)) (s.bs.map fun x => Ty.stmts p true x.l) = r) (h : PlAt w B b p a) (he : ExsAt (f + 1) w B s.eA s.es) (hn : s.es.length = 2) :
    Calls Tryz.prog 78 #[.pointer (some ⟨b, 0, none⟩), .agg #[.int .i64 s.k, .int .i64 s.n, .string s.name, .slice s.eA s.es.length s.ec, .slice s.lA s.ls.length s.lc, .slice s.bA s.bs.length s.bc]] w fun z w' => z = .returned (.int .i64 r) ∧ Below w.heap.size w w' := by
  have k1 : (s.k == 1) = false := by simp [hk]
  have k2 : (s.k == 2) = true := by simp [hk]
  have k3 : (s.k == 3) = false := by simp [hk]
  have k11 : (s.k == 11) = false := by simp [hk]
  have k8 : (s.k == 8) = false := by simp [hk]
  have HKK := Aid.hid hk
  clear hk
  have HN := Aid.hid hn
  rw [hn]
  clear hn
  have n3 := Aid.Has.new w [.int .i64 s.k, .int .i64 s.n, .string s.name, .slice s.eA 2 s.ec, .slice s.lA s.ls.length s.lc, .slice s.bA s.bs.length s.bc] 60
  have k0 := below_new w (.cells #[.int .i64 s.k, .int .i64 s.n, .string s.name, .slice s.eA 2 s.ec, .slice s.lA s.ls.length s.lc, .slice s.bA s.bs.length s.bc] 60)
  have HR := Aid.hid hr
  have HX := Aid.hid hX
  have HH := Aid.hid h
  have HE := Aid.hid he

  have hB := h.le
  obtain ⟨W, hW⟩ : ∃ W, w.alloc (.cells #[.int .i64 s.k, .int .i64 s.n, .string s.name, .slice s.eA 2 s.ec, .slice s.lA s.ls.length s.lc, .slice s.bA s.bs.length s.bc] 60) = W := ⟨_, rfl⟩
  rw [hW] at n3 k0
  have b2 := n3.cell 2 _ rfl
  have l3 := n3.lt
  have N3 := Aid.hid n3
  have K0 := Aid.hid k0
  obtain ⟨o, ho⟩ : ∃ o, p.var s.name = o := ⟨_, rfl⟩
  have HO := Aid.hid ho
  clear hX hr h he n3 k0 ho
  go_enter Tryz.func78, Tryz.ntmps78
  try simp only [List.append_eq, List.cons_append, List.nil_append]
  go_wp2_with fail
  clear hW
  cases o with
  | none =>
    refine (visible_x B b p a s.name none Vd.zero false _ (HH.out.below K0.out) HO.out rfl rfl).mono ?_; rintro _ w1 ⟨rfl, hb1⟩
    obtain rfl : 13 = r := by have := HR.out; rw [Ty.changed, HO.out] at this; exact this
    have KW := Aid.hid ((K0.out.trans (hb1.mono K0.out.size)).alloc (K0.out.trans (hb1.mono K0.out.size)).size (.cells #[.string ⟨#[]⟩, .int .i64 0, .int .i64 0, .int .i64 0, .string ⟨#[]⟩, .int .i64 0, .int .i64 0, .int .i64 0] 55))
    clear hb1
    go_wp2_with fail
    go_ret
    exact ⟨rfl, KW.out⟩
  | some v =>
    refine (visible_x B b p a s.name (some v) v true _ (HH.out.below K0.out) HO.out rfl rfl).mono ?_; rintro _ w1 ⟨rfl, hb1⟩
    have k1 := K0.out.trans (hb1.mono K0.out.size)
    have n5 := Aid.Has.new w1 [.string v.name, .int .i64 v.ty.k, .int .i64 v.ty.lo, .int .i64 v.ty.hi, .string v.ty.name, .int .i64 v.init, .int .i64 v.dir, .int .i64 v.slot] 55
    have kx := k1.alloc k1.size (.cells #[.string v.name, .int .i64 v.ty.k, .int .i64 v.ty.lo, .int .i64 v.ty.hi, .string v.ty.name, .int .i64 v.init, .int .i64 v.dir, .int .i64 v.slot] 55)
    have n3 := (N3.out.below hb1 N3.out.lt).alloc (.cells #[.string v.name, .int .i64 v.ty.k, .int .i64 v.ty.lo, .int .i64 v.ty.hi, .string v.ty.name, .int .i64 v.init, .int .i64 v.dir, .int .i64 v.slot] 55)
    obtain ⟨X, hX⟩ : ∃ X, w1.alloc (.cells #[.string v.name, .int .i64 v.ty.k, .int .i64 v.ty.lo, .int .i64 v.ty.hi, .string v.ty.name, .int .i64 v.init, .int .i64 v.dir, .int .i64 v.slot] 55) = X := ⟨_, rfl⟩
    rw [hX] at n5 kx n3
    have hr := HR.out
    rw [Ty.changed, HO.out] at hr
    have i1 := n5.cell 1 _ rfl
    have i6 := n5.cell 6 _ rfl
    have l5 := n5.lt
    have b0 := n3.cell 0 _ rfl
    have b1 := n3.cell 1 _ rfl
    have b3 := n3.cell 3 _ rfl
    have b5 := n3.cell 5 _ rfl
    have l3 := n3.lt
    have KX := Aid.hid kx; have N5 := Aid.hid n5; have N3 := Aid.hid n3
    clear hb1 k1 b2 kx n5 n3 HR HO
    obtain ⟨q1, hq1⟩ : ∃ q, (v.ty.k == 4) = q := ⟨_, rfl⟩
    cases q1
    · have hd : ¬ v.ty.k = 4 := by simpa using hq1
      obtain rfl : 14 = r := by rw [← hr]; simp [HKK.out, hd]
      clear hr hd
      go_wp2_with fail
      go_ret
      exact ⟨rfl, KX.out⟩
    · have hd : v.ty.k = 4 := by simpa using hq1
      have hr2 : Ty.kindsGo (s.es.map (Ty.expr p)) [1, 1] false = r := by rw [← hr]; simp [HKK.out, hd]
      have kz := below_new X (.cells #[.int .i64 1, .int .i64 1] 3)
      have KZ := Aid.hid (KX.out.trans (kz.mono KX.out.size))
      have HC := Aid.hid (kinds_is f B b p a s.es [1, 1] s.eA (some ⟨X.heap.size, 0, none⟩) s.ec 2 r _ HX.out HN.out hr2 (HH.out.below KZ.out) (HE.out.below KZ.out hB) (ints_new X [1, 1]) (by rw [HN.out]; decide))
      rw [HN.out] at HC
      clear hr hr2 hd kz HX HE
      go_wp2_with fail
      clear hX
      refine HC.out.mono ?_; rintro _ w2 ⟨rfl, hb2⟩
      have K2 := Aid.hid (KZ.out.trans (hb2.mono KZ.out.size))
      clear hb2 HC KZ
      go_wp2_with fail
      go_ret
      exact ⟨rfl, K2.out⟩
set_option maxRecDepth 100000 in
set_option maxHeartbeats 4000000 in
theorem changed_3 (f B b : Nat) (p : Pl) (a : Pa) (s : St) (r : Int) (w : World) (hk : s.k = 3) (hX : ∀ x ∈ s.es, ExOK f B b p a x) (hr : Ty.changed p s.k s.n s.name (s.es.map (Ty.expr p)) (s.bs.map fun x => Ty.stmts p true x.l) = r) (h : PlAt w B b p a) (he : ExsAt (f + 1) w B s.eA s.es) (hn : s.es.length = 1) :
    Calls Tryz.prog 78 #[.pointer (some ⟨b, 0, none⟩), .agg #[.int .i64 s.k, .int .i64 s.n, .string s.name, .slice s.eA s.es.length s.ec, .slice s.lA s.ls.length s.lc, .slice s.bA s.bs.length s.bc]] w fun z w' => z = .returned (.int .i64 r) ∧ Below w.heap.size w w' := by
  have k1 : (s.k == 1) = false := by simp [hk]
  have k2 : (s.k == 2) = false := by simp [hk]
  have k3 : (s.k == 3) = true := by simp [hk]
  have k11 : (s.k == 11) = false := by simp [hk]
  have k8 : (s.k == 8) = false := by simp [hk]
  have HKK := Aid.hid hk
  clear hk
  have HN := Aid.hid hn
  rw [hn]
  clear hn
  have n3 := Aid.Has.new w [.int .i64 s.k, .int .i64 s.n, .string s.name, .slice s.eA 1 s.ec, .slice s.lA s.ls.length s.lc, .slice s.bA s.bs.length s.bc] 60
  have k0 := below_new w (.cells #[.int .i64 s.k, .int .i64 s.n, .string s.name, .slice s.eA 1 s.ec, .slice s.lA s.ls.length s.lc, .slice s.bA s.bs.length s.bc] 60)
  have HR := Aid.hid hr
  have HX := Aid.hid hX
  have HH := Aid.hid h
  have HE := Aid.hid he

  have hB := h.le
  obtain ⟨W, hW⟩ : ∃ W, w.alloc (.cells #[.int .i64 s.k, .int .i64 s.n, .string s.name, .slice s.eA 1 s.ec, .slice s.lA s.ls.length s.lc, .slice s.bA s.bs.length s.bc] 60) = W := ⟨_, rfl⟩
  rw [hW] at n3 k0
  have b2 := n3.cell 2 _ rfl
  have l3 := n3.lt
  have N3 := Aid.hid n3
  have K0 := Aid.hid k0
  obtain ⟨o, ho⟩ : ∃ o, p.var s.name = o := ⟨_, rfl⟩
  have HO := Aid.hid ho
  clear hX hr h he n3 k0 ho
  go_enter Tryz.func78, Tryz.ntmps78
  try simp only [List.append_eq, List.cons_append, List.nil_append]
  go_wp2_with fail
  clear hW
  cases o with
  | none =>
    refine (visible_x B b p a s.name none Vd.zero false _ (HH.out.below K0.out) HO.out rfl rfl).mono ?_; rintro _ w1 ⟨rfl, hb1⟩
    obtain rfl : 13 = r := by have := HR.out; rw [Ty.changed, HO.out] at this; exact this
    have KW := Aid.hid ((K0.out.trans (hb1.mono K0.out.size)).alloc (K0.out.trans (hb1.mono K0.out.size)).size (.cells #[.string ⟨#[]⟩, .int .i64 0, .int .i64 0, .int .i64 0, .string ⟨#[]⟩, .int .i64 0, .int .i64 0, .int .i64 0] 55))
    clear hb1
    go_wp2_with fail
    go_ret
    exact ⟨rfl, KW.out⟩
  | some v =>
    refine (visible_x B b p a s.name (some v) v true _ (HH.out.below K0.out) HO.out rfl rfl).mono ?_; rintro _ w1 ⟨rfl, hb1⟩
    have k1 := K0.out.trans (hb1.mono K0.out.size)
    have n5 := Aid.Has.new w1 [.string v.name, .int .i64 v.ty.k, .int .i64 v.ty.lo, .int .i64 v.ty.hi, .string v.ty.name, .int .i64 v.init, .int .i64 v.dir, .int .i64 v.slot] 55
    have kx := k1.alloc k1.size (.cells #[.string v.name, .int .i64 v.ty.k, .int .i64 v.ty.lo, .int .i64 v.ty.hi, .string v.ty.name, .int .i64 v.init, .int .i64 v.dir, .int .i64 v.slot] 55)
    have n3 := (N3.out.below hb1 N3.out.lt).alloc (.cells #[.string v.name, .int .i64 v.ty.k, .int .i64 v.ty.lo, .int .i64 v.ty.hi, .string v.ty.name, .int .i64 v.init, .int .i64 v.dir, .int .i64 v.slot] 55)
    obtain ⟨X, hX⟩ : ∃ X, w1.alloc (.cells #[.string v.name, .int .i64 v.ty.k, .int .i64 v.ty.lo, .int .i64 v.ty.hi, .string v.ty.name, .int .i64 v.init, .int .i64 v.dir, .int .i64 v.slot] 55) = X := ⟨_, rfl⟩
    rw [hX] at n5 kx n3
    have hr := HR.out
    rw [Ty.changed, HO.out] at hr
    have i1 := n5.cell 1 _ rfl
    have i6 := n5.cell 6 _ rfl
    have l5 := n5.lt
    have b0 := n3.cell 0 _ rfl
    have b1 := n3.cell 1 _ rfl
    have b3 := n3.cell 3 _ rfl
    have b5 := n3.cell 5 _ rfl
    have l3 := n3.lt
    have KX := Aid.hid kx; have N5 := Aid.hid n5; have N3 := Aid.hid n3
    clear hb1 k1 b2 kx n5 n3 HR HO
    obtain ⟨q1, hq1⟩ : ∃ q, (v.ty.k == 5) = q := ⟨_, rfl⟩
    cases q1
    · have hd : ¬ v.ty.k = 5 := by simpa using hq1
      obtain rfl : 14 = r := by rw [← hr]; simp [HKK.out, hd]
      clear hr hd
      go_wp2_with fail
      go_ret
      exact ⟨rfl, KX.out⟩
    · have hd : v.ty.k = 5 := by simpa using hq1
      have hr2 : Ty.kindsGo (s.es.map (Ty.expr p)) [5] false = r := by rw [← hr]; simp [HKK.out, hd]
      have kz := below_new X (.cells #[.int .i64 5] 3)
      have KZ := Aid.hid (KX.out.trans (kz.mono KX.out.size))
      have HC := Aid.hid (kinds_is f B b p a s.es [5] s.eA (some ⟨X.heap.size, 0, none⟩) s.ec 1 r _ HX.out HN.out hr2 (HH.out.below KZ.out) (HE.out.below KZ.out hB) (ints_new X [5]) (by rw [HN.out]; decide))
      rw [HN.out] at HC
      clear hr hr2 hd kz HX HE
      go_wp2_with fail
      clear hX
      refine HC.out.mono ?_; rintro _ w2 ⟨rfl, hb2⟩
      have K2 := Aid.hid (KZ.out.trans (hb2.mono KZ.out.size))
      clear hb2 HC KZ
      go_wp2_with fail
      go_ret
      exact ⟨rfl, K2.out⟩
set_option maxRecDepth 100000 in
set_option maxHeartbeats 4000000 in
theorem changed_11 (f B b : Nat) (p : Pl) (a : Pa) (s : St) (r : Int) (w : World) (hk : s.k = 11) (hX : ∀ x ∈ s.es, ExOK f B b p a x) (hr : Ty.changed p s.k s.n s.name (s.es.map (Ty.expr p)) (s.bs.map fun x => Ty.stmts p true x.l) = r) (h : PlAt w B b p a) (he : ExsAt (f + 1) w B s.eA s.es) (hn : s.es.length = 2) :
    Calls Tryz.prog 78 #[.pointer (some ⟨b, 0, none⟩), .agg #[.int .i64 s.k, .int .i64 s.n, .string s.name, .slice s.eA s.es.length s.ec, .slice s.lA s.ls.length s.lc, .slice s.bA s.bs.length s.bc]] w fun z w' => z = .returned (.int .i64 r) ∧ Below w.heap.size w w' := by
  have k1 : (s.k == 1) = false := by simp [hk]
  have k2 : (s.k == 2) = false := by simp [hk]
  have k3 : (s.k == 3) = false := by simp [hk]
  have k11 : (s.k == 11) = true := by simp [hk]
  have k8 : (s.k == 8) = false := by simp [hk]
  have HKK := Aid.hid hk
  clear hk
  have HN := Aid.hid hn
  rw [hn]
  clear hn
  have n3 := Aid.Has.new w [.int .i64 s.k, .int .i64 s.n, .string s.name, .slice s.eA 2 s.ec, .slice s.lA s.ls.length s.lc, .slice s.bA s.bs.length s.bc] 60
  have k0 := below_new w (.cells #[.int .i64 s.k, .int .i64 s.n, .string s.name, .slice s.eA 2 s.ec, .slice s.lA s.ls.length s.lc, .slice s.bA s.bs.length s.bc] 60)
  have HR := Aid.hid hr
  have HX := Aid.hid hX
  have HH := Aid.hid h
  have HE := Aid.hid he

  have hB := h.le
  obtain ⟨W, hW⟩ : ∃ W, w.alloc (.cells #[.int .i64 s.k, .int .i64 s.n, .string s.name, .slice s.eA 2 s.ec, .slice s.lA s.ls.length s.lc, .slice s.bA s.bs.length s.bc] 60) = W := ⟨_, rfl⟩
  rw [hW] at n3 k0
  have b2 := n3.cell 2 _ rfl
  have l3 := n3.lt
  have N3 := Aid.hid n3
  have K0 := Aid.hid k0
  obtain ⟨o, ho⟩ : ∃ o, p.var s.name = o := ⟨_, rfl⟩
  have HO := Aid.hid ho
  clear hX hr h he n3 k0 ho
  go_enter Tryz.func78, Tryz.ntmps78
  try simp only [List.append_eq, List.cons_append, List.nil_append]
  go_wp2_with fail
  clear hW
  cases o with
  | none =>
    refine (visible_x B b p a s.name none Vd.zero false _ (HH.out.below K0.out) HO.out rfl rfl).mono ?_; rintro _ w1 ⟨rfl, hb1⟩
    obtain rfl : 13 = r := by have := HR.out; rw [Ty.changed, HO.out] at this; exact this
    have KW := Aid.hid ((K0.out.trans (hb1.mono K0.out.size)).alloc (K0.out.trans (hb1.mono K0.out.size)).size (.cells #[.string ⟨#[]⟩, .int .i64 0, .int .i64 0, .int .i64 0, .string ⟨#[]⟩, .int .i64 0, .int .i64 0, .int .i64 0] 55))
    clear hb1
    go_wp2_with fail
    go_ret
    exact ⟨rfl, KW.out⟩
  | some v =>
    refine (visible_x B b p a s.name (some v) v true _ (HH.out.below K0.out) HO.out rfl rfl).mono ?_; rintro _ w1 ⟨rfl, hb1⟩
    have k1 := K0.out.trans (hb1.mono K0.out.size)
    have n5 := Aid.Has.new w1 [.string v.name, .int .i64 v.ty.k, .int .i64 v.ty.lo, .int .i64 v.ty.hi, .string v.ty.name, .int .i64 v.init, .int .i64 v.dir, .int .i64 v.slot] 55
    have kx := k1.alloc k1.size (.cells #[.string v.name, .int .i64 v.ty.k, .int .i64 v.ty.lo, .int .i64 v.ty.hi, .string v.ty.name, .int .i64 v.init, .int .i64 v.dir, .int .i64 v.slot] 55)
    have n3 := (N3.out.below hb1 N3.out.lt).alloc (.cells #[.string v.name, .int .i64 v.ty.k, .int .i64 v.ty.lo, .int .i64 v.ty.hi, .string v.ty.name, .int .i64 v.init, .int .i64 v.dir, .int .i64 v.slot] 55)
    obtain ⟨X, hX⟩ : ∃ X, w1.alloc (.cells #[.string v.name, .int .i64 v.ty.k, .int .i64 v.ty.lo, .int .i64 v.ty.hi, .string v.ty.name, .int .i64 v.init, .int .i64 v.dir, .int .i64 v.slot] 55) = X := ⟨_, rfl⟩
    rw [hX] at n5 kx n3
    have hr := HR.out
    rw [Ty.changed, HO.out] at hr
    have i1 := n5.cell 1 _ rfl
    have i6 := n5.cell 6 _ rfl
    have l5 := n5.lt
    have b0 := n3.cell 0 _ rfl
    have b1 := n3.cell 1 _ rfl
    have b3 := n3.cell 3 _ rfl
    have b5 := n3.cell 5 _ rfl
    have l3 := n3.lt
    have KX := Aid.hid kx; have N5 := Aid.hid n5; have N3 := Aid.hid n3
    clear hb1 k1 b2 kx n5 n3 HR HO
    obtain ⟨q1, hq1⟩ : ∃ q, (v.ty.k == 7) = q := ⟨_, rfl⟩
    cases q1
    · have hd : ¬ v.ty.k = 7 := by simpa using hq1
      obtain rfl : 14 = r := by rw [← hr]; simp [HKK.out, hd]
      clear hr hd
      go_wp2_with fail
      go_ret
      exact ⟨rfl, KX.out⟩
    · have hd : v.ty.k = 7 := by simpa using hq1
      have hr2 : Ty.kindsGo (s.es.map (Ty.expr p)) [2, 1] false = r := by rw [← hr]; simp [HKK.out, hd]
      have kz := below_new X (.cells #[.int .i64 2, .int .i64 1] 3)
      have KZ := Aid.hid (KX.out.trans (kz.mono KX.out.size))
      have HC := Aid.hid (kinds_is f B b p a s.es [2, 1] s.eA (some ⟨X.heap.size, 0, none⟩) s.ec 2 r _ HX.out HN.out hr2 (HH.out.below KZ.out) (HE.out.below KZ.out hB) (ints_new X [2, 1]) (by rw [HN.out]; decide))
      rw [HN.out] at HC
      clear hr hr2 hd kz HX HE
      go_wp2_with fail
      clear hX
      refine HC.out.mono ?_; rintro _ w2 ⟨rfl, hb2⟩
      have K2 := Aid.hid (KZ.out.trans (hb2.mono KZ.out.size))
      clear hb2 HC KZ
      go_wp2_with fail
      go_ret
      exact ⟨rfl, K2.out⟩
set_option maxRecDepth 100000 in
set_option maxHeartbeats 4000000 in
theorem changed_8 (f B b : Nat) (p : Pl) (a : Pa) (s : St) (r : Int) (w : World) (hk : s.k = 8) (hX : ∀ x ∈ s.es, ExOK f B b p a x) (hr : Ty.changed p s.k s.n s.name (s.es.map (Ty.expr p)) (s.bs.map fun x => Ty.stmts p true x.l) = r) (h : PlAt w B b p a) (he : ExsAt (f + 1) w B s.eA s.es) (hn : s.es.length = 2) (hbl : s.bs.length = 1) (hS : ∀ x ∈ s.bs, StsOK f B b p a x.l) (hbr : Rows w B 1 s.bA (s.bs.map Bk.cells)) (hba : ∀ x ∈ s.bs, StsAt f w B x.A x.l) :
    Calls Tryz.prog 78 #[.pointer (some ⟨b, 0, none⟩), .agg #[.int .i64 s.k, .int .i64 s.n, .string s.name, .slice s.eA s.es.length s.ec, .slice s.lA s.ls.length s.lc, .slice s.bA s.bs.length s.bc]] w fun z w' => z = .returned (.int .i64 r) ∧ Below w.heap.size w w' := by
  have k1 : (s.k == 1) = false := by simp [hk]
  have k2 : (s.k == 2) = false := by simp [hk]
  have k3 : (s.k == 3) = false := by simp [hk]
  have k11 : (s.k == 11) = false := by simp [hk]
  have k8 : (s.k == 8) = true := by simp [hk]
  have HKK := Aid.hid hk
  clear hk
  have HN := Aid.hid hn
  rw [hn, hbl]
  clear hn
  have n3 := Aid.Has.new w [.int .i64 s.k, .int .i64 s.n, .string s.name, .slice s.eA 2 s.ec, .slice s.lA s.ls.length s.lc, .slice s.bA 1 s.bc] 60
  have k0 := below_new w (.cells #[.int .i64 s.k, .int .i64 s.n, .string s.name, .slice s.eA 2 s.ec, .slice s.lA s.ls.length s.lc, .slice s.bA 1 s.bc] 60)
  have HR := Aid.hid hr
  have HX := Aid.hid hX
  have HH := Aid.hid h
  have HE := Aid.hid he
  have HS := Aid.hid hS; have HBR := Aid.hid hbr; have HBA := Aid.hid hba; have HBL := Aid.hid hbl
  have hB := h.le
  obtain ⟨W, hW⟩ : ∃ W, w.alloc (.cells #[.int .i64 s.k, .int .i64 s.n, .string s.name, .slice s.eA 2 s.ec, .slice s.lA s.ls.length s.lc, .slice s.bA 1 s.bc] 60) = W := ⟨_, rfl⟩
  rw [hW] at n3 k0
  have b2 := n3.cell 2 _ rfl
  have l3 := n3.lt
  have N3 := Aid.hid n3
  have K0 := Aid.hid k0
  obtain ⟨o, ho⟩ : ∃ o, p.var s.name = o := ⟨_, rfl⟩
  have HO := Aid.hid ho
  clear hX hr h he n3 k0 ho hS hbr hba hbl
  go_enter Tryz.func78, Tryz.ntmps78
  try simp only [List.append_eq, List.cons_append, List.nil_append]
  go_wp2_with fail
  clear hW
  cases o with
  | none =>
    refine (visible_x B b p a s.name none Vd.zero false _ (HH.out.below K0.out) HO.out rfl rfl).mono ?_; rintro _ w1 ⟨rfl, hb1⟩
    obtain rfl : 13 = r := by have := HR.out; rw [Ty.changed, HO.out] at this; exact this
    have KW := Aid.hid ((K0.out.trans (hb1.mono K0.out.size)).alloc (K0.out.trans (hb1.mono K0.out.size)).size (.cells #[.string ⟨#[]⟩, .int .i64 0, .int .i64 0, .int .i64 0, .string ⟨#[]⟩, .int .i64 0, .int .i64 0, .int .i64 0] 55))
    clear hb1
    go_wp2_with fail
    go_ret
    exact ⟨rfl, KW.out⟩
  | some v =>
    refine (visible_x B b p a s.name (some v) v true _ (HH.out.below K0.out) HO.out rfl rfl).mono ?_; rintro _ w1 ⟨rfl, hb1⟩
    have k1 := K0.out.trans (hb1.mono K0.out.size)
    have n5 := Aid.Has.new w1 [.string v.name, .int .i64 v.ty.k, .int .i64 v.ty.lo, .int .i64 v.ty.hi, .string v.ty.name, .int .i64 v.init, .int .i64 v.dir, .int .i64 v.slot] 55
    have kx := k1.alloc k1.size (.cells #[.string v.name, .int .i64 v.ty.k, .int .i64 v.ty.lo, .int .i64 v.ty.hi, .string v.ty.name, .int .i64 v.init, .int .i64 v.dir, .int .i64 v.slot] 55)
    have n3 := (N3.out.below hb1 N3.out.lt).alloc (.cells #[.string v.name, .int .i64 v.ty.k, .int .i64 v.ty.lo, .int .i64 v.ty.hi, .string v.ty.name, .int .i64 v.init, .int .i64 v.dir, .int .i64 v.slot] 55)
    obtain ⟨X, hX⟩ : ∃ X, w1.alloc (.cells #[.string v.name, .int .i64 v.ty.k, .int .i64 v.ty.lo, .int .i64 v.ty.hi, .string v.ty.name, .int .i64 v.init, .int .i64 v.dir, .int .i64 v.slot] 55) = X := ⟨_, rfl⟩
    rw [hX] at n5 kx n3
    have hr := HR.out
    rw [Ty.changed, HO.out] at hr
    have i1 := n5.cell 1 _ rfl
    have i6 := n5.cell 6 _ rfl
    have l5 := n5.lt
    have b0 := n3.cell 0 _ rfl
    have b1 := n3.cell 1 _ rfl
    have b3 := n3.cell 3 _ rfl
    have b5 := n3.cell 5 _ rfl
    have l3 := n3.lt
    have KX := Aid.hid kx; have N5 := Aid.hid n5; have N3 := Aid.hid n3
    clear hb1 k1 b2 kx n5 n3 HR HO
    obtain ⟨blk, hbs⟩ := len1 HBL.out
    by_cases hgood : v.ty.k = 1 ∧ v.dir ≠ 1 ∧ s.n ≠ 0
    · obtain ⟨h1, h2, h3⟩ := hgood
      obtain ⟨c1, hc1⟩ : ∃ c, Ty.kindsGo (s.es.map (Ty.expr p)) [1, 1] false = c := ⟨_, rfl⟩
      obtain ⟨cb, hcb⟩ : ∃ c, Ty.stmts p true blk.l = c := ⟨_, rfl⟩
      have hr2 : (if c1 ≠ 0 then c1 else cb) = r := by rw [← hr]; simp [HKK.out, h1, h2, h3, hc1, hbs, hcb]
      have HRR := Aid.hid hr2
      have kz := below_new X (.cells #[.int .i64 1, .int .i64 1] 3)
      have KZ := Aid.hid (KX.out.trans (kz.mono KX.out.size))
      have HC := Aid.hid (kinds_is f B b p a s.es [1, 1] s.eA (some ⟨X.heap.size, 0, none⟩) s.ec 2 c1 _ HX.out HN.out hc1 (HH.out.below KZ.out) (HE.out.below KZ.out hB) (ints_new X [1, 1]) (by rw [HN.out]; decide))
      rw [HN.out] at HC
      have q1 : (v.ty.k == 1) = true := by simp [h1]
      have q2 : (v.dir != 1) = true := by simpa using h2
      have q3 : (s.n != 0) = true := by simpa using h3
      have n3z := N3.out.alloc (.cells #[.int .i64 1, .int .i64 1] 3)
      have HCB := Aid.hid hcb
      have HBS := Aid.hid hbs
      have HN3 := Aid.hid n3z
      clear hr hr2 h1 h2 h3 kz hc1 hcb hbs n3z HX HE
      go_wp2_with fail
      clear hX
      refine HC.out.mono ?_; rintro _ w2 ⟨rfl, hb2⟩
      have k2 := KZ.out.trans (hb2.mono KZ.out.size)
      have n3 := HN3.out.below hb2 HN3.out.lt
      have b5 := n3.cell 5 _ rfl
      have l3 := n3.lt
      obtain ⟨g, off, hA, hgB, cg⟩ := Bk.at1 (HBR.out.below k2 hB) (i := 0) (x := blk) (by rw [HBS.out]; rfl)
      rw [hA] at b5
      have lg : g < w2.heap.size := by have := k2.size; omega
      simp only [Nat.add_zero] at cg
      have HC2 := Aid.hid (HS.out blk (by rw [HBS.out]; simp) w2 blk.A blk.c true cb HCB.out (HH.out.below k2) ((HBA.out blk (by rw [HBS.out]; simp)).below k2 hB))
      have K2 := Aid.hid k2
      clear hb2 HC KZ k2 n3 hA b0 b1 b3 i1 i6 l5
      by_cases hc : c1 = 0
      · subst hc
        obtain rfl : cb = r := by have := HRR.out; simpa using this
        go_wp2_with fail
        refine HC2.out.mono ?_; rintro _ w4 ⟨rfl, hb4⟩
        have K4 := Aid.hid (K2.out.trans (hb4.mono K2.out.size))
        clear hb4
        go_wp2_with fail
        go_ret
        exact ⟨rfl, K4.out⟩
      · obtain rfl : c1 = r := by have := HRR.out; simpa [hc] using this
        go_wp2_with fail
        go_ret
        exact ⟨rfl, K2.out⟩
    · obtain rfl : 14 = r := by
        rw [← hr]
        have : ¬ (s.k = 8 ∧ v.ty.k = 1 ∧ v.dir ≠ 1 ∧ s.n ≠ 0) := fun h => hgood h.2
        simp only [if_neg this]
        simp [HKK.out]
      have HG := Aid.hid hgood
      clear hr hbs hgood
      go_wp2_with fail
      all_goals first
        | (go_ret; exact ⟨rfl, KX.out⟩)
        | (exfalso; have h := HG.out; clear HG; simp_all; done)
        | (exfalso; have h := HG.out; clear HG; simp only [beq_iff_eq, bne_iff_ne] at *; exact h ⟨by assumption, by assumption, by assumption⟩)
end Go.Proofs.YtejifefgmlpclaaGreat
