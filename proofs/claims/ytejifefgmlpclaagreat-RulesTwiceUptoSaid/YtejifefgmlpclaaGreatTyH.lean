/- Parts of typing, as walks: invoke. -/
import Derived.Test.YtejifefgmlpclaaGreatTyF
import Derived.Test.YtejifefgmlpclaaGreatTyG
import Derived.Test.YtejifefgmlpclaaGreatTabClone
import Derived.Test.YtejifefgmlpclaaGreatOrd
import Derived.BigRegion
import Derived.StillTail
import Derived.StillTailTactics
import Derived.WalkKit
import Derived.WalkSpells
import Derived.WalkLawsBesides
import Derived.LoopTactic
import Derived.Deep.QuietTactic
import Derived.BigQuiet
import Derived.Below
import Derived.Laws.ResultCell
import Derived.Laws.Tables
import Derived.Laws.Rows
import Derived.Deep.Cut
import Derived.KernelRfl
set_option linter.unusedSimpArgs false
set_option linter.unusedVariables false
namespace Go.Proofs.YtejifefgmlpclaaGreat
open Go.RowKit

theorem three_new (w : World) (xs ys zs : List Value) (t u v : TypeId) :
    Aid.Has (((w.alloc (.cells xs.toArray t)).alloc (.cells ys.toArray u)).alloc (.cells zs.toArray v)) w.heap.size xs t ∧ Aid.Has (((w.alloc (.cells xs.toArray t)).alloc (.cells ys.toArray u)).alloc (.cells zs.toArray v)) (w.heap.size + 1) ys u ∧ Aid.Has (((w.alloc (.cells xs.toArray t)).alloc (.cells ys.toArray u)).alloc (.cells zs.toArray v)) (w.heap.size + 1 + 1) zs v ∧ Below w.heap.size w (((w.alloc (.cells xs.toArray t)).alloc (.cells ys.toArray u)).alloc (.cells zs.toArray v)) := by
  obtain ⟨h1, h2, h3⟩ := two_new w xs ys t u
  refine ⟨h1.alloc _, h2.alloc _, ?_, h3.alloc h3.size _⟩
  have e : ((w.alloc (.cells xs.toArray t)).alloc (.cells ys.toArray u)).heap.size = w.heap.size + 1 + 1 := by simp
  rw [← e]; exact Aid.Has.new _ _ _
theorem Tb.mindex_at {ms : List Md} {s : ByteArray} (h : 0 ≤ Tb.mindex ms s) : ∃ (j : Nat) (m : Md), Tb.mindex ms s = j ∧ ms[j]? = some m := by
  unfold Tb.mindex at h ⊢
  cases hf : ms.findIdx? (fun m => m.name.toList == s.toList) with
  | none => rw [hf] at h; simp at h
  | some i => exact ⟨i, _, rfl, List.getElem?_eq_getElem (List.findIdx?_eq_some_iff_getElem.1 hf).1⟩
theorem Tb.methodIn_at {u : List Dk} {s : ByteArray} : ∀ {l : List Int} {d m : Int}, (∀ c ∈ l, 0 ≤ c) → Tb.methodIn u s l = (d, m, true) → ∃ (i j : Nat) (x : Dk) (y : Md), d = i ∧ m = j ∧ u[i]? = some x ∧ x.ms[j]? = some y
  | [], d, m, _, h => by simp [Tb.methodIn] at h
  | c :: l, d, m, hl, h => by
    rw [Tb.methodIn] at h
    by_cases hc : 0 ≤ Tb.mindex (Tb.msOf u c) s
    · rw [if_pos hc] at h
      obtain ⟨j, y, hj, hy⟩ := Tb.mindex_at hc
      have hc0 := hl c (by simp)
      obtain ⟨i, rfl⟩ := Int.eq_ofNat_of_zero_le hc0
      simp only [Prod.mk.injEq] at h
      unfold Tb.msOf at hy
      simp only [Int.toNat_natCast] at hy
      cases hx : u[i]? with
      | none => rw [hx] at hy; simp at hy
      | some x => rw [hx] at hy; exact ⟨i, j, x, y, h.1.symm, by rw [← h.2.1, hj], hx, hy⟩
    · rw [if_neg hc] at h
      exact Tb.methodIn_at (fun c' h' => hl c' (by simp [h'])) h
theorem Tb.method_at {u : List Dk} {s : ByteArray} {c d m : Int} (h : Tb.method u c s = (d, m, true)) : ∃ (i j : Nat) (x : Dk) (y : Md), d = i ∧ m = j ∧ u[i]? = some x ∧ x.ms[j]? = some y ∧ Tb.meth u d m = some y := by
  have : ∃ (i j : Nat) (x : Dk) (y : Md), d = i ∧ m = j ∧ u[i]? = some x ∧ x.ms[j]? = some y := by
    unfold Tb.method at h
    refine Tb.methodIn_at ?_ h
    intro z hz
    split at hz
    · rename_i hk
      obtain rfl : z = c := by simpa using hz
      obtain ⟨i, _, rfl, _⟩ := Tb.kind_in hk (by decide)
      omega
    · exact (Tb.chain_in u c z hz).1
  obtain ⟨i, j, x, y, rfl, rfl, hx, hy⟩ := this
  exact ⟨i, j, x, y, rfl, rfl, hx, hy, by unfold Tb.meth Tb.msOf; simp [hx, hy]⟩
theorem wp_cut {P : Program} {c : Code} {a : Act} {w : World} {Q : Exit → Act → World → Prop} (M : Act → Exit → Act → World → Prop) (h1 : c.wp P (M a) a w) (h2 : ∀ e a' w', M a e a' w' → Q e a' w') : c.wp P Q a w := Code.wp_mono h2 h1
/-- Several slots at once. -/
def putL (a : Act) : List (Nat × Value) → Act
  | [] => a
  | (i, v) :: r => putL (a.put (some i) v) r
/-- Where the method is, is known. -/
def Ty.Mid (a0 : Act) (w1 : World) (b eb : Nat) (uv : Value) (d : Int) (s : ByteArray) (wd wm : Int) (ok : Bool) (e : Exit) (a' : Act) (w' : World) : Prop :=
  e = .normal ∧ ∃ g, a' = putL a0 [(30, .pointer (some ⟨b, 0, none⟩)), (31, .pointer (some ⟨b, 0, none⟩)), (32, .pointer (some ⟨b, 0, none⟩)), (33, .agg #[uv]), (34, .int .i64 d), (35, .pointer (some ⟨eb, 3, none⟩)), (36, .string s), (37, .tuple #[.agg #[.int .i64 wd, .int .i64 wm], .bool ok]), (29, .tuple #[.agg #[.int .i64 wd, .int .i64 wm], .bool ok]), (38, .agg #[.int .i64 wd, .int .i64 wm]), (39, .bool ok), (8, .pointer (some ⟨g, 0, none⟩)), (9, .bool ok)] ∧
    Aid.Has w' g [.int .i64 wd, .int .i64 wm] 76 ∧ Below w1.heap.size w1 w'
/-- What is left of a call, behind its first arguments. -/
def Ty.rest (p : Pl) (m : Md) (ts : List Ty) (l : List Rs) : Rs :=
  match Ty.bad l with
  | some c => (Ty.none_, c)
  | none => if Ty.fitsAll p.u m.ps ts = true then (m.res, 0) else (Ty.none_, 15)
theorem Ty.info : (Tryz.prog.info? 44).map (fun i => (i.zero, i.size, i.bytes)) = some (some (.agg #[.int .i64 0, .int .i64 0, .int .i64 0, .string ⟨#[]⟩]), 4, 40) := by kernel_rfl

set_option maxRecDepth 100000 in
set_option maxHeartbeats 4000000 in
theorem invoke_is (f B b : Nat) (p : Pl) (a : Pa) (e : Ex) (t : Ty) (c : Int) (w : World) (hX : ∀ x ∈ e.args, ExOK f B b p a x) (hr : Ty.inv p e = (t, c)) (h : PlAt w B b p a) (he : ExsAt (f + 1) w B e.A e.args) (hlim : e.args.length ≤ 1000000000) :
    Calls Tryz.prog 79 #[.pointer (some ⟨b, 0, none⟩), .agg #[.int .i64 e.k, .int .i64 e.n, .string e.name, .string e.what, .slice e.A e.args.length e.c]] w fun r w' => r = .returned (.tuple #[.agg #[.int .i64 t.k, .int .i64 t.lo, .int .i64 t.hi, .string t.name], .int .i64 c]) ∧ Below w.heap.size w w' := by
  obtain ⟨EA, hEA⟩ : ∃ EA, e.A = EA := ⟨_, rfl⟩
  rw [hEA] at he ⊢
  clear hEA
  obtain ⟨n2, n3, n4, k0⟩ := three_new w [.pointer (some ⟨b, 0, none⟩)] [.int .i64 e.k, .int .i64 e.n, .string e.name, .string e.what, .slice EA e.args.length e.c] [.int .i64 0, .int .i64 0, .int .i64 0, .string ⟨#[]⟩] 90 79 44
  have HX := Aid.hid hX
  have HH := Aid.hid h
  have HE := Aid.hid he
  have hB : B ≤ w.heap.size := h.le
  obtain ⟨⟨d, cw⟩, hw⟩ : ∃ r, Ty.whose p e.n e.name = r := ⟨_, rfl⟩
  obtain ⟨⟨wd, wm, ok⟩, hm⟩ : ∃ r, Tb.method p.u d e.what = r := ⟨_, rfl⟩
  have hr2 : (if cw ≠ 0 then (Ty.none_, cw) else if ok = false then (Ty.none_, 15) else match Tb.meth p.u wd wm with | none => (Ty.none_, 15) | some m => Ty.call p e.n m (e.args.map (Ty.expr p))) = (t, c) := by
    rw [← hr, Ty.inv, Ty.invoke, hw]
    simp only [hm]
    rfl
  have HR := Aid.hid hr2
  have HW := Aid.hid hw
  have HM := Aid.hid hm
  obtain ⟨W, hW⟩ : ∃ W, ((w.alloc (.cells #[.pointer (some ⟨b, 0, none⟩)] 90)).alloc (.cells #[.int .i64 e.k, .int .i64 e.n, .string e.name, .string e.what, .slice EA e.args.length e.c] 79)).alloc (.cells #[.int .i64 0, .int .i64 0, .int .i64 0, .string ⟨#[]⟩] 44) = W := ⟨_, rfl⟩
  rw [hW] at n2 n3 n4 k0
  have b2 := n2.cell 0 _ rfl
  have b30 := n3.cell 0 _ rfl
  have b31 := n3.cell 1 _ rfl
  have b32 := n3.cell 2 _ rfl
  have b33 := n3.cell 3 _ rfl
  have b34 := n3.cell 4 _ rfl
  have l2 := n2.lt
  have l3 := n3.lt
  have l4 := n4.lt
  have N2 := Aid.hid n2; have N3 := Aid.hid n3; have N4 := Aid.hid n4; have K0 := Aid.hid k0
  clear hX h he hr hr2 hw hm n2 n3 n4 k0
  go_enter Tryz.func79, Tryz.ntmps79
  try simp only [List.append_eq, List.cons_append, List.nil_append]
  have HWC := Aid.hid (whose_is B b p a (.mk e.k e.n e.name e.what EA e.args e.c) d cw W HW.out (HH.out.below K0.out))
  go_wp2_with fail
  clear hW
  refine HWC.out.mono ?_; rintro _ w1 ⟨rfl, hb1⟩
  clear HWC
  have n2 := N2.out.below hb1 N2.out.lt
  have n3 := N3.out.below hb1 N3.out.lt
  have n4 := N4.out.below hb1 N4.out.lt
  have k1 := K0.out.trans (hb1.mono K0.out.size)
  clear b2 b30 b31 b32 b33 b34 l2 l3 l4 N2 N3 N4 K0 hb1
  have N4 := Aid.hid n4; have K1 := Aid.hid k1; have N2 := Aid.hid n2; have N3 := Aid.hid n3
  by_cases hcw : cw = 0
  · subst hcw
    have hr := HR.out
    rw [if_neg (by simp)] at hr
    have HR := Aid.hid hr
    have b2 := n2.cell 0 _ rfl
    have b33 := n3.cell 3 _ rfl
    have l2 := n2.lt
    have l3 := n3.lt
    have HP := HH.out.below k1
    have a0 := HP.has.cell 0 _ rfl
    have la := HP.has.lt
    clear hr n2 n3 n4 k1 HP
    go_wp2_with fail
    refine wp_cut (fun a0 => Ty.Mid a0 w1 b (w.heap.size + 1) (.slice a.uA p.u.length a.uc) d e.what wd wm ok) ?_ ?_
    · have HPU := Aid.hid (⟨(HH.out.below K1.out).unit, (HH.out.below K1.out).le⟩ : _ ∧ _)
      have hb : Below w1.heap.size w1 w1.drew := (Below.refl _ _).drew
      clear HX HE HW HR N2 N3 N4 K1
      refine Ord.wp_region_go (fun w' => Below w1.heap.size w1 w') 13 [0, 1, 2, 3, 4, 5, 6, 8, 9, 10] (by kernel_rfl) (by kernel_rfl) (fun _ _ _ _ _ h => by cases h.1) (hb) ?_
      clear hb
      have hb : Below w1.heap.size w1 w1.drew := (Below.refl _ _).drew
      have lwd : w1.heap.size ≤ w1.drew.heap.size := Nat.le_refl _
      generalize w1.drew = wd0 at *
      apply Ord.go_light (i := 0) (by kernel_rfl)
      next => (simp only [List.getElem?_toArray, List.getElem?_cons_zero]; rfl)
      next => rfl
      next => (intro w' hSw; have k0 := (hSw.cell (p := ⟨w.heap.size, 0, none⟩) l2).trans b2; have k1 := (hSw.cell (p := ⟨w.heap.size + 1, 3, none⟩) l3).trans b33; have k2 := (hSw.cell (p := ⟨b, 0, none⟩) la).trans a0; clear hSw; go_simp; first | done | with_reducible rfl)
      simp only [Act.put, List.setIfInBounds_toArray, List.set_cons_zero, List.set_cons_succ]
      apply Ord.go_light (i := 1) (by kernel_rfl)
      next => (simp only [List.getElem?_toArray, List.getElem?_cons_succ, List.getElem?_cons_zero]; rfl)
      next => rfl
      next => (intro w' hSw; clear hSw; go_simp; first | done | with_reducible rfl)
      simp only [Act.put, List.setIfInBounds_toArray, List.set_cons_zero, List.set_cons_succ]
      apply Ord.go_light (i := 2) (by kernel_rfl)
      next => (simp only [List.getElem?_toArray, List.getElem?_cons_succ, List.getElem?_cons_zero]; rfl)
      next => rfl
      next => (intro w' hSw; clear hSw; go_simp; first | done | with_reducible rfl)
      simp only [Act.put, List.setIfInBounds_toArray, List.set_cons_zero, List.set_cons_succ]
      apply Ord.go_light (i := 3) (by kernel_rfl)
      next => (simp only [List.getElem?_toArray, List.getElem?_cons_succ, List.getElem?_cons_zero]; rfl)
      next => rfl
      next => (intro w' hSw; have k0 := (hSw.cell (p := ⟨w.heap.size, 0, none⟩) l2).trans b2; have k1 := (hSw.cell (p := ⟨w.heap.size + 1, 3, none⟩) l3).trans b33; have k2 := (hSw.cell (p := ⟨b, 0, none⟩) la).trans a0; clear hSw; go_simp; first | done | with_reducible rfl)
      simp only [Act.put, List.setIfInBounds_toArray, List.set_cons_zero, List.set_cons_succ]
      apply Ord.go_light (i := 4) (by kernel_rfl)
      next => (simp only [List.getElem?_toArray, List.getElem?_cons_succ, List.getElem?_cons_zero]; rfl)
      next => rfl
      next => (intro w' hSw; clear hSw; go_simp; first | done | with_reducible rfl)
      simp only [Act.put, List.setIfInBounds_toArray, List.set_cons_zero, List.set_cons_succ]
      apply Ord.go_light (i := 5) (by kernel_rfl)
      next => (simp only [List.getElem?_toArray, List.getElem?_cons_succ, List.getElem?_cons_zero]; rfl)
      next => rfl
      next => (intro w' hSw; clear hSw; go_simp; first | done | with_reducible rfl)
      simp only [Act.put, List.setIfInBounds_toArray, List.set_cons_zero, List.set_cons_succ]
      apply Ord.go_light (i := 6) (by kernel_rfl)
      next => (simp only [List.getElem?_toArray, List.getElem?_cons_succ, List.getElem?_cons_zero]; rfl)
      next => rfl
      next => (intro w' hSw; have k0 := (hSw.cell (p := ⟨w.heap.size, 0, none⟩) l2).trans b2; have k1 := (hSw.cell (p := ⟨w.heap.size + 1, 3, none⟩) l3).trans b33; have k2 := (hSw.cell (p := ⟨b, 0, none⟩) la).trans a0; clear hSw; go_simp; first | done | with_reducible rfl)
      simp only [Act.put, List.setIfInBounds_toArray, List.set_cons_zero, List.set_cons_succ]
      refine Ord.go_two (i := 7) (j := 11) (by kernel_rfl) (by kernel_rfl) ?_ ?_
      ·
        apply Ord.go_done1
        next => (simp only [List.getElem?_toArray, List.getElem?_cons_succ, List.getElem?_cons_zero]; rfl)
        next => rfl
        intro K hK
        go_wp2_with fail
        refine (method_is p.u a.uA B a.uc d e.what wd wm ok _ HM.out (HPU.out.1.below hb HPU.out.2) (Nat.le_trans HPU.out.2 hb.size)).mono ?_; rintro _ w5 ⟨rfl, hb'⟩; dsimp only
        refine hK.out _ _ (hb.trans (hb'.mono hb.size)) (fun hHeld => ?_)
        have lw5 : w1.heap.size ≤ w5.heap.size := (hb.trans (hb'.mono hb.size)).size
        clear hb hb'
        have hb := hHeld
        clear hK K
        try simp only [Act.put, List.setIfInBounds_toArray, List.set_cons_zero, List.set_cons_succ]
        apply Ord.go_light (i := 8) (by kernel_rfl)
        next => (simp only [List.getElem?_toArray, List.getElem?_cons_succ, List.getElem?_cons_zero]; rfl)
        next => rfl
        next => (intro w' hSw; clear hSw; go_simp; first | done | with_reducible rfl)
        simp only [Act.put, List.setIfInBounds_toArray, List.set_cons_zero, List.set_cons_succ]
        apply Ord.go_light (i := 9) (by kernel_rfl)
        next => (simp only [List.getElem?_toArray, List.getElem?_cons_succ, List.getElem?_cons_zero]; rfl)
        next => rfl
        next => (intro w' hSw; clear hSw; go_simp; first | done | with_reducible rfl)
        simp only [Act.put, List.setIfInBounds_toArray, List.set_cons_zero, List.set_cons_succ]
        apply Ord.go_light (i := 10) (by kernel_rfl)
        next => (simp only [List.getElem?_toArray, List.getElem?_cons_succ, List.getElem?_cons_zero]; rfl)
        next => rfl
        next => (intro w' hSw; clear hSw; go_simp; first | done | with_reducible rfl)
        simp only [Act.put, List.setIfInBounds_toArray, List.set_cons_zero, List.set_cons_succ]
        refine Ord.go_one (i := 11) (by kernel_rfl) (by kernel_rfl) ?_
        apply Ord.go_done1
        next => (simp only [List.getElem?_toArray, List.getElem?_cons_succ, List.getElem?_cons_zero]; rfl)
        next => rfl
        intro K hK
        go_wp2_with fail
        refine hK.out _ _ (hb.alloc hb.size _) (fun hHeld => ?_)
        have ha := Aid.Has.new w5 [.int .i64 0, .int .i64 0] 76
        clear hb
        have hb := hHeld
        clear hK K
        try simp only [Act.put, List.setIfInBounds_toArray, List.set_cons_zero, List.set_cons_succ]
        refine Ord.go_one (i := 12) (by kernel_rfl) (by kernel_rfl) ?_
        apply Ord.go_done1
        next => (simp only [List.getElem?_toArray, List.getElem?_cons_succ, List.getElem?_cons_zero]; rfl)
        next => rfl
        intro K hK
        obtain ⟨wq, hwq⟩ : ∃ wq, w5.alloc (.cells #[.int .i64 0, .int .i64 0] 76) = wq := ⟨_, rfl⟩
        rw [hwq] at ha hb ⊢
        clear hwq
        have c0 := ha.cell 0 _ rfl
        have c1 := ha.cell 1 _ rfl
        have f0 := ha.frozen 0
        have f1 := ha.frozen 1
        have lg := ha.lt
        go_wp2_with fail
        refine hK.out _ _ ((hb.setCell lw5 _).setCell lw5 _) (fun hHeld => ?_)
        replace ha := (ha.set 0 (.int .i64 wd)).set 1 (.int .i64 wm)
        clear hb c0 c1 f0 f1 lg
        have hb := hHeld
        clear hK K
        refine Ord.go_tail ?_; simp only [List.drop_succ_cons, List.drop_zero]
        go_wp2_with fail
        refine ⟨rfl, w5.heap.size, ?_, ha, hb⟩
        simp only [putL, Act.put, List.setIfInBounds_toArray, List.set_cons_zero, List.set_cons_succ]
        try rfl
      ·
        apply Ord.go_done1
        next => (simp only [List.getElem?_toArray, List.getElem?_cons_succ, List.getElem?_cons_zero]; rfl)
        next => rfl
        intro K hK
        go_wp2_with fail
        refine hK.out _ _ (hb.alloc hb.size _) (fun hHeld => ?_)
        have ha := Aid.Has.new wd0 [.int .i64 0, .int .i64 0] 76
        clear hb
        have hb := hHeld
        clear hK K
        try simp only [Act.put, List.setIfInBounds_toArray, List.set_cons_zero, List.set_cons_succ]
        refine Ord.go_one (i := 7) (by kernel_rfl) (by kernel_rfl) ?_
        apply Ord.go_done1
        next => (simp only [List.getElem?_toArray, List.getElem?_cons_succ, List.getElem?_cons_zero]; rfl)
        next => rfl
        intro K hK
        go_wp2_with fail
        refine (method_is p.u a.uA B a.uc d e.what wd wm ok _ HM.out (HPU.out.1.below hb HPU.out.2) (Nat.le_trans HPU.out.2 hb.size)).mono ?_; rintro _ w5 ⟨rfl, hb'⟩; dsimp only
        refine hK.out _ _ (hb.trans (hb'.mono hb.size)) (fun hHeld => ?_)
        replace ha := ha.below hb' ha.lt
        clear hb hb'
        have hb := hHeld
        clear hK K
        try simp only [Act.put, List.setIfInBounds_toArray, List.set_cons_zero, List.set_cons_succ]
        apply Ord.go_light (i := 8) (by kernel_rfl)
        next => (simp only [List.getElem?_toArray, List.getElem?_cons_succ, List.getElem?_cons_zero]; rfl)
        next => rfl
        next => (intro w' hSw; clear hSw; go_simp; first | done | with_reducible rfl)
        simp only [Act.put, List.setIfInBounds_toArray, List.set_cons_zero, List.set_cons_succ]
        apply Ord.go_light (i := 9) (by kernel_rfl)
        next => (simp only [List.getElem?_toArray, List.getElem?_cons_succ, List.getElem?_cons_zero]; rfl)
        next => rfl
        next => (intro w' hSw; clear hSw; go_simp; first | done | with_reducible rfl)
        simp only [Act.put, List.setIfInBounds_toArray, List.set_cons_zero, List.set_cons_succ]
        apply Ord.go_light (i := 10) (by kernel_rfl)
        next => (simp only [List.getElem?_toArray, List.getElem?_cons_succ, List.getElem?_cons_zero]; rfl)
        next => rfl
        next => (intro w' hSw; clear hSw; go_simp; first | done | with_reducible rfl)
        simp only [Act.put, List.setIfInBounds_toArray, List.set_cons_zero, List.set_cons_succ]
        refine Ord.go_one (i := 12) (by kernel_rfl) (by kernel_rfl) ?_
        apply Ord.go_done1
        next => (simp only [List.getElem?_toArray, List.getElem?_cons_succ, List.getElem?_cons_zero]; rfl)
        next => rfl
        intro K hK
        have c0 := ha.cell 0 _ rfl
        have c1 := ha.cell 1 _ rfl
        have f0 := ha.frozen 0
        have f1 := ha.frozen 1
        have lg := ha.lt
        go_wp2_with fail
        refine hK.out _ _ ((hb.setCell lwd _).setCell lwd _) (fun hHeld => ?_)
        replace ha := (ha.set 0 (.int .i64 wd)).set 1 (.int .i64 wm)
        clear hb c0 c1 f0 f1 lg
        have hb := hHeld
        clear hK K
        refine Ord.go_tail ?_; simp only [List.drop_succ_cons, List.drop_zero]
        go_wp2_with fail
        refine ⟨rfl, wd0.heap.size, ?_, ha, hb⟩
        simp only [putL, Act.put, List.setIfInBounds_toArray, List.set_cons_zero, List.set_cons_succ]
        try rfl
    rintro e' a' w2 ⟨rfl, g, rfl, hg, hb2⟩
    simp only [putL, Act.put, List.setIfInBounds_toArray, List.set_cons_zero, List.set_cons_succ]
    have n2 := N2.out.below hb2 N2.out.lt
    have n3 := N3.out.below hb2 N3.out.lt
    have n4 := N4.out.below hb2 N4.out.lt
    have k2 := K1.out.trans (hb2.mono K1.out.size)
    clear N2 N3 N4 K1 b2 b33 l2 l3 a0 la hb2
    have N2 := Aid.hid n2; have N3 := Aid.hid n3; have N4 := Aid.hid n4; have K2 := Aid.hid k2
    cases ok
    · obtain ⟨rfl, rfl⟩ : Ty.none_ = t ∧ 15 = c := by have := HR.out; simpa using this
      clear n2 n3 n4 k2 hg
      go_wp2_with fail
      refine (wrong_x 15 _).mono ?_; rintro _ w8 ⟨rfl, hb8⟩
      have HZ8 := Aid.hid ((N4.out).below hb8 (N4.out).lt)
      have KW8 := Aid.hid ((K2.out).trans (hb8.mono (K2.out).size))
      clear hb8
      go_wp2_with (refine wpList_store_row rfl 44 _ _ rfl (w.heap.size + 1 + 1) _ rfl rfl 44 _ (HZ8.out) (by kernel_rfl) rfl (by simp [Value.oneCell']) ?_)
      refine bodyPost_ret (v := _) (results_row2 rfl _ _ (w.heap.size + 1 + 1) 44 _ (0, 0) _ _ rfl rfl (row_has (HZ8.out)) Tryz.underlying44 rfl (by kernel_rfl)) rfl ⟨rfl, row_below (KW8.out) (by omega) _⟩
    · obtain ⟨i, j, x, m, rfl, rfl, hx, hmj, hmt⟩ := Tb.method_at HM.out
      have hr := HR.out
      rw [hmt] at hr
      have HR := Aid.hid (show Ty.call p e.n m (e.args.map (Ty.expr p)) = (t, c) by simpa using hr)
      have HP := HH.out.below k2
      have a0 := HP.has.cell 0 _ rfl
      have la := HP.has.lt
      have b2 := n2.cell 0 _ rfl
      have l2 := n2.lt
      have g0 := hg.cell 0 _ rfl
      have g1 := hg.cell 1 _ rfl
      have lg := hg.lt
      have hil : i < p.u.length := (List.getElem?_eq_some_iff.1 hx).1
      have hjl : j < x.ms.length := (List.getElem?_eq_some_iff.1 hmj).1
      have HXD := HP.unit.decls x (List.mem_of_getElem? hx)
      have smu := HP.unit.small
      have smm := HXD.smallM
      have HMD := Aid.hid (HXD.each m (List.mem_of_getElem? hmj))
      obtain ⟨ub, uo, hA, hub, hc⟩ := HP.unit.at_ (by omega)
      have u7 := hc i x hx 7 _ rfl
      obtain ⟨mb, mo, hmA, hmb, hc2⟩ := HXD.meth (by omega)
      have m0 := hc2 j m hmj 0 _ rfl
      have m1 := hc2 j m hmj 1 _ rfl
      have m2 := hc2 j m hmj 2 _ rfl
      have m3 := hc2 j m hmj 3 _ rfl
      have m4 := hc2 j m hmj 4 _ rfl
      have m5 := hc2 j m hmj 5 _ rfl
      have m6 := hc2 j m hmj 6 _ rfl
      have m7 := hc2 j m hmj 7 _ rfl
      have m8 := hc2 j m hmj 8 _ rfl
      have m9 := hc2 j m hmj 9 _ rfl
      have m10 := hc2 j m hmj 10 _ rfl
      simp only [Nat.add_zero] at m0
      rw [hA] at a0
      rw [hmA] at u7
      have lub : ub < w2.heap.size := Nat.lt_of_lt_of_le hub HP.le
      have lmb : mb < w2.heap.size := Nat.lt_of_lt_of_le hmb HP.le
      clear n2 n3 n4 k2 hg hr hmt hx hmj HP hA hmA hc hc2 HXD HM
      go_wp2_with fail
      go_region
      have n10 := (Aid.Has.new w2 [.string m.name, .bool m.over, .bool m.abs, .bool m.fin, .slice m.pA m.ps.length m.pc, .int .i64 m.res.k, .int .i64 m.res.lo, .int .i64 m.res.hi, .string m.res.name, .slice m.vA m.vs.length m.vc, .slice m.bA m.body.length m.bc] 46).drew
      have n2 := (N2.out.alloc (.cells #[.string m.name, .bool m.over, .bool m.abs, .bool m.fin, .slice m.pA m.ps.length m.pc, .int .i64 m.res.k, .int .i64 m.res.lo, .int .i64 m.res.hi, .string m.res.name, .slice m.vA m.vs.length m.vc, .slice m.bA m.body.length m.bc] 46)).drew
      have n3 := (N3.out.alloc (.cells #[.string m.name, .bool m.over, .bool m.abs, .bool m.fin, .slice m.pA m.ps.length m.pc, .int .i64 m.res.k, .int .i64 m.res.lo, .int .i64 m.res.hi, .string m.res.name, .slice m.vA m.vs.length m.vc, .slice m.bA m.body.length m.bc] 46)).drew
      have n4 := (N4.out.alloc (.cells #[.string m.name, .bool m.over, .bool m.abs, .bool m.fin, .slice m.pA m.ps.length m.pc, .int .i64 m.res.k, .int .i64 m.res.lo, .int .i64 m.res.hi, .string m.res.name, .slice m.vA m.vs.length m.vc, .slice m.bA m.body.length m.bc] 46)).drew
      have k3 := (K2.out.alloc K2.out.size (.cells #[.string m.name, .bool m.over, .bool m.abs, .bool m.fin, .slice m.pA m.ps.length m.pc, .int .i64 m.res.k, .int .i64 m.res.lo, .int .i64 m.res.hi, .string m.res.name, .slice m.vA m.vs.length m.vc, .slice m.bA m.body.length m.bc] 46)).drew
      have hmd := HMD.out.below ((below_new w2 (.cells #[.string m.name, .bool m.over, .bool m.abs, .bool m.fin, .slice m.pA m.ps.length m.pc, .int .i64 m.res.k, .int .i64 m.res.lo, .int .i64 m.res.hi, .string m.res.name, .slice m.vA m.vs.length m.vc, .slice m.bA m.body.length m.bc] 46)).drew) (HH.out.below K2.out).le
      obtain ⟨w3, hw3⟩ : ∃ w3, (w2.alloc (.cells #[.string m.name, .bool m.over, .bool m.abs, .bool m.fin, .slice m.pA m.ps.length m.pc, .int .i64 m.res.k, .int .i64 m.res.lo, .int .i64 m.res.hi, .string m.res.name, .slice m.vA m.vs.length m.vc, .slice m.bA m.body.length m.bc] 46)).drew = w3 := ⟨_, rfl⟩
      rw [hw3] at n10 n2 n3 n4 k3 hmd ⊢
      clear hw3 N2 N3 N4 K2 HMD a0 la b2 l2 g0 g1 lg u7 m0 m1 m2 m3 m4 m5 m6 m7 m8 m9 m10 lub lmb smu smm
      generalize w2.heap.size = mg at *
      have N2 := Aid.hid n2; have N3 := Aid.hid n3; have N4 := Aid.hid n4; have K3 := Aid.hid k3; have N10 := Aid.hid n10; have HMD := Aid.hid hmd
      have b31 := n3.cell 1 _ rfl
      have b34 := n3.cell 4 _ rfl
      have l3 := n3.lt
      have v2 := n10.cell 2 _ rfl
      have l10 := n10.lt
      obtain ⟨q2, h2⟩ : ∃ q, (e.n == 2) = q := ⟨_, rfl⟩
      obtain ⟨ab, hab⟩ : ∃ q, m.abs = q := ⟨_, rfl⟩
      rw [hab] at v2
      by_cases hbad : e.n = 2 ∧ m.abs = true
      · obtain ⟨rfl, rfl⟩ : Ty.none_ = t ∧ 15 = c := by have := HR.out; rw [Ty.call, if_pos hbad] at this; simpa using this
        obtain rfl : true = q2 := by rw [← h2, hbad.1]; rfl
        obtain rfl : true = ab := by rw [← hab, hbad.2]
        clear n2 n3 n4 k3 hmd hab hbad n10
        go_wp2_with fail
        refine (wrong_x 15 _).mono ?_; rintro _ w8 ⟨rfl, hb8⟩
        have HZ8 := Aid.hid ((N4.out).below hb8 (N4.out).lt)
        have KW8 := Aid.hid ((K3.out).trans (hb8.mono (K3.out).size))
        clear hb8
        go_wp2_with (refine wpList_store_row rfl 44 _ _ rfl (w.heap.size + 1 + 1) _ rfl rfl 44 _ (HZ8.out) (by kernel_rfl) rfl (by simp [Value.oneCell']) ?_)
        refine bodyPost_ret (v := _) (results_row2 rfl _ _ (w.heap.size + 1 + 1) 44 _ (0, 0) _ _ rfl rfl (row_has (HZ8.out)) Tryz.underlying44 rfl (by kernel_rfl)) rfl ⟨rfl, row_below (KW8.out) (by omega) _⟩
      · have HR := Aid.hid (show Ty.rest p m ((e.args.map (Ty.expr p)).map (·.1)) (e.args.map (Ty.expr p)) = (t, c) by have := HR.out; rwa [Ty.call, if_neg hbad] at this)
        have hcase : q2 = false ∨ (q2 = true ∧ ab = false) := by
          cases q2
          · exact .inl rfl
          · right
            refine ⟨rfl, ?_⟩
            cases hh : ab
            · rfl
            · exact absurd ⟨by simpa using h2, hab.trans hh⟩ hbad
        obtain ⟨TS, hTS⟩ : ∃ TS, (e.args.map (Ty.expr p)).map (·.1) = TS := ⟨_, rfl⟩
        rw [hTS] at HR
        have HTS := Aid.hid hTS
        have lTS : Hid (TS.length = e.args.length) := Aid.hid (by rw [← hTS]; simp)
        have HABS : Hid (m.abs = ab) := Aid.hid hab
        clear n2 n3 n4 k3 hmd hab hbad n10 hTS
        obtain ⟨i0, hi, hz0, hz1, hz2⟩ := info_parts Ty.info
        have lw3 : w.heap.size + 1 + 1 < w3.heap.size := N4.out.lt
        rcases hcase with rfl | ⟨rfl, rfl⟩
        all_goals
          go_wp2_with fail
          clear v2 h2
          go_loopw [11, 72] (fun v11 vi wr => ∃ (k : Nat) (A : Option Addr) (cap : Nat), vi = .int .i64 k ∧ v11 = .slice A k cap ∧ k ≤ e.args.length ∧ Hid (Ty.rest p m TS ((e.args.map (Ty.expr p)).drop k) = (t, c)) ∧ Hid (wr.ownsRow w3.heap.size 44 4 (.slice A k cap) k ((TS.take k).map Ty.cells).flatten) ∧ Hid (Below w3.heap.size w3 wr)) (fun _ vi _ => e.args.length - (intOf vi).toNat)
          case atStart => exact ⟨0, none, 0, rfl, rfl, Nat.zero_le _, HR, Aid.hid (by simpa using World.ownsRow_nil w3 w3.heap.size _ 4), Aid.hid (Below.refl _ _)⟩
          case round =>
            obtain ⟨k, A, cap, rfl, rfl, hk, HK, HO, HB⟩ := hrel
            have Kall : Below w.heap.size w wr := K3.out.trans (HB.out.mono K3.out.size)
            by_cases hlt : k < e.args.length
            · obtain ⟨x, hx⟩ : ∃ x, e.args[k]? = some x := ⟨_, List.getElem?_eq_getElem hlt⟩
              obtain ⟨eb, off, rfl, hebB, hc, hs⟩ := Ex.at1 (HE.out.below Kall hB) hx
              have c0 := hc 0 _ rfl
              have c1 := hc 1 _ rfl
              have c2 := hc 2 _ rfl
              have c3 := hc 3 _ rfl
              have c4 := hc 4 _ rfl
              simp only [Nat.add_zero] at c0
              have leb : eb < wr.heap.size := by have := Kall.size; omega
              have b2 := ((N2.out.below HB.out N2.out.lt).cell 0 _ rfl)
              have l2 := (N2.out.below HB.out N2.out.lt).lt
              have kk := below_new wr (.cells #[.int .i64 x.k, .int .i64 x.n, .string x.name, .string x.what, .slice x.A x.args.length x.c] 79)
              obtain ⟨⟨t1, d1⟩, he1⟩ : ∃ r, Ty.expr p x = r := ⟨_, rfl⟩
              have HK2 := Aid.hid (show Ty.rest p m TS ((t1, d1) :: (e.args.map (Ty.expr p)).drop (k + 1)) = (t, c) by
                have := HK.out
                rwa [drop_at (x := (t1, d1)) (by simp [hx, he1])] at this)
              have HTK : Hid (TS[k]? = some t1) := Aid.hid (by rw [← HTS.out]; simp [hx, he1])
              have HC := Aid.hid (HX.out x (List.mem_of_getElem? hx) (wr.alloc (.cells #[.int .i64 x.k, .int .i64 x.n, .string x.name, .string x.what, .slice x.A x.args.length x.c] 79)) t1 d1 he1 ((HH.out.below Kall).below kk) (hs.below kk (by have := Kall.size; omega)))
              have KK := Aid.hid kk
              clear hc hx hs HK he1 Kall kk
              go_wp2_with fail
              refine HC.out.mono ?_; rintro _ w5 ⟨rfl, hb5⟩
              have HB5 := Aid.hid ((HB.out.alloc HB.out.size (.cells #[.int .i64 x.k, .int .i64 x.n, .string x.name, .string x.what, .slice x.A x.args.length x.c] 79)).trans (hb5.mono (Nat.le_trans HB.out.size KK.out.size)))
              have HO5 := own_keeps (own_keeps HO.out KK.out) hb5
              have n4 := N4.out.below HB5.out N4.out.lt
              have K5 := Aid.hid (K3.out.trans (HB5.out.mono K3.out.size))
              have hs5 : w.heap.size ≤ w5.heap.size := K5.out.size
              clear hb5 HC c0 c1 c2 c3 c4 leb b2 l2 KK
              by_cases hd : d1 = 0
              · subst hd
                have NX := Aid.hid (show Ty.rest p m TS ((e.args.map (Ty.expr p)).drop (k + 1)) = (t, c) by
                  have := HK2.out
                  rw [Ty.rest, Ty.bad, if_neg (by simp)] at this
                  exact this)
                obtain ⟨-, -, k3⟩ := two_new w5 [.int .i64 t1.k, .int .i64 t1.lo, .int .i64 t1.hi, .string t1.name] [.int .i64 t1.k, .int .i64 t1.lo, .int .i64 t1.hi, .string t1.name] 44 44
                have hnew := (two_new w5 [.int .i64 t1.k, .int .i64 t1.lo, .int .i64 t1.hi, .string t1.name] [.int .i64 t1.k, .int .i64 t1.lo, .int .i64 t1.hi, .string t1.name] 44 44).2.1
                have ho3 := own_keeps HO5 k3
                have hr : Reads ((w5.alloc (.cells #[.int .i64 t1.k, .int .i64 t1.lo, .int .i64 t1.hi, .string t1.name] 44)).alloc (.cells #[.int .i64 t1.k, .int .i64 t1.lo, .int .i64 t1.hi, .string t1.name] 44)) ((w5.alloc (.cells #[.int .i64 t1.k, .int .i64 t1.lo, .int .i64 t1.hi, .string t1.name] 44)).alloc (.cells #[.int .i64 t1.k, .int .i64 t1.lo, .int .i64 t1.hi, .string t1.name] 44)).heap.size 4 (some ⟨(w5.heap.size + 1), 0, none⟩) 1 [.int .i64 t1.k, .int .i64 t1.lo, .int .i64 t1.hi, .string t1.name] := ⟨by simp, fun _ => ⟨⟨w5.heap.size + 1, 0, none⟩, rfl, by simp [World.size_alloc], fun j u hj => by
                  rw [Go.WideShapes.add_plain, Nat.zero_add]; exact hnew.cell j u hj⟩⟩
                have hbs : w3.heap.size ≤ ((w5.alloc (.cells #[.int .i64 t1.k, .int .i64 t1.lo, .int .i64 t1.hi, .string t1.name] 44)).alloc (.cells #[.int .i64 t1.k, .int .i64 t1.lo, .int .i64 t1.hi, .string t1.name] 44)).heap.size := Nat.le_trans HB5.out.size k3.size
                have hk1 : k + 1 ≤ 1000000000 := by omega
                have K3b := Aid.hid k3
                clear k3 hnew HO5 n4
                go_wp2_with (at_builtin; refine wpList_append_any _ rfl _ _ 127 rfl w3.heap.size 44 i0 (.agg #[.int .i64 0, .int .i64 0, .int .i64 0, .string ⟨#[]⟩]) 4 40 Tryz.underlying127 hi hz0 hz1 hz2 rfl (by decide) _ _ _ rfl ho3 _ (some ⟨(w5.heap.size + 1), 0, none⟩) 1 1 [.int .i64 t1.k, .int .i64 t1.lo, .int .i64 t1.hi, .string t1.name] rfl hr ?d1 ?d2 ?d3 hbs ?_)
                case d1 => intro u hu; simp at hu; rcases hu with rfl | rfl | rfl | rfl <;> rfl
                case d2 => unfold maxLen; omega
                case d3 => omega
                intro v9 w9 ho9 hg9 hob
                obtain ⟨A9, c9, rfl⟩ := own_slice ho9
                have HB9 := Aid.hid ((HB5.out.trans (K3b.out.mono HB5.out.size)).grown hg9 hbs (fun q hq => (ho3.lt q hq).1))
                have TK : (TS.take (k + 1)).map Ty.cells = (TS.take k).map Ty.cells ++ [[.int .i64 t1.k, .int .i64 t1.lo, .int .i64 t1.hi, .string t1.name]] := by
                  rw [List.take_add_one, HTK.out]; simp [Ty.cells]
                have HO9 := Aid.hid (show w9.ownsRow w3.heap.size 44 4 (.slice A9 (k + 1) c9) (k + 1) ((TS.take (k + 1)).map Ty.cells).flatten by rw [TK]; simpa using ho9)
                clear ho9 hg9 hob hr hbs ho3 TK
                go_wp2_with fail
                go_roundw
                case rel => exact ⟨k + 1, A9, c9, by go_num, rfl, by omega, NX, HO9, HB9⟩
                case measure => simp [intOf]; omega
              · obtain ⟨rfl, rfl⟩ : Ty.none_ = t ∧ d1 = c := by
                  have := HK2.out
                  rw [Ty.rest, Ty.bad, if_pos hd] at this
                  simpa using this
                clear HO5
                go_wp2_with fail
                refine (wrong_x d1 _).mono ?_; rintro _ w8 ⟨rfl, hb8⟩
                have HZ8 := Aid.hid ((n4.alloc _).below hb8 (n4.alloc _).lt)
                have KW8 := Aid.hid ((K5.out.alloc hs5 _).trans (hb8.mono (K5.out.alloc hs5 _).size))
                clear hb8
                go_wp2_with (refine wpList_store_row rfl 44 _ _ rfl (w.heap.size + 1 + 1) _ rfl rfl 44 _ (HZ8.out) (by kernel_rfl) rfl (by simp [Value.oneCell']) ?_)
                refine bodyPost_ret (v := _) (results_row2 rfl _ _ (w.heap.size + 1 + 1) 44 _ (0, 0) _ _ rfl rfl (row_has (HZ8.out)) Tryz.underlying44 rfl (by kernel_rfl)) rfl ⟨rfl, row_below (KW8.out) (by omega) _⟩
            · have hek : k = e.args.length := by omega
              have HRR : Hid ((if Ty.fitsAll p.u m.ps TS = true then (m.res, 0) else (Ty.none_, (15 : Int))) = (t, c)) := Aid.hid (by
                have := HK.out
                rwa [List.drop_eq_nil_of_le (by simp; omega)] at this)
              obtain ⟨r, hr⟩ : ∃ r, Ty.fitsAll p.u m.ps TS = r := ⟨_, rfl⟩
              have n10 := N10.out.below HB.out N10.out.lt
              have HRW : Hid (Rows wr wr.heap.size 4 A (TS.map Ty.cells)) := Aid.hid (by
                have h := HO.out
                rw [hek, List.take_of_length_le (by rw [lTS.out]; exact Nat.le_refl _)] at h
                have h2 := Rows.of_own (sz := 4) (rows := TS.map Ty.cells) (by intro r hr; obtain ⟨x, _, rfl⟩ := List.mem_map.1 hr; rfl) (by rw [List.length_map, lTS.out]; exact h)
                exact h2)
              have hkTS : k = TS.length := by rw [lTS.out]; exact hek
              have i4 := n10.cell 4 _ rfl
              have l10 := n10.lt
              have n2 := N2.out.below HB.out N2.out.lt
              have n4 := N4.out.below HB.out N4.out.lt
              have q2 := n2.cell 0 _ rfl
              have lq := n2.lt
              have HEQ := Aid.hid (equal_is B b w.heap.size B p a m.ps TS m.pA A m.pc cap r wr hr (HH.out.below Kall) q2 lq ((HMD.out.params).below HB.out (HH.out.below K3.out).le) (HH.out.below Kall).le HRW.out HMD.out.smallP (by rw [← hkTS]; omega))
              rw [hr] at HRR
              rw [← hkTS] at HEQ
              have N2r := Aid.hid n2; have N4r := Aid.hid n4; have N10r := Aid.hid n10; have KAL := Aid.hid Kall
              have hlw : w.heap.size ≤ wr.heap.size := Kall.size
              clear hr n10 n2 n4 hek hkTS HRW q2 lq Kall HK HO
              go_wp2_with fail
              refine HEQ.out.mono ?_; rintro _ w6 ⟨rfl, hb6⟩
              have K6 := Aid.hid (KAL.out.trans (hb6.mono hlw))
              have n4 := N4r.out.below hb6 N4r.out.lt
              have n10 := N10r.out.below hb6 N10r.out.lt
              have i5 := n10.cell 5 _ rfl
              have i6 := n10.cell 6 _ rfl
              have i7 := n10.cell 7 _ rfl
              have i8 := n10.cell 8 _ rfl
              have l10b := n10.lt
              have N4s := Aid.hid n4
              clear i4 hb6 n10 n4 HEQ
              cases r
              · obtain ⟨rfl, rfl⟩ : Ty.none_ = t ∧ 15 = c := by have := HRR.out; simpa using this
                go_wp2_with fail
                refine (wrong_x 15 _).mono ?_; rintro _ w8 ⟨rfl, hb8⟩
                have HZ8 := Aid.hid ((N4s.out).below hb8 (N4s.out).lt)
                have KW8 := Aid.hid ((K6.out).trans (hb8.mono (K6.out).size))
                clear hb8
                go_wp2_with (refine wpList_store_row rfl 44 _ _ rfl (w.heap.size + 1 + 1) _ rfl rfl 44 _ (HZ8.out) (by kernel_rfl) rfl (by simp [Value.oneCell']) ?_)
                refine bodyPost_ret (v := _) (results_row2 rfl _ _ (w.heap.size + 1 + 1) 44 _ (0, 0) _ _ rfl rfl (row_has (HZ8.out)) Tryz.underlying44 rfl (by kernel_rfl)) rfl ⟨rfl, row_below (KW8.out) (by omega) _⟩
              · obtain ⟨rfl, rfl⟩ : m.res = t ∧ 0 = c := by have := HRR.out; simpa using this
                go_wp2_with (refine wpList_store_row rfl 44 _ _ rfl (w.heap.size + 1 + 1) _ rfl rfl 44 _ (N4s.out) (by kernel_rfl) rfl (by simp [Value.oneCell']) ?_)
                refine bodyPost_ret (v := _) (results_row2 rfl _ _ (w.heap.size + 1 + 1) 44 _ (0, 0) _ _ rfl rfl (row_has (N4s.out)) Tryz.underlying44 rfl (by kernel_rfl)) rfl ⟨rfl, row_below (K6.out) (by omega) _⟩
  · obtain ⟨rfl, rfl⟩ : Ty.none_ = t ∧ cw = c := by have := HR.out; simpa [hcw] using this
    clear n2 n3 n4 k1
    go_wp2_with fail
    refine (wrong_x cw _).mono ?_; rintro _ w8 ⟨rfl, hb8⟩
    have HZ8 := Aid.hid ((N4.out).below hb8 (N4.out).lt)
    have KW8 := Aid.hid ((K1.out).trans (hb8.mono (K1.out).size))
    clear hb8
    go_wp2_with (refine wpList_store_row rfl 44 _ _ rfl (w.heap.size + 1 + 1) _ rfl rfl 44 _ (HZ8.out) (by kernel_rfl) rfl (by simp [Value.oneCell']) ?_)
    refine bodyPost_ret (v := _) (results_row2 rfl _ _ (w.heap.size + 1 + 1) 44 _ (0, 0) _ _ rfl rfl (row_has (HZ8.out)) Tryz.underlying44 rfl (by kernel_rfl)) rfl ⟨rfl, row_below (KW8.out) (by omega) _⟩

end Go.Proofs.YtejifefgmlpclaaGreat
