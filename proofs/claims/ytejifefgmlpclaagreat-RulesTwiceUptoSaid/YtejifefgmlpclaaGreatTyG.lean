/- Parts of typing, as walks: what an Invoke is handed. -/
import Derived.Test.YtejifefgmlpclaaGreatTyE
import Derived.StillTail
import Derived.StillTailTactics
import Derived.WalkKit
import Derived.WalkSpells
import Derived.WalkLawsBesides
import Derived.LoopTactic
import Derived.Deep.QuietTactic
import Derived.BigQuiet
import Derived.Below
import Derived.Laws.ResultCell
import Derived.Laws.Tables
import Derived.Laws.Rows
import Derived.Deep.Cut
import Derived.KernelRfl
set_option linter.unusedSimpArgs false
set_option linter.unusedVariables false
namespace Go.Proofs.YtejifefgmlpclaaGreat
open Go.RowKit

theorem Ty.fitsAll_len {u : List Dk} : ∀ {vs : List Vd} {ts : List Ty}, Ty.fitsAll u vs ts = true → vs.length = ts.length
  | [], [], _ => rfl
  | v :: vs, t :: ts, h => by
    rw [Ty.fitsAll, Bool.and_eq_true] at h
    simp [Ty.fitsAll_len h.2]
  | [], _ :: _, h => by simp [Ty.fitsAll] at h
  | _ :: _, [], h => by simp [Ty.fitsAll] at h
theorem Rows.ty_ {w : World} {B : Nat} {A : Option Addr} {ps : List Ty} (h : Rows w B 4 A (ps.map Ty.cells)) (hn : 0 < ps.length) :
    ∃ b off, A = some ⟨b, off, none⟩ ∧ b < B ∧ ∀ (i : Nat) (v : Ty), ps[i]? = some v → ∀ j x, v.cells[j]? = some x → w.cell? ⟨b, off + i * 4 + j, none⟩ = some x := by
  obtain ⟨b, off, h1, h2, h3⟩ := h (by simpa using hn)
  exact ⟨b, off, h1, h2, fun i v hv j x hx => h3 i v.cells (by simp [hv]) j x hx⟩
theorem drop_at {α : Type} {l : List α} {k : Nat} {x : α} (h : l[k]? = some x) : l.drop k = x :: l.drop (k + 1) := by
  obtain ⟨h1, h2⟩ := List.getElem?_eq_some_iff.1 h
  rw [← h2, List.getElem_cons_drop h1]
set_option maxRecDepth 100000 in
set_option maxHeartbeats 4000000 in
theorem invoke1_is (B b q : Nat) (p : Pl) (a : Pa) (v : Vd) (t : Ty) (r : Bool) (w : World) (hr : Ty.fits p.u v.ty t = r) (h : PlAt w B b p a) (hq : w.cell? ⟨q, 0, none⟩ = some (.pointer (some ⟨b, 0, none⟩))) (hlt : q < w.heap.size) :
    Calls Tryz.prog 92 #[.agg #[.string v.name, .int .i64 v.ty.k, .int .i64 v.ty.lo, .int .i64 v.ty.hi, .string v.ty.name, .int .i64 v.init, .int .i64 v.dir, .int .i64 v.slot], .agg #[.int .i64 t.k, .int .i64 t.lo, .int .i64 t.hi, .string t.name], .pointer (some ⟨q, 0, none⟩)] w fun e w' => e = .returned (.bool r) ∧ Below w.heap.size w w' := by
  obtain ⟨n3, n4, k0⟩ := two_new w [.string v.name, .int .i64 v.ty.k, .int .i64 v.ty.lo, .int .i64 v.ty.hi, .string v.ty.name, .int .i64 v.init, .int .i64 v.dir, .int .i64 v.slot] [.int .i64 t.k, .int .i64 t.lo, .int .i64 t.hi, .string t.name] 55 44
  have HR := Aid.hid hr
  have HH := Aid.hid h
  obtain ⟨W, hW⟩ : ∃ W, (w.alloc (.cells #[.string v.name, .int .i64 v.ty.k, .int .i64 v.ty.lo, .int .i64 v.ty.hi, .string v.ty.name, .int .i64 v.init, .int .i64 v.dir, .int .i64 v.slot] 55)).alloc (.cells #[.int .i64 t.k, .int .i64 t.lo, .int .i64 t.hi, .string t.name] 44) = W := ⟨_, rfl⟩
  rw [hW] at n3 n4 k0
  have cq := (k0.cell (p := ⟨q, 0, none⟩) hlt).trans hq
  have lq : q < W.heap.size := Nat.lt_of_lt_of_le hlt k0.size
  have HP := h.below k0
  have a0 := HP.has.cell 0 _ rfl
  have la := HP.has.lt
  have i1 := n3.cell 1 _ rfl
  have i2 := n3.cell 2 _ rfl
  have i3 := n3.cell 3 _ rfl
  have i4 := n3.cell 4 _ rfl
  have j0 := n4.cell 0 _ rfl
  have j1 := n4.cell 1 _ rfl
  have j2 := n4.cell 2 _ rfl
  have j3 := n4.cell 3 _ rfl
  have l3 := n3.lt
  have l4 := n4.lt
  have K0 := Aid.hid k0
  clear hr h n3 n4 k0 HP hq
  go_enter Tryz.func92, Tryz.ntmps92
  try simp only [List.append_eq, List.cons_append, List.nil_append]
  go_wp2_with fail
  clear hW
  go_still_tail 7, (by kernel_rfl)
  change wpList _ _ _ _ _ W.drew
  have k0 := K0.out.drew
  clear a0 la i1 i2 i3 i4 j0 j1 j2 j3 l3 l4 cq lq K0
  generalize W.drew = w2 at *
  have HP := HH.out.below k0
  go_wp2_with fail
  refine (fits_is p.u a.uA B a.uc v.ty t r _ HR.out HP.unit HP.le).mono ?_; rintro _ w3 ⟨rfl, hb3⟩
  have kx := k0.trans (hb3.mono k0.size)
  clear k0 hb3 HP
  go_wp2_with fail
  go_ret
  exact ⟨rfl, kx⟩
set_option maxRecDepth 100000 in
set_option maxHeartbeats 4000000 in
theorem equal_is (B b q B2 : Nat) (p : Pl) (a : Pa) (vs : List Vd) (ts : List Ty) (A1 A2 : Option Addr) (c1 c2 : Nat) (r : Bool) (w : World) (hr : Ty.fitsAll p.u vs ts = r) (h : PlAt w B b p a) (hq : w.cell? ⟨q, 0, none⟩ = some (.pointer (some ⟨b, 0, none⟩))) (hlt : q < w.heap.size)
    (hv : Rows w B2 8 A1 (vs.map Vd.cells)) (hB2 : B2 ≤ w.heap.size) (ht : Rows w w.heap.size 4 A2 (ts.map Ty.cells)) (lv : vs.length ≤ 9223372036854775807) (lt : ts.length ≤ 9223372036854775807) :
    Calls Tryz.prog 93 #[.slice A1 vs.length c1, .slice A2 ts.length c2, .func (.func 92) #[] #[.pointer (some ⟨q, 0, none⟩)]] w fun e w' => e = .returned (.bool r) ∧ Below w.heap.size w w' := by
  have HR := Aid.hid hr
  have HH := Aid.hid h
  have HV := Aid.hid hv
  have HT := Aid.hid ht
  have HQ := Aid.hid hq
  clear hr h hv ht hq
  by_cases hlen : vs.length = ts.length
  · have hl2 : ((vs.length : Int) != (ts.length : Int)) = false := by simp [hlen]
    have HLEN := Aid.hid hlen
    clear hlen
    go_enter Tryz.func93, Tryz.ntmps93
    try simp only [List.append_eq, List.cons_append, List.nil_append]
    go_wp2_with fail
    go_loopw [17] (fun vi wr => ∃ k : Nat, vi = .int .i64 k ∧ k ≤ vs.length ∧ Hid (Ty.fitsAll p.u (vs.drop k) (ts.drop k) = r) ∧ Below w.heap.size w wr) (fun vi _ => vs.length - (intOf vi).toNat)
    case atStart => exact ⟨0, rfl, Nat.zero_le _, Aid.hid (by simpa using HR.out), Below.refl _ _⟩
    case round =>
      obtain ⟨k, rfl, hk, HK, hb⟩ := hrel
      by_cases hlt2 : k < vs.length
      · have hk2 : k < ts.length := by have := HLEN.out; omega
        obtain ⟨g1, o1, rfl, hg1, hc⟩ := Rows.vdr_ (HV.out.below hb hB2) (by omega)
        obtain ⟨g2, o2, rfl, hg2, hd⟩ := Rows.ty_ (HT.out.below hb (Nat.le_refl _)) (by omega)
        obtain ⟨v, hv⟩ : ∃ v, vs[k]? = some v := ⟨_, List.getElem?_eq_getElem hlt2⟩
        obtain ⟨t, ht⟩ : ∃ t, ts[k]? = some t := ⟨_, List.getElem?_eq_getElem (by omega)⟩
        have i0 := hc k v hv 0 _ rfl
        have i1 := hc k v hv 1 _ rfl
        have i2 := hc k v hv 2 _ rfl
        have i3 := hc k v hv 3 _ rfl
        have i4 := hc k v hv 4 _ rfl
        have i5 := hc k v hv 5 _ rfl
        have i6 := hc k v hv 6 _ rfl
        have i7 := hc k v hv 7 _ rfl
        have j0 := hd k t ht 0 _ rfl
        have j1 := hd k t ht 1 _ rfl
        have j2 := hd k t ht 2 _ rfl
        have j3 := hd k t ht 3 _ rfl
        simp only [Nat.add_zero] at i0 j0
        have lg1 : g1 < wr.heap.size := Nat.lt_of_lt_of_le hg1 (Nat.le_trans hB2 hb.size)
        have lg2 : g2 < wr.heap.size := Nat.lt_of_lt_of_le hg2 hb.size
        have DR : Hid ((Ty.fits p.u v.ty t && Ty.fitsAll p.u (vs.drop (k + 1)) (ts.drop (k + 1))) = r) := Aid.hid (by have := HK.out; rw [drop_at hv, drop_at ht, Ty.fitsAll] at this; exact this)
        obtain ⟨s, hs⟩ : ∃ s, Ty.fits p.u v.ty t = s := ⟨_, rfl⟩
        have HS := Aid.hid hs
        have HB := Aid.hid hb
        clear hc hd hv ht hs HK
        go_wp2_with fail
        have k2 : Below w.heap.size w ((wr.alloc (.cells #[.string v.name, .int .i64 v.ty.k, .int .i64 v.ty.lo, .int .i64 v.ty.hi, .string v.ty.name, .int .i64 v.init, .int .i64 v.dir, .int .i64 v.slot] 55)).alloc (.cells #[.int .i64 t.k, .int .i64 t.lo, .int .i64 t.hi, .string t.name] 44)) := (hb.alloc hb.size _).alloc (by have := hb.size; simp; omega) _
        refine (invoke1_is B b q p a v t s _ HS.out (HH.out.below k2) ((k2.cell (p := ⟨q, 0, none⟩) hlt).trans HQ.out) (Nat.lt_of_lt_of_le hlt k2.size)).mono ?_; rintro _ w3 ⟨rfl, hb3⟩
        have KX := k2.trans (hb3.mono k2.size)
        clear hb hb3 k2 i0 i1 i2 i3 i4 i5 i6 i7 j0 j1 j2 j3 HB
        cases s
        · obtain rfl : false = r := by have := DR.out; rw [HS.out] at this; simpa using this
          go_wp2_with fail
          go_ret
          exact ⟨rfl, KX⟩
        · have NX : Hid (Ty.fitsAll p.u (vs.drop (k + 1)) (ts.drop (k + 1)) = r) := Aid.hid (by have := DR.out; rw [HS.out] at this; simpa using this)
          go_wp2_with fail
          go_roundw
          case rel => exact ⟨k + 1, by go_num, by omega, NX, KX⟩
          case measure => simp [intOf]; omega
      · obtain rfl : true = r := by have := HK.out; rw [List.drop_eq_nil_of_le (by omega), List.drop_eq_nil_of_le (by have := HLEN.out; omega)] at this; simpa [Ty.fitsAll] using this
        go_wp2_with fail
        go_ret
        exact ⟨rfl, hb⟩
  · have hl2 : ((vs.length : Int) != (ts.length : Int)) = true := by simpa using (by omega : ¬ (vs.length : Int) = ts.length)
    obtain rfl : false = r := by
      cases r
      · rfl
      · exact absurd (Ty.fitsAll_len HR.out) hlen
    go_enter Tryz.func93, Tryz.ntmps93
    try simp only [List.append_eq, List.cons_append, List.nil_append]
    go_wp2_with fail
    go_ret
    exact ⟨rfl, Below.refl _ _⟩
end Go.Proofs.YtejifefgmlpclaaGreat
