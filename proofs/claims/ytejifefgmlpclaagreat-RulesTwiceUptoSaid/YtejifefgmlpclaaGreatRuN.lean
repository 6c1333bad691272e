/- What is wrong with a class: as walks. -/
import Derived.Test.YtejifefgmlpclaaGreatRuM
import Derived.Test.YtejifefgmlpclaaGreatRuK
import Derived.WalkKit
import Derived.WalkSpells
import Derived.WalkLawsBesides
import Derived.LoopTactic
import Derived.Deep.QuietTactic
import Derived.BigQuiet
import Derived.Below
import Derived.Laws.ResultCell
import Derived.Laws.Tables
import Derived.Laws.Rows
import Derived.Deep.Cut
import Derived.KernelRfl
import Derived.Test.YtejifefgmlpclaaGreatRuG
import Derived.Test.YtejifefgmlpclaaGreatRuF
set_option linter.unusedSimpArgs false
set_option linter.unusedVariables false
namespace Go.Proofs.YtejifefgmlpclaaGreat
open Go.RowKit

/-- The first test that is met tells its code. -/
def Ru.firstRow : List (Int × FuncId × Bool) → Int → Int
  | [], e => e
  | (c, _, q) :: l, e => if q = true then c else Ru.firstRow l e
theorem Ru.firstRow_step {l : List (Int × FuncId × Bool)} {k : Nat} {c : Int} {g : FuncId} {q : Bool} (h : l[k]? = some (c, g, q)) (e : Int) : Ru.firstRow (l.drop k) e = if q = true then c else Ru.firstRow (l.drop (k + 1)) e := by
  obtain ⟨hk, hx⟩ := List.getElem?_eq_some_iff.1 h
  rw [List.drop_eq_getElem_cons hk, hx, Ru.firstRow]
theorem Ru.bodies_step {u : List Dk} {i : Int} {l : List Md} {k : Nat} {m : Md} (h : l[k]? = some m) : Ru.bodiesFrom u i k (l.drop k) = if m.abs = true then Ru.bodiesFrom u i (k + 1) (l.drop (k + 1)) else if Ru.stmts u i k m.body ≠ 0 then Ru.stmts u i k m.body else Ru.bodiesFrom u i (k + 1) (l.drop (k + 1)) := by
  obtain ⟨hk, rfl⟩ := List.getElem?_eq_some_iff.1 h
  rw [List.drop_eq_getElem_cons hk, Ru.bodiesFrom]
theorem Ru.bodies_end {u : List Dk} {i : Int} {l : List Md} {k : Nat} (h : l.length ≤ k) : Ru.bodiesFrom u i k (l.drop k) = 0 := by
  rw [List.drop_eq_nil_of_le h]; rfl
def Ru.rows (u : List Dk) (i : Nat) (d : Dk) : List (Int × FuncId × Bool) := [(7, 31, Ru.base u i d), (8, 32, Ru.strange u d), (9, 33, Ru.kinds u d), (10, 34, Ru.inits d), (6, 35, Ru.names u i d), (12, 36, Ru.abstract u i d), (11, 37, Ru.over u i d), (8, 38, Ru.faces u i)]
theorem Ru.class_eq (u : List Dk) (i : Nat) (d : Dk) : Ru.class_ u i d = Ru.firstRow ((Ru.rows u i d).drop 0) (Ru.bodiesFrom u i 0 (d.ms.drop 0)) := rfl
set_option maxRecDepth 100000 in
set_option maxHeartbeats 4000000 in
theorem row_is (u : List Dk) (a : Option Addr) (B cap b i : Nat) (d : Dk) (k : Nat) (c : Int) (g : FuncId) (q : Bool) (w : World) (hr : (Ru.rows u i d)[k]? = some (c, g, q)) (hk : d.kind = 2) (hl : RLim u) (hcap : UCap u cap) (hx : Aid.Has w b [.slice a u.length cap, .int .i64 (i : Int), .int .i64 d.kind, .string d.name, .string d.base, .slice d.fA d.faces.length d.fc, .bool d.abs, .bool d.fin, .slice d.vA d.vs.length d.vc, .slice d.mA d.ms.length d.mc, .slice d.bA d.body.length d.bc, .int .i64 d.every, .int .i64 d.first] 50) (hd : u[i]? = some d) (hu : UnitAt w B a u) (hB : B ≤ w.heap.size) :
    (∀ args w0, (callFunc g args).run Tryz.prog w0 = .ok (.enter g args) w0) ∧ Calls Tryz.prog g #[.pointer (some ⟨b, 0, none⟩)] w fun z w' => z = .returned (.bool q) ∧ Below w.heap.size w w' := by
  match k, hr with
  | 0, hr =>
    obtain ⟨rfl, rfl, rfl⟩ : 7 = c ∧ 31 = g ∧ Ru.base u i d = q := by simpa [Ru.rows] using hr
    exact ⟨(fun _ _ => enter_of Tryz.func31 (by kernel_rfl) (by kernel_rfl) _ _), base_is u a B cap b i d _ w rfl hx hd hu hB⟩
  | 1, hr =>
    obtain ⟨rfl, rfl, rfl⟩ : 8 = c ∧ 32 = g ∧ Ru.strange u d = q := by simpa [Ru.rows] using hr
    exact ⟨(fun _ _ => enter_of Tryz.func32 (by kernel_rfl) (by kernel_rfl) _ _), strange_is u a B cap b i d _ w rfl hcap hx hd hu hB⟩
  | 2, hr =>
    obtain ⟨rfl, rfl, rfl⟩ : 9 = c ∧ 33 = g ∧ Ru.kinds u d = q := by simpa [Ru.rows] using hr
    exact ⟨(fun _ _ => enter_of Tryz.func33 (by kernel_rfl) (by kernel_rfl) _ _), rkinds_is u a B cap b i d _ w rfl hx hd hu hB⟩
  | 3, hr =>
    obtain ⟨rfl, rfl, rfl⟩ : 10 = c ∧ 34 = g ∧ Ru.inits d = q := by simpa [Ru.rows] using hr
    exact ⟨(fun _ _ => enter_of Tryz.func34 (by kernel_rfl) (by kernel_rfl) _ _), inits_is u a B cap b i d _ w rfl hx hd hu hB⟩
  | 4, hr =>
    obtain ⟨rfl, rfl, rfl⟩ : 6 = c ∧ 35 = g ∧ Ru.names u i d = q := by simpa [Ru.rows] using hr
    exact ⟨(fun _ _ => enter_of Tryz.func35 (by kernel_rfl) (by kernel_rfl) _ _), names_is u a B cap b i d _ w rfl hk hl hcap hx hd hu hB⟩
  | 5, hr =>
    obtain ⟨rfl, rfl, rfl⟩ : 12 = c ∧ 36 = g ∧ Ru.abstract u i d = q := by simpa [Ru.rows] using hr
    exact ⟨(fun _ _ => enter_of Tryz.func36 (by kernel_rfl) (by kernel_rfl) _ _), abstract_is u a B cap b i d _ w rfl hl hx hd hu hB⟩
  | 6, hr =>
    obtain ⟨rfl, rfl, rfl⟩ : 11 = c ∧ 37 = g ∧ Ru.over u i d = q := by simpa [Ru.rows] using hr
    exact ⟨(fun _ _ => enter_of Tryz.func37 (by kernel_rfl) (by kernel_rfl) _ _), over_is u a B cap b i d _ w rfl hk hx hd hu hB⟩
  | 7, hr =>
    obtain ⟨rfl, rfl, rfl⟩ : 8 = c ∧ 38 = g ∧ Ru.faces u i = q := by simpa [Ru.rows] using hr
    exact ⟨(fun _ _ => enter_of Tryz.func38 (by kernel_rfl) (by kernel_rfl) _ _), rfaces_is u a B cap b i d _ w rfl hx hd hu hB⟩
  | n + 8, hr => exact absurd hr (by simp [Ru.rows])
theorem row_cells {w : World} {g : Nat} {t : TypeId} {b : Nat} (h : Aid.Has w g [.int .i64 7, .func (.func 31) #[.pointer (some ⟨b, 0, none⟩)] #[], .int .i64 8, .func (.func 32) #[.pointer (some ⟨b, 0, none⟩)] #[], .int .i64 9, .func (.func 33) #[.pointer (some ⟨b, 0, none⟩)] #[], .int .i64 10, .func (.func 34) #[.pointer (some ⟨b, 0, none⟩)] #[], .int .i64 6, .func (.func 35) #[.pointer (some ⟨b, 0, none⟩)] #[], .int .i64 12, .func (.func 36) #[.pointer (some ⟨b, 0, none⟩)] #[], .int .i64 11, .func (.func 37) #[.pointer (some ⟨b, 0, none⟩)] #[], .int .i64 8, .func (.func 38) #[.pointer (some ⟨b, 0, none⟩)] #[]] t) {u : List Dk} {i : Nat} {d : Dk} {k : Nat} {c : Int} {f : FuncId} {q : Bool} (hr : (Ru.rows u i d)[k]? = some (c, f, q)) : w.cell? ⟨g, k * 2, none⟩ = some (.int .i64 c) ∧ w.cell? ⟨g, k * 2 + 1, none⟩ = some (.func (.func f) #[.pointer (some ⟨b, 0, none⟩)] #[]) := by
  match k, hr with
  | 0, hr =>
    obtain ⟨rfl, rfl, rfl⟩ : 7 = c ∧ 31 = f ∧ Ru.base u i d = q := by simpa [Ru.rows] using hr
    exact ⟨h.cell 0 _ rfl, h.cell 1 _ rfl⟩
  | 1, hr =>
    obtain ⟨rfl, rfl, rfl⟩ : 8 = c ∧ 32 = f ∧ Ru.strange u d = q := by simpa [Ru.rows] using hr
    exact ⟨h.cell 2 _ rfl, h.cell 3 _ rfl⟩
  | 2, hr =>
    obtain ⟨rfl, rfl, rfl⟩ : 9 = c ∧ 33 = f ∧ Ru.kinds u d = q := by simpa [Ru.rows] using hr
    exact ⟨h.cell 4 _ rfl, h.cell 5 _ rfl⟩
  | 3, hr =>
    obtain ⟨rfl, rfl, rfl⟩ : 10 = c ∧ 34 = f ∧ Ru.inits d = q := by simpa [Ru.rows] using hr
    exact ⟨h.cell 6 _ rfl, h.cell 7 _ rfl⟩
  | 4, hr =>
    obtain ⟨rfl, rfl, rfl⟩ : 6 = c ∧ 35 = f ∧ Ru.names u i d = q := by simpa [Ru.rows] using hr
    exact ⟨h.cell 8 _ rfl, h.cell 9 _ rfl⟩
  | 5, hr =>
    obtain ⟨rfl, rfl, rfl⟩ : 12 = c ∧ 36 = f ∧ Ru.abstract u i d = q := by simpa [Ru.rows] using hr
    exact ⟨h.cell 10 _ rfl, h.cell 11 _ rfl⟩
  | 6, hr =>
    obtain ⟨rfl, rfl, rfl⟩ : 11 = c ∧ 37 = f ∧ Ru.over u i d = q := by simpa [Ru.rows] using hr
    exact ⟨h.cell 12 _ rfl, h.cell 13 _ rfl⟩
  | 7, hr =>
    obtain ⟨rfl, rfl, rfl⟩ : 8 = c ∧ 38 = f ∧ Ru.faces u i = q := by simpa [Ru.rows] using hr
    exact ⟨h.cell 14 _ rfl, h.cell 15 _ rfl⟩
  | n + 8, hr => exact absurd hr (by simp [Ru.rows])
set_option maxRecDepth 100000 in
set_option maxHeartbeats 4000000 in
theorem class_is (u : List Dk) (a : Option Addr) (B cap b i : Nat) (d : Dk) (r : Int) (w : World) (hr : Ru.class_ u i d = r) (hk : d.kind = 2) (hl : RLim u) (hbd : ∀ m ∈ d.ms, RBody w B m.bA m.body) (hcap : UCap u cap) (hx : Aid.Has w b [.slice a u.length cap, .int .i64 (i : Int), .int .i64 d.kind, .string d.name, .string d.base, .slice d.fA d.faces.length d.fc, .bool d.abs, .bool d.fin, .slice d.vA d.vs.length d.vc, .slice d.mA d.ms.length d.mc, .slice d.bA d.body.length d.bc, .int .i64 d.every, .int .i64 d.first] 50) (hd : u[i]? = some d) (hu : UnitAt w B a u) (hB : B ≤ w.heap.size) :
    Calls Tryz.prog 16 #[.pointer (some ⟨b, 0, none⟩)] w fun z w' => z = .returned (.int .i64 r) ∧ Below w.heap.size w w' := by
  have HS0 : Hid (Ru.firstRow ((Ru.rows u i d).drop 0) (Ru.bodiesFrom u i 0 (d.ms.drop 0)) = r) := Aid.hid (by rw [← hr, Ru.class_eq])
  have HL := Aid.hid hl; have HCP := Aid.hid hcap; have HBD := Aid.hid hbd; have HKI := Aid.hid hk
  have hrl : (Ru.rows u i d).length = 8 := rfl
  have hmem := List.mem_of_getElem? hd
  have HDK := Aid.hid (hu.decls d hmem)
  have smM := HDK.out.smallM; have smV := HDK.out.smallV; have smF := HDK.out.smallF
  have HU := Aid.hid hu; have HX := Aid.hid hx; have HD := Aid.hid hd
  have sm := hu.small
  have hil : i < u.length := (List.getElem?_eq_some_iff.1 hd).1
  clear hr hmem hl hcap hbd hk hu hx hd
  go_enter Tryz.func16, Tryz.ntmps16
  try simp only [List.append_eq, List.cons_append, List.nil_append]
  have Nx := Aid.hid (HX.out.below ((Below.refl w.heap.size w)) HX.out.lt)
  obtain ⟨W1, hW1⟩ : ∃ W1, w.alloc (.cells #[.int .i64 7, .func (.func 31) #[.pointer (some ⟨b, 0, none⟩)] #[], .int .i64 8, .func (.func 32) #[.pointer (some ⟨b, 0, none⟩)] #[], .int .i64 9, .func (.func 33) #[.pointer (some ⟨b, 0, none⟩)] #[], .int .i64 10, .func (.func 34) #[.pointer (some ⟨b, 0, none⟩)] #[], .int .i64 6, .func (.func 35) #[.pointer (some ⟨b, 0, none⟩)] #[], .int .i64 12, .func (.func 36) #[.pointer (some ⟨b, 0, none⟩)] #[], .int .i64 11, .func (.func 37) #[.pointer (some ⟨b, 0, none⟩)] #[], .int .i64 8, .func (.func 38) #[.pointer (some ⟨b, 0, none⟩)] #[]] 72) = W1 := ⟨_, rfl⟩
  have hg := new_at hW1
  have kq := below_at0 hW1
  have NX1 := Aid.hid (all_at hW1 Nx.out)
  have HG := Aid.hid hg; have KQ := Aid.hid kq
  clear hg kq
  go_wp2_with fail
  (try clear hW1)
  go_loopw [36] (fun vi wi => ∃ k : Nat, vi = .int .i64 k ∧ k ≤ 8 ∧ Hid (Ru.firstRow ((Ru.rows u i d).drop k) (Ru.bodiesFrom u i 0 (d.ms.drop 0)) = r) ∧ Hid (Below W1.heap.size W1 wi)) (fun vi _ => 8 - (intOf vi).toNat)
  case atStart => exact ⟨0, rfl, Nat.zero_le _, HS0, Aid.hid (Below.refl _ _)⟩
  case round =>
    obtain ⟨k, rfl, hk, HF, HB⟩ := hrel
    have KHB := Aid.hid ((KQ.out).trans (HB.out.mono (KQ.out).size))
    have Nx_HB := Aid.hid (NX1.out.below HB.out NX1.out.lt)
    have Ng_HB := Aid.hid (HG.out.below HB.out HG.out.lt)
    by_cases hkl : k < 8
    · obtain ⟨⟨c, f, q⟩, hrow⟩ : ∃ x, (Ru.rows u i d)[k]? = some x := ⟨_, List.getElem?_eq_getElem (by omega)⟩
      have HRW := Aid.hid hrow
      have HST := Ru.firstRow_step hrow (Ru.bodiesFrom u i 0 (d.ms.drop 0))
      rw [HF.out] at HST
      have HST2 := Aid.hid HST.symm
      obtain ⟨c0, c1⟩ := row_cells Ng_HB.out hrow
      have lg := Ng_HB.out.lt
      clear hrow HST
      obtain ⟨X1, hX⟩ : ∃ X, wr.alloc (.cells #[.int .i64 0, .nilFunc] 72) = X := ⟨_, rfl⟩
      have qrow0 := new_at hX
      have qx := all_at hX Nx_HB.out
      have qg := all_at hX Ng_HB.out
      have qqk := below_at hX (KHB.out)
      have qqs := below_at0 hX
      have Nx_1 := Aid.hid qx
      have Ng_1 := Aid.hid qg
      have Nrow0_1 := Aid.hid qrow0
      have Kx1 := Aid.hid qqk
      have Qs1 := Aid.hid qqs
      clear qqk qqs qx qg qrow0
      have R2_1 := Aid.hid ((HB).out.trans (Qs1.out.mono (HB).out.size))
      have hk8 : (k : Int) < 8 := by omega
      obtain ⟨wz, hwz⟩ : ∃ x, World.setRow X1 wr.heap.size #[.int .i64 c, .func (.func f) #[.pointer (some ⟨b, 0, none⟩)] #[]] = x := ⟨_, rfl⟩
      have hrz := row_has (ys := [.int .i64 c, .func (.func f) #[.pointer (some ⟨b, 0, none⟩)] #[]]) Nrow0_1.out
      rw [show ([.int .i64 c, .func (.func f) #[.pointer (some ⟨b, 0, none⟩)] #[]] : List Value).toArray = #[.int .i64 c, .func (.func f) #[.pointer (some ⟨b, 0, none⟩)] #[]] from rfl, hwz] at hrz
      have kz : Below wr.heap.size wr wz := by rw [← hwz]; exact row_below Qs1.out (Nat.le_refl _) _
      have KZ := Aid.hid ((KHB.out).trans (kz.mono (KHB.out).size))
      have RZ := Aid.hid (HB.out.trans (kz.mono HB.out.size))
      have NRZ := Aid.hid hrz
      have Nx_z := Aid.hid (Nx_HB.out.below kz Nx_HB.out.lt)
      have Ng_z := Aid.hid (Ng_HB.out.below kz Ng_HB.out.lt)
      have xrow0 := NRZ.out.cell 0 _ rfl
      have xrow1 := NRZ.out.cell 1 _ rfl
      have lrow := NRZ.out.lt
      go_wp2_with (refine wpList_store_row rfl 72 _ _ rfl (wr.heap.size) _ rfl rfl 72 _ (Nrow0_1.out) (by kernel_rfl) rfl (by simp [Value.oneCell']) ?_)
      clear c0 c1 lg kz hrz
      (try clear hwz)
      (try clear hX)
      obtain ⟨HEN, HCALL⟩ := row_is u a B cap b i d k c f q _ HRW.out HKI.out HL.out HCP.out Nx_z.out HD.out (HU.out.below (KZ.out) hB) (Nat.le_trans hB (KZ.out).size)
      rw [HEN]
      clear HEN
      refine (HCALL).mono ?_; rintro _ w2 ⟨rfl, hb2⟩
      have R2_2 := Aid.hid ((RZ).out.trans (hb2.mono (RZ).out.size))
      have Kx2 := Aid.hid ((KZ.out).trans (hb2.mono (KZ.out).size))
      have Nx_2 := Aid.hid (Nx_z.out.below hb2 Nx_z.out.lt)
      have Ng_2 := Aid.hid (Ng_z.out.below hb2 Ng_z.out.lt)
      have NRZ_2 := Aid.hid (NRZ.out.below hb2 NRZ.out.lt)
      clear xrow0 xrow1 lrow
      clear hb2
      have xrow0 := NRZ_2.out.cell 0 _ rfl
      have xrow1 := NRZ_2.out.cell 1 _ rfl
      have lrow := NRZ_2.out.lt
      (try clear HCALL)
      cases q
      · have NX := Aid.hid (show Ru.firstRow ((Ru.rows u i d).drop (k + 1)) (Ru.bodiesFrom u i 0 (d.ms.drop 0)) = r from HST2.out)
        go_wp2_with fail
        go_roundw
        case rel => exact ⟨k + 1, by go_num, by omega, NX, R2_2⟩
        case measure => simp [intOf]; omega
      · obtain rfl : c = r := HST2.out
        go_wp2_with fail
        go_ret
        exact ⟨rfl, Kx2.out⟩
    · have HS1 : Hid (Ru.bodiesFrom u i 0 (d.ms.drop 0) = r) := Aid.hid (by have h := HF.out; rwa [List.drop_eq_nil_of_le (by omega), Ru.firstRow] at h)
      have xx9 := Nx_HB.out.cell 9 _ rfl
      have lx := Nx_HB.out.lt
      go_wp2_with fail
      clear xx9 lx
      go_loopw [52] (fun vi wi => ∃ k : Nat, vi = .int .i64 k ∧ k ≤ d.ms.length ∧ Hid (Ru.bodiesFrom u i k (d.ms.drop k) = r) ∧ Hid (Below wr.heap.size wr wi)) (fun vi _ => d.ms.length - (intOf vi).toNat)
      case atStart => exact ⟨0, rfl, Nat.zero_le _, HS1, Aid.hid (Below.refl _ _)⟩
      case round =>
        obtain ⟨l, rfl, hl, HF2, HB2⟩ := hrel
        have KHB2 := Aid.hid ((KHB.out).trans (HB2.out.mono (KHB.out).size))
        have Nx_HB2 := Aid.hid (Nx_HB.out.below HB2.out Nx_HB.out.lt)
        by_cases hll : l < d.ms.length
        · obtain ⟨mb, mo, emA, lmb, hc_m⟩ := (HDK.out.meths.below (KHB2.out) hB).at_map (by omega)
          obtain ⟨m, hm⟩ : ∃ x, d.ms[l]? = some x := ⟨_, List.getElem?_eq_getElem hll⟩
          have HM := Aid.hid hm
          have llm : mb < wr.heap.size := Nat.lt_of_lt_of_le lmb (Nat.le_trans hB (KHB2.out).size)
          have c0 := hc_m l m hm 0 _ rfl
          have c1 := hc_m l m hm 1 _ rfl
          have c2 := hc_m l m hm 2 _ rfl
          have c3 := hc_m l m hm 3 _ rfl
          have c4 := hc_m l m hm 4 _ rfl
          have c5 := hc_m l m hm 5 _ rfl
          have c6 := hc_m l m hm 6 _ rfl
          have c7 := hc_m l m hm 7 _ rfl
          have c8 := hc_m l m hm 8 _ rfl
          have c9 := hc_m l m hm 9 _ rfl
          have c10 := hc_m l m hm 10 _ rfl
          simp only [Nat.add_zero] at c0
          clear hc_m hm lmb
          rw [emA]
          obtain ⟨X1, hX⟩ : ∃ X, wr.alloc (.cells #[.string m.name, .bool m.over, .bool m.abs, .bool m.fin, .slice m.pA m.ps.length m.pc, .int .i64 m.res.k, .int .i64 m.res.lo, .int .i64 m.res.hi, .string m.res.name, .slice m.vA m.vs.length m.vc, .slice m.bA m.body.length m.bc] 46) = X := ⟨_, rfl⟩
          have qm := new_at hX
          have qx := all_at hX Nx_HB2.out
          have qqk := below_at hX (KHB2.out)
          have qqs := below_at0 hX
          have Nx_1 := Aid.hid qx
          have Nm_1 := Aid.hid qm
          have Kx1 := Aid.hid qqk
          have Qs1 := Aid.hid qqs
          clear qqk qqs qx qm
          have xm2 := Nm_1.out.cell 2 _ rfl
          have xm10 := Nm_1.out.cell 10 _ rfl
          have lm := Nm_1.out.lt
          have xx0 := Nx_1.out.cell 0 _ rfl
          have xx1 := Nx_1.out.cell 1 _ rfl
          have lx := Nx_1.out.lt
          have R2_1 := Aid.hid ((HB2).out.trans (Qs1.out.mono (HB2).out.size))
          go_upto_region 11 with (fail)
          (try clear hX)
          clear c0 c1 c2 c3 c4 c5 c6 c7 c8 c9 c10 llm
          obtain ⟨ma, hma⟩ : ∃ x, m.abs = x := ⟨_, rfl⟩
          obtain ⟨q, hq⟩ : ∃ q, Ru.stmts u i l m.body = q := ⟨_, rfl⟩
          have HST := Ru.bodies_step (u := u) (i := (i : Int)) HM.out
          rw [HF2.out, hma, hq] at HST
          have HST2 := Aid.hid HST.symm
          have HQ := Aid.hid hq
          rw [hma] at xm2
          clear hma hq HST
          cases ma
          · go_wp2_with fail
            have HZ := Aid.hid (fun (w' : World) (hSw : Below X1.heap.size X1 w') => (⟨(hSw.cell (p := ⟨wr.heap.size, 2, none⟩) lm).trans xm2, (hSw.cell (p := ⟨wr.heap.size, 10, none⟩) lm).trans xm10, (hSw.cell (p := ⟨b, 0, none⟩) lx).trans xx0, (hSw.cell (p := ⟨b, 1, none⟩) lx).trans xx1⟩ : _ ∧ _ ∧ _ ∧ _))
            have hb : Below X1.heap.size X1 X1.drew := (Below.refl _ _).drew
            refine Ord.wp_region_walk (fun w' => Below X1.heap.size X1 w') 13 [(true, 0), (true, 1), (true, 2), (true, 3), (true, 4), (true, 5), (true, 6), (true, 7), (true, 8), (true, 9), (true, 10), (true, 11), (false, 12)] (by kernel_rfl) (by kernel_rfl) (fun _ _ d _ _ h => by cases d <;> exact h) (hb) ?_
            clear hb
            have hb : Below X1.heap.size X1 X1.drew := (Below.refl _ _).drew
            generalize X1.drew = wd1 at *
            iterate 12
              apply Ord.walk_light
              next => (simp only [la0, la1, la2]; rfl)
              next => rfl
              next => (intro w' hSw; obtain ⟨z0, z1, z2, z3⟩ := HZ.out w' hSw; clear hSw; go_simp; first | done | with_reducible rfl)
              simp only [Act.put, la3, la4, la5]
            apply Ord.walk_heavy
            next => (simp only [la0, la1, la2]; rfl)
            next => rfl
            intro K hK
            go_wp2_with fail
            refine (rstmts_is u a B cap (i : Int) (l : Int) m.bA m.body m.bc q _ HQ.out (HU.out.below (((Kx1.out).trans (hb.mono (Kx1.out).size))) hB) (Nat.le_trans hB (((Kx1.out).trans (hb.mono (Kx1.out).size))).size) HL.out.lim ((HBD.out m (List.mem_of_getElem? HM.out)).below (((Kx1.out).trans (hb.mono (Kx1.out).size))) hB)).mono ?_; rintro _ v1_1 ⟨rfl, hb'⟩; dsimp only
            refine hK.out _ _ (hb.trans (hb'.mono hb.size)) (fun hHeld => ?_)
            clear hb hb'
            have hb := hHeld
            clear hK K
            try simp only [Act.put, la3, la4, la5]
            refine Ord.walk_tail ?_; simp only [List.drop_succ_cons, List.drop_zero]
            have hbx := hb
            clear hb HZ
            have R2_2 := Aid.hid ((R2_1).out.trans (hbx.mono (R2_1).out.size))
            have Kx2 := Aid.hid ((Kx1.out).trans (hbx.mono (Kx1.out).size))
            have Nx_2 := Aid.hid (Nx_1.out.below hbx Nx_1.out.lt)
            have Nm_2 := Aid.hid (Nm_1.out.below hbx Nm_1.out.lt)
            clear xm2 xm10 lm xx0 xx1 lx
            clear hbx
            by_cases h0 : q = 0
            · subst h0
              have NX : Hid (Ru.bodiesFrom u i (l + 1) (d.ms.drop (l + 1)) = r) := Aid.hid (by have h := HST2.out; simpa using h)
              go_wp2_with fail
              go_roundw
              case rel => exact ⟨l + 1, by go_num, by omega, NX, R2_2⟩
              case measure => simp [intOf]; omega
            · have e0 : (q != 0) = true := by simpa using h0
              obtain rfl : q = r := by have h := HST2.out; simpa [h0] using h
              clear h0
              go_wp2_with fail
              go_ret
              exact ⟨rfl, Kx2.out⟩
          · have NX : Hid (Ru.bodiesFrom u i (l + 1) (d.ms.drop (l + 1)) = r) := Aid.hid (by have h := HST2.out; simpa using h)
            go_wp2_with fail
            go_roundw
            case rel => exact ⟨l + 1, by go_num, by omega, NX, R2_1⟩
            case measure => simp [intOf]; omega
        · obtain rfl : 0 = r := by rw [← HF2.out]; exact (Ru.bodies_end (by omega)).symm
          go_wp2_with fail
          go_ret
          exact ⟨rfl, KHB2.out⟩
end Go.Proofs.YtejifefgmlpclaaGreat
/- What is wrong with a declaration: as walks. -/
namespace Go.Proofs.YtejifefgmlpclaaGreat
open Go.RowKit

/-- What the walks of the rules ask of a unit, and of where it lies. -/
structure RAll (u : List Dk) (cap : Nat) : Prop where
  r : RLim u
  s : SLim u
  c : UCap u cap
def RBodies (w : World) (B : Nat) (u : List Dk) : Prop := ∀ d ∈ u, RBody w B d.bA d.body ∧ ∀ m ∈ d.ms, RBody w B m.bA m.body
theorem RBodies.below {w w' : World} {B C : Nat} {u : List Dk} (h : RBodies w B u) (hb : Below C w w') (hC : B ≤ C) : RBodies w' B u := fun d hd => ⟨(h d hd).1.below hb hC, fun m hm => ((h d hd).2 m hm).below hb hC⟩
theorem Ru.declAt_at {u : List Dk} {i : Nat} {d : Dk} (hd : u[i]? = some d) : Ru.decl u (i : Int) = Ru.declAt u i d := by
  unfold Ru.decl; rw [if_neg (by omega)]; simp [hd]
set_option maxRecDepth 100000 in
set_option maxHeartbeats 4000000 in
theorem decl_is (u : List Dk) (a : Option Addr) (B cap : Nat) (dd : Int) (r : Int) (w : World) (hr : Ru.decl u dd = r) (ha : RAll u cap) (hbo : RBodies w B u) (hu : UnitAt w B a u) (hB : B ≤ w.heap.size) :
    Calls Tryz.prog 8 #[.agg #[.slice a u.length cap], .int .i64 dd] w fun z w' => z = .returned (.int .i64 r) ∧ Below w.heap.size w w' := by
  have HU := Aid.hid hu; have HA := Aid.hid ha; have HBO := Aid.hid hbo; have HR := Aid.hid hr
  have sm := hu.small
  obtain ⟨W, hW, qu, k0⟩ := newn1 w [.slice a u.length cap] 24
  have K0 := Aid.hid k0
  have Nu := Aid.hid qu
  clear qu k0 hu ha hbo hr
  have xu0 := Nu.out.cell 0 _ rfl
  have lu := Nu.out.lt
  go_enter Tryz.func8, Tryz.ntmps8
  try simp only [List.append_eq, List.cons_append, List.nil_append]
  by_cases h0 : dd < 0
  · have e0 : decide (dd < 0) = true := decide_eq_true h0
    obtain rfl : 22 = r := by rw [← HR.out, Ru.decl, if_pos h0]
    go_wp2_with fail
    go_ret
    exact ⟨rfl, K0.out⟩
  · obtain ⟨i, rfl⟩ : ∃ i : Nat, dd = i := ⟨dd.toNat, by omega⟩
    have e0 : decide ((i : Int) < 0) = false := decide_eq_false h0
    clear h0
    by_cases hil : u.length ≤ i
    · obtain rfl : 22 = r := by rw [← HR.out, Ru.decl, if_neg (by omega)]; simp [show u[i]? = none from by simpa using hil]
      go_wp2_with fail
      go_ret
      exact ⟨rfl, K0.out⟩
    · have hlt : i < u.length := by omega
      obtain ⟨d, hd⟩ : ∃ d, u[i]? = some d := ⟨_, List.getElem?_eq_getElem hlt⟩
      have HD := Aid.hid hd
      have HE := Aid.hid (Ru.declAt_at hd)
      have HR2 : Hid (Ru.declAt u i d = r) := Aid.hid (by rw [← HE.out]; exact HR.out)
      have HDK := Aid.hid (HU.out.decls d (List.mem_of_getElem? hd))
      clear hd
      obtain ⟨ub, uo, rfl, hlt_ub, hc_ub⟩ := (HU.out.below (K0.out) hB).at_ (by omega)
      have lub : ub < W.heap.size := Nat.lt_of_lt_of_le hlt_ub (Nat.le_trans hB (K0.out).size)
      have c0 := hc_ub i d HD.out 0 _ rfl
      simp only [Nat.add_zero] at c0
      have c1 := hc_ub i d HD.out 1 _ rfl
      have c2 := hc_ub i d HD.out 2 _ rfl
      have c3 := hc_ub i d HD.out 3 _ rfl
      have c4 := hc_ub i d HD.out 4 _ rfl
      have c5 := hc_ub i d HD.out 5 _ rfl
      have c6 := hc_ub i d HD.out 6 _ rfl
      have c7 := hc_ub i d HD.out 7 _ rfl
      have c8 := hc_ub i d HD.out 8 _ rfl
      have c9 := hc_ub i d HD.out 9 _ rfl
      have c10 := hc_ub i d HD.out 10 _ rfl
      clear hc_ub
      go_wp2_with fail
      (try clear hW)
      have HZ := Aid.hid (fun (w' : World) (hSw : Below W.heap.size W w') => (⟨(hSw.cell (p := ⟨w.heap.size, 0, none⟩) lu).trans xu0, (hSw.cell (p := ⟨ub, uo + i * 11, none⟩) lub).trans c0, (hSw.cell (p := ⟨ub, uo + i * 11 + 1, none⟩) lub).trans c1, (hSw.cell (p := ⟨ub, uo + i * 11 + 2, none⟩) lub).trans c2, (hSw.cell (p := ⟨ub, uo + i * 11 + 3, none⟩) lub).trans c3, (hSw.cell (p := ⟨ub, uo + i * 11 + 4, none⟩) lub).trans c4, (hSw.cell (p := ⟨ub, uo + i * 11 + 5, none⟩) lub).trans c5, (hSw.cell (p := ⟨ub, uo + i * 11 + 6, none⟩) lub).trans c6, (hSw.cell (p := ⟨ub, uo + i * 11 + 7, none⟩) lub).trans c7, (hSw.cell (p := ⟨ub, uo + i * 11 + 8, none⟩) lub).trans c8, (hSw.cell (p := ⟨ub, uo + i * 11 + 9, none⟩) lub).trans c9, (hSw.cell (p := ⟨ub, uo + i * 11 + 10, none⟩) lub).trans c10⟩ : _ ∧ _ ∧ _ ∧ _ ∧ _ ∧ _ ∧ _ ∧ _ ∧ _ ∧ _ ∧ _ ∧ _))
      have hb : Below W.heap.size W W.drew := (Below.refl _ _).drew
      refine Ord.wp_region_walk (fun w' => Below W.heap.size W w') 8 [(true, 0), (true, 1), (true, 2), (true, 3), (true, 4), (true, 5), (true, 6), (true, 7)] (by kernel_rfl) (by kernel_rfl) (fun _ _ d _ _ h => by cases d <;> exact h) (hb) ?_
      clear hb
      have hb : Below W.heap.size W W.drew := (Below.refl _ _).drew
      generalize W.drew = wd0 at *
      iterate 8
        apply Ord.walk_light
        next => (simp only [la0, la1, la2]; rfl)
        next => rfl
        next => (intro w' hSw; obtain ⟨z0, z1, z2, z3, z4, z5, z6, z7, z8, z9, z10, z11⟩ := HZ.out w' hSw; clear hSw; go_simp; first | done | with_reducible rfl)
        simp only [Act.put, la3, la4, la5]
      refine Ord.walk_tail ?_; simp only [List.drop_succ_cons, List.drop_zero]
      have hbx := hb
      clear hb HZ
      have Kx1 := Aid.hid ((K0.out).trans (hbx.mono (K0.out).size))
      have Nu_1 := Aid.hid (Nu.out.below hbx Nu.out.lt)
      clear xu0 lu c0 c1 c2 c3 c4 c5 c6 c7 c8 c9 c10 lub
      clear hbx
      obtain ⟨X2, hX⟩ : ∃ X, wd0.alloc (.cells #[.slice (some ⟨ub, uo, none⟩) u.length cap, .int .i64 (i : Int), .int .i64 d.kind, .string d.name, .string d.base, .slice d.fA d.faces.length d.fc, .bool d.abs, .bool d.fin, .slice d.vA d.vs.length d.vc, .slice d.mA d.ms.length d.mc, .slice d.bA d.body.length d.bc, .int .i64 d.every, .int .i64 d.first] 50) = X := ⟨_, rfl⟩
      have qx := new_at hX
      have qu := all_at hX Nu_1.out
      have qqk := below_at hX (Kx1.out)
      have qqs := below_at0 hX
      have Nu_2 := Aid.hid qu
      have Nx_2 := Aid.hid qx
      have Kx2 := Aid.hid qqk
      have Qs2 := Aid.hid qqs
      clear qqk qqs qu qx
      have xx2 := Nx_2.out.cell 2 _ rfl
      have xx3 := Nx_2.out.cell 3 _ rfl
      have xx4 := Nx_2.out.cell 4 _ rfl
      have xx5 := Nx_2.out.cell 5 _ rfl
      have xx6 := Nx_2.out.cell 6 _ rfl
      have xx7 := Nx_2.out.cell 7 _ rfl
      have xx8 := Nx_2.out.cell 8 _ rfl
      have xx9 := Nx_2.out.cell 9 _ rfl
      have xx10 := Nx_2.out.cell 10 _ rfl
      have xx11 := Nx_2.out.cell 11 _ rfl
      have xx12 := Nx_2.out.cell 12 _ rfl
      have lx := Nx_2.out.lt
      have xu0 := Nu_2.out.cell 0 _ rfl
      have lu := Nu_2.out.lt
      obtain ⟨k1, hk1⟩ : ∃ x, (d.kind == 1) = x := ⟨_, rfl⟩
      obtain ⟨k2, hk2⟩ : ∃ x, (d.kind == 2) = x := ⟨_, rfl⟩
      obtain ⟨k3, hk3⟩ : ∃ x, (d.kind == 3) = x := ⟨_, rfl⟩
      obtain ⟨k4, hk4⟩ : ∃ x, (d.kind == 4) = x := ⟨_, rfl⟩
      obtain ⟨gq, hgq⟩ : ∃ q, Ru.great d = q := ⟨_, rfl⟩
      have HGQ := Aid.hid hgq
      obtain ⟨fq, hfq⟩ : ∃ q, Tb.find u d.name = q := ⟨_, rfl⟩
      have HFQ := Aid.hid hfq
      clear hgq hfq
      have HKS := Aid.hid (show d.kind = 1 ∨ d.kind = 2 ∨ d.kind = 3 ∨ d.kind = 4 ∨ ¬(1 ≤ d.kind ∧ d.kind ≤ 4) by omega)
      have HKK := Aid.hid (⟨hk1, hk2, hk3, hk4⟩ : _ ∧ _ ∧ _ ∧ _)
      have hks := HKS.out
      rcases hks with hk | hk | hk | hk | hk
      · obtain rfl : k1 = true := by rw [← hk1]; simp [hk]
        obtain rfl : k2 = false := by rw [← hk2]; simp; omega
        obtain rfl : k3 = false := by rw [← hk3]; simp; omega
        obtain rfl : k4 = false := by rw [← hk4]; simp; omega
        have HK := Aid.hid hk
        clear hk
        have HR3 : Hid ((if 12 ≤ i ∨ gq = true then 5 else if fq ≠ i then 6 else Ru.face u d) = r) := Aid.hid (by have h := HR2.out; rw [Ru.declAt, if_neg (fun h => h (by rw [HK.out]; decide)), HGQ.out, HFQ.out, HK.out] at h; exact h)
        by_cases h12 : 12 ≤ i
        · have f12 : decide ((12 : Int) ≤ (i : Int)) = true := decide_eq_true (by omega)
          obtain rfl : 5 = r := by rw [← HR3.out, if_pos (.inl h12)]
          go_wp2_with fail
          (try clear hX)
          go_ret
          exact ⟨rfl, Kx2.out⟩
        · have f12 : decide ((12 : Int) ≤ (i : Int)) = false := decide_eq_false (by omega)
          have HR4 : Hid ((if gq = true then 5 else if fq ≠ i then 6 else Ru.face u d) = r) := Aid.hid (by rw [← HR3.out]; simp [h12])
          go_wp2_with fail
          (try clear hX)
          refine (great_is d B gq _ HGQ.out (HDK.out.meths.below (Kx2.out) hB) (Nat.le_trans hB (Kx2.out).size) HDK.out.smallM).mono ?_; rintro _ w3 ⟨rfl, hb3⟩
          have Kx3 := Aid.hid ((Kx2.out).trans (hb3.mono (Kx2.out).size))
          have Nu_3 := Aid.hid (Nu_2.out.below hb3 Nu_2.out.lt)
          have Nx_3 := Aid.hid (Nx_2.out.below hb3 Nx_2.out.lt)
          clear xx2 xx3 xx4 xx5 xx6 xx7 xx8 xx9 xx10 xx11 xx12 lx xu0 lu
          clear hb3
          have xx2 := Nx_3.out.cell 2 _ rfl
          have xx3 := Nx_3.out.cell 3 _ rfl
          have xx4 := Nx_3.out.cell 4 _ rfl
          have xx5 := Nx_3.out.cell 5 _ rfl
          have xx6 := Nx_3.out.cell 6 _ rfl
          have xx7 := Nx_3.out.cell 7 _ rfl
          have xx8 := Nx_3.out.cell 8 _ rfl
          have xx9 := Nx_3.out.cell 9 _ rfl
          have xx10 := Nx_3.out.cell 10 _ rfl
          have xx11 := Nx_3.out.cell 11 _ rfl
          have xx12 := Nx_3.out.cell 12 _ rfl
          have lx := Nx_3.out.lt
          have xu0 := Nu_3.out.cell 0 _ rfl
          have lu := Nu_3.out.lt
          cases gq
          · go_wp2_with fail
            have HZ := Aid.hid (fun (w' : World) (hSw : Below w3.heap.size w3 w') => (⟨(hSw.cell (p := ⟨wd0.heap.size, 2, none⟩) lx).trans xx2, (hSw.cell (p := ⟨wd0.heap.size, 3, none⟩) lx).trans xx3, (hSw.cell (p := ⟨wd0.heap.size, 4, none⟩) lx).trans xx4, (hSw.cell (p := ⟨wd0.heap.size, 5, none⟩) lx).trans xx5, (hSw.cell (p := ⟨wd0.heap.size, 6, none⟩) lx).trans xx6, (hSw.cell (p := ⟨wd0.heap.size, 7, none⟩) lx).trans xx7, (hSw.cell (p := ⟨wd0.heap.size, 8, none⟩) lx).trans xx8, (hSw.cell (p := ⟨wd0.heap.size, 9, none⟩) lx).trans xx9, (hSw.cell (p := ⟨wd0.heap.size, 10, none⟩) lx).trans xx10, (hSw.cell (p := ⟨wd0.heap.size, 11, none⟩) lx).trans xx11, (hSw.cell (p := ⟨wd0.heap.size, 12, none⟩) lx).trans xx12, (hSw.cell (p := ⟨w.heap.size, 0, none⟩) lu).trans xu0⟩ : _ ∧ _ ∧ _ ∧ _ ∧ _ ∧ _ ∧ _ ∧ _ ∧ _ ∧ _ ∧ _ ∧ _))
            have hb : Below w3.heap.size w3 w3.drew := (Below.refl _ _).drew
            refine Ord.wp_region_walk (fun w' => Below w3.heap.size w3 w') 9 [(true, 0), (true, 1), (true, 2), (true, 3), (true, 4), (true, 5), (true, 7), (false, 6), (true, 8)] (by kernel_rfl) (by kernel_rfl) (fun _ _ d _ _ h => by cases d <;> exact h) (hb) ?_
            clear hb
            have hb : Below w3.heap.size w3 w3.drew := (Below.refl _ _).drew
            generalize w3.drew = wd3 at *
            iterate 7
              apply Ord.walk_light
              next => (simp only [la0, la1, la2]; rfl)
              next => rfl
              next => (intro w' hSw; obtain ⟨z0, z1, z2, z3, z4, z5, z6, z7, z8, z9, z10, z11⟩ := HZ.out w' hSw; clear hSw; go_simp; first | done | with_reducible rfl)
              simp only [Act.put, la3, la4, la5]
            apply Ord.walk_heavy
            next => (simp only [la0, la1, la2]; rfl)
            next => rfl
            intro K hK
            go_wp2_with fail
            refine (find_is u _ B cap d.name fq _ HFQ.out (HU.out.below (((Kx3.out).trans (hb.mono (Kx3.out).size))) hB) (Nat.le_trans hB (((Kx3.out).trans (hb.mono (Kx3.out).size))).size)).mono ?_; rintro _ v3_1 ⟨rfl, hb'⟩; dsimp only
            refine hK.out _ _ (hb.trans (hb'.mono hb.size)) (fun hHeld => ?_)
            clear hb hb'
            have hb := hHeld
            clear hK K
            try simp only [Act.put, la3, la4, la5]
            apply Ord.walk_light
            next => (simp only [la0, la1, la2]; rfl)
            next => rfl
            next => (intro w' hSw; obtain ⟨z0, z1, z2, z3, z4, z5, z6, z7, z8, z9, z10, z11⟩ := HZ.out w' hSw; clear hSw; go_simp; first | done | with_reducible rfl)
            simp only [Act.put, la3, la4, la5]
            refine Ord.walk_tail ?_; simp only [List.drop_succ_cons, List.drop_zero]
            have hbx := hb
            clear hb HZ
            have Kx4 := Aid.hid ((Kx3.out).trans (hbx.mono (Kx3.out).size))
            have Nu_4 := Aid.hid (Nu_3.out.below hbx Nu_3.out.lt)
            have Nx_4 := Aid.hid (Nx_3.out.below hbx Nx_3.out.lt)
            clear xx2 xx3 xx4 xx5 xx6 xx7 xx8 xx9 xx10 xx11 xx12 lx xu0 lu
            clear hbx
            have xx2 := Nx_4.out.cell 2 _ rfl
            have xx3 := Nx_4.out.cell 3 _ rfl
            have xx4 := Nx_4.out.cell 4 _ rfl
            have xx5 := Nx_4.out.cell 5 _ rfl
            have xx6 := Nx_4.out.cell 6 _ rfl
            have xx7 := Nx_4.out.cell 7 _ rfl
            have xx8 := Nx_4.out.cell 8 _ rfl
            have xx9 := Nx_4.out.cell 9 _ rfl
            have xx10 := Nx_4.out.cell 10 _ rfl
            have xx11 := Nx_4.out.cell 11 _ rfl
            have xx12 := Nx_4.out.cell 12 _ rfl
            have lx := Nx_4.out.lt
            have xu0 := Nu_4.out.cell 0 _ rfl
            have lu := Nu_4.out.lt
            by_cases hfi : fq = i
            · subst hfi
              have HR5 : Hid (Ru.face u d = r) := Aid.hid (by have h := HR4.out; simpa using h)
              go_wp2_with fail
              refine (face_is u _ B cap wd0.heap.size i d r _ HR5.out HA.out.c Nx_4.out HD.out (HU.out.below (Kx4.out) hB) (Nat.le_trans hB (Kx4.out).size)).mono ?_; rintro _ w5 ⟨rfl, hb5⟩
              have Kx5 := Aid.hid ((Kx4.out).trans (hb5.mono (Kx4.out).size))
              have Nu_5 := Aid.hid (Nu_4.out.below hb5 Nu_4.out.lt)
              have Nx_5 := Aid.hid (Nx_4.out.below hb5 Nx_4.out.lt)
              clear xx2 xx3 xx4 xx5 xx6 xx7 xx8 xx9 xx10 xx11 xx12 lx xu0 lu
              clear hb5
              go_wp2_with fail
              go_ret
              exact ⟨rfl, Kx5.out⟩
            · have e6 : (fq != i) = true := by simpa using hfi
              obtain rfl : 6 = r := by rw [← HR4.out]; simp [hfi]
              clear hfi
              go_wp2_with fail
              go_ret
              exact ⟨rfl, Kx4.out⟩
          · obtain rfl : 5 = r := by rw [← HR4.out]; rfl
            go_wp2_with fail
            go_ret
            exact ⟨rfl, Kx3.out⟩
      · obtain rfl : k1 = false := by rw [← hk1]; simp; omega
        obtain rfl : k2 = true := by rw [← hk2]; simp [hk]
        obtain rfl : k3 = false := by rw [← hk3]; simp; omega
        obtain rfl : k4 = false := by rw [← hk4]; simp; omega
        have HK := Aid.hid hk
        clear hk
        have HR3 : Hid ((if 12 ≤ i ∨ gq = true then 5 else if fq ≠ i then 6 else Ru.class_ u i d) = r) := Aid.hid (by have h := HR2.out; rw [Ru.declAt, if_neg (fun h => h (by rw [HK.out]; decide)), HGQ.out, HFQ.out, HK.out] at h; exact h)
        by_cases h12 : 12 ≤ i
        · have f12 : decide ((12 : Int) ≤ (i : Int)) = true := decide_eq_true (by omega)
          obtain rfl : 5 = r := by rw [← HR3.out, if_pos (.inl h12)]
          go_wp2_with fail
          (try clear hX)
          go_ret
          exact ⟨rfl, Kx2.out⟩
        · have f12 : decide ((12 : Int) ≤ (i : Int)) = false := decide_eq_false (by omega)
          have HR4 : Hid ((if gq = true then 5 else if fq ≠ i then 6 else Ru.class_ u i d) = r) := Aid.hid (by rw [← HR3.out]; simp [h12])
          go_wp2_with fail
          (try clear hX)
          refine (great_is d B gq _ HGQ.out (HDK.out.meths.below (Kx2.out) hB) (Nat.le_trans hB (Kx2.out).size) HDK.out.smallM).mono ?_; rintro _ w3 ⟨rfl, hb3⟩
          have Kx3 := Aid.hid ((Kx2.out).trans (hb3.mono (Kx2.out).size))
          have Nu_3 := Aid.hid (Nu_2.out.below hb3 Nu_2.out.lt)
          have Nx_3 := Aid.hid (Nx_2.out.below hb3 Nx_2.out.lt)
          clear xx2 xx3 xx4 xx5 xx6 xx7 xx8 xx9 xx10 xx11 xx12 lx xu0 lu
          clear hb3
          have xx2 := Nx_3.out.cell 2 _ rfl
          have xx3 := Nx_3.out.cell 3 _ rfl
          have xx4 := Nx_3.out.cell 4 _ rfl
          have xx5 := Nx_3.out.cell 5 _ rfl
          have xx6 := Nx_3.out.cell 6 _ rfl
          have xx7 := Nx_3.out.cell 7 _ rfl
          have xx8 := Nx_3.out.cell 8 _ rfl
          have xx9 := Nx_3.out.cell 9 _ rfl
          have xx10 := Nx_3.out.cell 10 _ rfl
          have xx11 := Nx_3.out.cell 11 _ rfl
          have xx12 := Nx_3.out.cell 12 _ rfl
          have lx := Nx_3.out.lt
          have xu0 := Nu_3.out.cell 0 _ rfl
          have lu := Nu_3.out.lt
          cases gq
          · go_wp2_with fail
            have HZ := Aid.hid (fun (w' : World) (hSw : Below w3.heap.size w3 w') => (⟨(hSw.cell (p := ⟨wd0.heap.size, 2, none⟩) lx).trans xx2, (hSw.cell (p := ⟨wd0.heap.size, 3, none⟩) lx).trans xx3, (hSw.cell (p := ⟨wd0.heap.size, 4, none⟩) lx).trans xx4, (hSw.cell (p := ⟨wd0.heap.size, 5, none⟩) lx).trans xx5, (hSw.cell (p := ⟨wd0.heap.size, 6, none⟩) lx).trans xx6, (hSw.cell (p := ⟨wd0.heap.size, 7, none⟩) lx).trans xx7, (hSw.cell (p := ⟨wd0.heap.size, 8, none⟩) lx).trans xx8, (hSw.cell (p := ⟨wd0.heap.size, 9, none⟩) lx).trans xx9, (hSw.cell (p := ⟨wd0.heap.size, 10, none⟩) lx).trans xx10, (hSw.cell (p := ⟨wd0.heap.size, 11, none⟩) lx).trans xx11, (hSw.cell (p := ⟨wd0.heap.size, 12, none⟩) lx).trans xx12, (hSw.cell (p := ⟨w.heap.size, 0, none⟩) lu).trans xu0⟩ : _ ∧ _ ∧ _ ∧ _ ∧ _ ∧ _ ∧ _ ∧ _ ∧ _ ∧ _ ∧ _ ∧ _))
            have hb : Below w3.heap.size w3 w3.drew := (Below.refl _ _).drew
            refine Ord.wp_region_walk (fun w' => Below w3.heap.size w3 w') 9 [(true, 0), (true, 1), (true, 2), (true, 3), (true, 4), (true, 5), (true, 7), (false, 6), (true, 8)] (by kernel_rfl) (by kernel_rfl) (fun _ _ d _ _ h => by cases d <;> exact h) (hb) ?_
            clear hb
            have hb : Below w3.heap.size w3 w3.drew := (Below.refl _ _).drew
            generalize w3.drew = wd3 at *
            iterate 7
              apply Ord.walk_light
              next => (simp only [la0, la1, la2]; rfl)
              next => rfl
              next => (intro w' hSw; obtain ⟨z0, z1, z2, z3, z4, z5, z6, z7, z8, z9, z10, z11⟩ := HZ.out w' hSw; clear hSw; go_simp; first | done | with_reducible rfl)
              simp only [Act.put, la3, la4, la5]
            apply Ord.walk_heavy
            next => (simp only [la0, la1, la2]; rfl)
            next => rfl
            intro K hK
            go_wp2_with fail
            refine (find_is u _ B cap d.name fq _ HFQ.out (HU.out.below (((Kx3.out).trans (hb.mono (Kx3.out).size))) hB) (Nat.le_trans hB (((Kx3.out).trans (hb.mono (Kx3.out).size))).size)).mono ?_; rintro _ v3_1 ⟨rfl, hb'⟩; dsimp only
            refine hK.out _ _ (hb.trans (hb'.mono hb.size)) (fun hHeld => ?_)
            clear hb hb'
            have hb := hHeld
            clear hK K
            try simp only [Act.put, la3, la4, la5]
            apply Ord.walk_light
            next => (simp only [la0, la1, la2]; rfl)
            next => rfl
            next => (intro w' hSw; obtain ⟨z0, z1, z2, z3, z4, z5, z6, z7, z8, z9, z10, z11⟩ := HZ.out w' hSw; clear hSw; go_simp; first | done | with_reducible rfl)
            simp only [Act.put, la3, la4, la5]
            refine Ord.walk_tail ?_; simp only [List.drop_succ_cons, List.drop_zero]
            have hbx := hb
            clear hb HZ
            have Kx4 := Aid.hid ((Kx3.out).trans (hbx.mono (Kx3.out).size))
            have Nu_4 := Aid.hid (Nu_3.out.below hbx Nu_3.out.lt)
            have Nx_4 := Aid.hid (Nx_3.out.below hbx Nx_3.out.lt)
            clear xx2 xx3 xx4 xx5 xx6 xx7 xx8 xx9 xx10 xx11 xx12 lx xu0 lu
            clear hbx
            have xx2 := Nx_4.out.cell 2 _ rfl
            have xx3 := Nx_4.out.cell 3 _ rfl
            have xx4 := Nx_4.out.cell 4 _ rfl
            have xx5 := Nx_4.out.cell 5 _ rfl
            have xx6 := Nx_4.out.cell 6 _ rfl
            have xx7 := Nx_4.out.cell 7 _ rfl
            have xx8 := Nx_4.out.cell 8 _ rfl
            have xx9 := Nx_4.out.cell 9 _ rfl
            have xx10 := Nx_4.out.cell 10 _ rfl
            have xx11 := Nx_4.out.cell 11 _ rfl
            have xx12 := Nx_4.out.cell 12 _ rfl
            have lx := Nx_4.out.lt
            have xu0 := Nu_4.out.cell 0 _ rfl
            have lu := Nu_4.out.lt
            by_cases hfi : fq = i
            · subst hfi
              have HR5 : Hid (Ru.class_ u i d = r) := Aid.hid (by have h := HR4.out; simpa using h)
              go_wp2_with fail
              refine (class_is u _ B cap wd0.heap.size i d r _ HR5.out HK.out HA.out.r ((HBO.out.below (Kx4.out) hB) d (List.mem_of_getElem? HD.out)).2 HA.out.c Nx_4.out HD.out (HU.out.below (Kx4.out) hB) (Nat.le_trans hB (Kx4.out).size)).mono ?_; rintro _ w5 ⟨rfl, hb5⟩
              have Kx5 := Aid.hid ((Kx4.out).trans (hb5.mono (Kx4.out).size))
              have Nu_5 := Aid.hid (Nu_4.out.below hb5 Nu_4.out.lt)
              have Nx_5 := Aid.hid (Nx_4.out.below hb5 Nx_4.out.lt)
              clear xx2 xx3 xx4 xx5 xx6 xx7 xx8 xx9 xx10 xx11 xx12 lx xu0 lu
              clear hb5
              go_wp2_with fail
              go_ret
              exact ⟨rfl, Kx5.out⟩
            · have e6 : (fq != i) = true := by simpa using hfi
              obtain rfl : 6 = r := by rw [← HR4.out]; simp [hfi]
              clear hfi
              go_wp2_with fail
              go_ret
              exact ⟨rfl, Kx4.out⟩
          · obtain rfl : 5 = r := by rw [← HR4.out]; rfl
            go_wp2_with fail
            go_ret
            exact ⟨rfl, Kx3.out⟩
      · obtain rfl : k1 = false := by rw [← hk1]; simp; omega
        obtain rfl : k2 = false := by rw [← hk2]; simp; omega
        obtain rfl : k3 = true := by rw [← hk3]; simp [hk]
        obtain rfl : k4 = false := by rw [← hk4]; simp; omega
        have HK := Aid.hid hk
        clear hk
        have HR3 : Hid ((if 12 ≤ i ∨ gq = true then 5 else if fq ≠ i then 6 else Ru.program u i d) = r) := Aid.hid (by have h := HR2.out; rw [Ru.declAt, if_neg (fun h => h (by rw [HK.out]; decide)), HGQ.out, HFQ.out, HK.out] at h; exact h)
        by_cases h12 : 12 ≤ i
        · have f12 : decide ((12 : Int) ≤ (i : Int)) = true := decide_eq_true (by omega)
          obtain rfl : 5 = r := by rw [← HR3.out, if_pos (.inl h12)]
          go_wp2_with fail
          (try clear hX)
          go_ret
          exact ⟨rfl, Kx2.out⟩
        · have f12 : decide ((12 : Int) ≤ (i : Int)) = false := decide_eq_false (by omega)
          have HR4 : Hid ((if gq = true then 5 else if fq ≠ i then 6 else Ru.program u i d) = r) := Aid.hid (by rw [← HR3.out]; simp [h12])
          go_wp2_with fail
          (try clear hX)
          refine (great_is d B gq _ HGQ.out (HDK.out.meths.below (Kx2.out) hB) (Nat.le_trans hB (Kx2.out).size) HDK.out.smallM).mono ?_; rintro _ w3 ⟨rfl, hb3⟩
          have Kx3 := Aid.hid ((Kx2.out).trans (hb3.mono (Kx2.out).size))
          have Nu_3 := Aid.hid (Nu_2.out.below hb3 Nu_2.out.lt)
          have Nx_3 := Aid.hid (Nx_2.out.below hb3 Nx_2.out.lt)
          clear xx2 xx3 xx4 xx5 xx6 xx7 xx8 xx9 xx10 xx11 xx12 lx xu0 lu
          clear hb3
          have xx2 := Nx_3.out.cell 2 _ rfl
          have xx3 := Nx_3.out.cell 3 _ rfl
          have xx4 := Nx_3.out.cell 4 _ rfl
          have xx5 := Nx_3.out.cell 5 _ rfl
          have xx6 := Nx_3.out.cell 6 _ rfl
          have xx7 := Nx_3.out.cell 7 _ rfl
          have xx8 := Nx_3.out.cell 8 _ rfl
          have xx9 := Nx_3.out.cell 9 _ rfl
          have xx10 := Nx_3.out.cell 10 _ rfl
          have xx11 := Nx_3.out.cell 11 _ rfl
          have xx12 := Nx_3.out.cell 12 _ rfl
          have lx := Nx_3.out.lt
          have xu0 := Nu_3.out.cell 0 _ rfl
          have lu := Nu_3.out.lt
          cases gq
          · go_wp2_with fail
            have HZ := Aid.hid (fun (w' : World) (hSw : Below w3.heap.size w3 w') => (⟨(hSw.cell (p := ⟨wd0.heap.size, 2, none⟩) lx).trans xx2, (hSw.cell (p := ⟨wd0.heap.size, 3, none⟩) lx).trans xx3, (hSw.cell (p := ⟨wd0.heap.size, 4, none⟩) lx).trans xx4, (hSw.cell (p := ⟨wd0.heap.size, 5, none⟩) lx).trans xx5, (hSw.cell (p := ⟨wd0.heap.size, 6, none⟩) lx).trans xx6, (hSw.cell (p := ⟨wd0.heap.size, 7, none⟩) lx).trans xx7, (hSw.cell (p := ⟨wd0.heap.size, 8, none⟩) lx).trans xx8, (hSw.cell (p := ⟨wd0.heap.size, 9, none⟩) lx).trans xx9, (hSw.cell (p := ⟨wd0.heap.size, 10, none⟩) lx).trans xx10, (hSw.cell (p := ⟨wd0.heap.size, 11, none⟩) lx).trans xx11, (hSw.cell (p := ⟨wd0.heap.size, 12, none⟩) lx).trans xx12, (hSw.cell (p := ⟨w.heap.size, 0, none⟩) lu).trans xu0⟩ : _ ∧ _ ∧ _ ∧ _ ∧ _ ∧ _ ∧ _ ∧ _ ∧ _ ∧ _ ∧ _ ∧ _))
            have hb : Below w3.heap.size w3 w3.drew := (Below.refl _ _).drew
            refine Ord.wp_region_walk (fun w' => Below w3.heap.size w3 w') 9 [(true, 0), (true, 1), (true, 2), (true, 3), (true, 4), (true, 5), (true, 7), (false, 6), (true, 8)] (by kernel_rfl) (by kernel_rfl) (fun _ _ d _ _ h => by cases d <;> exact h) (hb) ?_
            clear hb
            have hb : Below w3.heap.size w3 w3.drew := (Below.refl _ _).drew
            generalize w3.drew = wd3 at *
            iterate 7
              apply Ord.walk_light
              next => (simp only [la0, la1, la2]; rfl)
              next => rfl
              next => (intro w' hSw; obtain ⟨z0, z1, z2, z3, z4, z5, z6, z7, z8, z9, z10, z11⟩ := HZ.out w' hSw; clear hSw; go_simp; first | done | with_reducible rfl)
              simp only [Act.put, la3, la4, la5]
            apply Ord.walk_heavy
            next => (simp only [la0, la1, la2]; rfl)
            next => rfl
            intro K hK
            go_wp2_with fail
            refine (find_is u _ B cap d.name fq _ HFQ.out (HU.out.below (((Kx3.out).trans (hb.mono (Kx3.out).size))) hB) (Nat.le_trans hB (((Kx3.out).trans (hb.mono (Kx3.out).size))).size)).mono ?_; rintro _ v3_1 ⟨rfl, hb'⟩; dsimp only
            refine hK.out _ _ (hb.trans (hb'.mono hb.size)) (fun hHeld => ?_)
            clear hb hb'
            have hb := hHeld
            clear hK K
            try simp only [Act.put, la3, la4, la5]
            apply Ord.walk_light
            next => (simp only [la0, la1, la2]; rfl)
            next => rfl
            next => (intro w' hSw; obtain ⟨z0, z1, z2, z3, z4, z5, z6, z7, z8, z9, z10, z11⟩ := HZ.out w' hSw; clear hSw; go_simp; first | done | with_reducible rfl)
            simp only [Act.put, la3, la4, la5]
            refine Ord.walk_tail ?_; simp only [List.drop_succ_cons, List.drop_zero]
            have hbx := hb
            clear hb HZ
            have Kx4 := Aid.hid ((Kx3.out).trans (hbx.mono (Kx3.out).size))
            have Nu_4 := Aid.hid (Nu_3.out.below hbx Nu_3.out.lt)
            have Nx_4 := Aid.hid (Nx_3.out.below hbx Nx_3.out.lt)
            clear xx2 xx3 xx4 xx5 xx6 xx7 xx8 xx9 xx10 xx11 xx12 lx xu0 lu
            clear hbx
            have xx2 := Nx_4.out.cell 2 _ rfl
            have xx3 := Nx_4.out.cell 3 _ rfl
            have xx4 := Nx_4.out.cell 4 _ rfl
            have xx5 := Nx_4.out.cell 5 _ rfl
            have xx6 := Nx_4.out.cell 6 _ rfl
            have xx7 := Nx_4.out.cell 7 _ rfl
            have xx8 := Nx_4.out.cell 8 _ rfl
            have xx9 := Nx_4.out.cell 9 _ rfl
            have xx10 := Nx_4.out.cell 10 _ rfl
            have xx11 := Nx_4.out.cell 11 _ rfl
            have xx12 := Nx_4.out.cell 12 _ rfl
            have lx := Nx_4.out.lt
            have xu0 := Nu_4.out.cell 0 _ rfl
            have lu := Nu_4.out.lt
            by_cases hfi : fq = i
            · subst hfi
              have HR5 : Hid (Ru.program u i d = r) := Aid.hid (by have h := HR4.out; simpa using h)
              go_wp2_with fail
              refine (program_is u _ B cap wd0.heap.size i d r _ HR5.out HA.out.r HA.out.s ((HBO.out.below (Kx4.out) hB) d (List.mem_of_getElem? HD.out)).1 HA.out.c Nx_4.out HD.out (HU.out.below (Kx4.out) hB) (Nat.le_trans hB (Kx4.out).size)).mono ?_; rintro _ w5 ⟨rfl, hb5⟩
              have Kx5 := Aid.hid ((Kx4.out).trans (hb5.mono (Kx4.out).size))
              have Nu_5 := Aid.hid (Nu_4.out.below hb5 Nu_4.out.lt)
              have Nx_5 := Aid.hid (Nx_4.out.below hb5 Nx_4.out.lt)
              clear xx2 xx3 xx4 xx5 xx6 xx7 xx8 xx9 xx10 xx11 xx12 lx xu0 lu
              clear hb5
              go_wp2_with fail
              go_ret
              exact ⟨rfl, Kx5.out⟩
            · have e6 : (fq != i) = true := by simpa using hfi
              obtain rfl : 6 = r := by rw [← HR4.out]; simp [hfi]
              clear hfi
              go_wp2_with fail
              go_ret
              exact ⟨rfl, Kx4.out⟩
          · obtain rfl : 5 = r := by rw [← HR4.out]; rfl
            go_wp2_with fail
            go_ret
            exact ⟨rfl, Kx3.out⟩
      · obtain rfl : k1 = false := by rw [← hk1]; simp; omega
        obtain rfl : k2 = false := by rw [← hk2]; simp; omega
        obtain rfl : k3 = false := by rw [← hk3]; simp; omega
        obtain rfl : k4 = true := by rw [← hk4]; simp [hk]
        have HK := Aid.hid hk
        clear hk
        have HR3 : Hid ((if 12 ≤ i ∨ gq = true then 5 else if fq ≠ i then 6 else Ru.task u i d) = r) := Aid.hid (by have h := HR2.out; rw [Ru.declAt, if_neg (fun h => h (by rw [HK.out]; decide)), HGQ.out, HFQ.out, HK.out] at h; exact h)
        by_cases h12 : 12 ≤ i
        · have f12 : decide ((12 : Int) ≤ (i : Int)) = true := decide_eq_true (by omega)
          obtain rfl : 5 = r := by rw [← HR3.out, if_pos (.inl h12)]
          go_wp2_with fail
          (try clear hX)
          go_ret
          exact ⟨rfl, Kx2.out⟩
        · have f12 : decide ((12 : Int) ≤ (i : Int)) = false := decide_eq_false (by omega)
          have HR4 : Hid ((if gq = true then 5 else if fq ≠ i then 6 else Ru.task u i d) = r) := Aid.hid (by rw [← HR3.out]; simp [h12])
          go_wp2_with fail
          (try clear hX)
          refine (great_is d B gq _ HGQ.out (HDK.out.meths.below (Kx2.out) hB) (Nat.le_trans hB (Kx2.out).size) HDK.out.smallM).mono ?_; rintro _ w3 ⟨rfl, hb3⟩
          have Kx3 := Aid.hid ((Kx2.out).trans (hb3.mono (Kx2.out).size))
          have Nu_3 := Aid.hid (Nu_2.out.below hb3 Nu_2.out.lt)
          have Nx_3 := Aid.hid (Nx_2.out.below hb3 Nx_2.out.lt)
          clear xx2 xx3 xx4 xx5 xx6 xx7 xx8 xx9 xx10 xx11 xx12 lx xu0 lu
          clear hb3
          have xx2 := Nx_3.out.cell 2 _ rfl
          have xx3 := Nx_3.out.cell 3 _ rfl
          have xx4 := Nx_3.out.cell 4 _ rfl
          have xx5 := Nx_3.out.cell 5 _ rfl
          have xx6 := Nx_3.out.cell 6 _ rfl
          have xx7 := Nx_3.out.cell 7 _ rfl
          have xx8 := Nx_3.out.cell 8 _ rfl
          have xx9 := Nx_3.out.cell 9 _ rfl
          have xx10 := Nx_3.out.cell 10 _ rfl
          have xx11 := Nx_3.out.cell 11 _ rfl
          have xx12 := Nx_3.out.cell 12 _ rfl
          have lx := Nx_3.out.lt
          have xu0 := Nu_3.out.cell 0 _ rfl
          have lu := Nu_3.out.lt
          cases gq
          · go_wp2_with fail
            have HZ := Aid.hid (fun (w' : World) (hSw : Below w3.heap.size w3 w') => (⟨(hSw.cell (p := ⟨wd0.heap.size, 2, none⟩) lx).trans xx2, (hSw.cell (p := ⟨wd0.heap.size, 3, none⟩) lx).trans xx3, (hSw.cell (p := ⟨wd0.heap.size, 4, none⟩) lx).trans xx4, (hSw.cell (p := ⟨wd0.heap.size, 5, none⟩) lx).trans xx5, (hSw.cell (p := ⟨wd0.heap.size, 6, none⟩) lx).trans xx6, (hSw.cell (p := ⟨wd0.heap.size, 7, none⟩) lx).trans xx7, (hSw.cell (p := ⟨wd0.heap.size, 8, none⟩) lx).trans xx8, (hSw.cell (p := ⟨wd0.heap.size, 9, none⟩) lx).trans xx9, (hSw.cell (p := ⟨wd0.heap.size, 10, none⟩) lx).trans xx10, (hSw.cell (p := ⟨wd0.heap.size, 11, none⟩) lx).trans xx11, (hSw.cell (p := ⟨wd0.heap.size, 12, none⟩) lx).trans xx12, (hSw.cell (p := ⟨w.heap.size, 0, none⟩) lu).trans xu0⟩ : _ ∧ _ ∧ _ ∧ _ ∧ _ ∧ _ ∧ _ ∧ _ ∧ _ ∧ _ ∧ _ ∧ _))
            have hb : Below w3.heap.size w3 w3.drew := (Below.refl _ _).drew
            refine Ord.wp_region_walk (fun w' => Below w3.heap.size w3 w') 9 [(true, 0), (true, 1), (true, 2), (true, 3), (true, 4), (true, 5), (true, 7), (false, 6), (true, 8)] (by kernel_rfl) (by kernel_rfl) (fun _ _ d _ _ h => by cases d <;> exact h) (hb) ?_
            clear hb
            have hb : Below w3.heap.size w3 w3.drew := (Below.refl _ _).drew
            generalize w3.drew = wd3 at *
            iterate 7
              apply Ord.walk_light
              next => (simp only [la0, la1, la2]; rfl)
              next => rfl
              next => (intro w' hSw; obtain ⟨z0, z1, z2, z3, z4, z5, z6, z7, z8, z9, z10, z11⟩ := HZ.out w' hSw; clear hSw; go_simp; first | done | with_reducible rfl)
              simp only [Act.put, la3, la4, la5]
            apply Ord.walk_heavy
            next => (simp only [la0, la1, la2]; rfl)
            next => rfl
            intro K hK
            go_wp2_with fail
            refine (find_is u _ B cap d.name fq _ HFQ.out (HU.out.below (((Kx3.out).trans (hb.mono (Kx3.out).size))) hB) (Nat.le_trans hB (((Kx3.out).trans (hb.mono (Kx3.out).size))).size)).mono ?_; rintro _ v3_1 ⟨rfl, hb'⟩; dsimp only
            refine hK.out _ _ (hb.trans (hb'.mono hb.size)) (fun hHeld => ?_)
            clear hb hb'
            have hb := hHeld
            clear hK K
            try simp only [Act.put, la3, la4, la5]
            apply Ord.walk_light
            next => (simp only [la0, la1, la2]; rfl)
            next => rfl
            next => (intro w' hSw; obtain ⟨z0, z1, z2, z3, z4, z5, z6, z7, z8, z9, z10, z11⟩ := HZ.out w' hSw; clear hSw; go_simp; first | done | with_reducible rfl)
            simp only [Act.put, la3, la4, la5]
            refine Ord.walk_tail ?_; simp only [List.drop_succ_cons, List.drop_zero]
            have hbx := hb
            clear hb HZ
            have Kx4 := Aid.hid ((Kx3.out).trans (hbx.mono (Kx3.out).size))
            have Nu_4 := Aid.hid (Nu_3.out.below hbx Nu_3.out.lt)
            have Nx_4 := Aid.hid (Nx_3.out.below hbx Nx_3.out.lt)
            clear xx2 xx3 xx4 xx5 xx6 xx7 xx8 xx9 xx10 xx11 xx12 lx xu0 lu
            clear hbx
            have xx2 := Nx_4.out.cell 2 _ rfl
            have xx3 := Nx_4.out.cell 3 _ rfl
            have xx4 := Nx_4.out.cell 4 _ rfl
            have xx5 := Nx_4.out.cell 5 _ rfl
            have xx6 := Nx_4.out.cell 6 _ rfl
            have xx7 := Nx_4.out.cell 7 _ rfl
            have xx8 := Nx_4.out.cell 8 _ rfl
            have xx9 := Nx_4.out.cell 9 _ rfl
            have xx10 := Nx_4.out.cell 10 _ rfl
            have xx11 := Nx_4.out.cell 11 _ rfl
            have xx12 := Nx_4.out.cell 12 _ rfl
            have lx := Nx_4.out.lt
            have xu0 := Nu_4.out.cell 0 _ rfl
            have lu := Nu_4.out.lt
            by_cases hfi : fq = i
            · subst hfi
              have HR5 : Hid (Ru.task u i d = r) := Aid.hid (by have h := HR4.out; simpa using h)
              go_wp2_with fail
              refine (task_is u _ B cap wd0.heap.size i d r _ HR5.out HA.out.c Nx_4.out HD.out (HU.out.below (Kx4.out) hB) (Nat.le_trans hB (Kx4.out).size)).mono ?_; rintro _ w5 ⟨rfl, hb5⟩
              have Kx5 := Aid.hid ((Kx4.out).trans (hb5.mono (Kx4.out).size))
              have Nu_5 := Aid.hid (Nu_4.out.below hb5 Nu_4.out.lt)
              have Nx_5 := Aid.hid (Nx_4.out.below hb5 Nx_4.out.lt)
              clear xx2 xx3 xx4 xx5 xx6 xx7 xx8 xx9 xx10 xx11 xx12 lx xu0 lu
              clear hb5
              go_wp2_with fail
              go_ret
              exact ⟨rfl, Kx5.out⟩
            · have e6 : (fq != i) = true := by simpa using hfi
              obtain rfl : 6 = r := by rw [← HR4.out]; simp [hfi]
              clear hfi
              go_wp2_with fail
              go_ret
              exact ⟨rfl, Kx4.out⟩
          · obtain rfl : 5 = r := by rw [← HR4.out]; rfl
            go_wp2_with fail
            go_ret
            exact ⟨rfl, Kx3.out⟩
      · obtain rfl : k1 = false := by rw [← hk1]; simp; omega
        obtain rfl : k2 = false := by rw [← hk2]; simp; omega
        obtain rfl : k3 = false := by rw [← hk3]; simp; omega
        obtain rfl : k4 = false := by rw [← hk4]; simp; omega
        have HK := Aid.hid hk
        clear hk
        obtain rfl : 22 = r := by rw [← HR2.out, Ru.declAt, if_pos HK.out]
        go_wp2_with fail
        (try clear hX)
        go_ret
        exact ⟨rfl, Kx2.out⟩
end Go.Proofs.YtejifefgmlpclaaGreat
