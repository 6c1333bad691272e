/- Alike, as a walk. -/
import Derived.Test.YtejifefgmlpclaaGreatRuA
import Derived.Deep.Cut
import Derived.BigQuiet
import Derived.Test.YtejifefgmlpclaaGreatRuI
import Derived.Test.YtejifefgmlpclaaGreatInts
import Derived.Test.YtejifefgmlpclaaGreatOrd
import Derived.WalkKit
import Derived.WalkSpells
import Derived.WalkLawsBesides
import Derived.LoopTactic
import Derived.Deep.QuietTactic
import Derived.Below
import Derived.Laws.ResultCell
import Derived.Laws.Tables
import Derived.Laws.Rows
import Derived.KernelRfl
import Derived.Test.YtejifefgmlpclaaGreatTabE
set_option linter.unusedSimpArgs false
set_option linter.unusedVariables false
namespace Go.Proofs.YtejifefgmlpclaaGreat
open Go.RowKit

theorem Ru.psEq_len : ∀ (x y : List Vd), x.length ≠ y.length → Ru.psEq x y = false
  | [], [], h => absurd rfl h
  | [], _ :: _, _ => rfl
  | _ :: _, [], _ => rfl
  | a :: x, b :: y, h => by
    rw [Ru.psEq, Ru.psEq_len x y (fun e => h (by simp [e]))]; simp

set_option maxRecDepth 100000 in
set_option maxHeartbeats 1000000 in
theorem alike1_any (a b : Vd) (w : World) :
    Calls Tryz.prog 69 #[.agg #[.string a.name, .int .i64 a.ty.k, .int .i64 a.ty.lo, .int .i64 a.ty.hi, .string a.ty.name, .int .i64 a.init, .int .i64 a.dir, .int .i64 a.slot], .agg #[.string b.name, .int .i64 b.ty.k, .int .i64 b.ty.lo, .int .i64 b.ty.hi, .string b.ty.name, .int .i64 b.init, .int .i64 b.dir, .int .i64 b.slot]] w fun e w' => e = .returned (.bool (Ru.tyEq a.ty b.ty)) ∧ Below w.heap.size w w' := by
  obtain ⟨an, ⟨ak, al, ah, at_⟩, ai, ad, asl⟩ := a
  obtain ⟨bn, ⟨bk, bl, bh, bt⟩, bi, bd, bsl⟩ := b
  go_enter Tryz.func69, Tryz.ntmps69
  go_wp2_with fail
  all_goals
    go_ret
    exact ⟨Aid.ret_bool (by simp_all [Ru.tyEq]), ((Below.refl _ _).alloc (Nat.le_refl _) _).alloc (by simp) _⟩

theorem alike1_is (a b : Vd) (r : Bool) (w : World) (hr : Ru.tyEq a.ty b.ty = r) :
    Calls Tryz.prog 69 #[.agg #[.string a.name, .int .i64 a.ty.k, .int .i64 a.ty.lo, .int .i64 a.ty.hi, .string a.ty.name, .int .i64 a.init, .int .i64 a.dir, .int .i64 a.slot], .agg #[.string b.name, .int .i64 b.ty.k, .int .i64 b.ty.lo, .int .i64 b.ty.hi, .string b.ty.name, .int .i64 b.init, .int .i64 b.dir, .int .i64 b.slot]] w fun e w' => e = .returned (.bool r) ∧ Below w.heap.size w w' := by
  rw [← hr]; exact alike1_any a b w

theorem Rows.vd {w : World} {B : Nat} {A : Option Addr} {ps : List Vd} (h : Rows w B 8 A (ps.map Vd.cells)) (hn : 0 < ps.length) :
    ∃ b off, A = some ⟨b, off, none⟩ ∧ b < B ∧ ∀ (i : Nat) (v : Vd), ps[i]? = some v → ∀ j x, v.cells[j]? = some x → w.cell? ⟨b, off + i * 8 + j, none⟩ = some x := by
  obtain ⟨b, off, h1, h2, h3⟩ := h (by simpa using hn)
  exact ⟨b, off, h1, h2, fun i v hv j x hx => h3 i v.cells (by simp [hv]) j x hx⟩

set_option maxRecDepth 100000 in
set_option maxHeartbeats 4000000 in
theorem equalVars_is (A C : Option Addr) (B B' ac cc : Nat) (ps qs : List Vd) (r : Bool) (w : World) (hr : Ru.psEq ps qs = r) (hp : Rows w B 8 A (ps.map Vd.cells)) (hq : Rows w B' 8 C (qs.map Vd.cells)) (hB : B ≤ w.heap.size) (hB' : B' ≤ w.heap.size) (lp : ps.length ≤ 9223372036854775807) (lq : qs.length ≤ 9223372036854775807) :
    Calls Tryz.prog 70 #[.slice A ps.length ac, .slice C qs.length cc, .func (.func 69) #[] #[]] w fun e w' => e = .returned (.bool r) ∧ Below w.heap.size w w' := by
  have HR := Aid.hid hr; have HP := Aid.hid hp; have HQ := Aid.hid hq
  clear hr hp hq
  by_cases hl : ps.length = qs.length
  · go_enter Tryz.func70, Tryz.ntmps70
    try simp only [List.append_eq, List.cons_append, List.nil_append]
    rw [← hl]
    have HL := Aid.hid hl
    clear hl
    go_wp2_with fail
    go_loopw [17] (fun vi wr => ∃ k : Nat, vi = .int .i64 k ∧ k ≤ ps.length ∧ Hid (Ru.psEq (ps.drop k) (qs.drop k) = r) ∧ Below w.heap.size w wr) (fun vi _ => ps.length - (intOf vi).toNat)
    case atStart => exact ⟨0, rfl, Nat.zero_le _, Aid.hid (by simpa using HR.out), Below.refl _ _⟩
    case round =>
      obtain ⟨k, rfl, hk, SM, hb⟩ := hrel
      by_cases hlt : k < ps.length
      · have hlq : k < qs.length := by have := HL.out; omega
        obtain ⟨b1, o1, rfl, hb1, hc1⟩ := (HP.out.below hb hB).vd (by omega)
        obtain ⟨b2, o2, rfl, hb2, hc2⟩ := (HQ.out.below hb hB').vd (by omega)
        obtain ⟨x, hx⟩ : ∃ x, ps[k]? = some x := ⟨_, List.getElem?_eq_getElem hlt⟩
        obtain ⟨y, hy⟩ : ∃ y, qs[k]? = some y := ⟨_, List.getElem?_eq_getElem hlq⟩
        have DP : Hid (ps.drop k = x :: ps.drop (k + 1)) := Aid.hid (by rw [List.drop_eq_getElem_cons hlt]; congr 1; exact (List.getElem?_eq_some_iff.1 hx).2)
        have DQ : Hid (qs.drop k = y :: qs.drop (k + 1)) := Aid.hid (by rw [List.drop_eq_getElem_cons hlq]; congr 1; exact (List.getElem?_eq_some_iff.1 hy).2)
        have c0 := hc1 k x hx 0 _ rfl
        have c1 := hc1 k x hx 1 _ rfl
        have c2 := hc1 k x hx 2 _ rfl
        have c3 := hc1 k x hx 3 _ rfl
        have c4 := hc1 k x hx 4 _ rfl
        have c5 := hc1 k x hx 5 _ rfl
        have c6 := hc1 k x hx 6 _ rfl
        have c7 := hc1 k x hx 7 _ rfl
        have d0 := hc2 k y hy 0 _ rfl
        have d1 := hc2 k y hy 1 _ rfl
        have d2 := hc2 k y hy 2 _ rfl
        have d3 := hc2 k y hy 3 _ rfl
        have d4 := hc2 k y hy 4 _ rfl
        have d5 := hc2 k y hy 5 _ rfl
        have d6 := hc2 k y hy 6 _ rfl
        have d7 := hc2 k y hy 7 _ rfl
        simp only [Nat.add_zero] at c0 d0
        have n1 : b1 < wr.heap.size := by have := hb.size; omega
        have n2 : b2 < wr.heap.size := by have := hb.size; omega
        clear hc1 hc2 hx hy
        obtain ⟨q, hq⟩ : ∃ q, Ru.tyEq x.ty y.ty = q := ⟨_, rfl⟩
        have HQ2 := Aid.hid hq
        clear hq
        go_wp2_with fail
        refine (alike1_is x y q _ HQ2.out).mono ?_; rintro e w2 ⟨rfl, hb3⟩
        have hb4 : Below w.heap.size w w2 := (((hb.alloc hb.size _).alloc (by have := hb.size; simp; omega) _)).trans (hb3.mono (by have := hb.size; simp; omega))
        clear hb hb3 c0 c1 c2 c3 c4 c5 c6 c7 d0 d1 d2 d3 d4 d5 d6 d7 n1 n2
        cases q
        · have E : Hid (false = r) := Aid.hid (by have h := SM.out; rw [DP.out, DQ.out, Ru.psEq, HQ2.out] at h; simpa using h)
          go_wp2_with fail
          go_ret
          exact ⟨by rw [← E.out]; rfl, hb4⟩
        · have NX : Hid (Ru.psEq (ps.drop (k + 1)) (qs.drop (k + 1)) = r) := Aid.hid (by have h := SM.out; rw [DP.out, DQ.out, Ru.psEq, HQ2.out] at h; simpa using h)
          go_wp2_with fail
          go_roundw
          case rel => exact ⟨k + 1, by go_num, by omega, NX, hb4⟩
          case measure => simp [intOf]; omega
      · have E : Hid (true = r) := Aid.hid (by
          have h := SM.out
          rw [List.drop_eq_nil_of_le (by omega), List.drop_eq_nil_of_le (by have := HL.out; omega)] at h
          simpa [Ru.psEq] using h)
        go_wp2_with fail
        go_ret
        exact ⟨by rw [← E.out]; rfl, hb⟩
  · have hl2 : ((ps.length : Int) != (qs.length : Int)) = true := by simpa using (by omega : ¬ (ps.length : Int) = qs.length)
    have E : Hid (false = r) := Aid.hid (by rw [← HR.out, Ru.psEq_len _ _ hl])
    go_enter Tryz.func70, Tryz.ntmps70
    try simp only [List.append_eq, List.cons_append, List.nil_append]
    go_wp2_with fail
    go_ret
    exact ⟨by rw [← E.out]; rfl, Below.refl _ _⟩
/-- A method's parameters lie in memory. -/
structure MdP (w : World) (B : Nat) (m : Md) : Prop where
  params : Rows w B 8 m.pA (m.ps.map Vd.cells)
  smallP : m.ps.length ≤ 9223372036854775807
theorem MdAt.p {w : World} {B : Nat} {m : Md} (h : MdAt w B m) : MdP w B m := ⟨h.params, h.smallP⟩
theorem MdP.below {w w' : World} {B C : Nat} {m : Md} (h : MdP w B m) (hb : Below C w w') (hC : B ≤ C) : MdP w' B m := ⟨h.params.below hb hC, h.smallP⟩

set_option maxRecDepth 100000 in
set_option maxHeartbeats 2000000 in
theorem alike_is (a b : Md) (r : Bool) (w : World) (hr : Ru.alike a b = r) (B B' : Nat) (ha : MdP w B a) (hb : MdP w B' b) (hB : B ≤ w.heap.size) (hB' : B' ≤ w.heap.size) :
    Calls Tryz.prog 57 #[.agg #[.string a.name, .bool a.over, .bool a.abs, .bool a.fin, .slice a.pA a.ps.length a.pc, .int .i64 a.res.k, .int .i64 a.res.lo, .int .i64 a.res.hi, .string a.res.name, .slice a.vA a.vs.length a.vc, .slice a.bA a.body.length a.bc], .agg #[.string b.name, .bool b.over, .bool b.abs, .bool b.fin, .slice b.pA b.ps.length b.pc, .int .i64 b.res.k, .int .i64 b.res.lo, .int .i64 b.res.hi, .string b.res.name, .slice b.vA b.vs.length b.vc, .slice b.bA b.body.length b.bc]] w fun e w' => e = .returned (.bool r) ∧ Below w.heap.size w w' := by
  have HR := Aid.hid hr
  have MA := Aid.hid ha; have MB := Aid.hid hb
  have la := ha.smallP; have lb := hb.smallP
  clear hr ha hb
  have H1 : Aid.Has ((w.alloc (.cells a.cells.toArray 46)).alloc (.cells b.cells.toArray 46)) w.heap.size a.cells 46 := (Aid.Has.new w _ _).alloc _
  have H2 : Aid.Has ((w.alloc (.cells a.cells.toArray 46)).alloc (.cells b.cells.toArray 46)) (w.heap.size + 1) b.cells 46 := by
    have e : (w.alloc (.cells a.cells.toArray 46)).heap.size = w.heap.size + 1 := by simp
    rw [← e]; exact Aid.Has.new _ _ _
  have hb0 : Below w.heap.size w ((w.alloc (.cells a.cells.toArray 46)).alloc (.cells b.cells.toArray 46)) := ((Below.refl _ _).alloc (Nat.le_refl _) _).alloc (by simp) _
  go_enter Tryz.func57, Tryz.ntmps57
  try simp only [List.append_eq, List.cons_append, List.nil_append]
  go_upto_region 1 with (fail)
  obtain ⟨W, hW⟩ : ∃ W, (w.alloc (.cells a.cells.toArray 46)).alloc (.cells b.cells.toArray 46) = W := ⟨_, rfl⟩
  change Code.wp _ _ _ _ ((w.alloc (.cells a.cells.toArray 46)).alloc (.cells b.cells.toArray 46))
  rw [hW] at H1 H2 hb0 ⊢
  clear hW
  have BW := Aid.hid hb0
  have hw1 := H1.lt
  have hw2 := H2.lt
  obtain ⟨p1, e1⟩ : ∃ p, w.heap.size = p := ⟨_, rfl⟩
  rw [e1] at H1 H2 hw1 hw2 ⊢
  have HA := Aid.hid H1
  have HB := Aid.hid H2
  have hBW := hb0.size
  clear H1 H2 hb0
  obtain ⟨r1, hr1⟩ : ∃ x, Ru.psEq a.ps b.ps = x := ⟨_, rfl⟩
  have R1 := Aid.hid hr1
  clear hr1
  have a4 := HA.out.cell 4 _ rfl
  have a5 := HA.out.cell 5 _ rfl
  have a6 := HA.out.cell 6 _ rfl
  have a7 := HA.out.cell 7 _ rfl
  have a8 := HA.out.cell 8 _ rfl
  have b4 := HB.out.cell 4 _ rfl
  have b5 := HB.out.cell 5 _ rfl
  have b6 := HB.out.cell 6 _ rfl
  have b7 := HB.out.cell 7 _ rfl
  have b8 := HB.out.cell 8 _ rfl
  go_wp2_with fail
  refine (equalVars_is a.pA b.pA B B' a.pc b.pc a.ps b.ps r1 _ R1.out (MA.out.below BW.out hB).params (MB.out.below BW.out hB').params (by omega) (by omega) la lb).mono ?_; rintro e w2 ⟨rfl, hb2⟩
  clear a4 a5 a6 a7 a8 b4 b5 b6 b7 b8
  have HA2 := HA.out.below hb2 hw1
  have HB2 := HB.out.below hb2 hw2
  cases r1
  · have E : Hid (false = r) := Aid.hid (by rw [← HR.out, Ru.alike, R1.out]; rfl)
    go_wp2_with fail
    go_ret
    exact ⟨by rw [← E.out]; rfl, e1 ▸ BW.out.trans (hb2.mono BW.out.size)⟩
  · have E : Hid (Ru.tyEq a.res b.res = r) := Aid.hid (by rw [← HR.out, Ru.alike, R1.out]; rfl)
    have a4 := HA2.cell 4 _ rfl
    have a5 := HA2.cell 5 _ rfl
    have a6 := HA2.cell 6 _ rfl
    have a7 := HA2.cell 7 _ rfl
    have a8 := HA2.cell 8 _ rfl
    have b4 := HB2.cell 4 _ rfl
    have b5 := HB2.cell 5 _ rfl
    have b6 := HB2.cell 6 _ rfl
    have b7 := HB2.cell 7 _ rfl
    have b8 := HB2.cell 8 _ rfl
    go_wp2_with fail
    all_goals
      go_ret
      exact ⟨Aid.ret_bool (by rw [← E.out]; simp_all [Ru.tyEq]), e1 ▸ BW.out.trans (hb2.mono BW.out.size)⟩
end Go.Proofs.YtejifefgmlpclaaGreat
/- What is abstract that may not be: as walks. -/
namespace Go.Proofs.YtejifefgmlpclaaGreat
open Go.RowKit

theorem Ru.msOf_at {u : List Dk} {j : Nat} {e : Dk} (he : u[j]? = some e) : Tb.msOf u (j : Int) = e.ms := by simp [Tb.msOf, he]
theorem Ru.method_in {u : List Dk} {d : Int} {s : ByteArray} {n : Md} (h1 : (Ru.method u d s).getD Ru.md0 = n) (h2 : (Ru.method u d s).isSome = true) : ∃ e ∈ u, n ∈ e.ms := by
  cases hk : (Tb.method u d s).2.2 with
  | false => rw [Ru.method_no hk] at h2; cases h2
  | true =>
    obtain ⟨j, k, e, m, e1, he, hm⟩ := Ru.method_at hk
    rw [Ru.method_yes e1 he hm] at h1
    obtain rfl : m = n := h1
    exact ⟨e, List.mem_of_getElem? he, List.mem_of_getElem? hm⟩
def Ru.absM (x : Dk) (m : Md) : Bool := m.abs && (m.fin || (decide ((m.vs.length : Int) + m.body.length > 0) || !x.abs))
def Ru.absC (u : List Dk) (d c : Int) : Bool := (Tb.msOf u c).any fun m => Ru.isAbs (Ru.method u d m.name)
theorem Ru.abstract_eq (u : List Dk) (d : Int) (x : Dk) : Ru.abstract u d x = if (x.abs && x.fin) = true then true else if x.ms.any (Ru.absM x) = true then true else if x.abs = true then false else (Tb.chain u d).any (Ru.absC u d) := rfl
theorem rmethod_n (u : List Dk) (a : Option Addr) (B cap b i : Nat) (d : Dk) (dd : Int) (s : ByteArray) (n : Md) (ok : Bool) (w : World) (h1 : (Ru.method u dd s).getD Ru.md0 = n) (h2 : (Ru.method u dd s).isSome = ok) (hx : Aid.Has w b [.slice a u.length cap, .int .i64 (i : Int), .int .i64 d.kind, .string d.name, .string d.base, .slice d.fA d.faces.length d.fc, .bool d.abs, .bool d.fin, .slice d.vA d.vs.length d.vc, .slice d.mA d.ms.length d.mc, .slice d.bA d.body.length d.bc, .int .i64 d.every, .int .i64 d.first] 50) (hd : u[i]? = some d) (hu : UnitAt w B a u) (hB : B ≤ w.heap.size) :
    Calls Tryz.prog 56 #[.pointer (some ⟨b, 0, none⟩), .int .i64 dd, .string s] w fun z w' => z = .returned (.tuple #[.agg #[.string n.name, .bool n.over, .bool n.abs, .bool n.fin, .slice n.pA n.ps.length n.pc, .int .i64 n.res.k, .int .i64 n.res.lo, .int .i64 n.res.hi, .string n.res.name, .slice n.vA n.vs.length n.vc, .slice n.bA n.body.length n.bc], .bool ok]) ∧ Below w.heap.size w w' := by
  subst h1 h2
  exact rmethod_is u a B cap b i d dd s _ w rfl hx hd hu hB
set_option maxRecDepth 100000 in
set_option maxHeartbeats 4000000 in
theorem abstract_is (u : List Dk) (a : Option Addr) (B cap b i : Nat) (d : Dk) (r : Bool) (w : World) (hr : Ru.abstract u i d = r) (hl : RLim u) (hx : Aid.Has w b [.slice a u.length cap, .int .i64 (i : Int), .int .i64 d.kind, .string d.name, .string d.base, .slice d.fA d.faces.length d.fc, .bool d.abs, .bool d.fin, .slice d.vA d.vs.length d.vc, .slice d.mA d.ms.length d.mc, .slice d.bA d.body.length d.bc, .int .i64 d.every, .int .i64 d.first] 50) (hd : u[i]? = some d) (hu : UnitAt w B a u) (hB : B ≤ w.heap.size) :
    Calls Tryz.prog 36 #[.pointer (some ⟨b, 0, none⟩)] w fun z w' => z = .returned (.bool r) ∧ Below w.heap.size w w' := by
  have HR := Aid.hid hr
  have HBL := Aid.hid (hl.body d (List.mem_of_getElem? hd))
  have hvl := (hl.lim.p d (List.mem_of_getElem? hd))
  have HVL := Aid.hid hvl
  have hmem := List.mem_of_getElem? hd
  have HDK := Aid.hid (hu.decls d hmem)
  have smM := HDK.out.smallM; have smV := HDK.out.smallV; have smF := HDK.out.smallF
  obtain ⟨da, hda⟩ : ∃ x, d.abs = x := ⟨_, rfl⟩
  obtain ⟨df, hdf⟩ : ∃ x, d.fin = x := ⟨_, rfl⟩
  have HDA := Aid.hid hda; have HDF := Aid.hid hdf
  have HXX := Aid.hid hx
  rw [hda, hdf] at hx
  clear hda hdf hvl
  have HU := Aid.hid hu; have HX := Aid.hid hx; have HD := Aid.hid hd
  have sm := hu.small
  have hil : i < u.length := (List.getElem?_eq_some_iff.1 hd).1
  clear hr hmem hl hu hx hd
  go_enter Tryz.func36, Tryz.ntmps36
  try simp only [List.append_eq, List.cons_append, List.nil_append]
  have Nx := Aid.hid (HX.out.below ((Below.refl w.heap.size w)) HX.out.lt)
  have xx0 := Nx.out.cell 0 _ rfl
  have xx1 := Nx.out.cell 1 _ rfl
  have xx6 := Nx.out.cell 6 _ rfl
  have xx7 := Nx.out.cell 7 _ rfl
  have xx9 := Nx.out.cell 9 _ rfl
  have lx := Nx.out.lt
  have E1 : Hid ((if (da && df) = true then true else if d.ms.any (Ru.absM d) = true then true else if da = true then false else (Tb.chain u i).any (Ru.absC u i)) = r) := Aid.hid (by rw [← HR.out, Ru.abstract_eq, HDA.out, HDF.out])
  by_cases hdd : (da && df) = true
  · obtain ⟨rfl, rfl⟩ : da = true ∧ df = true := by simpa using hdd
    obtain rfl : true = r := E1.out
    go_wp2_with fail
    go_ret
    exact ⟨rfl, (Below.refl w.heap.size w)⟩
  · have E2 : Hid ((if d.ms.any (Ru.absM d) = true then true else if da = true then false else (Tb.chain u i).any (Ru.absC u i)) = r) := Aid.hid (by rw [← E1.out, if_neg hdd])
    have hdf : da = true → df = false := by intro h; rw [h] at hdd; simpa using hdd
    have e0 : (if da = true then df else false) = false := by cases da <;> simp_all
    clear hdd E1
    rcases (show da = false ∨ (da = true ∧ df = false) by cases da <;> simp_all) with rfl | ⟨rfl, rfl⟩
    all_goals clear hdf e0
    · go_wp2_with fail
      clear xx0 xx1 xx6 xx7 xx9 lx
      go_loopw [29] (fun vi wi => ∃ k : Nat, vi = .int .i64 k ∧ k ≤ d.ms.length ∧ Hid (∀ j, j < k → ∀ e, d.ms[j]? = some e → Ru.absM d e = false) ∧ Hid (Below w.heap.size w wi)) (fun vi _ => d.ms.length - (intOf vi).toNat)
      case atStart => exact ⟨0, rfl, Nat.zero_le _, Aid.hid (fun j hj => by omega), Aid.hid (Below.refl _ _)⟩
      case round =>
        obtain ⟨k, rfl, hk, NO, HB⟩ := hrel
        obtain ⟨wo, rfl⟩ : ∃ x, x = wr := ⟨_, rfl⟩
        have KHB := Aid.hid (((Below.refl w.heap.size w)).trans (HB.out.mono ((Below.refl w.heap.size w)).size))
        have Nx_HB := Aid.hid (Nx.out.below HB.out Nx.out.lt)
        have Ny_HB := Aid.hid (HXX.out.below HB.out HXX.out.lt)
        by_cases hkl : k < d.ms.length
        · obtain ⟨mb, mo, emA, lmb, hc_m⟩ := (HDK.out.meths.below (KHB.out) hB).at_map (by omega)
          obtain ⟨m, hm⟩ : ∃ x, d.ms[k]? = some x := ⟨_, List.getElem?_eq_getElem hkl⟩
          have HM := Aid.hid hm
          have llm : mb < wo.heap.size := Nat.lt_of_lt_of_le lmb (Nat.le_trans hB (KHB.out).size)
          have c0 := hc_m k m hm 0 _ rfl
          have c1 := hc_m k m hm 1 _ rfl
          have c2 := hc_m k m hm 2 _ rfl
          have c3 := hc_m k m hm 3 _ rfl
          have c4 := hc_m k m hm 4 _ rfl
          have c5 := hc_m k m hm 5 _ rfl
          have c6 := hc_m k m hm 6 _ rfl
          have c7 := hc_m k m hm 7 _ rfl
          have c8 := hc_m k m hm 8 _ rfl
          have c9 := hc_m k m hm 9 _ rfl
          have c10 := hc_m k m hm 10 _ rfl
          simp only [Nat.add_zero] at c0
          clear hc_m hm lmb
          rw [emA]
          obtain ⟨X1, hX⟩ : ∃ X, wo.alloc (.cells #[.string m.name, .bool m.over, .bool m.abs, .bool m.fin, .slice m.pA m.ps.length m.pc, .int .i64 m.res.k, .int .i64 m.res.lo, .int .i64 m.res.hi, .string m.res.name, .slice m.vA m.vs.length m.vc, .slice m.bA m.body.length m.bc] 46) = X := ⟨_, rfl⟩
          have qm := new_at hX
          have qx := all_at hX Nx_HB.out
          have qy := all_at hX Ny_HB.out
          have qqk := below_at hX (KHB.out)
          have qqs := below_at0 hX
          have Nx_1 := Aid.hid qx
          have Ny_1 := Aid.hid qy
          have Nm_1 := Aid.hid qm
          have Kx1 := Aid.hid qqk
          have Qs1 := Aid.hid qqs
          clear qqk qqs qx qy qm
          have xm2 := Nm_1.out.cell 2 _ rfl
          have xm3 := Nm_1.out.cell 3 _ rfl
          have xm6 := Nm_1.out.cell 6 _ rfl
          have xm7 := Nm_1.out.cell 7 _ rfl
          have xm9 := Nm_1.out.cell 9 _ rfl
          have xm10 := Nm_1.out.cell 10 _ rfl
          have lm := Nm_1.out.lt
          have xx6 := Nx_1.out.cell 6 _ rfl
          have lx := Nx_1.out.lt
          have R2_1 := Aid.hid ((HB).out.trans (Qs1.out.mono (HB).out.size))
          go_upto_region 6 with (fail)
          (try clear hX)
          clear c0 c1 c2 c3 c4 c5 c6 c7 c8 c9 c10 llm
          have hb1 := HBL.out m (List.mem_of_getElem? HM.out)
          have hb2 := (HVL.out m (List.mem_of_getElem? HM.out)).2
          have DAA := HDA.out
          clear DAA
          obtain ⟨ma, hma⟩ : ∃ x, m.abs = x := ⟨_, rfl⟩
          obtain ⟨mf, hmf⟩ : ∃ x, m.fin = x := ⟨_, rfl⟩
          have HMA := Aid.hid hma; have HMF := Aid.hid hmf
          rw [hma] at xm2; rw [hmf] at xm3
          clear hma hmf
          cases ma
          · have NX := Aid.hid (no_step NO.out HM.out (p := Ru.absM d) (by simp [Ru.absM, HMA.out]))
            go_wp2_with fail
            go_roundw
            case rel => exact ⟨k + 1, by go_num, by omega, NX, R2_1⟩
            case measure => simp [intOf]; omega
          · cases mf
            · by_cases hs : 0 < m.vs.length + m.body.length
              · have hs1 : decide ((0 : Int) < (m.vs.length : Int) + (m.body.length : Int)) = true := decide_eq_true (by omega)
                obtain rfl : true = r := by rw [← E2.out, if_pos (any_hit HM.out (by simp [Ru.absM, HMA.out]; omega))]
                go_wp2_with fail
                go_ret
                exact ⟨rfl, Kx1.out⟩
              · have hs1 : decide ((0 : Int) < (m.vs.length : Int) + (m.body.length : Int)) = false := decide_eq_false (by omega)
                have HS0 := Aid.hid hs
                clear hs
                obtain rfl : true = r := by rw [← E2.out, if_pos (any_hit HM.out (by have hs := HS0.out; simp [Ru.absM, HMA.out, HMF.out, HDA.out]))]
                go_wp2_with fail
                go_ret
                exact ⟨rfl, Kx1.out⟩
            · obtain rfl : true = r := by rw [← E2.out, if_pos (any_hit HM.out (by simp [Ru.absM, HMA.out, HMF.out]))]
              go_wp2_with fail
              go_ret
              exact ⟨rfl, Kx1.out⟩
        · have E3 : Hid ((if (false : Bool) = true then false else (Tb.chain u i).any (Ru.absC u i)) = r) := Aid.hid (by rw [← E2.out, any_miss (p := Ru.absM d) (l := d.ms) (fun j hj => NO.out j (by omega))]; rfl)
          have xx0 := Nx_HB.out.cell 0 _ rfl
          have xx1 := Nx_HB.out.cell 1 _ rfl
          have xx6 := Nx_HB.out.cell 6 _ rfl
          have xx7 := Nx_HB.out.cell 7 _ rfl
          have xx9 := Nx_HB.out.cell 9 _ rfl
          have lx := Nx_HB.out.lt
          obtain ⟨zs, hzs⟩ : ∃ zs, Tb.chain u i = zs := ⟨_, rfl⟩
          have HZS := Aid.hid hzs
          have E4 : Hid (zs.any (Ru.absC u i) = r) := Aid.hid (by rw [← hzs]; exact E3.out)
          have HCI : Hid (∀ c ∈ zs, 0 ≤ c ∧ c < u.length) := Aid.hid (fun c hc => by rw [← hzs] at hc; have h := Tb.chain_in u i c hc; exact ⟨h.1, h.2.1⟩)
          have hzl : zs.length ≤ 1000000000 := by rw [← hzs]; have := (Tb.chain_len u i); omega
          clear hzs
          go_wp2_with fail
          have HZ := Aid.hid (fun (w' : World) (hSw : Below wo.heap.size wo w') => (⟨(hSw.cell (p := ⟨b, 0, none⟩) lx).trans xx0, (hSw.cell (p := ⟨b, 1, none⟩) lx).trans xx1, (hSw.cell (p := ⟨b, 6, none⟩) lx).trans xx6, (hSw.cell (p := ⟨b, 7, none⟩) lx).trans xx7, (hSw.cell (p := ⟨b, 9, none⟩) lx).trans xx9⟩ : _ ∧ _ ∧ _ ∧ _ ∧ _))
          have hb : Below wo.heap.size wo wo.drew := (Below.refl _ _).drew
          refine Ord.wp_region_all (fun w' => Below wo.heap.size wo w') 11 [(true, 0), (true, 1), (true, 2), (true, 3), (true, 4), (true, 5), (true, 6), (true, 7), (true, 10), (false, 8), (true, 9)] (by kernel_rfl) (by kernel_rfl) (fun _ _ d _ _ h => by cases d <;> exact h) (hb) ?_
          clear hb
          have hb : Below wo.heap.size wo wo.drew := (Below.refl _ _).drew
          generalize wo.drew = wd0 at *
          iterate 9
            apply Ord.walk_light
            next => (simp only [la0, la1, la2]; rfl)
            next => rfl
            next => (intro w' hSw; obtain ⟨z0, z1, z2, z3, z4⟩ := HZ.out w' hSw; clear hSw; go_simp; first | done | with_reducible rfl)
            simp only [Act.put, la3, la4, la5]
          apply Ord.walk_heavy
          next => (simp only [la0, la1, la2]; rfl)
          next => rfl
          intro K hK
          go_wp2_with fail
          refine (chain_is u a B cap (i : Int) zs _ HZS.out (HU.out.below (((KHB.out).trans (hb.mono (KHB.out).size))) hB) (Nat.le_trans hB (((KHB.out).trans (hb.mono (KHB.out).size))).size)).mono ?_; rintro _ v0_1 ⟨A1, c1, rfl, hown, hb'⟩; dsimp only
          refine hK.out _ _ (hb.trans (hb'.mono hb.size)) (fun hHeld => ?_)
          clear hb hb'
          have hb := hHeld
          clear hK K
          try simp only [Act.put, la3, la4, la5]
          apply Ord.walk_light
          next => (simp only [la0, la1, la2]; rfl)
          next => rfl
          next => (intro w' hSw; obtain ⟨z0, z1, z2, z3, z4⟩ := HZ.out w' hSw; clear hSw; go_simp; first | done | with_reducible rfl)
          simp only [Act.put, la3, la4, la5]
          refine Ord.walk_tail ?_; simp only [List.drop_succ_cons, List.drop_zero]
          have hbx := hb
          clear hb HZ
          have Kx1 := Aid.hid ((KHB.out).trans (hbx.mono (KHB.out).size))
          have Nx_1 := Aid.hid (Nx_HB.out.below hbx Nx_HB.out.lt)
          have Ny_1 := Aid.hid (Ny_HB.out.below hbx Ny_HB.out.lt)
          clear xx0 xx1 xx6 xx7 xx9 lx
          clear hbx
          have HI := Aid.hid (IntsAt.of_own hown)
          clear hown
          go_wp2_with fail
          go_loopw [73] (fun vi wi => ∃ k : Nat, vi = .int .i64 k ∧ k ≤ zs.length ∧ Hid (∀ j, j < k → ∀ e, zs[j]? = some e → Ru.absC u i e = false) ∧ Hid (Below v0_1.heap.size v0_1 wi)) (fun vi _ => zs.length - (intOf vi).toNat)
          case atStart => exact ⟨0, rfl, Nat.zero_le _, Aid.hid (fun j hj => by omega), Aid.hid (Below.refl _ _)⟩
          case round =>
            obtain ⟨k, rfl, hk, NO2, HC⟩ := hrel
            obtain ⟨wp, rfl⟩ : ∃ x, x = wr := ⟨_, rfl⟩
            have KHC := Aid.hid ((Kx1.out).trans (HC.out.mono (Kx1.out).size))
            have Nx_HC := Aid.hid (Nx_1.out.below HC.out Nx_1.out.lt)
            have Ny_HC := Aid.hid (Ny_1.out.below HC.out Ny_1.out.lt)
            by_cases hkl : k < zs.length
            · obtain ⟨ad, rfl, had, hcell⟩ := HI.out.at_ hkl
              obtain ⟨c, hc⟩ : ∃ c, zs[k]? = some c := ⟨_, List.getElem?_eq_getElem hkl⟩
              have cc := (HC.out.cell (p := ad.add k) (by unfold Addr.add; split <;> exact had)).trans (hcell k c hc)
              have lcc : ad.block < wp.heap.size := Nat.lt_of_lt_of_le had HC.out.size
              have hci := HCI.out c (List.mem_of_getElem? hc)
              have HCC := Aid.hid hc
              obtain ⟨j, rfl⟩ : ∃ j : Nat, c = j := ⟨c.toNat, by omega⟩
              obtain ⟨e, he⟩ : ∃ e, u[j]? = some e := ⟨_, List.getElem?_eq_getElem (by omega)⟩
              have HE := Aid.hid he
              have hjl : j < u.length := by omega
              have HEK := Aid.hid (HU.out.decls e (List.mem_of_getElem? he))
              have smE := HEK.out.smallM
              clear hcell hc hci he
              have xx0 := Nx_HC.out.cell 0 _ rfl
              have lx := Nx_HC.out.lt
              obtain ⟨ub, uo, rfl, hlt_ub, hc_ub⟩ := (HU.out.below (KHC.out) hB).at_ (by omega)
              have lub : ub < wp.heap.size := Nat.lt_of_lt_of_le hlt_ub (Nat.le_trans hB (KHC.out).size)
              have ce := hc_ub j e HE.out 7 _ rfl
              clear hc_ub
              go_wp2_with fail
              clear cc lcc xx0 lx ce lub
              go_loopw [87] (fun vi wi => ∃ k : Nat, vi = .int .i64 k ∧ k ≤ e.ms.length ∧ Hid (∀ j, j < k → ∀ x, e.ms[j]? = some x → Ru.isAbs (Ru.method u i x.name) = false) ∧ Hid (Below wp.heap.size wp wi)) (fun vi _ => e.ms.length - (intOf vi).toNat)
              case atStart => exact ⟨0, rfl, Nat.zero_le _, Aid.hid (fun j hj => by omega), Aid.hid (Below.refl _ _)⟩
              case round =>
                obtain ⟨l, rfl, hl, NO3, HD3⟩ := hrel
                have KHD3 := Aid.hid ((KHC.out).trans (HD3.out.mono (KHC.out).size))
                have Nx_HD3 := Aid.hid (Nx_HC.out.below HD3.out Nx_HC.out.lt)
                have Ny_HD3 := Aid.hid (Ny_HC.out.below HD3.out Ny_HC.out.lt)
                have R2_1 := Aid.hid ((HC).out.trans (HD3.out.mono (HC).out.size))
                by_cases hll : l < e.ms.length
                · obtain ⟨mb, mo, emA, lmb, hc_m⟩ := (HEK.out.meths.below (KHD3.out) hB).at_map (by omega)
                  obtain ⟨m, hm⟩ : ∃ x, e.ms[l]? = some x := ⟨_, List.getElem?_eq_getElem hll⟩
                  have HM := Aid.hid hm
                  have llm : mb < wr.heap.size := Nat.lt_of_lt_of_le lmb (Nat.le_trans hB (KHD3.out).size)
                  have c0 := hc_m l m hm 0 _ rfl
                  have c1 := hc_m l m hm 1 _ rfl
                  have c2 := hc_m l m hm 2 _ rfl
                  have c3 := hc_m l m hm 3 _ rfl
                  have c4 := hc_m l m hm 4 _ rfl
                  have c5 := hc_m l m hm 5 _ rfl
                  have c6 := hc_m l m hm 6 _ rfl
                  have c7 := hc_m l m hm 7 _ rfl
                  have c8 := hc_m l m hm 8 _ rfl
                  have c9 := hc_m l m hm 9 _ rfl
                  have c10 := hc_m l m hm 10 _ rfl
                  simp only [Nat.add_zero] at c0
                  clear hc_m hm lmb
                  rw [emA]
                  obtain ⟨X2, hX⟩ : ∃ X, wr.alloc (.cells #[.string m.name, .bool m.over, .bool m.abs, .bool m.fin, .slice m.pA m.ps.length m.pc, .int .i64 m.res.k, .int .i64 m.res.lo, .int .i64 m.res.hi, .string m.res.name, .slice m.vA m.vs.length m.vc, .slice m.bA m.body.length m.bc] 46) = X := ⟨_, rfl⟩
                  have qm := new_at hX
                  have qx := all_at hX Nx_HD3.out
                  have qy := all_at hX Ny_HD3.out
                  have qqk := below_at hX (KHD3.out)
                  have qqs := below_at0 hX
                  have Nx_2 := Aid.hid qx
                  have Ny_2 := Aid.hid qy
                  have Nm_2 := Aid.hid qm
                  have Kx2 := Aid.hid qqk
                  have Qs2 := Aid.hid qqs
                  clear qqk qqs qx qy qm
                  have xm0 := Nm_2.out.cell 0 _ rfl
                  have lm := Nm_2.out.lt
                  have xx1 := Nx_2.out.cell 1 _ rfl
                  have lx := Nx_2.out.lt
                  have R3_2 := Aid.hid ((R2_1).out.trans (Qs2.out.mono (R2_1).out.size))
                  have R3_3 := Aid.hid ((HD3).out.trans (Qs2.out.mono (HD3).out.size))
                  go_wp2_with fail
                  (try clear hX)
                  clear c0 c1 c2 c3 c4 c5 c6 c7 c8 c9 c10 llm
                  obtain ⟨n, hn⟩ : ∃ n, (Ru.method u i m.name).getD Ru.md0 = n := ⟨_, rfl⟩
                  obtain ⟨ok, hok⟩ : ∃ x, (Ru.method u i m.name).isSome = x := ⟨_, rfl⟩
                  have HN := Aid.hid hn; have HOK := Aid.hid hok
                  clear hn hok
                  refine wp_cut (fun a0 e a' w' => e = .normal ∧ Aid.Kept (∃ (g : Nat) (v92 v93 v94 v95 v96 v97 v98 v99 v91 v100 v101 : Value), a' = putL a0 [(92, v92), (93, v93), (94, v94), (95, v95), (96, v96), (97, v97), (98, v98), (99, v99), (91, v91), (100, v100), (101, v101), (9, .pointer (some ⟨g, 0, none⟩)), (10, .bool ok)] ∧ Aid.Has w' g [.string n.name, .bool n.over, .bool n.abs, .bool n.fin, .slice n.pA n.ps.length n.pc, .int .i64 n.res.k, .int .i64 n.res.lo, .int .i64 n.res.hi, .string n.res.name, .slice n.vA n.vs.length n.vc, .slice n.bA n.body.length n.bc] 46 ∧ X2.heap.size ≤ g ∧ Below X2.heap.size X2 w')) ?_ ?_
                  · have HZ := Aid.hid (fun (w' : World) (hSw : Below X2.heap.size X2 w') => (⟨(hSw.cell (p := ⟨wr.heap.size, 0, none⟩) lm).trans xm0, (hSw.cell (p := ⟨b, 1, none⟩) lx).trans xx1⟩ : _ ∧ _))
                    have hb : Below X2.heap.size X2 X2.drew := (Below.refl _ _).drew
                    refine Ord.wp_region_go (fun w' => Below X2.heap.size X2 w') 13 [0, 1, 2, 3, 4, 5, 6, 8, 9, 10] (by kernel_rfl) (by kernel_rfl) (fun _ _ _ _ _ h => by cases h.1) (hb) ?_
                    clear hb
                    have hb : Below X2.heap.size X2 X2.drew := (Below.refl _ _).drew
                    generalize X2.drew = wd0 at *
                    apply Ord.go_light (i := 0) (by kernel_rfl)
                    next => (simp only [la0, la1, la2]; rfl)
                    next => rfl
                    next => (intro w' hSw; obtain ⟨z0, z1⟩ := HZ.out w' hSw; clear hSw; go_simp; first | done | with_reducible rfl)
                    simp only [Act.put, la3, la4, la5]
                    apply Ord.go_light (i := 1) (by kernel_rfl)
                    next => (simp only [la0, la1, la2]; rfl)
                    next => rfl
                    next => (intro w' hSw; obtain ⟨z0, z1⟩ := HZ.out w' hSw; clear hSw; go_simp; first | done | with_reducible rfl)
                    simp only [Act.put, la3, la4, la5]
                    apply Ord.go_light (i := 2) (by kernel_rfl)
                    next => (simp only [la0, la1, la2]; rfl)
                    next => rfl
                    next => (intro w' hSw; obtain ⟨z0, z1⟩ := HZ.out w' hSw; clear hSw; go_simp; first | done | with_reducible rfl)
                    simp only [Act.put, la3, la4, la5]
                    apply Ord.go_light (i := 3) (by kernel_rfl)
                    next => (simp only [la0, la1, la2]; rfl)
                    next => rfl
                    next => (intro w' hSw; obtain ⟨z0, z1⟩ := HZ.out w' hSw; clear hSw; go_simp; first | done | with_reducible rfl)
                    simp only [Act.put, la3, la4, la5]
                    apply Ord.go_light (i := 4) (by kernel_rfl)
                    next => (simp only [la0, la1, la2]; rfl)
                    next => rfl
                    next => (intro w' hSw; obtain ⟨z0, z1⟩ := HZ.out w' hSw; clear hSw; go_simp; first | done | with_reducible rfl)
                    simp only [Act.put, la3, la4, la5]
                    apply Ord.go_light (i := 5) (by kernel_rfl)
                    next => (simp only [la0, la1, la2]; rfl)
                    next => rfl
                    next => (intro w' hSw; obtain ⟨z0, z1⟩ := HZ.out w' hSw; clear hSw; go_simp; first | done | with_reducible rfl)
                    simp only [Act.put, la3, la4, la5]
                    apply Ord.go_light (i := 6) (by kernel_rfl)
                    next => (simp only [la0, la1, la2]; rfl)
                    next => rfl
                    next => (intro w' hSw; obtain ⟨z0, z1⟩ := HZ.out w' hSw; clear hSw; go_simp; first | done | with_reducible rfl)
                    simp only [Act.put, la3, la4, la5]
                    refine Ord.go_two (i := 7) (j := 11) (by kernel_rfl) (by kernel_rfl) ?_ ?_
                    ·
                      apply Ord.go_done1
                      next => (simp only [la0, la1, la2]; rfl)
                      next => rfl
                      intro K hK
                      go_wp2_with fail
                      refine (rmethod_n u _ B cap b i d i m.name n ok _ HN.out HOK.out (Ny_2.out.below hb Ny_2.out.lt) HD.out (HU.out.below (((Kx2.out).trans (hb.mono (Kx2.out).size))) hB) (Nat.le_trans hB (((Kx2.out).trans (hb.mono (Kx2.out).size))).size)).mono ?_; rintro _ vc ⟨rfl, hb'⟩; dsimp only
                      refine hK.out _ _ (hb.trans (hb'.mono hb.size)) (fun hHeld => ?_)
                      clear hb hb'
                      have hb := hHeld
                      clear hK K
                      try simp only [Act.put, la3, la4, la5]
                      apply Ord.go_light (i := 8) (by kernel_rfl)
                      next => (simp only [la0, la1, la2]; rfl)
                      next => rfl
                      next => (intro w' hSw; obtain ⟨z0, z1⟩ := HZ.out w' hSw; clear hSw; go_simp; first | done | with_reducible rfl)
                      simp only [Act.put, la3, la4, la5]
                      apply Ord.go_light (i := 9) (by kernel_rfl)
                      next => (simp only [la0, la1, la2]; rfl)
                      next => rfl
                      next => (intro w' hSw; obtain ⟨z0, z1⟩ := HZ.out w' hSw; clear hSw; go_simp; first | done | with_reducible rfl)
                      simp only [Act.put, la3, la4, la5]
                      apply Ord.go_light (i := 10) (by kernel_rfl)
                      next => (simp only [la0, la1, la2]; rfl)
                      next => rfl
                      next => (intro w' hSw; obtain ⟨z0, z1⟩ := HZ.out w' hSw; clear hSw; go_simp; first | done | with_reducible rfl)
                      simp only [Act.put, la3, la4, la5]
                      refine Ord.go_one (i := 11) (by kernel_rfl) (by kernel_rfl) ?_
                      apply Ord.go_done1
                      next => (simp only [la0, la1, la2]; rfl)
                      next => rfl
                      intro K hK
                      go_wp2_with fail
                      have hg := Aid.Has.new vc [.string ⟨#[]⟩, .bool false, .bool false, .bool false, .slice none 0 0, .int .i64 0, .int .i64 0, .int .i64 0, .string ⟨#[]⟩, .slice none 0 0, .slice none 0 0] 46
                      have hgs := hb.size
                      refine hK.out _ _ (hb.alloc hb.size _) (fun hHeld => ?_)
                      clear hb
                      have hb := hHeld
                      generalize hX : vc.alloc _ = wx at *
                      clear hX
                      clear hK K
                      try simp only [Act.put, la3, la4, la5]
                      refine Ord.go_one (i := 12) (by kernel_rfl) (by kernel_rfl) ?_
                      apply Ord.go_done1
                      next => (simp only [la0, la1, la2]; rfl)
                      next => rfl
                      intro K hK
                      refine wp_store_row 46 _ _ rfl (vc.heap.size) _ rfl rfl 46 _ hg (by kernel_rfl) rfl (by simp [Value.oneCell']) ?_
                      refine hK.out _ _ (row_below hb hgs _) (fun hHeld => ?_)
                      have hg := row_has (ys := [.string n.name, .bool n.over, .bool n.abs, .bool n.fin, .slice n.pA n.ps.length n.pc, .int .i64 n.res.k, .int .i64 n.res.lo, .int .i64 n.res.hi, .string n.res.name, .slice n.vA n.vs.length n.vc, .slice n.bA n.body.length n.bc]) hg
                      clear hb
                      have hb := hHeld
                      generalize hX : World.setRow _ _ _ = ws at *
                      clear hX
                      clear hK K
                      refine Ord.go_tail ?_; simp only [List.drop_succ_cons, List.drop_zero]
                      go_wp2_with fail
                      (try refine ⟨rfl, ?_⟩)
                      unfold Aid.Kept
                      refine ⟨vc.heap.size, ?_⟩
                      all_goals (repeat' apply And.intro)
                      all_goals first | exact hg | exact hgs | exact hb | (simp only [putL, Act.put, la3, la4, la5]; exact ⟨_, _, _, _, _, _, _, _, _, _, _, rfl⟩)
                    ·
                      apply Ord.go_done1
                      next => (simp only [la0, la1, la2]; rfl)
                      next => rfl
                      intro K hK
                      go_wp2_with fail
                      have hg := Aid.Has.new wd0 [.string ⟨#[]⟩, .bool false, .bool false, .bool false, .slice none 0 0, .int .i64 0, .int .i64 0, .int .i64 0, .string ⟨#[]⟩, .slice none 0 0, .slice none 0 0] 46
                      have hgs := hb.size
                      refine hK.out _ _ (hb.alloc hb.size _) (fun hHeld => ?_)
                      clear hb
                      have hb := hHeld
                      generalize hX : wd0.alloc _ = wx at *
                      clear hX
                      clear hK K
                      try simp only [Act.put, la3, la4, la5]
                      refine Ord.go_one (i := 7) (by kernel_rfl) (by kernel_rfl) ?_
                      apply Ord.go_done1
                      next => (simp only [la0, la1, la2]; rfl)
                      next => rfl
                      intro K hK
                      go_wp2_with fail
                      refine (rmethod_n u _ B cap b i d i m.name n ok _ HN.out HOK.out (Ny_2.out.below hb Ny_2.out.lt) HD.out (HU.out.below (((Kx2.out).trans (hb.mono (Kx2.out).size))) hB) (Nat.le_trans hB (((Kx2.out).trans (hb.mono (Kx2.out).size))).size)).mono ?_; rintro _ vc ⟨rfl, hb'⟩; dsimp only
                      refine hK.out _ _ (hb.trans (hb'.mono hb.size)) (fun hHeld => ?_)
                      have hg := hg.below hb' hg.lt
                      clear hb hb'
                      have hb := hHeld
                      clear hK K
                      try simp only [Act.put, la3, la4, la5]
                      apply Ord.go_light (i := 8) (by kernel_rfl)
                      next => (simp only [la0, la1, la2]; rfl)
                      next => rfl
                      next => (intro w' hSw; obtain ⟨z0, z1⟩ := HZ.out w' hSw; clear hSw; go_simp; first | done | with_reducible rfl)
                      simp only [Act.put, la3, la4, la5]
                      apply Ord.go_light (i := 9) (by kernel_rfl)
                      next => (simp only [la0, la1, la2]; rfl)
                      next => rfl
                      next => (intro w' hSw; obtain ⟨z0, z1⟩ := HZ.out w' hSw; clear hSw; go_simp; first | done | with_reducible rfl)
                      simp only [Act.put, la3, la4, la5]
                      apply Ord.go_light (i := 10) (by kernel_rfl)
                      next => (simp only [la0, la1, la2]; rfl)
                      next => rfl
                      next => (intro w' hSw; obtain ⟨z0, z1⟩ := HZ.out w' hSw; clear hSw; go_simp; first | done | with_reducible rfl)
                      simp only [Act.put, la3, la4, la5]
                      refine Ord.go_one (i := 12) (by kernel_rfl) (by kernel_rfl) ?_
                      apply Ord.go_done1
                      next => (simp only [la0, la1, la2]; rfl)
                      next => rfl
                      intro K hK
                      refine wp_store_row 46 _ _ rfl (wd0.heap.size) _ rfl rfl 46 _ hg (by kernel_rfl) rfl (by simp [Value.oneCell']) ?_
                      refine hK.out _ _ (row_below hb hgs _) (fun hHeld => ?_)
                      have hg := row_has (ys := [.string n.name, .bool n.over, .bool n.abs, .bool n.fin, .slice n.pA n.ps.length n.pc, .int .i64 n.res.k, .int .i64 n.res.lo, .int .i64 n.res.hi, .string n.res.name, .slice n.vA n.vs.length n.vc, .slice n.bA n.body.length n.bc]) hg
                      clear hb
                      have hb := hHeld
                      generalize hX : World.setRow _ _ _ = ws at *
                      clear hX
                      clear hK K
                      refine Ord.go_tail ?_; simp only [List.drop_succ_cons, List.drop_zero]
                      go_wp2_with fail
                      (try refine ⟨rfl, ?_⟩)
                      unfold Aid.Kept
                      refine ⟨wd0.heap.size, ?_⟩
                      all_goals (repeat' apply And.intro)
                      all_goals first | exact hg | exact hgs | exact hb | (simp only [putL, Act.put, la3, la4, la5]; exact ⟨_, _, _, _, _, _, _, _, _, _, _, rfl⟩)
                  rintro e' a' w3 ⟨rfl, g3, v92, v93, v94, v95, v96, v97, v98, v99, v91, v100, v101, rfl, hg3, hgl3, hb3⟩
                  simp only [putL, Act.put, la3, la4, la5]
                  have Nnew3 := Aid.hid hg3
                  clear hg3
                  have hbq3 := hb3
                  have R3_4 := Aid.hid ((R3_2).out.trans (hb3.mono (R3_2).out.size))
                  have R3_5 := Aid.hid ((R3_3).out.trans (hb3.mono (R3_3).out.size))
                  have Kx3 := Aid.hid ((Kx2.out).trans (hb3.mono (Kx2.out).size))
                  have Nx_3 := Aid.hid (Nx_2.out.below hb3 Nx_2.out.lt)
                  have Ny_3 := Aid.hid (Ny_2.out.below hb3 Ny_2.out.lt)
                  have Nm_3 := Aid.hid (Nm_2.out.below hb3 Nm_2.out.lt)
                  clear xm0 lm xx1 lx
                  clear hb3
                  have EA : Hid (Ru.isAbs (Ru.method u i m.name) = n.abs) := Aid.hid (by rw [Ru.isAbs_eq, HN.out])
                  have xnew32 := Nnew3.out.cell 2 _ rfl
                  have lnew3 := Nnew3.out.lt
                  obtain ⟨na, hna⟩ : ∃ x, n.abs = x := ⟨_, rfl⟩
                  rw [hna] at xnew32 EA
                  clear hna
                  cases na
                  · have NX := Aid.hid (no_step NO3.out HM.out (p := fun x => Ru.isAbs (Ru.method u i x.name)) EA.out)
                    go_wp2_with fail
                    go_roundw
                    case rel => exact ⟨l + 1, by go_num, by omega, NX, R3_5⟩
                    case measure => simp [intOf]; omega
                  · obtain rfl : true = r := by rw [← E4.out, any_hit HCC.out (show Ru.absC u i j = true by rw [Ru.absC, Ru.msOf_at HE.out]; exact any_hit HM.out EA.out)]
                    go_wp2_with fail
                    go_ret
                    exact ⟨rfl, Kx3.out⟩
                · have NX := Aid.hid (no_step NO2.out HCC.out (p := Ru.absC u i) (by rw [Ru.absC, Ru.msOf_at HE.out]; exact any_miss (fun j hj => NO3.out j (by omega))))
                  go_wp2_with fail
                  go_roundw
                  case rel => exact ⟨k + 1, by go_num, by omega, NX, R2_1⟩
                  case measure => simp [intOf]; omega
            · obtain rfl : false = r := by rw [← E4.out, any_miss (p := Ru.absC u i) (l := zs) (fun j hj => NO2.out j (by omega))]
              go_wp2_with fail
              go_ret
              exact ⟨rfl, KHC.out⟩
    · go_wp2_with fail
      clear xx0 xx1 xx6 xx7 xx9 lx
      go_loopw [29] (fun vi wi => ∃ k : Nat, vi = .int .i64 k ∧ k ≤ d.ms.length ∧ Hid (∀ j, j < k → ∀ e, d.ms[j]? = some e → Ru.absM d e = false) ∧ Hid (Below w.heap.size w wi)) (fun vi _ => d.ms.length - (intOf vi).toNat)
      case atStart => exact ⟨0, rfl, Nat.zero_le _, Aid.hid (fun j hj => by omega), Aid.hid (Below.refl _ _)⟩
      case round =>
        obtain ⟨k, rfl, hk, NO, HB⟩ := hrel
        obtain ⟨wo, rfl⟩ : ∃ x, x = wr := ⟨_, rfl⟩
        have KHB := Aid.hid (((Below.refl w.heap.size w)).trans (HB.out.mono ((Below.refl w.heap.size w)).size))
        have Nx_HB := Aid.hid (Nx.out.below HB.out Nx.out.lt)
        have Ny_HB := Aid.hid (HXX.out.below HB.out HXX.out.lt)
        by_cases hkl : k < d.ms.length
        · obtain ⟨mb, mo, emA, lmb, hc_m⟩ := (HDK.out.meths.below (KHB.out) hB).at_map (by omega)
          obtain ⟨m, hm⟩ : ∃ x, d.ms[k]? = some x := ⟨_, List.getElem?_eq_getElem hkl⟩
          have HM := Aid.hid hm
          have llm : mb < wo.heap.size := Nat.lt_of_lt_of_le lmb (Nat.le_trans hB (KHB.out).size)
          have c0 := hc_m k m hm 0 _ rfl
          have c1 := hc_m k m hm 1 _ rfl
          have c2 := hc_m k m hm 2 _ rfl
          have c3 := hc_m k m hm 3 _ rfl
          have c4 := hc_m k m hm 4 _ rfl
          have c5 := hc_m k m hm 5 _ rfl
          have c6 := hc_m k m hm 6 _ rfl
          have c7 := hc_m k m hm 7 _ rfl
          have c8 := hc_m k m hm 8 _ rfl
          have c9 := hc_m k m hm 9 _ rfl
          have c10 := hc_m k m hm 10 _ rfl
          simp only [Nat.add_zero] at c0
          clear hc_m hm lmb
          rw [emA]
          obtain ⟨X1, hX⟩ : ∃ X, wo.alloc (.cells #[.string m.name, .bool m.over, .bool m.abs, .bool m.fin, .slice m.pA m.ps.length m.pc, .int .i64 m.res.k, .int .i64 m.res.lo, .int .i64 m.res.hi, .string m.res.name, .slice m.vA m.vs.length m.vc, .slice m.bA m.body.length m.bc] 46) = X := ⟨_, rfl⟩
          have qm := new_at hX
          have qx := all_at hX Nx_HB.out
          have qy := all_at hX Ny_HB.out
          have qqk := below_at hX (KHB.out)
          have qqs := below_at0 hX
          have Nx_1 := Aid.hid qx
          have Ny_1 := Aid.hid qy
          have Nm_1 := Aid.hid qm
          have Kx1 := Aid.hid qqk
          have Qs1 := Aid.hid qqs
          clear qqk qqs qx qy qm
          have xm2 := Nm_1.out.cell 2 _ rfl
          have xm3 := Nm_1.out.cell 3 _ rfl
          have xm6 := Nm_1.out.cell 6 _ rfl
          have xm7 := Nm_1.out.cell 7 _ rfl
          have xm9 := Nm_1.out.cell 9 _ rfl
          have xm10 := Nm_1.out.cell 10 _ rfl
          have lm := Nm_1.out.lt
          have xx6 := Nx_1.out.cell 6 _ rfl
          have lx := Nx_1.out.lt
          have R2_1 := Aid.hid ((HB).out.trans (Qs1.out.mono (HB).out.size))
          go_upto_region 6 with (fail)
          (try clear hX)
          clear c0 c1 c2 c3 c4 c5 c6 c7 c8 c9 c10 llm
          have hb1 := HBL.out m (List.mem_of_getElem? HM.out)
          have hb2 := (HVL.out m (List.mem_of_getElem? HM.out)).2
          have DAA := HDA.out
          clear DAA
          obtain ⟨ma, hma⟩ : ∃ x, m.abs = x := ⟨_, rfl⟩
          obtain ⟨mf, hmf⟩ : ∃ x, m.fin = x := ⟨_, rfl⟩
          have HMA := Aid.hid hma; have HMF := Aid.hid hmf
          rw [hma] at xm2; rw [hmf] at xm3
          clear hma hmf
          cases ma
          · have NX := Aid.hid (no_step NO.out HM.out (p := Ru.absM d) (by simp [Ru.absM, HMA.out]))
            go_wp2_with fail
            go_roundw
            case rel => exact ⟨k + 1, by go_num, by omega, NX, R2_1⟩
            case measure => simp [intOf]; omega
          · cases mf
            · by_cases hs : 0 < m.vs.length + m.body.length
              · have hs1 : decide ((0 : Int) < (m.vs.length : Int) + (m.body.length : Int)) = true := decide_eq_true (by omega)
                obtain rfl : true = r := by rw [← E2.out, if_pos (any_hit HM.out (by simp [Ru.absM, HMA.out]; omega))]
                go_wp2_with fail
                go_ret
                exact ⟨rfl, Kx1.out⟩
              · have hs1 : decide ((0 : Int) < (m.vs.length : Int) + (m.body.length : Int)) = false := decide_eq_false (by omega)
                have HS0 := Aid.hid hs
                clear hs
                have NX := Aid.hid (no_step NO.out HM.out (p := Ru.absM d) (by have hs := HS0.out; simp [Ru.absM, HMA.out, HMF.out, HDA.out]; omega))
                go_wp2_with fail
                go_roundw
                case rel => exact ⟨k + 1, by go_num, by omega, NX, R2_1⟩
                case measure => simp [intOf]; omega
            · obtain rfl : true = r := by rw [← E2.out, if_pos (any_hit HM.out (by simp [Ru.absM, HMA.out, HMF.out]))]
              go_wp2_with fail
              go_ret
              exact ⟨rfl, Kx1.out⟩
        · have E3 : Hid ((if (true : Bool) = true then false else (Tb.chain u i).any (Ru.absC u i)) = r) := Aid.hid (by rw [← E2.out, any_miss (p := Ru.absM d) (l := d.ms) (fun j hj => NO.out j (by omega))]; rfl)
          have xx0 := Nx_HB.out.cell 0 _ rfl
          have xx1 := Nx_HB.out.cell 1 _ rfl
          have xx6 := Nx_HB.out.cell 6 _ rfl
          have xx7 := Nx_HB.out.cell 7 _ rfl
          have xx9 := Nx_HB.out.cell 9 _ rfl
          have lx := Nx_HB.out.lt
          obtain rfl : false = r := E3.out
          go_wp2_with fail
          go_ret
          exact ⟨rfl, KHB.out⟩
end Go.Proofs.YtejifefgmlpclaaGreat
/- What is overridden; what an interface asks: as walks. -/
namespace Go.Proofs.YtejifefgmlpclaaGreat
open Go.RowKit

theorem Tb.chain_first {u : List Dk} {i : Int} (h : Tb.kind u i = 2) : 0 < (Tb.chain u i).length := by
  unfold Tb.chain Tb.chainGo
  rw [if_pos ⟨h, by simp⟩]
  exact List.length_pos_of_mem (Tb.chainGo_mem _ _ _ i (by simp))
theorem ints_snoc {w : World} {base c : Nat} {A : Option Addr} {zs : List Int} {x : Int} (h : w.ownsRow base 3 1 (.slice A (zs.length + 1) c) (zs.length + 1) (zs.map (Value.int .i64) ++ [.int .i64 x])) : IntsAt w w.heap.size A (zs ++ [x]) := by
  have h2 : w.ownsRow base 3 1 (.slice A (zs ++ [x]).length c) (zs ++ [x]).length ((zs ++ [x]).map (Value.int .i64)) := by simpa using h
  exact IntsAt.of_own h2
theorem Ru.above_eq {u : List Dk} {i : Int} {zs : List Int} (h : Tb.chain u i = zs) (h0 : 0 < zs.length) : (zs ++ [-1])[1]? = some (Ru.above u i) := by
  unfold Ru.above; rw [h]
  rw [List.getElem?_eq_getElem (by simp; omega)]; rfl
theorem Ru.overs_eq (u : List Dk) (d : Int) (m : Md) : Ru.overs u d m = (((Ru.method u (Ru.above u d) m.name).isSome != m.over) || ((Ru.method u (Ru.above u d) m.name).isSome && (((Ru.method u (Ru.above u d) m.name).getD Ru.md0).fin || !Ru.alike m ((Ru.method u (Ru.above u d) m.name).getD Ru.md0)))) := by
  unfold Ru.overs
  cases h : Ru.method u (Ru.above u d) m.name with
  | none => cases m.over <;> rfl
  | some n => cases m.over <;> rfl
def Ru.facesM (u : List Dk) (d : Int) (m : Md) : Bool := match Ru.method u d m.name with | some n => !Ru.alike m n | none => true
theorem Ru.facesM_eq (u : List Dk) (d : Int) (m : Md) : Ru.facesM u d m = (!(Ru.method u d m.name).isSome || !Ru.alike m ((Ru.method u d m.name).getD Ru.md0)) := by
  unfold Ru.facesM
  cases h : Ru.method u d m.name <;> rfl
def Ru.facesC (u : List Dk) (d c : Int) : Bool := (Tb.msOf u c).any (Ru.facesM u d)
theorem Ru.faces_eq (u : List Dk) (d : Int) : Ru.faces u d = (Tb.faces u d).any (Ru.facesC u d) := rfl
theorem Ru.method_at2 {u : List Dk} {w : World} {B : Nat} {a : Option Addr} (hu : UnitAt w B a u) {d : Int} {s : ByteArray} {n : Md} (h1 : (Ru.method u d s).getD Ru.md0 = n) (h2 : (Ru.method u d s).isSome = true) : MdAt w B n := by
  obtain ⟨e, he, hn⟩ := Ru.method_in h1 h2
  exact (hu.decls e he).each n hn
theorem MdP.over {w : World} {B : Nat} {m : Md} (h : MdP w B m) (o f : Bool) : MdP w B {m with over := o, fin := f} := ⟨h.1, h.2⟩
theorem MdP.of {w w' : World} {B C : Nat} {m : Md} (h : MdAt w B m) (hb : Below C w w') (hC : B ≤ C) : MdP w' B m := (MdAt.p h).below hb hC
set_option maxRecDepth 100000 in
set_option maxHeartbeats 4000000 in
theorem over_is (u : List Dk) (a : Option Addr) (B cap b i : Nat) (d : Dk) (r : Bool) (w : World) (hr : Ru.over u i d = r) (hk : d.kind = 2) (hx : Aid.Has w b [.slice a u.length cap, .int .i64 (i : Int), .int .i64 d.kind, .string d.name, .string d.base, .slice d.fA d.faces.length d.fc, .bool d.abs, .bool d.fin, .slice d.vA d.vs.length d.vc, .slice d.mA d.ms.length d.mc, .slice d.bA d.body.length d.bc, .int .i64 d.every, .int .i64 d.first] 50) (hd : u[i]? = some d) (hu : UnitAt w B a u) (hB : B ≤ w.heap.size) :
    Calls Tryz.prog 37 #[.pointer (some ⟨b, 0, none⟩)] w fun z w' => z = .returned (.bool r) ∧ Below w.heap.size w w' := by
  obtain ⟨zs, hzs⟩ : ∃ zs, Tb.chain u i = zs := ⟨_, rfl⟩
  have hk2 : Tb.kind u (i : Int) = 2 := by rw [Tb.kind, if_pos (by omega)]; simp [hd, hk]
  have hz1 := Tb.chain_first hk2
  have hzl : zs.length ≤ 1000000000 := by rw [← hzs]; have := Tb.chain_len u i; have := hu.small; omega
  rw [hzs] at hz1
  have HAB := Aid.hid (Ru.above_eq hzs hz1)
  have HZS := Aid.hid hzs
  have HR := Aid.hid hr
  have HKK := Aid.hid hk
  clear hk
  have hmem := List.mem_of_getElem? hd
  have HDK := Aid.hid (hu.decls d hmem)
  have smM := HDK.out.smallM; have smV := HDK.out.smallV; have smF := HDK.out.smallF
  have HU := Aid.hid hu; have HX := Aid.hid hx; have HD := Aid.hid hd
  have sm := hu.small
  have hil : i < u.length := (List.getElem?_eq_some_iff.1 hd).1
  clear hr hmem hzs hk2 hu hx hd
  go_enter Tryz.func37, Tryz.ntmps37
  try simp only [List.append_eq, List.cons_append, List.nil_append]
  have Nx := Aid.hid (HX.out.below ((Below.refl w.heap.size w)) HX.out.lt)
  have xx0 := Nx.out.cell 0 _ rfl
  have xx1 := Nx.out.cell 1 _ rfl
  have xx9 := Nx.out.cell 9 _ rfl
  have lx := Nx.out.lt
  go_wp2_with fail
  obtain ⟨i0, hi, hz0, hz1, hz2⟩ := info_parts info_int
  refine wp_cut (fun a0 e a' w' => e = .normal ∧ Aid.Kept (∃ (A9 c9 : Nat) (v8 v9 v10 v11 v12 v13 v14 v15 v16 v17 : Value), a' = putL a0 [(8, v8), (9, v9), (10, v10), (11, v11), (12, v12), (13, v13), (14, v14), (15, v15), (16, v16), (17, v17), (18, .slice (some ⟨A9, 0, none⟩) (zs.length + 1) c9), (3, .slice (some ⟨A9, 0, none⟩) (zs.length + 1) c9)] ∧ Hid (IntsAt w' w'.heap.size (some ⟨A9, 0, none⟩) (zs ++ [-1])) ∧ Below w.heap.size w w')) ?_ ?_
  · have HZ := Aid.hid (fun (w' : World) (hSw : Below w.heap.size w w') => (⟨(hSw.cell (p := ⟨b, 0, none⟩) lx).trans xx0, (hSw.cell (p := ⟨b, 1, none⟩) lx).trans xx1, (hSw.cell (p := ⟨b, 9, none⟩) lx).trans xx9⟩ : _ ∧ _ ∧ _))
    have hb : Below w.heap.size w w.drew := (Below.refl _ _).drew
    refine Ord.wp_region_go (fun w' => Below w.heap.size w w') 10 [0, 1, 2, 3, 4, 5, 6, 7] (by kernel_rfl) (by kernel_rfl) (fun _ _ _ _ _ h => by cases h.1) (hb) ?_
    clear hb
    have hb : Below w.heap.size w w.drew := (Below.refl _ _).drew
    generalize w.drew = wd0 at *
    apply Ord.go_light (i := 0) (by kernel_rfl)
    next => (simp only [la0, la1, la2]; rfl)
    next => rfl
    next => (intro w' hSw; obtain ⟨z0, z1, z2⟩ := HZ.out w' hSw; clear hSw; go_simp; first | done | with_reducible rfl)
    simp only [Act.put, la3, la4, la5]
    apply Ord.go_light (i := 1) (by kernel_rfl)
    next => (simp only [la0, la1, la2]; rfl)
    next => rfl
    next => (intro w' hSw; obtain ⟨z0, z1, z2⟩ := HZ.out w' hSw; clear hSw; go_simp; first | done | with_reducible rfl)
    simp only [Act.put, la3, la4, la5]
    apply Ord.go_light (i := 2) (by kernel_rfl)
    next => (simp only [la0, la1, la2]; rfl)
    next => rfl
    next => (intro w' hSw; obtain ⟨z0, z1, z2⟩ := HZ.out w' hSw; clear hSw; go_simp; first | done | with_reducible rfl)
    simp only [Act.put, la3, la4, la5]
    apply Ord.go_light (i := 3) (by kernel_rfl)
    next => (simp only [la0, la1, la2]; rfl)
    next => rfl
    next => (intro w' hSw; obtain ⟨z0, z1, z2⟩ := HZ.out w' hSw; clear hSw; go_simp; first | done | with_reducible rfl)
    simp only [Act.put, la3, la4, la5]
    apply Ord.go_light (i := 4) (by kernel_rfl)
    next => (simp only [la0, la1, la2]; rfl)
    next => rfl
    next => (intro w' hSw; obtain ⟨z0, z1, z2⟩ := HZ.out w' hSw; clear hSw; go_simp; first | done | with_reducible rfl)
    simp only [Act.put, la3, la4, la5]
    apply Ord.go_light (i := 5) (by kernel_rfl)
    next => (simp only [la0, la1, la2]; rfl)
    next => rfl
    next => (intro w' hSw; obtain ⟨z0, z1, z2⟩ := HZ.out w' hSw; clear hSw; go_simp; first | done | with_reducible rfl)
    simp only [Act.put, la3, la4, la5]
    apply Ord.go_light (i := 6) (by kernel_rfl)
    next => (simp only [la0, la1, la2]; rfl)
    next => rfl
    next => (intro w' hSw; obtain ⟨z0, z1, z2⟩ := HZ.out w' hSw; clear hSw; go_simp; first | done | with_reducible rfl)
    simp only [Act.put, la3, la4, la5]
    apply Ord.go_light (i := 7) (by kernel_rfl)
    next => (simp only [la0, la1, la2]; rfl)
    next => rfl
    next => (intro w' hSw; obtain ⟨z0, z1, z2⟩ := HZ.out w' hSw; clear hSw; go_simp; first | done | with_reducible rfl)
    simp only [Act.put, la3, la4, la5]
    refine Ord.go_two (i := 8) (j := 9) (by kernel_rfl) (by kernel_rfl) ?_ ?_
    ·
      apply Ord.go_done1
      next => (simp only [la0, la1, la2]; rfl)
      next => rfl
      intro K hK
      go_wp2_with fail
      refine (chain_is u _ B cap (i : Int) zs _ HZS.out (HU.out.below ((((Below.refl w.heap.size w)).trans (hb.mono ((Below.refl w.heap.size w)).size))) hB) (Nat.le_trans hB ((((Below.refl w.heap.size w)).trans (hb.mono ((Below.refl w.heap.size w)).size))).size)).mono ?_; rintro _ vc ⟨A1, c1, rfl, hown, hb'⟩; dsimp only
      refine hK.out _ _ (hb.trans (hb'.mono hb.size)) (fun hHeld => ?_)
      have HO := Aid.hid (own_lowers hown hb.size)
      clear hb hb' hown
      have hb := hHeld
      clear hK K
      try simp only [Act.put, la3, la4, la5]
      refine Ord.go_one (i := 9) (by kernel_rfl) (by kernel_rfl) ?_
      apply Ord.go_done1
      next => (simp only [la0, la1, la2]; rfl)
      next => rfl
      intro K hK
      go_wp2_with fail
      have hg := Aid.Has.new vc [.int .i64 (-1)] 3
      refine hK.out _ _ (hb.alloc hb.size _) (fun hHeld => ?_)
      replace HO := Aid.hid (HO.out.alloc (.cells #[.int .i64 (-1)] 3))
      clear hb
      have hb := hHeld
      generalize hX : vc.alloc _ = wx at *
      clear hX
      clear hK K
      try simp only [Act.put, la3, la4, la5]
      refine Ord.go_tail ?_; simp only [List.drop_succ_cons, List.drop_zero]
      go_wp2_with (at_builtin; refine wpList_append_own _ rfl _ _ 62 rfl w.heap.size 3 i0 (.int .i64 0) 1 8 Tryz.underlying62 hi hz0 hz1 hz2 rfl (by decide) _ _ _ rfl HO.out ⟨vc.heap.size, 0, none⟩ 1 1 [.int .i64 (-1)] rfl rfl ?c1 ?c2 ?c3 ?c4 ?c5 ?_)
      case c1 =>
        intro j q hj
        match j, hj with
        | 0, hj => simp at hj; subst hj; exact hg.cell 0 _ rfl
      case c2 => intro q hq; simp at hq; subst hq; rfl
      case c3 => unfold maxLen; omega
      case c4 => omega
      case c5 => exact hb.size
      · intro v' w3 hown' hgrow _
        have hb3 := hb.grown hgrow (by have := hb.size; omega) (fun q hq => by have := (HO.out.lt q hq).1; omega)
        obtain ⟨g9, c9, rfl, _, _⟩ := hown'.form (by omega)
        have hI9 := Aid.hid (ints_snoc hown')
        go_wp2_with fail
        (try refine ⟨rfl, ?_⟩)
        unfold Aid.Kept
        refine ⟨g9, ?_, hI9⟩
        simp only [putL, Act.put, la3, la4, la5]
        exact ⟨c9, _, _, _, _, _, _, _, _, _, _, rfl⟩
    ·
      apply Ord.go_done1
      next => (simp only [la0, la1, la2]; rfl)
      next => rfl
      intro K hK
      go_wp2_with fail
      have hg := Aid.Has.new wd0 [.int .i64 (-1)] 3
      refine hK.out _ _ (hb.alloc hb.size _) (fun hHeld => ?_)
      clear hb
      have hb := hHeld
      generalize hX : wd0.alloc _ = wx at *
      clear hX
      clear hK K
      try simp only [Act.put, la3, la4, la5]
      refine Ord.go_one (i := 8) (by kernel_rfl) (by kernel_rfl) ?_
      apply Ord.go_done1
      next => (simp only [la0, la1, la2]; rfl)
      next => rfl
      intro K hK
      go_wp2_with fail
      refine (chain_is u _ B cap (i : Int) zs _ HZS.out (HU.out.below ((((Below.refl w.heap.size w)).trans (hb.mono ((Below.refl w.heap.size w)).size))) hB) (Nat.le_trans hB ((((Below.refl w.heap.size w)).trans (hb.mono ((Below.refl w.heap.size w)).size))).size)).mono ?_; rintro _ vc ⟨A1, c1, rfl, hown, hb'⟩; dsimp only
      refine hK.out _ _ (hb.trans (hb'.mono hb.size)) (fun hHeld => ?_)
      have HO := Aid.hid (own_lowers hown hb.size)
      replace hg := hg.below hb' hg.lt
      clear hb hb' hown
      have hb := hHeld
      clear hK K
      try simp only [Act.put, la3, la4, la5]
      refine Ord.go_tail ?_; simp only [List.drop_succ_cons, List.drop_zero]
      go_wp2_with (at_builtin; refine wpList_append_own _ rfl _ _ 62 rfl w.heap.size 3 i0 (.int .i64 0) 1 8 Tryz.underlying62 hi hz0 hz1 hz2 rfl (by decide) _ _ _ rfl HO.out ⟨wd0.heap.size, 0, none⟩ 1 1 [.int .i64 (-1)] rfl rfl ?c1 ?c2 ?c3 ?c4 ?c5 ?_)
      case c1 =>
        intro j q hj
        match j, hj with
        | 0, hj => simp at hj; subst hj; exact hg.cell 0 _ rfl
      case c2 => intro q hq; simp at hq; subst hq; rfl
      case c3 => unfold maxLen; omega
      case c4 => omega
      case c5 => exact hb.size
      · intro v' w3 hown' hgrow _
        have hb3 := hb.grown hgrow (by have := hb.size; omega) (fun q hq => by have := (HO.out.lt q hq).1; omega)
        obtain ⟨g9, c9, rfl, _, _⟩ := hown'.form (by omega)
        have hI9 := Aid.hid (ints_snoc hown')
        go_wp2_with fail
        (try refine ⟨rfl, ?_⟩)
        unfold Aid.Kept
        refine ⟨g9, ?_, hI9⟩
        simp only [putL, Act.put, la3, la4, la5]
        exact ⟨c9, _, _, _, _, _, _, _, _, _, _, rfl⟩
  rintro e' a' w1 ⟨rfl, A9, c9, v8, v9, v10, v11, v12, v13, v14, v15, v16, v17, rfl, hI, hb1⟩
  simp only [putL, Act.put, la3, la4, la5]
  have HI := hI
  clear hI hi hz0 hz1 hz2
  have Kx1 := Aid.hid (((Below.refl w.heap.size w)).trans (hb1.mono ((Below.refl w.heap.size w)).size))
  have Nx_1 := Aid.hid (Nx.out.below hb1 Nx.out.lt)
  clear xx0 xx1 xx9 lx
  clear hb1
  have xx9 := Nx_1.out.cell 9 _ rfl
  have lx := Nx_1.out.lt
  go_wp2_with fail
  clear xx9 lx
  go_loopw [25] (fun vi wi => ∃ k : Nat, vi = .int .i64 k ∧ k ≤ d.ms.length ∧ Hid (∀ j, j < k → ∀ e, d.ms[j]? = some e → Ru.overs u i e = false) ∧ Hid (Below w1.heap.size w1 wi)) (fun vi _ => d.ms.length - (intOf vi).toNat)
  case atStart => exact ⟨0, rfl, Nat.zero_le _, Aid.hid (fun j hj => by omega), Aid.hid (Below.refl _ _)⟩
  case round =>
    obtain ⟨k, rfl, hk, NO, HB⟩ := hrel
    obtain ⟨wo, rfl⟩ : ∃ x, x = wr := ⟨_, rfl⟩
    have KHB := Aid.hid ((Kx1.out).trans (HB.out.mono (Kx1.out).size))
    have Nx_HB := Aid.hid (Nx_1.out.below HB.out Nx_1.out.lt)
    by_cases hkl : k < d.ms.length
    · obtain ⟨mb, mo, emA, lmb, hc_m⟩ := (HDK.out.meths.below (KHB.out) hB).at_map (by omega)
      obtain ⟨m, hm⟩ : ∃ x, d.ms[k]? = some x := ⟨_, List.getElem?_eq_getElem hkl⟩
      have HM := Aid.hid hm
      have llm : mb < wo.heap.size := Nat.lt_of_lt_of_le lmb (Nat.le_trans hB (KHB.out).size)
      have c0 := hc_m k m hm 0 _ rfl
      have c1 := hc_m k m hm 1 _ rfl
      have c2 := hc_m k m hm 2 _ rfl
      have c3 := hc_m k m hm 3 _ rfl
      have c4 := hc_m k m hm 4 _ rfl
      have c5 := hc_m k m hm 5 _ rfl
      have c6 := hc_m k m hm 6 _ rfl
      have c7 := hc_m k m hm 7 _ rfl
      have c8 := hc_m k m hm 8 _ rfl
      have c9 := hc_m k m hm 9 _ rfl
      have c10 := hc_m k m hm 10 _ rfl
      simp only [Nat.add_zero] at c0
      clear hc_m hm lmb
      rw [emA]
      obtain ⟨ad, had, hadb, hcell⟩ := HI.out.at_ (k := 1) (by simp; omega)
      obtain rfl : ad = ⟨A9, 0, none⟩ := by simpa using had.symm
      have HC1 := Aid.hid ((HB.out.cell (p := (⟨A9, 0, none⟩ : Addr).add 1) (by unfold Addr.add; split <;> exact hadb)).trans (hcell 1 _ HAB.out))
      have HLA := Aid.hid (Nat.lt_of_lt_of_le hadb HB.out.size)
      clear had hadb hcell
      obtain ⟨X2, hX⟩ : ∃ X, wo.alloc (.cells #[.string m.name, .bool m.over, .bool m.abs, .bool m.fin, .slice m.pA m.ps.length m.pc, .int .i64 m.res.k, .int .i64 m.res.lo, .int .i64 m.res.hi, .string m.res.name, .slice m.vA m.vs.length m.vc, .slice m.bA m.body.length m.bc] 46) = X := ⟨_, rfl⟩
      have qm := new_at hX
      have qx := all_at hX Nx_HB.out
      have qqk := below_at hX (KHB.out)
      have qqs := below_at0 hX
      have Nx_2 := Aid.hid qx
      have Nm_2 := Aid.hid qm
      have Kx2 := Aid.hid qqk
      have Qs2 := Aid.hid qqs
      clear qqk qqs qx qm
      have xm0 := Nm_2.out.cell 0 _ rfl
      have lm := Nm_2.out.lt
      have R3_1 := Aid.hid ((HB).out.trans (Qs2.out.mono (HB).out.size))
      have cab := (Qs2.out.cell (p := (⟨A9, 0, none⟩ : Addr).add 1) (by unfold Addr.add; split <;> exact HLA.out)).trans HC1.out
      have lab : A9 < X2.heap.size := Nat.lt_of_lt_of_le HLA.out Qs2.out.size
      have e19 : (⟨A9, 0, none⟩ : Addr).add 1 = ⟨A9, 1, none⟩ := rfl
      rw [e19] at cab
      clear e19
      have hz19 : (1 : Int) < (zs.length : Int) + 1 := by omega
      obtain ⟨ab, hab⟩ : ∃ x, Ru.above u i = x := ⟨_, rfl⟩
      have HABE := Aid.hid hab
      rw [hab] at cab
      clear hab
      go_wp2_with fail
      (try clear hX)
      clear c0 c1 c2 c3 c4 c5 c6 c7 c8 c9 c10 llm
      obtain ⟨n, hn⟩ : ∃ n, (Ru.method u ab m.name).getD Ru.md0 = n := ⟨_, rfl⟩
      obtain ⟨ok, hok⟩ : ∃ x, (Ru.method u ab m.name).isSome = x := ⟨_, rfl⟩
      have HN := Aid.hid hn; have HOK := Aid.hid hok
      clear hn hok
      refine wp_cut (fun a0 e a' w' => e = .normal ∧ Aid.Kept (∃ (g : Nat) (v30 v31 v32 v33 v34 v35 v36 v29 v37 v38 : Value), a' = putL a0 [(30, v30), (31, v31), (32, v32), (33, v33), (34, v34), (35, v35), (36, v36), (29, v29), (37, v37), (38, v38), (6, .pointer (some ⟨g, 0, none⟩)), (7, .bool ok)] ∧ Aid.Has w' g [.string n.name, .bool n.over, .bool n.abs, .bool n.fin, .slice n.pA n.ps.length n.pc, .int .i64 n.res.k, .int .i64 n.res.lo, .int .i64 n.res.hi, .string n.res.name, .slice n.vA n.vs.length n.vc, .slice n.bA n.body.length n.bc] 46 ∧ X2.heap.size ≤ g ∧ Below X2.heap.size X2 w')) ?_ ?_
      · have HZ := Aid.hid (fun (w' : World) (hSw : Below X2.heap.size X2 w') => (⟨(hSw.cell (p := ⟨wo.heap.size, 0, none⟩) lm).trans xm0, (hSw.cell (p := ⟨A9, 1, none⟩) lab).trans cab⟩ : _ ∧ _))
        have hb : Below X2.heap.size X2 X2.drew := (Below.refl _ _).drew
        refine Ord.wp_region_go (fun w' => Below X2.heap.size X2 w') 12 [0, 1, 2, 3, 4, 5, 7, 8, 9] (by kernel_rfl) (by kernel_rfl) (fun _ _ _ _ _ h => by cases h.1) (hb) ?_
        clear hb
        have hb : Below X2.heap.size X2 X2.drew := (Below.refl _ _).drew
        generalize X2.drew = wd0 at *
        apply Ord.go_light (i := 0) (by kernel_rfl)
        next => (simp only [la0, la1, la2]; rfl)
        next => rfl
        next => (intro w' hSw; obtain ⟨z0, z1⟩ := HZ.out w' hSw; clear hSw; go_simp; first | done | with_reducible rfl)
        simp only [Act.put, la3, la4, la5]
        apply Ord.go_light (i := 1) (by kernel_rfl)
        next => (simp only [la0, la1, la2]; rfl)
        next => rfl
        next => (intro w' hSw; obtain ⟨z0, z1⟩ := HZ.out w' hSw; clear hSw; go_simp; first | done | with_reducible rfl)
        simp only [Act.put, la3, la4, la5]
        apply Ord.go_light (i := 2) (by kernel_rfl)
        next => (simp only [la0, la1, la2]; rfl)
        next => rfl
        next => (intro w' hSw; obtain ⟨z0, z1⟩ := HZ.out w' hSw; clear hSw; go_simp; first | done | with_reducible rfl)
        simp only [Act.put, la3, la4, la5]
        apply Ord.go_light (i := 3) (by kernel_rfl)
        next => (simp only [la0, la1, la2]; rfl)
        next => rfl
        next => (intro w' hSw; obtain ⟨z0, z1⟩ := HZ.out w' hSw; clear hSw; go_simp; first | done | with_reducible rfl)
        simp only [Act.put, la3, la4, la5]
        apply Ord.go_light (i := 4) (by kernel_rfl)
        next => (simp only [la0, la1, la2]; rfl)
        next => rfl
        next => (intro w' hSw; obtain ⟨z0, z1⟩ := HZ.out w' hSw; clear hSw; go_simp; first | done | with_reducible rfl)
        simp only [Act.put, la3, la4, la5]
        apply Ord.go_light (i := 5) (by kernel_rfl)
        next => (simp only [la0, la1, la2]; rfl)
        next => rfl
        next => (intro w' hSw; obtain ⟨z0, z1⟩ := HZ.out w' hSw; clear hSw; go_simp; first | done | with_reducible rfl)
        simp only [Act.put, la3, la4, la5]
        refine Ord.go_two (i := 6) (j := 10) (by kernel_rfl) (by kernel_rfl) ?_ ?_
        ·
          apply Ord.go_done1
          next => (simp only [la0, la1, la2]; rfl)
          next => rfl
          intro K hK
          go_wp2_with fail
          refine (rmethod_n u _ B cap b i d ab m.name n ok _ HN.out HOK.out (Nx_2.out.below hb Nx_2.out.lt) HD.out (HU.out.below (((Kx2.out).trans (hb.mono (Kx2.out).size))) hB) (Nat.le_trans hB (((Kx2.out).trans (hb.mono (Kx2.out).size))).size)).mono ?_; rintro _ vc ⟨rfl, hb'⟩; dsimp only
          refine hK.out _ _ (hb.trans (hb'.mono hb.size)) (fun hHeld => ?_)
          clear hb hb'
          have hb := hHeld
          clear hK K
          try simp only [Act.put, la3, la4, la5]
          apply Ord.go_light (i := 7) (by kernel_rfl)
          next => (simp only [la0, la1, la2]; rfl)
          next => rfl
          next => (intro w' hSw; obtain ⟨z0, z1⟩ := HZ.out w' hSw; clear hSw; go_simp; first | done | with_reducible rfl)
          simp only [Act.put, la3, la4, la5]
          apply Ord.go_light (i := 8) (by kernel_rfl)
          next => (simp only [la0, la1, la2]; rfl)
          next => rfl
          next => (intro w' hSw; obtain ⟨z0, z1⟩ := HZ.out w' hSw; clear hSw; go_simp; first | done | with_reducible rfl)
          simp only [Act.put, la3, la4, la5]
          apply Ord.go_light (i := 9) (by kernel_rfl)
          next => (simp only [la0, la1, la2]; rfl)
          next => rfl
          next => (intro w' hSw; obtain ⟨z0, z1⟩ := HZ.out w' hSw; clear hSw; go_simp; first | done | with_reducible rfl)
          simp only [Act.put, la3, la4, la5]
          refine Ord.go_one (i := 10) (by kernel_rfl) (by kernel_rfl) ?_
          apply Ord.go_done1
          next => (simp only [la0, la1, la2]; rfl)
          next => rfl
          intro K hK
          go_wp2_with fail
          have hg := Aid.Has.new vc [.string ⟨#[]⟩, .bool false, .bool false, .bool false, .slice none 0 0, .int .i64 0, .int .i64 0, .int .i64 0, .string ⟨#[]⟩, .slice none 0 0, .slice none 0 0] 46
          have hgs := hb.size
          refine hK.out _ _ (hb.alloc hb.size _) (fun hHeld => ?_)
          clear hb
          have hb := hHeld
          generalize hX : vc.alloc _ = wx at *
          clear hX
          clear hK K
          try simp only [Act.put, la3, la4, la5]
          refine Ord.go_one (i := 11) (by kernel_rfl) (by kernel_rfl) ?_
          apply Ord.go_done1
          next => (simp only [la0, la1, la2]; rfl)
          next => rfl
          intro K hK
          refine wp_store_row 46 _ _ rfl (vc.heap.size) _ rfl rfl 46 _ hg (by kernel_rfl) rfl (by simp [Value.oneCell']) ?_
          refine hK.out _ _ (row_below hb hgs _) (fun hHeld => ?_)
          have hg := row_has (ys := [.string n.name, .bool n.over, .bool n.abs, .bool n.fin, .slice n.pA n.ps.length n.pc, .int .i64 n.res.k, .int .i64 n.res.lo, .int .i64 n.res.hi, .string n.res.name, .slice n.vA n.vs.length n.vc, .slice n.bA n.body.length n.bc]) hg
          clear hb
          have hb := hHeld
          generalize hX : World.setRow _ _ _ = ws at *
          clear hX
          clear hK K
          refine Ord.go_tail ?_; simp only [List.drop_succ_cons, List.drop_zero]
          go_wp2_with fail
          (try refine ⟨rfl, ?_⟩)
          unfold Aid.Kept
          refine ⟨vc.heap.size, ?_⟩
          all_goals (repeat' apply And.intro)
          all_goals first | exact hg | exact hgs | exact hb | (simp only [putL, Act.put, la3, la4, la5]; exact ⟨_, _, _, _, _, _, _, _, _, _, rfl⟩)
        ·
          apply Ord.go_done1
          next => (simp only [la0, la1, la2]; rfl)
          next => rfl
          intro K hK
          go_wp2_with fail
          have hg := Aid.Has.new wd0 [.string ⟨#[]⟩, .bool false, .bool false, .bool false, .slice none 0 0, .int .i64 0, .int .i64 0, .int .i64 0, .string ⟨#[]⟩, .slice none 0 0, .slice none 0 0] 46
          have hgs := hb.size
          refine hK.out _ _ (hb.alloc hb.size _) (fun hHeld => ?_)
          clear hb
          have hb := hHeld
          generalize hX : wd0.alloc _ = wx at *
          clear hX
          clear hK K
          try simp only [Act.put, la3, la4, la5]
          refine Ord.go_one (i := 6) (by kernel_rfl) (by kernel_rfl) ?_
          apply Ord.go_done1
          next => (simp only [la0, la1, la2]; rfl)
          next => rfl
          intro K hK
          go_wp2_with fail
          refine (rmethod_n u _ B cap b i d ab m.name n ok _ HN.out HOK.out (Nx_2.out.below hb Nx_2.out.lt) HD.out (HU.out.below (((Kx2.out).trans (hb.mono (Kx2.out).size))) hB) (Nat.le_trans hB (((Kx2.out).trans (hb.mono (Kx2.out).size))).size)).mono ?_; rintro _ vc ⟨rfl, hb'⟩; dsimp only
          refine hK.out _ _ (hb.trans (hb'.mono hb.size)) (fun hHeld => ?_)
          have hg := hg.below hb' hg.lt
          clear hb hb'
          have hb := hHeld
          clear hK K
          try simp only [Act.put, la3, la4, la5]
          apply Ord.go_light (i := 7) (by kernel_rfl)
          next => (simp only [la0, la1, la2]; rfl)
          next => rfl
          next => (intro w' hSw; obtain ⟨z0, z1⟩ := HZ.out w' hSw; clear hSw; go_simp; first | done | with_reducible rfl)
          simp only [Act.put, la3, la4, la5]
          apply Ord.go_light (i := 8) (by kernel_rfl)
          next => (simp only [la0, la1, la2]; rfl)
          next => rfl
          next => (intro w' hSw; obtain ⟨z0, z1⟩ := HZ.out w' hSw; clear hSw; go_simp; first | done | with_reducible rfl)
          simp only [Act.put, la3, la4, la5]
          apply Ord.go_light (i := 9) (by kernel_rfl)
          next => (simp only [la0, la1, la2]; rfl)
          next => rfl
          next => (intro w' hSw; obtain ⟨z0, z1⟩ := HZ.out w' hSw; clear hSw; go_simp; first | done | with_reducible rfl)
          simp only [Act.put, la3, la4, la5]
          refine Ord.go_one (i := 11) (by kernel_rfl) (by kernel_rfl) ?_
          apply Ord.go_done1
          next => (simp only [la0, la1, la2]; rfl)
          next => rfl
          intro K hK
          refine wp_store_row 46 _ _ rfl (wd0.heap.size) _ rfl rfl 46 _ hg (by kernel_rfl) rfl (by simp [Value.oneCell']) ?_
          refine hK.out _ _ (row_below hb hgs _) (fun hHeld => ?_)
          have hg := row_has (ys := [.string n.name, .bool n.over, .bool n.abs, .bool n.fin, .slice n.pA n.ps.length n.pc, .int .i64 n.res.k, .int .i64 n.res.lo, .int .i64 n.res.hi, .string n.res.name, .slice n.vA n.vs.length n.vc, .slice n.bA n.body.length n.bc]) hg
          clear hb
          have hb := hHeld
          generalize hX : World.setRow _ _ _ = ws at *
          clear hX
          clear hK K
          refine Ord.go_tail ?_; simp only [List.drop_succ_cons, List.drop_zero]
          go_wp2_with fail
          (try refine ⟨rfl, ?_⟩)
          unfold Aid.Kept
          refine ⟨wd0.heap.size, ?_⟩
          all_goals (repeat' apply And.intro)
          all_goals first | exact hg | exact hgs | exact hb | (simp only [putL, Act.put, la3, la4, la5]; exact ⟨_, _, _, _, _, _, _, _, _, _, rfl⟩)
      rintro e' a' w3 ⟨rfl, g3, v30, v31, v32, v33, v34, v35, v36, v29, v37, v38, rfl, hg3, hgl3, hb3⟩
      simp only [putL, Act.put, la3, la4, la5]
      have Nnew3 := Aid.hid hg3
      clear hg3
      have hbq3 := hb3
      have R3_2 := Aid.hid ((R3_1).out.trans (hb3.mono (R3_1).out.size))
      have Kx3 := Aid.hid ((Kx2.out).trans (hb3.mono (Kx2.out).size))
      have Nx_3 := Aid.hid (Nx_2.out.below hb3 Nx_2.out.lt)
      have Nm_3 := Aid.hid (Nm_2.out.below hb3 Nm_2.out.lt)
      clear xm0 lm cab lab
      clear hb3
      have EO : Hid (Ru.overs u i m = ((ok != m.over) || (ok && (n.fin || !Ru.alike m n)))) := Aid.hid (by rw [Ru.overs_eq, HABE.out, HN.out, HOK.out])
      have xm0 := Nm_3.out.cell 0 _ rfl
      have xm1 := Nm_3.out.cell 1 _ rfl
      have xm2 := Nm_3.out.cell 2 _ rfl
      have xm3 := Nm_3.out.cell 3 _ rfl
      have xm4 := Nm_3.out.cell 4 _ rfl
      have xm5 := Nm_3.out.cell 5 _ rfl
      have xm6 := Nm_3.out.cell 6 _ rfl
      have xm7 := Nm_3.out.cell 7 _ rfl
      have xm8 := Nm_3.out.cell 8 _ rfl
      have xm9 := Nm_3.out.cell 9 _ rfl
      have xm10 := Nm_3.out.cell 10 _ rfl
      have lm := Nm_3.out.lt
      have xnew30 := Nnew3.out.cell 0 _ rfl
      have xnew31 := Nnew3.out.cell 1 _ rfl
      have xnew32 := Nnew3.out.cell 2 _ rfl
      have xnew33 := Nnew3.out.cell 3 _ rfl
      have xnew34 := Nnew3.out.cell 4 _ rfl
      have xnew35 := Nnew3.out.cell 5 _ rfl
      have xnew36 := Nnew3.out.cell 6 _ rfl
      have xnew37 := Nnew3.out.cell 7 _ rfl
      have xnew38 := Nnew3.out.cell 8 _ rfl
      have xnew39 := Nnew3.out.cell 9 _ rfl
      have xnew310 := Nnew3.out.cell 10 _ rfl
      have lnew3 := Nnew3.out.lt
      obtain ⟨mo_, hmo⟩ : ∃ x, m.over = x := ⟨_, rfl⟩
      have HMO := Aid.hid hmo
      rw [hmo] at xm1 EO
      obtain ⟨nf, hnf⟩ : ∃ x, n.fin = x := ⟨_, rfl⟩
      have HNF := Aid.hid hnf
      rw [hnf] at xnew33 EO
      clear hmo hnf
      cases ok
      · cases mo_
        · have NX := Aid.hid (no_step NO.out HM.out (p := Ru.overs u i) (by rw [EO.out]; rfl))
          go_wp2_with fail
          go_roundw
          case rel => exact ⟨k + 1, by go_num, by omega, NX, R3_2⟩
          case measure => simp [intOf]; omega
        · obtain rfl : true = r := by rw [← HR.out, Ru.over, any_hit HM.out (by rw [EO.out]; rfl)]
          go_wp2_with fail
          go_ret
          exact ⟨rfl, Kx3.out⟩
      · cases mo_
        · obtain rfl : true = r := by rw [← HR.out, Ru.over, any_hit HM.out (by rw [EO.out]; rfl)]
          go_wp2_with fail
          go_ret
          exact ⟨rfl, Kx3.out⟩
        · cases nf
          · obtain ⟨q, hq⟩ : ∃ q, Ru.alike m n = q := ⟨_, rfl⟩
            have HQA := Aid.hid hq
            rw [hq] at EO
            have HMK := Aid.hid (HDK.out.each m (List.mem_of_getElem? HM.out))
            have HNK := Aid.hid (Ru.method_at2 HU.out HN.out HOK.out)
            clear hq
            go_wp2_with fail
            refine (alike_is {m with over := true} {n with fin := false} q _ HQA.out B B ((MdP.of HMK.out (Kx3.out) hB).over true m.fin) ((MdP.of HNK.out (Kx3.out) hB).over n.over false) (Nat.le_trans hB (Kx3.out).size) (Nat.le_trans hB (Kx3.out).size)).mono ?_; rintro _ w4 ⟨rfl, hb4⟩
            have R4_3 := Aid.hid ((R3_2).out.trans (hb4.mono (R3_2).out.size))
            have Kx4 := Aid.hid ((Kx3.out).trans (hb4.mono (Kx3.out).size))
            have Nx_4 := Aid.hid (Nx_3.out.below hb4 Nx_3.out.lt)
            have Nm_4 := Aid.hid (Nm_3.out.below hb4 Nm_3.out.lt)
            have Nnew3_4 := Aid.hid (Nnew3.out.below hb4 Nnew3.out.lt)
            clear xm0 xm1 xm2 xm3 xm4 xm5 xm6 xm7 xm8 xm9 xm10 lm xnew30 xnew31 xnew32 xnew33 xnew34 xnew35 xnew36 xnew37 xnew38 xnew39 xnew310 lnew3
            clear hb4
            cases q
            · obtain rfl : true = r := by rw [← HR.out, Ru.over, any_hit HM.out (by rw [EO.out]; rfl)]
              go_wp2_with fail
              go_ret
              exact ⟨rfl, Kx4.out⟩
            · have NX := Aid.hid (no_step NO.out HM.out (p := Ru.overs u i) (by rw [EO.out]; rfl))
              go_wp2_with fail
              go_roundw
              case rel => exact ⟨k + 1, by go_num, by omega, NX, R4_3⟩
              case measure => simp [intOf]; omega
          · obtain rfl : true = r := by rw [← HR.out, Ru.over, any_hit HM.out (by rw [EO.out]; rfl)]
            go_wp2_with fail
            go_ret
            exact ⟨rfl, Kx3.out⟩
    · obtain rfl : false = r := by rw [← HR.out, Ru.over, any_miss (p := Ru.overs u i) (l := d.ms) (fun j hj => NO.out j (by omega))]
      go_wp2_with fail
      go_ret
      exact ⟨rfl, KHB.out⟩
set_option maxRecDepth 100000 in
set_option maxHeartbeats 4000000 in
theorem rfaces_is (u : List Dk) (a : Option Addr) (B cap b i : Nat) (d : Dk) (r : Bool) (w : World) (hr : Ru.faces u i = r) (hx : Aid.Has w b [.slice a u.length cap, .int .i64 (i : Int), .int .i64 d.kind, .string d.name, .string d.base, .slice d.fA d.faces.length d.fc, .bool d.abs, .bool d.fin, .slice d.vA d.vs.length d.vc, .slice d.mA d.ms.length d.mc, .slice d.bA d.body.length d.bc, .int .i64 d.every, .int .i64 d.first] 50) (hd : u[i]? = some d) (hu : UnitAt w B a u) (hB : B ≤ w.heap.size) :
    Calls Tryz.prog 38 #[.pointer (some ⟨b, 0, none⟩)] w fun z w' => z = .returned (.bool r) ∧ Below w.heap.size w w' := by
  have HR := Aid.hid hr
  have hmem := List.mem_of_getElem? hd
  have HDK := Aid.hid (hu.decls d hmem)
  have smM := HDK.out.smallM; have smV := HDK.out.smallV; have smF := HDK.out.smallF
  have HU := Aid.hid hu; have HX := Aid.hid hx; have HD := Aid.hid hd
  have sm := hu.small
  have hil : i < u.length := (List.getElem?_eq_some_iff.1 hd).1
  clear hr hmem hu hx hd
  go_enter Tryz.func38, Tryz.ntmps38
  try simp only [List.append_eq, List.cons_append, List.nil_append]
  have Nx := Aid.hid (HX.out.below ((Below.refl w.heap.size w)) HX.out.lt)
  have xx0 := Nx.out.cell 0 _ rfl
  have xx1 := Nx.out.cell 1 _ rfl
  have lx := Nx.out.lt
  obtain ⟨zs, hzs⟩ : ∃ zs, Tb.faces u i = zs := ⟨_, rfl⟩
  have HZS := Aid.hid hzs
  have E4 : Hid (zs.any (Ru.facesC u i) = r) := Aid.hid (by rw [← hzs, ← Ru.faces_eq]; exact HR.out)
  have HCI : Hid (∀ c ∈ zs, 0 ≤ c ∧ c < u.length) := Aid.hid (fun c hc => by rw [← hzs] at hc; have h := (Tb.faces_at u i).inn c hc; exact ⟨h.1, h.2.1⟩)
  have hzl : zs.length ≤ 1000000000 := by rw [← hzs]; have := (Tb.faces_at u i).len; omega
  clear hzs
  go_wp2_with fail
  have HZ := Aid.hid (fun (w' : World) (hSw : Below w.heap.size w w') => (⟨(hSw.cell (p := ⟨b, 0, none⟩) lx).trans xx0, (hSw.cell (p := ⟨b, 1, none⟩) lx).trans xx1⟩ : _ ∧ _))
  have hb : Below w.heap.size w w.drew := (Below.refl _ _).drew
  refine Ord.wp_region_all (fun w' => Below w.heap.size w w') 11 [(true, 0), (true, 1), (true, 2), (true, 3), (true, 4), (true, 5), (true, 6), (true, 7), (true, 10), (false, 8), (true, 9)] (by kernel_rfl) (by kernel_rfl) (fun _ _ d _ _ h => by cases d <;> exact h) (hb) ?_
  clear hb
  have hb : Below w.heap.size w w.drew := (Below.refl _ _).drew
  generalize w.drew = wd0 at *
  iterate 9
    apply Ord.walk_light
    next => (simp only [la0, la1, la2]; rfl)
    next => rfl
    next => (intro w' hSw; obtain ⟨z0, z1⟩ := HZ.out w' hSw; clear hSw; go_simp; first | done | with_reducible rfl)
    simp only [Act.put, la3, la4, la5]
  apply Ord.walk_heavy
  next => (simp only [la0, la1, la2]; rfl)
  next => rfl
  intro K hK
  go_wp2_with fail
  refine (faces_is u a B cap (i : Int) zs _ HZS.out (HU.out.below ((((Below.refl w.heap.size w)).trans (hb.mono ((Below.refl w.heap.size w)).size))) hB) (Nat.le_trans hB ((((Below.refl w.heap.size w)).trans (hb.mono ((Below.refl w.heap.size w)).size))).size)).mono ?_; rintro _ v0_1 ⟨A1, c1, rfl, hown, hb'⟩; dsimp only
  refine hK.out _ _ (hb.trans (hb'.mono hb.size)) (fun hHeld => ?_)
  clear hb hb'
  have hb := hHeld
  clear hK K
  try simp only [Act.put, la3, la4, la5]
  apply Ord.walk_light
  next => (simp only [la0, la1, la2]; rfl)
  next => rfl
  next => (intro w' hSw; obtain ⟨z0, z1⟩ := HZ.out w' hSw; clear hSw; go_simp; first | done | with_reducible rfl)
  simp only [Act.put, la3, la4, la5]
  refine Ord.walk_tail ?_; simp only [List.drop_succ_cons, List.drop_zero]
  have hbx := hb
  clear hb HZ
  have Kx1 := Aid.hid (((Below.refl w.heap.size w)).trans (hbx.mono ((Below.refl w.heap.size w)).size))
  have Nx_1 := Aid.hid (Nx.out.below hbx Nx.out.lt)
  clear xx0 xx1 lx
  clear hbx
  have HI := Aid.hid (IntsAt.of_own hown)
  clear hown
  go_wp2_with fail
  go_loopw [19] (fun vi wi => ∃ k : Nat, vi = .int .i64 k ∧ k ≤ zs.length ∧ Hid (∀ j, j < k → ∀ e, zs[j]? = some e → Ru.facesC u i e = false) ∧ Hid (Below v0_1.heap.size v0_1 wi)) (fun vi _ => zs.length - (intOf vi).toNat)
  case atStart => exact ⟨0, rfl, Nat.zero_le _, Aid.hid (fun j hj => by omega), Aid.hid (Below.refl _ _)⟩
  case round =>
    obtain ⟨k, rfl, hk, NO2, HC⟩ := hrel
    obtain ⟨wp, rfl⟩ : ∃ x, x = wr := ⟨_, rfl⟩
    have KHC := Aid.hid ((Kx1.out).trans (HC.out.mono (Kx1.out).size))
    have Nx_HC := Aid.hid (Nx_1.out.below HC.out Nx_1.out.lt)
    by_cases hkl : k < zs.length
    · obtain ⟨ad, rfl, had, hcell⟩ := HI.out.at_ hkl
      obtain ⟨c, hc⟩ : ∃ c, zs[k]? = some c := ⟨_, List.getElem?_eq_getElem hkl⟩
      have cc := (HC.out.cell (p := ad.add k) (by unfold Addr.add; split <;> exact had)).trans (hcell k c hc)
      have lcc : ad.block < wp.heap.size := Nat.lt_of_lt_of_le had HC.out.size
      have hci := HCI.out c (List.mem_of_getElem? hc)
      have HCC := Aid.hid hc
      obtain ⟨j, rfl⟩ : ∃ j : Nat, c = j := ⟨c.toNat, by omega⟩
      obtain ⟨e, he⟩ : ∃ e, u[j]? = some e := ⟨_, List.getElem?_eq_getElem (by omega)⟩
      have HE := Aid.hid he
      have hjl : j < u.length := by omega
      have HEK := Aid.hid (HU.out.decls e (List.mem_of_getElem? he))
      have smE := HEK.out.smallM
      clear hcell hc hci he
      have xx0 := Nx_HC.out.cell 0 _ rfl
      have lx := Nx_HC.out.lt
      obtain ⟨ub, uo, rfl, hlt_ub, hc_ub⟩ := (HU.out.below (KHC.out) hB).at_ (by omega)
      have lub : ub < wp.heap.size := Nat.lt_of_lt_of_le hlt_ub (Nat.le_trans hB (KHC.out).size)
      have ce := hc_ub j e HE.out 7 _ rfl
      clear hc_ub
      go_wp2_with fail
      clear cc lcc xx0 lx ce lub
      go_loopw [33] (fun vi wi => ∃ k : Nat, vi = .int .i64 k ∧ k ≤ e.ms.length ∧ Hid (∀ j, j < k → ∀ x, e.ms[j]? = some x → Ru.facesM u i x = false) ∧ Hid (Below wp.heap.size wp wi)) (fun vi _ => e.ms.length - (intOf vi).toNat)
      case atStart => exact ⟨0, rfl, Nat.zero_le _, Aid.hid (fun j hj => by omega), Aid.hid (Below.refl _ _)⟩
      case round =>
        obtain ⟨l, rfl, hl, NO3, HD3⟩ := hrel
        have KHD3 := Aid.hid ((KHC.out).trans (HD3.out.mono (KHC.out).size))
        have Nx_HD3 := Aid.hid (Nx_HC.out.below HD3.out Nx_HC.out.lt)
        have R2_1 := Aid.hid ((HC).out.trans (HD3.out.mono (HC).out.size))
        by_cases hll : l < e.ms.length
        · obtain ⟨mb, mo, emA, lmb, hc_m⟩ := (HEK.out.meths.below (KHD3.out) hB).at_map (by omega)
          obtain ⟨m, hm⟩ : ∃ x, e.ms[l]? = some x := ⟨_, List.getElem?_eq_getElem hll⟩
          have HM := Aid.hid hm
          have llm : mb < wr.heap.size := Nat.lt_of_lt_of_le lmb (Nat.le_trans hB (KHD3.out).size)
          have c0 := hc_m l m hm 0 _ rfl
          have c1 := hc_m l m hm 1 _ rfl
          have c2 := hc_m l m hm 2 _ rfl
          have c3 := hc_m l m hm 3 _ rfl
          have c4 := hc_m l m hm 4 _ rfl
          have c5 := hc_m l m hm 5 _ rfl
          have c6 := hc_m l m hm 6 _ rfl
          have c7 := hc_m l m hm 7 _ rfl
          have c8 := hc_m l m hm 8 _ rfl
          have c9 := hc_m l m hm 9 _ rfl
          have c10 := hc_m l m hm 10 _ rfl
          simp only [Nat.add_zero] at c0
          clear hc_m hm lmb
          rw [emA]
          obtain ⟨X2, hX⟩ : ∃ X, wr.alloc (.cells #[.string m.name, .bool m.over, .bool m.abs, .bool m.fin, .slice m.pA m.ps.length m.pc, .int .i64 m.res.k, .int .i64 m.res.lo, .int .i64 m.res.hi, .string m.res.name, .slice m.vA m.vs.length m.vc, .slice m.bA m.body.length m.bc] 46) = X := ⟨_, rfl⟩
          have qm := new_at hX
          have qx := all_at hX Nx_HD3.out
          have qqk := below_at hX (KHD3.out)
          have qqs := below_at0 hX
          have Nx_2 := Aid.hid qx
          have Nm_2 := Aid.hid qm
          have Kx2 := Aid.hid qqk
          have Qs2 := Aid.hid qqs
          clear qqk qqs qx qm
          have xm0 := Nm_2.out.cell 0 _ rfl
          have lm := Nm_2.out.lt
          have xx1 := Nx_2.out.cell 1 _ rfl
          have lx := Nx_2.out.lt
          have R3_2 := Aid.hid ((R2_1).out.trans (Qs2.out.mono (R2_1).out.size))
          have R3_3 := Aid.hid ((HD3).out.trans (Qs2.out.mono (HD3).out.size))
          go_wp2_with fail
          (try clear hX)
          clear c0 c1 c2 c3 c4 c5 c6 c7 c8 c9 c10 llm
          obtain ⟨n, hn⟩ : ∃ n, (Ru.method u i m.name).getD Ru.md0 = n := ⟨_, rfl⟩
          obtain ⟨ok, hok⟩ : ∃ x, (Ru.method u i m.name).isSome = x := ⟨_, rfl⟩
          have HN := Aid.hid hn; have HOK := Aid.hid hok
          clear hn hok
          refine wp_cut (fun a0 e a' w' => e = .normal ∧ Aid.Kept (∃ (g : Nat) (v38 v39 v40 v41 v42 v43 v44 v45 v37 v46 v47 : Value), a' = putL a0 [(38, v38), (39, v39), (40, v40), (41, v41), (42, v42), (43, v43), (44, v44), (45, v45), (37, v37), (46, v46), (47, v47), (7, .pointer (some ⟨g, 0, none⟩)), (8, .bool ok)] ∧ Aid.Has w' g [.string n.name, .bool n.over, .bool n.abs, .bool n.fin, .slice n.pA n.ps.length n.pc, .int .i64 n.res.k, .int .i64 n.res.lo, .int .i64 n.res.hi, .string n.res.name, .slice n.vA n.vs.length n.vc, .slice n.bA n.body.length n.bc] 46 ∧ X2.heap.size ≤ g ∧ Below X2.heap.size X2 w')) ?_ ?_
          · have HZ := Aid.hid (fun (w' : World) (hSw : Below X2.heap.size X2 w') => (⟨(hSw.cell (p := ⟨wr.heap.size, 0, none⟩) lm).trans xm0, (hSw.cell (p := ⟨b, 1, none⟩) lx).trans xx1⟩ : _ ∧ _))
            have hb : Below X2.heap.size X2 X2.drew := (Below.refl _ _).drew
            refine Ord.wp_region_go (fun w' => Below X2.heap.size X2 w') 13 [0, 1, 2, 3, 4, 5, 6, 8, 9, 10] (by kernel_rfl) (by kernel_rfl) (fun _ _ _ _ _ h => by cases h.1) (hb) ?_
            clear hb
            have hb : Below X2.heap.size X2 X2.drew := (Below.refl _ _).drew
            generalize X2.drew = wd0 at *
            apply Ord.go_light (i := 0) (by kernel_rfl)
            next => (simp only [la0, la1, la2]; rfl)
            next => rfl
            next => (intro w' hSw; obtain ⟨z0, z1⟩ := HZ.out w' hSw; clear hSw; go_simp; first | done | with_reducible rfl)
            simp only [Act.put, la3, la4, la5]
            apply Ord.go_light (i := 1) (by kernel_rfl)
            next => (simp only [la0, la1, la2]; rfl)
            next => rfl
            next => (intro w' hSw; obtain ⟨z0, z1⟩ := HZ.out w' hSw; clear hSw; go_simp; first | done | with_reducible rfl)
            simp only [Act.put, la3, la4, la5]
            apply Ord.go_light (i := 2) (by kernel_rfl)
            next => (simp only [la0, la1, la2]; rfl)
            next => rfl
            next => (intro w' hSw; obtain ⟨z0, z1⟩ := HZ.out w' hSw; clear hSw; go_simp; first | done | with_reducible rfl)
            simp only [Act.put, la3, la4, la5]
            apply Ord.go_light (i := 3) (by kernel_rfl)
            next => (simp only [la0, la1, la2]; rfl)
            next => rfl
            next => (intro w' hSw; obtain ⟨z0, z1⟩ := HZ.out w' hSw; clear hSw; go_simp; first | done | with_reducible rfl)
            simp only [Act.put, la3, la4, la5]
            apply Ord.go_light (i := 4) (by kernel_rfl)
            next => (simp only [la0, la1, la2]; rfl)
            next => rfl
            next => (intro w' hSw; obtain ⟨z0, z1⟩ := HZ.out w' hSw; clear hSw; go_simp; first | done | with_reducible rfl)
            simp only [Act.put, la3, la4, la5]
            apply Ord.go_light (i := 5) (by kernel_rfl)
            next => (simp only [la0, la1, la2]; rfl)
            next => rfl
            next => (intro w' hSw; obtain ⟨z0, z1⟩ := HZ.out w' hSw; clear hSw; go_simp; first | done | with_reducible rfl)
            simp only [Act.put, la3, la4, la5]
            apply Ord.go_light (i := 6) (by kernel_rfl)
            next => (simp only [la0, la1, la2]; rfl)
            next => rfl
            next => (intro w' hSw; obtain ⟨z0, z1⟩ := HZ.out w' hSw; clear hSw; go_simp; first | done | with_reducible rfl)
            simp only [Act.put, la3, la4, la5]
            refine Ord.go_two (i := 7) (j := 11) (by kernel_rfl) (by kernel_rfl) ?_ ?_
            ·
              apply Ord.go_done1
              next => (simp only [la0, la1, la2]; rfl)
              next => rfl
              intro K hK
              go_wp2_with fail
              refine (rmethod_n u _ B cap b i d i m.name n ok _ HN.out HOK.out (Nx_2.out.below hb Nx_2.out.lt) HD.out (HU.out.below (((Kx2.out).trans (hb.mono (Kx2.out).size))) hB) (Nat.le_trans hB (((Kx2.out).trans (hb.mono (Kx2.out).size))).size)).mono ?_; rintro _ vc ⟨rfl, hb'⟩; dsimp only
              refine hK.out _ _ (hb.trans (hb'.mono hb.size)) (fun hHeld => ?_)
              clear hb hb'
              have hb := hHeld
              clear hK K
              try simp only [Act.put, la3, la4, la5]
              apply Ord.go_light (i := 8) (by kernel_rfl)
              next => (simp only [la0, la1, la2]; rfl)
              next => rfl
              next => (intro w' hSw; obtain ⟨z0, z1⟩ := HZ.out w' hSw; clear hSw; go_simp; first | done | with_reducible rfl)
              simp only [Act.put, la3, la4, la5]
              apply Ord.go_light (i := 9) (by kernel_rfl)
              next => (simp only [la0, la1, la2]; rfl)
              next => rfl
              next => (intro w' hSw; obtain ⟨z0, z1⟩ := HZ.out w' hSw; clear hSw; go_simp; first | done | with_reducible rfl)
              simp only [Act.put, la3, la4, la5]
              apply Ord.go_light (i := 10) (by kernel_rfl)
              next => (simp only [la0, la1, la2]; rfl)
              next => rfl
              next => (intro w' hSw; obtain ⟨z0, z1⟩ := HZ.out w' hSw; clear hSw; go_simp; first | done | with_reducible rfl)
              simp only [Act.put, la3, la4, la5]
              refine Ord.go_one (i := 11) (by kernel_rfl) (by kernel_rfl) ?_
              apply Ord.go_done1
              next => (simp only [la0, la1, la2]; rfl)
              next => rfl
              intro K hK
              go_wp2_with fail
              have hg := Aid.Has.new vc [.string ⟨#[]⟩, .bool false, .bool false, .bool false, .slice none 0 0, .int .i64 0, .int .i64 0, .int .i64 0, .string ⟨#[]⟩, .slice none 0 0, .slice none 0 0] 46
              have hgs := hb.size
              refine hK.out _ _ (hb.alloc hb.size _) (fun hHeld => ?_)
              clear hb
              have hb := hHeld
              generalize hX : vc.alloc _ = wx at *
              clear hX
              clear hK K
              try simp only [Act.put, la3, la4, la5]
              refine Ord.go_one (i := 12) (by kernel_rfl) (by kernel_rfl) ?_
              apply Ord.go_done1
              next => (simp only [la0, la1, la2]; rfl)
              next => rfl
              intro K hK
              refine wp_store_row 46 _ _ rfl (vc.heap.size) _ rfl rfl 46 _ hg (by kernel_rfl) rfl (by simp [Value.oneCell']) ?_
              refine hK.out _ _ (row_below hb hgs _) (fun hHeld => ?_)
              have hg := row_has (ys := [.string n.name, .bool n.over, .bool n.abs, .bool n.fin, .slice n.pA n.ps.length n.pc, .int .i64 n.res.k, .int .i64 n.res.lo, .int .i64 n.res.hi, .string n.res.name, .slice n.vA n.vs.length n.vc, .slice n.bA n.body.length n.bc]) hg
              clear hb
              have hb := hHeld
              generalize hX : World.setRow _ _ _ = ws at *
              clear hX
              clear hK K
              refine Ord.go_tail ?_; simp only [List.drop_succ_cons, List.drop_zero]
              go_wp2_with fail
              (try refine ⟨rfl, ?_⟩)
              unfold Aid.Kept
              refine ⟨vc.heap.size, ?_⟩
              all_goals (repeat' apply And.intro)
              all_goals first | exact hg | exact hgs | exact hb | (simp only [putL, Act.put, la3, la4, la5]; exact ⟨_, _, _, _, _, _, _, _, _, _, _, rfl⟩)
            ·
              apply Ord.go_done1
              next => (simp only [la0, la1, la2]; rfl)
              next => rfl
              intro K hK
              go_wp2_with fail
              have hg := Aid.Has.new wd0 [.string ⟨#[]⟩, .bool false, .bool false, .bool false, .slice none 0 0, .int .i64 0, .int .i64 0, .int .i64 0, .string ⟨#[]⟩, .slice none 0 0, .slice none 0 0] 46
              have hgs := hb.size
              refine hK.out _ _ (hb.alloc hb.size _) (fun hHeld => ?_)
              clear hb
              have hb := hHeld
              generalize hX : wd0.alloc _ = wx at *
              clear hX
              clear hK K
              try simp only [Act.put, la3, la4, la5]
              refine Ord.go_one (i := 7) (by kernel_rfl) (by kernel_rfl) ?_
              apply Ord.go_done1
              next => (simp only [la0, la1, la2]; rfl)
              next => rfl
              intro K hK
              go_wp2_with fail
              refine (rmethod_n u _ B cap b i d i m.name n ok _ HN.out HOK.out (Nx_2.out.below hb Nx_2.out.lt) HD.out (HU.out.below (((Kx2.out).trans (hb.mono (Kx2.out).size))) hB) (Nat.le_trans hB (((Kx2.out).trans (hb.mono (Kx2.out).size))).size)).mono ?_; rintro _ vc ⟨rfl, hb'⟩; dsimp only
              refine hK.out _ _ (hb.trans (hb'.mono hb.size)) (fun hHeld => ?_)
              have hg := hg.below hb' hg.lt
              clear hb hb'
              have hb := hHeld
              clear hK K
              try simp only [Act.put, la3, la4, la5]
              apply Ord.go_light (i := 8) (by kernel_rfl)
              next => (simp only [la0, la1, la2]; rfl)
              next => rfl
              next => (intro w' hSw; obtain ⟨z0, z1⟩ := HZ.out w' hSw; clear hSw; go_simp; first | done | with_reducible rfl)
              simp only [Act.put, la3, la4, la5]
              apply Ord.go_light (i := 9) (by kernel_rfl)
              next => (simp only [la0, la1, la2]; rfl)
              next => rfl
              next => (intro w' hSw; obtain ⟨z0, z1⟩ := HZ.out w' hSw; clear hSw; go_simp; first | done | with_reducible rfl)
              simp only [Act.put, la3, la4, la5]
              apply Ord.go_light (i := 10) (by kernel_rfl)
              next => (simp only [la0, la1, la2]; rfl)
              next => rfl
              next => (intro w' hSw; obtain ⟨z0, z1⟩ := HZ.out w' hSw; clear hSw; go_simp; first | done | with_reducible rfl)
              simp only [Act.put, la3, la4, la5]
              refine Ord.go_one (i := 12) (by kernel_rfl) (by kernel_rfl) ?_
              apply Ord.go_done1
              next => (simp only [la0, la1, la2]; rfl)
              next => rfl
              intro K hK
              refine wp_store_row 46 _ _ rfl (wd0.heap.size) _ rfl rfl 46 _ hg (by kernel_rfl) rfl (by simp [Value.oneCell']) ?_
              refine hK.out _ _ (row_below hb hgs _) (fun hHeld => ?_)
              have hg := row_has (ys := [.string n.name, .bool n.over, .bool n.abs, .bool n.fin, .slice n.pA n.ps.length n.pc, .int .i64 n.res.k, .int .i64 n.res.lo, .int .i64 n.res.hi, .string n.res.name, .slice n.vA n.vs.length n.vc, .slice n.bA n.body.length n.bc]) hg
              clear hb
              have hb := hHeld
              generalize hX : World.setRow _ _ _ = ws at *
              clear hX
              clear hK K
              refine Ord.go_tail ?_; simp only [List.drop_succ_cons, List.drop_zero]
              go_wp2_with fail
              (try refine ⟨rfl, ?_⟩)
              unfold Aid.Kept
              refine ⟨wd0.heap.size, ?_⟩
              all_goals (repeat' apply And.intro)
              all_goals first | exact hg | exact hgs | exact hb | (simp only [putL, Act.put, la3, la4, la5]; exact ⟨_, _, _, _, _, _, _, _, _, _, _, rfl⟩)
          rintro e' a' w3 ⟨rfl, g3, v38, v39, v40, v41, v42, v43, v44, v45, v37, v46, v47, rfl, hg3, hgl3, hb3⟩
          simp only [putL, Act.put, la3, la4, la5]
          have Nnew3 := Aid.hid hg3
          clear hg3
          have hbq3 := hb3
          have R3_4 := Aid.hid ((R3_2).out.trans (hb3.mono (R3_2).out.size))
          have R3_5 := Aid.hid ((R3_3).out.trans (hb3.mono (R3_3).out.size))
          have Kx3 := Aid.hid ((Kx2.out).trans (hb3.mono (Kx2.out).size))
          have Nx_3 := Aid.hid (Nx_2.out.below hb3 Nx_2.out.lt)
          have Nm_3 := Aid.hid (Nm_2.out.below hb3 Nm_2.out.lt)
          clear xm0 lm xx1 lx
          clear hb3
          have EO : Hid (Ru.facesM u i m = (!ok || !Ru.alike m n)) := Aid.hid (by rw [Ru.facesM_eq, HN.out, HOK.out])
          have xm0 := Nm_3.out.cell 0 _ rfl
          have xm1 := Nm_3.out.cell 1 _ rfl
          have xm2 := Nm_3.out.cell 2 _ rfl
          have xm3 := Nm_3.out.cell 3 _ rfl
          have xm4 := Nm_3.out.cell 4 _ rfl
          have xm5 := Nm_3.out.cell 5 _ rfl
          have xm6 := Nm_3.out.cell 6 _ rfl
          have xm7 := Nm_3.out.cell 7 _ rfl
          have xm8 := Nm_3.out.cell 8 _ rfl
          have xm9 := Nm_3.out.cell 9 _ rfl
          have xm10 := Nm_3.out.cell 10 _ rfl
          have lm := Nm_3.out.lt
          have xnew30 := Nnew3.out.cell 0 _ rfl
          have xnew31 := Nnew3.out.cell 1 _ rfl
          have xnew32 := Nnew3.out.cell 2 _ rfl
          have xnew33 := Nnew3.out.cell 3 _ rfl
          have xnew34 := Nnew3.out.cell 4 _ rfl
          have xnew35 := Nnew3.out.cell 5 _ rfl
          have xnew36 := Nnew3.out.cell 6 _ rfl
          have xnew37 := Nnew3.out.cell 7 _ rfl
          have xnew38 := Nnew3.out.cell 8 _ rfl
          have xnew39 := Nnew3.out.cell 9 _ rfl
          have xnew310 := Nnew3.out.cell 10 _ rfl
          have lnew3 := Nnew3.out.lt
          cases ok
          · obtain rfl : true = r := by rw [← E4.out, any_hit HCC.out (show Ru.facesC u i j = true by rw [Ru.facesC, Ru.msOf_at HE.out]; exact any_hit HM.out (by rw [EO.out]; rfl))]
            go_wp2_with fail
            go_ret
            exact ⟨rfl, Kx3.out⟩
          · obtain ⟨q, hq⟩ : ∃ q, Ru.alike m n = q := ⟨_, rfl⟩
            have HQA := Aid.hid hq
            rw [hq] at EO
            have HMK := Aid.hid (HEK.out.each m (List.mem_of_getElem? HM.out))
            have HNK := Aid.hid (Ru.method_at2 HU.out HN.out HOK.out)
            clear hq
            go_wp2_with fail
            refine (alike_is m n q _ HQA.out B B (MdP.of HMK.out (Kx3.out) hB) (MdP.of HNK.out (Kx3.out) hB) (Nat.le_trans hB (Kx3.out).size) (Nat.le_trans hB (Kx3.out).size)).mono ?_; rintro _ w4 ⟨rfl, hb4⟩
            have R4_6 := Aid.hid ((R3_4).out.trans (hb4.mono (R3_4).out.size))
            have R4_7 := Aid.hid ((R3_5).out.trans (hb4.mono (R3_5).out.size))
            have Kx4 := Aid.hid ((Kx3.out).trans (hb4.mono (Kx3.out).size))
            have Nx_4 := Aid.hid (Nx_3.out.below hb4 Nx_3.out.lt)
            have Nm_4 := Aid.hid (Nm_3.out.below hb4 Nm_3.out.lt)
            have Nnew3_4 := Aid.hid (Nnew3.out.below hb4 Nnew3.out.lt)
            clear xm0 xm1 xm2 xm3 xm4 xm5 xm6 xm7 xm8 xm9 xm10 lm xnew30 xnew31 xnew32 xnew33 xnew34 xnew35 xnew36 xnew37 xnew38 xnew39 xnew310 lnew3
            clear hb4
            cases q
            · obtain rfl : true = r := by rw [← E4.out, any_hit HCC.out (show Ru.facesC u i j = true by rw [Ru.facesC, Ru.msOf_at HE.out]; exact any_hit HM.out (by rw [EO.out]; rfl))]
              go_wp2_with fail
              go_ret
              exact ⟨rfl, Kx4.out⟩
            · have NX := Aid.hid (no_step NO3.out HM.out (p := Ru.facesM u i) (by rw [EO.out]; rfl))
              go_wp2_with fail
              go_roundw
              case rel => exact ⟨l + 1, by go_num, by omega, NX, R4_7⟩
              case measure => simp [intOf]; omega
        · have NX := Aid.hid (no_step NO2.out HCC.out (p := Ru.facesC u i) (by rw [Ru.facesC, Ru.msOf_at HE.out]; exact any_miss (fun j hj => NO3.out j (by omega))))
          go_wp2_with fail
          go_roundw
          case rel => exact ⟨k + 1, by go_num, by omega, NX, R2_1⟩
          case measure => simp [intOf]; omega
    · obtain rfl : false = r := by rw [← E4.out, any_miss (p := Ru.facesC u i) (l := zs) (fun j hj => NO2.out j (by omega))]
      go_wp2_with fail
      go_ret
      exact ⟨rfl, KHC.out⟩
end Go.Proofs.YtejifefgmlpclaaGreat
