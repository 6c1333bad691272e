/- Alike, the program's and the document's, as walks. -/
import Derived.Test.YtjhlcfaakhabfaaTabAlike
import Derived.Deep.Cut
import Derived.BigQuiet
namespace Go.Proofs.Ytjhlcfaakhabfaa
open Go.RowKit

/-- A method's parameters lie in memory. -/
structure MdP (w : World) (B : Nat) (m : Md) : Prop where
  params : Rows w B 8 m.pA (m.ps.map Vd.cells)
  smallP : m.ps.length ≤ 1000000000
theorem MdAt.p {w : World} {B : Nat} {m : Md} (h : MdAt w B m) : MdP w B m := ⟨h.params, h.smallP⟩
theorem MdP.below {w w' : World} {B C : Nat} {m : Md} (h : MdP w B m) (hb : Below C w w') (hC : B ≤ C) : MdP w' B m := ⟨h.params.below hb hC, h.smallP⟩
def Tb.alike (a b : Md) : Bool := Tb.samePs a.ps b.ps && Ty.same a.res b.res

set_option maxRecDepth 100000 in
set_option maxHeartbeats 2000000 in
theorem alike_is (a b : Md) (r : Bool) (w : World) (hr : Tb.alike a b = r) (B B' : Nat) (ha : MdP w B a) (hb : MdP w B' b) (hB : B ≤ w.heap.size) (hB' : B' ≤ w.heap.size) :
    Calls Try.prog 15 #[.agg #[.string a.name, .bool a.over, .bool a.abs, .bool a.fin, .slice a.pA a.ps.length a.pc, .int .i64 a.res.k, .int .i64 a.res.lo, .int .i64 a.res.hi, .string a.res.name, .slice a.vA a.vs.length a.vc, .slice a.bA a.bn a.bc], .agg #[.string b.name, .bool b.over, .bool b.abs, .bool b.fin, .slice b.pA b.ps.length b.pc, .int .i64 b.res.k, .int .i64 b.res.lo, .int .i64 b.res.hi, .string b.res.name, .slice b.vA b.vs.length b.vc, .slice b.bA b.bn b.bc]] w fun e w' => e = .returned (.bool r) ∧ Below w.heap.size w w' := by
  have HR := Aid.hid hr
  have MA := Aid.hid ha; have MB := Aid.hid hb
  have la := ha.smallP; have lb := hb.smallP
  clear hr ha hb
  have H1 : Aid.Has ((w.alloc (.cells a.cells.toArray 42)).alloc (.cells b.cells.toArray 42)) w.heap.size a.cells 42 := (Aid.Has.new w _ _).alloc _
  have H2 : Aid.Has ((w.alloc (.cells a.cells.toArray 42)).alloc (.cells b.cells.toArray 42)) (w.heap.size + 1) b.cells 42 := by
    have e : (w.alloc (.cells a.cells.toArray 42)).heap.size = w.heap.size + 1 := by simp
    rw [← e]; exact Aid.Has.new _ _ _
  have hb0 : Below w.heap.size w ((w.alloc (.cells a.cells.toArray 42)).alloc (.cells b.cells.toArray 42)) := ((Below.refl _ _).alloc (Nat.le_refl _) _).alloc (by simp) _
  go_enter Try.func15, Try.ntmps15
  try simp only [List.append_eq, List.cons_append, List.nil_append]
  go_upto_region 1 with (fail)
  obtain ⟨W, hW⟩ : ∃ W, (w.alloc (.cells a.cells.toArray 42)).alloc (.cells b.cells.toArray 42) = W := ⟨_, rfl⟩
  change Code.wp _ _ _ _ ((w.alloc (.cells a.cells.toArray 42)).alloc (.cells b.cells.toArray 42))
  rw [hW] at H1 H2 hb0 ⊢
  clear hW
  have BW := Aid.hid hb0
  have hw1 := H1.lt
  have hw2 := H2.lt
  obtain ⟨p1, e1⟩ : ∃ p, w.heap.size = p := ⟨_, rfl⟩
  rw [e1] at H1 H2 hw1 hw2 ⊢
  have HA := Aid.hid H1
  have HB := Aid.hid H2
  have hBW := hb0.size
  clear H1 H2 hb0
  obtain ⟨r1, hr1⟩ : ∃ x, Tb.samePs a.ps b.ps = x := ⟨_, rfl⟩
  have R1 := Aid.hid hr1
  clear hr1
  have a4 := HA.out.cell 4 _ rfl
  have a5 := HA.out.cell 5 _ rfl
  have a6 := HA.out.cell 6 _ rfl
  have a7 := HA.out.cell 7 _ rfl
  have a8 := HA.out.cell 8 _ rfl
  have b4 := HB.out.cell 4 _ rfl
  have b5 := HB.out.cell 5 _ rfl
  have b6 := HB.out.cell 6 _ rfl
  have b7 := HB.out.cell 7 _ rfl
  have b8 := HB.out.cell 8 _ rfl
  go_wp2_with fail
  refine (equalVars_is a.pA b.pA B B' a.pc b.pc a.ps b.ps r1 _ R1.out (MA.out.below BW.out hB).params (MB.out.below BW.out hB').params (by omega) (by omega) la lb).mono ?_; rintro e w2 ⟨rfl, hb2⟩
  clear a4 a5 a6 a7 a8 b4 b5 b6 b7 b8
  have HA2 := HA.out.below hb2 hw1
  have HB2 := HB.out.below hb2 hw2
  cases r1
  · have E : Hid (false = r) := Aid.hid (by rw [← HR.out, Tb.alike, R1.out]; rfl)
    go_wp2_with fail
    go_ret
    exact ⟨by rw [← E.out]; rfl, e1 ▸ BW.out.trans (hb2.mono BW.out.size)⟩
  · have E : Hid (Ty.same a.res b.res = r) := Aid.hid (by rw [← HR.out, Tb.alike, R1.out]; rfl)
    have a4 := HA2.cell 4 _ rfl
    have a5 := HA2.cell 5 _ rfl
    have a6 := HA2.cell 6 _ rfl
    have a7 := HA2.cell 7 _ rfl
    have a8 := HA2.cell 8 _ rfl
    have b4 := HB2.cell 4 _ rfl
    have b5 := HB2.cell 5 _ rfl
    have b6 := HB2.cell 6 _ rfl
    have b7 := HB2.cell 7 _ rfl
    have b8 := HB2.cell 8 _ rfl
    go_wp2_with fail
    all_goals
      go_ret
      exact ⟨Aid.ret_bool (by rw [← E.out]; simp_all [Ty.same]), e1 ▸ BW.out.trans (hb2.mono BW.out.size)⟩
end Go.Proofs.Ytjhlcfaakhabfaa
