/- The document's writer: an image laid. -/
import Derived.Test.YtaogegeidbclaaaGreatDoorImgRParts
namespace Go.Proofs.YtaogegeidbclaaaGreatDoor
open Go.RowKit

theorem Pc.two (a b : Int) : Pc.nums [a, b] = Pc.num a ++ Pc.num b := by rw [Pc.nums_cons, Pc.nums_one]
section
variable {w : World} {B B' : Nat} {A : Option Addr}
theorem Desc.At.more {x : Desc} (h : Desc.At w B x) (hB : B ≤ B') : Desc.At w B' x := ⟨⟨h.1.1, h.1.2.more hB⟩, ⟨h.2.1.1, h.2.1.2.more hB⟩, ⟨h.2.2.1.1, h.2.2.1.2.more hB⟩, ⟨h.2.2.2.1, h.2.2.2.2.1.more hB, fun y hy => ⟨(h.2.2.2.2.2 y hy).1, (h.2.2.2.2.2 y hy).2.more hB⟩⟩⟩
theorem Img.At.more {x : Img} (h : Img.At w B x) (hB : B ≤ B') : Img.At w B' x :=
  ⟨⟨h.faces.1, h.faces.2.1.more hB, fun y hy => ⟨(h.faces.2.2 y hy).1, (h.faces.2.2 y hy).2.more hB⟩⟩,
   ⟨h.classes.1, h.classes.2.1.more hB, fun y hy => (h.classes.2.2 y hy).more hB⟩,
   ⟨h.codes.1, h.codes.2.1.more hB, fun y hy => ⟨(h.codes.2.2 y hy).1, (h.codes.2.2 y hy).2.more hB⟩⟩,
   ⟨h.insts.1, h.insts.2.more hB⟩, ⟨h.init.1, h.init.2.more hB⟩, ⟨h.blocks.1, h.blocks.2.more hB⟩, ⟨h.ins.1, h.ins.2.more hB⟩, ⟨h.outs.1, h.outs.2.more hB⟩, ⟨h.jobs.1, h.jobs.2.more hB⟩⟩
end
theorem Wt.Is.new (w : World) (T : TypeId) : Wt.Is (w.alloc (.cells #[.slice none 0 0, .bool false] T)) T w.heap.size Pc.none :=
  ⟨none, 0, Aid.Has.new w [.slice none 0 0, .bool false] T, rfl, Or.inl ⟨rfl, rfl⟩⟩
/-- What laying comes to: refused, or its bytes. -/
def Laid (X : Img) (no yes : Value) (B : Nat) (e : Ending) (w' : World) : Prop :=
  ((Pc.img X).x = true ∧ e = .returned (.tuple #[.slice none 0 0, no])) ∨
  ((Pc.img X).x = false ∧ ∃ A c, e = .returned (.tuple #[.slice A (Pc.img X).b.length c, yes]) ∧ w'.ownsRow B 5 1 (.slice A (Pc.img X).b.length c) (Pc.img X).b.length ((Pc.img X).b.map (Value.int .u8)))
set_option maxRecDepth 100000 in
set_option maxHeartbeats 1000000 in
theorem rlay_is (X : Img) (w : World) (hx : Img.At w w.heap.size X) (lb : (Pc.img X).b.length ≤ 100000000000000) :
    Calls Tryz.prog 9 #[.agg #[.slice X.fA X.faces.length X.fc, .slice X.cA X.classes.length X.cc, .slice X.dA X.codes.length X.dc, .slice X.nA X.insts.length X.nc, .string X.globals, .slice X.iA X.init.length X.ic, .slice X.bA X.blocks.length X.bc, .slice X.xA X.ins.length X.xc, .slice X.oA X.outs.length X.oc, .slice X.jA X.jobs.length X.jc, .int .i64 X.d, .int .i64 X.w]] w fun e w' => Below w.heap.size w w' ∧ Laid X (.int .i64 24) (.int .i64 0) w.heap.size e w' := by
  obtain ⟨W, hW⟩ : ∃ W, ((w.alloc (.cells #[.slice X.fA X.faces.length X.fc, .slice X.cA X.classes.length X.cc, .slice X.dA X.codes.length X.dc, .slice X.nA X.insts.length X.nc, .string X.globals, .slice X.iA X.init.length X.ic, .slice X.bA X.blocks.length X.bc, .slice X.xA X.ins.length X.xc, .slice X.oA X.outs.length X.oc, .slice X.jA X.jobs.length X.jc, .int .i64 X.d, .int .i64 X.w] 29)).alloc (.cells #[.slice none 0 0, .bool false] 68)) = W := ⟨_, rfl⟩
  have hb0 : Aid.Has W w.heap.size [.slice X.fA X.faces.length X.fc, .slice X.cA X.classes.length X.cc, .slice X.dA X.codes.length X.dc, .slice X.nA X.insts.length X.nc, .string X.globals, .slice X.iA X.init.length X.ic, .slice X.bA X.blocks.length X.bc, .slice X.xA X.ins.length X.xc, .slice X.oA X.outs.length X.oc, .slice X.jA X.jobs.length X.jc, .int .i64 X.d, .int .i64 X.w] 29 := by subst hW; exact (Aid.Has.new w [.slice X.fA X.faces.length X.fc, .slice X.cA X.classes.length X.cc, .slice X.dA X.codes.length X.dc, .slice X.nA X.insts.length X.nc, .string X.globals, .slice X.iA X.init.length X.ic, .slice X.bA X.blocks.length X.bc, .slice X.xA X.ins.length X.xc, .slice X.oA X.outs.length X.oc, .slice X.jA X.jobs.length X.jc, .int .i64 X.d, .int .i64 X.w] 29).alloc _
  have b0 : Below w.heap.size w W := by subst hW; exact ((Below.refl _ w).alloc (Nat.le_refl _) _).alloc (by simp) _
  have i0 : Wt.Is W 68 (w.heap.size + 1) Pc.none := by subst hW; have := Wt.Is.new (w.alloc (.cells #[.slice X.fA X.faces.length X.fc, .slice X.cA X.classes.length X.cc, .slice X.dA X.codes.length X.dc, .slice X.nA X.insts.length X.nc, .string X.globals, .slice X.iA X.init.length X.ic, .slice X.bA X.blocks.length X.bc, .slice X.xA X.ins.length X.xc, .slice X.oA X.outs.length X.oc, .slice X.jA X.jobs.length X.jc, .int .i64 X.d, .int .i64 X.w] 29)) 68; rwa [World.size_alloc] at this
  have LB : ∀ t : Pc, t.b.length ≤ (Pc.none ++ Pc.img X).b.length → t.b.length ≤ 100000000000000 := fun t h => Nat.le_trans h (by rw [Pc.none_app]; exact lb)
  have HX := Aid.hid hx
  have B0 := Aid.hid b0
  have HB := Aid.hid hb0
  have HI := Aid.hid i0
  have HK := Aid.hid (Wt.Kp.refl (w.heap.size + 1) W)
  clear lb hx b0 hb0 i0
  have RB : Hid (∀ wr, Wt.Kp (w.heap.size + 1) W wr → Aid.Has wr w.heap.size [.slice X.fA X.faces.length X.fc, .slice X.cA X.classes.length X.cc, .slice X.dA X.codes.length X.dc, .slice X.nA X.insts.length X.nc, .string X.globals, .slice X.iA X.init.length X.ic, .slice X.bA X.blocks.length X.bc, .slice X.xA X.ins.length X.xc, .slice X.oA X.outs.length X.oc, .slice X.jA X.jobs.length X.jc, .int .i64 X.d, .int .i64 X.w] 29) := fun wr k => k.2 _ _ _ (by omega) (by decide) HB.out
  have RX : Hid (∀ wr, Wt.Kp (w.heap.size + 1) W wr → Img.At wr (w.heap.size + 1) X) := fun wr k => (HX.out.below (B0.out.trans (k.1.mono (Nat.le_succ _))) (Nat.le_refl _)).more (Nat.le_succ _)
  clear HB HX
  have HC := Aid.hid (rtext_is (w.heap.size + 1) Pc.mark _ _ HI.out (LB (Pc.none ++ Pc.text Pc.mark) (by (try simp only [Pc.img, Pc.list, Pc.len]) <;> omega)))
  have HK1 := HK
  clear HI HK
  subst hW
  go_enter Tryz.func9, Tryz.ntmps9
  try simp only [List.append_eq, List.cons_append, List.nil_append]
  go_wp2_with fail
  go_at_call 22
  refine HC.out.mono ?_
  rintro e w1 ⟨rfl, h2, h3⟩
  have HI := Aid.hid h2
  have HK := Aid.hid (HK1.out.trans h3)
  clear h2 h3 HC HK1
  have hbk := RB.out _ HK.out
  have c0 := hbk.cell 0 _ rfl
  clear hbk
  have HC := Aid.hid (rmany_is (w.heap.size + 1) _ _ _ HI.out (LB (Pc.none ++ Pc.text Pc.mark ++ Pc.many X.faces.length) (by (try simp only [Pc.img, Pc.list, Pc.len]) <;> omega)))
  have HK1 := HK
  clear HI HK
  go_wp2_with fail
  go_at_call 23
  refine HC.out.mono ?_
  rintro e w2 ⟨rfl, h2, h3⟩
  have HI := Aid.hid h2
  have HK := Aid.hid (HK1.out.trans h3)
  clear h2 h3 HC HK1 c0
  have SZ : Hid ((Pc.none ++ Pc.text Pc.mark).b.length + (Pc.list Pc.fc X.faces).b.length ≤ 100000000000000) := Aid.hid (by have := LB (Pc.none ++ Pc.text Pc.mark ++ Pc.list Pc.fc X.faces) (by (try simp only [Pc.img, Pc.list, Pc.len]) <;> omega); rwa [Pc.len] at this)
  have ll : X.faces.length ≤ 9223372036854775807 := ((RX.out _ HK.out).faces).1
  have HKB := HK
  have hbk := RB.out _ HK.out
  have c0 := hbk.cell 0 _ rfl
  clear hbk
  go_wp2_with fail
  go_loopw [5] (fun vi wr => ∃ k : Nat, vi = .int .i64 k ∧ k ≤ X.faces.length ∧ Hid (Wt.Is wr 68 (w.heap.size + 1) (Pc.upto Pc.fc (Pc.none ++ Pc.text Pc.mark) X.faces k)) ∧ Hid (Wt.Kp (w.heap.size + 1) ((w.alloc (.cells #[.slice X.fA X.faces.length X.fc, .slice X.cA X.classes.length X.cc, .slice X.dA X.codes.length X.dc, .slice X.nA X.insts.length X.nc, .string X.globals, .slice X.iA X.init.length X.ic, .slice X.bA X.blocks.length X.bc, .slice X.xA X.ins.length X.xc, .slice X.oA X.outs.length X.oc, .slice X.jA X.jobs.length X.jc, .int .i64 X.d, .int .i64 X.w] 29)).alloc (.cells #[.slice none 0 0, .bool false] 68)) wr)) (fun vi _ => X.faces.length - (intOf vi).toNat)
  case atStart => exact ⟨0, rfl, Nat.zero_le _, Aid.hid (by rw [Pc.upto_zero]; exact HI.out), HK⟩
  case round =>
    clear HI HK HKB c0
    obtain ⟨k, rfl, hk, HI, HK⟩ := hrel
    by_cases hlt : k < X.faces.length
    · obtain ⟨x, hx⟩ : ∃ x, X.faces[k]? = some x := ⟨_, List.getElem?_eq_getElem hlt⟩
      have hlw := (RX.out _ HK.out).faces
      obtain ⟨b, off, hA, hbp, hc⟩ := Rows.get hlw.2.1 hx
      have HA := Aid.hid hA
      clear hA
      have x0 := hc 0 _ rfl
      simp only [Nat.mul_one, Nat.add_zero] at x0
      have hp := HI.out.lt
      have HXA := Aid.hid (hlw.2.2 x (List.mem_of_getElem? hx))
      have HK0 := HK
      have lx := Pc.upto_lt Pc.fc (Pc.none ++ Pc.text Pc.mark) X.faces k x hx
      have LBX : ∀ t : Pc, t.b.length ≤ (Pc.upto Pc.fc (Pc.none ++ Pc.text Pc.mark) X.faces k ++ Pc.fc x).b.length → t.b.length ≤ 100000000000000 := fun t h => Nat.le_trans (Nat.le_trans h lx) (by rw [Pc.len]; exact SZ.out)
      have NX : Hid (Pc.upto Pc.fc (Pc.none ++ Pc.text Pc.mark) X.faces (k + 1) = Pc.upto Pc.fc (Pc.none ++ Pc.text Pc.mark) X.faces k ++ Pc.texts x.l) := Aid.hid (by rw [Pc.upto_next Pc.fc _ X.faces k x hx] <;> simp only [Pc.fc, Pc.assoc])
      clear hc hx hlw lx
      have hbk := RB.out _ HK.out
      have c0 := hbk.cell 0 _ rfl
      rw [HA.out] at c0
      clear hbk
      have HC := Aid.hid (rtexts_is (w.heap.size + 1) x.A x.c x.l _ _ HI.out HXA.out (LBX (Pc.upto Pc.fc (Pc.none ++ Pc.text Pc.mark) X.faces k ++ Pc.texts x.l) (by (try simp only [Pc.fc, Pc.len]) <;> omega)))
      have HK1 := HK
      clear HI HK
      go_wp2_with fail
      go_at_call 24
      refine HC.out.mono ?_
      rintro e w3 ⟨rfl, h2, h3⟩
      have HI := Aid.hid h2
      have HK := Aid.hid (HK1.out.trans h3)
      clear h2 h3 HC HK1 c0
      go_wp2_with fail
      go_roundw
      case rel => exact ⟨k + 1, by go_num, by omega, Aid.hid (by rw [NX.out]; exact HI.out), HK⟩
      case measure => simp [intOf]; omega
    · have hE := Pc.upto_end Pc.fc (Pc.none ++ Pc.text Pc.mark) X.faces k (by omega)
      have hI := HI.out
      rw [hE] at hI
      have HI2 := Aid.hid hI
      clear hI HI hE
      have HI := HI2
      clear HI2 SZ ll hk
      have hbk := RB.out _ HK.out
      have c0 := hbk.cell 0 _ rfl
      clear hbk
      try clear hE
      have hbk := RB.out _ HK.out
      have c1 := hbk.cell 1 _ rfl
      clear hbk
      have HC := Aid.hid (rmany_is (w.heap.size + 1) _ _ _ HI.out (LB (Pc.none ++ Pc.text Pc.mark ++ Pc.list Pc.fc X.faces ++ Pc.many X.classes.length) (by (try simp only [Pc.img, Pc.list, Pc.len]) <;> omega)))
      have HK1 := HK
      clear HI HK
      go_wp2_with fail
      go_at_call 23
      refine HC.out.mono ?_
      rintro e w4 ⟨rfl, h2, h3⟩
      have HI := Aid.hid h2
      have HK := Aid.hid (HK1.out.trans h3)
      clear h2 h3 HC HK1 c1 c0
      have SZ : Hid ((Pc.none ++ Pc.text Pc.mark ++ Pc.list Pc.fc X.faces).b.length + (Pc.list Pc.desc X.classes).b.length ≤ 100000000000000) := Aid.hid (by have := LB (Pc.none ++ Pc.text Pc.mark ++ Pc.list Pc.fc X.faces ++ Pc.list Pc.desc X.classes) (by (try simp only [Pc.img, Pc.list, Pc.len]) <;> omega); rwa [Pc.len] at this)
      have ll : X.classes.length ≤ 9223372036854775807 := ((RX.out _ HK.out).classes).1
      have HKB := HK
      have hbk := RB.out _ HK.out
      have c1 := hbk.cell 1 _ rfl
      clear hbk
      go_wp2_with fail
      go_loopw [6] (fun vi wr => ∃ k : Nat, vi = .int .i64 k ∧ k ≤ X.classes.length ∧ Hid (Wt.Is wr 68 (w.heap.size + 1) (Pc.upto Pc.desc (Pc.none ++ Pc.text Pc.mark ++ Pc.list Pc.fc X.faces) X.classes k)) ∧ Hid (Wt.Kp (w.heap.size + 1) ((w.alloc (.cells #[.slice X.fA X.faces.length X.fc, .slice X.cA X.classes.length X.cc, .slice X.dA X.codes.length X.dc, .slice X.nA X.insts.length X.nc, .string X.globals, .slice X.iA X.init.length X.ic, .slice X.bA X.blocks.length X.bc, .slice X.xA X.ins.length X.xc, .slice X.oA X.outs.length X.oc, .slice X.jA X.jobs.length X.jc, .int .i64 X.d, .int .i64 X.w] 29)).alloc (.cells #[.slice none 0 0, .bool false] 68)) wr)) (fun vi _ => X.classes.length - (intOf vi).toNat)
      case atStart => exact ⟨0, rfl, Nat.zero_le _, Aid.hid (by rw [Pc.upto_zero]; exact HI.out), HK⟩
      case round =>
        clear HI HK HKB c1
        obtain ⟨k, rfl, hk, HI, HK⟩ := hrel
        by_cases hlt : k < X.classes.length
        · obtain ⟨x, hx⟩ : ∃ x, X.classes[k]? = some x := ⟨_, List.getElem?_eq_getElem hlt⟩
          have hlw := (RX.out _ HK.out).classes
          obtain ⟨b, off, hA, hbp, hc⟩ := Rows.get hlw.2.1 hx
          have HA := Aid.hid hA
          clear hA
          have x0 := hc 0 _ rfl
          have x1 := hc 1 _ rfl
          have x2 := hc 2 _ rfl
          have x3 := hc 3 _ rfl
          have x4 := hc 4 _ rfl
          have x5 := hc 5 _ rfl
          simp only [Nat.mul_one, Nat.add_zero] at x0
          have hp := HI.out.lt
          have HXA := Aid.hid (hlw.2.2 x (List.mem_of_getElem? hx))
          have HK0 := HK
          have lx := Pc.upto_lt Pc.desc (Pc.none ++ Pc.text Pc.mark ++ Pc.list Pc.fc X.faces) X.classes k x hx
          have LBX : ∀ t : Pc, t.b.length ≤ (Pc.upto Pc.desc (Pc.none ++ Pc.text Pc.mark ++ Pc.list Pc.fc X.faces) X.classes k ++ Pc.desc x).b.length → t.b.length ≤ 100000000000000 := fun t h => Nat.le_trans (Nat.le_trans h lx) (by rw [Pc.len]; exact SZ.out)
          have NX : Hid (Pc.upto Pc.desc (Pc.none ++ Pc.text Pc.mark ++ Pc.list Pc.fc X.faces) X.classes (k + 1) = Pc.upto Pc.desc (Pc.none ++ Pc.text Pc.mark ++ Pc.list Pc.fc X.faces) X.classes k ++ Pc.desc x) := Aid.hid (by rw [Pc.upto_next Pc.desc _ X.classes k x hx] <;> simp only [Pc.assoc])
          clear hc hx hlw lx
          have hbk := RB.out _ HK.out
          have c1 := hbk.cell 1 _ rfl
          rw [HA.out] at c1
          clear hbk
          have HC := Aid.hid (rdesc_is (w.heap.size + 1) x _ _ HI.out HXA.out (LBX (Pc.upto Pc.desc (Pc.none ++ Pc.text Pc.mark ++ Pc.list Pc.fc X.faces) X.classes k ++ Pc.desc x) (by (try simp only [Pc.len]) <;> omega)))
          have HK1 := HK
          clear HI HK
          go_wp2_with fail
          go_at_call 25
          refine HC.out.mono ?_
          rintro e w5 ⟨rfl, h2, h3⟩
          have HI := Aid.hid h2
          have HK := Aid.hid (HK1.out.trans h3)
          clear h2 h3 HC HK1 c1
          go_wp2_with fail
          go_roundw
          case rel => exact ⟨k + 1, by go_num, by omega, Aid.hid (by rw [NX.out]; exact HI.out), HK⟩
          case measure => simp [intOf]; omega
        · have hE := Pc.upto_end Pc.desc (Pc.none ++ Pc.text Pc.mark ++ Pc.list Pc.fc X.faces) X.classes k (by omega)
          have hI := HI.out
          rw [hE] at hI
          have HI2 := Aid.hid hI
          clear hI HI hE
          have HI := HI2
          clear HI2 SZ ll hk
          have hbk := RB.out _ HK.out
          have c1 := hbk.cell 1 _ rfl
          clear hbk
          try clear hE
          have hbk := RB.out _ HK.out
          have c2 := hbk.cell 2 _ rfl
          clear hbk
          have HC := Aid.hid (rmany_is (w.heap.size + 1) _ _ _ HI.out (LB (Pc.none ++ Pc.text Pc.mark ++ Pc.list Pc.fc X.faces ++ Pc.list Pc.desc X.classes ++ Pc.many X.codes.length) (by (try simp only [Pc.img, Pc.list, Pc.len]) <;> omega)))
          have HK1 := HK
          clear HI HK
          go_wp2_with fail
          go_at_call 23
          refine HC.out.mono ?_
          rintro e w6 ⟨rfl, h2, h3⟩
          have HI := Aid.hid h2
          have HK := Aid.hid (HK1.out.trans h3)
          clear h2 h3 HC HK1 c2 c1
          have SZ : Hid ((Pc.none ++ Pc.text Pc.mark ++ Pc.list Pc.fc X.faces ++ Pc.list Pc.desc X.classes).b.length + (Pc.list Pc.cod X.codes).b.length ≤ 100000000000000) := Aid.hid (by have := LB (Pc.none ++ Pc.text Pc.mark ++ Pc.list Pc.fc X.faces ++ Pc.list Pc.desc X.classes ++ Pc.list Pc.cod X.codes) (by (try simp only [Pc.img, Pc.list, Pc.len]) <;> omega); rwa [Pc.len] at this)
          have ll : X.codes.length ≤ 9223372036854775807 := ((RX.out _ HK.out).codes).1
          have HKB := HK
          have hbk := RB.out _ HK.out
          have c2 := hbk.cell 2 _ rfl
          clear hbk
          go_wp2_with fail
          go_loopw [7] (fun vi wr => ∃ k : Nat, vi = .int .i64 k ∧ k ≤ X.codes.length ∧ Hid (Wt.Is wr 68 (w.heap.size + 1) (Pc.upto Pc.cod (Pc.none ++ Pc.text Pc.mark ++ Pc.list Pc.fc X.faces ++ Pc.list Pc.desc X.classes) X.codes k)) ∧ Hid (Wt.Kp (w.heap.size + 1) ((w.alloc (.cells #[.slice X.fA X.faces.length X.fc, .slice X.cA X.classes.length X.cc, .slice X.dA X.codes.length X.dc, .slice X.nA X.insts.length X.nc, .string X.globals, .slice X.iA X.init.length X.ic, .slice X.bA X.blocks.length X.bc, .slice X.xA X.ins.length X.xc, .slice X.oA X.outs.length X.oc, .slice X.jA X.jobs.length X.jc, .int .i64 X.d, .int .i64 X.w] 29)).alloc (.cells #[.slice none 0 0, .bool false] 68)) wr)) (fun vi _ => X.codes.length - (intOf vi).toNat)
          case atStart => exact ⟨0, rfl, Nat.zero_le _, Aid.hid (by rw [Pc.upto_zero]; exact HI.out), HK⟩
          case round =>
            clear HI HK HKB c2
            obtain ⟨k, rfl, hk, HI, HK⟩ := hrel
            by_cases hlt : k < X.codes.length
            · obtain ⟨x, hx⟩ : ∃ x, X.codes[k]? = some x := ⟨_, List.getElem?_eq_getElem hlt⟩
              have hlw := (RX.out _ HK.out).codes
              obtain ⟨b, off, hA, hbp, hc⟩ := Rows.get hlw.2.1 hx
              have HA := Aid.hid hA
              clear hA
              have x0 := hc 0 _ rfl
              have x1 := hc 1 _ rfl
              have x2 := hc 2 _ rfl
              have x3 := hc 3 _ rfl
              have x4 := hc 4 _ rfl
              have x5 := hc 5 _ rfl
              simp only [Nat.mul_one, Nat.add_zero] at x0
              have hp := HI.out.lt
              have HXA := Aid.hid (hlw.2.2 x (List.mem_of_getElem? hx))
              have HK0 := HK
              have lx := Pc.upto_lt Pc.cod (Pc.none ++ Pc.text Pc.mark ++ Pc.list Pc.fc X.faces ++ Pc.list Pc.desc X.classes) X.codes k x hx
              have LBX : ∀ t : Pc, t.b.length ≤ (Pc.upto Pc.cod (Pc.none ++ Pc.text Pc.mark ++ Pc.list Pc.fc X.faces ++ Pc.list Pc.desc X.classes) X.codes k ++ Pc.cod x).b.length → t.b.length ≤ 100000000000000 := fun t h => Nat.le_trans (Nat.le_trans h lx) (by rw [Pc.len]; exact SZ.out)
              have NX : Hid (Pc.upto Pc.cod (Pc.none ++ Pc.text Pc.mark ++ Pc.list Pc.fc X.faces ++ Pc.list Pc.desc X.classes) X.codes (k + 1) = Pc.upto Pc.cod (Pc.none ++ Pc.text Pc.mark ++ Pc.list Pc.fc X.faces ++ Pc.list Pc.desc X.classes) X.codes k ++ Pc.cod x) := Aid.hid (by rw [Pc.upto_next Pc.cod _ X.codes k x hx] <;> simp only [Pc.assoc])
              clear hc hx hlw lx
              have hbk := RB.out _ HK.out
              have c2 := hbk.cell 2 _ rfl
              rw [HA.out] at c2
              clear hbk
              have HC := Aid.hid (rcod_is (w.heap.size + 1) x _ _ HI.out HXA.out (LBX (Pc.upto Pc.cod (Pc.none ++ Pc.text Pc.mark ++ Pc.list Pc.fc X.faces ++ Pc.list Pc.desc X.classes) X.codes k ++ Pc.cod x) (by (try simp only [Pc.len]) <;> omega)))
              have HK1 := HK
              clear HI HK
              go_wp2_with fail
              go_at_call 26
              refine HC.out.mono ?_
              rintro e w7 ⟨rfl, h2, h3⟩
              have HI := Aid.hid h2
              have HK := Aid.hid (HK1.out.trans h3)
              clear h2 h3 HC HK1 c2
              go_wp2_with fail
              go_roundw
              case rel => exact ⟨k + 1, by go_num, by omega, Aid.hid (by rw [NX.out]; exact HI.out), HK⟩
              case measure => simp [intOf]; omega
            · have hE := Pc.upto_end Pc.cod (Pc.none ++ Pc.text Pc.mark ++ Pc.list Pc.fc X.faces ++ Pc.list Pc.desc X.classes) X.codes k (by omega)
              have hI := HI.out
              rw [hE] at hI
              have HI2 := Aid.hid hI
              clear hI HI hE
              have HI := HI2
              clear HI2 SZ ll hk
              have hbk := RB.out _ HK.out
              have c2 := hbk.cell 2 _ rfl
              clear hbk
              try clear hE
              have hbk := RB.out _ HK.out
              have c3 := hbk.cell 3 _ rfl
              clear hbk
              have HC := Aid.hid (rnums_is (w.heap.size + 1) X.nA X.nc X.insts _ _ HI.out ((RX.out _ HK.out).insts) (LB (Pc.none ++ Pc.text Pc.mark ++ Pc.list Pc.fc X.faces ++ Pc.list Pc.desc X.classes ++ Pc.list Pc.cod X.codes ++ Pc.ints X.insts) (by (try simp only [Pc.img, Pc.list, Pc.len]) <;> omega)))
              have HK1 := HK
              clear HI HK
              go_wp2_with fail
              go_at_call 27
              refine HC.out.mono ?_
              rintro e w8 ⟨rfl, h2, h3⟩
              have HI := Aid.hid h2
              have HK := Aid.hid (HK1.out.trans h3)
              clear h2 h3 HC HK1 c3 c2
              have hbk := RB.out _ HK.out
              have c4 := hbk.cell 4 _ rfl
              clear hbk
              have HC := Aid.hid (rtext_is (w.heap.size + 1) X.globals _ _ HI.out (LB (Pc.none ++ Pc.text Pc.mark ++ Pc.list Pc.fc X.faces ++ Pc.list Pc.desc X.classes ++ Pc.list Pc.cod X.codes ++ Pc.ints X.insts ++ Pc.text X.globals) (by (try simp only [Pc.img, Pc.list, Pc.len]) <;> omega)))
              have HK1 := HK
              clear HI HK
              go_wp2_with fail
              go_at_call 22
              refine HC.out.mono ?_
              rintro e w9 ⟨rfl, h2, h3⟩
              have HI := Aid.hid h2
              have HK := Aid.hid (HK1.out.trans h3)
              clear h2 h3 HC HK1 c4
              have hbk := RB.out _ HK.out
              have c5 := hbk.cell 5 _ rfl
              clear hbk
              have HC := Aid.hid (rnums_is (w.heap.size + 1) X.iA X.ic X.init _ _ HI.out ((RX.out _ HK.out).init) (LB (Pc.none ++ Pc.text Pc.mark ++ Pc.list Pc.fc X.faces ++ Pc.list Pc.desc X.classes ++ Pc.list Pc.cod X.codes ++ Pc.ints X.insts ++ Pc.text X.globals ++ Pc.ints X.init) (by (try simp only [Pc.img, Pc.list, Pc.len]) <;> omega)))
              have HK1 := HK
              clear HI HK
              go_wp2_with fail
              go_at_call 27
              refine HC.out.mono ?_
              rintro e w10 ⟨rfl, h2, h3⟩
              have HI := Aid.hid h2
              have HK := Aid.hid (HK1.out.trans h3)
              clear h2 h3 HC HK1 c5
              have hbk := RB.out _ HK.out
              have c6 := hbk.cell 6 _ rfl
              clear hbk
              have HC := Aid.hid (rnums_is (w.heap.size + 1) X.bA X.bc X.blocks _ _ HI.out ((RX.out _ HK.out).blocks) (LB (Pc.none ++ Pc.text Pc.mark ++ Pc.list Pc.fc X.faces ++ Pc.list Pc.desc X.classes ++ Pc.list Pc.cod X.codes ++ Pc.ints X.insts ++ Pc.text X.globals ++ Pc.ints X.init ++ Pc.ints X.blocks) (by (try simp only [Pc.img, Pc.list, Pc.len]) <;> omega)))
              have HK1 := HK
              clear HI HK
              go_wp2_with fail
              go_at_call 27
              refine HC.out.mono ?_
              rintro e w11 ⟨rfl, h2, h3⟩
              have HI := Aid.hid h2
              have HK := Aid.hid (HK1.out.trans h3)
              clear h2 h3 HC HK1 c6
              have hbk := RB.out _ HK.out
              have c7 := hbk.cell 7 _ rfl
              clear hbk
              have HC := Aid.hid (rlinks_is (w.heap.size + 1) X.xA X.xc X.ins _ _ HI.out ((RX.out _ HK.out).ins) (LB (Pc.none ++ Pc.text Pc.mark ++ Pc.list Pc.fc X.faces ++ Pc.list Pc.desc X.classes ++ Pc.list Pc.cod X.codes ++ Pc.ints X.insts ++ Pc.text X.globals ++ Pc.ints X.init ++ Pc.ints X.blocks ++ Pc.list Pc.lnk X.ins) (by (try simp only [Pc.img, Pc.list, Pc.len]) <;> omega)))
              have HK1 := HK
              clear HI HK
              go_wp2_with fail
              go_at_call 28
              refine HC.out.mono ?_
              rintro e w12 ⟨rfl, h2, h3⟩
              have HI := Aid.hid h2
              have HK := Aid.hid (HK1.out.trans h3)
              clear h2 h3 HC HK1 c7
              have hbk := RB.out _ HK.out
              have c8 := hbk.cell 8 _ rfl
              clear hbk
              have HC := Aid.hid (rlinks_is (w.heap.size + 1) X.oA X.oc X.outs _ _ HI.out ((RX.out _ HK.out).outs) (LB (Pc.none ++ Pc.text Pc.mark ++ Pc.list Pc.fc X.faces ++ Pc.list Pc.desc X.classes ++ Pc.list Pc.cod X.codes ++ Pc.ints X.insts ++ Pc.text X.globals ++ Pc.ints X.init ++ Pc.ints X.blocks ++ Pc.list Pc.lnk X.ins ++ Pc.list Pc.lnk X.outs) (by (try simp only [Pc.img, Pc.list, Pc.len]) <;> omega)))
              have HK1 := HK
              clear HI HK
              go_wp2_with fail
              go_at_call 28
              refine HC.out.mono ?_
              rintro e w13 ⟨rfl, h2, h3⟩
              have HI := Aid.hid h2
              have HK := Aid.hid (HK1.out.trans h3)
              clear h2 h3 HC HK1 c8
              have hbk := RB.out _ HK.out
              have c9 := hbk.cell 9 _ rfl
              clear hbk
              have HC := Aid.hid (rmany_is (w.heap.size + 1) _ _ _ HI.out (LB (Pc.none ++ Pc.text Pc.mark ++ Pc.list Pc.fc X.faces ++ Pc.list Pc.desc X.classes ++ Pc.list Pc.cod X.codes ++ Pc.ints X.insts ++ Pc.text X.globals ++ Pc.ints X.init ++ Pc.ints X.blocks ++ Pc.list Pc.lnk X.ins ++ Pc.list Pc.lnk X.outs ++ Pc.many X.jobs.length) (by (try simp only [Pc.img, Pc.list, Pc.len]) <;> omega)))
              have HK1 := HK
              clear HI HK
              go_wp2_with fail
              go_at_call 23
              refine HC.out.mono ?_
              rintro e w14 ⟨rfl, h2, h3⟩
              have HI := Aid.hid h2
              have HK := Aid.hid (HK1.out.trans h3)
              clear h2 h3 HC HK1 c9
              have SZ : Hid ((Pc.none ++ Pc.text Pc.mark ++ Pc.list Pc.fc X.faces ++ Pc.list Pc.desc X.classes ++ Pc.list Pc.cod X.codes ++ Pc.ints X.insts ++ Pc.text X.globals ++ Pc.ints X.init ++ Pc.ints X.blocks ++ Pc.list Pc.lnk X.ins ++ Pc.list Pc.lnk X.outs).b.length + (Pc.list Pc.op X.jobs).b.length ≤ 100000000000000) := Aid.hid (by have := LB (Pc.none ++ Pc.text Pc.mark ++ Pc.list Pc.fc X.faces ++ Pc.list Pc.desc X.classes ++ Pc.list Pc.cod X.codes ++ Pc.ints X.insts ++ Pc.text X.globals ++ Pc.ints X.init ++ Pc.ints X.blocks ++ Pc.list Pc.lnk X.ins ++ Pc.list Pc.lnk X.outs ++ Pc.list Pc.op X.jobs) (by (try simp only [Pc.img, Pc.list, Pc.len]) <;> omega); rwa [Pc.len] at this)
              have ll : X.jobs.length ≤ 9223372036854775807 := ((RX.out _ HK.out).jobs).1
              have HKB := HK
              have hbk := RB.out _ HK.out
              have c9 := hbk.cell 9 _ rfl
              clear hbk
              go_wp2_with fail
              go_loopw [8] (fun vi wr => ∃ k : Nat, vi = .int .i64 k ∧ k ≤ X.jobs.length ∧ Hid (Wt.Is wr 68 (w.heap.size + 1) (Pc.upto Pc.op (Pc.none ++ Pc.text Pc.mark ++ Pc.list Pc.fc X.faces ++ Pc.list Pc.desc X.classes ++ Pc.list Pc.cod X.codes ++ Pc.ints X.insts ++ Pc.text X.globals ++ Pc.ints X.init ++ Pc.ints X.blocks ++ Pc.list Pc.lnk X.ins ++ Pc.list Pc.lnk X.outs) X.jobs k)) ∧ Hid (Wt.Kp (w.heap.size + 1) ((w.alloc (.cells #[.slice X.fA X.faces.length X.fc, .slice X.cA X.classes.length X.cc, .slice X.dA X.codes.length X.dc, .slice X.nA X.insts.length X.nc, .string X.globals, .slice X.iA X.init.length X.ic, .slice X.bA X.blocks.length X.bc, .slice X.xA X.ins.length X.xc, .slice X.oA X.outs.length X.oc, .slice X.jA X.jobs.length X.jc, .int .i64 X.d, .int .i64 X.w] 29)).alloc (.cells #[.slice none 0 0, .bool false] 68)) wr)) (fun vi _ => X.jobs.length - (intOf vi).toNat)
              case atStart => exact ⟨0, rfl, Nat.zero_le _, Aid.hid (by rw [Pc.upto_zero]; exact HI.out), HK⟩
              case round =>
                clear HI HK HKB c9
                obtain ⟨k, rfl, hk, HI, HK⟩ := hrel
                by_cases hlt : k < X.jobs.length
                · obtain ⟨x, hx⟩ : ∃ x, X.jobs[k]? = some x := ⟨_, List.getElem?_eq_getElem hlt⟩
                  have hlw := (RX.out _ HK.out).jobs
                  obtain ⟨b, off, hA, hbp, hc⟩ := Rows.get hlw.2 hx
                  have HA := Aid.hid hA
                  clear hA
                  have x0 := hc 0 _ rfl
                  have x1 := hc 1 _ rfl
                  have x2 := hc 2 _ rfl
                  simp only [Nat.mul_one, Nat.add_zero] at x0
                  have hp := HI.out.lt
                  have lx := Pc.upto_lt Pc.op (Pc.none ++ Pc.text Pc.mark ++ Pc.list Pc.fc X.faces ++ Pc.list Pc.desc X.classes ++ Pc.list Pc.cod X.codes ++ Pc.ints X.insts ++ Pc.text X.globals ++ Pc.ints X.init ++ Pc.ints X.blocks ++ Pc.list Pc.lnk X.ins ++ Pc.list Pc.lnk X.outs) X.jobs k x hx
                  have LBX : ∀ t : Pc, t.b.length ≤ (Pc.upto Pc.op (Pc.none ++ Pc.text Pc.mark ++ Pc.list Pc.fc X.faces ++ Pc.list Pc.desc X.classes ++ Pc.list Pc.cod X.codes ++ Pc.ints X.insts ++ Pc.text X.globals ++ Pc.ints X.init ++ Pc.ints X.blocks ++ Pc.list Pc.lnk X.ins ++ Pc.list Pc.lnk X.outs) X.jobs k ++ Pc.op x).b.length → t.b.length ≤ 100000000000000 := fun t h => Nat.le_trans (Nat.le_trans h lx) (by rw [Pc.len]; exact SZ.out)
                  have NX : Hid (Pc.upto Pc.op (Pc.none ++ Pc.text Pc.mark ++ Pc.list Pc.fc X.faces ++ Pc.list Pc.desc X.classes ++ Pc.list Pc.cod X.codes ++ Pc.ints X.insts ++ Pc.text X.globals ++ Pc.ints X.init ++ Pc.ints X.blocks ++ Pc.list Pc.lnk X.ins ++ Pc.list Pc.lnk X.outs) X.jobs (k + 1) = Pc.upto Pc.op (Pc.none ++ Pc.text Pc.mark ++ Pc.list Pc.fc X.faces ++ Pc.list Pc.desc X.classes ++ Pc.list Pc.cod X.codes ++ Pc.ints X.insts ++ Pc.text X.globals ++ Pc.ints X.init ++ Pc.ints X.blocks ++ Pc.list Pc.lnk X.ins ++ Pc.list Pc.lnk X.outs) X.jobs k ++ Pc.num x.k ++ Pc.num x.a ++ Pc.num x.b) := Aid.hid (by rw [Pc.upto_next Pc.op _ X.jobs k x hx] <;> simp only [Pc.op_eq, Pc.assoc])
                  clear hc hx hlw lx
                  have hbk := RB.out _ HK.out
                  have c9 := hbk.cell 9 _ rfl
                  rw [HA.out] at c9
                  clear hbk
                  have HC := Aid.hid (rnum_is (w.heap.size + 1) x.k _ _ HI.out (LBX (Pc.upto Pc.op (Pc.none ++ Pc.text Pc.mark ++ Pc.list Pc.fc X.faces ++ Pc.list Pc.desc X.classes ++ Pc.list Pc.cod X.codes ++ Pc.ints X.insts ++ Pc.text X.globals ++ Pc.ints X.init ++ Pc.ints X.blocks ++ Pc.list Pc.lnk X.ins ++ Pc.list Pc.lnk X.outs) X.jobs k ++ Pc.num x.k) (by (try simp only [Pc.op_eq, Pc.len]) <;> omega)))
                  have HK1 := HK
                  clear HI HK
                  go_wp2_with fail
                  go_at_call 29
                  refine HC.out.mono ?_
                  rintro e w15 ⟨rfl, h2, h3⟩
                  have x1 := (h3.1.cell (p := ⟨b, off + k * 3 + 1, none⟩) hbp).trans x1
                  have x2 := (h3.1.cell (p := ⟨b, off + k * 3 + 2, none⟩) hbp).trans x2
                  have HI := Aid.hid h2
                  have HK := Aid.hid (HK1.out.trans h3)
                  clear h2 h3 HC HK1 c9
                  have hbk := RB.out _ HK.out
                  have c9 := hbk.cell 9 _ rfl
                  rw [HA.out] at c9
                  clear hbk
                  have HC := Aid.hid (rnum_is (w.heap.size + 1) x.a _ _ HI.out (LBX (Pc.upto Pc.op (Pc.none ++ Pc.text Pc.mark ++ Pc.list Pc.fc X.faces ++ Pc.list Pc.desc X.classes ++ Pc.list Pc.cod X.codes ++ Pc.ints X.insts ++ Pc.text X.globals ++ Pc.ints X.init ++ Pc.ints X.blocks ++ Pc.list Pc.lnk X.ins ++ Pc.list Pc.lnk X.outs) X.jobs k ++ Pc.num x.k ++ Pc.num x.a) (by (try simp only [Pc.op_eq, Pc.len]) <;> omega)))
                  have HK1 := HK
                  clear HI HK
                  go_wp2_with fail
                  go_at_call 29
                  refine HC.out.mono ?_
                  rintro e w16 ⟨rfl, h2, h3⟩
                  have x2 := (h3.1.cell (p := ⟨b, off + k * 3 + 2, none⟩) hbp).trans x2
                  have HI := Aid.hid h2
                  have HK := Aid.hid (HK1.out.trans h3)
                  clear h2 h3 HC HK1 c9
                  have hbk := RB.out _ HK.out
                  have c9 := hbk.cell 9 _ rfl
                  rw [HA.out] at c9
                  clear hbk
                  have HC := Aid.hid (rnum_is (w.heap.size + 1) x.b _ _ HI.out (LBX (Pc.upto Pc.op (Pc.none ++ Pc.text Pc.mark ++ Pc.list Pc.fc X.faces ++ Pc.list Pc.desc X.classes ++ Pc.list Pc.cod X.codes ++ Pc.ints X.insts ++ Pc.text X.globals ++ Pc.ints X.init ++ Pc.ints X.blocks ++ Pc.list Pc.lnk X.ins ++ Pc.list Pc.lnk X.outs) X.jobs k ++ Pc.num x.k ++ Pc.num x.a ++ Pc.num x.b) (by (try simp only [Pc.op_eq, Pc.len]) <;> omega)))
                  have HK1 := HK
                  clear HI HK
                  go_wp2_with fail
                  go_at_call 29
                  refine HC.out.mono ?_
                  rintro e w17 ⟨rfl, h2, h3⟩
                  have HI := Aid.hid h2
                  have HK := Aid.hid (HK1.out.trans h3)
                  clear h2 h3 HC HK1 c9
                  go_wp2_with fail
                  go_roundw
                  case rel => exact ⟨k + 1, by go_num, by omega, Aid.hid (by rw [NX.out]; exact HI.out), HK⟩
                  case measure => simp [intOf]; omega
                · have hE := Pc.upto_end Pc.op (Pc.none ++ Pc.text Pc.mark ++ Pc.list Pc.fc X.faces ++ Pc.list Pc.desc X.classes ++ Pc.list Pc.cod X.codes ++ Pc.ints X.insts ++ Pc.text X.globals ++ Pc.ints X.init ++ Pc.ints X.blocks ++ Pc.list Pc.lnk X.ins ++ Pc.list Pc.lnk X.outs) X.jobs k (by omega)
                  have hI := HI.out
                  rw [hE] at hI
                  have HI2 := Aid.hid hI
                  clear hI HI hE
                  have HI := HI2
                  clear HI2 SZ ll hk
                  have hbk := RB.out _ HK.out
                  have c9 := hbk.cell 9 _ rfl
                  clear hbk
                  try clear hE
                  have hbk := RB.out _ HK.out
                  have c10 := hbk.cell 10 _ rfl
                  clear hbk
                  have HC := Aid.hid (rnum_is (w.heap.size + 1) X.d _ _ HI.out (LB (Pc.none ++ Pc.text Pc.mark ++ Pc.list Pc.fc X.faces ++ Pc.list Pc.desc X.classes ++ Pc.list Pc.cod X.codes ++ Pc.ints X.insts ++ Pc.text X.globals ++ Pc.ints X.init ++ Pc.ints X.blocks ++ Pc.list Pc.lnk X.ins ++ Pc.list Pc.lnk X.outs ++ Pc.list Pc.op X.jobs ++ Pc.num X.d) (by (try simp only [Pc.img, Pc.two, Pc.list, Pc.len]) <;> omega)))
                  have HK1 := HK
                  clear HI HK
                  go_wp2_with fail
                  go_at_call 29
                  refine HC.out.mono ?_
                  rintro e w18 ⟨rfl, h2, h3⟩
                  have HI := Aid.hid h2
                  have HK := Aid.hid (HK1.out.trans h3)
                  clear h2 h3 HC HK1 c10 c9
                  have hbk := RB.out _ HK.out
                  have c11 := hbk.cell 11 _ rfl
                  clear hbk
                  have HC := Aid.hid (rnum_is (w.heap.size + 1) X.w _ _ HI.out (LB (Pc.none ++ Pc.text Pc.mark ++ Pc.list Pc.fc X.faces ++ Pc.list Pc.desc X.classes ++ Pc.list Pc.cod X.codes ++ Pc.ints X.insts ++ Pc.text X.globals ++ Pc.ints X.init ++ Pc.ints X.blocks ++ Pc.list Pc.lnk X.ins ++ Pc.list Pc.lnk X.outs ++ Pc.list Pc.op X.jobs ++ Pc.num X.d ++ Pc.num X.w) (by (try simp only [Pc.img, Pc.two, Pc.list, Pc.len]) <;> omega)))
                  have HK1 := HK
                  clear HI HK
                  go_wp2_with fail
                  go_at_call 29
                  refine HC.out.mono ?_
                  rintro e w19 ⟨rfl, h2, h3⟩
                  have HI := Aid.hid h2
                  have HK := Aid.hid (HK1.out.trans h3)
                  clear h2 h3 HC HK1 c11
                  have EQ : Pc.none ++ Pc.text Pc.mark ++ Pc.list Pc.fc X.faces ++ Pc.list Pc.desc X.classes ++ Pc.list Pc.cod X.codes ++ Pc.ints X.insts ++ Pc.text X.globals ++ Pc.ints X.init ++ Pc.ints X.blocks ++ Pc.list Pc.lnk X.ins ++ Pc.list Pc.lnk X.outs ++ Pc.list Pc.op X.jobs ++ Pc.num X.d ++ Pc.num X.w = Pc.img X := by simp only [Pc.img, Pc.two, Pc.assoc, Pc.none_app]
                  have hI := HI.out
                  rw [EQ] at hI
                  clear EQ HI
                  obtain ⟨B, d, HP, HO⟩ := hI
                  have p0 := HP.cell 0 _ rfl
                  have p1 := HP.cell 1 _ rfl
                  have FB := Aid.hid (B0.out.trans (HK.out.1.mono (Nat.le_succ _)))
                  have HO1 := Aid.hid (own_lowers HO (base := w.heap.size) (by omega))
                  clear HP HO HK RB RX LB B0
                  obtain ⟨pc, hpc⟩ : ∃ pc, Pc.img X = pc := ⟨_, rfl⟩
                  have HE := Aid.hid hpc
                  rw [hpc] at p0 p1 HO1
                  clear hpc
                  cases hb : pc.x
                  · rw [hb] at p1
                    have HBB := Aid.hid hb
                    clear hb
                    go_wp2_with fail
                    go_ret2
                    exact ⟨FB.out, Or.inr ⟨by rw [HE.out]; exact HBB.out, B, d, by have h := HE.out; subst h; rfl, by rw [HE.out]; exact HO1.out⟩⟩
                  · rw [hb] at p1
                    have HBB := Aid.hid hb
                    clear hb
                    go_wp2_with fail
                    go_ret2
                    exact ⟨FB.out, Or.inl ⟨by rw [HE.out]; exact HBB.out, rfl⟩⟩
end Go.Proofs.YtaogegeidbclaaaGreatDoor
