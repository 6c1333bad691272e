/- Images compared by the laws: SameTables, SameImage. -/
import Derived.Test.YtaogegeidbclaaaGreatDoorImgSameA
namespace Go.Proofs.YtaogegeidbclaaaGreatDoor
open Go.RowKit

def Img.eqS (x y : Img) : Bool := eqAll Fc.eqb x.faces y.faces && eqAll Desc.eqb x.classes y.classes && decide (x.codes.length = y.codes.length) && eqAll Int.eqb x.insts y.insts && (x.globals.toList == y.globals.toList) && eqAll Int.eqb x.init y.init && eqAll Int.eqb x.blocks y.blocks && eqAll Lnk.eqb x.ins y.ins && eqAll Lnk.eqb x.outs y.outs && eqAll Opr.eqb x.jobs y.jobs
def Img.eqI (x y : Img) : Bool := Img.eqS x y && decide (x.d = y.d) && decide (x.w = y.w) && eqAll Cod.eqb x.codes y.codes
theorem eqAll_len_of {α : Type} {f : α → α → Bool} {xs ys : List α} (h : eqAll f xs ys = true) : xs.length = ys.length := by
  by_cases e : xs.length = ys.length
  · exact e
  · rw [eqAll_len e] at h; cases h
theorem Img.eqS_codes {x y : Img} (h : Img.eqS x y = true) : x.codes.length = y.codes.length := by
  simp only [Img.eqS, Bool.and_eq_true, decide_eq_true_eq] at h
  exact h.1.1.1.1.1.1.1.2
theorem Img.eqI_is (x y : Img) : Img.eqI x y = Img.eqb x y := by
  rw [Bool.eq_iff_iff]
  simp only [Img.eqI, Img.eqS, Img.eqb, Img.eqN, Img.eqT, Img.eqL, Bool.and_eq_true, decide_eq_true_eq]
  constructor
  · rintro ⟨⟨⟨⟨⟨⟨⟨⟨⟨⟨⟨⟨h1, h2⟩, h3⟩, h4⟩, h5⟩, h6⟩, h7⟩, h8⟩, h9⟩, h10⟩, h11⟩, h12⟩, h13⟩
    exact ⟨⟨⟨⟨⟨⟨h1, ⟨⟨h4, h5⟩, h6⟩, h7⟩, ⟨h8, h9⟩, h10⟩, h2⟩, h13⟩, h11⟩, h12⟩
  · rintro ⟨⟨⟨⟨⟨⟨h1, ⟨⟨h4, h5⟩, h6⟩, h7⟩, ⟨h8, h9⟩, h10⟩, h2⟩, h13⟩, h11⟩, h12⟩
    exact ⟨⟨⟨⟨⟨⟨⟨⟨⟨⟨⟨⟨h1, h2⟩, eqAll_len_of h13⟩, h4⟩, h5⟩, h6⟩, h7⟩, h8⟩, h9⟩, h10⟩, h11⟩, h12⟩, h13⟩
set_option maxRecDepth 100000 in
set_option maxHeartbeats 2000000 in
theorem sTables_is (B B' : Nat) (x y : Img) (w : World) (hx : Img.At w B x) (hy : Img.At w B' y) (hB : B ≤ w.heap.size) (hB' : B' ≤ w.heap.size) :
    Calls Tryz.prog 41 #[.agg #[.slice x.fA x.faces.length x.fc, .slice x.cA x.classes.length x.cc, .slice x.dA x.codes.length x.dc, .slice x.nA x.insts.length x.nc, .string x.globals, .slice x.iA x.init.length x.ic, .slice x.bA x.blocks.length x.bc, .slice x.xA x.ins.length x.xc, .slice x.oA x.outs.length x.oc, .slice x.jA x.jobs.length x.jc, .int .i64 x.d, .int .i64 x.w], .agg #[.slice y.fA y.faces.length y.fc, .slice y.cA y.classes.length y.cc, .slice y.dA y.codes.length y.dc, .slice y.nA y.insts.length y.nc, .string y.globals, .slice y.iA y.init.length y.ic, .slice y.bA y.blocks.length y.bc, .slice y.xA y.ins.length y.xc, .slice y.oA y.outs.length y.oc, .slice y.jA y.jobs.length y.jc, .int .i64 y.d, .int .i64 y.w]] w fun e w' => e = .returned (.bool (Img.eqS x y)) ∧ Below w.heap.size w w' := by
  obtain ⟨W, hW⟩ : ∃ W, ((w.alloc (.cells #[.slice x.fA x.faces.length x.fc, .slice x.cA x.classes.length x.cc, .slice x.dA x.codes.length x.dc, .slice x.nA x.insts.length x.nc, .string x.globals, .slice x.iA x.init.length x.ic, .slice x.bA x.blocks.length x.bc, .slice x.xA x.ins.length x.xc, .slice x.oA x.outs.length x.oc, .slice x.jA x.jobs.length x.jc, .int .i64 x.d, .int .i64 x.w] 29)).alloc (.cells #[.slice y.fA y.faces.length y.fc, .slice y.cA y.classes.length y.cc, .slice y.dA y.codes.length y.dc, .slice y.nA y.insts.length y.nc, .string y.globals, .slice y.iA y.init.length y.ic, .slice y.bA y.blocks.length y.bc, .slice y.xA y.ins.length y.xc, .slice y.oA y.outs.length y.oc, .slice y.jA y.jobs.length y.jc, .int .i64 y.d, .int .i64 y.w] 29)) = W := ⟨_, rfl⟩
  have hbx : Aid.Has W w.heap.size [.slice x.fA x.faces.length x.fc, .slice x.cA x.classes.length x.cc, .slice x.dA x.codes.length x.dc, .slice x.nA x.insts.length x.nc, .string x.globals, .slice x.iA x.init.length x.ic, .slice x.bA x.blocks.length x.bc, .slice x.xA x.ins.length x.xc, .slice x.oA x.outs.length x.oc, .slice x.jA x.jobs.length x.jc, .int .i64 x.d, .int .i64 x.w] 29 := by subst hW; exact (Aid.Has.new w [.slice x.fA x.faces.length x.fc, .slice x.cA x.classes.length x.cc, .slice x.dA x.codes.length x.dc, .slice x.nA x.insts.length x.nc, .string x.globals, .slice x.iA x.init.length x.ic, .slice x.bA x.blocks.length x.bc, .slice x.xA x.ins.length x.xc, .slice x.oA x.outs.length x.oc, .slice x.jA x.jobs.length x.jc, .int .i64 x.d, .int .i64 x.w] 29).alloc _
  have hby : Aid.Has W (w.heap.size + 1) [.slice y.fA y.faces.length y.fc, .slice y.cA y.classes.length y.cc, .slice y.dA y.codes.length y.dc, .slice y.nA y.insts.length y.nc, .string y.globals, .slice y.iA y.init.length y.ic, .slice y.bA y.blocks.length y.bc, .slice y.xA y.ins.length y.xc, .slice y.oA y.outs.length y.oc, .slice y.jA y.jobs.length y.jc, .int .i64 y.d, .int .i64 y.w] 29 := by
    have := Aid.Has.new (w.alloc (.cells #[.slice x.fA x.faces.length x.fc, .slice x.cA x.classes.length x.cc, .slice x.dA x.codes.length x.dc, .slice x.nA x.insts.length x.nc, .string x.globals, .slice x.iA x.init.length x.ic, .slice x.bA x.blocks.length x.bc, .slice x.xA x.ins.length x.xc, .slice x.oA x.outs.length x.oc, .slice x.jA x.jobs.length x.jc, .int .i64 x.d, .int .i64 x.w] 29)) [.slice y.fA y.faces.length y.fc, .slice y.cA y.classes.length y.cc, .slice y.dA y.codes.length y.dc, .slice y.nA y.insts.length y.nc, .string y.globals, .slice y.iA y.init.length y.ic, .slice y.bA y.blocks.length y.bc, .slice y.xA y.ins.length y.xc, .slice y.oA y.outs.length y.oc, .slice y.jA y.jobs.length y.jc, .int .i64 y.d, .int .i64 y.w] 29
    rw [World.size_alloc] at this; subst hW; exact this
  have b0 : Below w.heap.size w W := by subst hW; exact ((Below.refl _ w).alloc (Nat.le_refl _) _).alloc (by simp) _
  have sz : w.heap.size ≤ W.heap.size := b0.size
  have B0 := Aid.hid b0
  have RX : Hid (∀ wr, Below W.heap.size W wr → Aid.Has wr w.heap.size [.slice x.fA x.faces.length x.fc, .slice x.cA x.classes.length x.cc, .slice x.dA x.codes.length x.dc, .slice x.nA x.insts.length x.nc, .string x.globals, .slice x.iA x.init.length x.ic, .slice x.bA x.blocks.length x.bc, .slice x.xA x.ins.length x.xc, .slice x.oA x.outs.length x.oc, .slice x.jA x.jobs.length x.jc, .int .i64 x.d, .int .i64 x.w] 29 ∧ Img.At wr B x) := Aid.hid fun wr hb => ⟨hbx.below hb hbx.lt, (hx.below b0 hB).below hb (Nat.le_trans hB sz)⟩
  have RY : Hid (∀ wr, Below W.heap.size W wr → Aid.Has wr (w.heap.size + 1) [.slice y.fA y.faces.length y.fc, .slice y.cA y.classes.length y.cc, .slice y.dA y.codes.length y.dc, .slice y.nA y.insts.length y.nc, .string y.globals, .slice y.iA y.init.length y.ic, .slice y.bA y.blocks.length y.bc, .slice y.xA y.ins.length y.xc, .slice y.oA y.outs.length y.oc, .slice y.jA y.jobs.length y.jc, .int .i64 y.d, .int .i64 y.w] 29 ∧ Img.At wr B' y) := Aid.hid fun wr hb => ⟨hby.below hb hby.lt, (hy.below b0 hB').below hb (Nat.le_trans hB' sz)⟩
  have SZ := Aid.hid sz
  have KW : Hid (Below W.heap.size W W) := Aid.hid (Below.refl _ _)
  have FB : Hid (∀ wr, Below W.heap.size W wr → Below w.heap.size w wr) := Aid.hid fun wr hb => b0.trans (hb.mono sz)
  clear hbx hby b0 sz hx hy B0
  by_cases e0 : x.faces.length = y.faces.length
  · have g0 : ((x.faces.length : Int) != (y.faces.length : Int)) = false := by simp [e0]
    have r0 : Hid (x.faces.length = y.faces.length) := Aid.hid e0
    clear e0
    by_cases e1 : x.classes.length = y.classes.length
    · have g1 : ((x.classes.length : Int) != (y.classes.length : Int)) = false := by simp [e1]
      have r1 : Hid (x.classes.length = y.classes.length) := Aid.hid e1
      clear e1
      by_cases e2 : x.codes.length = y.codes.length
      · have g2 : ((x.codes.length : Int) != (y.codes.length : Int)) = false := by simp [e2]
        have r2 : Hid (x.codes.length = y.codes.length) := Aid.hid e2
        clear e2
        cases q3 : eqAll Int.eqb x.insts y.insts
        case true =>
          have r3 : Hid (eqAll Int.eqb x.insts y.insts = true) := Aid.hid q3
          clear q3
          cases g4 : (x.globals.toList == y.globals.toList)
          case true =>
            have r4 : Hid ((x.globals.toList == y.globals.toList) = true) := Aid.hid g4
            cases q5 : eqAll Int.eqb x.init y.init
            case true =>
              have r5 : Hid (eqAll Int.eqb x.init y.init = true) := Aid.hid q5
              clear q5
              cases q6 : eqAll Int.eqb x.blocks y.blocks
              case true =>
                have r6 : Hid (eqAll Int.eqb x.blocks y.blocks = true) := Aid.hid q6
                clear q6
                cases q7 : eqAll Lnk.eqb x.ins y.ins
                case true =>
                  have r7 : Hid (eqAll Lnk.eqb x.ins y.ins = true) := Aid.hid q7
                  clear q7
                  cases q8 : eqAll Lnk.eqb x.outs y.outs
                  case true =>
                    have r8 : Hid (eqAll Lnk.eqb x.outs y.outs = true) := Aid.hid q8
                    clear q8
                    by_cases e9 : x.jobs.length = y.jobs.length
                    · have g9 : ((x.jobs.length : Int) != (y.jobs.length : Int)) = false := by simp [e9]
                      have r9 : Hid (x.jobs.length = y.jobs.length) := Aid.hid e9
                      clear e9
                      have fx := RX.out _ KW.out
                      have fy := RY.out _ KW.out
                      have a0 := fx.1.cell 0 _ rfl
                      have b0 := fy.1.cell 0 _ rfl
                      have a1 := fx.1.cell 1 _ rfl
                      have b1 := fy.1.cell 1 _ rfl
                      have a2 := fx.1.cell 2 _ rfl
                      have b2 := fy.1.cell 2 _ rfl
                      have a3 := fx.1.cell 3 _ rfl
                      have b3 := fy.1.cell 3 _ rfl
                      have a4 := fx.1.cell 4 _ rfl
                      have b4 := fy.1.cell 4 _ rfl
                      have a5 := fx.1.cell 5 _ rfl
                      have b5 := fy.1.cell 5 _ rfl
                      have a6 := fx.1.cell 6 _ rfl
                      have b6 := fy.1.cell 6 _ rfl
                      have a7 := fx.1.cell 7 _ rfl
                      have b7 := fy.1.cell 7 _ rfl
                      have a8 := fx.1.cell 8 _ rfl
                      have b8 := fy.1.cell 8 _ rfl
                      have a9 := fx.1.cell 9 _ rfl
                      have b9 := fy.1.cell 9 _ rfl
                      have HC := Aid.hid ((sInts x.nA y.nA x.nc y.nc B B' x.insts y.insts _ (fx.2.insts) (fy.2.insts)).mono (fun e w' h => (⟨h.1.trans (by rw [r3.out]), drew_below h.2⟩ : e = .returned (.bool true) ∧ Below _ _ w')))
                      clear fx fy
                      subst hW
                      go_enter Tryz.func41, Tryz.ntmps41
                      try simp only [List.append_eq, List.cons_append, List.nil_append]
                      go_wp2_with fail
                      go_at_call 72
                      refine HC.out.mono ?_
                      rintro e v1 ⟨rfl, hb1⟩
                      have KW := Aid.hid (KW.out.trans (hb1.mono KW.out.size))
                      clear hb1 HC a0 b0 a1 b1 a2 b2 a3 b3 a4 b4 a5 b5 a6 b6 a7 b7 a8 b8 a9 b9
                      have fx := RX.out _ KW.out
                      have fy := RY.out _ KW.out
                      have a0 := fx.1.cell 0 _ rfl
                      have b0 := fy.1.cell 0 _ rfl
                      have a1 := fx.1.cell 1 _ rfl
                      have b1 := fy.1.cell 1 _ rfl
                      have a2 := fx.1.cell 2 _ rfl
                      have b2 := fy.1.cell 2 _ rfl
                      have a3 := fx.1.cell 3 _ rfl
                      have b3 := fy.1.cell 3 _ rfl
                      have a4 := fx.1.cell 4 _ rfl
                      have b4 := fy.1.cell 4 _ rfl
                      have a5 := fx.1.cell 5 _ rfl
                      have b5 := fy.1.cell 5 _ rfl
                      have a6 := fx.1.cell 6 _ rfl
                      have b6 := fy.1.cell 6 _ rfl
                      have a7 := fx.1.cell 7 _ rfl
                      have b7 := fy.1.cell 7 _ rfl
                      have a8 := fx.1.cell 8 _ rfl
                      have b8 := fy.1.cell 8 _ rfl
                      have a9 := fx.1.cell 9 _ rfl
                      have b9 := fy.1.cell 9 _ rfl
                      have HC := Aid.hid ((sInts x.iA y.iA x.ic y.ic B B' x.init y.init _ (fx.2.init) (fy.2.init)).mono (fun e w' h => (⟨h.1.trans (by rw [r5.out]), drew_below h.2⟩ : e = .returned (.bool true) ∧ Below _ _ w')))
                      clear fx fy
                      go_wp2_with fail
                      go_at_call 72
                      refine HC.out.mono ?_
                      rintro e v2 ⟨rfl, hb2⟩
                      have KW := Aid.hid (KW.out.trans (hb2.mono KW.out.size))
                      clear hb2 HC a0 b0 a1 b1 a2 b2 a3 b3 a4 b4 a5 b5 a6 b6 a7 b7 a8 b8 a9 b9
                      have fx := RX.out _ KW.out
                      have fy := RY.out _ KW.out
                      have a0 := fx.1.cell 0 _ rfl
                      have b0 := fy.1.cell 0 _ rfl
                      have a1 := fx.1.cell 1 _ rfl
                      have b1 := fy.1.cell 1 _ rfl
                      have a2 := fx.1.cell 2 _ rfl
                      have b2 := fy.1.cell 2 _ rfl
                      have a3 := fx.1.cell 3 _ rfl
                      have b3 := fy.1.cell 3 _ rfl
                      have a4 := fx.1.cell 4 _ rfl
                      have b4 := fy.1.cell 4 _ rfl
                      have a5 := fx.1.cell 5 _ rfl
                      have b5 := fy.1.cell 5 _ rfl
                      have a6 := fx.1.cell 6 _ rfl
                      have b6 := fy.1.cell 6 _ rfl
                      have a7 := fx.1.cell 7 _ rfl
                      have b7 := fy.1.cell 7 _ rfl
                      have a8 := fx.1.cell 8 _ rfl
                      have b8 := fy.1.cell 8 _ rfl
                      have a9 := fx.1.cell 9 _ rfl
                      have b9 := fy.1.cell 9 _ rfl
                      have HC := Aid.hid ((sInts x.bA y.bA x.bc y.bc B B' x.blocks y.blocks _ (fx.2.blocks) (fy.2.blocks)).mono (fun e w' h => (⟨h.1.trans (by rw [r6.out]), drew_below h.2⟩ : e = .returned (.bool true) ∧ Below _ _ w')))
                      clear fx fy
                      go_wp2_with fail
                      go_at_call 72
                      refine HC.out.mono ?_
                      rintro e v3 ⟨rfl, hb3⟩
                      have KW := Aid.hid (KW.out.trans (hb3.mono KW.out.size))
                      clear hb3 HC a0 b0 a1 b1 a2 b2 a3 b3 a4 b4 a5 b5 a6 b6 a7 b7 a8 b8 a9 b9
                      have fx := RX.out _ KW.out
                      have fy := RY.out _ KW.out
                      have a0 := fx.1.cell 0 _ rfl
                      have b0 := fy.1.cell 0 _ rfl
                      have a1 := fx.1.cell 1 _ rfl
                      have b1 := fy.1.cell 1 _ rfl
                      have a2 := fx.1.cell 2 _ rfl
                      have b2 := fy.1.cell 2 _ rfl
                      have a3 := fx.1.cell 3 _ rfl
                      have b3 := fy.1.cell 3 _ rfl
                      have a4 := fx.1.cell 4 _ rfl
                      have b4 := fy.1.cell 4 _ rfl
                      have a5 := fx.1.cell 5 _ rfl
                      have b5 := fy.1.cell 5 _ rfl
                      have a6 := fx.1.cell 6 _ rfl
                      have b6 := fy.1.cell 6 _ rfl
                      have a7 := fx.1.cell 7 _ rfl
                      have b7 := fy.1.cell 7 _ rfl
                      have a8 := fx.1.cell 8 _ rfl
                      have b8 := fy.1.cell 8 _ rfl
                      have a9 := fx.1.cell 9 _ rfl
                      have b9 := fy.1.cell 9 _ rfl
                      have HC := Aid.hid ((sLinks x.xA y.xA x.xc y.xc B B' x.ins y.ins _ (fx.2.ins) (fy.2.ins)).mono (fun e w' h => (⟨h.1.trans (by rw [r7.out]), drew_below h.2⟩ : e = .returned (.bool true) ∧ Below _ _ w')))
                      clear fx fy
                      go_wp2_with fail
                      go_at_call 73
                      refine HC.out.mono ?_
                      rintro e v4 ⟨rfl, hb4⟩
                      have KW := Aid.hid (KW.out.trans (hb4.mono KW.out.size))
                      clear hb4 HC a0 b0 a1 b1 a2 b2 a3 b3 a4 b4 a5 b5 a6 b6 a7 b7 a8 b8 a9 b9
                      have fx := RX.out _ KW.out
                      have fy := RY.out _ KW.out
                      have a0 := fx.1.cell 0 _ rfl
                      have b0 := fy.1.cell 0 _ rfl
                      have a1 := fx.1.cell 1 _ rfl
                      have b1 := fy.1.cell 1 _ rfl
                      have a2 := fx.1.cell 2 _ rfl
                      have b2 := fy.1.cell 2 _ rfl
                      have a3 := fx.1.cell 3 _ rfl
                      have b3 := fy.1.cell 3 _ rfl
                      have a4 := fx.1.cell 4 _ rfl
                      have b4 := fy.1.cell 4 _ rfl
                      have a5 := fx.1.cell 5 _ rfl
                      have b5 := fy.1.cell 5 _ rfl
                      have a6 := fx.1.cell 6 _ rfl
                      have b6 := fy.1.cell 6 _ rfl
                      have a7 := fx.1.cell 7 _ rfl
                      have b7 := fy.1.cell 7 _ rfl
                      have a8 := fx.1.cell 8 _ rfl
                      have b8 := fy.1.cell 8 _ rfl
                      have a9 := fx.1.cell 9 _ rfl
                      have b9 := fy.1.cell 9 _ rfl
                      have HC := Aid.hid ((sLinks x.oA y.oA x.oc y.oc B B' x.outs y.outs _ (fx.2.outs) (fy.2.outs)).mono (fun e w' h => (⟨h.1.trans (by rw [r8.out]), drew_below h.2⟩ : e = .returned (.bool true) ∧ Below _ _ w')))
                      clear fx fy
                      go_wp2_with fail
                      go_at_call 73
                      refine HC.out.mono ?_
                      rintro e v5 ⟨rfl, hb5⟩
                      have KW := Aid.hid (KW.out.trans (hb5.mono KW.out.size))
                      clear hb5 HC a0 b0 a1 b1 a2 b2 a3 b3 a4 b4 a5 b5 a6 b6 a7 b7 a8 b8 a9 b9
                      have fx := RX.out _ KW.out
                      have fy := RY.out _ KW.out
                      have a0 := fx.1.cell 0 _ rfl
                      have b0 := fy.1.cell 0 _ rfl
                      have a1 := fx.1.cell 1 _ rfl
                      have b1 := fy.1.cell 1 _ rfl
                      have a2 := fx.1.cell 2 _ rfl
                      have b2 := fy.1.cell 2 _ rfl
                      have a3 := fx.1.cell 3 _ rfl
                      have b3 := fy.1.cell 3 _ rfl
                      have a4 := fx.1.cell 4 _ rfl
                      have b4 := fy.1.cell 4 _ rfl
                      have a5 := fx.1.cell 5 _ rfl
                      have b5 := fy.1.cell 5 _ rfl
                      have a6 := fx.1.cell 6 _ rfl
                      have b6 := fy.1.cell 6 _ rfl
                      have a7 := fx.1.cell 7 _ rfl
                      have b7 := fy.1.cell 7 _ rfl
                      have a8 := fx.1.cell 8 _ rfl
                      have b8 := fy.1.cell 8 _ rfl
                      have a9 := fx.1.cell 9 _ rfl
                      have b9 := fy.1.cell 9 _ rfl
                      clear fx fy
                      have FIN : Hid (EqTo Fc.eqb x.faces y.faces x.faces.length → eqAll Fc.eqb x.faces y.faces = true) := Aid.hid (fun h => EqTo.all r0.out h)
                      have HLY : Hid (∀ k, k < x.faces.length → ∃ z, y.faces[k]? = some z) := Aid.hid (fun k h => ⟨_, List.getElem?_eq_getElem (by have := r0.out; omega)⟩)
                      have ll : x.faces.length ≤ 9223372036854775807 := ((RX.out _ KW.out).2.faces).1
                      go_wp2_with fail
                      go_loopw [5] (fun i wr => ∃ k : Nat, i = .int .i64 k ∧ k ≤ x.faces.length ∧ Hid (EqTo Fc.eqb x.faces y.faces k) ∧ Hid (Below ((w.alloc (.cells #[.slice x.fA x.faces.length x.fc, .slice x.cA x.classes.length x.cc, .slice x.dA x.codes.length x.dc, .slice x.nA x.insts.length x.nc, .string x.globals, .slice x.iA x.init.length x.ic, .slice x.bA x.blocks.length x.bc, .slice x.xA x.ins.length x.xc, .slice x.oA x.outs.length x.oc, .slice x.jA x.jobs.length x.jc, .int .i64 x.d, .int .i64 x.w] 29)).alloc (.cells #[.slice y.fA y.faces.length y.fc, .slice y.cA y.classes.length y.cc, .slice y.dA y.codes.length y.dc, .slice y.nA y.insts.length y.nc, .string y.globals, .slice y.iA y.init.length y.ic, .slice y.bA y.blocks.length y.bc, .slice y.xA y.ins.length y.xc, .slice y.oA y.outs.length y.oc, .slice y.jA y.jobs.length y.jc, .int .i64 y.d, .int .i64 y.w] 29)).heap.size ((w.alloc (.cells #[.slice x.fA x.faces.length x.fc, .slice x.cA x.classes.length x.cc, .slice x.dA x.codes.length x.dc, .slice x.nA x.insts.length x.nc, .string x.globals, .slice x.iA x.init.length x.ic, .slice x.bA x.blocks.length x.bc, .slice x.xA x.ins.length x.xc, .slice x.oA x.outs.length x.oc, .slice x.jA x.jobs.length x.jc, .int .i64 x.d, .int .i64 x.w] 29)).alloc (.cells #[.slice y.fA y.faces.length y.fc, .slice y.cA y.classes.length y.cc, .slice y.dA y.codes.length y.dc, .slice y.nA y.insts.length y.nc, .string y.globals, .slice y.iA y.init.length y.ic, .slice y.bA y.blocks.length y.bc, .slice y.xA y.ins.length y.xc, .slice y.oA y.outs.length y.oc, .slice y.jA y.jobs.length y.jc, .int .i64 y.d, .int .i64 y.w] 29)) wr)) (fun i _ => x.faces.length - (intOf i).toNat)
                      case atStart => exact ⟨0, rfl, Nat.zero_le _, Aid.hid (EqTo.zero _ _), KW⟩
                      case round =>
                        clear KW a0 b0 a1 b1 a2 b2 a3 b3 a4 b4 a5 b5 a6 b6 a7 b7 a8 b8 a9 b9
                        obtain ⟨k, rfl, hk, EK, KW⟩ := hrel
                        have fx := RX.out _ KW.out
                        have fy := RY.out _ KW.out
                        by_cases hlt : k < x.faces.length
                        · obtain ⟨p, hp⟩ : ∃ p, x.faces[k]? = some p := ⟨_, List.getElem?_eq_getElem hlt⟩
                          obtain ⟨q, hq⟩ := HLY.out k hlt
                          have hlt2 : k < y.faces.length := by have := r0.out; omega
                          obtain ⟨p1, o1, hA, hb1, hc1⟩ := Rows.get (fx.2.faces).2.1 hp
                          obtain ⟨p2, o2, hA2, hb2, hc2⟩ := Rows.get (fy.2.faces).2.1 hq
                          have sw := Nat.le_trans SZ.out KW.out.size
                          have lt1 : p1 < wr.heap.size := by omega
                          have lt2 : p2 < wr.heap.size := by omega
                          have XA := Aid.hid ((fx.2.faces).2.2 p (List.mem_of_getElem? hp))
                          have YA := Aid.hid ((fy.2.faces).2.2 q (List.mem_of_getElem? hq))
                          have NX : Hid (Fc.eqb p q = true → EqTo Fc.eqb x.faces y.faces (k + 1)) := Aid.hid (fun h => EqTo.next EK.out hp hq h)
                          have NE : Hid (Fc.eqb p q = false → eqAll Fc.eqb x.faces y.faces = false) := Aid.hid (fun h => eqAll_no hp hq h)
                          have a0 := fx.1.cell 0 _ rfl
                          have b0 := fy.1.cell 0 _ rfl
                          rw [hA] at a0
                          rw [hA2] at b0
                          have c0 := hc1 0 _ rfl
                          have d0 := hc2 0 _ rfl
                          simp only [Nat.mul_one, Nat.add_zero] at c0 d0
                          clear hc1 hc2 hA hA2 fx fy hp hq EK
                          have CQ : ∀ (r : Bool), Fc.eqb p q = r → ∀ m, Calls Tryz.prog 74 #[.slice p.A p.l.length p.c, .slice q.A q.l.length q.c] (wr.drewN m) fun e w'' => e = .returned (.bool r) ∧ ∃ n, w'' = wr.drewN n := fun r hr m => Calls.quiet_of (hr ▸ sTexts p.A q.A p.c q.c B B' p.l q.l (wr.drewN m) XA.out YA.out)
                          cases h2 : Fc.eqb p q
                          · have NR := Aid.hid (NE.out h2)
                            have CR := CQ _ h2
                            clear NX NE CQ h2
                            go_wp2_with fail
                            go_quiet ((go_at_call 74; refine CR _))
                            go_wp2_with fail
                            have KD := Aid.hid (below_drewN' KW.out nq)
                            go_ret
                            exact ⟨by rw [show Img.eqS x y = false by simp only [Img.eqS, NR.out, Bool.and_false, Bool.false_and]]; rfl, FB.out _ KD.out⟩
                          · have NR := Aid.hid (NX.out h2)
                            have CR := CQ _ h2
                            clear NX NE CQ h2
                            go_wp2_with fail
                            go_quiet ((go_at_call 74; refine CR _))
                            go_wp2_with fail
                            have KD := Aid.hid (below_drewN' KW.out nq)
                            go_roundw
                            case rel => exact ⟨k + 1, by go_num, by omega, NR, KD⟩
                            case measure => simp [intOf]; omega
                        · have ET : Hid (eqAll Fc.eqb x.faces y.faces = true) := Aid.hid (FIN.out (by have h := EK.out; rwa [show k = x.faces.length by omega] at h))
                          have a0 := fx.1.cell 0 _ rfl
                          have b0 := fy.1.cell 0 _ rfl
                          clear fx fy FIN HLY EK ll
                          have ET5 := ET
                          clear ET
                          have FIN : Hid (EqTo Desc.eqb x.classes y.classes x.classes.length → eqAll Desc.eqb x.classes y.classes = true) := Aid.hid (fun h => EqTo.all r1.out h)
                          have HLY : Hid (∀ k, k < x.classes.length → ∃ z, y.classes[k]? = some z) := Aid.hid (fun k h => ⟨_, List.getElem?_eq_getElem (by have := r1.out; omega)⟩)
                          have ll : x.classes.length ≤ 9223372036854775807 := ((RX.out _ KW.out).2.classes).1
                          go_wp2_with fail
                          go_loopw [6] (fun i wr => ∃ k : Nat, i = .int .i64 k ∧ k ≤ x.classes.length ∧ Hid (EqTo Desc.eqb x.classes y.classes k) ∧ Hid (Below ((w.alloc (.cells #[.slice x.fA x.faces.length x.fc, .slice x.cA x.classes.length x.cc, .slice x.dA x.codes.length x.dc, .slice x.nA x.insts.length x.nc, .string x.globals, .slice x.iA x.init.length x.ic, .slice x.bA x.blocks.length x.bc, .slice x.xA x.ins.length x.xc, .slice x.oA x.outs.length x.oc, .slice x.jA x.jobs.length x.jc, .int .i64 x.d, .int .i64 x.w] 29)).alloc (.cells #[.slice y.fA y.faces.length y.fc, .slice y.cA y.classes.length y.cc, .slice y.dA y.codes.length y.dc, .slice y.nA y.insts.length y.nc, .string y.globals, .slice y.iA y.init.length y.ic, .slice y.bA y.blocks.length y.bc, .slice y.xA y.ins.length y.xc, .slice y.oA y.outs.length y.oc, .slice y.jA y.jobs.length y.jc, .int .i64 y.d, .int .i64 y.w] 29)).heap.size ((w.alloc (.cells #[.slice x.fA x.faces.length x.fc, .slice x.cA x.classes.length x.cc, .slice x.dA x.codes.length x.dc, .slice x.nA x.insts.length x.nc, .string x.globals, .slice x.iA x.init.length x.ic, .slice x.bA x.blocks.length x.bc, .slice x.xA x.ins.length x.xc, .slice x.oA x.outs.length x.oc, .slice x.jA x.jobs.length x.jc, .int .i64 x.d, .int .i64 x.w] 29)).alloc (.cells #[.slice y.fA y.faces.length y.fc, .slice y.cA y.classes.length y.cc, .slice y.dA y.codes.length y.dc, .slice y.nA y.insts.length y.nc, .string y.globals, .slice y.iA y.init.length y.ic, .slice y.bA y.blocks.length y.bc, .slice y.xA y.ins.length y.xc, .slice y.oA y.outs.length y.oc, .slice y.jA y.jobs.length y.jc, .int .i64 y.d, .int .i64 y.w] 29)) wr)) (fun i _ => x.classes.length - (intOf i).toNat)
                          case atStart => exact ⟨0, rfl, Nat.zero_le _, Aid.hid (EqTo.zero _ _), KW⟩
                          case round =>
                            clear KW a0 b0
                            obtain ⟨k, rfl, hk, EK, KW⟩ := hrel
                            have fx := RX.out _ KW.out
                            have fy := RY.out _ KW.out
                            by_cases hlt : k < x.classes.length
                            · obtain ⟨p, hp⟩ : ∃ p, x.classes[k]? = some p := ⟨_, List.getElem?_eq_getElem hlt⟩
                              obtain ⟨q, hq⟩ := HLY.out k hlt
                              have hlt2 : k < y.classes.length := by have := r1.out; omega
                              obtain ⟨p1, o1, hA, hb1, hc1⟩ := Rows.get (fx.2.classes).2.1 hp
                              obtain ⟨p2, o2, hA2, hb2, hc2⟩ := Rows.get (fy.2.classes).2.1 hq
                              have sw := Nat.le_trans SZ.out KW.out.size
                              have lt1 : p1 < wr.heap.size := by omega
                              have lt2 : p2 < wr.heap.size := by omega
                              have XA := Aid.hid ((fx.2.classes).2.2 p (List.mem_of_getElem? hp))
                              have YA := Aid.hid ((fy.2.classes).2.2 q (List.mem_of_getElem? hq))
                              have NX : Hid (Desc.eqb p q = true → EqTo Desc.eqb x.classes y.classes (k + 1)) := Aid.hid (fun h => EqTo.next EK.out hp hq h)
                              have NE : Hid (Desc.eqb p q = false → eqAll Desc.eqb x.classes y.classes = false) := Aid.hid (fun h => eqAll_no hp hq h)
                              have a1 := fx.1.cell 1 _ rfl
                              have b1 := fy.1.cell 1 _ rfl
                              rw [hA] at a1
                              rw [hA2] at b1
                              have c0 := hc1 0 _ rfl
                              have d0 := hc2 0 _ rfl
                              have c1 := hc1 1 _ rfl
                              have d1 := hc2 1 _ rfl
                              have c2 := hc1 2 _ rfl
                              have d2 := hc2 2 _ rfl
                              have c3 := hc1 3 _ rfl
                              have d3 := hc2 3 _ rfl
                              have c4 := hc1 4 _ rfl
                              have d4 := hc2 4 _ rfl
                              have c5 := hc1 5 _ rfl
                              have d5 := hc2 5 _ rfl
                              simp only [Nat.mul_one, Nat.add_zero] at c0 d0
                              clear hc1 hc2 hA hA2 fx fy hp hq EK
                              go_wp2_with fail
                              go_still_tail 10, (by kernel_rfl)
                              change wpList _ _ _ _ _ wr.drew
                              have HC := Aid.hid (sDesc_is B B' p q wr.drew XA.out YA.out (Nat.le_trans hB sw) (Nat.le_trans hB' sw))
                              have KD := Aid.hid KW.out.drew
                              clear KW
                              generalize wr.drew = wd at HC KD ⊢
                              go_wp2_with fail
                              go_at_call 75
                              refine HC.out.mono ?_
                              rintro e v ⟨rfl, hb⟩
                              have KE := Aid.hid (KD.out.trans (hb.mono KD.out.size))
                              clear hb HC KD
                              cases hr : Desc.eqb p q
                              · have NR := Aid.hid (NE.out hr)
                                clear NX NE hr
                                go_wp2_with fail
                                go_ret
                                exact ⟨by rw [show Img.eqS x y = false by simp only [Img.eqS, NR.out, Bool.and_false, Bool.false_and]]; rfl, FB.out _ KE.out⟩
                              · have NR := Aid.hid (NX.out hr)
                                clear NX NE hr
                                go_wp2_with fail
                                go_roundw
                                case rel => exact ⟨k + 1, by go_num, by omega, NR, KE⟩
                                case measure => simp [intOf]; omega
                            · have ET : Hid (eqAll Desc.eqb x.classes y.classes = true) := Aid.hid (FIN.out (by have h := EK.out; rwa [show k = x.classes.length by omega] at h))
                              have a1 := fx.1.cell 1 _ rfl
                              have b1 := fy.1.cell 1 _ rfl
                              clear fx fy FIN HLY EK ll
                              have ET6 := ET
                              clear ET
                              have FIN : Hid (EqTo Opr.eqb x.jobs y.jobs x.jobs.length → eqAll Opr.eqb x.jobs y.jobs = true) := Aid.hid (fun h => EqTo.all r9.out h)
                              have HLY : Hid (∀ k, k < x.jobs.length → ∃ z, y.jobs[k]? = some z) := Aid.hid (fun k h => ⟨_, List.getElem?_eq_getElem (by have := r9.out; omega)⟩)
                              have ll : x.jobs.length ≤ 9223372036854775807 := ((RX.out _ KW.out).2.jobs).1
                              go_wp2_with fail
                              go_loopw [7] (fun i wr => ∃ k : Nat, i = .int .i64 k ∧ k ≤ x.jobs.length ∧ Hid (EqTo Opr.eqb x.jobs y.jobs k) ∧ Hid (Below ((w.alloc (.cells #[.slice x.fA x.faces.length x.fc, .slice x.cA x.classes.length x.cc, .slice x.dA x.codes.length x.dc, .slice x.nA x.insts.length x.nc, .string x.globals, .slice x.iA x.init.length x.ic, .slice x.bA x.blocks.length x.bc, .slice x.xA x.ins.length x.xc, .slice x.oA x.outs.length x.oc, .slice x.jA x.jobs.length x.jc, .int .i64 x.d, .int .i64 x.w] 29)).alloc (.cells #[.slice y.fA y.faces.length y.fc, .slice y.cA y.classes.length y.cc, .slice y.dA y.codes.length y.dc, .slice y.nA y.insts.length y.nc, .string y.globals, .slice y.iA y.init.length y.ic, .slice y.bA y.blocks.length y.bc, .slice y.xA y.ins.length y.xc, .slice y.oA y.outs.length y.oc, .slice y.jA y.jobs.length y.jc, .int .i64 y.d, .int .i64 y.w] 29)).heap.size ((w.alloc (.cells #[.slice x.fA x.faces.length x.fc, .slice x.cA x.classes.length x.cc, .slice x.dA x.codes.length x.dc, .slice x.nA x.insts.length x.nc, .string x.globals, .slice x.iA x.init.length x.ic, .slice x.bA x.blocks.length x.bc, .slice x.xA x.ins.length x.xc, .slice x.oA x.outs.length x.oc, .slice x.jA x.jobs.length x.jc, .int .i64 x.d, .int .i64 x.w] 29)).alloc (.cells #[.slice y.fA y.faces.length y.fc, .slice y.cA y.classes.length y.cc, .slice y.dA y.codes.length y.dc, .slice y.nA y.insts.length y.nc, .string y.globals, .slice y.iA y.init.length y.ic, .slice y.bA y.blocks.length y.bc, .slice y.xA y.ins.length y.xc, .slice y.oA y.outs.length y.oc, .slice y.jA y.jobs.length y.jc, .int .i64 y.d, .int .i64 y.w] 29)) wr)) (fun i _ => x.jobs.length - (intOf i).toNat)
                              case atStart => exact ⟨0, rfl, Nat.zero_le _, Aid.hid (EqTo.zero _ _), KW⟩
                              case round =>
                                clear KW a1 b1
                                obtain ⟨k, rfl, hk, EK, KW⟩ := hrel
                                have fx := RX.out _ KW.out
                                have fy := RY.out _ KW.out
                                by_cases hlt : k < x.jobs.length
                                · obtain ⟨p, hp⟩ : ∃ p, x.jobs[k]? = some p := ⟨_, List.getElem?_eq_getElem hlt⟩
                                  obtain ⟨q, hq⟩ := HLY.out k hlt
                                  have hlt2 : k < y.jobs.length := by have := r9.out; omega
                                  obtain ⟨p1, o1, hA, hb1, hc1⟩ := Rows.get (fx.2.jobs).2 hp
                                  obtain ⟨p2, o2, hA2, hb2, hc2⟩ := Rows.get (fy.2.jobs).2 hq
                                  have sw := Nat.le_trans SZ.out KW.out.size
                                  have lt1 : p1 < wr.heap.size := by omega
                                  have lt2 : p2 < wr.heap.size := by omega
                                  have NX : Hid (Opr.eqb p q = true → EqTo Opr.eqb x.jobs y.jobs (k + 1)) := Aid.hid (fun h => EqTo.next EK.out hp hq h)
                                  have NE : Hid (Opr.eqb p q = false → eqAll Opr.eqb x.jobs y.jobs = false) := Aid.hid (fun h => eqAll_no hp hq h)
                                  have a9 := fx.1.cell 9 _ rfl
                                  have b9 := fy.1.cell 9 _ rfl
                                  rw [hA] at a9
                                  rw [hA2] at b9
                                  have c0 := hc1 0 _ rfl
                                  have d0 := hc2 0 _ rfl
                                  have c1 := hc1 1 _ rfl
                                  have d1 := hc2 1 _ rfl
                                  have c2 := hc1 2 _ rfl
                                  have d2 := hc2 2 _ rfl
                                  simp only [Nat.mul_one, Nat.add_zero] at c0 d0
                                  clear hc1 hc2 hA hA2 fx fy hp hq EK
                                  obtain ⟨x0, x1, x2⟩ := p
                                  obtain ⟨y0, y1, y2⟩ := q
                                  by_cases h0 : x0 = y0
                                  · subst h0
                                    by_cases h1 : x1 = y1
                                    · subst h1
                                      by_cases h2 : x2 = y2
                                      · subst h2
                                        have NR := Aid.hid (NX.out (by simp [Opr.eqb]))
                                        clear NX NE
                                        go_wp2_with fail
                                        go_quiet (fail)
                                        go_wp2_with fail
                                        have KD := Aid.hid (below_drewN' KW.out nq)
                                        go_roundw
                                        case rel => exact ⟨k + 1, by go_num, by omega, NR, KD⟩
                                        case measure => simp [intOf]; omega
                                      · have g2 : (x2 == y2) = false := by simpa using h2
                                        have NR := Aid.hid (NE.out (by simp [Opr.eqb, h2]))
                                        clear NX NE
                                        go_wp2_with fail
                                        go_quiet (fail)
                                        go_wp2_with fail
                                        have KD := Aid.hid (below_drewN' KW.out nq)
                                        go_ret
                                        exact ⟨by rw [show Img.eqS x y = false by simp only [Img.eqS, NR.out, Bool.and_false, Bool.false_and]]; rfl, FB.out _ KD.out⟩
                                    · have g1 : (x1 == y1) = false := by simpa using h1
                                      have NR := Aid.hid (NE.out (by simp [Opr.eqb, h1]))
                                      clear NX NE
                                      go_wp2_with fail
                                      go_quiet (fail)
                                      go_wp2_with fail
                                      have KD := Aid.hid (below_drewN' KW.out nq)
                                      go_ret
                                      exact ⟨by rw [show Img.eqS x y = false by simp only [Img.eqS, NR.out, Bool.and_false, Bool.false_and]]; rfl, FB.out _ KD.out⟩
                                  · have g0 : (x0 == y0) = false := by simpa using h0
                                    have NR := Aid.hid (NE.out (by simp [Opr.eqb, h0]))
                                    clear NX NE
                                    go_wp2_with fail
                                    go_quiet (fail)
                                    go_wp2_with fail
                                    have KD := Aid.hid (below_drewN' KW.out nq)
                                    go_ret
                                    exact ⟨by rw [show Img.eqS x y = false by simp only [Img.eqS, NR.out, Bool.and_false, Bool.false_and]]; rfl, FB.out _ KD.out⟩
                                · have ET : Hid (eqAll Opr.eqb x.jobs y.jobs = true) := Aid.hid (FIN.out (by have h := EK.out; rwa [show k = x.jobs.length by omega] at h))
                                  have a9 := fx.1.cell 9 _ rfl
                                  have b9 := fy.1.cell 9 _ rfl
                                  clear fx fy FIN HLY EK ll
                                  have HE : Hid (Img.eqS x y = true) := Aid.hid (by simp only [Img.eqS, r3.out, r4.out, r5.out, r6.out, r7.out, r8.out, ET5.out, ET6.out, ET.out, decide_eq_true r2.out]; rfl)
                                  go_wp2_with fail
                                  go_ret
                                  exact ⟨by rw [HE.out]; rfl, FB.out _ KW.out⟩
                    · have g9 : ((x.jobs.length : Int) != (y.jobs.length : Int)) = true := by simpa using (by omega : ¬ (x.jobs.length : Int) = y.jobs.length)
                      have r9 : Hid (eqAll Opr.eqb x.jobs y.jobs = false) := Aid.hid (eqAll_len e9)
                      clear e9
                      have fx := RX.out _ KW.out
                      have fy := RY.out _ KW.out
                      have a0 := fx.1.cell 0 _ rfl
                      have b0 := fy.1.cell 0 _ rfl
                      have a1 := fx.1.cell 1 _ rfl
                      have b1 := fy.1.cell 1 _ rfl
                      have a2 := fx.1.cell 2 _ rfl
                      have b2 := fy.1.cell 2 _ rfl
                      have a3 := fx.1.cell 3 _ rfl
                      have b3 := fy.1.cell 3 _ rfl
                      have a4 := fx.1.cell 4 _ rfl
                      have b4 := fy.1.cell 4 _ rfl
                      have a5 := fx.1.cell 5 _ rfl
                      have b5 := fy.1.cell 5 _ rfl
                      have a6 := fx.1.cell 6 _ rfl
                      have b6 := fy.1.cell 6 _ rfl
                      have a7 := fx.1.cell 7 _ rfl
                      have b7 := fy.1.cell 7 _ rfl
                      have a8 := fx.1.cell 8 _ rfl
                      have b8 := fy.1.cell 8 _ rfl
                      have a9 := fx.1.cell 9 _ rfl
                      have b9 := fy.1.cell 9 _ rfl
                      have HC := Aid.hid ((sInts x.nA y.nA x.nc y.nc B B' x.insts y.insts _ (fx.2.insts) (fy.2.insts)).mono (fun e w' h => (⟨h.1.trans (by rw [r3.out]), drew_below h.2⟩ : e = .returned (.bool true) ∧ Below _ _ w')))
                      clear fx fy
                      subst hW
                      go_enter Tryz.func41, Tryz.ntmps41
                      try simp only [List.append_eq, List.cons_append, List.nil_append]
                      go_wp2_with fail
                      go_at_call 72
                      refine HC.out.mono ?_
                      rintro e v1 ⟨rfl, hb1⟩
                      have KW := Aid.hid (KW.out.trans (hb1.mono KW.out.size))
                      clear hb1 HC a0 b0 a1 b1 a2 b2 a3 b3 a4 b4 a5 b5 a6 b6 a7 b7 a8 b8 a9 b9
                      have fx := RX.out _ KW.out
                      have fy := RY.out _ KW.out
                      have a0 := fx.1.cell 0 _ rfl
                      have b0 := fy.1.cell 0 _ rfl
                      have a1 := fx.1.cell 1 _ rfl
                      have b1 := fy.1.cell 1 _ rfl
                      have a2 := fx.1.cell 2 _ rfl
                      have b2 := fy.1.cell 2 _ rfl
                      have a3 := fx.1.cell 3 _ rfl
                      have b3 := fy.1.cell 3 _ rfl
                      have a4 := fx.1.cell 4 _ rfl
                      have b4 := fy.1.cell 4 _ rfl
                      have a5 := fx.1.cell 5 _ rfl
                      have b5 := fy.1.cell 5 _ rfl
                      have a6 := fx.1.cell 6 _ rfl
                      have b6 := fy.1.cell 6 _ rfl
                      have a7 := fx.1.cell 7 _ rfl
                      have b7 := fy.1.cell 7 _ rfl
                      have a8 := fx.1.cell 8 _ rfl
                      have b8 := fy.1.cell 8 _ rfl
                      have a9 := fx.1.cell 9 _ rfl
                      have b9 := fy.1.cell 9 _ rfl
                      have HC := Aid.hid ((sInts x.iA y.iA x.ic y.ic B B' x.init y.init _ (fx.2.init) (fy.2.init)).mono (fun e w' h => (⟨h.1.trans (by rw [r5.out]), drew_below h.2⟩ : e = .returned (.bool true) ∧ Below _ _ w')))
                      clear fx fy
                      go_wp2_with fail
                      go_at_call 72
                      refine HC.out.mono ?_
                      rintro e v2 ⟨rfl, hb2⟩
                      have KW := Aid.hid (KW.out.trans (hb2.mono KW.out.size))
                      clear hb2 HC a0 b0 a1 b1 a2 b2 a3 b3 a4 b4 a5 b5 a6 b6 a7 b7 a8 b8 a9 b9
                      have fx := RX.out _ KW.out
                      have fy := RY.out _ KW.out
                      have a0 := fx.1.cell 0 _ rfl
                      have b0 := fy.1.cell 0 _ rfl
                      have a1 := fx.1.cell 1 _ rfl
                      have b1 := fy.1.cell 1 _ rfl
                      have a2 := fx.1.cell 2 _ rfl
                      have b2 := fy.1.cell 2 _ rfl
                      have a3 := fx.1.cell 3 _ rfl
                      have b3 := fy.1.cell 3 _ rfl
                      have a4 := fx.1.cell 4 _ rfl
                      have b4 := fy.1.cell 4 _ rfl
                      have a5 := fx.1.cell 5 _ rfl
                      have b5 := fy.1.cell 5 _ rfl
                      have a6 := fx.1.cell 6 _ rfl
                      have b6 := fy.1.cell 6 _ rfl
                      have a7 := fx.1.cell 7 _ rfl
                      have b7 := fy.1.cell 7 _ rfl
                      have a8 := fx.1.cell 8 _ rfl
                      have b8 := fy.1.cell 8 _ rfl
                      have a9 := fx.1.cell 9 _ rfl
                      have b9 := fy.1.cell 9 _ rfl
                      have HC := Aid.hid ((sInts x.bA y.bA x.bc y.bc B B' x.blocks y.blocks _ (fx.2.blocks) (fy.2.blocks)).mono (fun e w' h => (⟨h.1.trans (by rw [r6.out]), drew_below h.2⟩ : e = .returned (.bool true) ∧ Below _ _ w')))
                      clear fx fy
                      go_wp2_with fail
                      go_at_call 72
                      refine HC.out.mono ?_
                      rintro e v3 ⟨rfl, hb3⟩
                      have KW := Aid.hid (KW.out.trans (hb3.mono KW.out.size))
                      clear hb3 HC a0 b0 a1 b1 a2 b2 a3 b3 a4 b4 a5 b5 a6 b6 a7 b7 a8 b8 a9 b9
                      have fx := RX.out _ KW.out
                      have fy := RY.out _ KW.out
                      have a0 := fx.1.cell 0 _ rfl
                      have b0 := fy.1.cell 0 _ rfl
                      have a1 := fx.1.cell 1 _ rfl
                      have b1 := fy.1.cell 1 _ rfl
                      have a2 := fx.1.cell 2 _ rfl
                      have b2 := fy.1.cell 2 _ rfl
                      have a3 := fx.1.cell 3 _ rfl
                      have b3 := fy.1.cell 3 _ rfl
                      have a4 := fx.1.cell 4 _ rfl
                      have b4 := fy.1.cell 4 _ rfl
                      have a5 := fx.1.cell 5 _ rfl
                      have b5 := fy.1.cell 5 _ rfl
                      have a6 := fx.1.cell 6 _ rfl
                      have b6 := fy.1.cell 6 _ rfl
                      have a7 := fx.1.cell 7 _ rfl
                      have b7 := fy.1.cell 7 _ rfl
                      have a8 := fx.1.cell 8 _ rfl
                      have b8 := fy.1.cell 8 _ rfl
                      have a9 := fx.1.cell 9 _ rfl
                      have b9 := fy.1.cell 9 _ rfl
                      have HC := Aid.hid ((sLinks x.xA y.xA x.xc y.xc B B' x.ins y.ins _ (fx.2.ins) (fy.2.ins)).mono (fun e w' h => (⟨h.1.trans (by rw [r7.out]), drew_below h.2⟩ : e = .returned (.bool true) ∧ Below _ _ w')))
                      clear fx fy
                      go_wp2_with fail
                      go_at_call 73
                      refine HC.out.mono ?_
                      rintro e v4 ⟨rfl, hb4⟩
                      have KW := Aid.hid (KW.out.trans (hb4.mono KW.out.size))
                      clear hb4 HC a0 b0 a1 b1 a2 b2 a3 b3 a4 b4 a5 b5 a6 b6 a7 b7 a8 b8 a9 b9
                      have fx := RX.out _ KW.out
                      have fy := RY.out _ KW.out
                      have a0 := fx.1.cell 0 _ rfl
                      have b0 := fy.1.cell 0 _ rfl
                      have a1 := fx.1.cell 1 _ rfl
                      have b1 := fy.1.cell 1 _ rfl
                      have a2 := fx.1.cell 2 _ rfl
                      have b2 := fy.1.cell 2 _ rfl
                      have a3 := fx.1.cell 3 _ rfl
                      have b3 := fy.1.cell 3 _ rfl
                      have a4 := fx.1.cell 4 _ rfl
                      have b4 := fy.1.cell 4 _ rfl
                      have a5 := fx.1.cell 5 _ rfl
                      have b5 := fy.1.cell 5 _ rfl
                      have a6 := fx.1.cell 6 _ rfl
                      have b6 := fy.1.cell 6 _ rfl
                      have a7 := fx.1.cell 7 _ rfl
                      have b7 := fy.1.cell 7 _ rfl
                      have a8 := fx.1.cell 8 _ rfl
                      have b8 := fy.1.cell 8 _ rfl
                      have a9 := fx.1.cell 9 _ rfl
                      have b9 := fy.1.cell 9 _ rfl
                      have HC := Aid.hid ((sLinks x.oA y.oA x.oc y.oc B B' x.outs y.outs _ (fx.2.outs) (fy.2.outs)).mono (fun e w' h => (⟨h.1.trans (by rw [r8.out]), drew_below h.2⟩ : e = .returned (.bool true) ∧ Below _ _ w')))
                      clear fx fy
                      go_wp2_with fail
                      go_at_call 73
                      refine HC.out.mono ?_
                      rintro e v5 ⟨rfl, hb5⟩
                      have KW := Aid.hid (KW.out.trans (hb5.mono KW.out.size))
                      clear hb5 HC a0 b0 a1 b1 a2 b2 a3 b3 a4 b4 a5 b5 a6 b6 a7 b7 a8 b8 a9 b9
                      have fx := RX.out _ KW.out
                      have fy := RY.out _ KW.out
                      have a0 := fx.1.cell 0 _ rfl
                      have b0 := fy.1.cell 0 _ rfl
                      have a1 := fx.1.cell 1 _ rfl
                      have b1 := fy.1.cell 1 _ rfl
                      have a2 := fx.1.cell 2 _ rfl
                      have b2 := fy.1.cell 2 _ rfl
                      have a3 := fx.1.cell 3 _ rfl
                      have b3 := fy.1.cell 3 _ rfl
                      have a4 := fx.1.cell 4 _ rfl
                      have b4 := fy.1.cell 4 _ rfl
                      have a5 := fx.1.cell 5 _ rfl
                      have b5 := fy.1.cell 5 _ rfl
                      have a6 := fx.1.cell 6 _ rfl
                      have b6 := fy.1.cell 6 _ rfl
                      have a7 := fx.1.cell 7 _ rfl
                      have b7 := fy.1.cell 7 _ rfl
                      have a8 := fx.1.cell 8 _ rfl
                      have b8 := fy.1.cell 8 _ rfl
                      have a9 := fx.1.cell 9 _ rfl
                      have b9 := fy.1.cell 9 _ rfl
                      clear fx fy
                      have HE : Hid (Img.eqS x y = false) := Aid.hid (by simp only [Img.eqS, r3.out, r4.out, r5.out, r6.out, r7.out, r8.out, r9.out, Bool.and_false, Bool.false_and])
                      go_wp2_with fail
                      go_ret
                      exact ⟨by rw [HE.out]; rfl, FB.out _ KW.out⟩
                  case false =>
                    have r8 : Hid (eqAll Lnk.eqb x.outs y.outs = false) := Aid.hid q8
                    clear q8
                    have fx := RX.out _ KW.out
                    have fy := RY.out _ KW.out
                    have a0 := fx.1.cell 0 _ rfl
                    have b0 := fy.1.cell 0 _ rfl
                    have a1 := fx.1.cell 1 _ rfl
                    have b1 := fy.1.cell 1 _ rfl
                    have a2 := fx.1.cell 2 _ rfl
                    have b2 := fy.1.cell 2 _ rfl
                    have a3 := fx.1.cell 3 _ rfl
                    have b3 := fy.1.cell 3 _ rfl
                    have a4 := fx.1.cell 4 _ rfl
                    have b4 := fy.1.cell 4 _ rfl
                    have a5 := fx.1.cell 5 _ rfl
                    have b5 := fy.1.cell 5 _ rfl
                    have a6 := fx.1.cell 6 _ rfl
                    have b6 := fy.1.cell 6 _ rfl
                    have a7 := fx.1.cell 7 _ rfl
                    have b7 := fy.1.cell 7 _ rfl
                    have a8 := fx.1.cell 8 _ rfl
                    have b8 := fy.1.cell 8 _ rfl
                    have HC := Aid.hid ((sInts x.nA y.nA x.nc y.nc B B' x.insts y.insts _ (fx.2.insts) (fy.2.insts)).mono (fun e w' h => (⟨h.1.trans (by rw [r3.out]), drew_below h.2⟩ : e = .returned (.bool true) ∧ Below _ _ w')))
                    clear fx fy
                    subst hW
                    go_enter Tryz.func41, Tryz.ntmps41
                    try simp only [List.append_eq, List.cons_append, List.nil_append]
                    go_wp2_with fail
                    go_at_call 72
                    refine HC.out.mono ?_
                    rintro e v1 ⟨rfl, hb1⟩
                    have KW := Aid.hid (KW.out.trans (hb1.mono KW.out.size))
                    clear hb1 HC a0 b0 a1 b1 a2 b2 a3 b3 a4 b4 a5 b5 a6 b6 a7 b7 a8 b8
                    have fx := RX.out _ KW.out
                    have fy := RY.out _ KW.out
                    have a0 := fx.1.cell 0 _ rfl
                    have b0 := fy.1.cell 0 _ rfl
                    have a1 := fx.1.cell 1 _ rfl
                    have b1 := fy.1.cell 1 _ rfl
                    have a2 := fx.1.cell 2 _ rfl
                    have b2 := fy.1.cell 2 _ rfl
                    have a3 := fx.1.cell 3 _ rfl
                    have b3 := fy.1.cell 3 _ rfl
                    have a4 := fx.1.cell 4 _ rfl
                    have b4 := fy.1.cell 4 _ rfl
                    have a5 := fx.1.cell 5 _ rfl
                    have b5 := fy.1.cell 5 _ rfl
                    have a6 := fx.1.cell 6 _ rfl
                    have b6 := fy.1.cell 6 _ rfl
                    have a7 := fx.1.cell 7 _ rfl
                    have b7 := fy.1.cell 7 _ rfl
                    have a8 := fx.1.cell 8 _ rfl
                    have b8 := fy.1.cell 8 _ rfl
                    have HC := Aid.hid ((sInts x.iA y.iA x.ic y.ic B B' x.init y.init _ (fx.2.init) (fy.2.init)).mono (fun e w' h => (⟨h.1.trans (by rw [r5.out]), drew_below h.2⟩ : e = .returned (.bool true) ∧ Below _ _ w')))
                    clear fx fy
                    go_wp2_with fail
                    go_at_call 72
                    refine HC.out.mono ?_
                    rintro e v2 ⟨rfl, hb2⟩
                    have KW := Aid.hid (KW.out.trans (hb2.mono KW.out.size))
                    clear hb2 HC a0 b0 a1 b1 a2 b2 a3 b3 a4 b4 a5 b5 a6 b6 a7 b7 a8 b8
                    have fx := RX.out _ KW.out
                    have fy := RY.out _ KW.out
                    have a0 := fx.1.cell 0 _ rfl
                    have b0 := fy.1.cell 0 _ rfl
                    have a1 := fx.1.cell 1 _ rfl
                    have b1 := fy.1.cell 1 _ rfl
                    have a2 := fx.1.cell 2 _ rfl
                    have b2 := fy.1.cell 2 _ rfl
                    have a3 := fx.1.cell 3 _ rfl
                    have b3 := fy.1.cell 3 _ rfl
                    have a4 := fx.1.cell 4 _ rfl
                    have b4 := fy.1.cell 4 _ rfl
                    have a5 := fx.1.cell 5 _ rfl
                    have b5 := fy.1.cell 5 _ rfl
                    have a6 := fx.1.cell 6 _ rfl
                    have b6 := fy.1.cell 6 _ rfl
                    have a7 := fx.1.cell 7 _ rfl
                    have b7 := fy.1.cell 7 _ rfl
                    have a8 := fx.1.cell 8 _ rfl
                    have b8 := fy.1.cell 8 _ rfl
                    have HC := Aid.hid ((sInts x.bA y.bA x.bc y.bc B B' x.blocks y.blocks _ (fx.2.blocks) (fy.2.blocks)).mono (fun e w' h => (⟨h.1.trans (by rw [r6.out]), drew_below h.2⟩ : e = .returned (.bool true) ∧ Below _ _ w')))
                    clear fx fy
                    go_wp2_with fail
                    go_at_call 72
                    refine HC.out.mono ?_
                    rintro e v3 ⟨rfl, hb3⟩
                    have KW := Aid.hid (KW.out.trans (hb3.mono KW.out.size))
                    clear hb3 HC a0 b0 a1 b1 a2 b2 a3 b3 a4 b4 a5 b5 a6 b6 a7 b7 a8 b8
                    have fx := RX.out _ KW.out
                    have fy := RY.out _ KW.out
                    have a0 := fx.1.cell 0 _ rfl
                    have b0 := fy.1.cell 0 _ rfl
                    have a1 := fx.1.cell 1 _ rfl
                    have b1 := fy.1.cell 1 _ rfl
                    have a2 := fx.1.cell 2 _ rfl
                    have b2 := fy.1.cell 2 _ rfl
                    have a3 := fx.1.cell 3 _ rfl
                    have b3 := fy.1.cell 3 _ rfl
                    have a4 := fx.1.cell 4 _ rfl
                    have b4 := fy.1.cell 4 _ rfl
                    have a5 := fx.1.cell 5 _ rfl
                    have b5 := fy.1.cell 5 _ rfl
                    have a6 := fx.1.cell 6 _ rfl
                    have b6 := fy.1.cell 6 _ rfl
                    have a7 := fx.1.cell 7 _ rfl
                    have b7 := fy.1.cell 7 _ rfl
                    have a8 := fx.1.cell 8 _ rfl
                    have b8 := fy.1.cell 8 _ rfl
                    have HC := Aid.hid ((sLinks x.xA y.xA x.xc y.xc B B' x.ins y.ins _ (fx.2.ins) (fy.2.ins)).mono (fun e w' h => (⟨h.1.trans (by rw [r7.out]), drew_below h.2⟩ : e = .returned (.bool true) ∧ Below _ _ w')))
                    clear fx fy
                    go_wp2_with fail
                    go_at_call 73
                    refine HC.out.mono ?_
                    rintro e v4 ⟨rfl, hb4⟩
                    have KW := Aid.hid (KW.out.trans (hb4.mono KW.out.size))
                    clear hb4 HC a0 b0 a1 b1 a2 b2 a3 b3 a4 b4 a5 b5 a6 b6 a7 b7 a8 b8
                    have fx := RX.out _ KW.out
                    have fy := RY.out _ KW.out
                    have a0 := fx.1.cell 0 _ rfl
                    have b0 := fy.1.cell 0 _ rfl
                    have a1 := fx.1.cell 1 _ rfl
                    have b1 := fy.1.cell 1 _ rfl
                    have a2 := fx.1.cell 2 _ rfl
                    have b2 := fy.1.cell 2 _ rfl
                    have a3 := fx.1.cell 3 _ rfl
                    have b3 := fy.1.cell 3 _ rfl
                    have a4 := fx.1.cell 4 _ rfl
                    have b4 := fy.1.cell 4 _ rfl
                    have a5 := fx.1.cell 5 _ rfl
                    have b5 := fy.1.cell 5 _ rfl
                    have a6 := fx.1.cell 6 _ rfl
                    have b6 := fy.1.cell 6 _ rfl
                    have a7 := fx.1.cell 7 _ rfl
                    have b7 := fy.1.cell 7 _ rfl
                    have a8 := fx.1.cell 8 _ rfl
                    have b8 := fy.1.cell 8 _ rfl
                    have HC := Aid.hid ((sLinks x.oA y.oA x.oc y.oc B B' x.outs y.outs _ (fx.2.outs) (fy.2.outs)).mono (fun e w' h => (⟨h.1.trans (by rw [r8.out]), drew_below h.2⟩ : e = .returned (.bool false) ∧ Below _ _ w')))
                    clear fx fy
                    go_wp2_with fail
                    go_at_call 73
                    refine HC.out.mono ?_
                    rintro e v5 ⟨rfl, hb5⟩
                    have KW := Aid.hid (KW.out.trans (hb5.mono KW.out.size))
                    clear hb5 HC a0 b0 a1 b1 a2 b2 a3 b3 a4 b4 a5 b5 a6 b6 a7 b7 a8 b8
                    have fx := RX.out _ KW.out
                    have fy := RY.out _ KW.out
                    have a0 := fx.1.cell 0 _ rfl
                    have b0 := fy.1.cell 0 _ rfl
                    have a1 := fx.1.cell 1 _ rfl
                    have b1 := fy.1.cell 1 _ rfl
                    have a2 := fx.1.cell 2 _ rfl
                    have b2 := fy.1.cell 2 _ rfl
                    have a3 := fx.1.cell 3 _ rfl
                    have b3 := fy.1.cell 3 _ rfl
                    have a4 := fx.1.cell 4 _ rfl
                    have b4 := fy.1.cell 4 _ rfl
                    have a5 := fx.1.cell 5 _ rfl
                    have b5 := fy.1.cell 5 _ rfl
                    have a6 := fx.1.cell 6 _ rfl
                    have b6 := fy.1.cell 6 _ rfl
                    have a7 := fx.1.cell 7 _ rfl
                    have b7 := fy.1.cell 7 _ rfl
                    have a8 := fx.1.cell 8 _ rfl
                    have b8 := fy.1.cell 8 _ rfl
                    clear fx fy
                    have HE : Hid (Img.eqS x y = false) := Aid.hid (by simp only [Img.eqS, r3.out, r4.out, r5.out, r6.out, r7.out, r8.out, Bool.and_false, Bool.false_and])
                    go_wp2_with fail
                    go_ret
                    exact ⟨by rw [HE.out]; rfl, FB.out _ KW.out⟩
                case false =>
                  have r7 : Hid (eqAll Lnk.eqb x.ins y.ins = false) := Aid.hid q7
                  clear q7
                  have fx := RX.out _ KW.out
                  have fy := RY.out _ KW.out
                  have a0 := fx.1.cell 0 _ rfl
                  have b0 := fy.1.cell 0 _ rfl
                  have a1 := fx.1.cell 1 _ rfl
                  have b1 := fy.1.cell 1 _ rfl
                  have a2 := fx.1.cell 2 _ rfl
                  have b2 := fy.1.cell 2 _ rfl
                  have a3 := fx.1.cell 3 _ rfl
                  have b3 := fy.1.cell 3 _ rfl
                  have a4 := fx.1.cell 4 _ rfl
                  have b4 := fy.1.cell 4 _ rfl
                  have a5 := fx.1.cell 5 _ rfl
                  have b5 := fy.1.cell 5 _ rfl
                  have a6 := fx.1.cell 6 _ rfl
                  have b6 := fy.1.cell 6 _ rfl
                  have a7 := fx.1.cell 7 _ rfl
                  have b7 := fy.1.cell 7 _ rfl
                  have HC := Aid.hid ((sInts x.nA y.nA x.nc y.nc B B' x.insts y.insts _ (fx.2.insts) (fy.2.insts)).mono (fun e w' h => (⟨h.1.trans (by rw [r3.out]), drew_below h.2⟩ : e = .returned (.bool true) ∧ Below _ _ w')))
                  clear fx fy
                  subst hW
                  go_enter Tryz.func41, Tryz.ntmps41
                  try simp only [List.append_eq, List.cons_append, List.nil_append]
                  go_wp2_with fail
                  go_at_call 72
                  refine HC.out.mono ?_
                  rintro e v1 ⟨rfl, hb1⟩
                  have KW := Aid.hid (KW.out.trans (hb1.mono KW.out.size))
                  clear hb1 HC a0 b0 a1 b1 a2 b2 a3 b3 a4 b4 a5 b5 a6 b6 a7 b7
                  have fx := RX.out _ KW.out
                  have fy := RY.out _ KW.out
                  have a0 := fx.1.cell 0 _ rfl
                  have b0 := fy.1.cell 0 _ rfl
                  have a1 := fx.1.cell 1 _ rfl
                  have b1 := fy.1.cell 1 _ rfl
                  have a2 := fx.1.cell 2 _ rfl
                  have b2 := fy.1.cell 2 _ rfl
                  have a3 := fx.1.cell 3 _ rfl
                  have b3 := fy.1.cell 3 _ rfl
                  have a4 := fx.1.cell 4 _ rfl
                  have b4 := fy.1.cell 4 _ rfl
                  have a5 := fx.1.cell 5 _ rfl
                  have b5 := fy.1.cell 5 _ rfl
                  have a6 := fx.1.cell 6 _ rfl
                  have b6 := fy.1.cell 6 _ rfl
                  have a7 := fx.1.cell 7 _ rfl
                  have b7 := fy.1.cell 7 _ rfl
                  have HC := Aid.hid ((sInts x.iA y.iA x.ic y.ic B B' x.init y.init _ (fx.2.init) (fy.2.init)).mono (fun e w' h => (⟨h.1.trans (by rw [r5.out]), drew_below h.2⟩ : e = .returned (.bool true) ∧ Below _ _ w')))
                  clear fx fy
                  go_wp2_with fail
                  go_at_call 72
                  refine HC.out.mono ?_
                  rintro e v2 ⟨rfl, hb2⟩
                  have KW := Aid.hid (KW.out.trans (hb2.mono KW.out.size))
                  clear hb2 HC a0 b0 a1 b1 a2 b2 a3 b3 a4 b4 a5 b5 a6 b6 a7 b7
                  have fx := RX.out _ KW.out
                  have fy := RY.out _ KW.out
                  have a0 := fx.1.cell 0 _ rfl
                  have b0 := fy.1.cell 0 _ rfl
                  have a1 := fx.1.cell 1 _ rfl
                  have b1 := fy.1.cell 1 _ rfl
                  have a2 := fx.1.cell 2 _ rfl
                  have b2 := fy.1.cell 2 _ rfl
                  have a3 := fx.1.cell 3 _ rfl
                  have b3 := fy.1.cell 3 _ rfl
                  have a4 := fx.1.cell 4 _ rfl
                  have b4 := fy.1.cell 4 _ rfl
                  have a5 := fx.1.cell 5 _ rfl
                  have b5 := fy.1.cell 5 _ rfl
                  have a6 := fx.1.cell 6 _ rfl
                  have b6 := fy.1.cell 6 _ rfl
                  have a7 := fx.1.cell 7 _ rfl
                  have b7 := fy.1.cell 7 _ rfl
                  have HC := Aid.hid ((sInts x.bA y.bA x.bc y.bc B B' x.blocks y.blocks _ (fx.2.blocks) (fy.2.blocks)).mono (fun e w' h => (⟨h.1.trans (by rw [r6.out]), drew_below h.2⟩ : e = .returned (.bool true) ∧ Below _ _ w')))
                  clear fx fy
                  go_wp2_with fail
                  go_at_call 72
                  refine HC.out.mono ?_
                  rintro e v3 ⟨rfl, hb3⟩
                  have KW := Aid.hid (KW.out.trans (hb3.mono KW.out.size))
                  clear hb3 HC a0 b0 a1 b1 a2 b2 a3 b3 a4 b4 a5 b5 a6 b6 a7 b7
                  have fx := RX.out _ KW.out
                  have fy := RY.out _ KW.out
                  have a0 := fx.1.cell 0 _ rfl
                  have b0 := fy.1.cell 0 _ rfl
                  have a1 := fx.1.cell 1 _ rfl
                  have b1 := fy.1.cell 1 _ rfl
                  have a2 := fx.1.cell 2 _ rfl
                  have b2 := fy.1.cell 2 _ rfl
                  have a3 := fx.1.cell 3 _ rfl
                  have b3 := fy.1.cell 3 _ rfl
                  have a4 := fx.1.cell 4 _ rfl
                  have b4 := fy.1.cell 4 _ rfl
                  have a5 := fx.1.cell 5 _ rfl
                  have b5 := fy.1.cell 5 _ rfl
                  have a6 := fx.1.cell 6 _ rfl
                  have b6 := fy.1.cell 6 _ rfl
                  have a7 := fx.1.cell 7 _ rfl
                  have b7 := fy.1.cell 7 _ rfl
                  have HC := Aid.hid ((sLinks x.xA y.xA x.xc y.xc B B' x.ins y.ins _ (fx.2.ins) (fy.2.ins)).mono (fun e w' h => (⟨h.1.trans (by rw [r7.out]), drew_below h.2⟩ : e = .returned (.bool false) ∧ Below _ _ w')))
                  clear fx fy
                  go_wp2_with fail
                  go_at_call 73
                  refine HC.out.mono ?_
                  rintro e v4 ⟨rfl, hb4⟩
                  have KW := Aid.hid (KW.out.trans (hb4.mono KW.out.size))
                  clear hb4 HC a0 b0 a1 b1 a2 b2 a3 b3 a4 b4 a5 b5 a6 b6 a7 b7
                  have fx := RX.out _ KW.out
                  have fy := RY.out _ KW.out
                  have a0 := fx.1.cell 0 _ rfl
                  have b0 := fy.1.cell 0 _ rfl
                  have a1 := fx.1.cell 1 _ rfl
                  have b1 := fy.1.cell 1 _ rfl
                  have a2 := fx.1.cell 2 _ rfl
                  have b2 := fy.1.cell 2 _ rfl
                  have a3 := fx.1.cell 3 _ rfl
                  have b3 := fy.1.cell 3 _ rfl
                  have a4 := fx.1.cell 4 _ rfl
                  have b4 := fy.1.cell 4 _ rfl
                  have a5 := fx.1.cell 5 _ rfl
                  have b5 := fy.1.cell 5 _ rfl
                  have a6 := fx.1.cell 6 _ rfl
                  have b6 := fy.1.cell 6 _ rfl
                  have a7 := fx.1.cell 7 _ rfl
                  have b7 := fy.1.cell 7 _ rfl
                  clear fx fy
                  have HE : Hid (Img.eqS x y = false) := Aid.hid (by simp only [Img.eqS, r3.out, r4.out, r5.out, r6.out, r7.out, Bool.and_false, Bool.false_and])
                  go_wp2_with fail
                  go_ret
                  exact ⟨by rw [HE.out]; rfl, FB.out _ KW.out⟩
              case false =>
                have r6 : Hid (eqAll Int.eqb x.blocks y.blocks = false) := Aid.hid q6
                clear q6
                have fx := RX.out _ KW.out
                have fy := RY.out _ KW.out
                have a0 := fx.1.cell 0 _ rfl
                have b0 := fy.1.cell 0 _ rfl
                have a1 := fx.1.cell 1 _ rfl
                have b1 := fy.1.cell 1 _ rfl
                have a2 := fx.1.cell 2 _ rfl
                have b2 := fy.1.cell 2 _ rfl
                have a3 := fx.1.cell 3 _ rfl
                have b3 := fy.1.cell 3 _ rfl
                have a4 := fx.1.cell 4 _ rfl
                have b4 := fy.1.cell 4 _ rfl
                have a5 := fx.1.cell 5 _ rfl
                have b5 := fy.1.cell 5 _ rfl
                have a6 := fx.1.cell 6 _ rfl
                have b6 := fy.1.cell 6 _ rfl
                have HC := Aid.hid ((sInts x.nA y.nA x.nc y.nc B B' x.insts y.insts _ (fx.2.insts) (fy.2.insts)).mono (fun e w' h => (⟨h.1.trans (by rw [r3.out]), drew_below h.2⟩ : e = .returned (.bool true) ∧ Below _ _ w')))
                clear fx fy
                subst hW
                go_enter Tryz.func41, Tryz.ntmps41
                try simp only [List.append_eq, List.cons_append, List.nil_append]
                go_wp2_with fail
                go_at_call 72
                refine HC.out.mono ?_
                rintro e v1 ⟨rfl, hb1⟩
                have KW := Aid.hid (KW.out.trans (hb1.mono KW.out.size))
                clear hb1 HC a0 b0 a1 b1 a2 b2 a3 b3 a4 b4 a5 b5 a6 b6
                have fx := RX.out _ KW.out
                have fy := RY.out _ KW.out
                have a0 := fx.1.cell 0 _ rfl
                have b0 := fy.1.cell 0 _ rfl
                have a1 := fx.1.cell 1 _ rfl
                have b1 := fy.1.cell 1 _ rfl
                have a2 := fx.1.cell 2 _ rfl
                have b2 := fy.1.cell 2 _ rfl
                have a3 := fx.1.cell 3 _ rfl
                have b3 := fy.1.cell 3 _ rfl
                have a4 := fx.1.cell 4 _ rfl
                have b4 := fy.1.cell 4 _ rfl
                have a5 := fx.1.cell 5 _ rfl
                have b5 := fy.1.cell 5 _ rfl
                have a6 := fx.1.cell 6 _ rfl
                have b6 := fy.1.cell 6 _ rfl
                have HC := Aid.hid ((sInts x.iA y.iA x.ic y.ic B B' x.init y.init _ (fx.2.init) (fy.2.init)).mono (fun e w' h => (⟨h.1.trans (by rw [r5.out]), drew_below h.2⟩ : e = .returned (.bool true) ∧ Below _ _ w')))
                clear fx fy
                go_wp2_with fail
                go_at_call 72
                refine HC.out.mono ?_
                rintro e v2 ⟨rfl, hb2⟩
                have KW := Aid.hid (KW.out.trans (hb2.mono KW.out.size))
                clear hb2 HC a0 b0 a1 b1 a2 b2 a3 b3 a4 b4 a5 b5 a6 b6
                have fx := RX.out _ KW.out
                have fy := RY.out _ KW.out
                have a0 := fx.1.cell 0 _ rfl
                have b0 := fy.1.cell 0 _ rfl
                have a1 := fx.1.cell 1 _ rfl
                have b1 := fy.1.cell 1 _ rfl
                have a2 := fx.1.cell 2 _ rfl
                have b2 := fy.1.cell 2 _ rfl
                have a3 := fx.1.cell 3 _ rfl
                have b3 := fy.1.cell 3 _ rfl
                have a4 := fx.1.cell 4 _ rfl
                have b4 := fy.1.cell 4 _ rfl
                have a5 := fx.1.cell 5 _ rfl
                have b5 := fy.1.cell 5 _ rfl
                have a6 := fx.1.cell 6 _ rfl
                have b6 := fy.1.cell 6 _ rfl
                have HC := Aid.hid ((sInts x.bA y.bA x.bc y.bc B B' x.blocks y.blocks _ (fx.2.blocks) (fy.2.blocks)).mono (fun e w' h => (⟨h.1.trans (by rw [r6.out]), drew_below h.2⟩ : e = .returned (.bool false) ∧ Below _ _ w')))
                clear fx fy
                go_wp2_with fail
                go_at_call 72
                refine HC.out.mono ?_
                rintro e v3 ⟨rfl, hb3⟩
                have KW := Aid.hid (KW.out.trans (hb3.mono KW.out.size))
                clear hb3 HC a0 b0 a1 b1 a2 b2 a3 b3 a4 b4 a5 b5 a6 b6
                have fx := RX.out _ KW.out
                have fy := RY.out _ KW.out
                have a0 := fx.1.cell 0 _ rfl
                have b0 := fy.1.cell 0 _ rfl
                have a1 := fx.1.cell 1 _ rfl
                have b1 := fy.1.cell 1 _ rfl
                have a2 := fx.1.cell 2 _ rfl
                have b2 := fy.1.cell 2 _ rfl
                have a3 := fx.1.cell 3 _ rfl
                have b3 := fy.1.cell 3 _ rfl
                have a4 := fx.1.cell 4 _ rfl
                have b4 := fy.1.cell 4 _ rfl
                have a5 := fx.1.cell 5 _ rfl
                have b5 := fy.1.cell 5 _ rfl
                have a6 := fx.1.cell 6 _ rfl
                have b6 := fy.1.cell 6 _ rfl
                clear fx fy
                have HE : Hid (Img.eqS x y = false) := Aid.hid (by simp only [Img.eqS, r3.out, r4.out, r5.out, r6.out, Bool.and_false, Bool.false_and])
                go_wp2_with fail
                go_ret
                exact ⟨by rw [HE.out]; rfl, FB.out _ KW.out⟩
            case false =>
              have r5 : Hid (eqAll Int.eqb x.init y.init = false) := Aid.hid q5
              clear q5
              have fx := RX.out _ KW.out
              have fy := RY.out _ KW.out
              have a0 := fx.1.cell 0 _ rfl
              have b0 := fy.1.cell 0 _ rfl
              have a1 := fx.1.cell 1 _ rfl
              have b1 := fy.1.cell 1 _ rfl
              have a2 := fx.1.cell 2 _ rfl
              have b2 := fy.1.cell 2 _ rfl
              have a3 := fx.1.cell 3 _ rfl
              have b3 := fy.1.cell 3 _ rfl
              have a4 := fx.1.cell 4 _ rfl
              have b4 := fy.1.cell 4 _ rfl
              have a5 := fx.1.cell 5 _ rfl
              have b5 := fy.1.cell 5 _ rfl
              have HC := Aid.hid ((sInts x.nA y.nA x.nc y.nc B B' x.insts y.insts _ (fx.2.insts) (fy.2.insts)).mono (fun e w' h => (⟨h.1.trans (by rw [r3.out]), drew_below h.2⟩ : e = .returned (.bool true) ∧ Below _ _ w')))
              clear fx fy
              subst hW
              go_enter Tryz.func41, Tryz.ntmps41
              try simp only [List.append_eq, List.cons_append, List.nil_append]
              go_wp2_with fail
              go_at_call 72
              refine HC.out.mono ?_
              rintro e v1 ⟨rfl, hb1⟩
              have KW := Aid.hid (KW.out.trans (hb1.mono KW.out.size))
              clear hb1 HC a0 b0 a1 b1 a2 b2 a3 b3 a4 b4 a5 b5
              have fx := RX.out _ KW.out
              have fy := RY.out _ KW.out
              have a0 := fx.1.cell 0 _ rfl
              have b0 := fy.1.cell 0 _ rfl
              have a1 := fx.1.cell 1 _ rfl
              have b1 := fy.1.cell 1 _ rfl
              have a2 := fx.1.cell 2 _ rfl
              have b2 := fy.1.cell 2 _ rfl
              have a3 := fx.1.cell 3 _ rfl
              have b3 := fy.1.cell 3 _ rfl
              have a4 := fx.1.cell 4 _ rfl
              have b4 := fy.1.cell 4 _ rfl
              have a5 := fx.1.cell 5 _ rfl
              have b5 := fy.1.cell 5 _ rfl
              have HC := Aid.hid ((sInts x.iA y.iA x.ic y.ic B B' x.init y.init _ (fx.2.init) (fy.2.init)).mono (fun e w' h => (⟨h.1.trans (by rw [r5.out]), drew_below h.2⟩ : e = .returned (.bool false) ∧ Below _ _ w')))
              clear fx fy
              go_wp2_with fail
              go_at_call 72
              refine HC.out.mono ?_
              rintro e v2 ⟨rfl, hb2⟩
              have KW := Aid.hid (KW.out.trans (hb2.mono KW.out.size))
              clear hb2 HC a0 b0 a1 b1 a2 b2 a3 b3 a4 b4 a5 b5
              have fx := RX.out _ KW.out
              have fy := RY.out _ KW.out
              have a0 := fx.1.cell 0 _ rfl
              have b0 := fy.1.cell 0 _ rfl
              have a1 := fx.1.cell 1 _ rfl
              have b1 := fy.1.cell 1 _ rfl
              have a2 := fx.1.cell 2 _ rfl
              have b2 := fy.1.cell 2 _ rfl
              have a3 := fx.1.cell 3 _ rfl
              have b3 := fy.1.cell 3 _ rfl
              have a4 := fx.1.cell 4 _ rfl
              have b4 := fy.1.cell 4 _ rfl
              have a5 := fx.1.cell 5 _ rfl
              have b5 := fy.1.cell 5 _ rfl
              clear fx fy
              have HE : Hid (Img.eqS x y = false) := Aid.hid (by simp only [Img.eqS, r3.out, r4.out, r5.out, Bool.and_false, Bool.false_and])
              go_wp2_with fail
              go_ret
              exact ⟨by rw [HE.out]; rfl, FB.out _ KW.out⟩
          case false =>
            have r4 : Hid ((x.globals.toList == y.globals.toList) = false) := Aid.hid g4
            have fx := RX.out _ KW.out
            have fy := RY.out _ KW.out
            have a0 := fx.1.cell 0 _ rfl
            have b0 := fy.1.cell 0 _ rfl
            have a1 := fx.1.cell 1 _ rfl
            have b1 := fy.1.cell 1 _ rfl
            have a2 := fx.1.cell 2 _ rfl
            have b2 := fy.1.cell 2 _ rfl
            have a3 := fx.1.cell 3 _ rfl
            have b3 := fy.1.cell 3 _ rfl
            have a4 := fx.1.cell 4 _ rfl
            have b4 := fy.1.cell 4 _ rfl
            have HC := Aid.hid ((sInts x.nA y.nA x.nc y.nc B B' x.insts y.insts _ (fx.2.insts) (fy.2.insts)).mono (fun e w' h => (⟨h.1.trans (by rw [r3.out]), drew_below h.2⟩ : e = .returned (.bool true) ∧ Below _ _ w')))
            clear fx fy
            subst hW
            go_enter Tryz.func41, Tryz.ntmps41
            try simp only [List.append_eq, List.cons_append, List.nil_append]
            go_wp2_with fail
            go_at_call 72
            refine HC.out.mono ?_
            rintro e v1 ⟨rfl, hb1⟩
            have KW := Aid.hid (KW.out.trans (hb1.mono KW.out.size))
            clear hb1 HC a0 b0 a1 b1 a2 b2 a3 b3 a4 b4
            have fx := RX.out _ KW.out
            have fy := RY.out _ KW.out
            have a0 := fx.1.cell 0 _ rfl
            have b0 := fy.1.cell 0 _ rfl
            have a1 := fx.1.cell 1 _ rfl
            have b1 := fy.1.cell 1 _ rfl
            have a2 := fx.1.cell 2 _ rfl
            have b2 := fy.1.cell 2 _ rfl
            have a3 := fx.1.cell 3 _ rfl
            have b3 := fy.1.cell 3 _ rfl
            have a4 := fx.1.cell 4 _ rfl
            have b4 := fy.1.cell 4 _ rfl
            clear fx fy
            have HE : Hid (Img.eqS x y = false) := Aid.hid (by simp only [Img.eqS, r3.out, r4.out, Bool.and_false, Bool.false_and])
            go_wp2_with fail
            go_ret
            exact ⟨by rw [HE.out]; rfl, FB.out _ KW.out⟩
        case false =>
          have r3 : Hid (eqAll Int.eqb x.insts y.insts = false) := Aid.hid q3
          clear q3
          have fx := RX.out _ KW.out
          have fy := RY.out _ KW.out
          have a0 := fx.1.cell 0 _ rfl
          have b0 := fy.1.cell 0 _ rfl
          have a1 := fx.1.cell 1 _ rfl
          have b1 := fy.1.cell 1 _ rfl
          have a2 := fx.1.cell 2 _ rfl
          have b2 := fy.1.cell 2 _ rfl
          have a3 := fx.1.cell 3 _ rfl
          have b3 := fy.1.cell 3 _ rfl
          have HC := Aid.hid ((sInts x.nA y.nA x.nc y.nc B B' x.insts y.insts _ (fx.2.insts) (fy.2.insts)).mono (fun e w' h => (⟨h.1.trans (by rw [r3.out]), drew_below h.2⟩ : e = .returned (.bool false) ∧ Below _ _ w')))
          clear fx fy
          subst hW
          go_enter Tryz.func41, Tryz.ntmps41
          try simp only [List.append_eq, List.cons_append, List.nil_append]
          go_wp2_with fail
          go_at_call 72
          refine HC.out.mono ?_
          rintro e v1 ⟨rfl, hb1⟩
          have KW := Aid.hid (KW.out.trans (hb1.mono KW.out.size))
          clear hb1 HC a0 b0 a1 b1 a2 b2 a3 b3
          have fx := RX.out _ KW.out
          have fy := RY.out _ KW.out
          have a0 := fx.1.cell 0 _ rfl
          have b0 := fy.1.cell 0 _ rfl
          have a1 := fx.1.cell 1 _ rfl
          have b1 := fy.1.cell 1 _ rfl
          have a2 := fx.1.cell 2 _ rfl
          have b2 := fy.1.cell 2 _ rfl
          have a3 := fx.1.cell 3 _ rfl
          have b3 := fy.1.cell 3 _ rfl
          clear fx fy
          have HE : Hid (Img.eqS x y = false) := Aid.hid (by simp only [Img.eqS, r3.out, Bool.and_false, Bool.false_and])
          go_wp2_with fail
          go_ret
          exact ⟨by rw [HE.out]; rfl, FB.out _ KW.out⟩
      · have g2 : ((x.codes.length : Int) != (y.codes.length : Int)) = true := by simpa using (by omega : ¬ (x.codes.length : Int) = y.codes.length)
        have r2 : Hid (decide (x.codes.length = y.codes.length) = false) := Aid.hid (decide_eq_false e2)
        clear e2
        have fx := RX.out _ KW.out
        have fy := RY.out _ KW.out
        have a0 := fx.1.cell 0 _ rfl
        have b0 := fy.1.cell 0 _ rfl
        have a1 := fx.1.cell 1 _ rfl
        have b1 := fy.1.cell 1 _ rfl
        have a2 := fx.1.cell 2 _ rfl
        have b2 := fy.1.cell 2 _ rfl
        clear fx fy
        subst hW
        go_enter Tryz.func41, Tryz.ntmps41
        try simp only [List.append_eq, List.cons_append, List.nil_append]
        have HE : Hid (Img.eqS x y = false) := Aid.hid (by simp only [Img.eqS, r2.out, Bool.and_false, Bool.false_and])
        go_wp2_with fail
        go_ret
        exact ⟨by rw [HE.out]; rfl, FB.out _ KW.out⟩
    · have g1 : ((x.classes.length : Int) != (y.classes.length : Int)) = true := by simpa using (by omega : ¬ (x.classes.length : Int) = y.classes.length)
      have r1 : Hid (eqAll Desc.eqb x.classes y.classes = false) := Aid.hid (eqAll_len e1)
      clear e1
      have fx := RX.out _ KW.out
      have fy := RY.out _ KW.out
      have a0 := fx.1.cell 0 _ rfl
      have b0 := fy.1.cell 0 _ rfl
      have a1 := fx.1.cell 1 _ rfl
      have b1 := fy.1.cell 1 _ rfl
      clear fx fy
      subst hW
      go_enter Tryz.func41, Tryz.ntmps41
      try simp only [List.append_eq, List.cons_append, List.nil_append]
      have HE : Hid (Img.eqS x y = false) := Aid.hid (by simp only [Img.eqS, r1.out, Bool.and_false, Bool.false_and])
      go_wp2_with fail
      go_ret
      exact ⟨by rw [HE.out]; rfl, FB.out _ KW.out⟩
  · have g0 : ((x.faces.length : Int) != (y.faces.length : Int)) = true := by simpa using (by omega : ¬ (x.faces.length : Int) = y.faces.length)
    have r0 : Hid (eqAll Fc.eqb x.faces y.faces = false) := Aid.hid (eqAll_len e0)
    clear e0
    have fx := RX.out _ KW.out
    have fy := RY.out _ KW.out
    have a0 := fx.1.cell 0 _ rfl
    have b0 := fy.1.cell 0 _ rfl
    clear fx fy
    subst hW
    go_enter Tryz.func41, Tryz.ntmps41
    try simp only [List.append_eq, List.cons_append, List.nil_append]
    have HE : Hid (Img.eqS x y = false) := Aid.hid (by simp only [Img.eqS, r0.out, Bool.and_false, Bool.false_and])
    go_wp2_with fail
    go_ret
    exact ⟨by rw [HE.out]; rfl, FB.out _ KW.out⟩
set_option maxRecDepth 100000 in
set_option maxHeartbeats 2000000 in
theorem sImage_is (B B' : Nat) (x y : Img) (w : World) (hx : Img.At w B x) (hy : Img.At w B' y) (hB : B ≤ w.heap.size) (hB' : B' ≤ w.heap.size) :
    Calls Tryz.prog 13 #[.agg #[.slice x.fA x.faces.length x.fc, .slice x.cA x.classes.length x.cc, .slice x.dA x.codes.length x.dc, .slice x.nA x.insts.length x.nc, .string x.globals, .slice x.iA x.init.length x.ic, .slice x.bA x.blocks.length x.bc, .slice x.xA x.ins.length x.xc, .slice x.oA x.outs.length x.oc, .slice x.jA x.jobs.length x.jc, .int .i64 x.d, .int .i64 x.w], .agg #[.slice y.fA y.faces.length y.fc, .slice y.cA y.classes.length y.cc, .slice y.dA y.codes.length y.dc, .slice y.nA y.insts.length y.nc, .string y.globals, .slice y.iA y.init.length y.ic, .slice y.bA y.blocks.length y.bc, .slice y.xA y.ins.length y.xc, .slice y.oA y.outs.length y.oc, .slice y.jA y.jobs.length y.jc, .int .i64 y.d, .int .i64 y.w]] w fun e w' => e = .returned (.bool (Img.eqI x y)) ∧ Below w.heap.size w w' := by
  obtain ⟨W, hW⟩ : ∃ W, ((w.alloc (.cells #[.slice x.fA x.faces.length x.fc, .slice x.cA x.classes.length x.cc, .slice x.dA x.codes.length x.dc, .slice x.nA x.insts.length x.nc, .string x.globals, .slice x.iA x.init.length x.ic, .slice x.bA x.blocks.length x.bc, .slice x.xA x.ins.length x.xc, .slice x.oA x.outs.length x.oc, .slice x.jA x.jobs.length x.jc, .int .i64 x.d, .int .i64 x.w] 29)).alloc (.cells #[.slice y.fA y.faces.length y.fc, .slice y.cA y.classes.length y.cc, .slice y.dA y.codes.length y.dc, .slice y.nA y.insts.length y.nc, .string y.globals, .slice y.iA y.init.length y.ic, .slice y.bA y.blocks.length y.bc, .slice y.xA y.ins.length y.xc, .slice y.oA y.outs.length y.oc, .slice y.jA y.jobs.length y.jc, .int .i64 y.d, .int .i64 y.w] 29)) = W := ⟨_, rfl⟩
  have hbx : Aid.Has W w.heap.size [.slice x.fA x.faces.length x.fc, .slice x.cA x.classes.length x.cc, .slice x.dA x.codes.length x.dc, .slice x.nA x.insts.length x.nc, .string x.globals, .slice x.iA x.init.length x.ic, .slice x.bA x.blocks.length x.bc, .slice x.xA x.ins.length x.xc, .slice x.oA x.outs.length x.oc, .slice x.jA x.jobs.length x.jc, .int .i64 x.d, .int .i64 x.w] 29 := by subst hW; exact (Aid.Has.new w [.slice x.fA x.faces.length x.fc, .slice x.cA x.classes.length x.cc, .slice x.dA x.codes.length x.dc, .slice x.nA x.insts.length x.nc, .string x.globals, .slice x.iA x.init.length x.ic, .slice x.bA x.blocks.length x.bc, .slice x.xA x.ins.length x.xc, .slice x.oA x.outs.length x.oc, .slice x.jA x.jobs.length x.jc, .int .i64 x.d, .int .i64 x.w] 29).alloc _
  have hby : Aid.Has W (w.heap.size + 1) [.slice y.fA y.faces.length y.fc, .slice y.cA y.classes.length y.cc, .slice y.dA y.codes.length y.dc, .slice y.nA y.insts.length y.nc, .string y.globals, .slice y.iA y.init.length y.ic, .slice y.bA y.blocks.length y.bc, .slice y.xA y.ins.length y.xc, .slice y.oA y.outs.length y.oc, .slice y.jA y.jobs.length y.jc, .int .i64 y.d, .int .i64 y.w] 29 := by
    have := Aid.Has.new (w.alloc (.cells #[.slice x.fA x.faces.length x.fc, .slice x.cA x.classes.length x.cc, .slice x.dA x.codes.length x.dc, .slice x.nA x.insts.length x.nc, .string x.globals, .slice x.iA x.init.length x.ic, .slice x.bA x.blocks.length x.bc, .slice x.xA x.ins.length x.xc, .slice x.oA x.outs.length x.oc, .slice x.jA x.jobs.length x.jc, .int .i64 x.d, .int .i64 x.w] 29)) [.slice y.fA y.faces.length y.fc, .slice y.cA y.classes.length y.cc, .slice y.dA y.codes.length y.dc, .slice y.nA y.insts.length y.nc, .string y.globals, .slice y.iA y.init.length y.ic, .slice y.bA y.blocks.length y.bc, .slice y.xA y.ins.length y.xc, .slice y.oA y.outs.length y.oc, .slice y.jA y.jobs.length y.jc, .int .i64 y.d, .int .i64 y.w] 29
    rw [World.size_alloc] at this; subst hW; exact this
  have b0 : Below w.heap.size w W := by subst hW; exact ((Below.refl _ w).alloc (Nat.le_refl _) _).alloc (by simp) _
  have sz : w.heap.size ≤ W.heap.size := b0.size
  have B0 := Aid.hid b0
  have RX : Hid (∀ wr, Below W.heap.size W wr → Aid.Has wr w.heap.size [.slice x.fA x.faces.length x.fc, .slice x.cA x.classes.length x.cc, .slice x.dA x.codes.length x.dc, .slice x.nA x.insts.length x.nc, .string x.globals, .slice x.iA x.init.length x.ic, .slice x.bA x.blocks.length x.bc, .slice x.xA x.ins.length x.xc, .slice x.oA x.outs.length x.oc, .slice x.jA x.jobs.length x.jc, .int .i64 x.d, .int .i64 x.w] 29 ∧ Img.At wr B x) := Aid.hid fun wr hb => ⟨hbx.below hb hbx.lt, (hx.below b0 hB).below hb (Nat.le_trans hB sz)⟩
  have RY : Hid (∀ wr, Below W.heap.size W wr → Aid.Has wr (w.heap.size + 1) [.slice y.fA y.faces.length y.fc, .slice y.cA y.classes.length y.cc, .slice y.dA y.codes.length y.dc, .slice y.nA y.insts.length y.nc, .string y.globals, .slice y.iA y.init.length y.ic, .slice y.bA y.blocks.length y.bc, .slice y.xA y.ins.length y.xc, .slice y.oA y.outs.length y.oc, .slice y.jA y.jobs.length y.jc, .int .i64 y.d, .int .i64 y.w] 29 ∧ Img.At wr B' y) := Aid.hid fun wr hb => ⟨hby.below hb hby.lt, (hy.below b0 hB').below hb (Nat.le_trans hB' sz)⟩
  have SZ := Aid.hid sz
  have KW : Hid (Below W.heap.size W W) := Aid.hid (Below.refl _ _)
  have FB : Hid (∀ wr, Below W.heap.size W wr → Below w.heap.size w wr) := Aid.hid fun wr hb => b0.trans (hb.mono sz)
  clear hbx hby b0 sz hx hy B0
  cases q0 : Img.eqS x y
  case true =>
    have r0 : Hid (Img.eqS x y = true) := Aid.hid q0
    clear q0
    by_cases e1 : x.d = y.d
    · have g1 : (x.d != y.d) = false := by simp [e1]
      have r1 : Hid (decide (x.d = y.d) = true) := Aid.hid (decide_eq_true e1)
      clear e1
      by_cases e2 : x.w = y.w
      · have g2 : (x.w != y.w) = false := by simp [e2]
        have r2 : Hid (decide (x.w = y.w) = true) := Aid.hid (decide_eq_true e2)
        clear e2
        have fx := RX.out _ KW.out
        have fy := RY.out _ KW.out
        have a0 := fx.1.cell 0 _ rfl
        have b0 := fy.1.cell 0 _ rfl
        have a1 := fx.1.cell 1 _ rfl
        have b1 := fy.1.cell 1 _ rfl
        have a2 := fx.1.cell 2 _ rfl
        have b2 := fy.1.cell 2 _ rfl
        have a3 := fx.1.cell 3 _ rfl
        have b3 := fy.1.cell 3 _ rfl
        have a4 := fx.1.cell 4 _ rfl
        have b4 := fy.1.cell 4 _ rfl
        have a5 := fx.1.cell 5 _ rfl
        have b5 := fy.1.cell 5 _ rfl
        have a6 := fx.1.cell 6 _ rfl
        have b6 := fy.1.cell 6 _ rfl
        have a7 := fx.1.cell 7 _ rfl
        have b7 := fy.1.cell 7 _ rfl
        have a8 := fx.1.cell 8 _ rfl
        have b8 := fy.1.cell 8 _ rfl
        have a9 := fx.1.cell 9 _ rfl
        have b9 := fy.1.cell 9 _ rfl
        have a10 := fx.1.cell 10 _ rfl
        have b10 := fy.1.cell 10 _ rfl
        have a11 := fx.1.cell 11 _ rfl
        have b11 := fy.1.cell 11 _ rfl
        have HC := Aid.hid ((sTables_is B B' x y _ fx.2 fy.2 (Nat.le_trans hB (Nat.le_trans SZ.out KW.out.size)) (Nat.le_trans hB' (Nat.le_trans SZ.out KW.out.size))).mono (fun e w' h => (⟨h.1.trans (by rw [r0.out]), h.2⟩ : e = .returned (.bool true) ∧ Below _ _ w')))
        clear fx fy
        subst hW
        go_enter Tryz.func13, Tryz.ntmps13
        try simp only [List.append_eq, List.cons_append, List.nil_append]
        go_wp2_with fail
        go_at_call 41
        refine HC.out.mono ?_
        rintro e v1 ⟨rfl, hb1⟩
        have KW := Aid.hid (KW.out.trans (hb1.mono KW.out.size))
        clear hb1 HC a0 b0 a1 b1 a2 b2 a3 b3 a4 b4 a5 b5 a6 b6 a7 b7 a8 b8 a9 b9 a10 b10 a11 b11
        have fx := RX.out _ KW.out
        have fy := RY.out _ KW.out
        have a0 := fx.1.cell 0 _ rfl
        have b0 := fy.1.cell 0 _ rfl
        have a1 := fx.1.cell 1 _ rfl
        have b1 := fy.1.cell 1 _ rfl
        have a2 := fx.1.cell 2 _ rfl
        have b2 := fy.1.cell 2 _ rfl
        have a3 := fx.1.cell 3 _ rfl
        have b3 := fy.1.cell 3 _ rfl
        have a4 := fx.1.cell 4 _ rfl
        have b4 := fy.1.cell 4 _ rfl
        have a5 := fx.1.cell 5 _ rfl
        have b5 := fy.1.cell 5 _ rfl
        have a6 := fx.1.cell 6 _ rfl
        have b6 := fy.1.cell 6 _ rfl
        have a7 := fx.1.cell 7 _ rfl
        have b7 := fy.1.cell 7 _ rfl
        have a8 := fx.1.cell 8 _ rfl
        have b8 := fy.1.cell 8 _ rfl
        have a9 := fx.1.cell 9 _ rfl
        have b9 := fy.1.cell 9 _ rfl
        have a10 := fx.1.cell 10 _ rfl
        have b10 := fy.1.cell 10 _ rfl
        have a11 := fx.1.cell 11 _ rfl
        have b11 := fy.1.cell 11 _ rfl
        clear fx fy
        have rC : Hid (x.codes.length = y.codes.length) := Aid.hid (Img.eqS_codes r0.out)
        have FIN : Hid (EqTo Cod.eqb x.codes y.codes x.codes.length → eqAll Cod.eqb x.codes y.codes = true) := Aid.hid (fun h => EqTo.all rC.out h)
        have HLY : Hid (∀ k, k < x.codes.length → ∃ z, y.codes[k]? = some z) := Aid.hid (fun k h => ⟨_, List.getElem?_eq_getElem (by have := rC.out; omega)⟩)
        have ll : x.codes.length ≤ 9223372036854775807 := ((RX.out _ KW.out).2.codes).1
        go_wp2_with fail
        go_loopw [5] (fun i wr => ∃ k : Nat, i = .int .i64 k ∧ k ≤ x.codes.length ∧ Hid (EqTo Cod.eqb x.codes y.codes k) ∧ Hid (Below ((w.alloc (.cells #[.slice x.fA x.faces.length x.fc, .slice x.cA x.classes.length x.cc, .slice x.dA x.codes.length x.dc, .slice x.nA x.insts.length x.nc, .string x.globals, .slice x.iA x.init.length x.ic, .slice x.bA x.blocks.length x.bc, .slice x.xA x.ins.length x.xc, .slice x.oA x.outs.length x.oc, .slice x.jA x.jobs.length x.jc, .int .i64 x.d, .int .i64 x.w] 29)).alloc (.cells #[.slice y.fA y.faces.length y.fc, .slice y.cA y.classes.length y.cc, .slice y.dA y.codes.length y.dc, .slice y.nA y.insts.length y.nc, .string y.globals, .slice y.iA y.init.length y.ic, .slice y.bA y.blocks.length y.bc, .slice y.xA y.ins.length y.xc, .slice y.oA y.outs.length y.oc, .slice y.jA y.jobs.length y.jc, .int .i64 y.d, .int .i64 y.w] 29)).heap.size ((w.alloc (.cells #[.slice x.fA x.faces.length x.fc, .slice x.cA x.classes.length x.cc, .slice x.dA x.codes.length x.dc, .slice x.nA x.insts.length x.nc, .string x.globals, .slice x.iA x.init.length x.ic, .slice x.bA x.blocks.length x.bc, .slice x.xA x.ins.length x.xc, .slice x.oA x.outs.length x.oc, .slice x.jA x.jobs.length x.jc, .int .i64 x.d, .int .i64 x.w] 29)).alloc (.cells #[.slice y.fA y.faces.length y.fc, .slice y.cA y.classes.length y.cc, .slice y.dA y.codes.length y.dc, .slice y.nA y.insts.length y.nc, .string y.globals, .slice y.iA y.init.length y.ic, .slice y.bA y.blocks.length y.bc, .slice y.xA y.ins.length y.xc, .slice y.oA y.outs.length y.oc, .slice y.jA y.jobs.length y.jc, .int .i64 y.d, .int .i64 y.w] 29)) wr)) (fun i _ => x.codes.length - (intOf i).toNat)
        case atStart => exact ⟨0, rfl, Nat.zero_le _, Aid.hid (EqTo.zero _ _), KW⟩
        case round =>
          clear KW a0 b0 a1 b1 a2 b2 a3 b3 a4 b4 a5 b5 a6 b6 a7 b7 a8 b8 a9 b9 a10 b10 a11 b11
          obtain ⟨k, rfl, hk, EK, KW⟩ := hrel
          have fx := RX.out _ KW.out
          have fy := RY.out _ KW.out
          by_cases hlt : k < x.codes.length
          · obtain ⟨p, hp⟩ : ∃ p, x.codes[k]? = some p := ⟨_, List.getElem?_eq_getElem hlt⟩
            obtain ⟨q, hq⟩ := HLY.out k hlt
            have hlt2 : k < y.codes.length := by have := rC.out; omega
            obtain ⟨p1, o1, hA, hb1, hc1⟩ := Rows.get (fx.2.codes).2.1 hp
            obtain ⟨p2, o2, hA2, hb2, hc2⟩ := Rows.get (fy.2.codes).2.1 hq
            have sw := Nat.le_trans SZ.out KW.out.size
            have lt1 : p1 < wr.heap.size := by omega
            have lt2 : p2 < wr.heap.size := by omega
            have XA := Aid.hid ((fx.2.codes).2.2 p (List.mem_of_getElem? hp))
            have YA := Aid.hid ((fy.2.codes).2.2 q (List.mem_of_getElem? hq))
            have NX : Hid (Cod.eqb p q = true → EqTo Cod.eqb x.codes y.codes (k + 1)) := Aid.hid (fun h => EqTo.next EK.out hp hq h)
            have NE : Hid (Cod.eqb p q = false → eqAll Cod.eqb x.codes y.codes = false) := Aid.hid (fun h => eqAll_no hp hq h)
            have a2 := fx.1.cell 2 _ rfl
            have b2 := fy.1.cell 2 _ rfl
            rw [hA] at a2
            rw [hA2] at b2
            have c0 := hc1 0 _ rfl
            have d0 := hc2 0 _ rfl
            have c1 := hc1 1 _ rfl
            have d1 := hc2 1 _ rfl
            have c2 := hc1 2 _ rfl
            have d2 := hc2 2 _ rfl
            have c3 := hc1 3 _ rfl
            have d3 := hc2 3 _ rfl
            have c4 := hc1 4 _ rfl
            have d4 := hc2 4 _ rfl
            have c5 := hc1 5 _ rfl
            have d5 := hc2 5 _ rfl
            simp only [Nat.mul_one, Nat.add_zero] at c0 d0
            clear hc1 hc2 hA hA2 fx fy hp hq EK
            go_wp2_with fail
            go_still_tail 10, (by kernel_rfl)
            change wpList _ _ _ _ _ wr.drew
            have HC := Aid.hid (sCode_is B B' p q wr.drew XA.out YA.out (Nat.le_trans hB sw) (Nat.le_trans hB' sw))
            have KD := Aid.hid KW.out.drew
            clear KW
            generalize wr.drew = wd at HC KD ⊢
            go_wp2_with fail
            go_at_call 42
            refine HC.out.mono ?_
            rintro e v ⟨rfl, hb⟩
            have KE := Aid.hid (KD.out.trans (hb.mono KD.out.size))
            clear hb HC KD
            cases hr : Cod.eqb p q
            · have NR := Aid.hid (NE.out hr)
              clear NX NE hr
              go_wp2_with fail
              go_ret
              exact ⟨by rw [show Img.eqI x y = false by simp only [Img.eqI, NR.out, Bool.and_false, Bool.false_and]]; rfl, FB.out _ KE.out⟩
            · have NR := Aid.hid (NX.out hr)
              clear NX NE hr
              go_wp2_with fail
              go_roundw
              case rel => exact ⟨k + 1, by go_num, by omega, NR, KE⟩
              case measure => simp [intOf]; omega
          · have ET : Hid (eqAll Cod.eqb x.codes y.codes = true) := Aid.hid (FIN.out (by have h := EK.out; rwa [show k = x.codes.length by omega] at h))
            have a2 := fx.1.cell 2 _ rfl
            have b2 := fy.1.cell 2 _ rfl
            clear fx fy FIN HLY EK ll
            have HE : Hid (Img.eqI x y = true) := Aid.hid (by simp only [Img.eqI, r0.out, r1.out, r2.out, ET.out]; rfl)
            go_wp2_with fail
            go_ret
            exact ⟨by rw [HE.out]; rfl, FB.out _ KW.out⟩
      · have g2 : (x.w != y.w) = true := by simpa using e2
        have r2 : Hid (decide (x.w = y.w) = false) := Aid.hid (decide_eq_false e2)
        clear e2
        have fx := RX.out _ KW.out
        have fy := RY.out _ KW.out
        have a0 := fx.1.cell 0 _ rfl
        have b0 := fy.1.cell 0 _ rfl
        have a1 := fx.1.cell 1 _ rfl
        have b1 := fy.1.cell 1 _ rfl
        have a2 := fx.1.cell 2 _ rfl
        have b2 := fy.1.cell 2 _ rfl
        have a3 := fx.1.cell 3 _ rfl
        have b3 := fy.1.cell 3 _ rfl
        have a4 := fx.1.cell 4 _ rfl
        have b4 := fy.1.cell 4 _ rfl
        have a5 := fx.1.cell 5 _ rfl
        have b5 := fy.1.cell 5 _ rfl
        have a6 := fx.1.cell 6 _ rfl
        have b6 := fy.1.cell 6 _ rfl
        have a7 := fx.1.cell 7 _ rfl
        have b7 := fy.1.cell 7 _ rfl
        have a8 := fx.1.cell 8 _ rfl
        have b8 := fy.1.cell 8 _ rfl
        have a9 := fx.1.cell 9 _ rfl
        have b9 := fy.1.cell 9 _ rfl
        have a10 := fx.1.cell 10 _ rfl
        have b10 := fy.1.cell 10 _ rfl
        have a11 := fx.1.cell 11 _ rfl
        have b11 := fy.1.cell 11 _ rfl
        have HC := Aid.hid ((sTables_is B B' x y _ fx.2 fy.2 (Nat.le_trans hB (Nat.le_trans SZ.out KW.out.size)) (Nat.le_trans hB' (Nat.le_trans SZ.out KW.out.size))).mono (fun e w' h => (⟨h.1.trans (by rw [r0.out]), h.2⟩ : e = .returned (.bool true) ∧ Below _ _ w')))
        clear fx fy
        subst hW
        go_enter Tryz.func13, Tryz.ntmps13
        try simp only [List.append_eq, List.cons_append, List.nil_append]
        go_wp2_with fail
        go_at_call 41
        refine HC.out.mono ?_
        rintro e v1 ⟨rfl, hb1⟩
        have KW := Aid.hid (KW.out.trans (hb1.mono KW.out.size))
        clear hb1 HC a0 b0 a1 b1 a2 b2 a3 b3 a4 b4 a5 b5 a6 b6 a7 b7 a8 b8 a9 b9 a10 b10 a11 b11
        have fx := RX.out _ KW.out
        have fy := RY.out _ KW.out
        have a0 := fx.1.cell 0 _ rfl
        have b0 := fy.1.cell 0 _ rfl
        have a1 := fx.1.cell 1 _ rfl
        have b1 := fy.1.cell 1 _ rfl
        have a2 := fx.1.cell 2 _ rfl
        have b2 := fy.1.cell 2 _ rfl
        have a3 := fx.1.cell 3 _ rfl
        have b3 := fy.1.cell 3 _ rfl
        have a4 := fx.1.cell 4 _ rfl
        have b4 := fy.1.cell 4 _ rfl
        have a5 := fx.1.cell 5 _ rfl
        have b5 := fy.1.cell 5 _ rfl
        have a6 := fx.1.cell 6 _ rfl
        have b6 := fy.1.cell 6 _ rfl
        have a7 := fx.1.cell 7 _ rfl
        have b7 := fy.1.cell 7 _ rfl
        have a8 := fx.1.cell 8 _ rfl
        have b8 := fy.1.cell 8 _ rfl
        have a9 := fx.1.cell 9 _ rfl
        have b9 := fy.1.cell 9 _ rfl
        have a10 := fx.1.cell 10 _ rfl
        have b10 := fy.1.cell 10 _ rfl
        have a11 := fx.1.cell 11 _ rfl
        have b11 := fy.1.cell 11 _ rfl
        clear fx fy
        have HE : Hid (Img.eqI x y = false) := Aid.hid (by simp only [Img.eqI, r0.out, r1.out, r2.out, Bool.and_false, Bool.false_and])
        go_wp2_with fail
        go_ret
        exact ⟨by rw [HE.out]; rfl, FB.out _ KW.out⟩
    · have g1 : (x.d != y.d) = true := by simpa using e1
      have r1 : Hid (decide (x.d = y.d) = false) := Aid.hid (decide_eq_false e1)
      clear e1
      have fx := RX.out _ KW.out
      have fy := RY.out _ KW.out
      have a0 := fx.1.cell 0 _ rfl
      have b0 := fy.1.cell 0 _ rfl
      have a1 := fx.1.cell 1 _ rfl
      have b1 := fy.1.cell 1 _ rfl
      have a2 := fx.1.cell 2 _ rfl
      have b2 := fy.1.cell 2 _ rfl
      have a3 := fx.1.cell 3 _ rfl
      have b3 := fy.1.cell 3 _ rfl
      have a4 := fx.1.cell 4 _ rfl
      have b4 := fy.1.cell 4 _ rfl
      have a5 := fx.1.cell 5 _ rfl
      have b5 := fy.1.cell 5 _ rfl
      have a6 := fx.1.cell 6 _ rfl
      have b6 := fy.1.cell 6 _ rfl
      have a7 := fx.1.cell 7 _ rfl
      have b7 := fy.1.cell 7 _ rfl
      have a8 := fx.1.cell 8 _ rfl
      have b8 := fy.1.cell 8 _ rfl
      have a9 := fx.1.cell 9 _ rfl
      have b9 := fy.1.cell 9 _ rfl
      have a10 := fx.1.cell 10 _ rfl
      have b10 := fy.1.cell 10 _ rfl
      have a11 := fx.1.cell 11 _ rfl
      have b11 := fy.1.cell 11 _ rfl
      have HC := Aid.hid ((sTables_is B B' x y _ fx.2 fy.2 (Nat.le_trans hB (Nat.le_trans SZ.out KW.out.size)) (Nat.le_trans hB' (Nat.le_trans SZ.out KW.out.size))).mono (fun e w' h => (⟨h.1.trans (by rw [r0.out]), h.2⟩ : e = .returned (.bool true) ∧ Below _ _ w')))
      clear fx fy
      subst hW
      go_enter Tryz.func13, Tryz.ntmps13
      try simp only [List.append_eq, List.cons_append, List.nil_append]
      go_wp2_with fail
      go_at_call 41
      refine HC.out.mono ?_
      rintro e v1 ⟨rfl, hb1⟩
      have KW := Aid.hid (KW.out.trans (hb1.mono KW.out.size))
      clear hb1 HC a0 b0 a1 b1 a2 b2 a3 b3 a4 b4 a5 b5 a6 b6 a7 b7 a8 b8 a9 b9 a10 b10 a11 b11
      have fx := RX.out _ KW.out
      have fy := RY.out _ KW.out
      have a0 := fx.1.cell 0 _ rfl
      have b0 := fy.1.cell 0 _ rfl
      have a1 := fx.1.cell 1 _ rfl
      have b1 := fy.1.cell 1 _ rfl
      have a2 := fx.1.cell 2 _ rfl
      have b2 := fy.1.cell 2 _ rfl
      have a3 := fx.1.cell 3 _ rfl
      have b3 := fy.1.cell 3 _ rfl
      have a4 := fx.1.cell 4 _ rfl
      have b4 := fy.1.cell 4 _ rfl
      have a5 := fx.1.cell 5 _ rfl
      have b5 := fy.1.cell 5 _ rfl
      have a6 := fx.1.cell 6 _ rfl
      have b6 := fy.1.cell 6 _ rfl
      have a7 := fx.1.cell 7 _ rfl
      have b7 := fy.1.cell 7 _ rfl
      have a8 := fx.1.cell 8 _ rfl
      have b8 := fy.1.cell 8 _ rfl
      have a9 := fx.1.cell 9 _ rfl
      have b9 := fy.1.cell 9 _ rfl
      have a10 := fx.1.cell 10 _ rfl
      have b10 := fy.1.cell 10 _ rfl
      have a11 := fx.1.cell 11 _ rfl
      have b11 := fy.1.cell 11 _ rfl
      clear fx fy
      have HE : Hid (Img.eqI x y = false) := Aid.hid (by simp only [Img.eqI, r0.out, r1.out, Bool.and_false, Bool.false_and])
      go_wp2_with fail
      go_ret
      exact ⟨by rw [HE.out]; rfl, FB.out _ KW.out⟩
  case false =>
    have r0 : Hid (Img.eqS x y = false) := Aid.hid q0
    clear q0
    have fx := RX.out _ KW.out
    have fy := RY.out _ KW.out
    have a0 := fx.1.cell 0 _ rfl
    have b0 := fy.1.cell 0 _ rfl
    have a1 := fx.1.cell 1 _ rfl
    have b1 := fy.1.cell 1 _ rfl
    have a2 := fx.1.cell 2 _ rfl
    have b2 := fy.1.cell 2 _ rfl
    have a3 := fx.1.cell 3 _ rfl
    have b3 := fy.1.cell 3 _ rfl
    have a4 := fx.1.cell 4 _ rfl
    have b4 := fy.1.cell 4 _ rfl
    have a5 := fx.1.cell 5 _ rfl
    have b5 := fy.1.cell 5 _ rfl
    have a6 := fx.1.cell 6 _ rfl
    have b6 := fy.1.cell 6 _ rfl
    have a7 := fx.1.cell 7 _ rfl
    have b7 := fy.1.cell 7 _ rfl
    have a8 := fx.1.cell 8 _ rfl
    have b8 := fy.1.cell 8 _ rfl
    have a9 := fx.1.cell 9 _ rfl
    have b9 := fy.1.cell 9 _ rfl
    have a10 := fx.1.cell 10 _ rfl
    have b10 := fy.1.cell 10 _ rfl
    have a11 := fx.1.cell 11 _ rfl
    have b11 := fy.1.cell 11 _ rfl
    have HC := Aid.hid ((sTables_is B B' x y _ fx.2 fy.2 (Nat.le_trans hB (Nat.le_trans SZ.out KW.out.size)) (Nat.le_trans hB' (Nat.le_trans SZ.out KW.out.size))).mono (fun e w' h => (⟨h.1.trans (by rw [r0.out]), h.2⟩ : e = .returned (.bool false) ∧ Below _ _ w')))
    clear fx fy
    subst hW
    go_enter Tryz.func13, Tryz.ntmps13
    try simp only [List.append_eq, List.cons_append, List.nil_append]
    go_wp2_with fail
    go_at_call 41
    refine HC.out.mono ?_
    rintro e v1 ⟨rfl, hb1⟩
    have KW := Aid.hid (KW.out.trans (hb1.mono KW.out.size))
    clear hb1 HC a0 b0 a1 b1 a2 b2 a3 b3 a4 b4 a5 b5 a6 b6 a7 b7 a8 b8 a9 b9 a10 b10 a11 b11
    have fx := RX.out _ KW.out
    have fy := RY.out _ KW.out
    have a0 := fx.1.cell 0 _ rfl
    have b0 := fy.1.cell 0 _ rfl
    have a1 := fx.1.cell 1 _ rfl
    have b1 := fy.1.cell 1 _ rfl
    have a2 := fx.1.cell 2 _ rfl
    have b2 := fy.1.cell 2 _ rfl
    have a3 := fx.1.cell 3 _ rfl
    have b3 := fy.1.cell 3 _ rfl
    have a4 := fx.1.cell 4 _ rfl
    have b4 := fy.1.cell 4 _ rfl
    have a5 := fx.1.cell 5 _ rfl
    have b5 := fy.1.cell 5 _ rfl
    have a6 := fx.1.cell 6 _ rfl
    have b6 := fy.1.cell 6 _ rfl
    have a7 := fx.1.cell 7 _ rfl
    have b7 := fy.1.cell 7 _ rfl
    have a8 := fx.1.cell 8 _ rfl
    have b8 := fy.1.cell 8 _ rfl
    have a9 := fx.1.cell 9 _ rfl
    have b9 := fy.1.cell 9 _ rfl
    have a10 := fx.1.cell 10 _ rfl
    have b10 := fy.1.cell 10 _ rfl
    have a11 := fx.1.cell 11 _ rfl
    have b11 := fy.1.cell 11 _ rfl
    clear fx fy
    have HE : Hid (Img.eqI x y = false) := Aid.hid (by simp only [Img.eqI, r0.out, Bool.and_false, Bool.false_and])
    go_wp2_with fail
    go_ret
    exact ⟨by rw [HE.out]; rfl, FB.out _ KW.out⟩
end Go.Proofs.YtaogegeidbclaaaGreatDoor
