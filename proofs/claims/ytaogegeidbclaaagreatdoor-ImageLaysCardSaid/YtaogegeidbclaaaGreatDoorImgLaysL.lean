/- ImageLays, as a walk. -/
import Derived.Test.YtaogegeidbclaaaGreatDoorImgLaysA
namespace Go.Proofs.YtaogegeidbclaaaGreatDoor
open Go.RowKit

set_option maxRecDepth 100000 in
set_option maxHeartbeats 4000000 in
theorem imageLays_walk (x y : Img) (w : World) (hg : Door w) (hx : Img.At w w.heap.size x) (hy : Img.At w w.heap.size y) :
    Calls Tryz.prog 3 #[.agg #[.slice x.fA x.faces.length x.fc, .slice x.cA x.classes.length x.cc, .slice x.dA x.codes.length x.dc, .slice x.nA x.insts.length x.nc, .string x.globals, .slice x.iA x.init.length x.ic, .slice x.bA x.blocks.length x.bc, .slice x.xA x.ins.length x.xc, .slice x.oA x.outs.length x.oc, .slice x.jA x.jobs.length x.jc, .int .i64 x.d, .int .i64 x.w], .agg #[.slice y.fA y.faces.length y.fc, .slice y.cA y.classes.length y.cc, .slice y.dA y.codes.length y.dc, .slice y.nA y.insts.length y.nc, .string y.globals, .slice y.iA y.init.length y.ic, .slice y.bA y.blocks.length y.bc, .slice y.xA y.ins.length y.xc, .slice y.oA y.outs.length y.oc, .slice y.jA y.jobs.length y.jc, .int .i64 y.d, .int .i64 y.w]] w fun e w' => e = .returned (.bool true) ∧ Below w.heap.size w w' := by
  obtain ⟨W, hW⟩ : ∃ W, ((w.alloc (.cells #[.slice x.fA x.faces.length x.fc, .slice x.cA x.classes.length x.cc, .slice x.dA x.codes.length x.dc, .slice x.nA x.insts.length x.nc, .string x.globals, .slice x.iA x.init.length x.ic, .slice x.bA x.blocks.length x.bc, .slice x.xA x.ins.length x.xc, .slice x.oA x.outs.length x.oc, .slice x.jA x.jobs.length x.jc, .int .i64 x.d, .int .i64 x.w] 29)).alloc (.cells #[.slice y.fA y.faces.length y.fc, .slice y.cA y.classes.length y.cc, .slice y.dA y.codes.length y.dc, .slice y.nA y.insts.length y.nc, .string y.globals, .slice y.iA y.init.length y.ic, .slice y.bA y.blocks.length y.bc, .slice y.xA y.ins.length y.xc, .slice y.oA y.outs.length y.oc, .slice y.jA y.jobs.length y.jc, .int .i64 y.d, .int .i64 y.w] 29)) = W := ⟨_, rfl⟩
  have hbx : Aid.Has W w.heap.size [.slice x.fA x.faces.length x.fc, .slice x.cA x.classes.length x.cc, .slice x.dA x.codes.length x.dc, .slice x.nA x.insts.length x.nc, .string x.globals, .slice x.iA x.init.length x.ic, .slice x.bA x.blocks.length x.bc, .slice x.xA x.ins.length x.xc, .slice x.oA x.outs.length x.oc, .slice x.jA x.jobs.length x.jc, .int .i64 x.d, .int .i64 x.w] 29 := by subst hW; exact (Aid.Has.new w [.slice x.fA x.faces.length x.fc, .slice x.cA x.classes.length x.cc, .slice x.dA x.codes.length x.dc, .slice x.nA x.insts.length x.nc, .string x.globals, .slice x.iA x.init.length x.ic, .slice x.bA x.blocks.length x.bc, .slice x.xA x.ins.length x.xc, .slice x.oA x.outs.length x.oc, .slice x.jA x.jobs.length x.jc, .int .i64 x.d, .int .i64 x.w] 29).alloc _
  have hby : Aid.Has W (w.heap.size + 1) [.slice y.fA y.faces.length y.fc, .slice y.cA y.classes.length y.cc, .slice y.dA y.codes.length y.dc, .slice y.nA y.insts.length y.nc, .string y.globals, .slice y.iA y.init.length y.ic, .slice y.bA y.blocks.length y.bc, .slice y.xA y.ins.length y.xc, .slice y.oA y.outs.length y.oc, .slice y.jA y.jobs.length y.jc, .int .i64 y.d, .int .i64 y.w] 29 := by
    have := Aid.Has.new (w.alloc (.cells #[.slice x.fA x.faces.length x.fc, .slice x.cA x.classes.length x.cc, .slice x.dA x.codes.length x.dc, .slice x.nA x.insts.length x.nc, .string x.globals, .slice x.iA x.init.length x.ic, .slice x.bA x.blocks.length x.bc, .slice x.xA x.ins.length x.xc, .slice x.oA x.outs.length x.oc, .slice x.jA x.jobs.length x.jc, .int .i64 x.d, .int .i64 x.w] 29)) [.slice y.fA y.faces.length y.fc, .slice y.cA y.classes.length y.cc, .slice y.dA y.codes.length y.dc, .slice y.nA y.insts.length y.nc, .string y.globals, .slice y.iA y.init.length y.ic, .slice y.bA y.blocks.length y.bc, .slice y.xA y.ins.length y.xc, .slice y.oA y.outs.length y.oc, .slice y.jA y.jobs.length y.jc, .int .i64 y.d, .int .i64 y.w] 29
    rw [World.size_alloc] at this; subst hW; exact this
  have b0 : Below w.heap.size w W := by subst hW; exact ((Below.refl _ w).alloc (Nat.le_refl _) _).alloc (by simp) _
  have sz : w.heap.size ≤ W.heap.size := b0.size
  have RX : Hid (∀ wr, Below W.heap.size W wr → Aid.Has wr w.heap.size [.slice x.fA x.faces.length x.fc, .slice x.cA x.classes.length x.cc, .slice x.dA x.codes.length x.dc, .slice x.nA x.insts.length x.nc, .string x.globals, .slice x.iA x.init.length x.ic, .slice x.bA x.blocks.length x.bc, .slice x.xA x.ins.length x.xc, .slice x.oA x.outs.length x.oc, .slice x.jA x.jobs.length x.jc, .int .i64 x.d, .int .i64 x.w] 29 ∧ Img.At wr w.heap.size x) := Aid.hid fun wr hb => ⟨hbx.below hb hbx.lt, (hx.below b0 (Nat.le_refl _)).below hb sz⟩
  have RY : Hid (∀ wr, Below W.heap.size W wr → Aid.Has wr (w.heap.size + 1) [.slice y.fA y.faces.length y.fc, .slice y.cA y.classes.length y.cc, .slice y.dA y.codes.length y.dc, .slice y.nA y.insts.length y.nc, .string y.globals, .slice y.iA y.init.length y.ic, .slice y.bA y.blocks.length y.bc, .slice y.xA y.ins.length y.xc, .slice y.oA y.outs.length y.oc, .slice y.jA y.jobs.length y.jc, .int .i64 y.d, .int .i64 y.w] 29 ∧ Img.At wr w.heap.size y) := Aid.hid fun wr hb => ⟨hby.below hb hby.lt, (hy.below b0 (Nat.le_refl _)).below hb sz⟩
  have SZ := Aid.hid sz
  have KW : Hid (Below W.heap.size W W) := Aid.hid (Below.refl _ _)
  have FB : Hid (∀ wr, Below W.heap.size W wr → Below w.heap.size w wr) := Aid.hid fun wr hb => b0.trans (hb.mono sz)
  have HG : Hid (∀ wr, Below W.heap.size W wr → Door wr) := Aid.hid fun wr hb => (hg.below b0).below hb
  clear hbx hby b0 sz hx hy hg
  subst hW
  have fx := (RX.out _ KW.out).1
  have a0 := fx.cell 0 _ rfl
  have a1 := fx.cell 1 _ rfl
  have a2 := fx.cell 2 _ rfl
  have a3 := fx.cell 3 _ rfl
  have a4 := fx.cell 4 _ rfl
  have a5 := fx.cell 5 _ rfl
  have a6 := fx.cell 6 _ rfl
  have a7 := fx.cell 7 _ rfl
  have a8 := fx.cell 8 _ rfl
  have a9 := fx.cell 9 _ rfl
  have a10 := fx.cell 10 _ rfl
  have a11 := fx.cell 11 _ rfl
  clear fx
  have HC := Aid.hid (great_is w.heap.size x ((w.alloc (.cells #[.slice x.fA x.faces.length x.fc, .slice x.cA x.classes.length x.cc, .slice x.dA x.codes.length x.dc, .slice x.nA x.insts.length x.nc, .string x.globals, .slice x.iA x.init.length x.ic, .slice x.bA x.blocks.length x.bc, .slice x.xA x.ins.length x.xc, .slice x.oA x.outs.length x.oc, .slice x.jA x.jobs.length x.jc, .int .i64 x.d, .int .i64 x.w] 29)).alloc (.cells #[.slice y.fA y.faces.length y.fc, .slice y.cA y.classes.length y.cc, .slice y.dA y.codes.length y.dc, .slice y.nA y.insts.length y.nc, .string y.globals, .slice y.iA y.init.length y.ic, .slice y.bA y.blocks.length y.bc, .slice y.xA y.ins.length y.xc, .slice y.oA y.outs.length y.oc, .slice y.jA y.jobs.length y.jc, .int .i64 y.d, .int .i64 y.w] 29)) (RX.out _ KW.out).2 SZ.out)
  go_enter Tryz.func3, Tryz.ntmps3
  try simp only [List.append_eq, List.cons_append, List.nil_append]
  go_wp2_with fail
  go_at_call 6
  refine HC.out.mono ?_
  rintro e w1 ⟨⟨b, rfl, hs⟩, hb1⟩
  have KW := Aid.hid (KW.out.trans (hb1.mono KW.out.size))
  have SX := Aid.hid hs
  clear hb1 hs HC
  clear a0 a1 a2 a3 a4 a5 a6 a7 a8 a9 a10 a11
  cases b
  case true =>
    go_wp2_with fail
    go_at_call 7
    refine (awake_is _ (HG.out _ KW.out)).mono ?_
    rintro e w9 ⟨rfl, hb9⟩
    have KW9 := Aid.hid (KW.out.trans (hb9.mono KW.out.size))
    clear hb9
    go_wp2_with fail
    go_ret
    exact ⟨rfl, FB.out _ KW9.out⟩
  case false =>
    have SM := Aid.hid (SX.out rfl)
    clear SX
    have fy := (RY.out _ KW.out).1
    have b0 := fy.cell 0 _ rfl
    have b1 := fy.cell 1 _ rfl
    have b2 := fy.cell 2 _ rfl
    have b3 := fy.cell 3 _ rfl
    have b4 := fy.cell 4 _ rfl
    have b5 := fy.cell 5 _ rfl
    have b6 := fy.cell 6 _ rfl
    have b7 := fy.cell 7 _ rfl
    have b8 := fy.cell 8 _ rfl
    have b9 := fy.cell 9 _ rfl
    have b10 := fy.cell 10 _ rfl
    have b11 := fy.cell 11 _ rfl
    clear fy
    have HC := Aid.hid (great_is w.heap.size y w1 (RY.out _ KW.out).2 (Nat.le_trans SZ.out KW.out.size))
    go_wp2_with fail
    go_at_call 6
    refine HC.out.mono ?_
    rintro e w2 ⟨⟨b, rfl, hs⟩, hb2⟩
    have KW := Aid.hid (KW.out.trans (hb2.mono KW.out.size))
    clear hb2 hs HC
    clear b0 b1 b2 b3 b4 b5 b6 b7 b8 b9 b10 b11
    cases b
    case true =>
      go_wp2_with fail
      go_at_call 7
      refine (awake_is _ (HG.out _ KW.out)).mono ?_
      rintro e w9 ⟨rfl, hb9⟩
      have KW9 := Aid.hid (KW.out.trans (hb9.mono KW.out.size))
      clear hb9
      go_wp2_with fail
      go_ret
      exact ⟨rfl, FB.out _ KW9.out⟩
    case false =>
      have LN : Hid ((Lays.bs x).length ≤ 100000000000000) := Aid.hid (Lays.len SM.out)
      have fx := (RX.out _ KW.out).1
      have a0 := fx.cell 0 _ rfl
      have a1 := fx.cell 1 _ rfl
      have a2 := fx.cell 2 _ rfl
      have a3 := fx.cell 3 _ rfl
      have a4 := fx.cell 4 _ rfl
      have a5 := fx.cell 5 _ rfl
      have a6 := fx.cell 6 _ rfl
      have a7 := fx.cell 7 _ rfl
      have a8 := fx.cell 8 _ rfl
      have a9 := fx.cell 9 _ rfl
      have a10 := fx.cell 10 _ rfl
      have a11 := fx.cell 11 _ rfl
      clear fx
      have HC := Aid.hid (lay_is x w2 ((RX.out _ KW.out).2.more (Nat.le_trans SZ.out KW.out.size)) SM.out.len)
      go_wp2_with fail
      go_at_call 8
      refine HC.out.mono ?_
      rintro e w3 ⟨hb3, hl⟩
      obtain ⟨A1, c1, ev, rfl, o1, er⟩ := Lays.of hl
      have O1 := Aid.hid (own_lowers o1 KW.out.size)
      have KW := Aid.hid (KW.out.trans (hb3.mono KW.out.size))
      have ER := Aid.hid er
      clear hb3 hl o1 er HC
      clear a0 a1 a2 a3 a4 a5 a6 a7 a8 a9 a10 a11
      have fx := (RX.out _ KW.out).1
      have a0 := fx.cell 0 _ rfl
      have a1 := fx.cell 1 _ rfl
      have a2 := fx.cell 2 _ rfl
      have a3 := fx.cell 3 _ rfl
      have a4 := fx.cell 4 _ rfl
      have a5 := fx.cell 5 _ rfl
      have a6 := fx.cell 6 _ rfl
      have a7 := fx.cell 7 _ rfl
      have a8 := fx.cell 8 _ rfl
      have a9 := fx.cell 9 _ rfl
      have a10 := fx.cell 10 _ rfl
      have a11 := fx.cell 11 _ rfl
      clear fx
      have HC := Aid.hid (rlay_is x w3 ((RX.out _ KW.out).2.more (Nat.le_trans SZ.out KW.out.size)) SM.out.len)
      go_wp2_with fail
      go_at_call 9
      refine HC.out.mono ?_
      rintro e w4 ⟨hb4, hl⟩
      obtain ⟨A2, c2, rfl, o2⟩ := Lays.ofR hl
      have P12 : Hid (∀ g, rowb A2 = some g → some g ≠ rowb A1) := Aid.hid (fun g hg h => by
        have h1 := (o2.lt g (by rw [rowb_own]; exact hg)).1
        have h2 := (O1.out.lt g (by rw [rowb_own]; exact h.symm)).2
        omega)
      replace O1 := Aid.hid (own_keeps O1.out hb4)
      have O2 := Aid.hid (own_lowers o2 KW.out.size)
      have KW := Aid.hid (KW.out.trans (hb4.mono KW.out.size))
      have K3 := Aid.hid hb4
      clear hb4 hl o2 HC
      clear a0 a1 a2 a3 a4 a5 a6 a7 a8 a9 a10 a11
      obtain ⟨bs, hbs⟩ : ∃ bs, Lays.bs x = bs := ⟨_, rfl⟩
      obtain ⟨cd, hcd⟩ : ∃ cd, Lays.code x = cd := ⟨_, rfl⟩
      have HBS := Aid.hid hbs
      have HCD := Aid.hid hcd
      rw [hbs] at O1 O2 LN ⊢
      rw [hcd]
      clear hbs hcd
      cases hrr : Img.eqb x y
      case true =>
        have HRR := Aid.hid hrr
        clear hrr
        go_wp2_with fail
        have hb : Below w4.heap.size w4 w4.drew := (Below.refl _ _).drew
        refine Ord.wp_region_walk (fun w' => Below w4.heap.size w4 w') 23 [(true, 0), (true, 1), (false, 2), (true, 3), (true, 4), (true, 6), (false, 5), (true, 7), (true, 8), (true, 9), (true, 10), (true, 11), (true, 13), (true, 14), (false, 12), (false, 15), (true, 16), (true, 17), (true, 18), (true, 19), (true, 20), (false, 21), (true, 22)] (by kernel_rfl) (by kernel_rfl) (fun _ _ d _ _ h => by cases d <;> exact h) (hb) ?_
        apply Ord.walk_light
        next => (simp only [List.getElem?_toArray, List.getElem?_cons_zero]; rfl)
        next => rfl
        next => (intro w' hSw; clear hSw; go_simp; first | done | with_reducible rfl)
        simp only [Act.put, List.setIfInBounds_toArray, List.set_cons_zero, List.set_cons_succ]
        apply Ord.walk_light
        next => (simp only [List.getElem?_toArray, List.getElem?_cons_succ, List.getElem?_cons_zero]; rfl)
        next => rfl
        next => (intro w' hSw; clear hSw; go_simp; first | done | with_reducible rfl)
        simp only [Act.put, List.setIfInBounds_toArray, List.set_cons_zero, List.set_cons_succ]
        apply Ord.walk_heavy
        next => (simp only [List.getElem?_toArray, List.getElem?_cons_succ, List.getElem?_cons_zero]; rfl)
        next => rfl
        intro K hK
        go_wp2_with fail
        refine (Lays.same (c := c1) (d := c2) (bytes_of_own (own_keeps O1.out hb) LN.out) (bytes_of_own (own_keeps O2.out hb) LN.out)).mono ?_; rintro e w' ⟨rfl, hb'⟩; dsimp only
        refine hK.out _ _ (hb.trans (hb'.mono hb.size)) (fun hHeld => ?_)
        clear hb hb'
        have hb := hHeld
        clear hK K
        try simp only [Act.put, List.setIfInBounds_toArray, List.set_cons_zero, List.set_cons_succ]
        apply Ord.walk_light
        next => (simp only [List.getElem?_toArray, List.getElem?_cons_succ, List.getElem?_cons_zero]; rfl)
        next => rfl
        next => (intro w' hSw; clear hSw; go_simp; first | done | with_reducible rfl)
        simp only [Act.put, List.setIfInBounds_toArray, List.set_cons_zero, List.set_cons_succ]
        apply Ord.walk_light
        next => (simp only [List.getElem?_toArray, List.getElem?_cons_succ, List.getElem?_cons_zero]; rfl)
        next => rfl
        next => (intro w' hSw; clear hSw; go_simp; first | done | with_reducible rfl)
        simp only [Act.put, List.setIfInBounds_toArray, List.set_cons_zero, List.set_cons_succ]
        apply Ord.walk_light
        next => (simp only [List.getElem?_toArray, List.getElem?_cons_succ, List.getElem?_cons_zero]; rfl)
        next => rfl
        next => (intro w' hSw; clear hSw; go_simp; first | done | with_reducible rfl)
        simp only [Act.put, List.setIfInBounds_toArray, List.set_cons_zero, List.set_cons_succ]
        apply Ord.walk_heavy
        next => (simp only [List.getElem?_toArray, List.getElem?_cons_succ, List.getElem?_cons_zero]; rfl)
        next => rfl
        intro K hK
        go_wp2_with fail
        refine ((Lays.codeIs ER.out (K3.out.trans (hb.mono K3.out.size)) (HG.out _ (KW.out.trans (hb.mono KW.out.size)))).mono (fun e w' h => (⟨h.1.trans (by rw [HCD.out]), h.2⟩ : e = .returned (.int .i64 cd) ∧ Below _ _ w'))).mono ?_; rintro e w' ⟨rfl, hb'⟩; dsimp only
        refine hK.out _ _ (hb.trans (hb'.mono hb.size)) (fun hHeld => ?_)
        clear hb hb'
        have hb := hHeld
        clear hK K
        try simp only [Act.put, List.setIfInBounds_toArray, List.set_cons_zero, List.set_cons_succ]
        apply Ord.walk_light
        next => (simp only [List.getElem?_toArray, List.getElem?_cons_succ, List.getElem?_cons_zero]; rfl)
        next => rfl
        next => (intro w' hSw; clear hSw; go_simp; first | done | with_reducible rfl)
        simp only [Act.put, List.setIfInBounds_toArray, List.set_cons_zero, List.set_cons_succ]
        apply Ord.walk_light
        next => (simp only [List.getElem?_toArray, List.getElem?_cons_succ, List.getElem?_cons_zero]; rfl)
        next => rfl
        next => (intro w' hSw; clear hSw; go_simp; first | done | with_reducible rfl)
        simp only [Act.put, List.setIfInBounds_toArray, List.set_cons_zero, List.set_cons_succ]
        apply Ord.walk_light
        next => (simp only [List.getElem?_toArray, List.getElem?_cons_succ, List.getElem?_cons_zero]; rfl)
        next => rfl
        next => (intro w' hSw; clear hSw; go_simp; first | done | with_reducible rfl)
        simp only [Act.put, List.setIfInBounds_toArray, List.set_cons_zero, List.set_cons_succ]
        apply Ord.walk_light
        next => (simp only [List.getElem?_toArray, List.getElem?_cons_succ, List.getElem?_cons_zero]; rfl)
        next => rfl
        next => (intro w' hSw; have fx := (RX.out _ (KW.out.trans (hSw.mono KW.out.size))).1; have a0 := fx.cell 0 _ rfl; have a1 := fx.cell 1 _ rfl; have a2 := fx.cell 2 _ rfl; have a3 := fx.cell 3 _ rfl; have a4 := fx.cell 4 _ rfl; have a5 := fx.cell 5 _ rfl; have a6 := fx.cell 6 _ rfl; have a7 := fx.cell 7 _ rfl; have a8 := fx.cell 8 _ rfl; have a9 := fx.cell 9 _ rfl; have a10 := fx.cell 10 _ rfl; have a11 := fx.cell 11 _ rfl; clear fx hSw; go_simp; first | done | with_reducible rfl)
        simp only [Act.put, List.setIfInBounds_toArray, List.set_cons_zero, List.set_cons_succ]
        apply Ord.walk_light
        next => (simp only [List.getElem?_toArray, List.getElem?_cons_succ, List.getElem?_cons_zero]; rfl)
        next => rfl
        next => (intro w' hSw; have fy := (RY.out _ (KW.out.trans (hSw.mono KW.out.size))).1; have b0 := fy.cell 0 _ rfl; have b1 := fy.cell 1 _ rfl; have b2 := fy.cell 2 _ rfl; have b3 := fy.cell 3 _ rfl; have b4 := fy.cell 4 _ rfl; have b5 := fy.cell 5 _ rfl; have b6 := fy.cell 6 _ rfl; have b7 := fy.cell 7 _ rfl; have b8 := fy.cell 8 _ rfl; have b9 := fy.cell 9 _ rfl; have b10 := fy.cell 10 _ rfl; have b11 := fy.cell 11 _ rfl; clear fy hSw; go_simp; first | done | with_reducible rfl)
        simp only [Act.put, List.setIfInBounds_toArray, List.set_cons_zero, List.set_cons_succ]
        apply Ord.walk_light
        next => (simp only [List.getElem?_toArray, List.getElem?_cons_succ, List.getElem?_cons_zero]; rfl)
        next => rfl
        next => (intro w' hSw; have fx := (RX.out _ (KW.out.trans (hSw.mono KW.out.size))).1; have a0 := fx.cell 0 _ rfl; have a1 := fx.cell 1 _ rfl; have a2 := fx.cell 2 _ rfl; have a3 := fx.cell 3 _ rfl; have a4 := fx.cell 4 _ rfl; have a5 := fx.cell 5 _ rfl; have a6 := fx.cell 6 _ rfl; have a7 := fx.cell 7 _ rfl; have a8 := fx.cell 8 _ rfl; have a9 := fx.cell 9 _ rfl; have a10 := fx.cell 10 _ rfl; have a11 := fx.cell 11 _ rfl; clear fx hSw; go_simp; first | done | with_reducible rfl)
        simp only [Act.put, List.setIfInBounds_toArray, List.set_cons_zero, List.set_cons_succ]
        apply Ord.walk_light
        next => (simp only [List.getElem?_toArray, List.getElem?_cons_succ, List.getElem?_cons_zero]; rfl)
        next => rfl
        next => (intro w' hSw; have fy := (RY.out _ (KW.out.trans (hSw.mono KW.out.size))).1; have b0 := fy.cell 0 _ rfl; have b1 := fy.cell 1 _ rfl; have b2 := fy.cell 2 _ rfl; have b3 := fy.cell 3 _ rfl; have b4 := fy.cell 4 _ rfl; have b5 := fy.cell 5 _ rfl; have b6 := fy.cell 6 _ rfl; have b7 := fy.cell 7 _ rfl; have b8 := fy.cell 8 _ rfl; have b9 := fy.cell 9 _ rfl; have b10 := fy.cell 10 _ rfl; have b11 := fy.cell 11 _ rfl; clear fy hSw; go_simp; first | done | with_reducible rfl)
        simp only [Act.put, List.setIfInBounds_toArray, List.set_cons_zero, List.set_cons_succ]
        apply Ord.walk_heavy
        next => (simp only [List.getElem?_toArray, List.getElem?_cons_succ, List.getElem?_cons_zero]; rfl)
        next => rfl
        intro K hK
        go_wp2_with fail
        refine ((same_is w.heap.size w.heap.size x y _ (RX.out _ (KW.out.trans (hb.mono KW.out.size))).2 (RY.out _ (KW.out.trans (hb.mono KW.out.size))).2 (Nat.le_trans SZ.out (Nat.le_trans KW.out.size hb.size)) (Nat.le_trans SZ.out (Nat.le_trans KW.out.size hb.size))).mono (fun e w' h => (⟨h.1.trans (by rw [HRR.out]), h.2⟩ : e = .returned (.bool true) ∧ Below _ _ w'))).mono ?_; rintro e w' ⟨rfl, hb'⟩; dsimp only
        refine hK.out _ _ (hb.trans (hb'.mono hb.size)) (fun hHeld => ?_)
        clear hb hb'
        have hb := hHeld
        clear hK K
        try simp only [Act.put, List.setIfInBounds_toArray, List.set_cons_zero, List.set_cons_succ]
        apply Ord.walk_heavy
        next => (simp only [List.getElem?_toArray, List.getElem?_cons_succ, List.getElem?_cons_zero]; rfl)
        next => rfl
        intro K hK
        go_wp2_with fail
        refine ((sImage_is w.heap.size w.heap.size x y _ (RX.out _ (KW.out.trans (hb.mono KW.out.size))).2 (RY.out _ (KW.out.trans (hb.mono KW.out.size))).2 (Nat.le_trans SZ.out (Nat.le_trans KW.out.size hb.size)) (Nat.le_trans SZ.out (Nat.le_trans KW.out.size hb.size))).mono (fun e w' h => (⟨h.1.trans (by rw [Img.eqI_is, HRR.out]), h.2⟩ : e = .returned (.bool true) ∧ Below _ _ w'))).mono ?_; rintro e w' ⟨rfl, hb'⟩; dsimp only
        refine hK.out _ _ (hb.trans (hb'.mono hb.size)) (fun hHeld => ?_)
        clear hb hb'
        have hb := hHeld
        clear hK K
        try simp only [Act.put, List.setIfInBounds_toArray, List.set_cons_zero, List.set_cons_succ]
        apply Ord.walk_light
        next => (simp only [List.getElem?_toArray, List.getElem?_cons_succ, List.getElem?_cons_zero]; rfl)
        next => rfl
        next => (intro w' hSw; clear hSw; go_simp; first | done | with_reducible rfl)
        simp only [Act.put, List.setIfInBounds_toArray, List.set_cons_zero, List.set_cons_succ]
        apply Ord.walk_light
        next => (simp only [List.getElem?_toArray, List.getElem?_cons_succ, List.getElem?_cons_zero]; rfl)
        next => rfl
        next => (intro w' hSw; clear hSw; go_simp; first | done | with_reducible rfl)
        simp only [Act.put, List.setIfInBounds_toArray, List.set_cons_zero, List.set_cons_succ]
        apply Ord.walk_light
        next => (simp only [List.getElem?_toArray, List.getElem?_cons_succ, List.getElem?_cons_zero]; rfl)
        next => rfl
        next => (intro w' hSw; clear hSw; go_simp; first | done | with_reducible rfl)
        simp only [Act.put, List.setIfInBounds_toArray, List.set_cons_zero, List.set_cons_succ]
        apply Ord.walk_light
        next => (simp only [List.getElem?_toArray, List.getElem?_cons_succ, List.getElem?_cons_zero]; rfl)
        next => rfl
        next => (intro w' hSw; have fx := (RX.out _ (KW.out.trans (hSw.mono KW.out.size))).1; have a0 := fx.cell 0 _ rfl; have a1 := fx.cell 1 _ rfl; have a2 := fx.cell 2 _ rfl; have a3 := fx.cell 3 _ rfl; have a4 := fx.cell 4 _ rfl; have a5 := fx.cell 5 _ rfl; have a6 := fx.cell 6 _ rfl; have a7 := fx.cell 7 _ rfl; have a8 := fx.cell 8 _ rfl; have a9 := fx.cell 9 _ rfl; have a10 := fx.cell 10 _ rfl; have a11 := fx.cell 11 _ rfl; clear fx hSw; go_simp; first | done | with_reducible rfl)
        simp only [Act.put, List.setIfInBounds_toArray, List.set_cons_zero, List.set_cons_succ]
        apply Ord.walk_light
        next => (simp only [List.getElem?_toArray, List.getElem?_cons_succ, List.getElem?_cons_zero]; rfl)
        next => rfl
        next => (intro w' hSw; have fx := (RX.out _ (KW.out.trans (hSw.mono KW.out.size))).1; have a0 := fx.cell 0 _ rfl; have a1 := fx.cell 1 _ rfl; have a2 := fx.cell 2 _ rfl; have a3 := fx.cell 3 _ rfl; have a4 := fx.cell 4 _ rfl; have a5 := fx.cell 5 _ rfl; have a6 := fx.cell 6 _ rfl; have a7 := fx.cell 7 _ rfl; have a8 := fx.cell 8 _ rfl; have a9 := fx.cell 9 _ rfl; have a10 := fx.cell 10 _ rfl; have a11 := fx.cell 11 _ rfl; clear fx hSw; go_simp; first | done | with_reducible rfl)
        simp only [Act.put, List.setIfInBounds_toArray, List.set_cons_zero, List.set_cons_succ]
        apply Ord.walk_heavy
        next => (simp only [List.getElem?_toArray, List.getElem?_cons_succ, List.getElem?_cons_zero]; rfl)
        next => rfl
        intro K hK
        go_wp2_with fail
        refine ((same_is w.heap.size w.heap.size x x _ (RX.out _ (KW.out.trans (hb.mono KW.out.size))).2 (RX.out _ (KW.out.trans (hb.mono KW.out.size))).2 (Nat.le_trans SZ.out (Nat.le_trans KW.out.size hb.size)) (Nat.le_trans SZ.out (Nat.le_trans KW.out.size hb.size))).mono (fun e w' h => (⟨h.1.trans (by rw [Img.eqb_refl]), h.2⟩ : e = .returned (.bool true) ∧ Below _ _ w'))).mono ?_; rintro e w' ⟨rfl, hb'⟩; dsimp only
        refine hK.out _ _ (hb.trans (hb'.mono hb.size)) (fun hHeld => ?_)
        clear hb hb'
        have hb := hHeld
        clear hK K
        try simp only [Act.put, List.setIfInBounds_toArray, List.set_cons_zero, List.set_cons_succ]
        apply Ord.walk_light
        next => (simp only [List.getElem?_toArray, List.getElem?_cons_succ, List.getElem?_cons_zero]; rfl)
        next => rfl
        next => (intro w' hSw; clear hSw; go_simp; first | done | with_reducible rfl)
        simp only [Act.put, List.setIfInBounds_toArray, List.set_cons_zero, List.set_cons_succ]
        refine Ord.walk_tail ?_; simp only [List.drop_succ_cons, List.drop_zero]
        go_wp2_with fail
        have O1b := own_keeps O1.out hb
        have O2b := own_keeps O2.out hb
        have KR := Aid.hid (KW.out.trans (hb.mono KW.out.size))
        have HC := Aid.hid (overBytes_g A1 c1 _ bs.length _ _ O1b (by intro u hu; obtain ⟨n, _, rfl⟩ := List.mem_map.1 hu; rfl) LN.out KR.out.size)
        have H1 := Aid.hid O1b
        have H2 := Aid.hid O2b
        clear hb KW O1 O2 O1b O2b
        go_at_call 14
        refine HC.out.mono ?_
        rintro e w6 ⟨rfl, hgr⟩
        clear HC
        have O2 := Aid.hid (own_grown H2.out hgr (fun g hg => P12.out g (by rw [← rowb_own]; exact hg)))
        have KW := Aid.hid (KR.out.grown hgr KR.out.size (fun q hq => (H1.out.lt q (by rw [rowb_own]; exact hq)).1))
        clear hgr H1 H2 KR P12
        have fx := (RX.out _ KW.out).1
        have a0 := fx.cell 0 _ rfl
        have a1 := fx.cell 1 _ rfl
        have a2 := fx.cell 2 _ rfl
        have a3 := fx.cell 3 _ rfl
        have a4 := fx.cell 4 _ rfl
        have a5 := fx.cell 5 _ rfl
        have a6 := fx.cell 6 _ rfl
        have a7 := fx.cell 7 _ rfl
        have a8 := fx.cell 8 _ rfl
        have a9 := fx.cell 9 _ rfl
        have a10 := fx.cell 10 _ rfl
        have a11 := fx.cell 11 _ rfl
        clear fx
        have HC := Aid.hid (lay_is x w6 ((RX.out _ KW.out).2.more (Nat.le_trans SZ.out KW.out.size)) SM.out.len)
        go_wp2_with fail
        go_at_call 8
        refine HC.out.mono ?_
        rintro e w7 ⟨hb7, hl⟩
        obtain ⟨A3, c3, ev3, rfl, o3, _⟩ := Lays.of hl
        rw [HBS.out] at o3 ⊢
        replace O2 := Aid.hid (own_keeps O2.out hb7)
        have KW := Aid.hid (KW.out.trans (hb7.mono KW.out.size))
        have O3 := Aid.hid o3
        clear hb7 hl o3 HC
        clear a0 a1 a2 a3 a4 a5 a6 a7 a8 a9 a10 a11
        have HC := Aid.hid (Lays.same (c := c3) (d := c2) (bytes_of_own O3.out LN.out) (bytes_of_own O2.out LN.out))
        go_wp2_with fail
        go_at_call 10
        refine HC.out.mono ?_
        rintro e w8 ⟨rfl, hb8⟩
        have KW := Aid.hid (KW.out.trans (hb8.mono KW.out.size))
        clear hb8 HC
        go_wp2_with fail
        go_at_call 7
        refine (awake_is _ (HG.out _ KW.out)).mono ?_
        rintro e w9 ⟨rfl, hb9⟩
        have KW9 := Aid.hid (KW.out.trans (hb9.mono KW.out.size))
        clear hb9
        go_wp2_with fail
        go_ret
        exact ⟨rfl, FB.out _ KW9.out⟩
      case false =>
        have HRR := Aid.hid hrr
        clear hrr
        go_wp2_with fail
        have hb : Below w4.heap.size w4 w4.drew := (Below.refl _ _).drew
        refine Ord.wp_region_walk (fun w' => Below w4.heap.size w4 w') 23 [(true, 0), (true, 1), (false, 2), (true, 3), (true, 4), (true, 6), (false, 5), (true, 7), (true, 8), (true, 9), (true, 10), (true, 11), (true, 13), (true, 14), (false, 12), (false, 15), (true, 16), (true, 17), (true, 18), (true, 19), (true, 20), (false, 21), (true, 22)] (by kernel_rfl) (by kernel_rfl) (fun _ _ d _ _ h => by cases d <;> exact h) (hb) ?_
        apply Ord.walk_light
        next => (simp only [List.getElem?_toArray, List.getElem?_cons_zero]; rfl)
        next => rfl
        next => (intro w' hSw; clear hSw; go_simp; first | done | with_reducible rfl)
        simp only [Act.put, List.setIfInBounds_toArray, List.set_cons_zero, List.set_cons_succ]
        apply Ord.walk_light
        next => (simp only [List.getElem?_toArray, List.getElem?_cons_succ, List.getElem?_cons_zero]; rfl)
        next => rfl
        next => (intro w' hSw; clear hSw; go_simp; first | done | with_reducible rfl)
        simp only [Act.put, List.setIfInBounds_toArray, List.set_cons_zero, List.set_cons_succ]
        apply Ord.walk_heavy
        next => (simp only [List.getElem?_toArray, List.getElem?_cons_succ, List.getElem?_cons_zero]; rfl)
        next => rfl
        intro K hK
        go_wp2_with fail
        refine (Lays.same (c := c1) (d := c2) (bytes_of_own (own_keeps O1.out hb) LN.out) (bytes_of_own (own_keeps O2.out hb) LN.out)).mono ?_; rintro e w' ⟨rfl, hb'⟩; dsimp only
        refine hK.out _ _ (hb.trans (hb'.mono hb.size)) (fun hHeld => ?_)
        clear hb hb'
        have hb := hHeld
        clear hK K
        try simp only [Act.put, List.setIfInBounds_toArray, List.set_cons_zero, List.set_cons_succ]
        apply Ord.walk_light
        next => (simp only [List.getElem?_toArray, List.getElem?_cons_succ, List.getElem?_cons_zero]; rfl)
        next => rfl
        next => (intro w' hSw; clear hSw; go_simp; first | done | with_reducible rfl)
        simp only [Act.put, List.setIfInBounds_toArray, List.set_cons_zero, List.set_cons_succ]
        apply Ord.walk_light
        next => (simp only [List.getElem?_toArray, List.getElem?_cons_succ, List.getElem?_cons_zero]; rfl)
        next => rfl
        next => (intro w' hSw; clear hSw; go_simp; first | done | with_reducible rfl)
        simp only [Act.put, List.setIfInBounds_toArray, List.set_cons_zero, List.set_cons_succ]
        apply Ord.walk_light
        next => (simp only [List.getElem?_toArray, List.getElem?_cons_succ, List.getElem?_cons_zero]; rfl)
        next => rfl
        next => (intro w' hSw; clear hSw; go_simp; first | done | with_reducible rfl)
        simp only [Act.put, List.setIfInBounds_toArray, List.set_cons_zero, List.set_cons_succ]
        apply Ord.walk_heavy
        next => (simp only [List.getElem?_toArray, List.getElem?_cons_succ, List.getElem?_cons_zero]; rfl)
        next => rfl
        intro K hK
        go_wp2_with fail
        refine ((Lays.codeIs ER.out (K3.out.trans (hb.mono K3.out.size)) (HG.out _ (KW.out.trans (hb.mono KW.out.size)))).mono (fun e w' h => (⟨h.1.trans (by rw [HCD.out]), h.2⟩ : e = .returned (.int .i64 cd) ∧ Below _ _ w'))).mono ?_; rintro e w' ⟨rfl, hb'⟩; dsimp only
        refine hK.out _ _ (hb.trans (hb'.mono hb.size)) (fun hHeld => ?_)
        clear hb hb'
        have hb := hHeld
        clear hK K
        try simp only [Act.put, List.setIfInBounds_toArray, List.set_cons_zero, List.set_cons_succ]
        apply Ord.walk_light
        next => (simp only [List.getElem?_toArray, List.getElem?_cons_succ, List.getElem?_cons_zero]; rfl)
        next => rfl
        next => (intro w' hSw; clear hSw; go_simp; first | done | with_reducible rfl)
        simp only [Act.put, List.setIfInBounds_toArray, List.set_cons_zero, List.set_cons_succ]
        apply Ord.walk_light
        next => (simp only [List.getElem?_toArray, List.getElem?_cons_succ, List.getElem?_cons_zero]; rfl)
        next => rfl
        next => (intro w' hSw; clear hSw; go_simp; first | done | with_reducible rfl)
        simp only [Act.put, List.setIfInBounds_toArray, List.set_cons_zero, List.set_cons_succ]
        apply Ord.walk_light
        next => (simp only [List.getElem?_toArray, List.getElem?_cons_succ, List.getElem?_cons_zero]; rfl)
        next => rfl
        next => (intro w' hSw; clear hSw; go_simp; first | done | with_reducible rfl)
        simp only [Act.put, List.setIfInBounds_toArray, List.set_cons_zero, List.set_cons_succ]
        apply Ord.walk_light
        next => (simp only [List.getElem?_toArray, List.getElem?_cons_succ, List.getElem?_cons_zero]; rfl)
        next => rfl
        next => (intro w' hSw; have fx := (RX.out _ (KW.out.trans (hSw.mono KW.out.size))).1; have a0 := fx.cell 0 _ rfl; have a1 := fx.cell 1 _ rfl; have a2 := fx.cell 2 _ rfl; have a3 := fx.cell 3 _ rfl; have a4 := fx.cell 4 _ rfl; have a5 := fx.cell 5 _ rfl; have a6 := fx.cell 6 _ rfl; have a7 := fx.cell 7 _ rfl; have a8 := fx.cell 8 _ rfl; have a9 := fx.cell 9 _ rfl; have a10 := fx.cell 10 _ rfl; have a11 := fx.cell 11 _ rfl; clear fx hSw; go_simp; first | done | with_reducible rfl)
        simp only [Act.put, List.setIfInBounds_toArray, List.set_cons_zero, List.set_cons_succ]
        apply Ord.walk_light
        next => (simp only [List.getElem?_toArray, List.getElem?_cons_succ, List.getElem?_cons_zero]; rfl)
        next => rfl
        next => (intro w' hSw; have fy := (RY.out _ (KW.out.trans (hSw.mono KW.out.size))).1; have b0 := fy.cell 0 _ rfl; have b1 := fy.cell 1 _ rfl; have b2 := fy.cell 2 _ rfl; have b3 := fy.cell 3 _ rfl; have b4 := fy.cell 4 _ rfl; have b5 := fy.cell 5 _ rfl; have b6 := fy.cell 6 _ rfl; have b7 := fy.cell 7 _ rfl; have b8 := fy.cell 8 _ rfl; have b9 := fy.cell 9 _ rfl; have b10 := fy.cell 10 _ rfl; have b11 := fy.cell 11 _ rfl; clear fy hSw; go_simp; first | done | with_reducible rfl)
        simp only [Act.put, List.setIfInBounds_toArray, List.set_cons_zero, List.set_cons_succ]
        apply Ord.walk_light
        next => (simp only [List.getElem?_toArray, List.getElem?_cons_succ, List.getElem?_cons_zero]; rfl)
        next => rfl
        next => (intro w' hSw; have fx := (RX.out _ (KW.out.trans (hSw.mono KW.out.size))).1; have a0 := fx.cell 0 _ rfl; have a1 := fx.cell 1 _ rfl; have a2 := fx.cell 2 _ rfl; have a3 := fx.cell 3 _ rfl; have a4 := fx.cell 4 _ rfl; have a5 := fx.cell 5 _ rfl; have a6 := fx.cell 6 _ rfl; have a7 := fx.cell 7 _ rfl; have a8 := fx.cell 8 _ rfl; have a9 := fx.cell 9 _ rfl; have a10 := fx.cell 10 _ rfl; have a11 := fx.cell 11 _ rfl; clear fx hSw; go_simp; first | done | with_reducible rfl)
        simp only [Act.put, List.setIfInBounds_toArray, List.set_cons_zero, List.set_cons_succ]
        apply Ord.walk_light
        next => (simp only [List.getElem?_toArray, List.getElem?_cons_succ, List.getElem?_cons_zero]; rfl)
        next => rfl
        next => (intro w' hSw; have fy := (RY.out _ (KW.out.trans (hSw.mono KW.out.size))).1; have b0 := fy.cell 0 _ rfl; have b1 := fy.cell 1 _ rfl; have b2 := fy.cell 2 _ rfl; have b3 := fy.cell 3 _ rfl; have b4 := fy.cell 4 _ rfl; have b5 := fy.cell 5 _ rfl; have b6 := fy.cell 6 _ rfl; have b7 := fy.cell 7 _ rfl; have b8 := fy.cell 8 _ rfl; have b9 := fy.cell 9 _ rfl; have b10 := fy.cell 10 _ rfl; have b11 := fy.cell 11 _ rfl; clear fy hSw; go_simp; first | done | with_reducible rfl)
        simp only [Act.put, List.setIfInBounds_toArray, List.set_cons_zero, List.set_cons_succ]
        apply Ord.walk_heavy
        next => (simp only [List.getElem?_toArray, List.getElem?_cons_succ, List.getElem?_cons_zero]; rfl)
        next => rfl
        intro K hK
        go_wp2_with fail
        refine ((same_is w.heap.size w.heap.size x y _ (RX.out _ (KW.out.trans (hb.mono KW.out.size))).2 (RY.out _ (KW.out.trans (hb.mono KW.out.size))).2 (Nat.le_trans SZ.out (Nat.le_trans KW.out.size hb.size)) (Nat.le_trans SZ.out (Nat.le_trans KW.out.size hb.size))).mono (fun e w' h => (⟨h.1.trans (by rw [HRR.out]), h.2⟩ : e = .returned (.bool false) ∧ Below _ _ w'))).mono ?_; rintro e w' ⟨rfl, hb'⟩; dsimp only
        refine hK.out _ _ (hb.trans (hb'.mono hb.size)) (fun hHeld => ?_)
        clear hb hb'
        have hb := hHeld
        clear hK K
        try simp only [Act.put, List.setIfInBounds_toArray, List.set_cons_zero, List.set_cons_succ]
        apply Ord.walk_heavy
        next => (simp only [List.getElem?_toArray, List.getElem?_cons_succ, List.getElem?_cons_zero]; rfl)
        next => rfl
        intro K hK
        go_wp2_with fail
        refine ((sImage_is w.heap.size w.heap.size x y _ (RX.out _ (KW.out.trans (hb.mono KW.out.size))).2 (RY.out _ (KW.out.trans (hb.mono KW.out.size))).2 (Nat.le_trans SZ.out (Nat.le_trans KW.out.size hb.size)) (Nat.le_trans SZ.out (Nat.le_trans KW.out.size hb.size))).mono (fun e w' h => (⟨h.1.trans (by rw [Img.eqI_is, HRR.out]), h.2⟩ : e = .returned (.bool false) ∧ Below _ _ w'))).mono ?_; rintro e w' ⟨rfl, hb'⟩; dsimp only
        refine hK.out _ _ (hb.trans (hb'.mono hb.size)) (fun hHeld => ?_)
        clear hb hb'
        have hb := hHeld
        clear hK K
        try simp only [Act.put, List.setIfInBounds_toArray, List.set_cons_zero, List.set_cons_succ]
        apply Ord.walk_light
        next => (simp only [List.getElem?_toArray, List.getElem?_cons_succ, List.getElem?_cons_zero]; rfl)
        next => rfl
        next => (intro w' hSw; clear hSw; go_simp; first | done | with_reducible rfl)
        simp only [Act.put, List.setIfInBounds_toArray, List.set_cons_zero, List.set_cons_succ]
        apply Ord.walk_light
        next => (simp only [List.getElem?_toArray, List.getElem?_cons_succ, List.getElem?_cons_zero]; rfl)
        next => rfl
        next => (intro w' hSw; clear hSw; go_simp; first | done | with_reducible rfl)
        simp only [Act.put, List.setIfInBounds_toArray, List.set_cons_zero, List.set_cons_succ]
        apply Ord.walk_light
        next => (simp only [List.getElem?_toArray, List.getElem?_cons_succ, List.getElem?_cons_zero]; rfl)
        next => rfl
        next => (intro w' hSw; clear hSw; go_simp; first | done | with_reducible rfl)
        simp only [Act.put, List.setIfInBounds_toArray, List.set_cons_zero, List.set_cons_succ]
        apply Ord.walk_light
        next => (simp only [List.getElem?_toArray, List.getElem?_cons_succ, List.getElem?_cons_zero]; rfl)
        next => rfl
        next => (intro w' hSw; have fx := (RX.out _ (KW.out.trans (hSw.mono KW.out.size))).1; have a0 := fx.cell 0 _ rfl; have a1 := fx.cell 1 _ rfl; have a2 := fx.cell 2 _ rfl; have a3 := fx.cell 3 _ rfl; have a4 := fx.cell 4 _ rfl; have a5 := fx.cell 5 _ rfl; have a6 := fx.cell 6 _ rfl; have a7 := fx.cell 7 _ rfl; have a8 := fx.cell 8 _ rfl; have a9 := fx.cell 9 _ rfl; have a10 := fx.cell 10 _ rfl; have a11 := fx.cell 11 _ rfl; clear fx hSw; go_simp; first | done | with_reducible rfl)
        simp only [Act.put, List.setIfInBounds_toArray, List.set_cons_zero, List.set_cons_succ]
        apply Ord.walk_light
        next => (simp only [List.getElem?_toArray, List.getElem?_cons_succ, List.getElem?_cons_zero]; rfl)
        next => rfl
        next => (intro w' hSw; have fx := (RX.out _ (KW.out.trans (hSw.mono KW.out.size))).1; have a0 := fx.cell 0 _ rfl; have a1 := fx.cell 1 _ rfl; have a2 := fx.cell 2 _ rfl; have a3 := fx.cell 3 _ rfl; have a4 := fx.cell 4 _ rfl; have a5 := fx.cell 5 _ rfl; have a6 := fx.cell 6 _ rfl; have a7 := fx.cell 7 _ rfl; have a8 := fx.cell 8 _ rfl; have a9 := fx.cell 9 _ rfl; have a10 := fx.cell 10 _ rfl; have a11 := fx.cell 11 _ rfl; clear fx hSw; go_simp; first | done | with_reducible rfl)
        simp only [Act.put, List.setIfInBounds_toArray, List.set_cons_zero, List.set_cons_succ]
        apply Ord.walk_heavy
        next => (simp only [List.getElem?_toArray, List.getElem?_cons_succ, List.getElem?_cons_zero]; rfl)
        next => rfl
        intro K hK
        go_wp2_with fail
        refine ((same_is w.heap.size w.heap.size x x _ (RX.out _ (KW.out.trans (hb.mono KW.out.size))).2 (RX.out _ (KW.out.trans (hb.mono KW.out.size))).2 (Nat.le_trans SZ.out (Nat.le_trans KW.out.size hb.size)) (Nat.le_trans SZ.out (Nat.le_trans KW.out.size hb.size))).mono (fun e w' h => (⟨h.1.trans (by rw [Img.eqb_refl]), h.2⟩ : e = .returned (.bool true) ∧ Below _ _ w'))).mono ?_; rintro e w' ⟨rfl, hb'⟩; dsimp only
        refine hK.out _ _ (hb.trans (hb'.mono hb.size)) (fun hHeld => ?_)
        clear hb hb'
        have hb := hHeld
        clear hK K
        try simp only [Act.put, List.setIfInBounds_toArray, List.set_cons_zero, List.set_cons_succ]
        apply Ord.walk_light
        next => (simp only [List.getElem?_toArray, List.getElem?_cons_succ, List.getElem?_cons_zero]; rfl)
        next => rfl
        next => (intro w' hSw; clear hSw; go_simp; first | done | with_reducible rfl)
        simp only [Act.put, List.setIfInBounds_toArray, List.set_cons_zero, List.set_cons_succ]
        refine Ord.walk_tail ?_; simp only [List.drop_succ_cons, List.drop_zero]
        go_wp2_with fail
        have O1b := own_keeps O1.out hb
        have O2b := own_keeps O2.out hb
        have KR := Aid.hid (KW.out.trans (hb.mono KW.out.size))
        have HC := Aid.hid (overBytes_g A1 c1 _ bs.length _ _ O1b (by intro u hu; obtain ⟨n, _, rfl⟩ := List.mem_map.1 hu; rfl) LN.out KR.out.size)
        have H1 := Aid.hid O1b
        have H2 := Aid.hid O2b
        clear hb KW O1 O2 O1b O2b
        go_at_call 14
        refine HC.out.mono ?_
        rintro e w6 ⟨rfl, hgr⟩
        clear HC
        have O2 := Aid.hid (own_grown H2.out hgr (fun g hg => P12.out g (by rw [← rowb_own]; exact hg)))
        have KW := Aid.hid (KR.out.grown hgr KR.out.size (fun q hq => (H1.out.lt q (by rw [rowb_own]; exact hq)).1))
        clear hgr H1 H2 KR P12
        have fx := (RX.out _ KW.out).1
        have a0 := fx.cell 0 _ rfl
        have a1 := fx.cell 1 _ rfl
        have a2 := fx.cell 2 _ rfl
        have a3 := fx.cell 3 _ rfl
        have a4 := fx.cell 4 _ rfl
        have a5 := fx.cell 5 _ rfl
        have a6 := fx.cell 6 _ rfl
        have a7 := fx.cell 7 _ rfl
        have a8 := fx.cell 8 _ rfl
        have a9 := fx.cell 9 _ rfl
        have a10 := fx.cell 10 _ rfl
        have a11 := fx.cell 11 _ rfl
        clear fx
        have HC := Aid.hid (lay_is x w6 ((RX.out _ KW.out).2.more (Nat.le_trans SZ.out KW.out.size)) SM.out.len)
        go_wp2_with fail
        go_at_call 8
        refine HC.out.mono ?_
        rintro e w7 ⟨hb7, hl⟩
        obtain ⟨A3, c3, ev3, rfl, o3, _⟩ := Lays.of hl
        rw [HBS.out] at o3 ⊢
        replace O2 := Aid.hid (own_keeps O2.out hb7)
        have KW := Aid.hid (KW.out.trans (hb7.mono KW.out.size))
        have O3 := Aid.hid o3
        clear hb7 hl o3 HC
        clear a0 a1 a2 a3 a4 a5 a6 a7 a8 a9 a10 a11
        have HC := Aid.hid (Lays.same (c := c3) (d := c2) (bytes_of_own O3.out LN.out) (bytes_of_own O2.out LN.out))
        go_wp2_with fail
        go_at_call 10
        refine HC.out.mono ?_
        rintro e w8 ⟨rfl, hb8⟩
        have KW := Aid.hid (KW.out.trans (hb8.mono KW.out.size))
        clear hb8 HC
        go_wp2_with fail
        go_at_call 7
        refine (awake_is _ (HG.out _ KW.out)).mono ?_
        rintro e w9 ⟨rfl, hb9⟩
        have KW9 := Aid.hid (KW.out.trans (hb9.mono KW.out.size))
        clear hb9
        go_wp2_with fail
        go_ret
        exact ⟨rfl, FB.out _ KW9.out⟩
end Go.Proofs.YtaogegeidbclaaaGreatDoor
