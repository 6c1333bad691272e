/- ImageBack, as a walk. -/
import Derived.Test.YtaogegeidbclaaaGreatDoorImgBackA
namespace Go.Proofs.YtaogegeidbclaaaGreatDoor
open Go.RowKit

set_option maxRecDepth 100000 in
set_option maxHeartbeats 4000000 in
theorem imageBack_walk (x : Img) (A : Option Addr) (c : Nat) (bs : List Int) (cut : Int) (w : World) (hg : Door w) (hx : Img.At w w.heap.size x) (hb : LBytes w w.heap.size A bs) (hc : bs.length ≤ c) (hy : ∀ y ∈ bs, 0 ≤ y ∧ y < 256) :
    Calls Tryz.prog 5 #[.agg #[.slice x.fA x.faces.length x.fc, .slice x.cA x.classes.length x.cc, .slice x.dA x.codes.length x.dc, .slice x.nA x.insts.length x.nc, .string x.globals, .slice x.iA x.init.length x.ic, .slice x.bA x.blocks.length x.bc, .slice x.xA x.ins.length x.xc, .slice x.oA x.outs.length x.oc, .slice x.jA x.jobs.length x.jc, .int .i64 x.d, .int .i64 x.w], .slice A bs.length c, .int .i64 cut] w fun e w' => e = .returned (.bool true) ∧ Below w.heap.size w w' := by
  obtain ⟨i0, hi, hz0, hz1, hz2⟩ := info_parts info_byte
  obtain ⟨W, hW⟩ : ∃ W, (w.alloc (.cells #[.slice x.fA x.faces.length x.fc, .slice x.cA x.classes.length x.cc, .slice x.dA x.codes.length x.dc, .slice x.nA x.insts.length x.nc, .string x.globals, .slice x.iA x.init.length x.ic, .slice x.bA x.blocks.length x.bc, .slice x.xA x.ins.length x.xc, .slice x.oA x.outs.length x.oc, .slice x.jA x.jobs.length x.jc, .int .i64 x.d, .int .i64 x.w] 29)) = W := ⟨_, rfl⟩
  have hbx : Aid.Has W w.heap.size [.slice x.fA x.faces.length x.fc, .slice x.cA x.classes.length x.cc, .slice x.dA x.codes.length x.dc, .slice x.nA x.insts.length x.nc, .string x.globals, .slice x.iA x.init.length x.ic, .slice x.bA x.blocks.length x.bc, .slice x.xA x.ins.length x.xc, .slice x.oA x.outs.length x.oc, .slice x.jA x.jobs.length x.jc, .int .i64 x.d, .int .i64 x.w] 29 := by subst hW; exact Aid.Has.new w [.slice x.fA x.faces.length x.fc, .slice x.cA x.classes.length x.cc, .slice x.dA x.codes.length x.dc, .slice x.nA x.insts.length x.nc, .string x.globals, .slice x.iA x.init.length x.ic, .slice x.bA x.blocks.length x.bc, .slice x.xA x.ins.length x.xc, .slice x.oA x.outs.length x.oc, .slice x.jA x.jobs.length x.jc, .int .i64 x.d, .int .i64 x.w] 29
  have b0 : Below w.heap.size w W := by subst hW; exact (Below.refl _ w).alloc (Nat.le_refl _) _
  have sz : w.heap.size ≤ W.heap.size := b0.size
  have RX : Hid (∀ wr, Below W.heap.size W wr → Aid.Has wr w.heap.size [.slice x.fA x.faces.length x.fc, .slice x.cA x.classes.length x.cc, .slice x.dA x.codes.length x.dc, .slice x.nA x.insts.length x.nc, .string x.globals, .slice x.iA x.init.length x.ic, .slice x.bA x.blocks.length x.bc, .slice x.xA x.ins.length x.xc, .slice x.oA x.outs.length x.oc, .slice x.jA x.jobs.length x.jc, .int .i64 x.d, .int .i64 x.w] 29 ∧ Img.At wr w.heap.size x) := Aid.hid fun wr h => ⟨hbx.below h hbx.lt, (hx.below b0 (Nat.le_refl _)).below h sz⟩
  have RB : Hid (∀ wr, Below W.heap.size W wr → LBytes wr w.heap.size A bs) := Aid.hid fun wr h => (hb.below b0 (Nat.le_refl _)).below h sz
  have SZ := Aid.hid sz
  have KW : Hid (Below W.heap.size W W) := Aid.hid (Below.refl _ _)
  have FB : Hid (∀ wr, Below W.heap.size W wr → Below w.heap.size w wr) := Aid.hid fun wr h => b0.trans (h.mono sz)
  have HG : Hid (∀ wr, Below W.heap.size W wr → Door wr) := Aid.hid fun wr h => (hg.below b0).below h
  have HY := Aid.hid hy
  clear hbx b0 sz hx hb hg hy
  subst hW
  have fx := (RX.out _ KW.out).1
  have a0 := fx.cell 0 _ rfl
  have a1 := fx.cell 1 _ rfl
  have a2 := fx.cell 2 _ rfl
  have a3 := fx.cell 3 _ rfl
  have a4 := fx.cell 4 _ rfl
  have a5 := fx.cell 5 _ rfl
  have a6 := fx.cell 6 _ rfl
  have a7 := fx.cell 7 _ rfl
  have a8 := fx.cell 8 _ rfl
  have a9 := fx.cell 9 _ rfl
  have a10 := fx.cell 10 _ rfl
  have a11 := fx.cell 11 _ rfl
  clear fx
  have HC := Aid.hid (great_is w.heap.size x (w.alloc (.cells #[.slice x.fA x.faces.length x.fc, .slice x.cA x.classes.length x.cc, .slice x.dA x.codes.length x.dc, .slice x.nA x.insts.length x.nc, .string x.globals, .slice x.iA x.init.length x.ic, .slice x.bA x.blocks.length x.bc, .slice x.xA x.ins.length x.xc, .slice x.oA x.outs.length x.oc, .slice x.jA x.jobs.length x.jc, .int .i64 x.d, .int .i64 x.w] 29)) (RX.out _ KW.out).2 SZ.out)
  go_enter Tryz.func5, Tryz.ntmps5
  try simp only [List.append_eq, List.cons_append, List.nil_append]
  go_wp2_with fail
  go_at_call 6
  refine HC.out.mono ?_
  rintro e w1 ⟨⟨b, rfl, hs⟩, hb1⟩
  have KW := Aid.hid (KW.out.trans (hb1.mono KW.out.size))
  have SX := Aid.hid hs
  clear hb1 hs HC
  clear a0 a1 a2 a3 a4 a5 a6 a7 a8 a9 a10 a11
  cases b
  case true =>
    go_wp2_with fail
    go_at_call 7
    refine (awake_is _ (HG.out _ KW.out)).mono ?_
    rintro e wq ⟨rfl, hbq⟩
    have KQ := Aid.hid (KW.out.trans (hbq.mono KW.out.size))
    clear hbq
    go_wp2_with fail
    go_ret
    exact ⟨rfl, FB.out _ KQ.out⟩
  case false =>
    have SM := Aid.hid (SX.out rfl)
    clear SX
    by_cases hbl : 4000 < bs.length
    · have hbl2 : ((4000 : Int) < (bs.length : Int)) := by omega
      go_wp2_with fail
      go_at_call 7
      refine (awake_is _ (HG.out _ KW.out)).mono ?_
      rintro e wq ⟨rfl, hbq⟩
      have KQ := Aid.hid (KW.out.trans (hbq.mono KW.out.size))
      clear hbq
      go_wp2_with fail
      go_ret
      exact ⟨rfl, FB.out _ KQ.out⟩
    · have hbl2 : ¬ ((4000 : Int) < (bs.length : Int)) := by omega
      have fx := (RX.out _ KW.out).1
      have a0 := fx.cell 0 _ rfl
      have a1 := fx.cell 1 _ rfl
      have a2 := fx.cell 2 _ rfl
      have a3 := fx.cell 3 _ rfl
      have a4 := fx.cell 4 _ rfl
      have a5 := fx.cell 5 _ rfl
      have a6 := fx.cell 6 _ rfl
      have a7 := fx.cell 7 _ rfl
      have a8 := fx.cell 8 _ rfl
      have a9 := fx.cell 9 _ rfl
      have a10 := fx.cell 10 _ rfl
      have a11 := fx.cell 11 _ rfl
      clear fx
      have HC := Aid.hid (lay_is x w1 ((RX.out _ KW.out).2.more (Nat.le_trans SZ.out KW.out.size)) SM.out.len)
      go_wp2_with fail
      go_at_call 8
      refine HC.out.mono ?_
      rintro e w3 ⟨hb3, hl⟩
      have hb3s := KW.out.size
      have KW := Aid.hid (KW.out.trans (hb3.mono KW.out.size))
      clear hb3 HC
      clear a0 a1 a2 a3 a4 a5 a6 a7 a8 a9 a10 a11
      rcases hl with ⟨hx, b, rfl, _, hw⟩ | ⟨hx, A1, c1, rfl, ho⟩
      · have HC := Aid.hid (code_is b 24 w3 (HG.out _ KW.out) hw)
        clear hx hw
        go_wp2_with fail
        go_at_call 11
        refine HC.out.mono ?_
        rintro e w4 ⟨rfl, hb4⟩
        have KW := Aid.hid (KW.out.trans (hb4.mono KW.out.size))
        clear hb4 HC
        have HC := Aid.hid (read_is w.heap.size A c bs w4 (RB.out _ KW.out).reads (Nat.le_trans SZ.out KW.out.size) hc HY.out)
        go_wp2_with fail
        go_at_call 16
        refine HC.out.mono ?_
        rintro e wa ⟨hba, hr⟩
        have KW := Aid.hid (KW.out.trans (hba.mono KW.out.size))
        clear hba HC
        rcases hr with ⟨v, rfl, va, vs, vb, vx, _⟩ | ⟨b, rfl, _, hwb, _⟩
        · have ka : Below wa.heap.size wa (wa.alloc (.cells #[.slice v.fA v.faces.length v.fc, .slice v.cA v.classes.length v.cc, .slice v.dA v.codes.length v.dc, .slice v.nA v.insts.length v.nc, .string v.globals, .slice v.iA v.init.length v.ic, .slice v.bA v.blocks.length v.bc, .slice v.xA v.ins.length v.xc, .slice v.oA v.outs.length v.oc, .slice v.jA v.jobs.length v.jc, .int .i64 v.d, .int .i64 v.w] 29)) := (Below.refl _ _).alloc (Nat.le_refl _) _
          have HC := Aid.hid (lay_is v (wa.alloc (.cells #[.slice v.fA v.faces.length v.fc, .slice v.cA v.classes.length v.cc, .slice v.dA v.codes.length v.dc, .slice v.nA v.insts.length v.nc, .string v.globals, .slice v.iA v.init.length v.ic, .slice v.bA v.blocks.length v.bc, .slice v.xA v.ins.length v.xc, .slice v.oA v.outs.length v.oc, .slice v.jA v.jobs.length v.jc, .int .i64 v.d, .int .i64 v.w] 29)) ((va.below ka (Nat.le_refl _)).more ka.size) vs.len)
          have KW := Aid.hid (KW.out.trans (ka.mono KW.out.size))
          have VX := Aid.hid vx
          have VB := Aid.hid vb
          clear ka va vs vb vx
          go_wp2_with fail
          go_at_call 8
          refine HC.out.mono ?_
          rintro e wb ⟨hbb, hl⟩
          have KW := Aid.hid (KW.out.trans (hbb.mono KW.out.size))
          clear hbb HC
          rcases hl with ⟨hf, _⟩ | ⟨_, A5, c5, rfl, o5⟩
          · rw [VX.out] at hf; cases hf
          rw [VB.out] at o5 ⊢
          have HC := Aid.hid (Lays.same (c := c5) (d := c) (bytes_of_own o5 (by omega)) (RB.out _ KW.out))
          clear o5
          go_wp2_with fail
          go_at_call 10
          refine HC.out.mono ?_
          rintro e wd ⟨rfl, hbd⟩
          have KW := Aid.hid (KW.out.trans (hbd.mono KW.out.size))
          clear hbd HC
          go_wp2_with fail
          go_at_call 7
          refine (awake_is _ (HG.out _ KW.out)).mono ?_
          rintro e wq ⟨rfl, hbq⟩
          have KQ := Aid.hid (KW.out.trans (hbq.mono KW.out.size))
          clear hbq
          go_wp2_with fail
          go_ret
          exact ⟨rfl, FB.out _ KQ.out⟩
        · have ka : Below wa.heap.size wa (wa.alloc (.cells #[.slice none 0 0, .slice none 0 0, .slice none 0 0, .slice none 0 0, .string ⟨#[]⟩, .slice none 0 0, .slice none 0 0, .slice none 0 0, .slice none 0 0, .slice none 0 0, .int .i64 0, .int .i64 0] 29)) := (Below.refl _ _).alloc (Nat.le_refl _) _
          have hz := Aid.Has.new wa [.slice none 0 0, .slice none 0 0, .slice none 0 0, .slice none 0 0, .string ⟨#[]⟩, .slice none 0 0, .slice none 0 0, .slice none 0 0, .slice none 0 0, .slice none 0 0, .int .i64 0, .int .i64 0] 29
          have KW := Aid.hid (KW.out.trans (ka.mono KW.out.size))
          have HC := Aid.hid (code_is b 19 (wa.alloc (.cells #[.slice none 0 0, .slice none 0 0, .slice none 0 0, .slice none 0 0, .string ⟨#[]⟩, .slice none 0 0, .slice none 0 0, .slice none 0 0, .slice none 0 0, .slice none 0 0, .int .i64 0, .int .i64 0] 29)) (HG.out _ KW.out) (Aid.Has.below hwb ka (Aid.Has.lt hwb)))
          have HZ := Aid.hid hz
          clear ka hwb hz
          go_wp2_with fail
          go_at_call 11
          refine HC.out.mono ?_
          rintro e wb ⟨rfl, hbb⟩
          have fz := HZ.out.below hbb HZ.out.lt
          have z0 := fz.cell 0 _ rfl
          have z1 := fz.cell 1 _ rfl
          have z2 := fz.cell 2 _ rfl
          have z3 := fz.cell 3 _ rfl
          have z4 := fz.cell 4 _ rfl
          have z5 := fz.cell 5 _ rfl
          have z6 := fz.cell 6 _ rfl
          have z7 := fz.cell 7 _ rfl
          have z8 := fz.cell 8 _ rfl
          have z9 := fz.cell 9 _ rfl
          have z10 := fz.cell 10 _ rfl
          have z11 := fz.cell 11 _ rfl
          have KW := Aid.hid (KW.out.trans (hbb.mono KW.out.size))
          have HC := Aid.hid (sImage_yes wb.heap.size wb.heap.size Img.zero Img.zero wb (Img.zero_at wb) (Img.zero_at wb) (Nat.le_refl _) (Nat.le_refl _) (Img.eqb_refl _))
          clear hbb fz
          go_wp2_with fail
          go_at_call 13
          refine HC.out.mono ?_
          rintro e wd ⟨rfl, hbd⟩
          have KW := Aid.hid (KW.out.trans (hbd.mono KW.out.size))
          clear hbd HC z0 z1 z2 z3 z4 z5 z6 z7 z8 z9 z10 z11
          go_wp2_with fail
          go_at_call 7
          refine (awake_is _ (HG.out _ KW.out)).mono ?_
          rintro e wq ⟨rfl, hbq⟩
          have KQ := Aid.hid (KW.out.trans (hbq.mono KW.out.size))
          clear hbq
          go_wp2_with fail
          go_ret
          exact ⟨rfl, FB.out _ KQ.out⟩
      · obtain ⟨xs, hxs⟩ : ∃ xs, (Pc.img x).b = xs := ⟨_, rfl⟩
        have hlong := Pc.img_long x
        have hbyt := Byt.img x
        have hmax := SM.out.len
        unfold Byt at hbyt
        have HXS := Aid.hid hxs
        rw [hxs] at ho hlong hbyt hmax ⊢
        clear hxs
        have hne : ((xs.length : Int) == 0) = false := by
          have h0 : ¬ ((xs.length : Int) = 0) := by omega
          simpa using h0
        have hpos : 0 < xs.length := by omega
        have hcap := own_cap ho
        have O1 := Aid.hid (own_lowers ho hb3s)
        have HBY := Aid.hid hbyt
        have HXF := Aid.hid hx
        have HC := Aid.hid (read_is w3.heap.size A1 c1 xs w3 (Reads.of_own ho) (Nat.le_refl _) hcap hbyt)
        clear ho hlong hbyt hx
        go_wp2_with fail
        go_at_call 16
        refine HC.out.mono ?_
        rintro e w4 ⟨hb4, hr⟩
        clear HC
        obtain ⟨v, rfl, va, _, vb, vx, vu⟩ := hr.resolve_right (fun ⟨b, _, _, _, hno⟩ => hno x HXS.out HXF.out)
        have QV : Hid (Img.eqb v x = true) := Aid.hid (vu x [] (bs_nil HXS.out) HXF.out).2
        have PF : Hid (∀ (u : Img) (r : List Int), xs = (Pc.img u).b ++ r → (Pc.img u).x = false → r = []) := Aid.hid fun u r h1 h2 => (vu u r h1 h2).1
        replace O1 := Aid.hid (own_keeps O1.out hb4)
        have KW := Aid.hid (KW.out.trans (hb4.mono KW.out.size))
        obtain ⟨w5, hw5⟩ : ∃ w5, w4.alloc (.cells #[.slice v.fA v.faces.length v.fc, .slice v.cA v.classes.length v.cc, .slice v.dA v.codes.length v.dc, .slice v.nA v.insts.length v.nc, .string v.globals, .slice v.iA v.init.length v.ic, .slice v.bA v.blocks.length v.bc, .slice v.xA v.ins.length v.xc, .slice v.oA v.outs.length v.oc, .slice v.jA v.jobs.length v.jc, .int .i64 v.d, .int .i64 v.w] 29) = w5 := ⟨_, rfl⟩
        have k5 : Below w4.heap.size w4 w5 := by subst hw5; exact (Below.refl _ _).alloc (Nat.le_refl _) _
        have BV : Hid (Aid.Has w5 w4.heap.size [.slice v.fA v.faces.length v.fc, .slice v.cA v.classes.length v.cc, .slice v.dA v.codes.length v.dc, .slice v.nA v.insts.length v.nc, .string v.globals, .slice v.iA v.init.length v.ic, .slice v.bA v.blocks.length v.bc, .slice v.xA v.ins.length v.xc, .slice v.oA v.outs.length v.oc, .slice v.jA v.jobs.length v.jc, .int .i64 v.d, .int .i64 v.w] 29) := Aid.hid (by subst hw5; exact Aid.Has.new w4 [.slice v.fA v.faces.length v.fc, .slice v.cA v.classes.length v.cc, .slice v.dA v.codes.length v.dc, .slice v.nA v.insts.length v.nc, .string v.globals, .slice v.iA v.init.length v.ic, .slice v.bA v.blocks.length v.bc, .slice v.xA v.ins.length v.xc, .slice v.oA v.outs.length v.oc, .slice v.jA v.jobs.length v.jc, .int .i64 v.d, .int .i64 v.w] 29)
        have AV : Hid (Img.At w5 w4.heap.size v) := Aid.hid (va.below k5 (Nat.le_refl _))
        have S5 : Hid (w4.heap.size ≤ w5.heap.size) := Aid.hid k5.size
        replace O1 := Aid.hid (own_keeps O1.out k5)
        have KW := Aid.hid (KW.out.trans (k5.mono KW.out.size))
        have HC := Aid.hid (low_is cut xs.length hpos (by omega) w5)
        clear va vb vx vu hb4 k5
        subst hw5
        go_wp2_with fail
        go_at_call 18
        refine HC.out.mono ?_
        rintro e w5 ⟨⟨k, rfl, hk⟩, rfl⟩
        clear HC
        have hkl : (xs.take k).length = k := by rw [List.length_take]; omega
        have hkc : k ≤ c1 := by omega
        have HC := Aid.hid (read_is _ A1 c1 (xs.take k) _ (reads_take (Reads.of_own O1.out) (by omega)) (Nat.le_refl _) (by omega) (fun y hy => HBY.out y (List.mem_of_mem_take hy)))
        rw [hkl] at HC
        go_wp2_with fail
        go_at_call 16
        refine HC.out.mono ?_
        rintro e w6 ⟨hb6, hr⟩
        clear HC
        obtain ⟨b2, rfl, _, hw2, _⟩ := hr.resolve_left (fun ⟨u, _, _, _, h1, h2, _⟩ => by
          have h3 := PF.out u (xs.drop k) (by rw [h1, List.take_append_drop]) h2
          have h4 : (xs.drop k).length = 0 := by rw [h3]; rfl
          rw [List.length_drop] at h4; omega)
        have K5 := Aid.hid hb6
        replace O1 := Aid.hid (own_keeps O1.out hb6)
        have KW := Aid.hid (KW.out.trans (hb6.mono KW.out.size))
        obtain ⟨w7, hw7⟩ : ∃ w7, w6.alloc (.cells #[.slice none 0 0, .slice none 0 0, .slice none 0 0, .slice none 0 0, .string ⟨#[]⟩, .slice none 0 0, .slice none 0 0, .slice none 0 0, .slice none 0 0, .slice none 0 0, .int .i64 0, .int .i64 0] 29) = w7 := ⟨_, rfl⟩
        have k7 : Below w6.heap.size w6 w7 := by subst hw7; exact (Below.refl _ _).alloc (Nat.le_refl _) _
        have W2 : Hid (Wrong w7 b2 19) := Aid.hid (Aid.Has.below hw2 k7 (Aid.Has.lt hw2))
        replace O1 := Aid.hid (own_keeps O1.out k7)
        replace K5 := Aid.hid (K5.out.trans (k7.mono K5.out.size))
        have KW := Aid.hid (KW.out.trans (k7.mono KW.out.size))
        have hrd := Reads.of_own O1.out
        clear hw2 hb6 k7 hkl
        subst hw7
        go_wp2_with (at_builtin; refine wpList_append_any _ rfl _ _ 32 rfl (w6.alloc (.cells #[.slice none 0 0, .slice none 0 0, .slice none 0 0, .slice none 0 0, .string ⟨#[]⟩, .slice none 0 0, .slice none 0 0, .slice none 0 0, .slice none 0 0, .slice none 0 0, .int .i64 0, .int .i64 0] 29)).heap.size 5 i0 (.int .u8 0) 1 1 Tryz.underlying32 hi hz0 hz1 hz2 rfl (by decide) _ 0 [] rfl ⟨rfl, Or.inl ⟨rfl, rfl⟩⟩ _ A1 xs.length c1 (xs.map (Value.int .u8)) rfl hrd ?d1 ?d2 ?d3 (Nat.le_refl _) ?_)
        case d1 => intro u hu; obtain ⟨n, _, rfl⟩ := List.mem_map.1 hu; rfl
        case d2 => unfold maxLen; omega
        case d3 => omega
        intro v8 w8 ho8 hg8 _
        obtain ⟨A8, c8, rfl⟩ := own_slice ho8
        try rw [Nat.zero_add] at ho8
        try rw [List.nil_append] at ho8
        try simp only [Nat.zero_add]
        have KE : Below (w6.alloc (.cells #[.slice none 0 0, .slice none 0 0, .slice none 0 0, .slice none 0 0, .string ⟨#[]⟩, .slice none 0 0, .slice none 0 0, .slice none 0 0, .slice none 0 0, .slice none 0 0, .int .i64 0, .int .i64 0] 29)).heap.size (w6.alloc (.cells #[.slice none 0 0, .slice none 0 0, .slice none 0 0, .slice none 0 0, .string ⟨#[]⟩, .slice none 0 0, .slice none 0 0, .slice none 0 0, .slice none 0 0, .slice none 0 0, .int .i64 0, .int .i64 0] 29)) w8 := (Below.refl _ _).grown hg8 (Nat.le_refl _) (fun q hq => by cases hq)
        have hnew := Aid.Has.new w8 [.int .u8 (cut % 256)] 5
        have hr2 : Reads (w8.alloc (.cells #[.int .u8 (cut % 256)] 5)) (w8.alloc (.cells #[.int .u8 (cut % 256)] 5)).heap.size 1 (some ⟨w8.heap.size, 0, none⟩) 1 [.int .u8 (cut % 256)] := ⟨by simp, fun _ => ⟨⟨w8.heap.size, 0, none⟩, rfl, by simp [World.size_alloc], fun j u hj => by
          rw [Go.WideShapes.add_plain, Nat.zero_add]; exact hnew.cell j u hj⟩⟩
        have hbs : (w6.alloc (.cells #[.slice none 0 0, .slice none 0 0, .slice none 0 0, .slice none 0 0, .string ⟨#[]⟩, .slice none 0 0, .slice none 0 0, .slice none 0 0, .slice none 0 0, .slice none 0 0, .int .i64 0, .int .i64 0] 29)).heap.size ≤ (w8.alloc (.cells #[.int .u8 (cut % 256)] 5)).heap.size := Nat.le_trans KE.size (by simp)
        have HKE := Aid.hid KE
        have hbs2 : w6.heap.size + 1 ≤ (w8.alloc (.cells #[.int .u8 (cut % 256)] 5)).heap.size := by rw [World.size_alloc] at hbs; exact hbs
        have ho8b : w8.ownsRow (w6.heap.size + 1) 5 1 (.slice A8 xs.length c8) xs.length (xs.map (Value.int .u8)) := by first | exact ho8 | (rw [World.size_alloc] at ho8; exact ho8)
        have HG8 := Aid.hid ho8b
        clear hg8 KE hnew hrd
        go_wp2_with (at_builtin; refine wpList_append_any _ rfl _ _ 32 rfl (w6.heap.size + 1) 5 i0 (.int .u8 0) 1 1 Tryz.underlying32 hi hz0 hz1 hz2 rfl (by decide) _ xs.length _ rfl (ho8b.alloc _) _ (some ⟨w8.heap.size, 0, none⟩) 1 1 [.int .u8 (cut % 256)] rfl hr2 ?d1 ?d2 ?d3 hbs2 ?_)
        case d1 => intro u hu; simp at hu; subst hu; rfl
        case d2 => unfold maxLen; omega
        case d3 => omega
        intro v9 w9 ho9 hg9 _
        obtain ⟨A9, c9, rfl⟩ := own_slice ho9
        obtain ⟨ys, hys⟩ : ∃ ys, xs ++ [cut % 256] = ys := ⟨_, rfl⟩
        have hyl : ys.length = xs.length + 1 := by rw [← hys]; simp
        have hmap : ys.map (Value.int .u8) = xs.map (Value.int .u8) ++ [.int .u8 (cut % 256)] := by rw [← hys]; simp
        have HO9 : w9.ownsRow (w6.heap.size + 1) 5 1 (.slice A9 ys.length c9) ys.length (ys.map (Value.int .u8)) := by rw [hyl, hmap]; exact ho9
        have hyb : ∀ y ∈ ys, 0 ≤ y ∧ y < 256 := by
          rw [← hys]; intro y hy'
          rcases List.mem_append.1 hy' with h | h
          · exact HBY.out y h
          · obtain rfl : y = cut % 256 := by simpa using h
            omega
        have K9 : Below (w6.alloc (.cells #[.slice none 0 0, .slice none 0 0, .slice none 0 0, .slice none 0 0, .string ⟨#[]⟩, .slice none 0 0, .slice none 0 0, .slice none 0 0, .slice none 0 0, .slice none 0 0, .int .i64 0, .int .i64 0] 29)).heap.size (w6.alloc (.cells #[.slice none 0 0, .slice none 0 0, .slice none 0 0, .slice none 0 0, .string ⟨#[]⟩, .slice none 0 0, .slice none 0 0, .slice none 0 0, .slice none 0 0, .slice none 0 0, .int .i64 0, .int .i64 0] 29)) w9 := (HKE.out.alloc HKE.out.size _).grown hg9 hbs (fun q hq => by rw [World.size_alloc]; exact (HG8.out.lt q hq).1)
        have HC := Aid.hid (read_is _ A9 c9 ys w9 (Reads.of_own HO9) (Nat.le_refl _) (own_cap HO9) hyb)
        rw [hyl] at HC
        have HYS := Aid.hid hys
        replace K5 := Aid.hid (K5.out.trans (K9.mono K5.out.size))
        replace W2 : Hid (Wrong w9 b2 19) := Aid.hid (Aid.Has.below W2.out K9 (Aid.Has.lt W2.out))
        have KW := Aid.hid (KW.out.trans (K9.mono KW.out.size))
        clear ho8 ho8b hbs2 ho9 hg9 hbs hr2 HKE HG8 hys hyl hmap HO9 hyb K9 O1
        go_wp2_with fail
        go_at_call 16
        refine HC.out.mono ?_
        rintro e w10 ⟨hb10, hr⟩
        clear HC
        obtain ⟨b3, rfl, _, hw3, _⟩ := hr.resolve_left (fun ⟨u, _, _, _, _, _, h3⟩ => by
          have h4 := (h3 x [cut % 256] (by rw [HXS.out]; exact HYS.out.symm) HXF.out).1
          cases h4)
        obtain ⟨w11, hw11⟩ : ∃ w11, w10.alloc (.cells #[.slice none 0 0, .slice none 0 0, .slice none 0 0, .slice none 0 0, .string ⟨#[]⟩, .slice none 0 0, .slice none 0 0, .slice none 0 0, .slice none 0 0, .slice none 0 0, .int .i64 0, .int .i64 0] 29) = w11 := ⟨_, rfl⟩
        have k11 : Below w10.heap.size w10 w11 := by subst hw11; exact (Below.refl _ _).alloc (Nat.le_refl _) _
        have W3 : Hid (Wrong w11 b3 19) := Aid.hid (Aid.Has.below hw3 k11 (Aid.Has.lt hw3))
        replace W2 : Hid (Wrong w11 b2 19) := Aid.hid (Aid.Has.below (Aid.Has.below W2.out hb10 (Aid.Has.lt W2.out)) k11 (Nat.lt_of_lt_of_le (Aid.Has.lt W2.out) hb10.size))
        replace K5 := Aid.hid ((K5.out.trans (hb10.mono K5.out.size)).trans (k11.mono (Nat.le_trans K5.out.size hb10.size)))
        have KW := Aid.hid (KW.out.trans (hb10.mono KW.out.size))
        have KW := Aid.hid (KW.out.trans (k11.mono KW.out.size))
        have fz := BV.out.below K5.out BV.out.lt
        have z0 := fz.cell 0 _ rfl
        have z1 := fz.cell 1 _ rfl
        have z2 := fz.cell 2 _ rfl
        have z3 := fz.cell 3 _ rfl
        have z4 := fz.cell 4 _ rfl
        have z5 := fz.cell 5 _ rfl
        have z6 := fz.cell 6 _ rfl
        have z7 := fz.cell 7 _ rfl
        have z8 := fz.cell 8 _ rfl
        have z9 := fz.cell 9 _ rfl
        have z10 := fz.cell 10 _ rfl
        have z11 := fz.cell 11 _ rfl
        have fx := (RX.out _ KW.out).1
        have a0 := fx.cell 0 _ rfl
        have a1 := fx.cell 1 _ rfl
        have a2 := fx.cell 2 _ rfl
        have a3 := fx.cell 3 _ rfl
        have a4 := fx.cell 4 _ rfl
        have a5 := fx.cell 5 _ rfl
        have a6 := fx.cell 6 _ rfl
        have a7 := fx.cell 7 _ rfl
        have a8 := fx.cell 8 _ rfl
        have a9 := fx.cell 9 _ rfl
        have a10 := fx.cell 10 _ rfl
        have a11 := fx.cell 11 _ rfl
        clear fx
        have HC := Aid.hid (sImage_yes w4.heap.size w.heap.size v x w11 (AV.out.below K5.out S5.out) (RX.out _ KW.out).2 (Nat.le_trans S5.out K5.out.size) (Nat.le_trans SZ.out KW.out.size) QV.out)
        clear hw3 hb10 k11 fz
        subst hw11
        go_wp2_with fail
        go_at_call 13
        refine HC.out.mono ?_
        rintro e w12 ⟨rfl, hb12⟩
        have KW := Aid.hid (KW.out.trans (hb12.mono KW.out.size))
        have HC := Aid.hid (code_is b2 19 w12 (HG.out _ KW.out) (Aid.Has.below W2.out hb12 (Aid.Has.lt W2.out)))
        replace W3 : Hid (Wrong w12 b3 19) := Aid.hid (Aid.Has.below W3.out hb12 (Aid.Has.lt W3.out))
        clear hb12 W2 z0 z1 z2 z3 z4 z5 z6 z7 z8 z9 z10 z11
        clear a0 a1 a2 a3 a4 a5 a6 a7 a8 a9 a10 a11
        go_wp2_with fail
        go_at_call 11
        refine HC.out.mono ?_
        rintro e w13 ⟨rfl, hb13⟩
        have KW := Aid.hid (KW.out.trans (hb13.mono KW.out.size))
        have HC := Aid.hid (code_is b3 19 w13 (HG.out _ KW.out) (Aid.Has.below W3.out hb13 (Aid.Has.lt W3.out)))
        clear hb13 W3
        go_wp2_with fail
        go_at_call 11
        refine HC.out.mono ?_
        rintro e w14 ⟨rfl, hb14⟩
        have KW := Aid.hid (KW.out.trans (hb14.mono KW.out.size))
        clear hb14 HC
        have HC := Aid.hid (read_is w.heap.size A c bs w14 (RB.out _ KW.out).reads (Nat.le_trans SZ.out KW.out.size) hc HY.out)
        go_wp2_with fail
        go_at_call 16
        refine HC.out.mono ?_
        rintro e wa ⟨hba, hr⟩
        have KW := Aid.hid (KW.out.trans (hba.mono KW.out.size))
        clear hba HC
        rcases hr with ⟨v, rfl, va, vs, vb, vx, _⟩ | ⟨b, rfl, _, hwb, _⟩
        · have ka : Below wa.heap.size wa (wa.alloc (.cells #[.slice v.fA v.faces.length v.fc, .slice v.cA v.classes.length v.cc, .slice v.dA v.codes.length v.dc, .slice v.nA v.insts.length v.nc, .string v.globals, .slice v.iA v.init.length v.ic, .slice v.bA v.blocks.length v.bc, .slice v.xA v.ins.length v.xc, .slice v.oA v.outs.length v.oc, .slice v.jA v.jobs.length v.jc, .int .i64 v.d, .int .i64 v.w] 29)) := (Below.refl _ _).alloc (Nat.le_refl _) _
          have HC := Aid.hid (lay_is v (wa.alloc (.cells #[.slice v.fA v.faces.length v.fc, .slice v.cA v.classes.length v.cc, .slice v.dA v.codes.length v.dc, .slice v.nA v.insts.length v.nc, .string v.globals, .slice v.iA v.init.length v.ic, .slice v.bA v.blocks.length v.bc, .slice v.xA v.ins.length v.xc, .slice v.oA v.outs.length v.oc, .slice v.jA v.jobs.length v.jc, .int .i64 v.d, .int .i64 v.w] 29)) ((va.below ka (Nat.le_refl _)).more ka.size) vs.len)
          have KW := Aid.hid (KW.out.trans (ka.mono KW.out.size))
          have VX := Aid.hid vx
          have VB := Aid.hid vb
          clear ka va vs vb vx
          go_wp2_with fail
          go_at_call 8
          refine HC.out.mono ?_
          rintro e wb ⟨hbb, hl⟩
          have KW := Aid.hid (KW.out.trans (hbb.mono KW.out.size))
          clear hbb HC
          rcases hl with ⟨hf, _⟩ | ⟨_, A5, c5, rfl, o5⟩
          · rw [VX.out] at hf; cases hf
          rw [VB.out] at o5 ⊢
          have HC := Aid.hid (Lays.same (c := c5) (d := c) (bytes_of_own o5 (by omega)) (RB.out _ KW.out))
          clear o5
          go_wp2_with fail
          go_at_call 10
          refine HC.out.mono ?_
          rintro e wd ⟨rfl, hbd⟩
          have KW := Aid.hid (KW.out.trans (hbd.mono KW.out.size))
          clear hbd HC
          go_wp2_with fail
          go_at_call 7
          refine (awake_is _ (HG.out _ KW.out)).mono ?_
          rintro e wq ⟨rfl, hbq⟩
          have KQ := Aid.hid (KW.out.trans (hbq.mono KW.out.size))
          clear hbq
          go_wp2_with fail
          go_ret
          exact ⟨rfl, FB.out _ KQ.out⟩
        · have ka : Below wa.heap.size wa (wa.alloc (.cells #[.slice none 0 0, .slice none 0 0, .slice none 0 0, .slice none 0 0, .string ⟨#[]⟩, .slice none 0 0, .slice none 0 0, .slice none 0 0, .slice none 0 0, .slice none 0 0, .int .i64 0, .int .i64 0] 29)) := (Below.refl _ _).alloc (Nat.le_refl _) _
          have hz := Aid.Has.new wa [.slice none 0 0, .slice none 0 0, .slice none 0 0, .slice none 0 0, .string ⟨#[]⟩, .slice none 0 0, .slice none 0 0, .slice none 0 0, .slice none 0 0, .slice none 0 0, .int .i64 0, .int .i64 0] 29
          have KW := Aid.hid (KW.out.trans (ka.mono KW.out.size))
          have HC := Aid.hid (code_is b 19 (wa.alloc (.cells #[.slice none 0 0, .slice none 0 0, .slice none 0 0, .slice none 0 0, .string ⟨#[]⟩, .slice none 0 0, .slice none 0 0, .slice none 0 0, .slice none 0 0, .slice none 0 0, .int .i64 0, .int .i64 0] 29)) (HG.out _ KW.out) (Aid.Has.below hwb ka (Aid.Has.lt hwb)))
          have HZ := Aid.hid hz
          clear ka hwb hz
          go_wp2_with fail
          go_at_call 11
          refine HC.out.mono ?_
          rintro e wb ⟨rfl, hbb⟩
          have fz := HZ.out.below hbb HZ.out.lt
          have z0 := fz.cell 0 _ rfl
          have z1 := fz.cell 1 _ rfl
          have z2 := fz.cell 2 _ rfl
          have z3 := fz.cell 3 _ rfl
          have z4 := fz.cell 4 _ rfl
          have z5 := fz.cell 5 _ rfl
          have z6 := fz.cell 6 _ rfl
          have z7 := fz.cell 7 _ rfl
          have z8 := fz.cell 8 _ rfl
          have z9 := fz.cell 9 _ rfl
          have z10 := fz.cell 10 _ rfl
          have z11 := fz.cell 11 _ rfl
          have KW := Aid.hid (KW.out.trans (hbb.mono KW.out.size))
          have HC := Aid.hid (sImage_yes wb.heap.size wb.heap.size Img.zero Img.zero wb (Img.zero_at wb) (Img.zero_at wb) (Nat.le_refl _) (Nat.le_refl _) (Img.eqb_refl _))
          clear hbb fz
          go_wp2_with fail
          go_at_call 13
          refine HC.out.mono ?_
          rintro e wd ⟨rfl, hbd⟩
          have KW := Aid.hid (KW.out.trans (hbd.mono KW.out.size))
          clear hbd HC z0 z1 z2 z3 z4 z5 z6 z7 z8 z9 z10 z11
          go_wp2_with fail
          go_at_call 7
          refine (awake_is _ (HG.out _ KW.out)).mono ?_
          rintro e wq ⟨rfl, hbq⟩
          have KQ := Aid.hid (KW.out.trans (hbq.mono KW.out.size))
          clear hbq
          go_wp2_with fail
          go_ret
          exact ⟨rfl, FB.out _ KQ.out⟩
end Go.Proofs.YtaogegeidbclaaaGreatDoor
