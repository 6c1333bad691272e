/- ImageReads, as a walk: what is lent, the program's Read, all of it. -/
import Derived.Test.YtaogegeidbclaaaGreatDoorImgR2H
import Derived.Test.YtaogegeidbclaaaGreatDoorImgBackA
import Derived.Deep.DeepAppendRoom
import Derived.Laws.MakeOwn
namespace Go.Proofs.YtaogegeidbclaaaGreatDoor
open Go.RowKit

def ReadPF (bs : List Int) (B : Nat) (e : Ending) (w' : World) : Prop :=
  (∃ v : Img, e = .returned (.tuple #[.agg #[.slice v.fA v.faces.length v.fc, .slice v.cA v.classes.length v.cc, .slice v.dA v.codes.length v.dc, .slice v.nA v.insts.length v.nc, .string v.globals, .slice v.iA v.init.length v.ic, .slice v.bA v.blocks.length v.bc, .slice v.xA v.ins.length v.xc, .slice v.oA v.outs.length v.oc, .slice v.jA v.jobs.length v.jc, .int .i64 v.d, .int .i64 v.w], .nilIface]) ∧ Img.At (fresh w' B) w'.heap.size v ∧ v.Small ∧ (Pc.img v).b = bs ∧ (Pc.img v).x = false ∧ ∀ (u : Img) (t : List Int), bs = (Pc.img u).b ++ t → (Pc.img u).x = false → t = [] ∧ Img.eqb v u = true) ∨
  (∃ b, e = .returned (.tuple #[.agg #[.slice none 0 0, .slice none 0 0, .slice none 0 0, .slice none 0 0, .string ⟨#[]⟩, .slice none 0 0, .slice none 0 0, .slice none 0 0, .slice none 0 0, .slice none 0 0, .int .i64 0, .int .i64 0], .iface 113 (.pointer (some ⟨b, 0, none⟩))]) ∧ B ≤ b ∧ Wrong w' b 19 ∧ ∀ v : Img, (Pc.img v).b = bs → (Pc.img v).x = false → False)
set_option maxRecDepth 100000 in
set_option maxHeartbeats 2000000 in
theorem readf_is (B : Nat) (A : Option Addr) (c : Nat) (bs : List Int) (w : World) (hr : Reads w B 1 A bs.length (bs.map (Value.int .u8))) (hB : B ≤ w.heap.size) (hc : bs.length ≤ c) (hy : ∀ y ∈ bs, 0 ≤ y ∧ y < 256) :
    Calls Tryz.prog 16 #[.slice A bs.length c] w fun e w' => Below w.heap.size w w' ∧ ReadPF bs w.heap.size e w' := by
  obtain ⟨W, hW⟩ : ∃ W, ((w.alloc (.cells #[.slice none 0 0, .slice none 0 0, .slice none 0 0, .slice none 0 0, .string ⟨#[]⟩, .slice none 0 0, .slice none 0 0, .slice none 0 0, .slice none 0 0, .slice none 0 0, .int .i64 0, .int .i64 0] 29)).alloc (.cells #[.slice A bs.length c, .bool false] 92)) = W := ⟨_, rfl⟩
  have hq0 : Aid.Has W w.heap.size [.slice none 0 0, .slice none 0 0, .slice none 0 0, .slice none 0 0, .string ⟨#[]⟩, .slice none 0 0, .slice none 0 0, .slice none 0 0, .slice none 0 0, .slice none 0 0, .int .i64 0, .int .i64 0] 29 := by subst hW; exact (Aid.Has.new w [.slice none 0 0, .slice none 0 0, .slice none 0 0, .slice none 0 0, .string ⟨#[]⟩, .slice none 0 0, .slice none 0 0, .slice none 0 0, .slice none 0 0, .slice none 0 0, .int .i64 0, .int .i64 0] 29).alloc _
  have b0 : Below w.heap.size w W := by subst hW; exact ((Below.refl _ w).alloc (Nat.le_refl _) _).alloc (by simp) _
  have i0 : Rd.Is W 92 (w.heap.size + 1) ⟨bs, false⟩ := by
    have h1 := Aid.Has.new (w.alloc (.cells #[.slice none 0 0, .slice none 0 0, .slice none 0 0, .slice none 0 0, .string ⟨#[]⟩, .slice none 0 0, .slice none 0 0, .slice none 0 0, .slice none 0 0, .slice none 0 0, .int .i64 0, .int .i64 0] 29)) [.slice A bs.length c, .bool false] 92
    rw [World.size_alloc] at h1
    exact ⟨A, c, by subst hW; exact h1, hc, (hr.below (b0.mono hB)).more (by omega), hy⟩
  have sz0 : w.heap.size + 2 ≤ W.heap.size := by subst hW; simp
  have HC := Aid.hid (text_is (w.heap.size + 1) ⟨bs, false⟩ W i0)
  have Q0 := Aid.hid hq0
  have B0 := Aid.hid b0
  have HR := Aid.hid hr
  have HY := Aid.hid hy
  have SZ0 := Aid.hid sz0
  clear hq0 b0 i0 hr hy sz0
  subst hW
  go_enter Tryz.func16, Tryz.ntmps16
  try simp only [List.append_eq, List.cons_append, List.nil_append]
  go_wp2_with fail
  go_at_call 43
  refine HC.out.mono ?_
  rintro e w1 ⟨t, s1, rfl, _, h2, h3, h4⟩
  clear HC
  obtain ⟨hmk, hbh⟩ := Behind.of h4
  have HM := Aid.hid hmk
  have I1 := Aid.hid h2; have K1 := Aid.hid h3; have BH := Aid.hid hbh
  have hp1 := h2.lt
  obtain ⟨B1, d1, q1, q2, q3, q4⟩ := h2
  have p1 := q1.cell 1 _ rfl
  have pf := q1.frozen
  clear h3 h4 hmk hbh q1 q2 q3 q4
  go_upto_if 13 with fail
  go_cut [] from 11 (fun wx => ∃ s2 : St, Hid (Rd.Is wx 92 (w.heap.size + 1) s2) ∧ Hid (Keep (w.heap.size + 1) ((w.alloc (.cells #[.slice none 0 0, .slice none 0 0, .slice none 0 0, .slice none 0 0, .string ⟨#[]⟩, .slice none 0 0, .slice none 0 0, .slice none 0 0, .slice none 0 0, .slice none 0 0, .int .i64 0, .int .i64 0] 29)).alloc (.cells #[.slice A bs.length c, .bool false] 92)) wx) ∧ Hid (Behind bs s2))
  case first =>
    cases g : (t.toList == [103, 111, 118, 45, 49])
    · go_wp2_with fail
      go_meet
      exact ⟨⟨s1.b, true⟩, Aid.hid (I1.out.bad true), Aid.hid (K1.out.trans (Keep.set _ _ 1 _)), Aid.hid (fun v r h1 h2 => by rw [HM.out v r h1 h2] at g; exact absurd g (by rw [mark_list]; decide))⟩
    · go_wp2_with fail
      go_meet
      exact ⟨s1, I1, K1, BH⟩
  case rest =>
    obtain ⟨s2, I2, K2, B2⟩ := hcut
    clear I1 K1 BH HM p1 pf hp1
    have HC := Aid.hid (image_el (w.heap.size + 1) s2 wc I2.out)
    go_wp2_with fail
    go_at_call 44
    refine HC.out.mono ?_
    rintro e w2 ⟨x, s3, rfl, h1, h2, h3, h4, h5⟩
    clear HC
    have KW : Keep (w.heap.size + 1) ((w.alloc (.cells #[.slice none 0 0, .slice none 0 0, .slice none 0 0, .slice none 0 0, .string ⟨#[]⟩, .slice none 0 0, .slice none 0 0, .slice none 0 0, .slice none 0 0, .slice none 0 0, .int .i64 0, .int .i64 0] 29)).alloc (.cells #[.slice A bs.length c, .bool false] 92)) w2 := K2.out.trans h4
    have szw : w.heap.size + 2 ≤ w2.heap.size := Nat.le_trans SZ0.out KW.size
    have hx2 : Img.At w2 w2.heap.size x := h2.kc (Kc.unwipe _ _) (Nat.le_refl _)
    have k3 : Below w2.heap.size w2 (w2.alloc (.cells #[.slice x.fA x.faces.length x.fc, .slice x.cA x.classes.length x.cc, .slice x.dA x.codes.length x.dc, .slice x.nA x.insts.length x.nc, .string x.globals, .slice x.iA x.init.length x.ic, .slice x.bA x.blocks.length x.bc, .slice x.xA x.ins.length x.xc, .slice x.oA x.outs.length x.oc, .slice x.jA x.jobs.length x.jc, .int .i64 x.d, .int .i64 x.w] 29)) := (Below.refl _ w2).alloc (Nat.le_refl _) _
    have HX := Aid.hid hx2
    have XF := Aid.hid h2
    have SZC : Hid (w.heap.size + 2 ≤ wc.heap.size) := Aid.hid (Nat.le_trans SZ0.out K2.out.size)
    have HS := Aid.hid h1
    have I3 := Aid.hid h3
    have G3 := Aid.hid h5
    have B3 : Hid (Below w.heap.size w w2) := Aid.hid (B0.out.trans ((KW.low (by have := SZ0.out; omega)).mono (by omega)))
    have Q3 : Hid (Aid.Has w2 w.heap.size [.slice none 0 0, .slice none 0 0, .slice none 0 0, .slice none 0 0, .string ⟨#[]⟩, .slice none 0 0, .slice none 0 0, .slice none 0 0, .slice none 0 0, .slice none 0 0, .int .i64 0, .int .i64 0] 29) := Aid.hid (KW.has (by omega) Q0.out)
    have HC := Aid.hid (lay_is x (w2.alloc (.cells #[.slice x.fA x.faces.length x.fc, .slice x.cA x.classes.length x.cc, .slice x.dA x.codes.length x.dc, .slice x.nA x.insts.length x.nc, .string x.globals, .slice x.iA x.init.length x.ic, .slice x.bA x.blocks.length x.bc, .slice x.xA x.ins.length x.xc, .slice x.oA x.outs.length x.oc, .slice x.jA x.jobs.length x.jc, .int .i64 x.d, .int .i64 x.w] 29)) ((hx2.below k3 (Nat.le_refl _)).more k3.size) h1.len)
    have HN := Aid.hid (Aid.Has.new w2 [.slice x.fA x.faces.length x.fc, .slice x.cA x.classes.length x.cc, .slice x.dA x.codes.length x.dc, .slice x.nA x.insts.length x.nc, .string x.globals, .slice x.iA x.init.length x.ic, .slice x.bA x.blocks.length x.bc, .slice x.xA x.ins.length x.xc, .slice x.oA x.outs.length x.oc, .slice x.jA x.jobs.length x.jc, .int .i64 x.d, .int .i64 x.w] 29)
    have K3 := Aid.hid k3
    have SZW := Aid.hid szw
    clear h1 h2 h3 h4 h5 KW szw hx2 k3 K2 I2
    go_wp2_with fail
    go_at_call 8
    refine HC.out.mono ?_
    rintro e w4 ⟨hb4, hl⟩
    clear HC
    have B4 : Hid (Below w.heap.size w w4) := Aid.hid ((B3.out.trans (K3.out.mono (by have := SZW.out; omega))).trans (hb4.mono (by have := SZW.out; simp; omega)))
    have HQ : Hid (Aid.Has w4 w.heap.size [.slice none 0 0, .slice none 0 0, .slice none 0 0, .slice none 0 0, .string ⟨#[]⟩, .slice none 0 0, .slice none 0 0, .slice none 0 0, .slice none 0 0, .slice none 0 0, .int .i64 0, .int .i64 0] 29) := Aid.hid ((Q3.out.below K3.out Q3.out.lt).below hb4 (by have := Q3.out.lt; simp; omega))
    have I4 : Hid (Rd.Is w4 92 (w.heap.size + 1) s3) := Aid.hid (I3.out.low ((K3.out.mono (by have := I3.out.lt; omega)).trans (hb4.mono (by have := I3.out.lt; simp; omega))))
    have BX : Hid (Aid.Has w4 w2.heap.size [.slice x.fA x.faces.length x.fc, .slice x.cA x.classes.length x.cc, .slice x.dA x.codes.length x.dc, .slice x.nA x.insts.length x.nc, .string x.globals, .slice x.iA x.init.length x.ic, .slice x.bA x.blocks.length x.bc, .slice x.xA x.ins.length x.xc, .slice x.oA x.outs.length x.oc, .slice x.jA x.jobs.length x.jc, .int .i64 x.d, .int .i64 x.w] 29) := Aid.hid (HN.out.below hb4 HN.out.lt)
    have X4 : Hid (Img.At w4 w4.heap.size x) := Aid.hid (((HX.out.below K3.out (Nat.le_refl _)).below hb4 K3.out.size).more (Nat.le_trans K3.out.size hb4.size))
    have R4 : Hid (Reads w4 w.heap.size 1 A bs.length (bs.map (Value.int .u8))) := Aid.hid ((HR.out.more hB).below B4.out)
    have SZ4 : Hid (w.heap.size + 2 ≤ w4.heap.size) := Aid.hid (Nat.le_trans SZW.out (Nat.le_trans K3.out.size hb4.size))
    have BG : Hid (∀ (v : Img) (t : List Int), bs = (Pc.img v).b ++ t → (Pc.img v).x = false → Img.eqb x v = true ∧ Pc.img x = Pc.img v ∧ s3 = ⟨t, false⟩) := Aid.hid (fun v t h1 h2 => B2.out.got G3.out v t h1 h2)
    have FX : Hid (∀ cs, Img.At (fresh (w4.setRow w.heap.size cs) w.heap.size) (w4.setRow w.heap.size cs).heap.size x) := Aid.hid fun cs => XF.out.kc (kc_row3 (K3.out.trans (hb4.mono K3.out.size)) (by have := SZC.out; omega) (by have := SZC.out; omega) cs) (by rw [row_size]; exact Nat.le_trans K3.out.size hb4.size)
    have hq4 := HQ.out.lt
    have END : Hid ((∀ v : Img, (Pc.img v).b = bs → (Pc.img v).x = false → False) → Below w.heap.size w ((w4.alloc (.cells #[.int .i64 19, .int .i64 0, .nilIface] 115)).setRow w.heap.size #[.slice none 0 0, .slice none 0 0, .slice none 0 0, .slice none 0 0, .string ⟨#[]⟩, .slice none 0 0, .slice none 0 0, .slice none 0 0, .slice none 0 0, .slice none 0 0, .int .i64 0, .int .i64 0]) ∧ ReadPF bs w.heap.size (.returned (.tuple #[.agg #[.slice none 0 0, .slice none 0 0, .slice none 0 0, .slice none 0 0, .string ⟨#[]⟩, .slice none 0 0, .slice none 0 0, .slice none 0 0, .slice none 0 0, .slice none 0 0, .int .i64 0, .int .i64 0], .iface 113 (.pointer (some ⟨w4.heap.size, 0, none⟩))])) ((w4.alloc (.cells #[.int .i64 19, .int .i64 0, .nilIface] 115)).setRow w.heap.size #[.slice none 0 0, .slice none 0 0, .slice none 0 0, .slice none 0 0, .string ⟨#[]⟩, .slice none 0 0, .slice none 0 0, .slice none 0 0, .slice none 0 0, .slice none 0 0, .int .i64 0, .int .i64 0])) := Aid.hid fun hno =>
      ⟨row_below (B4.out.alloc (by omega) _) (Nat.le_refl _) _, Or.inr ⟨w4.heap.size, rfl, by omega, (row_heap _ _ _ _ (by omega)).trans (Aid.Has.new w4 [.int .i64 19, .int .i64 0, .nilIface] 115), hno⟩⟩
    obtain ⟨B1, d1, q1, q2, q3, q4⟩ := I4.out
    have p0 := q1.cell 0 _ rfl
    have p1 := q1.cell 1 _ rfl
    clear q1 q2 q3 q4 hb4 B2 G3 HN K3 HX I3 B3 Q3
    rcases hl with ⟨hx, b, rfl, hb1, hw⟩ | ⟨hx, A2, c2, rfl, ho⟩
    · have NO := Aid.hid (END.out (fun v h1 h2 => by rw [(BG.out v [] (bs_nil h1) h2).2.1, h2] at hx; cases hx))
      clear hx hb1 hw
      cases hsx : s3.x
      · rw [hsx] at p1
        clear hsx
        by_cases hz : 0 < s3.b.length
        · go_wp2_with fail
          go_at_call 21
          refine (new_any 19 0 w4).mono ?_
          rintro e w5 ⟨rfl, rfl⟩
          have HB5 : (w4.alloc (.cells #[.int .i64 19, .int .i64 0, .nilIface] 115)).heap[w.heap.size]? = some (.cells #[.slice none 0 0, .slice none 0 0, .slice none 0 0, .slice none 0 0, .string ⟨#[]⟩, .slice none 0 0, .slice none 0 0, .slice none 0 0, .slice none 0 0, .slice none 0 0, .int .i64 0, .int .i64 0] 29 (0, 0)) := (Below.heap_alloc w4 _ _ HQ.out.lt).trans HQ.out
          go_wp2_with (refine wpList_store_row rfl 29 _ _ rfl w.heap.size #[.slice none 0 0, .slice none 0 0, .slice none 0 0, .slice none 0 0, .string ⟨#[]⟩, .slice none 0 0, .slice none 0 0, .slice none 0 0, .slice none 0 0, .slice none 0 0, .int .i64 0, .int .i64 0] rfl rfl 29 #[.slice none 0 0, .slice none 0 0, .slice none 0 0, .slice none 0 0, .string ⟨#[]⟩, .slice none 0 0, .slice none 0 0, .slice none 0 0, .slice none 0 0, .slice none 0 0, .int .i64 0, .int .i64 0] HB5 (by kernel_rfl) rfl (by simp [Value.oneCell']) ?_)
          refine bodyPost_ret (v := .tuple #[.agg #[.slice none 0 0, .slice none 0 0, .slice none 0 0, .slice none 0 0, .string ⟨#[]⟩, .slice none 0 0, .slice none 0 0, .slice none 0 0, .slice none 0 0, .slice none 0 0, .int .i64 0, .int .i64 0], .iface 113 (.pointer (some ⟨w4.heap.size, 0, none⟩))]) (results_row2 rfl _ _ w.heap.size 29 #[.slice none 0 0, .slice none 0 0, .slice none 0 0, .slice none 0 0, .string ⟨#[]⟩, .slice none 0 0, .slice none 0 0, .slice none 0 0, .slice none 0 0, .slice none 0 0, .int .i64 0, .int .i64 0] (0, 0) _ _ rfl rfl (row_has (ys := [.slice none 0 0, .slice none 0 0, .slice none 0 0, .slice none 0 0, .string ⟨#[]⟩, .slice none 0 0, .slice none 0 0, .slice none 0 0, .slice none 0 0, .slice none 0 0, .int .i64 0, .int .i64 0]) HB5) Tryz.underlying29 rfl (by kernel_rfl)) rfl ?_
          exact NO.out
        · go_wp2_with fail
          go_at_call 21
          refine (new_any 19 0 w4).mono ?_
          rintro e w5 ⟨rfl, rfl⟩
          have HB5 : (w4.alloc (.cells #[.int .i64 19, .int .i64 0, .nilIface] 115)).heap[w.heap.size]? = some (.cells #[.slice none 0 0, .slice none 0 0, .slice none 0 0, .slice none 0 0, .string ⟨#[]⟩, .slice none 0 0, .slice none 0 0, .slice none 0 0, .slice none 0 0, .slice none 0 0, .int .i64 0, .int .i64 0] 29 (0, 0)) := (Below.heap_alloc w4 _ _ HQ.out.lt).trans HQ.out
          go_wp2_with (refine wpList_store_row rfl 29 _ _ rfl w.heap.size #[.slice none 0 0, .slice none 0 0, .slice none 0 0, .slice none 0 0, .string ⟨#[]⟩, .slice none 0 0, .slice none 0 0, .slice none 0 0, .slice none 0 0, .slice none 0 0, .int .i64 0, .int .i64 0] rfl rfl 29 #[.slice none 0 0, .slice none 0 0, .slice none 0 0, .slice none 0 0, .string ⟨#[]⟩, .slice none 0 0, .slice none 0 0, .slice none 0 0, .slice none 0 0, .slice none 0 0, .int .i64 0, .int .i64 0] HB5 (by kernel_rfl) rfl (by simp [Value.oneCell']) ?_)
          refine bodyPost_ret (v := .tuple #[.agg #[.slice none 0 0, .slice none 0 0, .slice none 0 0, .slice none 0 0, .string ⟨#[]⟩, .slice none 0 0, .slice none 0 0, .slice none 0 0, .slice none 0 0, .slice none 0 0, .int .i64 0, .int .i64 0], .iface 113 (.pointer (some ⟨w4.heap.size, 0, none⟩))]) (results_row2 rfl _ _ w.heap.size 29 #[.slice none 0 0, .slice none 0 0, .slice none 0 0, .slice none 0 0, .string ⟨#[]⟩, .slice none 0 0, .slice none 0 0, .slice none 0 0, .slice none 0 0, .slice none 0 0, .int .i64 0, .int .i64 0] (0, 0) _ _ rfl rfl (row_has (ys := [.slice none 0 0, .slice none 0 0, .slice none 0 0, .slice none 0 0, .string ⟨#[]⟩, .slice none 0 0, .slice none 0 0, .slice none 0 0, .slice none 0 0, .slice none 0 0, .int .i64 0, .int .i64 0]) HB5) Tryz.underlying29 rfl (by kernel_rfl)) rfl ?_
          exact NO.out
      · rw [hsx] at p1
        clear hsx
        go_wp2_with fail
        go_at_call 21
        refine (new_any 19 0 w4).mono ?_
        rintro e w5 ⟨rfl, rfl⟩
        have HB5 : (w4.alloc (.cells #[.int .i64 19, .int .i64 0, .nilIface] 115)).heap[w.heap.size]? = some (.cells #[.slice none 0 0, .slice none 0 0, .slice none 0 0, .slice none 0 0, .string ⟨#[]⟩, .slice none 0 0, .slice none 0 0, .slice none 0 0, .slice none 0 0, .slice none 0 0, .int .i64 0, .int .i64 0] 29 (0, 0)) := (Below.heap_alloc w4 _ _ HQ.out.lt).trans HQ.out
        go_wp2_with (refine wpList_store_row rfl 29 _ _ rfl w.heap.size #[.slice none 0 0, .slice none 0 0, .slice none 0 0, .slice none 0 0, .string ⟨#[]⟩, .slice none 0 0, .slice none 0 0, .slice none 0 0, .slice none 0 0, .slice none 0 0, .int .i64 0, .int .i64 0] rfl rfl 29 #[.slice none 0 0, .slice none 0 0, .slice none 0 0, .slice none 0 0, .string ⟨#[]⟩, .slice none 0 0, .slice none 0 0, .slice none 0 0, .slice none 0 0, .slice none 0 0, .int .i64 0, .int .i64 0] HB5 (by kernel_rfl) rfl (by simp [Value.oneCell']) ?_)
        refine bodyPost_ret (v := .tuple #[.agg #[.slice none 0 0, .slice none 0 0, .slice none 0 0, .slice none 0 0, .string ⟨#[]⟩, .slice none 0 0, .slice none 0 0, .slice none 0 0, .slice none 0 0, .slice none 0 0, .int .i64 0, .int .i64 0], .iface 113 (.pointer (some ⟨w4.heap.size, 0, none⟩))]) (results_row2 rfl _ _ w.heap.size 29 #[.slice none 0 0, .slice none 0 0, .slice none 0 0, .slice none 0 0, .string ⟨#[]⟩, .slice none 0 0, .slice none 0 0, .slice none 0 0, .slice none 0 0, .slice none 0 0, .int .i64 0, .int .i64 0] (0, 0) _ _ rfl rfl (row_has (ys := [.slice none 0 0, .slice none 0 0, .slice none 0 0, .slice none 0 0, .string ⟨#[]⟩, .slice none 0 0, .slice none 0 0, .slice none 0 0, .slice none 0 0, .slice none 0 0, .int .i64 0, .int .i64 0]) HB5) Tryz.underlying29 rfl (by kernel_rfl)) rfl ?_
        exact NO.out
    · cases hsx : s3.x
      · rw [hsx] at p1
        clear hsx
        by_cases hz : 0 < s3.b.length
        · have NO := Aid.hid (END.out (fun v h1 h2 => by rw [(BG.out v [] (bs_nil h1) h2).2.2] at hz; simp at hz))
          clear hx ho
          go_wp2_with fail
          go_at_call 21
          refine (new_any 19 0 w4).mono ?_
          rintro e w5 ⟨rfl, rfl⟩
          have HB5 : (w4.alloc (.cells #[.int .i64 19, .int .i64 0, .nilIface] 115)).heap[w.heap.size]? = some (.cells #[.slice none 0 0, .slice none 0 0, .slice none 0 0, .slice none 0 0, .string ⟨#[]⟩, .slice none 0 0, .slice none 0 0, .slice none 0 0, .slice none 0 0, .slice none 0 0, .int .i64 0, .int .i64 0] 29 (0, 0)) := (Below.heap_alloc w4 _ _ HQ.out.lt).trans HQ.out
          go_wp2_with (refine wpList_store_row rfl 29 _ _ rfl w.heap.size #[.slice none 0 0, .slice none 0 0, .slice none 0 0, .slice none 0 0, .string ⟨#[]⟩, .slice none 0 0, .slice none 0 0, .slice none 0 0, .slice none 0 0, .slice none 0 0, .int .i64 0, .int .i64 0] rfl rfl 29 #[.slice none 0 0, .slice none 0 0, .slice none 0 0, .slice none 0 0, .string ⟨#[]⟩, .slice none 0 0, .slice none 0 0, .slice none 0 0, .slice none 0 0, .slice none 0 0, .int .i64 0, .int .i64 0] HB5 (by kernel_rfl) rfl (by simp [Value.oneCell']) ?_)
          refine bodyPost_ret (v := .tuple #[.agg #[.slice none 0 0, .slice none 0 0, .slice none 0 0, .slice none 0 0, .string ⟨#[]⟩, .slice none 0 0, .slice none 0 0, .slice none 0 0, .slice none 0 0, .slice none 0 0, .int .i64 0, .int .i64 0], .iface 113 (.pointer (some ⟨w4.heap.size, 0, none⟩))]) (results_row2 rfl _ _ w.heap.size 29 #[.slice none 0 0, .slice none 0 0, .slice none 0 0, .slice none 0 0, .string ⟨#[]⟩, .slice none 0 0, .slice none 0 0, .slice none 0 0, .slice none 0 0, .slice none 0 0, .int .i64 0, .int .i64 0] (0, 0) _ _ rfl rfl (row_has (ys := [.slice none 0 0, .slice none 0 0, .slice none 0 0, .slice none 0 0, .string ⟨#[]⟩, .slice none 0 0, .slice none 0 0, .slice none 0 0, .slice none 0 0, .slice none 0 0, .int .i64 0, .int .i64 0]) HB5) Tryz.underlying29 rfl (by kernel_rfl)) rfl ?_
          exact NO.out
        · have HE := Aid.hid (bytesEq_is A2 A c2 c w4.heap.size w.heap.size (Pc.img x).b bs w4 (Reads.of_own ho) R4.out)
          cases hr : ((strOfNums (Pc.img x).b).toList == (strOfNums bs).toList)
          · have NO := Aid.hid (END.out (fun v h1 h2 => by rw [(BG.out v [] (bs_nil h1) h2).2.1, h1] at hr; simp at hr))
            rw [hr] at HE
            clear hr hx ho
            go_wp2_with fail
            go_at_call 45
            refine HE.out.mono ?_
            rintro e w' ⟨rfl, rfl⟩
            clear HE
            go_wp2_with fail
            go_at_call 21
            refine (new_any 19 0 w4).mono ?_
            rintro e w5 ⟨rfl, rfl⟩
            have HB5 : (w4.alloc (.cells #[.int .i64 19, .int .i64 0, .nilIface] 115)).heap[w.heap.size]? = some (.cells #[.slice none 0 0, .slice none 0 0, .slice none 0 0, .slice none 0 0, .string ⟨#[]⟩, .slice none 0 0, .slice none 0 0, .slice none 0 0, .slice none 0 0, .slice none 0 0, .int .i64 0, .int .i64 0] 29 (0, 0)) := (Below.heap_alloc w4 _ _ HQ.out.lt).trans HQ.out
            go_wp2_with (refine wpList_store_row rfl 29 _ _ rfl w.heap.size #[.slice none 0 0, .slice none 0 0, .slice none 0 0, .slice none 0 0, .string ⟨#[]⟩, .slice none 0 0, .slice none 0 0, .slice none 0 0, .slice none 0 0, .slice none 0 0, .int .i64 0, .int .i64 0] rfl rfl 29 #[.slice none 0 0, .slice none 0 0, .slice none 0 0, .slice none 0 0, .string ⟨#[]⟩, .slice none 0 0, .slice none 0 0, .slice none 0 0, .slice none 0 0, .slice none 0 0, .int .i64 0, .int .i64 0] HB5 (by kernel_rfl) rfl (by simp [Value.oneCell']) ?_)
            refine bodyPost_ret (v := .tuple #[.agg #[.slice none 0 0, .slice none 0 0, .slice none 0 0, .slice none 0 0, .string ⟨#[]⟩, .slice none 0 0, .slice none 0 0, .slice none 0 0, .slice none 0 0, .slice none 0 0, .int .i64 0, .int .i64 0], .iface 113 (.pointer (some ⟨w4.heap.size, 0, none⟩))]) (results_row2 rfl _ _ w.heap.size 29 #[.slice none 0 0, .slice none 0 0, .slice none 0 0, .slice none 0 0, .string ⟨#[]⟩, .slice none 0 0, .slice none 0 0, .slice none 0 0, .slice none 0 0, .slice none 0 0, .int .i64 0, .int .i64 0] (0, 0) _ _ rfl rfl (row_has (ys := [.slice none 0 0, .slice none 0 0, .slice none 0 0, .slice none 0 0, .string ⟨#[]⟩, .slice none 0 0, .slice none 0 0, .slice none 0 0, .slice none 0 0, .slice none 0 0, .int .i64 0, .int .i64 0]) HB5) Tryz.underlying29 rfl (by kernel_rfl)) rfl ?_
            exact NO.out
          · have EQ : Hid ((Pc.img x).b = bs) := Aid.hid (str_inj (Byt.img x) HY.out hr)
            have HXX := Aid.hid hx
            rw [hr] at HE
            clear hr hx ho
            go_wp2_with fail
            go_at_call 45
            refine HE.out.mono ?_
            rintro e w' ⟨rfl, rfl⟩
            clear HE
            have z0 := BX.out.cell 0 _ rfl
            have z1 := BX.out.cell 1 _ rfl
            have z2 := BX.out.cell 2 _ rfl
            have z3 := BX.out.cell 3 _ rfl
            have z4 := BX.out.cell 4 _ rfl
            have z5 := BX.out.cell 5 _ rfl
            have z6 := BX.out.cell 6 _ rfl
            have z7 := BX.out.cell 7 _ rfl
            have z8 := BX.out.cell 8 _ rfl
            have z9 := BX.out.cell 9 _ rfl
            have z10 := BX.out.cell 10 _ rfl
            have z11 := BX.out.cell 11 _ rfl
            go_wp2_with (refine wpList_store_row rfl 29 _ _ rfl w.heap.size #[.slice x.fA x.faces.length x.fc, .slice x.cA x.classes.length x.cc, .slice x.dA x.codes.length x.dc, .slice x.nA x.insts.length x.nc, .string x.globals, .slice x.iA x.init.length x.ic, .slice x.bA x.blocks.length x.bc, .slice x.xA x.ins.length x.xc, .slice x.oA x.outs.length x.oc, .slice x.jA x.jobs.length x.jc, .int .i64 x.d, .int .i64 x.w] rfl rfl 29 #[.slice none 0 0, .slice none 0 0, .slice none 0 0, .slice none 0 0, .string ⟨#[]⟩, .slice none 0 0, .slice none 0 0, .slice none 0 0, .slice none 0 0, .slice none 0 0, .int .i64 0, .int .i64 0] HQ.out (by kernel_rfl) rfl (by simp [Value.oneCell']) ?_)
            refine bodyPost_ret (v := .tuple #[.agg #[.slice x.fA x.faces.length x.fc, .slice x.cA x.classes.length x.cc, .slice x.dA x.codes.length x.dc, .slice x.nA x.insts.length x.nc, .string x.globals, .slice x.iA x.init.length x.ic, .slice x.bA x.blocks.length x.bc, .slice x.xA x.ins.length x.xc, .slice x.oA x.outs.length x.oc, .slice x.jA x.jobs.length x.jc, .int .i64 x.d, .int .i64 x.w], .nilIface]) (results_row2 rfl _ _ w.heap.size 29 #[.slice x.fA x.faces.length x.fc, .slice x.cA x.classes.length x.cc, .slice x.dA x.codes.length x.dc, .slice x.nA x.insts.length x.nc, .string x.globals, .slice x.iA x.init.length x.ic, .slice x.bA x.blocks.length x.bc, .slice x.xA x.ins.length x.xc, .slice x.oA x.outs.length x.oc, .slice x.jA x.jobs.length x.jc, .int .i64 x.d, .int .i64 x.w] (0, 0) _ _ rfl rfl (row_has (ys := [.slice x.fA x.faces.length x.fc, .slice x.cA x.classes.length x.cc, .slice x.dA x.codes.length x.dc, .slice x.nA x.insts.length x.nc, .string x.globals, .slice x.iA x.init.length x.ic, .slice x.bA x.blocks.length x.bc, .slice x.xA x.ins.length x.xc, .slice x.oA x.outs.length x.oc, .slice x.jA x.jobs.length x.jc, .int .i64 x.d, .int .i64 x.w]) HQ.out) Tryz.underlying29 rfl (by kernel_rfl)) rfl ?_
            exact ⟨row_below B4.out (Nat.le_refl _) _, Or.inl ⟨x, rfl, FX.out _, HS.out, EQ.out, HXX.out, fun u t h1 h2 => ⟨by have h3 := (BG.out u t h1 h2).2.2; rw [h3] at hz; simpa using hz, (BG.out u t h1 h2).1⟩⟩⟩
      · have NO := Aid.hid (END.out (fun v h1 h2 => by rw [(BG.out v [] (bs_nil h1) h2).2.2] at hsx; cases hsx))
        rw [hsx] at p1
        clear hx ho hsx
        go_wp2_with fail
        go_at_call 21
        refine (new_any 19 0 w4).mono ?_
        rintro e w5 ⟨rfl, rfl⟩
        have HB5 : (w4.alloc (.cells #[.int .i64 19, .int .i64 0, .nilIface] 115)).heap[w.heap.size]? = some (.cells #[.slice none 0 0, .slice none 0 0, .slice none 0 0, .slice none 0 0, .string ⟨#[]⟩, .slice none 0 0, .slice none 0 0, .slice none 0 0, .slice none 0 0, .slice none 0 0, .int .i64 0, .int .i64 0] 29 (0, 0)) := (Below.heap_alloc w4 _ _ HQ.out.lt).trans HQ.out
        go_wp2_with (refine wpList_store_row rfl 29 _ _ rfl w.heap.size #[.slice none 0 0, .slice none 0 0, .slice none 0 0, .slice none 0 0, .string ⟨#[]⟩, .slice none 0 0, .slice none 0 0, .slice none 0 0, .slice none 0 0, .slice none 0 0, .int .i64 0, .int .i64 0] rfl rfl 29 #[.slice none 0 0, .slice none 0 0, .slice none 0 0, .slice none 0 0, .string ⟨#[]⟩, .slice none 0 0, .slice none 0 0, .slice none 0 0, .slice none 0 0, .slice none 0 0, .int .i64 0, .int .i64 0] HB5 (by kernel_rfl) rfl (by simp [Value.oneCell']) ?_)
        refine bodyPost_ret (v := .tuple #[.agg #[.slice none 0 0, .slice none 0 0, .slice none 0 0, .slice none 0 0, .string ⟨#[]⟩, .slice none 0 0, .slice none 0 0, .slice none 0 0, .slice none 0 0, .slice none 0 0, .int .i64 0, .int .i64 0], .iface 113 (.pointer (some ⟨w4.heap.size, 0, none⟩))]) (results_row2 rfl _ _ w.heap.size 29 #[.slice none 0 0, .slice none 0 0, .slice none 0 0, .slice none 0 0, .string ⟨#[]⟩, .slice none 0 0, .slice none 0 0, .slice none 0 0, .slice none 0 0, .slice none 0 0, .int .i64 0, .int .i64 0] (0, 0) _ _ rfl rfl (row_has (ys := [.slice none 0 0, .slice none 0 0, .slice none 0 0, .slice none 0 0, .string ⟨#[]⟩, .slice none 0 0, .slice none 0 0, .slice none 0 0, .slice none 0 0, .slice none 0 0, .int .i64 0, .int .i64 0]) HB5) Tryz.underlying29 rfl (by kernel_rfl)) rfl ?_
        exact NO.out

section
variable {P : Program} (w : World)
theorem run_append_room_any (base : Nat) (t ty e : TypeId) (i : TypeInfo) (size : Nat) (ht : P.underlying t = some (.slice e)) (hi : P.info? e = some i) (hsize : i.size = size)
    (g n cap : Nat) (xs : List Value) (hown : w.ownsRow base e size (.slice (some ⟨g, 0, none⟩) n cap) n xs)
    (B : Nat) (A : Option Addr) (m c : Nat) (news : List Value) (hr : Reads w B size A m news) (h1 : ∀ u ∈ news, u.oneCell' = true) (hroom : n + m ≤ cap) :
    ∃ w', (Builtin.append_ #[t, t] ty #[.slice (some ⟨g, 0, none⟩) n cap, .slice A m c]).run P w = .ok (.slice (some ⟨g, 0, none⟩) (n + m) cap) w' ∧
      w'.ownsRow base e size (.slice (some ⟨g, 0, none⟩) (n + m) cap) (n + m) (xs ++ news) ∧ w.grownBy w' (some g) := by
  rcases A with _ | ad
  · have hm : m = 0 := by
      rcases Nat.eq_zero_or_pos m with h0 | h0
      · exact h0
      · obtain ⟨ad, h, _⟩ := hr.2 h0
        cases h
    subst hm
    have hn : news = [] := List.eq_nil_of_length_eq_zero (by simpa using hr.1)
    subst hn
    exact ⟨w, run_append_of_nil w base t ty e i size ht hi _ n xs hown c, by simpa using hown, World.grownBy.refl w _⟩
  · have hcells : ∀ j u, news[j]? = some u → w.cell? (ad.add j) = some u := by
      intro j u hu
      rcases Nat.eq_zero_or_pos m with h0 | h0
      · subst h0
        have hn : news = [] := List.eq_nil_of_length_eq_zero (by simpa using hr.1)
        subst hn
        simp at hu
      · obtain ⟨ad', h, _, hc⟩ := hr.2 h0
        injection h with h
        subst h
        exact hc j u hu
    exact run_append_own_spare w base t ty e i size ht hi hsize g n cap xs hown ad m c news hr.1 hcells h1 hroom
theorem wpList_append_room_any {ops : Array Oper} {rest : List Oper} {o : Oper} {a : Act} {Q : Exit → Act → World → Prop} (hgd : o.guard = none) (s x : Operand) (t : TypeId)
    (ho : o.op = .call { callee := .builtin .append, args := #[s, x], argTypes := #[t, t] })
    (base : Nat) (e : TypeId) (i : TypeInfo) (size : Nat) (ht : P.underlying t = some (.slice e)) (hi : P.info? e = some i) (hsize : i.size = size)
    (g n cap : Nat) (xs : List Value) (hs : a.eval s = .slice (some ⟨g, 0, none⟩) n cap) (hown : w.ownsRow base e size (.slice (some ⟨g, 0, none⟩) n cap) n xs)
    (B : Nat) (A : Option Addr) (m c : Nat) (news : List Value) (hx : a.eval x = .slice A m c) (hr : Reads w B size A m news) (h1 : ∀ u ∈ news, u.oneCell' = true) (hroom : n + m ≤ cap)
    (h : ∀ w', w'.ownsRow base e size (.slice (some ⟨g, 0, none⟩) (n + m) cap) (n + m) (xs ++ news) → w.grownBy w' (some g) → wpList P ops Q rest (a.put o.dst (.slice (some ⟨g, 0, none⟩) (n + m) cap)) w') : wpList P ops Q (o :: rest) a w := by
  obtain ⟨w', hrun, h2, h3⟩ := run_append_room_any (P := P) w base t o.type e i size ht hi hsize g n cap xs hown B A m c news hr h1 hroom
  refine wpList_plain hgd fun K hK => ?_
  unfold Oper.wp execOp
  simp only [ho, resolve, invoke, builtin, Sem.run_bind, Sem.run_pure, Result.andThen_ok, List.map_toArray, List.map_cons, List.map_nil, hs, hx, hrun]
  exact hK _ _ (h w' h2 h3)
end
theorem made_room (x : World) (n : Nat) (hm : n ≤ 1000000) :
    (Instr.makeSlice 32 (.int .i64 0) (.int .i64 ((n : Int) + 3))).run Tryz.prog x = .ok (.slice (some ⟨x.heap.size, 0, none⟩) 0 (n + 3)) (x.alloc (.cells (madeCells #[.int .u8 0] (n + 3)) 5)) := by
  obtain ⟨i0, hi, hz0, hz1, hz2⟩ := info_parts info_byte
  have h := run_make (P := Tryz.prog) x 32 5 i0 (.int .u8 0) Tryz.underlying32 hi hz0 .i64 .i64 0 ((n : Int) + 3) (by omega) (by omega) (by rw [hz2]; omega) (by omega)
  have e : ((n : Int) + 3).toNat = n + 3 := by omega
  rw [e] at h
  simpa [hz1, Value.cells] using h
/-- How what is lent lies while its room is marked. -/
def Lent (bs : List Int) (w wr : World) : Prop :=
  ∃ cs : Array Value, Blk wr w.heap.size 5 cs ∧ cs.size = bs.length + 3 ∧ cs.toList.take bs.length = bs.map (Value.int .u8) ∧ Below w.heap.size w wr
theorem Lent.own {bs : List Int} {w wr : World} (h : Lent bs w wr) (hn : bs.length ≤ 1000000) : wr.ownsRow w.heap.size 5 1 (.slice (some ⟨w.heap.size, 0, none⟩) bs.length (bs.length + 3)) bs.length (bs.map (Value.int .u8)) ∧ Below w.heap.size w wr := by
  obtain ⟨cs, h1, h2, h3, h4⟩ := h
  exact ⟨⟨by simp, Or.inr ⟨w.heap.size, _, cs, rfl, Nat.le_refl _, h1, by omega, by unfold maxLen; omega, by omega, by simpa using h3⟩⟩, h4⟩
theorem Lent.set {bs : List Int} {w wr : World} (h : Lent bs w wr) (k : Nat) (u : Value) : Lent bs w (wr.setCell ⟨w.heap.size, bs.length + k, none⟩ u) := by
  obtain ⟨cs, h1, h2, h3, h4⟩ := h
  refine ⟨_, h1.set_ (bs.length + k) u, by simpa using h2, ?_, h4.setCell (p := ⟨w.heap.size, bs.length + k, none⟩) (Nat.le_refl _) u⟩
  rw [Array.toList_setIfInBounds, List.take_set_of_le (by omega)]; exact h3
theorem Lent.of_grown {bs : List Int} {w w1 : World} (h : w1.ownsRow w.heap.size 5 1 (.slice (some ⟨w.heap.size, 0, none⟩) bs.length (bs.length + 3)) bs.length (bs.map (Value.int .u8))) (hb : Below w.heap.size w w1) : Lent bs w w1 := by
  rcases h.2 with ⟨h0, _⟩ | ⟨g, cap, cur, hv, _, hg, _, _, hs, ht⟩
  · cases h0
  · cases hv
    exact ⟨cur, hg, by omega, by simpa using ht, hb⟩
set_option maxRecDepth 100000 in
set_option maxHeartbeats 2000000 in
theorem lendBytes_is (B : Nat) (A : Option Addr) (c : Nat) (bs : List Int) (w : World) (hr : Reads w B 1 A bs.length (bs.map (Value.int .u8))) (hB : B ≤ w.heap.size) (hl : bs.length ≤ 4000) :
    Calls Tryz.prog 15 #[.slice A bs.length c] w fun e w' => e = .returned (.slice (some ⟨w.heap.size, 0, none⟩) bs.length (bs.length + 3)) ∧ w'.ownsRow w.heap.size 5 1 (.slice (some ⟨w.heap.size, 0, none⟩) bs.length (bs.length + 3)) bs.length (bs.map (Value.int .u8)) ∧ Below w.heap.size w w' := by
  obtain ⟨i0, hi, hz0, hz1, hz2⟩ := info_parts info_byte
  have hmk := made_room w bs.length (by omega)
  obtain ⟨W, hW⟩ : ∃ W, w.alloc (.cells (madeCells #[.int .u8 0] (bs.length + 3)) 5) = W := ⟨_, rfl⟩
  have hb0 : Below w.heap.size w W := by subst hW; exact (Below.refl _ _).alloc (Nat.le_refl _) _
  have ho0 : W.ownsRow w.heap.size 5 1 (.slice (some ⟨w.heap.size, 0, none⟩) 0 (bs.length + 3)) 0 [] := by
    subst hW; exact World.ownsRow_made w _ _ (Nat.le_refl _) (by unfold maxLen; omega) (by simp [madeCells])
  have hr0 := hr.below (hb0.mono hB)
  rw [hW] at hmk
  have HO := Aid.hid ho0
  have HR := Aid.hid hr0
  have HB0 := Aid.hid hb0
  clear hr hb0 ho0 hr0 hW
  go_enter Tryz.func15, Tryz.ntmps15
  try simp only [List.append_eq, List.cons_append, List.nil_append]
  go_wp2_with (at_builtin; refine wpList_append_room_any _ rfl _ _ 32 rfl w.heap.size 5 i0 1 Tryz.underlying32 hi hz1 w.heap.size 0 (bs.length + 3) [] rfl HO.out _ A bs.length c (bs.map (Value.int .u8)) rfl HR.out ?d1 ?d2 ?_)
  case d1 => intro u hu; obtain ⟨n, _, rfl⟩ := List.mem_map.1 hu; rfl
  case d2 => omega
  intro w1 ho1 hg1
  have L0 : Hid (Lent bs w w1) := Aid.hid (Lent.of_grown (by simpa using ho1) (HB0.out.grown hg1 (by have := HB0.out.size; omega) (fun q hq => by cases hq; exact Nat.le_refl _)))
  clear ho1 hg1 HO HR HB0 hmk
  go_wp2_with fail
  go_loopw [5] (fun vi wr => ∃ k : Nat, vi = .int .i64 k ∧ k ≤ 3 ∧ Hid (Lent bs w wr)) (fun vi _ => 3 - (intOf vi).toNat)
  case atStart => exact ⟨0, rfl, Nat.zero_le _, L0⟩
  case round =>
    clear L0
    obtain ⟨k, rfl, hk, L1⟩ := hrel
    by_cases hlt : k < 3
    · obtain ⟨cs, q1, q2, q3, q4⟩ := L1.out
      have hcell := q1.cell (bs.length + k)
      obtain ⟨u, hu⟩ : ∃ u, cs[bs.length + k]? = some u := ⟨_, Array.getElem?_eq_getElem (by omega)⟩
      rw [hu] at hcell
      have hfz := q1.frozen (bs.length + k)
      have L2 := Aid.hid (L1.out.set k (.int .u8 119))
      clear q1 q2 q3 q4 hu
      go_wp2_with fail
      go_roundw
      case rel => exact ⟨k + 1, by go_num, by omega, L2⟩
      case measure => simp [intOf]; omega
    · go_wp2_with fail
      go_ret
      exact ⟨rfl, (L1.out.own (by omega)).1, (L1.out.own (by omega)).2⟩

/-- All blocks from m on lie as they lay. -/
def Stays (m : Nat) (a b : World) : Prop := a.heap.size ≤ b.heap.size ∧ ∀ i, m ≤ i → i < a.heap.size → b.heap[i]? = a.heap[i]?
theorem Stays.refl (m : Nat) (a : World) : Stays m a a := ⟨Nat.le_refl _, fun _ _ _ => rfl⟩
theorem Stays.trans {m : Nat} {a b c : World} (h : Stays m a b) (k : Stays m b c) : Stays m a c := ⟨Nat.le_trans h.1 k.1, fun i hm hi => (k.2 i hm (Nat.lt_of_lt_of_le hi h.1)).trans (h.2 i hm hi)⟩
theorem Stays.mono {m n : Nat} {a b : World} (h : Stays m a b) (hn : m ≤ n) : Stays n a b := ⟨h.1, fun i hm hi => h.2 i (Nat.le_trans hn hm) hi⟩
theorem Stays.of {m : Nat} {a b : World} (h : Below a.heap.size a b) : Stays m a b := ⟨h.size, fun i _ hi => h.block i hi⟩
theorem Stays.grown {m g : Nat} {a b : World} (h : a.grownBy b (some g)) (hg : g < m) : Stays m a b := ⟨h.size, fun i hm hi => h.block i hi (fun e => by cases e; omega)⟩
theorem Stays.has {m i : Nat} {a b : World} {xs : List Value} {t : TypeId} (h : Stays m a b) (k : Aid.Has a i xs t) (hm : m ≤ i) : Aid.Has b i xs t := (h.2 i hm k.lt).trans k
theorem Stays.img {m : Nat} {a b : World} {x : Img} (h : Stays m a b) (k : Img.At (fresh a m) a.heap.size x) : Img.At b b.heap.size x := k.kc (kc_blocks h.2) h.1
theorem fresh_size (w : World) (n : Nat) : (fresh w n).heap.size = w.heap.size := by simp [fresh, wipe]
theorem zero_at2 (w : World) (n : Nat) : Img.At (fresh w n) w.heap.size Img.zero := by
  have h := Img.zero_at (fresh w n)
  rw [fresh_size] at h; exact h
/-- What the program's Read says. -/
def OneE (bs : List Int) (B : Nat) (x : Img) (ev : Value) (w : World) : Prop :=
  (x = Img.zero ∧ (∃ b, ev = .iface 113 (.pointer (some ⟨b, 0, none⟩)) ∧ B ≤ b ∧ Wrong w b 19) ∧ ∀ v : Img, (Pc.img v).b = bs → (Pc.img v).x = false → False) ∨
  (ev = .nilIface ∧ (Pc.img x).b = bs ∧ (Pc.img x).x = false ∧ ∀ (u : Img) (t : List Int), bs = (Pc.img u).b ++ t → (Pc.img u).x = false → t = [] ∧ Img.eqb x u = true)
/-- What the document's Read says. -/
def TwoE (bs : List Int) (y : Img) (cd : Int) : Prop :=
  (y = Img.zero ∧ cd = 19 ∧ ∀ v : Img, (Pc.img v).b = bs → (Pc.img v).x = false → False) ∨ (cd = 0 ∧ (Pc.img y).b = bs ∧ (Pc.img y).x = false)
theorem reads_one {bs : List Int} {B : Nat} {e : Ending} {w : World} (h : ReadPF bs B e w) : ∃ (x : Img) (ev : Value), e = .returned (.tuple #[.agg #[.slice x.fA x.faces.length x.fc, .slice x.cA x.classes.length x.cc, .slice x.dA x.codes.length x.dc, .slice x.nA x.insts.length x.nc, .string x.globals, .slice x.iA x.init.length x.ic, .slice x.bA x.blocks.length x.bc, .slice x.xA x.ins.length x.xc, .slice x.oA x.outs.length x.oc, .slice x.jA x.jobs.length x.jc, .int .i64 x.d, .int .i64 x.w], ev]) ∧ Img.At (fresh w B) w.heap.size x ∧ OneE bs B x ev w := by
  rcases h with ⟨v, he, ha, _, h1, h2, h3⟩ | ⟨b, he, h1, h2, h3⟩
  · exact ⟨v, _, he, ha, Or.inr ⟨rfl, h1, h2, h3⟩⟩
  · exact ⟨Img.zero, _, he, zero_at2 _ _, Or.inl ⟨rfl, ⟨b, rfl, h1, h2⟩, h3⟩⟩
theorem reads_two {bs : List Int} {B : Nat} {e : Ending} {w : World} (h : ReadP2 bs B e w) : ∃ (y : Img) (cd : Int), e = .returned (.tuple #[.agg #[.slice y.fA y.faces.length y.fc, .slice y.cA y.classes.length y.cc, .slice y.dA y.codes.length y.dc, .slice y.nA y.insts.length y.nc, .string y.globals, .slice y.iA y.init.length y.ic, .slice y.bA y.blocks.length y.bc, .slice y.xA y.ins.length y.xc, .slice y.oA y.outs.length y.oc, .slice y.jA y.jobs.length y.jc, .int .i64 y.d, .int .i64 y.w], .int .i64 cd]) ∧ Img.At (fresh w B) w.heap.size y ∧ TwoE bs y cd := by
  rcases h with ⟨v, he, ha, _, h1, h2⟩ | ⟨he, h1⟩
  · exact ⟨v, _, he, ha, Or.inr ⟨rfl, h1, h2⟩⟩
  · exact ⟨Img.zero, _, he, zero_at2 _ _, Or.inl ⟨rfl, rfl, h1⟩⟩
theorem reads_eqb {bs : List Int} {B : Nat} {x y : Img} {ev : Value} {cd : Int} {w : World} (h : OneE bs B x ev w) (k : TwoE bs y cd) : Img.eqb x y = true := by
  rcases h with ⟨rfl, _, h2⟩ | ⟨_, h1, h2, h3⟩ <;> rcases k with ⟨rfl, _, k2⟩ | ⟨_, k1, k2⟩
  · exact Img.eqb_refl _
  · exact (h2 y k1 k2).elim
  · exact (k2 x h1 h2).elim
  · exact (h3 y [] (bs_nil k1) k2).2
theorem reads_code {bs : List Int} {B : Nat} {x y : Img} {ev : Value} {cd : Int} {w w' : World} (h : OneE bs B x ev w) (k : TwoE bs y cd) (hs : Stays B w w') (hg : Door w') :
    Calls Tryz.prog 11 #[ev] w' fun e w'' => e = .returned (.int .i64 cd) ∧ Below w'.heap.size w' w'' := by
  rcases h with ⟨rfl, ⟨b, rfl, hb, hw⟩, h2⟩ | ⟨rfl, h1, h2, h3⟩ <;> rcases k with ⟨rfl, rfl, k2⟩ | ⟨rfl, k1, k2⟩
  · exact code_is b 19 w' hg (hs.has hw hb)
  · exact (h2 y k1 k2).elim
  · exact (k2 x h1 h2).elim
  · exact (code_nil w').mono fun _ _ ⟨h1, h2⟩ => ⟨h1, h2 ▸ Below.refl _ _⟩
set_option maxRecDepth 100000 in
set_option maxHeartbeats 4000000 in
theorem imageReads_walk (A : Option Addr) (c : Nat) (bs : List Int) (w : World) (hg : Door w) (hb : LBytes w w.heap.size A bs) (hc : bs.length ≤ c) (hy : ∀ y ∈ bs, 0 ≤ y ∧ y < 256) :
    Calls Tryz.prog 4 #[.slice A bs.length c] w fun e w' => e = .returned (.bool true) ∧ Below w.heap.size w w' := by
  have RB : Hid (∀ wr, Below w.heap.size w wr → LBytes wr w.heap.size A bs) := Aid.hid fun wr h => hb.below h (Nat.le_refl _)
  have HG : Hid (∀ wr, Below w.heap.size w wr → Door wr) := Aid.hid fun wr h => hg.below h
  have KW : Hid (Below w.heap.size w w) := Aid.hid (Below.refl _ _)
  have HY := Aid.hid hy
  clear hb hg hy
  by_cases hbl : 4000 < bs.length
  · have hbl2 : ((4000 : Int) < (bs.length : Int)) := by omega
    go_enter Tryz.func4, Tryz.ntmps4
    try simp only [List.append_eq, List.cons_append, List.nil_append]
    go_wp2_with fail
    go_at_call 7
    refine (awake_is _ (HG.out _ KW.out)).mono ?_
    rintro e wq ⟨rfl, hbq⟩
    have KQ := Aid.hid (KW.out.trans (hbq.mono KW.out.size))
    clear hbq
    go_wp2_with fail
    go_ret
    exact ⟨rfl, KQ.out⟩
  · have hbl2 : ¬ ((4000 : Int) < (bs.length : Int)) := by omega
    have HC := Aid.hid (lendBytes_is w.heap.size A c bs w (RB.out _ KW.out).reads (Nat.le_refl _) (by omega))
    go_enter Tryz.func4, Tryz.ntmps4
    try simp only [List.append_eq, List.cons_append, List.nil_append]
    go_wp2_with fail
    go_at_call 15
    refine HC.out.mono ?_
    rintro e w1 ⟨rfl, o1, hb1⟩
    have KW := Aid.hid (KW.out.trans (hb1.mono KW.out.size))
    have N1 : Hid (w.heap.size < w1.heap.size) := Aid.hid (o1.lt w.heap.size rfl).2
    have O1 := Aid.hid o1
    have HC := Aid.hid (readf_is w1.heap.size (some ⟨w.heap.size, 0, none⟩) (bs.length + 3) bs w1 (Reads.of_own o1) (Nat.le_refl _) (by omega) HY.out)
    clear o1 hb1
    go_wp2_with fail
    go_at_call 16
    refine HC.out.mono ?_
    rintro e w2 ⟨hb2, hr⟩
    obtain ⟨x, ev, rfl, hx, h1⟩ := reads_one hr
    have M2 : Hid (w1.heap.size ≤ w2.heap.size) := Aid.hid hb2.size
    replace O1 := Aid.hid (own_keeps O1.out hb2)
    have KW := Aid.hid (KW.out.trans (hb2.mono KW.out.size))
    obtain ⟨w3, hw3⟩ : ∃ w3, w2.alloc (.cells #[.slice x.fA x.faces.length x.fc, .slice x.cA x.classes.length x.cc, .slice x.dA x.codes.length x.dc, .slice x.nA x.insts.length x.nc, .string x.globals, .slice x.iA x.init.length x.ic, .slice x.bA x.blocks.length x.bc, .slice x.xA x.ins.length x.xc, .slice x.oA x.outs.length x.oc, .slice x.jA x.jobs.length x.jc, .int .i64 x.d, .int .i64 x.w] 29) = w3 := ⟨_, rfl⟩
    have k3 : Below w2.heap.size w2 w3 := by subst hw3; exact (Below.refl _ _).alloc (Nat.le_refl _) _
    have BX : Hid (Aid.Has w3 w2.heap.size [.slice x.fA x.faces.length x.fc, .slice x.cA x.classes.length x.cc, .slice x.dA x.codes.length x.dc, .slice x.nA x.insts.length x.nc, .string x.globals, .slice x.iA x.init.length x.ic, .slice x.bA x.blocks.length x.bc, .slice x.xA x.ins.length x.xc, .slice x.oA x.outs.length x.oc, .slice x.jA x.jobs.length x.jc, .int .i64 x.d, .int .i64 x.w] 29) := Aid.hid (by subst hw3; exact Aid.Has.new w2 [.slice x.fA x.faces.length x.fc, .slice x.cA x.classes.length x.cc, .slice x.dA x.codes.length x.dc, .slice x.nA x.insts.length x.nc, .string x.globals, .slice x.iA x.init.length x.ic, .slice x.bA x.blocks.length x.bc, .slice x.xA x.ins.length x.xc, .slice x.oA x.outs.length x.oc, .slice x.jA x.jobs.length x.jc, .int .i64 x.d, .int .i64 x.w] 29)
    have AX := Aid.hid hx
    have E1 := Aid.hid h1
    have SX : Hid (Stays w1.heap.size w2 w3) := Aid.hid (Stays.of k3)
    replace O1 := Aid.hid (own_keeps O1.out k3)
    have KW := Aid.hid (KW.out.trans (k3.mono KW.out.size))
    have HC := Aid.hid (read2_is w.heap.size A c bs w3 (RB.out _ KW.out).reads KW.out.size hc (by omega) HY.out)
    clear hr hx h1 hb2 k3
    subst hw3
    go_wp2_with fail
    go_at_call 17
    refine HC.out.mono ?_
    rintro e w4 ⟨hb4, hr⟩
    obtain ⟨y, cd, rfl, hy, h2⟩ := reads_two hr
    replace O1 := Aid.hid (own_keeps O1.out hb4)
    have SX2 := Aid.hid (Stays.of (m := w1.heap.size) hb4)
    have M4 : Hid (w1.heap.size ≤ (w2.alloc (.cells #[.slice x.fA x.faces.length x.fc, .slice x.cA x.classes.length x.cc, .slice x.dA x.codes.length x.dc, .slice x.nA x.insts.length x.nc, .string x.globals, .slice x.iA x.init.length x.ic, .slice x.bA x.blocks.length x.bc, .slice x.xA x.ins.length x.xc, .slice x.oA x.outs.length x.oc, .slice x.jA x.jobs.length x.jc, .int .i64 x.d, .int .i64 x.w] 29)).heap.size) := Aid.hid (Nat.le_trans M2.out SX.out.1)
    have KW := Aid.hid (KW.out.trans (hb4.mono KW.out.size))
    obtain ⟨w5, hw5⟩ : ∃ w5, w4.alloc (.cells #[.slice y.fA y.faces.length y.fc, .slice y.cA y.classes.length y.cc, .slice y.dA y.codes.length y.dc, .slice y.nA y.insts.length y.nc, .string y.globals, .slice y.iA y.init.length y.ic, .slice y.bA y.blocks.length y.bc, .slice y.xA y.ins.length y.xc, .slice y.oA y.outs.length y.oc, .slice y.jA y.jobs.length y.jc, .int .i64 y.d, .int .i64 y.w] 29) = w5 := ⟨_, rfl⟩
    have k5 : Below w4.heap.size w4 w5 := by subst hw5; exact (Below.refl _ _).alloc (Nat.le_refl _) _
    have BY : Hid (Aid.Has w5 w4.heap.size [.slice y.fA y.faces.length y.fc, .slice y.cA y.classes.length y.cc, .slice y.dA y.codes.length y.dc, .slice y.nA y.insts.length y.nc, .string y.globals, .slice y.iA y.init.length y.ic, .slice y.bA y.blocks.length y.bc, .slice y.xA y.ins.length y.xc, .slice y.oA y.outs.length y.oc, .slice y.jA y.jobs.length y.jc, .int .i64 y.d, .int .i64 y.w] 29) := Aid.hid (by subst hw5; exact Aid.Has.new w4 [.slice y.fA y.faces.length y.fc, .slice y.cA y.classes.length y.cc, .slice y.dA y.codes.length y.dc, .slice y.nA y.insts.length y.nc, .string y.globals, .slice y.iA y.init.length y.ic, .slice y.bA y.blocks.length y.bc, .slice y.xA y.ins.length y.xc, .slice y.oA y.outs.length y.oc, .slice y.jA y.jobs.length y.jc, .int .i64 y.d, .int .i64 y.w] 29)
    have AY := Aid.hid hy
    have E2 := Aid.hid h2
    have SY : Hid (Stays w1.heap.size w4 w5) := Aid.hid (Stays.of k5)
    have MY : Hid (w1.heap.size ≤ w4.heap.size) := Aid.hid (Nat.le_trans M4.out hb4.size)
    replace O1 := Aid.hid (own_keeps O1.out k5)
    have KW := Aid.hid (KW.out.trans (k5.mono KW.out.size))
    have HC := Aid.hid (overBytes_g (some ⟨w.heap.size, 0, none⟩) (bs.length + 3) w.heap.size bs.length _ w5 O1.out (by intro u hu; obtain ⟨n, _, rfl⟩ := List.mem_map.1 hu; rfl) (by omega) KW.out.size)
    clear hr hy h2 hb4 k5
    subst hw5
    go_wp2_with fail
    go_at_call 14
    refine HC.out.mono ?_
    rintro e w6 ⟨rfl, hgr⟩
    have KW := Aid.hid (KW.out.grown hgr KW.out.size (fun q hq => by cases hq; exact Nat.le_refl _))
    have SG := Aid.hid (Stays.grown hgr N1.out)
    clear hgr O1
    have hs5 := SY.out.trans SG.out
    have hs3 := SX2.out.trans hs5
    have fx := hs3.has BX.out M2.out
    have fy := SG.out.has BY.out MY.out
    have a0 := fx.cell 0 _ rfl
    have b0 := fy.cell 0 _ rfl
    have a1 := fx.cell 1 _ rfl
    have b1 := fy.cell 1 _ rfl
    have a2 := fx.cell 2 _ rfl
    have b2 := fy.cell 2 _ rfl
    have a3 := fx.cell 3 _ rfl
    have b3 := fy.cell 3 _ rfl
    have a4 := fx.cell 4 _ rfl
    have b4 := fy.cell 4 _ rfl
    have a5 := fx.cell 5 _ rfl
    have b5 := fy.cell 5 _ rfl
    have a6 := fx.cell 6 _ rfl
    have b6 := fy.cell 6 _ rfl
    have a7 := fx.cell 7 _ rfl
    have b7 := fy.cell 7 _ rfl
    have a8 := fx.cell 8 _ rfl
    have b8 := fy.cell 8 _ rfl
    have a9 := fx.cell 9 _ rfl
    have b9 := fy.cell 9 _ rfl
    have a10 := fx.cell 10 _ rfl
    have b10 := fy.cell 10 _ rfl
    have a11 := fx.cell 11 _ rfl
    have b11 := fy.cell 11 _ rfl
    have QE := Aid.hid (reads_eqb E1.out E2.out)
    have SZ : Hid (Stays w1.heap.size w2 w6) := Aid.hid (SX.out.trans hs3)
    have HC := Aid.hid (sImage_yes w6.heap.size w6.heap.size x y w6 (SZ.out.img AX.out) ((hs5.mono M4.out).img AY.out) (Nat.le_refl _) (Nat.le_refl _) QE.out)
    clear hs5 hs3 fx fy
    go_wp2_with fail
    go_at_call 13
    refine HC.out.mono ?_
    rintro e w7 ⟨rfl, hb7⟩
    have KW := Aid.hid (KW.out.trans (hb7.mono KW.out.size))
    have HC := Aid.hid (reads_code E1.out E2.out (SZ.out.trans (Stays.of hb7)) (HG.out _ KW.out))
    clear hb7 a0 b0 a1 b1 a2 b2 a3 b3 a4 b4 a5 b5 a6 b6 a7 b7 a8 b8 a9 b9 a10 b10 a11 b11
    go_wp2_with fail
    go_at_call 11
    refine HC.out.mono ?_
    rintro e w8 ⟨rfl, hb8⟩
    have KW := Aid.hid (KW.out.trans (hb8.mono KW.out.size))
    clear hb8 HC
    have hcd : (cd == cd) = true := by simp
    go_wp2_with fail
    go_at_call 7
    refine (awake_is _ (HG.out _ KW.out)).mono ?_
    rintro e wq ⟨rfl, hbq⟩
    have KQ := Aid.hid (KW.out.trans (hbq.mono KW.out.size))
    clear hbq
    go_wp2_with fail
    go_ret
    exact ⟨rfl, KQ.out⟩
end Go.Proofs.YtaogegeidbclaaaGreatDoor
