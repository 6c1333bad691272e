/- What a call takes and leaves. -/
import Derived.Test.YtcgfabnmkbiogaaDoorFlF
import Derived.RegionTactic
import Derived.BigRegion
import Derived.ChangeAlike
import Derived.StillTailTactics
import Derived.WalkKit
import Derived.WalkSpells
import Derived.WalkLawsBesides
import Derived.LoopTactic
import Derived.Deep.QuietTactic
import Derived.BigQuiet
import Derived.Below
import Derived.Laws.ResultCell
import Derived.Laws.Tables
import Derived.Laws.Rows
import Derived.Deep.Cut
import Derived.KernelRfl
namespace Go.Proofs.YtcgfabnmkbiogaaDoor
open Go.RowKit

theorem sigText_le (p : ByteArray) (r : Bool) (h : p.size ≤ 500) : (p ++ if r then (⟨#[62, 105]⟩ : ByteArray) else ⟨#[62]⟩).size ≤ 1000 := by
  rw [ByteArray.size_append]
  cases r
  · show p.size + 1 ≤ 1000; omega
  · show p.size + 2 ≤ 1000; omega
theorem isSome_no {α : Type} {o : Option α} (h : false = o.isSome) : o = none := by cases o <;> simp_all
theorem isSome_yes {α : Type} {o : Option α} (h : true = o.isSome) : ∃ v, o = some v := by cases o <;> simp_all
set_option maxRecDepth 100000 in
set_option maxHeartbeats 2000000 in
theorem called_23 (b B : Nat) (x : Img) (c : Cod) (k s t : Value) (m : Int) (a d : Int) (w : World) (h : Ck w b x c k s t m B) (ha : 0 ≤ a) (hm : a ≤ 10000) :
    Calls Tryd.prog 23 #[.pointer (some ⟨b, 0, none⟩), .agg #[.int .i64 23, .int .i64 a, .int .i64 d]] w fun e w' => Fl.Ans (Fl.called x c 23 a d) e ∧ Below w.heap.size w w' := by
  have K0 : Hid (Below w.heap.size w (w.alloc (.cells #[.int .i64 23, .int .i64 a, .int .i64 d] 25))) := Aid.hid ((Below.refl _ w).alloc (Nat.le_refl _) _)
  have hk := h.below K0.out
  have a2 := hk.has.cell 2 _ rfl
  have lx := hk.img.codes.1
  unfold Lim at lx
  obtain ⟨q, rfl⟩ : ∃ q : Nat, a = q := ⟨a.toNat, by omega⟩
  by_cases hq : q < x.codes.length
  · obtain ⟨f, hf⟩ : ∃ f, x.codes[q]? = some f := ⟨_, List.getElem?_eq_getElem hq⟩
    obtain ⟨p1, o1, hA, hb1, hc1⟩ := Rows.get hk.img.codes.2.1 hf
    rw [hA] at a2
    have lt1 : p1 < (w.alloc (.cells #[.int .i64 23, .int .i64 q, .int .i64 d] 25)).heap.size := Nat.lt_of_lt_of_le hb1 hk.le
    have c0 := hc1 0 _ rfl
    have c1 := hc1 1 _ rfl
    have c2 := hc1 2 _ rfl
    have c3 := hc1 3 _ rfl
    have c4 := hc1 4 _ rfl
    have c5 := hc1 5 _ rfl
    simp only [Nat.add_zero] at c0
    have HF := Aid.hid hf
    have HN := Aid.hid (Aid.Has.new w [.int .i64 23, .int .i64 q, .int .i64 d] 25)
    have HK := Aid.hid hk
    have RC : Hid (∀ wr, Below (w.alloc (.cells #[.int .i64 23, .int .i64 q, .int .i64 d] 25)).heap.size (w.alloc (.cells #[.int .i64 23, .int .i64 q, .int .i64 d] 25)) wr → wr.cell? ⟨b, 2, none⟩ = some (.slice (some ⟨p1, o1, none⟩) x.codes.length x.dc) ∧ wr.cell? ⟨p1, o1 + q * 6, none⟩ = some (.int .i64 f.cls) ∧ wr.cell? ⟨p1, o1 + q * 6 + 1, none⟩ = some (.string f.params) ∧ wr.cell? ⟨p1, o1 + q * 6 + 2, none⟩ = some (.string f.locals) ∧ wr.cell? ⟨p1, o1 + q * 6 + 3, none⟩ = some (.bool f.ret) ∧ wr.cell? ⟨p1, o1 + q * 6 + 4, none⟩ = some (.int .i64 f.stack) ∧ wr.cell? ⟨p1, o1 + q * 6 + 5, none⟩ = some (.slice f.oA f.ops.length f.oc)) := Aid.hid (fun wr h => ⟨(h.cell hk.has.lt).trans a2, (h.cell lt1).trans c0, (h.cell lt1).trans c1, (h.cell lt1).trans c2, (h.cell lt1).trans c3, (h.cell lt1).trans c4, (h.cell lt1).trans c5⟩)
    clear hk hc1 hA hf h a2 c0 c1 c2 c3 c4 c5
    obtain ⟨O, hO⟩ : ∃ O, Fl.called x c 23 q d = O := ⟨_, rfl⟩
    have EO : Hid ((match Fl.cls x f.cls, Fl.cls x c.cls with | some _, some _ => if Fl.comes x f.cls (x.classes.length + 1) c.cls then Fl.sign (Fl.sigOf f.params f.ret) Fl.e else none | _, _ => none) = O) := Aid.hid (by
      rw [← hO]; unfold Fl.called
      rw [if_pos rfl, show ((q : Int)).toNat = q by omega, HF.out]
      rfl)
    rw [hO]
    clear hO
    have a2 := (RC.out _ (Below.refl _ _)).1
    go_enter Tryd.func23, Tryd.ntmps23
    try simp only [List.append_eq, List.cons_append, List.nil_append]
    go_wp2_with fail
    go_quiet (fail)
    clear a2
    go_wp2_with fail
    obtain ⟨wr, hwr⟩ : ∃ wr, World.drewN (w.alloc (.cells #[.int .i64 23, .int .i64 q, .int .i64 d] 25)) nq = wr := ⟨_, rfl⟩
    rw [hwr]
    have KR : Hid (Below w.heap.size w wr) := Aid.hid (by rw [← hwr]; exact Fl.drewN K0.out _)
    have CK := Aid.hid (show Ck wr b x c k s t m B by rw [← hwr]; exact ⟨HK.out.has, HK.out.img.below (Fl.drewN (Below.refl _ _) _) (Nat.le_refl _), HK.out.le, HK.out.sm, HK.out.cm, HK.out.ml⟩)
    have HM : Hid (Aid.Has wr w.heap.size [.int .i64 23, .int .i64 q, .int .i64 d] 25) := Aid.hid (by rw [← hwr]; exact HN.out)
    obtain ⟨a2, c0, c1, c2, c3, c4, c5⟩ := RC.out wr (by rw [← hwr]; exact Fl.drewN (Below.refl _ _) _)
    have a1 := HM.out.cell 1 _ rfl
    have l1 : p1 < wr.heap.size := by rw [← hwr]; exact lt1
    have l2 := CK.out.has.lt
    have l3 := HM.out.lt
    clear hwr K0 HK HN lt1 RC
    obtain ⟨X, hX⟩ : ∃ X, (wr.alloc (.cells #[.int .i64 f.cls, .string f.params, .string f.locals, .bool f.ret, .int .i64 f.stack, .slice f.oA f.ops.length f.oc] 45)).drew = X := ⟨_, rfl⟩
    have kx : Below wr.heap.size wr X := by rw [← hX]; exact ((Below.refl _ _).alloc (Nat.le_refl _) _).drew
    have fx : Aid.Has X wr.heap.size [.int .i64 f.cls, .string f.params, .string f.locals, .bool f.ret, .int .i64 f.stack, .slice f.oA f.ops.length f.oc] 45 := by rw [← hX]; exact (Aid.Has.new wr [.int .i64 f.cls, .string f.params, .string f.locals, .bool f.ret, .int .i64 f.stack, .slice f.oA f.ops.length f.oc] 45).drew
    have CX := Aid.hid (CK.out.below kx)
    have FX := Aid.hid fx
    have KX := Aid.hid (KR.out.trans (kx.mono KR.out.size))
    have f0 := fx.cell 0 _ rfl
    obtain ⟨z1, r1, hz1, hr1, _, _, H1⟩ := class_any b B x c k s t m f.cls X CX.out
    have H1 := Aid.hid H1
    have HR1 := Aid.hid hr1
    obtain ⟨sp1, sp2, _⟩ := CK.out.sm.cp f (List.mem_of_getElem? HF.out)
    clear kx fx hz1 hr1
    go_region
    try rw [hX]
    clear hX c0 c1 c2 c3 c4 c5 a1 a2 l1 l2 l3 CK HM KR
    go_wp2_with fail
    go_at_call 27
    refine H1.out.mono ?_
    rintro e w1 ⟨rfl, hb1⟩
    have k1 : Below w1.heap.size w1 (w1.alloc (.cells #[.int .i64 z1.base, .string z1.fields, .slice z1.iA z1.init.length z1.ic, .slice z1.vA z1.vtab.length z1.vc, .slice z1.sA z1.sigs.length z1.sc, .slice z1.tA z1.tabs.length z1.tc] 58)) := (Below.refl _ w1).alloc (Nat.le_refl _) _
    have CY := Aid.hid ((CX.out.below hb1).below k1)
    have FY := Aid.hid ((FX.out.below hb1 FX.out.lt).below k1 (FX.out.below hb1 FX.out.lt).lt)
    have KY := Aid.hid ((KX.out.trans (hb1.mono KX.out.size)).trans (k1.mono (Nat.le_trans KX.out.size hb1.size)))
    have a12 := CY.out.has.cell 12 _ rfl
    obtain ⟨z2, r2, hz2, hr2, _, _, H2⟩ := class_any b B x c k s t m c.cls _ CY.out
    have H2 := Aid.hid H2
    have HR2 := Aid.hid hr2
    clear hb1 k1 H1 CX FX KX f0 hz2 hr2
    go_wp2_with fail
    go_at_call 27
    refine H2.out.mono ?_
    rintro e w2 ⟨rfl, hb2⟩
    have k2 : Below w2.heap.size w2 (w2.alloc (.cells #[.int .i64 z2.base, .string z2.fields, .slice z2.iA z2.init.length z2.ic, .slice z2.vA z2.vtab.length z2.vc, .slice z2.sA z2.sigs.length z2.sc, .slice z2.tA z2.tabs.length z2.tc] 58)) := (Below.refl _ w2).alloc (Nat.le_refl _) _
    have CZ := Aid.hid ((CY.out.below hb2).below k2)
    have FZ := Aid.hid ((FY.out.below hb2 FY.out.lt).below k2 (FY.out.below hb2 FY.out.lt).lt)
    have KZ := Aid.hid ((KY.out.trans (hb2.mono KY.out.size)).trans (k2.mono (Nat.le_trans KY.out.size hb2.size)))
    clear hb2 k2 H2 CY FY KY a12
    obtain ⟨Y, hY⟩ : ∃ Y, w2.alloc (.cells #[.int .i64 z2.base, .string z2.fields, .slice z2.iA z2.init.length z2.ic, .slice z2.vA z2.vtab.length z2.vc, .slice z2.sA z2.sigs.length z2.sc, .slice z2.tA z2.tabs.length z2.tc] 58) = Y := ⟨_, rfl⟩
    rw [hY] at CZ FZ KZ
    clear HF
    cases r1
    · obtain rfl : none = O := by
        have e1 : Fl.cls x f.cls = none := isSome_no HR1.out
        have := EO.out; rwa [e1] at this
      clear HR1 HR2 EO
      go_wp2_with fail
      try rw [hY]
      go_quiet (fail)
      go_wp2_with fail
      go_ret3
      exact ⟨.no, Fl.drewN KZ.out _⟩
    · cases r2
      · obtain rfl : none = O := by
          have e1 : Fl.cls x c.cls = none := isSome_no HR2.out
          have := EO.out; rw [e1] at this
          revert this
          cases Fl.cls x f.cls <;> exact fun h => h
        clear HR1 HR2 EO
        go_wp2_with fail
        try rw [hY]
        go_quiet (fail)
        go_wp2_with fail
        go_ret3
        exact ⟨.no, Fl.drewN KZ.out _⟩
      · obtain ⟨v1, hv1⟩ : ∃ v, Fl.cls x f.cls = some v := isSome_yes HR1.out
        obtain ⟨v2, hv2⟩ : ∃ v, Fl.cls x c.cls = some v := isSome_yes HR2.out
        obtain ⟨rc, hrc⟩ : ∃ rc, Fl.comes x f.cls (x.classes.length + 1) c.cls = rc := ⟨_, rfl⟩
        have EP : Hid ((if rc then Fl.sign (Fl.sigOf f.params f.ret) Fl.e else none) = O) := Aid.hid (by have := EO.out; rw [hv1, hv2, hrc] at this; exact this)
        have HC := Aid.hid (comes_is b B x c k s t m c.cls f.cls rc Y.drew (CZ.out.below (Below.refl _ Y).drew) hrc)
        have f0 := FZ.out.cell 0 _ rfl
        have a12 := CZ.out.has.cell 12 _ rfl
        clear HR1 HR2 EO hv1 hv2 hrc
        go_wp2_with fail
        try rw [hY]
        go_still_tail 15, (by kernel_rfl)
        change wpList _ _ _ _ _ Y.drew
        have CD := Aid.hid (CZ.out.below (Below.refl _ Y).drew)
        have FD : Hid (Aid.Has Y.drew wr.heap.size [.int .i64 f.cls, .string f.params, .string f.locals, .bool f.ret, .int .i64 f.stack, .slice f.oA f.ops.length f.oc] 45) := Aid.hid FZ.out.drew
        have KD := Aid.hid KZ.out.drew
        clear f0 a12 CZ FZ KZ
        generalize Y.drew = wd at HC CD FD KD ⊢
        go_wp2_with fail
        go_at_call 28
        refine HC.out.mono ?_
        rintro e w3 ⟨rfl, hb3⟩
        have KE := Aid.hid (KD.out.trans (hb3.mono KD.out.size))
        have CE := Aid.hid (CD.out.below hb3)
        have FE := Aid.hid (FD.out.below hb3 FD.out.lt)
        clear hb3 HC CD FD KD
        cases rc
        · obtain rfl : none = O := EP.out
          clear EP
          go_wp2_with fail
          go_ret3
          exact ⟨.no, KE.out⟩
        · have f1 := FE.out.cell 1 _ rfl
          have f3 := FE.out.cell 3 _ rfl
          go_wp2_with fail
          go_at_call 30
          refine (sig_any f.params f.ret w3 (by omega)).mono ?_
          rintro e w4 ⟨rfl, rfl⟩
          obtain ⟨S, hS⟩ : ∃ S, (f.params ++ if f.ret then (⟨#[62, 105]⟩ : ByteArray) else ⟨#[62]⟩) = S := ⟨_, rfl⟩
          have hS2 : Fl.sigOf f.params f.ret = S := by rw [← hS]; unfold Fl.sigOf; cases f.ret <;> rfl
          have hSz : S.size ≤ 1000 := by rw [← hS]; exact sigText_le _ _ sp1
          have ka : Below w3.heap.size w3 (w3.alloc (.cells #[.string S] 9)) := (Below.refl _ w3).alloc (Nat.le_refl _) _
          have hn := Aid.Has.new w3 [.string S] 9
          have hlt : LTexts (w3.alloc (.cells #[.string S] 9)) (w3.heap.size + 1) (some ⟨w3.heap.size, 0, none⟩) [S] := ⟨by show 1 ≤ Lim; unfold Lim; omega, fun _ => ⟨w3.heap.size, 0, rfl, Nat.lt_succ_self _, fun i r hi j v hj => by
            have hi0 : i = 0 := by have := (List.getElem?_eq_some_iff.1 hi).1; simp at this; exact this
            subst hi0
            obtain rfl : [Value.string S] = r := by simpa using hi
            have hj0 : j = 0 := by have := (List.getElem?_eq_some_iff.1 hj).1; simp at this; exact this
            subst hj0
            exact hn.cell 0 v hj⟩⟩
          have HS := Aid.hid (sig_is (some ⟨w3.heap.size, 0, none⟩) 1 (w3.heap.size + 1) [S] 0 ⟨#[]⟩ (w3.alloc (.cells #[.string S] 9)) hlt (by simp) (Int.le_refl _) (by intro u hu; simp at hu; subst hu; exact hSz) (by decide) (CE.out.ml.below ka))
          have KF := Aid.hid (KE.out.trans (ka.mono KE.out.size))
          have EQ : Hid (Fl.sig [S] 0 ⟨#[]⟩ = O) := Aid.hid (by rw [← EP.out, hS2]; rfl)
          clear ka hn hlt EP CE FE KE f1 f3 hS2
          rw [hS]
          clear hS
          go_wp2_with fail
          go_at_call 29
          refine HS.out.mono ?_
          rintro e w5 ⟨⟨t', l', ok, rfl, hO⟩, hb5⟩
          have KG := Aid.hid (KF.out.trans (hb5.mono KF.out.size))
          have HO := Aid.hid hO
          clear hb5 hO HS
          go_wp2_with fail
          go_ret3
          exact ⟨⟨t', l', ok, rfl, EQ.out.symm.trans HO.out⟩, KG.out⟩
  · have e1 : Fl.called x c 23 q d = none := by
      unfold Fl.called
      rw [if_pos rfl, show ((q : Int)).toNat = q by omega, List.getElem?_eq_none (by omega)]
    rw [e1]
    have hq2 : (x.codes.length : Int) ≤ q := by omega
    clear hk e1 h
    go_enter Tryd.func23, Tryd.ntmps23
    try simp only [List.append_eq, List.cons_append, List.nil_append]
    go_wp2_with fail
    go_quiet (fail)
    go_wp2_with fail
    go_ret3
    exact ⟨.no, Fl.drewN K0.out _⟩
theorem called_is (b B : Nat) (x : Img) (c : Cod) (k s t : Value) (m : Int) (q a d : Int) (w : World) (h : Ck w b x c k s t m B) (h1 : 23 ≤ q) (h2 : q ≤ 26) (ha : 0 ≤ a) (hm : a ≤ 10000) (hd : 0 ≤ d) :
    Calls Tryd.prog 23 #[.pointer (some ⟨b, 0, none⟩), .agg #[.int .i64 q, .int .i64 a, .int .i64 d]] w fun e w' => Fl.Ans (Fl.called x c q a d) e ∧ Below w.heap.size w w' := by
  obtain rfl | rfl | rfl | rfl : q = 23 ∨ q = 24 ∨ q = 25 ∨ q = 26 := by omega
  · exact called_23 b B x c k s t m a d w h ha hm
  · exact called_24 b B x c k s t m a d w h ha hm
  · exact called_25 b B x c k s t m a d w h ha hm
  · exact called_26 b B x c k s t m a d w h ha hm hd
end Go.Proofs.YtcgfabnmkbiogaaDoor
