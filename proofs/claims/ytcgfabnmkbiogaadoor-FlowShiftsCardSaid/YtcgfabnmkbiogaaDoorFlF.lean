/- What an instruction that calls takes and leaves. -/
import Derived.Test.YtcgfabnmkbiogaaDoorFlD
import Derived.Test.YtcgfabnmkbiogaaDoorOrd
import Derived.RegionTactic
import Derived.BigRegion
import Derived.ChangeAlike
import Derived.StillTailTactics
import Derived.WalkKit
import Derived.WalkSpells
import Derived.WalkLawsBesides
import Derived.LoopTactic
import Derived.Deep.QuietTactic
import Derived.BigQuiet
import Derived.Below
import Derived.Laws.ResultCell
import Derived.Laws.Tables
import Derived.Laws.Rows
import Derived.Deep.Cut
import Derived.KernelRfl
namespace Go.Proofs.YtcgfabnmkbiogaaDoor
open Go.RowKit

theorem class_any (b B : Nat) (x : Img) (c : Cod) (k s t : Value) (m : Int) (n : Int) (w : World) (h : Ck w b x c k s t m B) : ∃ z : Desc, ∃ r : Bool, z = (Fl.cls x n).getD Desc.zero ∧ r = (Fl.cls x n).isSome ∧ LTexts w B z.sA z.sigs ∧ (∀ s ∈ z.sigs, s.size ≤ 1000) ∧
    Calls Tryd.prog 27 #[.pointer (some ⟨b, 0, none⟩), .int .i64 n] w fun e w' => e = .returned (.tuple #[.agg #[.int .i64 z.base, .string z.fields, .slice z.iA z.init.length z.ic, .slice z.vA z.vtab.length z.vc, .slice z.sA z.sigs.length z.sc, .slice z.tA z.tabs.length z.tc], .bool r]) ∧ Below w.heap.size w w' := by
  cases hy : Fl.cls x n with
  | none => exact ⟨Desc.zero, false, rfl, rfl, ⟨by simp [Desc.zero], Rows.nil_ _ _ _ _⟩, by simp [Desc.zero], class_is b B x c k s t m n Desc.zero false w h (by rw [hy]; rfl) (fun _ => rfl)⟩
  | some d =>
    have hm : d ∈ x.classes := by
      unfold Fl.cls at hy
      split at hy
      · exact List.mem_of_getElem? hy
      · cases hy
    exact ⟨d, true, rfl, rfl, (h.img.classes.2.2 d hm).2.2.1, h.sm.sg d hm, class_is b B x c k s t m n d true w h (by rw [hy]; rfl) (fun h => by cases h)⟩
theorem Fl.sig_nil (n : Int) (a : ByteArray) : Fl.sig [] n a = none := by unfold Fl.sig; simp
set_option maxRecDepth 100000 in
set_option maxHeartbeats 2000000 in
theorem called_24 (b B : Nat) (x : Img) (c : Cod) (k s t : Value) (m : Int) (a d : Int) (w : World) (h : Ck w b x c k s t m B) (ha : 0 ≤ a) (hm : a ≤ 10000) :
    Calls Tryd.prog 23 #[.pointer (some ⟨b, 0, none⟩), .agg #[.int .i64 24, .int .i64 a, .int .i64 d]] w fun e w' => Fl.Ans (Fl.called x c 24 a d) e ∧ Below w.heap.size w w' := by
  have hn := Aid.Has.new w [.int .i64 24, .int .i64 a, .int .i64 d] 25
  have K0 : Hid (Below w.heap.size w (w.alloc (.cells #[.int .i64 24, .int .i64 a, .int .i64 d] 25))) := Aid.hid ((Below.refl _ w).alloc (Nat.le_refl _) _)
  have hk := h.below K0.out
  have a12 := hk.has.cell 12 _ rfl
  obtain ⟨z, r, hz, _, hls, hsz, HC⟩ := class_any b B x c k s t m c.cls _ hk
  have e1 : Fl.called x c 24 a d = Fl.sig z.sigs a Fl.e := by
    unfold Fl.called
    rw [if_neg (by omega), if_pos rfl, hz]
    cases Fl.cls x c.cls
    · exact (Fl.sig_nil a _).symm
    · rfl
  rw [e1]
  have HC := Aid.hid HC
  have HN := Aid.hid hn
  have HK := Aid.hid (⟨hk.le, hk.ml, hls⟩ : _ ∧ _ ∧ _)
  have HSZ := Aid.hid hsz
  clear hk hz hls hsz e1 h hn
  go_enter Tryd.func23, Tryd.ntmps23
  try simp only [List.append_eq, List.cons_append, List.nil_append]
  go_wp2_with fail
  go_at_call 27
  refine HC.out.mono ?_
  rintro e w1 ⟨rfl, hb1⟩
  have KW := Aid.hid (K0.out.trans (hb1.mono K0.out.size))
  have kz : Below w1.heap.size w1 (w1.alloc (.cells #[.int .i64 z.base, .string z.fields, .slice z.iA z.init.length z.ic, .slice z.vA z.vtab.length z.vc, .slice z.sA z.sigs.length z.sc, .slice z.tA z.tabs.length z.tc] 58)) := (Below.refl _ w1).alloc (Nat.le_refl _) _
  have a1 := ((HN.out.below hb1 HN.out.lt).alloc (.cells #[.int .i64 z.base, .string z.fields, .slice z.iA z.init.length z.ic, .slice z.vA z.vtab.length z.vc, .slice z.sA z.sigs.length z.sc, .slice z.tA z.tabs.length z.tc] 58)).cell 1 _ rfl
  have HS := Aid.hid (sig_is z.sA z.sc B z.sigs a ⟨#[]⟩ (w1.alloc (.cells #[.int .i64 z.base, .string z.fields, .slice z.iA z.init.length z.ic, .slice z.vA z.vtab.length z.vc, .slice z.sA z.sigs.length z.sc, .slice z.tA z.tabs.length z.tc] 58)) ((HK.out.2.2.below hb1 HK.out.1).below kz (Nat.le_trans HK.out.1 hb1.size)) (Nat.le_trans (Nat.le_trans HK.out.1 hb1.size) kz.size) ha HSZ.out (by decide) ((HK.out.2.1.below hb1).below kz))
  have KZ := Aid.hid (KW.out.trans (kz.mono KW.out.size))
  clear hb1 HC kz
  go_wp2_with fail
  go_at_call 29
  refine HS.out.mono ?_
  rintro e w2 ⟨⟨t', l', ok, rfl, hO⟩, hb2⟩
  have KX := Aid.hid (KZ.out.trans (hb2.mono KZ.out.size))
  have HO := Aid.hid hO
  clear hb2 hO HS a1
  go_wp2_with fail
  go_ret3
  exact ⟨⟨t', l', ok, rfl, HO.out⟩, KX.out⟩
set_option maxRecDepth 100000 in
set_option maxHeartbeats 2000000 in
theorem called_25 (b B : Nat) (x : Img) (c : Cod) (k s t : Value) (m : Int) (a d : Int) (w : World) (h : Ck w b x c k s t m B) (ha : 0 ≤ a) (hm : a ≤ 10000) :
    Calls Tryd.prog 23 #[.pointer (some ⟨b, 0, none⟩), .agg #[.int .i64 25, .int .i64 a, .int .i64 d]] w fun e w' => Fl.Ans (Fl.called x c 25 a d) e ∧ Below w.heap.size w w' := by
  have hn := Aid.Has.new w [.int .i64 25, .int .i64 a, .int .i64 d] 25
  have K0 : Hid (Below w.heap.size w (w.alloc (.cells #[.int .i64 25, .int .i64 a, .int .i64 d] 25))) := Aid.hid ((Below.refl _ w).alloc (Nat.le_refl _) _)
  have hk := h.below K0.out
  have a12 := hk.has.cell 12 _ rfl
  obtain ⟨z, r, hz, _, hls, hsz, HC⟩ := class_any b B x c k s t m d _ hk
  have e1 : Fl.called x c 25 a d = Fl.sig z.sigs a Fl.r := by
    unfold Fl.called
    rw [if_neg (by omega), if_neg (by omega), if_pos rfl, hz]
    cases Fl.cls x d
    · exact (Fl.sig_nil a _).symm
    · rfl
  rw [e1]
  have HC := Aid.hid HC
  have HN := Aid.hid hn
  have HK := Aid.hid (⟨hk.le, hk.ml, hls⟩ : _ ∧ _ ∧ _)
  have HSZ := Aid.hid hsz
  clear hk hz hls hsz e1 h hn
  go_enter Tryd.func23, Tryd.ntmps23
  try simp only [List.append_eq, List.cons_append, List.nil_append]
  go_wp2_with fail
  go_at_call 27
  refine HC.out.mono ?_
  rintro e w1 ⟨rfl, hb1⟩
  have KW := Aid.hid (K0.out.trans (hb1.mono K0.out.size))
  have kz : Below w1.heap.size w1 (w1.alloc (.cells #[.int .i64 z.base, .string z.fields, .slice z.iA z.init.length z.ic, .slice z.vA z.vtab.length z.vc, .slice z.sA z.sigs.length z.sc, .slice z.tA z.tabs.length z.tc] 58)) := (Below.refl _ w1).alloc (Nat.le_refl _) _
  have a1 := ((HN.out.below hb1 HN.out.lt).alloc (.cells #[.int .i64 z.base, .string z.fields, .slice z.iA z.init.length z.ic, .slice z.vA z.vtab.length z.vc, .slice z.sA z.sigs.length z.sc, .slice z.tA z.tabs.length z.tc] 58)).cell 1 _ rfl
  have HS := Aid.hid (sig_is z.sA z.sc B z.sigs a ⟨#[114]⟩ (w1.alloc (.cells #[.int .i64 z.base, .string z.fields, .slice z.iA z.init.length z.ic, .slice z.vA z.vtab.length z.vc, .slice z.sA z.sigs.length z.sc, .slice z.tA z.tabs.length z.tc] 58)) ((HK.out.2.2.below hb1 HK.out.1).below kz (Nat.le_trans HK.out.1 hb1.size)) (Nat.le_trans (Nat.le_trans HK.out.1 hb1.size) kz.size) ha HSZ.out (by decide) ((HK.out.2.1.below hb1).below kz))
  have KZ := Aid.hid (KW.out.trans (kz.mono KW.out.size))
  clear hb1 HC kz
  go_wp2_with fail
  go_at_call 29
  refine HS.out.mono ?_
  rintro e w2 ⟨⟨t', l', ok, rfl, hO⟩, hb2⟩
  have KX := Aid.hid (KZ.out.trans (hb2.mono KZ.out.size))
  have HO := Aid.hid hO
  clear hb2 hO HS a1
  go_wp2_with fail
  go_ret3
  exact ⟨⟨t', l', ok, rfl, HO.out⟩, KX.out⟩
set_option maxRecDepth 100000 in
set_option maxHeartbeats 2000000 in
theorem called_26 (b B : Nat) (x : Img) (c : Cod) (k s t : Value) (m : Int) (a d : Int) (w : World) (h : Ck w b x c k s t m B) (ha : 0 ≤ a) (hm : a ≤ 10000) (hd : 0 ≤ d) :
    Calls Tryd.prog 23 #[.pointer (some ⟨b, 0, none⟩), .agg #[.int .i64 26, .int .i64 a, .int .i64 d]] w fun e w' => Fl.Ans (Fl.called x c 26 a d) e ∧ Below w.heap.size w w' := by
  have K0 : Hid (Below w.heap.size w (w.alloc (.cells #[.int .i64 26, .int .i64 a, .int .i64 d] 25))) := Aid.hid ((Below.refl _ w).alloc (Nat.le_refl _) _)
  have hk := h.below K0.out
  have a0 := hk.has.cell 0 _ rfl
  have lx := hk.img.faces.1
  unfold Lim at lx
  obtain ⟨q, rfl⟩ : ∃ q : Nat, a = q := ⟨a.toNat, by omega⟩
  by_cases hq : q < x.faces.length
  · obtain ⟨f, hf⟩ : ∃ f, x.faces[q]? = some f := ⟨_, List.getElem?_eq_getElem hq⟩
    have e1 : Fl.called x c 26 q d = Fl.sig f.l d Fl.r := by
      unfold Fl.called
      rw [if_neg (by omega), if_neg (by omega), if_neg (by omega), show ((q : Int)).toNat = q by omega, hf]
    rw [e1]
    obtain ⟨p1, o1, hA, hb1, hc1⟩ := Rows.get hk.img.faces.2.1 hf
    rw [hA] at a0
    have lt1 : p1 < (w.alloc (.cells #[.int .i64 26, .int .i64 q, .int .i64 d] 25)).heap.size := Nat.lt_of_lt_of_le hb1 hk.le
    have c0 := hc1 0 _ rfl
    simp only [Nat.mul_one, Nat.add_zero] at c0
    have XA := Aid.hid (hk.img.faces.2.2 f (List.mem_of_getElem? hf))
    have HN := Aid.hid (Aid.Has.new w [.int .i64 26, .int .i64 q, .int .i64 d] 25)
    have HB := Aid.hid hk.has.lt
    have XS := Aid.hid (hk.sm.fc f (List.mem_of_getElem? hf))
    have HK := Aid.hid (⟨hk.le, hk.ml⟩ : _ ∧ _)
    clear hk hc1 hA hf e1 h
    go_enter Tryd.func23, Tryd.ntmps23
    try simp only [List.append_eq, List.cons_append, List.nil_append]
    go_wp2_with fail
    go_quiet (fail)
    go_wp2_with fail
    obtain ⟨wr, hwr⟩ : ∃ wr, World.drewN (w.alloc (.cells #[.int .i64 26, .int .i64 q, .int .i64 d] 25)) nq = wr := ⟨_, rfl⟩
    rw [hwr]
    have KR : Hid (Below w.heap.size w wr) := Aid.hid (by rw [← hwr]; exact Fl.drewN K0.out _)
    have XW : Hid (Fc.At wr B f ∧ B ≤ wr.heap.size ∧ Fl.Max wr) := Aid.hid (by rw [← hwr]; exact ⟨XA.out, HK.out.1, HK.out.2⟩)
    have FA : Hid (∀ w', Below wr.heap.size wr w' → w'.cell? ⟨b, 0, none⟩ = some (.slice (some ⟨p1, o1, none⟩) x.faces.length x.fc) ∧ w'.cell? ⟨w.heap.size, 1, none⟩ = some (.int .i64 q) ∧ w'.cell? ⟨p1, o1 + q, none⟩ = some (.slice f.A f.l.length f.c) ∧ w'.cell? ⟨w.heap.size, 2, none⟩ = some (.int .i64 d)) := Aid.hid (by
      have hb0 : b < wr.heap.size := by rw [← hwr]; exact HB.out
      have hb1 : p1 < wr.heap.size := by rw [← hwr]; exact lt1
      have hb2 : w.heap.size < wr.heap.size := by rw [← hwr]; exact HN.out.lt
      have k0 : wr.cell? ⟨b, 0, none⟩ = some (.slice (some ⟨p1, o1, none⟩) x.faces.length x.fc) := by rw [← hwr]; exact a0
      have k1 : wr.cell? ⟨w.heap.size, 1, none⟩ = some (.int .i64 q) := by rw [← hwr]; exact HN.out.cell 1 _ rfl
      have k2 : wr.cell? ⟨p1, o1 + q, none⟩ = some (.slice f.A f.l.length f.c) := by rw [← hwr]; exact c0
      have k3 : wr.cell? ⟨w.heap.size, 2, none⟩ = some (.int .i64 d) := by rw [← hwr]; exact HN.out.cell 2 _ rfl
      exact fun w' h' => ⟨(h'.cell hb0).trans k0, (h'.cell hb2).trans k1, (h'.cell hb1).trans k2, (h'.cell hb2).trans k3⟩)
    clear a0 c0 hwr K0 HK XA HN HB lt1
    have hb : Below wr.heap.size wr wr.drew := (Below.refl _ _).drew
    refine Ord.wp_region_walk (fun w' => Below wr.heap.size wr w') 15 [(true, 0), (true, 1), (true, 2), (true, 3), (true, 4), (true, 5), (true, 6), (true, 7), (true, 8), (true, 9), (true, 10), (false, 11), (true, 12), (true, 13), (true, 14)] (by kernel_rfl) (by kernel_rfl) (fun _ _ d _ _ h => by cases d <;> exact h) (hb) ?_
    apply Ord.walk_light
    next => (simp only [List.getElem?_toArray, List.getElem?_cons_zero]; rfl)
    next => rfl
    next => (intro w' hSw; clear hSw; go_simp; first | done | with_reducible rfl)
    simp only [Act.put, List.setIfInBounds_toArray, List.set_cons_zero, List.set_cons_succ]
    apply Ord.walk_light
    next => (simp only [List.getElem?_toArray, List.getElem?_cons_succ, List.getElem?_cons_zero]; rfl)
    next => rfl
    next => (intro w' hSw; clear hSw; go_simp; first | done | with_reducible rfl)
    simp only [Act.put, List.setIfInBounds_toArray, List.set_cons_zero, List.set_cons_succ]
    apply Ord.walk_light
    next => (simp only [List.getElem?_toArray, List.getElem?_cons_succ, List.getElem?_cons_zero]; rfl)
    next => rfl
    next => (intro w' hSw; clear hSw; go_simp; first | done | with_reducible rfl)
    simp only [Act.put, List.setIfInBounds_toArray, List.set_cons_zero, List.set_cons_succ]
    apply Ord.walk_light
    next => (simp only [List.getElem?_toArray, List.getElem?_cons_succ, List.getElem?_cons_zero]; rfl)
    next => rfl
    next => (intro w' hSw; clear hSw; go_simp; first | done | with_reducible rfl)
    simp only [Act.put, List.setIfInBounds_toArray, List.set_cons_zero, List.set_cons_succ]
    apply Ord.walk_light
    next => (simp only [List.getElem?_toArray, List.getElem?_cons_succ, List.getElem?_cons_zero]; rfl)
    next => rfl
    next => (intro w' hSw; obtain ⟨z0, z1, z2, z3⟩ := FA.out w' hSw; clear hSw; go_simp; first | done | with_reducible rfl)
    simp only [Act.put, List.setIfInBounds_toArray, List.set_cons_zero, List.set_cons_succ]
    apply Ord.walk_light
    next => (simp only [List.getElem?_toArray, List.getElem?_cons_succ, List.getElem?_cons_zero]; rfl)
    next => rfl
    next => (intro w' hSw; clear hSw; go_simp; first | done | with_reducible rfl)
    simp only [Act.put, List.setIfInBounds_toArray, List.set_cons_zero, List.set_cons_succ]
    apply Ord.walk_light
    next => (simp only [List.getElem?_toArray, List.getElem?_cons_succ, List.getElem?_cons_zero]; rfl)
    next => rfl
    next => (intro w' hSw; obtain ⟨z0, z1, z2, z3⟩ := FA.out w' hSw; clear hSw; go_simp; first | done | with_reducible rfl)
    simp only [Act.put, List.setIfInBounds_toArray, List.set_cons_zero, List.set_cons_succ]
    apply Ord.walk_light
    next => (simp only [List.getElem?_toArray, List.getElem?_cons_succ, List.getElem?_cons_zero]; rfl)
    next => rfl
    next => (intro w' hSw; clear hSw; go_simp; first | done | with_reducible rfl)
    simp only [Act.put, List.setIfInBounds_toArray, List.set_cons_zero, List.set_cons_succ]
    apply Ord.walk_light
    next => (simp only [List.getElem?_toArray, List.getElem?_cons_succ, List.getElem?_cons_zero]; rfl)
    next => rfl
    next => (intro w' hSw; obtain ⟨z0, z1, z2, z3⟩ := FA.out w' hSw; clear hSw; go_simp; first | done | with_reducible rfl)
    simp only [Act.put, List.setIfInBounds_toArray, List.set_cons_zero, List.set_cons_succ]
    apply Ord.walk_light
    next => (simp only [List.getElem?_toArray, List.getElem?_cons_succ, List.getElem?_cons_zero]; rfl)
    next => rfl
    next => (intro w' hSw; clear hSw; go_simp; first | done | with_reducible rfl)
    simp only [Act.put, List.setIfInBounds_toArray, List.set_cons_zero, List.set_cons_succ]
    apply Ord.walk_light
    next => (simp only [List.getElem?_toArray, List.getElem?_cons_succ, List.getElem?_cons_zero]; rfl)
    next => rfl
    next => (intro w' hSw; obtain ⟨z0, z1, z2, z3⟩ := FA.out w' hSw; clear hSw; go_simp; first | done | with_reducible rfl)
    simp only [Act.put, List.setIfInBounds_toArray, List.set_cons_zero, List.set_cons_succ]
    apply Ord.walk_heavy
    next => (simp only [List.getElem?_toArray, List.getElem?_cons_succ, List.getElem?_cons_zero]; rfl)
    next => rfl
    intro K hK
    go_wp2_with fail
    refine (sig_is f.A f.c B f.l d ⟨#[114]⟩ _ (XW.out.1.below hb XW.out.2.1) (Nat.le_trans XW.out.2.1 hb.size) hd XS.out (by decide) (XW.out.2.2.below hb)).mono ?_; rintro e w' ⟨⟨t', l', ok, rfl, hO⟩, hb'⟩; dsimp only
    have HO := Aid.hid hO
    refine hK.out _ _ (hb.trans (hb'.mono hb.size)) (fun hHeld => ?_)
    clear hb hb' hO
    have hb := hHeld
    clear hK K
    try simp only [Act.put, List.setIfInBounds_toArray, List.set_cons_zero, List.set_cons_succ]
    apply Ord.walk_light
    next => (simp only [List.getElem?_toArray, List.getElem?_cons_succ, List.getElem?_cons_zero]; rfl)
    next => rfl
    next => (intro w' hSw; clear hSw; go_simp; first | done | with_reducible rfl)
    simp only [Act.put, List.setIfInBounds_toArray, List.set_cons_zero, List.set_cons_succ]
    apply Ord.walk_light
    next => (simp only [List.getElem?_toArray, List.getElem?_cons_succ, List.getElem?_cons_zero]; rfl)
    next => rfl
    next => (intro w' hSw; clear hSw; go_simp; first | done | with_reducible rfl)
    simp only [Act.put, List.setIfInBounds_toArray, List.set_cons_zero, List.set_cons_succ]
    apply Ord.walk_light
    next => (simp only [List.getElem?_toArray, List.getElem?_cons_succ, List.getElem?_cons_zero]; rfl)
    next => rfl
    next => (intro w' hSw; clear hSw; go_simp; first | done | with_reducible rfl)
    simp only [Act.put, List.setIfInBounds_toArray, List.set_cons_zero, List.set_cons_succ]
    refine Ord.walk_tail ?_; simp only [List.drop_succ_cons, List.drop_zero]
    have KX := Aid.hid (KR.out.trans (hb.mono KR.out.size))
    clear hb
    go_wp2_with fail
    go_ret3
    exact ⟨⟨t', l', ok, rfl, HO.out⟩, KX.out⟩
  · have e1 : Fl.called x c 26 q d = none := by
      unfold Fl.called
      rw [if_neg (by omega), if_neg (by omega), if_neg (by omega), show ((q : Int)).toNat = q by omega, List.getElem?_eq_none (by omega)]
    rw [e1]
    have hq2 : (x.faces.length : Int) ≤ q := by omega
    clear hk e1 h
    go_enter Tryd.func23, Tryd.ntmps23
    try simp only [List.append_eq, List.cons_append, List.nil_append]
    go_wp2_with fail
    go_quiet (fail)
    go_wp2_with fail
    go_ret3
    exact ⟨.no, Fl.drewN K0.out _⟩
end Go.Proofs.YtcgfabnmkbiogaaDoor
