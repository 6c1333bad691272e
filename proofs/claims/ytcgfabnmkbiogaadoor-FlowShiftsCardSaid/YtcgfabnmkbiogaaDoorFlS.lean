/- The checker goes along an instruction. -/
import Derived.Test.YtcgfabnmkbiogaaDoorFlE
import Derived.Test.YtcgfabnmkbiogaaDoorFlI
import Derived.Test.YtcgfabnmkbiogaaDoorOpMay
import Derived.Test.YtcgfabnmkbiogaaDoorFlowAfter
import Derived.Test.YtcgfabnmkbiogaaDoorShelf
import Derived.RegionTactic
import Derived.BigRegion
import Derived.ChangeAlike
import Derived.WalkKit
import Derived.WalkSpells
import Derived.WalkLawsBesides
import Derived.LoopTactic
import Derived.Deep.QuietTactic
import Derived.BigQuiet
import Derived.Below
import Derived.Laws.ResultCell
import Derived.Laws.Tables
import Derived.Laws.Rows
import Derived.Deep.Cut
import Derived.KernelRfl
namespace Go.Proofs.YtcgfabnmkbiogaaDoor
open Go.RowKit

/-- What step comes to. -/
def StepP (w0 : World) (b g1 g2 : Nat) (x : Img) (c : Cod) (r : Option FSt) (e : Ending) (w' : World) : Prop :=
  (r = none ∧ e = .returned (.bool false) ∧ Below w0.heap.size w0 w') ∨ ∃ s' T' tc', r = some s' ∧ e = .returned (.bool true) ∧ Fs w0 w' b g1 g2 x c s' T' tc'
theorem isEmpty_yes {t : ByteArray} (h : t.size = 0) : t.toList.isEmpty = true := by
  rw [ByteArray.toList_eq]
  have : t.data.toList.length = 0 := h
  exact List.isEmpty_iff_length_eq_zero.2 this
theorem isEmpty_no {t : ByteArray} (h : t.size ≠ 0) : t.toList.isEmpty = false := by
  rw [ByteArray.toList_eq]
  have h1 : t.data.toList.length ≠ 0 := h
  cases h2 : t.data.toList with
  | nil => rw [h2] at h1; exact absurd rfl h1
  | cons a l => rfl
theorem Fs.most {w0 w : World} {b g1 g2 : Nat} {x : Img} {c : Cod} {s : FSt} {T : Option Addr} {tc : Nat} (h : Fs w0 w b g1 g2 x c s T tc) (n : Int) : Fs w0 (w.setCell ⟨b, 21, none⟩ (.int .i64 n)) b g1 g2 x c { s with most := n } T tc :=
  ⟨h.has.set 21 (.int .i64 n), h.kn.other ⟨b, 21, none⟩ _ (Ne.symm h.sep.1), h.st.other ⟨b, 21, none⟩ _ (Ne.symm h.sep.2.1), own_other h.td (fun p hp => (h.sept p hp).1) 21 _, h.sep, h.sept, h.low, h.below.setCell (p := ⟨b, 21, none⟩) h.low.1 _, h.len, h.sz, h.room, h.img, h.sm, h.cm, h.ml⟩
set_option maxRecDepth 100000 in
set_option maxHeartbeats 2000000 in
theorem step_is (w0 : World) (b g1 g2 : Nat) (x : Img) (c : Cod) (s : FSt) (T : Option Addr) (tc : Nat) (i : Nat) (w : World) (h : Fs w0 w b g1 g2 x c s T tc) (hi : i < c.ops.length) :
    Calls Tryd.prog 14 #[.pointer (some ⟨b, 0, none⟩), .int .i64 i] w fun e w' => StepP w0 b g1 g2 x c (FSt.step x c s i) e w' := by
  obtain ⟨o, ho⟩ : ∃ o, c.ops[i]? = some o := ⟨_, List.getElem?_eq_getElem hi⟩
  obtain ⟨t, ht⟩ : ∃ t, s.st[i]? = some t := ⟨_, List.getElem?_eq_getElem (by rw [h.len.2]; exact hi)⟩
  have htz := h.sz t (List.mem_of_getElem? ht)
  obtain ⟨hl1, hl2⟩ := h.len
  have hops := (h.sm.cp c h.cm).2.2
  have hck := h.ck
  have hat : LOps w w0.heap.size c.oA c.ops := hck.img.codes.2.2 c h.cm
  obtain ⟨p1, o1, hA, hb1, hc1⟩ := Rows.get hat.2 ho
  have a17 := h.has.cell 17 _ rfl
  rw [hA] at a17
  have a19 := h.has.cell 19 _ rfl
  have c0 := hc1 0 _ rfl
  have c1 := hc1 1 _ rfl
  have c2 := hc1 2 _ rfl
  simp only [Nat.add_zero] at c0
  have cs := h.st.cell i (.string t) (by rw [List.getElem?_map, ht]; rfl)
  have l1 : p1 < w.heap.size := Nat.lt_of_lt_of_le hb1 h.below.size
  have l2 := h.has.lt
  have l3 := h.st.lt
  have hi2 : i < s.st.length := by omega
  obtain ⟨R, hR⟩ : ∃ R, FSt.step x c s i = R := ⟨_, rfl⟩
  have hstep : (match Fl.after x c o t with | none => none | some t' => if t'.size ≤ 10000 then FSt.go { s with most := max s.most t'.size } o.k o.a i t' else none) = R := by
    rw [← hR]; unfold FSt.step; rw [ho, ht]; rfl
  rw [hR]
  obtain ⟨X, hX⟩ : ∃ X, (w.alloc (.cells #[.int .i64 o.k, .int .i64 o.a, .int .i64 o.b] 25)).drew = X := ⟨_, rfl⟩
  have kx : Below w.heap.size w X := by rw [← hX]; exact ((Below.refl _ _).alloc (Nat.le_refl _) _).drew
  have ox : Aid.Has X w.heap.size [.int .i64 o.k, .int .i64 o.a, .int .i64 o.b] 25 := by rw [← hX]; exact (Aid.Has.new w [.int .i64 o.k, .int .i64 o.a, .int .i64 o.b] 25).drew
  have FX := Aid.hid (h.keep kx)
  have OX := Aid.hid ox
  have HST := Aid.hid hstep
  have HHI := Aid.hid (⟨hi, h.len, htz, Nat.ne_of_lt l2⟩ : _ ∧ _ ∧ _ ∧ _)
  obtain ⟨mr, hmr⟩ : ∃ r, Op.may o.k o.a o.b = r := ⟨_, rfl⟩
  have HMR := Aid.hid hmr
  have HM := Aid.hid (may_is o.k o.a o.b mr hmr X)
  have HXX := Aid.hid hX
  clear hX hR hstep ho ht hck hat hA hc1 ox kx hb1 h hmr
  go_enter Tryd.func14, Tryd.ntmps14
  try simp only [List.append_eq, List.cons_append, List.nil_append]
  go_wp2_with fail
  go_region
  rw [HXX.out]
  clear HXX a17 a19 c0 c1 c2 cs l1 l2 l3
  have x0 := OX.out.cell 0 _ rfl
  have x1 := OX.out.cell 1 _ rfl
  have x2 := OX.out.cell 2 _ rfl
  go_wp2_with fail
  go_at_call 16
  refine HM.out.mono ?_
  rintro e w1 ⟨rfl, hb1⟩
  have F1 := Aid.hid (FX.out.keep hb1)
  have O1 := Aid.hid (OX.out.below hb1 OX.out.lt)
  clear hb1 HM FX OX x0 x1 x2
  cases mr
  · obtain rfl : none = R := by
      have := HST.out
      unfold Fl.after at this
      rw [if_neg (by rw [HMR.out]; decide)] at this
      exact this
    clear HST HMR
    go_wp2_with fail
    go_ret
    exact Or.inl ⟨rfl, rfl, F1.out.below⟩
  · have HE := Aid.hid (effect_is b w0.heap.size x c _ _ _ _ o.k o.a o.b w1 F1.out.ck HMR.out)
    have x0 := O1.out.cell 0 _ rfl
    have x1 := O1.out.cell 1 _ rfl
    have x2 := O1.out.cell 2 _ rfl
    go_wp2_with fail
    go_at_call 17
    refine HE.out.mono ?_
    rintro e w2 ⟨⟨tk, lv, ok, rfl, hO⟩, hb2⟩
    have F2 := Aid.hid (F1.out.keep hb2)
    have O2 := Aid.hid (O1.out.below hb2 O1.out.lt)
    have hlv : ok = true → lv.size ≤ 1 := fun e => effect_le (by rw [hO, if_pos e])
    have HLV := Aid.hid hlv
    have HAF := Aid.hid (after_eq (s := t) HMR.out hO)
    clear hb2 HE F1 O1 x0 x1 x2 hO hlv HMR
    have x0 := O2.out.cell 0 _ rfl
    by_cases hk : o.k = 34
    · by_cases hz : t.size = 0
      · have hem : t.toList.isEmpty = true := isEmpty_yes hz
        have TK : Hid (Fl.takes o.k t tk = tk) := Aid.hid (by unfold Fl.takes; rw [if_neg (fun h => h.2 hz)])
        obtain ⟨is, his⟩ : ∃ v, Lib.hasSuffix t.data.toList (tk).data.toList = v := ⟨_, rfl⟩
        obtain ⟨rest, hrest⟩ : ∃ v : ByteArray, (⟨(Lib.trimSuffix t.data.toList (tk).data.toList).toArray⟩ : ByteArray) = v := ⟨_, rfl⟩
        have HC := Tryd.strings_CutSuffix t (tk) w2 (by omega)
        rw [his, hrest] at HC
        have REST : Hid (rest.size ≤ 10000) := Aid.hid (by rw [← hrest]; exact Nat.le_trans (trim_le _ _) htz)
        rw [TK.out, his, hrest] at HAF
        have HC := Aid.hid HC
        clear his hrest
        go_wp2_with fail
        go_at_call 18
        refine HC.out.mono ?_
        rintro e w' ⟨rfl, hw⟩
        rw [hw]
        clear hw w' HC
        cases ok
        · have AFT : Hid (Fl.after x c o t = none) := Aid.hid (by rw [HAF.out, if_neg]; simp)
          obtain rfl : none = R := by have h1 := HST.out; rw [AFT.out] at h1; exact h1
          clear HST AFT HAF HLV
          go_wp2_with fail
          go_ret
          exact Or.inl ⟨rfl, rfl, F2.out.below⟩
        · cases is
          · have AFT : Hid (Fl.after x c o t = none) := Aid.hid (by rw [HAF.out, if_neg]; simp)
            obtain rfl : none = R := by have h1 := HST.out; rw [AFT.out] at h1; exact h1
            clear HST AFT HAF HLV
            go_wp2_with fail
            go_ret
            exact Or.inl ⟨rfl, rfl, F2.out.below⟩
          · have AFT : Hid (Fl.after x c o t = none) := Aid.hid (by rw [HAF.out, if_neg]; intro h; exact h.2.2 ⟨hk, hz⟩)
            obtain rfl : none = R := by have h1 := HST.out; rw [AFT.out] at h1; exact h1
            clear HST AFT HAF HLV
            go_wp2_with fail
            go_ret
            exact Or.inl ⟨rfl, rfl, F2.out.below⟩
      · have hem : t.toList.isEmpty = false := isEmpty_no hz
        have TK : Hid (Fl.takes o.k t tk = t.extract (t.size - 1) t.size) := Aid.hid (by unfold Fl.takes; rw [if_pos ⟨hk, hz⟩])
        have NB : Hid (¬ (o.k = 34 ∧ t.size = 0)) := Aid.hid (fun h => hz h.2)
        obtain ⟨is, his⟩ : ∃ v, Lib.hasSuffix t.data.toList (t.extract (t.size - 1) t.size).data.toList = v := ⟨_, rfl⟩
        obtain ⟨rest, hrest⟩ : ∃ v : ByteArray, (⟨(Lib.trimSuffix t.data.toList (t.extract (t.size - 1) t.size).data.toList).toArray⟩ : ByteArray) = v := ⟨_, rfl⟩
        have HC := Tryd.strings_CutSuffix t (t.extract (t.size - 1) t.size) w2 (by omega)
        rw [his, hrest] at HC
        have REST : Hid (rest.size ≤ 10000) := Aid.hid (by rw [← hrest]; exact Nat.le_trans (trim_le _ _) htz)
        rw [TK.out, his, hrest] at HAF
        have HC := Aid.hid HC
        clear his hrest
        go_wp2_with fail
        go_at_call 18
        refine HC.out.mono ?_
        rintro e w' ⟨rfl, hw⟩
        rw [hw]
        clear hw w' HC
        cases ok
        · have AFT : Hid (Fl.after x c o t = none) := Aid.hid (by rw [HAF.out, if_neg]; simp)
          obtain rfl : none = R := by have h1 := HST.out; rw [AFT.out] at h1; exact h1
          clear HST AFT HAF HLV
          go_wp2_with fail
          go_ret
          exact Or.inl ⟨rfl, rfl, F2.out.below⟩
        · cases is
          · have AFT : Hid (Fl.after x c o t = none) := Aid.hid (by rw [HAF.out, if_neg]; simp)
            obtain rfl : none = R := by have h1 := HST.out; rw [AFT.out] at h1; exact h1
            clear HST AFT HAF HLV
            go_wp2_with fail
            go_ret
            exact Or.inl ⟨rfl, rfl, F2.out.below⟩
          · have AFT : Hid (Fl.after x c o t = some (rest ++ lv)) := Aid.hid (by rw [HAF.out, if_pos]; exact ⟨rfl, rfl, NB.out⟩)
            clear HAF NB
            obtain ⟨t1, ht1⟩ : ∃ u, rest ++ lv = u := ⟨_, rfl⟩
            have hrs : rest.size ≤ 10000 := REST.out
            have hls : lv.size ≤ 1 := HLV.out rfl
            have hts : t1.size = rest.size + lv.size := by rw [← ht1, ByteArray.size_append]
            have hmax : ∀ (ts : Array TypeId) (ty : TypeId) (w : World), (Builtin.max_ ts ty #[.int .i64 s.most, .int .i64 (t1.size : Int)]).run Tryd.prog w = .ok (.int .i64 (max s.most t1.size)) w := fun ts ty w => by
              have e : (if (t1.size : Int) > s.most then (t1.size : Int) else s.most) = max s.most t1.size := by
                rw [Int.max_def]; split <;> split <;> omega
              rw [← e]; simp [Builtin.max_, Builtin.max2]
            have y21 := F2.out.has.cell 21 _ rfl
            have yf := F2.out.has.frozen 21
            have SW : Hid ((if t1.size ≤ 10000 then FSt.go { s with most := max s.most t1.size } o.k o.a i t1 else none) = R) := Aid.hid (by
              have h1 := HST.out
              rw [AFT.out, ht1] at h1; exact h1)
            obtain ⟨w3, hw3⟩ : ∃ w3, w2.setCell ⟨b, 21, none⟩ (.int .i64 (max s.most t1.size)) = w3 := ⟨_, rfl⟩
            have F3 : Hid (Fs w0 w3 b g1 g2 x c { s with most := max s.most t1.size } T tc) := Aid.hid (by rw [← hw3]; exact F2.out.most _)
            have x0' : w3.cell? ⟨w.heap.size, 0, none⟩ = some (.int .i64 o.k) := by
              rw [← hw3]; exact (O2.out.other ⟨b, 21, none⟩ _ (Ne.symm HHI.out.2.2.2)).cell 0 _ rfl
            have x1' : w3.cell? ⟨w.heap.size, 1, none⟩ = some (.int .i64 o.a) := by
              rw [← hw3]; exact (O2.out.other ⟨b, 21, none⟩ _ (Ne.symm HHI.out.2.2.2)).cell 1 _ rfl
            have HX1 := Aid.hid (⟨x0', x1'⟩ : _ ∧ _)
            have htb : t1.size ≤ 10001 := by omega
            clear x0' x1' F2 O2 HST AFT hts
            by_cases hle : t1.size ≤ 10000
            · have LE := Aid.hid hle
              have GO : Hid (FSt.go { s with most := max s.most t1.size } o.k o.a i t1 = R) := Aid.hid (by have h1 := SW.out; rwa [if_pos LE.out] at h1)
              have hle2 : ¬ ((10000 : Int) < (t1.size : Int)) := by omega
              have z0 := HX1.out.1
              have z1 := HX1.out.2
              clear SW
              replace GO : Hid (FSt.reach { s with most := max s.most t1.size } ((i : Int) + 1) t1 = R) := Aid.hid (by have h1 := GO.out; unfold FSt.go at h1; rwa [if_neg (by omega), if_neg (by omega), if_neg (by omega)] at h1)
              have HR := Aid.hid (reach_is w0 b g1 g2 x c { s with most := max s.most t1.size } T tc ((i : Int) + 1) t1 w3 F3.out LE.out)
              go_wp2_with fail
              go_at_call 13
              refine HR.out.mono ?_
              rintro e w4 (⟨hr, rfl, rfl⟩ | ⟨s', T', tc', hr, rfl, F4⟩)
              · have HE2 := Aid.hid (GO.out.symm.trans hr)
                clear hr HR
                go_wp2_with fail
                go_ret
                exact Or.inl ⟨HE2.out, rfl, F3.out.below⟩
              · have HE2 := Aid.hid (GO.out.symm.trans hr)
                have F5 := Aid.hid F4
                clear hr HR F4
                go_wp2_with fail
                go_ret
                exact Or.inr ⟨s', T', tc', HE2.out, rfl, F5.out⟩
            · obtain rfl : none = R := by have h1 := SW.out; rwa [if_neg hle] at h1
              have hle2 : (10000 : Int) < (t1.size : Int) := by omega
              clear SW HX1
              go_wp2_with fail
              go_ret
              exact Or.inl ⟨rfl, rfl, F3.out.below⟩
    · have TK : Hid (Fl.takes o.k t tk = tk) := Aid.hid (by unfold Fl.takes; rw [if_neg (fun h => hk h.1)])
      have NB : Hid (¬ (o.k = 34 ∧ t.size = 0)) := Aid.hid (fun h => hk h.1)
      obtain ⟨is, his⟩ : ∃ v, Lib.hasSuffix t.data.toList (tk).data.toList = v := ⟨_, rfl⟩
      obtain ⟨rest, hrest⟩ : ∃ v : ByteArray, (⟨(Lib.trimSuffix t.data.toList (tk).data.toList).toArray⟩ : ByteArray) = v := ⟨_, rfl⟩
      have HC := Tryd.strings_CutSuffix t (tk) w2 (by omega)
      rw [his, hrest] at HC
      have REST : Hid (rest.size ≤ 10000) := Aid.hid (by rw [← hrest]; exact Nat.le_trans (trim_le _ _) htz)
      rw [TK.out, his, hrest] at HAF
      have HC := Aid.hid HC
      clear his hrest
      go_wp2_with fail
      go_at_call 18
      refine HC.out.mono ?_
      rintro e w' ⟨rfl, hw⟩
      rw [hw]
      clear hw w' HC
      cases ok
      · have AFT : Hid (Fl.after x c o t = none) := Aid.hid (by rw [HAF.out, if_neg]; simp)
        obtain rfl : none = R := by have h1 := HST.out; rw [AFT.out] at h1; exact h1
        clear HST AFT HAF HLV
        go_wp2_with fail
        go_ret
        exact Or.inl ⟨rfl, rfl, F2.out.below⟩
      · cases is
        · have AFT : Hid (Fl.after x c o t = none) := Aid.hid (by rw [HAF.out, if_neg]; simp)
          obtain rfl : none = R := by have h1 := HST.out; rw [AFT.out] at h1; exact h1
          clear HST AFT HAF HLV
          go_wp2_with fail
          go_ret
          exact Or.inl ⟨rfl, rfl, F2.out.below⟩
        · have AFT : Hid (Fl.after x c o t = some (rest ++ lv)) := Aid.hid (by rw [HAF.out, if_pos]; exact ⟨rfl, rfl, NB.out⟩)
          clear HAF NB
          obtain ⟨t1, ht1⟩ : ∃ u, rest ++ lv = u := ⟨_, rfl⟩
          have hrs : rest.size ≤ 10000 := REST.out
          have hls : lv.size ≤ 1 := HLV.out rfl
          have hts : t1.size = rest.size + lv.size := by rw [← ht1, ByteArray.size_append]
          have hmax : ∀ (ts : Array TypeId) (ty : TypeId) (w : World), (Builtin.max_ ts ty #[.int .i64 s.most, .int .i64 (t1.size : Int)]).run Tryd.prog w = .ok (.int .i64 (max s.most t1.size)) w := fun ts ty w => by
            have e : (if (t1.size : Int) > s.most then (t1.size : Int) else s.most) = max s.most t1.size := by
              rw [Int.max_def]; split <;> split <;> omega
            rw [← e]; simp [Builtin.max_, Builtin.max2]
          have y21 := F2.out.has.cell 21 _ rfl
          have yf := F2.out.has.frozen 21
          have SW : Hid ((if t1.size ≤ 10000 then FSt.go { s with most := max s.most t1.size } o.k o.a i t1 else none) = R) := Aid.hid (by
            have h1 := HST.out
            rw [AFT.out, ht1] at h1; exact h1)
          obtain ⟨w3, hw3⟩ : ∃ w3, w2.setCell ⟨b, 21, none⟩ (.int .i64 (max s.most t1.size)) = w3 := ⟨_, rfl⟩
          have F3 : Hid (Fs w0 w3 b g1 g2 x c { s with most := max s.most t1.size } T tc) := Aid.hid (by rw [← hw3]; exact F2.out.most _)
          have x0' : w3.cell? ⟨w.heap.size, 0, none⟩ = some (.int .i64 o.k) := by
            rw [← hw3]; exact (O2.out.other ⟨b, 21, none⟩ _ (Ne.symm HHI.out.2.2.2)).cell 0 _ rfl
          have x1' : w3.cell? ⟨w.heap.size, 1, none⟩ = some (.int .i64 o.a) := by
            rw [← hw3]; exact (O2.out.other ⟨b, 21, none⟩ _ (Ne.symm HHI.out.2.2.2)).cell 1 _ rfl
          have HX1 := Aid.hid (⟨x0', x1'⟩ : _ ∧ _)
          have htb : t1.size ≤ 10001 := by omega
          clear x0' x1' F2 O2 HST AFT hts
          by_cases hle : t1.size ≤ 10000
          · have LE := Aid.hid hle
            have GO : Hid (FSt.go { s with most := max s.most t1.size } o.k o.a i t1 = R) := Aid.hid (by have h1 := SW.out; rwa [if_pos LE.out] at h1)
            have hle2 : ¬ ((10000 : Int) < (t1.size : Int)) := by omega
            have z0 := HX1.out.1
            have z1 := HX1.out.2
            clear SW
            by_cases hk29 : o.k = 29
            · have hkk : o.k = 29 := hk29
              replace GO : Hid ((if t1.size = 0 then some { s with most := max s.most t1.size } else none) = R) := Aid.hid (by have h1 := GO.out; unfold FSt.go at h1; rwa [if_pos (by omega)] at h1)
              by_cases hz1 : t1.size = 0
              · have hem : t1.toList.isEmpty = true := isEmpty_yes hz1
                have HE2 : Hid (R = some { s with most := max s.most t1.size }) := Aid.hid (by have h1 := GO.out; rw [if_pos hz1] at h1; exact h1.symm)
                clear GO hz1
                go_wp2_with fail
                go_ret
                exact Or.inr ⟨_, T, tc, HE2.out, by first | rfl | simp [hem], F3.out⟩
              · have hem : t1.toList.isEmpty = false := isEmpty_no hz1
                have HE2 : Hid (R = none) := Aid.hid (by have h1 := GO.out; rw [if_neg hz1] at h1; exact h1.symm)
                clear GO hz1
                go_wp2_with fail
                go_ret
                exact Or.inl ⟨HE2.out, by first | rfl | simp [hem], F3.out.below⟩
            by_cases hk30 : o.k = 30
            · have hkk : o.k = 30 := hk30
              replace GO : Hid ((if t1.size = 0 then some { s with most := max s.most t1.size } else none) = R) := Aid.hid (by have h1 := GO.out; unfold FSt.go at h1; rwa [if_pos (by omega)] at h1)
              by_cases hz1 : t1.size = 0
              · have hem : t1.toList.isEmpty = true := isEmpty_yes hz1
                have HE2 : Hid (R = some { s with most := max s.most t1.size }) := Aid.hid (by have h1 := GO.out; rw [if_pos hz1] at h1; exact h1.symm)
                clear GO hz1
                go_wp2_with fail
                go_ret
                exact Or.inr ⟨_, T, tc, HE2.out, by first | rfl | simp [hem], F3.out⟩
              · have hem : t1.toList.isEmpty = false := isEmpty_no hz1
                have HE2 : Hid (R = none) := Aid.hid (by have h1 := GO.out; rw [if_neg hz1] at h1; exact h1.symm)
                clear GO hz1
                go_wp2_with fail
                go_ret
                exact Or.inl ⟨HE2.out, by first | rfl | simp [hem], F3.out.below⟩
            by_cases hk22 : o.k = 22
            · replace GO : Hid ((match FSt.reach { s with most := max s.most t1.size } o.a t1 with | none => none | some s' => s'.reach ((i : Int) + 1) t1) = R) := Aid.hid (by have h1 := GO.out; unfold FSt.go at h1; rwa [if_neg (by omega), if_pos hk22] at h1)
              have HR := Aid.hid (reach_is w0 b g1 g2 x c { s with most := max s.most t1.size } T tc o.a t1 w3 F3.out LE.out)
              go_wp2_with fail
              go_at_call 13
              refine HR.out.mono ?_
              rintro e w4 (⟨hr, rfl, rfl⟩ | ⟨s', T', tc', hr, rfl, F4⟩)
              · have HE2 : Hid (R = none) := Aid.hid (by have h1 := GO.out; rw [hr] at h1; exact h1.symm)
                clear hr HR
                go_wp2_with fail
                go_ret
                exact Or.inl ⟨HE2.out, rfl, F3.out.below⟩
              · replace GO : Hid (s'.reach ((i : Int) + 1) t1 = R) := Aid.hid (by have h1 := GO.out; rw [hr] at h1; exact h1)
                have F5 := Aid.hid F4
                have HR := Aid.hid (reach_is w0 b g1 g2 x c s' T' tc' ((i : Int) + 1) t1 w4 F4 LE.out)
                clear hr F4 x0 z0 z1 HX1 y21 yf
                go_wp2_with fail
                go_at_call 13
                refine HR.out.mono ?_
                rintro e w5 (⟨hr, rfl, rfl⟩ | ⟨s5, T5, tc5, hr, rfl, F6⟩)
                · have HE2 := Aid.hid (GO.out.symm.trans hr)
                  clear hr HR
                  go_wp2_with fail
                  go_ret
                  exact Or.inl ⟨HE2.out, rfl, F5.out.below⟩
                · have HE2 := Aid.hid (GO.out.symm.trans hr)
                  have F7 := Aid.hid F6
                  clear hr HR F6
                  go_wp2_with fail
                  go_ret
                  exact Or.inr ⟨s5, T5, tc5, HE2.out, rfl, F7.out⟩
            by_cases hk21 : o.k = 21
            · replace GO : Hid (FSt.reach { s with most := max s.most t1.size } o.a t1 = R) := Aid.hid (by have h1 := GO.out; unfold FSt.go at h1; rwa [if_neg (by omega), if_neg (by omega), if_pos hk21] at h1)
              have HR := Aid.hid (reach_is w0 b g1 g2 x c { s with most := max s.most t1.size } T tc o.a t1 w3 F3.out LE.out)
              go_wp2_with fail
              go_at_call 13
              refine HR.out.mono ?_
              rintro e w4 (⟨hr, rfl, rfl⟩ | ⟨s', T', tc', hr, rfl, F4⟩)
              · have HE2 := Aid.hid (GO.out.symm.trans hr)
                clear hr HR
                go_wp2_with fail
                go_ret
                exact Or.inl ⟨HE2.out, rfl, F3.out.below⟩
              · have HE2 := Aid.hid (GO.out.symm.trans hr)
                have F5 := Aid.hid F4
                clear hr HR F4
                go_wp2_with fail
                go_ret
                exact Or.inr ⟨s', T', tc', HE2.out, rfl, F5.out⟩
            replace GO : Hid (FSt.reach { s with most := max s.most t1.size } ((i : Int) + 1) t1 = R) := Aid.hid (by have h1 := GO.out; unfold FSt.go at h1; rwa [if_neg (by omega), if_neg hk22, if_neg hk21] at h1)
            have HR := Aid.hid (reach_is w0 b g1 g2 x c { s with most := max s.most t1.size } T tc ((i : Int) + 1) t1 w3 F3.out LE.out)
            go_wp2_with fail
            go_at_call 13
            refine HR.out.mono ?_
            rintro e w4 (⟨hr, rfl, rfl⟩ | ⟨s', T', tc', hr, rfl, F4⟩)
            · have HE2 := Aid.hid (GO.out.symm.trans hr)
              clear hr HR
              go_wp2_with fail
              go_ret
              exact Or.inl ⟨HE2.out, rfl, F3.out.below⟩
            · have HE2 := Aid.hid (GO.out.symm.trans hr)
              have F5 := Aid.hid F4
              clear hr HR F4
              go_wp2_with fail
              go_ret
              exact Or.inr ⟨s', T', tc', HE2.out, rfl, F5.out⟩
          · obtain rfl : none = R := by have h1 := SW.out; rwa [if_neg hle] at h1
            have hle2 : (10000 : Int) < (t1.size : Int) := by omega
            clear SW HX1
            go_wp2_with fail
            go_ret
            exact Or.inl ⟨rfl, rfl, F3.out.below⟩
end Go.Proofs.YtcgfabnmkbiogaaDoor
