/- The document's Is, Method, Fields, as walks. -/
import Derived.Test.YtmhdcehpddbjaaaRefC
import Derived.Test.YtmhdcehpddbjaaaTabG
import Derived.Test.YtmhdcehpddbjaaaTableIsL
import Derived.Test.YtmhdcehpddbjaaaTabFields
import Derived.StillTailTactics
namespace Go.Proofs.Ytmhdcehpddbjaaa
open Go.RowKit

theorem Tb.faces_none {u : List Dk} {d : Int} (h : Tb.kind u d ≠ 2) : Tb.faces u d = [] := by
  rw [List.eq_nil_iff_forall_not_mem]
  intro x hx
  obtain ⟨c, hc, _⟩ := Tb.mem_faces.1 hx
  rw [Tb.chain_none h] at hc; cases hc
theorem Tb.is_ref {u : List Dk} {x y : ByteArray} (h : Tb.kind u (Tb.find u x) = 2 ∨ Tb.kind u (Tb.find u x) = 1) :
    Tb.is u x y = ((x.toList == y.toList) || decide (Tb.find u y ∈ Tb.chain u (Tb.find u x)) || decide (Tb.find u y ∈ Tb.faces u (Tb.find u x))) := by
  unfold Tb.is
  by_cases h2 : Tb.kind u (Tb.find u x) = 2
  · by_cases hc : Tb.find u y ∈ Tb.chain u (Tb.find u x)
    · rw [if_pos ⟨h2, Or.inl hc⟩]; simp [hc]
    · by_cases hf : Tb.find u y ∈ Tb.faces u (Tb.find u x)
      · rw [if_pos ⟨h2, Or.inr hf⟩]; simp [hf]
      · rw [if_neg (fun h' => h'.2.elim hc hf), if_pos h]; simp [hc, hf]
  · rw [if_neg (fun h' => h2 h'.1), if_pos h, Tb.chain_none h2, Tb.faces_none h2]; simp

set_option maxRecDepth 100000 in
set_option maxHeartbeats 2000000 in
theorem ris_is (u : List Dk) (a : Option Addr) (B cap : Nat) (x y : ByteArray) (r : Bool) (w : World) (hr : Tb.is u x y = r) (hu : UnitAt w B a u) (hB : B ≤ w.heap.size) :
    Calls Try.prog 45 #[.agg #[.slice a u.length cap], .string x, .string y] w fun e w' => e = .returned (.bool r) ∧ Below w.heap.size w w' := by
  have sm := hu.small
  have hb1 : Below w.heap.size w (w.alloc (.cells #[.slice a u.length cap] 24)) := (Below.refl _ _).alloc (Nat.le_refl _) _
  have P0 : Aid.Has (w.alloc (.cells #[.slice a u.length cap] 24)) w.heap.size [.slice a u.length cap] 24 := Aid.Has.new _ _ _
  have HU := Aid.hid hu
  clear hu
  obtain ⟨fx, hfx⟩ : ∃ r, Tb.find u x = r := ⟨_, rfl⟩
  obtain ⟨fy, hfy⟩ : ∃ r, Tb.find u y = r := ⟨_, rfl⟩
  obtain ⟨ch, hch⟩ : ∃ r, Tb.chain u fx = r := ⟨_, rfl⟩
  obtain ⟨fs, hfs⟩ : ∃ r, Tb.faces u fx = r := ⟨_, rfl⟩
  obtain ⟨k, hk⟩ : ∃ r, Tb.kind u fx = r := ⟨_, rfl⟩
  have IR := Tb.is_ref (u := u) (x := x) (y := y)
  rw [hfx, hfy, hch, hfs, hk, hr] at IR
  have IT := Tb.is_thing (u := u) (x := x) (y := y)
  rw [hfx, hk, hr] at IT
  have IR := Aid.hid IR; have IT := Aid.hid IT
  have lc : ch.length ≤ 1000000000 := by have := Tb.chain_len u fx; rw [hch] at this; omega
  have lf : fs.length ≤ 1000000000 := by have := (Tb.faces_at u fx).len; rw [hfs] at this; omega
  have FX := Aid.hid hfx; have FY := Aid.hid hfy; have CH := Aid.hid hch; have FS := Aid.hid hfs; have HK := Aid.hid hk
  clear hr hfx hfy hch hfs hk
  go_enter Try.func45, Try.ntmps45
  try simp only [List.append_eq, List.cons_append, List.nil_append]
  go_wp2_with fail
  obtain ⟨pb, hpb⟩ : ∃ pb, w.heap.size = pb := ⟨_, rfl⟩
  generalize (w.alloc (.cells #[.slice a u.length cap] 24)) = W at *
  rw [hpb] at P0 ⊢
  have hpl := P0.lt
  have PC := Aid.hid (P0.cell 0 _ rfl)
  have HU1 := Aid.hid (HU.out.below hb1 hB)
  have hBW : B ≤ W.heap.size := Nat.le_trans hB hb1.size
  have BW := Aid.hid hb1
  have HPB := Aid.hid hpb
  have hb : Below W.heap.size W W := Below.refl _ _
  have cp := PC.out
  clear P0 hb1 hpb
  refine (rfind_is u a B cap x fx _ FX.out (HU1.out.below hb hBW) (Nat.le_trans hBW hb.size)).mono ?_; rintro e w2 ⟨rfl, hb2⟩
  replace hb := hb.trans (hb2.mono hb.size)
  clear hb2 cp
  have cp := (hb.cell (p := ⟨pb, 0, none⟩) hpl).trans PC.out
  go_wp2_with fail
  refine (rkind_is u a B cap fx k _ HK.out (HU1.out.below hb hBW) (Nat.le_trans hBW hb.size)).mono ?_; rintro e w3 ⟨rfl, hb3⟩
  replace hb := hb.trans (hb3.mono hb.size)
  clear hb3 cp
  have cp := (hb.cell (p := ⟨pb, 0, none⟩) hpl).trans PC.out
  have key : ((k != 2) = true ∧ (k != 1) = true ∧ Hid (r = false)) ∨ (((k != 2) = false ∨ ((k != 2) = true ∧ (k != 1) = false)) ∧ Hid (r = ((x.toList == y.toList) || decide (fy ∈ ch) || decide (fy ∈ fs)))) := by
    by_cases h2 : k = 2
    · exact Or.inr ⟨Or.inl (by simp [h2]), Aid.hid (IR.out (Or.inl h2))⟩
    · by_cases h1 : k = 1
      · exact Or.inr ⟨Or.inr ⟨by simp [h2], by simp [h1]⟩, Aid.hid (IR.out (Or.inr h1))⟩
      · exact Or.inl ⟨by simp [h2], by simp [h1], Aid.hid (IT.out (by simp [h1, h2]))⟩
  clear IR IT
  rcases key with ⟨n2, n1, E⟩ | ⟨hkk, E⟩
  · go_wp2_with fail
    go_ret
    exact ⟨by rw [E.out]; rfl, BW.out.trans (hb.mono BW.out.size)⟩
  · rcases hkk with n2 | ⟨n2, n1⟩
    all_goals
      go_wp2_with fail
      refine (rfind_is u a B cap y fy _ FY.out (HU1.out.below hb hBW) (Nat.le_trans hBW hb.size)).mono ?_; rintro e w4 ⟨rfl, hb4⟩
      replace hb := hb.trans (hb4.mono hb.size)
      clear hb4 cp
      have cp := (hb.cell (p := ⟨pb, 0, none⟩) hpl).trans PC.out
      cases hxy : (x.toList == y.toList)
      · rw [hxy] at E
        obtain ⟨r1, hr1⟩ : ∃ r, decide (fy ∈ ch) = r := ⟨_, rfl⟩
        have HR1 := Aid.hid hr1
        rw [hr1] at E
        clear hr1
        go_wp2_with fail
        refine (rchain_is u a B cap fx ch _ CH.out (HU1.out.below hb hBW) (Nat.le_trans hBW hb.size)).mono ?_; rintro e w5 ⟨A5, c5, rfl, ow, hb5⟩
        replace hb := hb.trans (hb5.mono hb.size)
        clear hb5 cp
        have cp := (hb.cell (p := ⟨pb, 0, none⟩) hpl).trans PC.out
        have I5 := Aid.hid (IntsAt.of_own ow)
        clear ow
        go_wp2_with fail
        refine (rhas_is A5 c5 _ ch fy r1 _ HR1.out I5.out lc).mono ?_; rintro e w6 ⟨rfl, rfl⟩
        cases r1
        · obtain ⟨r2, hr2⟩ : ∃ r, decide (fy ∈ fs) = r := ⟨_, rfl⟩
          have HR2 := Aid.hid hr2
          rw [hr2] at E
          clear hr2
          go_wp2_with fail
          refine (rfaces_is u a B cap fx fs _ FS.out (HU1.out.below hb hBW) (Nat.le_trans hBW hb.size)).mono ?_; rintro e w7 ⟨A7, c7, rfl, ow, hb7⟩
          replace hb := hb.trans (hb7.mono hb.size)
          clear hb7 cp
          have cp := (hb.cell (p := ⟨pb, 0, none⟩) hpl).trans PC.out
          have I7 := Aid.hid (IntsAt.of_own ow)
          clear ow
          go_wp2_with fail
          refine (rhas_is A7 c7 _ fs fy r2 _ HR2.out I7.out lf).mono ?_; rintro e w8 ⟨rfl, rfl⟩
          cases r2
          all_goals
            go_wp2_with fail
            go_ret
            exact ⟨by rw [E.out]; rfl, BW.out.trans (hb.mono BW.out.size)⟩
        · have E2 : Hid (r = true) := Aid.hid (by rw [E.out]; simp)
          go_wp2_with fail
          go_ret
          exact ⟨by rw [E2.out]; rfl, BW.out.trans (hb.mono BW.out.size)⟩
      · have E2 : Hid (r = true) := Aid.hid (by rw [E.out, hxy]; simp)
        go_wp2_with fail
        go_ret
        exact ⟨by rw [E2.out]; rfl, BW.out.trans (hb.mono BW.out.size)⟩

set_option maxRecDepth 100000 in
set_option maxHeartbeats 4000000 in
theorem rmethod_is (u : List Dk) (a : Option Addr) (B cap : Nat) (d : Int) (s : ByteArray) (RD RM : Int) (RK : Bool) (w : World) (hr : Tb.method u d s = (RD, RM, RK)) (hu : UnitAt w B a u) (hB : B ≤ w.heap.size) :
    Calls Try.prog 59 #[.agg #[.slice a u.length cap], .int .i64 d, .string s] w fun e w' => e = .returned (.tuple #[.agg #[.int .i64 RD, .int .i64 RM], .bool RK]) ∧ Below w.heap.size w w' := by
  have HU := Aid.hid hu
  have sm := hu.small
  clear hu
  obtain ⟨kd, hkd⟩ : ∃ r, Tb.kind u d = r := ⟨_, rfl⟩
  obtain ⟨ch, hch⟩ : ∃ r, Tb.chain u d = r := ⟨_, rfl⟩
  have MR0 : Hid (Tb.methodIn u s (if kd = 1 then [d] else ch) = (RD, RM, RK)) := Aid.hid (by rw [← hr, Tb.method, hkd, hch])
  have KD := Aid.hid hkd; have CH := Aid.hid hch
  have lc : ch.length ≤ 1000000000 := by have := Tb.chain_len u d; rw [hch] at this; omega
  clear hkd hch hr
  have hb1 : Below w.heap.size w ((w.alloc (.cells #[.slice a u.length cap] 24)).alloc (.cells #[.int .i64 0, .int .i64 0] 26)) := ((Below.refl _ _).alloc (Nat.le_refl _) _).alloc (by simp) _
  have P0 : Aid.Has ((w.alloc (.cells #[.slice a u.length cap] 24)).alloc (.cells #[.int .i64 0, .int .i64 0] 26)) w.heap.size [.slice a u.length cap] 24 := (Aid.Has.new _ _ _).alloc _
  have P2 : Aid.Has ((w.alloc (.cells #[.slice a u.length cap] 24)).alloc (.cells #[.int .i64 0, .int .i64 0] 26)) (w.heap.size + 1) [.int .i64 0, .int .i64 0] 26 := by
    have e : (w.alloc (.cells #[.slice a u.length cap] 24)).heap.size = w.heap.size + 1 := by simp
    rw [← e]; exact Aid.Has.new _ _ _
  go_enter Try.func59, Try.ntmps59
  try simp only [List.append_eq, List.cons_append, List.nil_append]
  go_wp2_with fail
  obtain ⟨pb, hpb⟩ : ∃ pb, w.heap.size = pb := ⟨_, rfl⟩
  generalize ((w.alloc (.cells #[.slice a u.length cap] 24)).alloc (.cells #[.int .i64 0, .int .i64 0] 26)) = W at *
  rw [hpb] at P0 P2 ⊢
  have hpl := P0.lt
  have PC := Aid.hid (P0.cell 0 _ rfl)
  have PW := Aid.hid P2
  have HU1 := Aid.hid (HU.out.below hb1 hB)
  have hBW : B ≤ W.heap.size := Nat.le_trans hB hb1.size
  have BW := Aid.hid hb1
  have hb : Below W.heap.size W W := Below.refl _ _
  clear P0 P2 hb1
  refine (rchain_is u a B cap d ch _ CH.out (HU1.out.below hb hBW) (Nat.le_trans hBW hb.size)).mono ?_; rintro e w4 ⟨A, c, rfl, ow, hb4⟩
  replace hb := hb.trans (hb4.mono hb.size)
  clear hb4
  have cp := (hb.cell (p := ⟨pb, 0, none⟩) hpl).trans PC.out
  have I1 := Aid.hid (IntsAt.of_own ow)
  clear ow
  go_wp2_with fail
  refine (rkind_is u a B cap d kd _ KD.out (HU1.out.below hb hBW) (Nat.le_trans hBW hb.size)).mono ?_; rintro e w5 ⟨rfl, hb5⟩
  by_cases hk1 : kd = 1
  · subst hk1
    replace hb := (hb.trans (hb5.mono hb.size)).alloc (hb.trans (hb5.mono hb.size)).size (.cells #[.int .i64 d] 3)
    clear hb5 cp I1
    obtain ⟨zs, hzs⟩ : ∃ zs, [d] = zs := ⟨_, rfl⟩
    have MR : Hid (Tb.methodIn u s zs = (RD, RM, RK)) := Aid.hid (by have h := MR0.out; rw [← hzs]; simpa using h)
    have ZIN : Hid (∀ z ∈ zs, ∃ (i : Nat) (x : Dk), z = i ∧ u[i]? = some x ∧ i < u.length) := Aid.hid (fun z hz => by
      rw [← hzs] at hz
      obtain rfl : z = d := by simpa using hz
      obtain ⟨i, x, e, hx, _, hi⟩ := Tb.kind_in KD.out (by decide)
      exact ⟨i, x, e, hx, hi⟩)
    have IZ : Hid (IntsAt (w5.alloc (.cells #[.int .i64 d] 3)) (w5.alloc (.cells #[.int .i64 d] 3)).heap.size (some ⟨w5.heap.size, 0, none⟩) zs) := Aid.hid (by
      rw [← hzs]
      have h := Aid.Has.new w5 [.int .i64 d] 3
      refine ⟨rfl, fun _ => ⟨_, rfl, by simp, fun j u hj => ?_⟩⟩
      match j, hj with
      | 0, hj => cases hj; exact h.cell 0 _ rfl)
    have hzl : zs.length = 1 := by rw [← hzs]; rfl
    have ZL := Aid.hid hzl
    clear hzs hzl MR0
    have BT := Aid.hid (BW.out.trans (hb.mono BW.out.size))
    have HU2 := Aid.hid (HU1.out.below hb hBW)
    have hB2 := Nat.le_trans hBW hb.size
    have PC2 := Aid.hid ((hb.cell (p := ⟨pb, 0, none⟩) hpl).trans PC.out)
    have PW2 := Aid.hid (PW.out.below hb PW.out.lt)
    have hl1 := Nat.lt_of_lt_of_le hpl hb.size
    have hl3 := PW2.out.lt
    clear hb
    go_wp2_with fail
    have zl := ZL.out; generalize (some (⟨w5.heap.size, 0, none⟩ : Addr)) = AZ at *
    generalize w5.alloc (.cells #[.int .i64 d] 3) = W2 at *
    go_loopw [9] (fun vi wr => ∃ k : Nat, vi = .int .i64 k ∧ k ≤ zs.length ∧ Hid (Tb.methodIn u s (zs.drop k) = (RD, RM, RK)) ∧ Below W2.heap.size W2 wr) (fun vi _ => zs.length - (intOf vi).toNat)
    case atStart => exact ⟨0, rfl, Nat.zero_le _, Aid.hid (by simpa using MR.out), Below.refl _ _⟩
    case round =>
      obtain ⟨k, rfl, hk, MK, hb⟩ := hrel
      by_cases hlt : k < zs.length
      · obtain ⟨ad, rfl, _, hc⟩ := IntsAt.at_ (show IntsAt _ _ _ _ from Reads.below IZ.out hb) hlt
        obtain ⟨z, hz⟩ : ∃ z, zs[k]? = some z := ⟨_, List.getElem?_eq_getElem hlt⟩
        have cz := hc k z hz
        obtain ⟨i, x, rfl, hx, hil⟩ := ZIN.out z (List.mem_of_getElem? hz)
        have DR : Hid (zs.drop k = (i : Int) :: zs.drop (k + 1)) := Aid.hid (by rw [List.drop_eq_getElem_cons hlt]; congr 1; exact (List.getElem?_eq_some_iff.1 hz).2)
        have EM : Hid (Tb.msOf u i = x.ms) := Aid.hid (by unfold Tb.msOf; simp [hx])
        have cp := (hb.cell (p := ⟨pb, 0, none⟩) hl1).trans PC2.out
        have HU3 := HU2.out.below hb hB2
        have HXD := Aid.hid (HU3.decls x (List.mem_of_getElem? hx))
        obtain ⟨b, off, rfl, _, hcu⟩ := HU3.at_ (by omega)
        have cm0 := hcu i x hx 0 _ rfl
        have cm1 := hcu i x hx 1 _ rfl
        have cm2 := hcu i x hx 2 _ rfl
        have cm3 := hcu i x hx 3 _ rfl
        have cm4 := hcu i x hx 4 _ rfl
        have cm5 := hcu i x hx 5 _ rfl
        have cm6 := hcu i x hx 6 _ rfl
        have cm7 := hcu i x hx 7 _ rfl
        have cm8 := hcu i x hx 8 _ rfl
        have cm9 := hcu i x hx 9 _ rfl
        have cm10 := hcu i x hx 10 _ rfl
        simp only [Nat.add_zero] at cm0
        have HZ := Aid.hid hz
        obtain ⟨q, hq⟩ : ∃ q, Tb.mindex x.ms s = q := ⟨_, rfl⟩
        have HQ := Aid.hid hq
        clear hc hcu HU3 hz hx hq
        go_wp2_with fail
        go_still_tail 9, (by kernel_rfl)
        change wpList _ _ _ _ _ wr.drew
        replace HXD : Hid (DkAt wr.drew B x) := Aid.hid (HXD.out.below (Below.refl wr.heap.size wr).drew (Nat.le_trans hB2 hb.size))
        replace hb := hb.drew
        clear cz cp cm0 cm1 cm2 cm3 cm4 cm5 cm6 cm7 cm8 cm9 cm10
        generalize wr.drew = wt at HXD hb ⊢
        go_wp2_with fail
        refine (rown_is x B s q _ HQ.out HXD.out (Nat.le_trans hB2 hb.size)).mono ?_; rintro e w9 ⟨rfl, hb9⟩
        replace hb := hb.trans (hb9.mono hb.size)
        clear hb9
        by_cases hq0 : 0 ≤ q
        · have E : Hid ((i : Int) = RD ∧ q = RM ∧ true = RK) := Aid.hid (by
            have h := MK.out
            rw [DR.out, Tb.methodIn, EM.out, HQ.out, if_pos hq0] at h
            simpa using h)
          obtain ⟨ad', had, _, hc9⟩ := IntsAt.at_ (show IntsAt _ _ _ _ from Reads.below IZ.out hb) hlt
          obtain rfl : ad = ad' := by simpa using had
          have cz9 := hc9 k _ HZ.out
          clear hc9 had
          have hp9 := PW2.out.below hb hl3
          have cw0 := hp9.cell 0 _ rfl
          have cw1 := hp9.cell 1 _ rfl
          have cwf := hp9.frozen
          have hpl9 := hp9.lt
          have hm1 := (hp9.set 0 (.int .i64 i)).set 1 (.int .i64 q)
          have cv0 := hm1.cell 0 _ rfl
          have cv1 := hm1.cell 1 _ rfl
          obtain ⟨rfl, rfl, rfl⟩ := E.out
          go_wp2_with fail
          refine bodyPost_ret (v := .tuple #[.agg #[.int .i64 i, .int .i64 q], .bool true]) (by simp [results, Try.results59, go_sem, cv0, cv1]) rfl ⟨rfl, ?_⟩
          have FB : Below w.heap.size w ((w9.setCell ⟨pb + 1, 0, none⟩ (.int .i64 i)).setCell ⟨pb + 1, 1, none⟩ (.int .i64 q)) := ((BT.out.trans (hb.mono BT.out.size)).setCell (by simp; omega) _).setCell (by simp; omega) _
          first | exact FB | exact hpb ▸ FB
        · have NX : Hid (Tb.methodIn u s (zs.drop (k + 1)) = (RD, RM, RK)) := Aid.hid (by
            have h := MK.out
            rw [DR.out, Tb.methodIn, EM.out, HQ.out, if_neg hq0] at h
            exact h)
          have hq1 : decide (0 ≤ q) = false := by simpa using hq0
          go_wp2_with fail
          go_roundw
          case rel => exact ⟨k + 1, by go_num, by omega, NX, hb⟩
          case measure => simp [intOf]; omega
      · have E : Hid ((0 : Int) = RD ∧ (0 : Int) = RM ∧ false = RK) := Aid.hid (by
          have h := MK.out
          rw [List.drop_eq_nil_of_le (by omega), Tb.methodIn] at h
          simpa using h)
        have hp9 := PW2.out.below hb hl3
        have cw0 := hp9.cell 0 _ rfl
        have cw1 := hp9.cell 1 _ rfl
        have cwf := hp9.frozen
        have hpl9 := hp9.lt
        have hm1 := (hp9.set 0 (.int .i64 0)).set 1 (.int .i64 0)
        have cv0 := hm1.cell 0 _ rfl
        have cv1 := hm1.cell 1 _ rfl
        obtain ⟨rfl, rfl, rfl⟩ := E.out
        go_wp2_with fail
        refine bodyPost_ret (v := .tuple #[.agg #[.int .i64 0, .int .i64 0], .bool false]) (by simp [results, Try.results59, go_sem, cv0, cv1]) rfl ⟨rfl, ?_⟩
        have FB : Below w.heap.size w ((wr.setCell ⟨pb + 1, 0, none⟩ (.int .i64 0)).setCell ⟨pb + 1, 1, none⟩ (.int .i64 0)) := ((BT.out.trans (hb.mono BT.out.size)).setCell (by simp; omega) _).setCell (by simp; omega) _
        first | exact FB | exact hpb ▸ FB
  · replace hb := hb.trans (hb5.mono hb.size)
    obtain ⟨zs, hzs⟩ : ∃ zs, ch = zs := ⟨_, rfl⟩
    have MR : Hid (Tb.methodIn u s zs = (RD, RM, RK)) := Aid.hid (by have h := MR0.out; rw [← hzs]; simpa [hk1] using h)
    have ZIN : Hid (∀ z ∈ zs, ∃ (i : Nat) (x : Dk), z = i ∧ u[i]? = some x ∧ i < u.length) := Aid.hid (fun z hz => by
      rw [← hzs] at hz
      obtain ⟨i, x, e, hx, _, hi⟩ := Tb.kind_in (Tb.chain_in u d z (by rw [CH.out]; exact hz)).2.2 (by decide)
      exact ⟨i, x, e, hx, hi⟩)
    have IZ : Hid (IntsAt w5 w5.heap.size A zs) := Aid.hid (by rw [← hzs]; exact Reads.more (Reads.below I1.out hb5) hb5.size)
    have hk2 : (kd == 1) = false := by simpa using hk1
    rw [hzs] at lc ⊢
    clear hb5 cp I1 MR0 hzs
    have BT := Aid.hid (BW.out.trans (hb.mono BW.out.size))
    have HU2 := Aid.hid (HU1.out.below hb hBW)
    have hB2 := Nat.le_trans hBW hb.size
    have PC2 := Aid.hid ((hb.cell (p := ⟨pb, 0, none⟩) hpl).trans PC.out)
    have PW2 := Aid.hid (PW.out.below hb PW.out.lt)
    have hl1 := Nat.lt_of_lt_of_le hpl hb.size
    have hl3 := PW2.out.lt
    clear hb
    go_wp2_with fail
    skip
    generalize w5 = W2 at *
    go_loopw [9] (fun vi wr => ∃ k : Nat, vi = .int .i64 k ∧ k ≤ zs.length ∧ Hid (Tb.methodIn u s (zs.drop k) = (RD, RM, RK)) ∧ Below W2.heap.size W2 wr) (fun vi _ => zs.length - (intOf vi).toNat)
    case atStart => exact ⟨0, rfl, Nat.zero_le _, Aid.hid (by simpa using MR.out), Below.refl _ _⟩
    case round =>
      obtain ⟨k, rfl, hk, MK, hb⟩ := hrel
      by_cases hlt : k < zs.length
      · obtain ⟨ad, rfl, _, hc⟩ := IntsAt.at_ (show IntsAt _ _ _ _ from Reads.below IZ.out hb) hlt
        obtain ⟨z, hz⟩ : ∃ z, zs[k]? = some z := ⟨_, List.getElem?_eq_getElem hlt⟩
        have cz := hc k z hz
        obtain ⟨i, x, rfl, hx, hil⟩ := ZIN.out z (List.mem_of_getElem? hz)
        have DR : Hid (zs.drop k = (i : Int) :: zs.drop (k + 1)) := Aid.hid (by rw [List.drop_eq_getElem_cons hlt]; congr 1; exact (List.getElem?_eq_some_iff.1 hz).2)
        have EM : Hid (Tb.msOf u i = x.ms) := Aid.hid (by unfold Tb.msOf; simp [hx])
        have cp := (hb.cell (p := ⟨pb, 0, none⟩) hl1).trans PC2.out
        have HU3 := HU2.out.below hb hB2
        have HXD := Aid.hid (HU3.decls x (List.mem_of_getElem? hx))
        obtain ⟨b, off, rfl, _, hcu⟩ := HU3.at_ (by omega)
        have cm0 := hcu i x hx 0 _ rfl
        have cm1 := hcu i x hx 1 _ rfl
        have cm2 := hcu i x hx 2 _ rfl
        have cm3 := hcu i x hx 3 _ rfl
        have cm4 := hcu i x hx 4 _ rfl
        have cm5 := hcu i x hx 5 _ rfl
        have cm6 := hcu i x hx 6 _ rfl
        have cm7 := hcu i x hx 7 _ rfl
        have cm8 := hcu i x hx 8 _ rfl
        have cm9 := hcu i x hx 9 _ rfl
        have cm10 := hcu i x hx 10 _ rfl
        simp only [Nat.add_zero] at cm0
        have HZ := Aid.hid hz
        obtain ⟨q, hq⟩ : ∃ q, Tb.mindex x.ms s = q := ⟨_, rfl⟩
        have HQ := Aid.hid hq
        clear hc hcu HU3 hz hx hq
        go_wp2_with fail
        go_still_tail 9, (by kernel_rfl)
        change wpList _ _ _ _ _ wr.drew
        replace HXD : Hid (DkAt wr.drew B x) := Aid.hid (HXD.out.below (Below.refl wr.heap.size wr).drew (Nat.le_trans hB2 hb.size))
        replace hb := hb.drew
        clear cz cp cm0 cm1 cm2 cm3 cm4 cm5 cm6 cm7 cm8 cm9 cm10
        generalize wr.drew = wt at HXD hb ⊢
        go_wp2_with fail
        refine (rown_is x B s q _ HQ.out HXD.out (Nat.le_trans hB2 hb.size)).mono ?_; rintro e w9 ⟨rfl, hb9⟩
        replace hb := hb.trans (hb9.mono hb.size)
        clear hb9
        by_cases hq0 : 0 ≤ q
        · have E : Hid ((i : Int) = RD ∧ q = RM ∧ true = RK) := Aid.hid (by
            have h := MK.out
            rw [DR.out, Tb.methodIn, EM.out, HQ.out, if_pos hq0] at h
            simpa using h)
          obtain ⟨ad', had, _, hc9⟩ := IntsAt.at_ (show IntsAt _ _ _ _ from Reads.below IZ.out hb) hlt
          obtain rfl : ad = ad' := by simpa using had
          have cz9 := hc9 k _ HZ.out
          clear hc9 had
          have hp9 := PW2.out.below hb hl3
          have cw0 := hp9.cell 0 _ rfl
          have cw1 := hp9.cell 1 _ rfl
          have cwf := hp9.frozen
          have hpl9 := hp9.lt
          have hm1 := (hp9.set 0 (.int .i64 i)).set 1 (.int .i64 q)
          have cv0 := hm1.cell 0 _ rfl
          have cv1 := hm1.cell 1 _ rfl
          obtain ⟨rfl, rfl, rfl⟩ := E.out
          go_wp2_with fail
          refine bodyPost_ret (v := .tuple #[.agg #[.int .i64 i, .int .i64 q], .bool true]) (by simp [results, Try.results59, go_sem, cv0, cv1]) rfl ⟨rfl, ?_⟩
          have FB : Below w.heap.size w ((w9.setCell ⟨pb + 1, 0, none⟩ (.int .i64 i)).setCell ⟨pb + 1, 1, none⟩ (.int .i64 q)) := ((BT.out.trans (hb.mono BT.out.size)).setCell (by simp; omega) _).setCell (by simp; omega) _
          first | exact FB | exact hpb ▸ FB
        · have NX : Hid (Tb.methodIn u s (zs.drop (k + 1)) = (RD, RM, RK)) := Aid.hid (by
            have h := MK.out
            rw [DR.out, Tb.methodIn, EM.out, HQ.out, if_neg hq0] at h
            exact h)
          have hq1 : decide (0 ≤ q) = false := by simpa using hq0
          go_wp2_with fail
          go_roundw
          case rel => exact ⟨k + 1, by go_num, by omega, NX, hb⟩
          case measure => simp [intOf]; omega
      · have E : Hid ((0 : Int) = RD ∧ (0 : Int) = RM ∧ false = RK) := Aid.hid (by
          have h := MK.out
          rw [List.drop_eq_nil_of_le (by omega), Tb.methodIn] at h
          simpa using h)
        have hp9 := PW2.out.below hb hl3
        have cw0 := hp9.cell 0 _ rfl
        have cw1 := hp9.cell 1 _ rfl
        have cwf := hp9.frozen
        have hpl9 := hp9.lt
        have hm1 := (hp9.set 0 (.int .i64 0)).set 1 (.int .i64 0)
        have cv0 := hm1.cell 0 _ rfl
        have cv1 := hm1.cell 1 _ rfl
        obtain ⟨rfl, rfl, rfl⟩ := E.out
        go_wp2_with fail
        refine bodyPost_ret (v := .tuple #[.agg #[.int .i64 0, .int .i64 0], .bool false]) (by simp [results, Try.results59, go_sem, cv0, cv1]) rfl ⟨rfl, ?_⟩
        have FB : Below w.heap.size w ((wr.setCell ⟨pb + 1, 0, none⟩ (.int .i64 0)).setCell ⟨pb + 1, 1, none⟩ (.int .i64 0)) := ((BT.out.trans (hb.mono BT.out.size)).setCell (by simp; omega) _).setCell (by simp; omega) _
        first | exact FB | exact hpb ▸ FB

theorem Tb.fields_ref (u : List Dk) (d : Int) (h : Tb.kind u d ≠ 3) : Tb.fields u d = ((Tb.chain u d).reverse.map (Tb.varsOf u)).flatten := by
  unfold Tb.fields
  by_cases h2 : Tb.kind u d = 2
  · rw [if_pos h2]
  · rw [if_neg h2, if_neg h, Tb.chain_none h2]; rfl
def backFrom (u : List Dk) (ch : List Int) (k : Nat) : List Vd := ((ch.drop k).reverse.map (Tb.varsOf u)).flatten
theorem backFrom_step (u : List Dk) (ch : List Int) (k : Nat) (z : Int) (h : ch[k]? = some z) : backFrom u ch k = backFrom u ch (k + 1) ++ Tb.varsOf u z := by
  obtain ⟨hk, hz⟩ := List.getElem?_eq_some_iff.1 h
  unfold backFrom
  rw [List.drop_eq_getElem_cons hk, hz]; simp
theorem backFrom_len (u : List Dk) (ch : List Int) (k M : Nat) (hM : ∀ x ∈ u, x.vs.length ≤ M) : (backFrom u ch k).length ≤ (ch.length - k) * M := by
  refine Nat.le_trans (Tb.flat_len _ M _ fun c _ => Tb.varsOf_len hM c) ?_
  simp

set_option maxRecDepth 100000 in
set_option maxHeartbeats 4000000 in
theorem rfields_is (u : List Dk) (a : Option Addr) (B cap : Nat) (d : Int) (zs : List Vd) (w : World) (hz : Tb.fields u d = zs) (hu : UnitAt w B a u) (hB : B ≤ w.heap.size) (hn : u.length ≤ 20) (hM : ∀ x ∈ u, x.vs.length ≤ 1048576) :
    Calls Try.prog 43 #[.agg #[.slice a u.length cap], .int .i64 d] w fun e w' => ∃ A c, e = .returned (.slice A zs.length c) ∧
      w'.ownsRow w.heap.size 74 8 (.slice A zs.length c) zs.length (VC zs) ∧ Below w.heap.size w w' := by
  obtain ⟨i0, hi, hz0, hz1, hz2⟩ := info_parts info_var
  have HM := Aid.hid hM
  have HF := Aid.hid hz
  clear hM hz
  have sm := hu.small
  have hb1 : Below w.heap.size w (w.alloc (.cells #[.slice a u.length cap] 24)) := (Below.refl _ _).alloc (Nat.le_refl _) _
  have P0 : Aid.Has (w.alloc (.cells #[.slice a u.length cap] 24)) w.heap.size [.slice a u.length cap] 24 := Aid.Has.new _ _ _
  have HU := Aid.hid hu
  clear hu
  obtain ⟨k, hk⟩ : ∃ r, Tb.kind u d = r := ⟨_, rfl⟩
  have HK := Aid.hid hk
  clear hk
  go_enter Try.func43, Try.ntmps43
  try simp only [List.append_eq, List.cons_append, List.nil_append]
  go_wp2_with fail
  obtain ⟨pb, hpb⟩ : ∃ pb, w.heap.size = pb := ⟨_, rfl⟩
  generalize (w.alloc (.cells #[.slice a u.length cap] 24)) = W at *
  rw [hpb] at P0 ⊢
  have hpl := P0.lt
  have PC := Aid.hid (P0.cell 0 _ rfl)
  have HU1 := Aid.hid (HU.out.below hb1 hB)
  have hBW : B ≤ W.heap.size := Nat.le_trans hB hb1.size
  have BW := Aid.hid hb1
  have HPB := Aid.hid hpb
  have hb : Below W.heap.size W W := Below.refl _ _
  have cp := PC.out
  clear P0 hb1 hpb
  refine (rkind_is u a B cap d k _ HK.out (HU1.out.below hb hBW) (Nat.le_trans hBW hb.size)).mono ?_; rintro e w2 ⟨rfl, hb2⟩
  replace hb := hb.trans (hb2.mono hb.size)
  clear hb2 cp
  have cp := (hb.cell (p := ⟨pb, 0, none⟩) hpl).trans PC.out
  by_cases hk3 : k = 3
  · subst hk3
    obtain ⟨i, dx, rfl, hdx, _, hil⟩ := Tb.kind_in HK.out (by decide)
    have hmem := List.mem_of_getElem? hdx
    have hux := HU1.out.below hb hBW
    have MV := HM.out dx hmem
    have RV : Reads w2 B 8 dx.vA dx.vs.length (VC dx.vs) := by
      have h := Rows.reads (Vd.len _) (hux.decls dx hmem).vars
      rwa [List.length_map] at h
    have FE : Hid (dx.vs = zs) := Aid.hid (by rw [← HF.out]; unfold Tb.fields; rw [HK.out, Tb.varsOf_at hdx]; rfl)
    obtain ⟨b, off, rfl, _, hcu⟩ := hux.at_ (by omega)
    have cvs := hcu i dx hdx 6 _ rfl
    clear hcu hux hdx hmem
    have hwb : w.heap.size ≤ w2.heap.size := Nat.le_trans BW.out.size hb.size
    go_wp2_with (at_builtin; refine wpList_append_any _ rfl _ _ 39 rfl w.heap.size 74 i0 (.agg #[.string ⟨#[]⟩, .int .i64 0, .int .i64 0, .int .i64 0, .string ⟨#[]⟩, .int .i64 0, .int .i64 0, .int .i64 0]) 8 80 Try.underlying39 hi hz0 hz1 hz2 rfl (by decide) _ _ _ rfl (World.ownsRow_nil _ _ _ _) B dx.vA dx.vs.length dx.vc _ rfl RV (Vd.one (l := dx.vs)) ?c1 ?c2 hwb ?_)
    case c1 => unfold maxLen; omega
    case c2 => omega
    · intro v' w5 hown' hgrow _
      (try simp only [Nat.zero_add, List.nil_append] at hown')
      obtain ⟨A5, c5, rfl⟩ := own_slice hown'
      have hb5 := (BW.out.trans (hb.mono BW.out.size)).grown hgrow hwb (fun q hq => by simp [Value.ownBlock] at hq)
      have HO := Aid.hid hown'
      rw [FE.out] at HO ⊢
      clear hown' hgrow
      go_wp2_with fail
      go_ret
      exact ⟨A5, c5, rfl, by rw [HPB.out] at HO; rw [HPB.out]; exact HO.out, hb5⟩
  · have k3 : (k == 3) = false := by simpa using hk3
    obtain ⟨ch, hch⟩ : ∃ r, Tb.chain u d = r := ⟨_, rfl⟩
    have CH := Aid.hid hch
    have lc : ch.length ≤ u.length := by have := Tb.chain_len u d; rw [hch] at this; exact this
    have HIN : Hid (∀ c ∈ ch, Tb.kind u c = 2) := Aid.hid (fun c hc => (Tb.chain_in u d c (by rw [hch]; exact hc)).2.2)
    have FE : Hid (backFrom u ch 0 = zs) := Aid.hid (by rw [← HF.out, Tb.fields_ref u d (by rw [HK.out]; exact hk3), hch]; rfl)
    clear hch
    go_wp2_with fail
    refine (rchain_is u a B cap d ch _ CH.out (HU1.out.below hb hBW) (Nat.le_trans hBW hb.size)).mono ?_; rintro e w3 ⟨A3, c3, rfl, ow, hb3⟩
    replace hb := hb.trans (hb3.mono hb.size)
    clear hb3 cp
    have cp := (hb.cell (p := ⟨pb, 0, none⟩) hpl).trans PC.out
    have I3 := Aid.hid (IntsAt.of_own ow)
    clear ow
    have lc2 : ch.length ≤ 1000000000 := by omega
    clear cp
    go_wp2_with fail
    have e0 : backFrom u ch ch.length = [] := by simp [backFrom]
    go_loopw [5, 7] (fun vl vi wr => ∃ (k : Nat) (A' : Option Addr) (c' : Nat), k ≤ ch.length ∧ vi = .int .i64 ((k : Int) - 1) ∧ vl = .slice A' (backFrom u ch k).length c' ∧
      Hid (wr.ownsRow w3.heap.size 74 8 (.slice A' (backFrom u ch k).length c') (backFrom u ch k).length (VC (backFrom u ch k))) ∧ Below w3.heap.size w3 wr) (fun _ vi _ => (intOf vi + 1).toNat)
    case atStart => exact ⟨ch.length, none, 0, Nat.le_refl _, by first | rfl | go_num, by rw [e0]; rfl, Aid.hid (by rw [e0]; exact World.ownsRow_nil _ _ _ _), Below.refl _ _⟩
    case round =>
      obtain ⟨k, A', c', hk, rfl, rfl, O, hbr⟩ := hrel
      rcases k with _ | k
      · have t0 : decide ((0 : Int) ≤ ((0 : Nat) : Int) - 1) = false := by decide
        have HB3 := hb.size
        have HBW := Aid.hid BW.out.size
        have FB : Below w.heap.size w wr := (BW.out.trans (hb.mono BW.out.size)).trans (hbr.mono (Nat.le_trans BW.out.size hb.size))
        rw [FE.out] at O ⊢
        have OL := Aid.hid (own_lowers O.out (Nat.le_trans BW.out.size hb.size))
        have HF := Aid.hid FB
        clear FB O
        go_wp2_with fail
        go_ret
        exact ⟨A', c', rfl, by first | exact OL.out | (rw [HPB.out] at OL; rw [HPB.out]; exact OL.out), HF.out⟩
      · have e1 : (((k + 1 : Nat) : Int) - 1) = (k : Int) := by omega
        rw [e1]
        have t0 : decide ((0 : Int) ≤ (k : Int)) = true := by simp
        have hlt : k < ch.length := by omega
        obtain ⟨z, hz⟩ : ∃ z, ch[k]? = some z := ⟨_, List.getElem?_eq_getElem hlt⟩
        obtain ⟨ad, rfl, _, hc⟩ := IntsAt.at_ (show IntsAt _ _ _ _ from Reads.below I3.out hbr) hlt
        have cz := hc k z hz
        obtain ⟨i, dx, rfl, hdx, _, hil⟩ := Tb.kind_in (HIN.out z (List.mem_of_getElem? hz)) (by decide)
        have BS : Hid (backFrom u ch k = backFrom u ch (k + 1) ++ dx.vs) := Aid.hid (by rw [backFrom_step u ch k _ hz, Tb.varsOf_at hdx])
        have hmem := List.mem_of_getElem? hdx
        have hbw := hb.trans (hbr.mono hb.size)
        have hux := HU1.out.below hbw hBW
        have MV := HM.out dx hmem
        have RV : Reads wr.drew B 8 dx.vA dx.vs.length (VC dx.vs) := by
          have h := Rows.reads (Vd.len _) (hux.decls dx hmem).vars
          rwa [List.length_map] at h
        have LB := backFrom_len u ch (k + 1) 1048576 HM.out
        have b0 : (backFrom u ch (k + 1)).length ≤ 30000000 := by
          have : (ch.length - (k + 1)) * 1048576 ≤ 20 * 1048576 := Nat.mul_le_mul_right _ (by omega)
          omega
        have b1 : (backFrom u ch (k + 1)).length + dx.vs.length ≤ maxLen := by unfold maxLen; omega
        have b2 : ((backFrom u ch (k + 1)).length + dx.vs.length) * 80 ≤ 140737488355328 := by omega
        have b3 : w3.heap.size ≤ wr.drew.heap.size := hbr.size
        have cp := (hbw.cell (p := ⟨pb, 0, none⟩) hpl).trans PC.out
        obtain ⟨b, off, rfl, _, hcu⟩ := hux.at_ (by omega)
        have cvs := hcu i dx hdx 6 _ rfl
        have O2 : wr.drew.ownsRow w3.heap.size 74 8 (.slice A' (backFrom u ch (k + 1)).length c') (backFrom u ch (k + 1)).length (VC (backFrom u ch (k + 1))) := O.out
        have hbr2 := hbr.drew
        clear hc hcu hux hdx hmem LB hz hbw O hbr
        go_wp2_with fail
        go_still_tail 10, (by kernel_rfl)
        change wpList _ _ _ _ _ wr.drew
        clear cz cp cvs
        generalize wr.drew = wt at O2 hbr2 RV b3 ⊢
        go_wp2_with (at_builtin; refine wpList_append_any _ rfl _ _ 39 rfl w3.heap.size 74 i0 (.agg #[.string ⟨#[]⟩, .int .i64 0, .int .i64 0, .int .i64 0, .string ⟨#[]⟩, .int .i64 0, .int .i64 0, .int .i64 0]) 8 80 Try.underlying39 hi hz0 hz1 hz2 rfl (by decide) _ _ _ rfl O2 B dx.vA dx.vs.length dx.vc _ rfl RV (Vd.one (l := dx.vs)) b1 b2 b3 ?_)
        intro v' w5 hown' hgrow _
        obtain ⟨A5, c5, rfl⟩ := own_slice hown'
        have hb5 := hbr2.grown hgrow b3 (fun q hq => (O2.lt q hq).1)
        have O5 : Hid (w5.ownsRow w3.heap.size 74 8 (.slice A5 (backFrom u ch k).length c5) (backFrom u ch k).length (VC (backFrom u ch k))) := Aid.hid (by rw [BS.out, List.length_append, VC_append]; exact hown')
        have E5 : Hid ((backFrom u ch (k + 1)).length + dx.vs.length = (backFrom u ch k).length) := Aid.hid (by rw [BS.out, List.length_append])
        clear hown' hgrow O2 hbr2
        go_wp2_with fail
        go_roundw
        case rel => exact ⟨k, A5, c5, by omega, by first | rfl | go_num, by rw [E5.out], O5, hb5⟩
        case measure => simp [intOf]
end Go.Proofs.Ytmhdcehpddbjaaa
