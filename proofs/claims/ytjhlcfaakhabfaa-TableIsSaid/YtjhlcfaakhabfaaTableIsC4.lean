/- The law TableIs, case 4. -/
import Derived.Test.YtjhlcfaakhabfaaTableIsA
namespace Go.Proofs.Ytjhlcfaakhabfaa
open Go.RowKit

set_option maxRecDepth 100000 in
set_option maxHeartbeats 4000000 in
theorem tableIs_c4 (u : List Dk) (a : Option Addr) (cap : Nat) (i j k : Int) (w : World) (hu : UnitAt w w.heap.size a u) (hn : u.length ≤ 16) (h0 : 0 < u.length) (ni nj nk nd : Nat) (di dj dk dd : Dk) (I : IsAt u i j k ni nj nk nd di dj dk dd) (k2 : (dd.kind == 2) = false) (k1 : (dd.kind == 1) = false) (IS : Hid (Tb.is u di.name di.name = false)) (RAB : Hid (Tb.is u di.name dj.name = false)) :
    Calls Try.prog 3 #[.agg #[.slice a u.length cap], .int .i64 i, .int .i64 j, .int .i64 k] w fun e w' => e = .returned (.bool true) ∧ Below w.heap.size w w' := by
  have HB1 : Hid (Below w.heap.size w (w.alloc (.cells #[.slice a u.length cap] 24))) := Aid.hid ((Below.refl _ _).alloc (Nat.le_refl _) _)
  have P0 := Aid.hid (Aid.Has.new w [.slice a u.length cap] 24)
  have HU := Aid.hid hu
  have hul := h0
  have hz : ((u.length : Int) == 0) = false := by simpa using (by omega : ¬ (u.length : Int) = 0)
  obtain ⟨LI, LJ, LK, DI, DJ, DK, DD, ND, li, lj, lk, ld⟩ := I
  replace LI := Aid.hid LI; replace LJ := Aid.hid LJ; replace LK := Aid.hid LK
  replace DI := Aid.hid DI; replace DJ := Aid.hid DJ; replace DK := Aid.hid DK; replace DD := Aid.hid DD; replace ND := Aid.hid ND
  obtain ⟨ch, hch⟩ : ∃ ch, Tb.chain u nd = ch := ⟨_, rfl⟩
  have CH := Aid.hid hch
  obtain ⟨fs, hfs⟩ : ∃ fs, Tb.faces u nd = fs := ⟨_, rfl⟩
  have FS := Aid.hid hfs
  have lc : ch.length ≤ 1000000000 := by have := Tb.chain_len u nd; rw [hch] at this; omega
  have lf : fs.length ≤ 1000000000 := by have := (Tb.faces_at u nd).len; rw [hfs] at this; omega
  clear hch hfs hu
  go_enter Try.func3, Try.ntmps3
  try simp only [List.append_eq, List.cons_append, List.nil_append]
  go_wp2_with fail
  obtain ⟨pb, hpb⟩ : ∃ pb, w.heap.size = pb := ⟨_, rfl⟩
  have HPB := Aid.hid hpb
  rw [hpb] at P0 ⊢
  clear hpb
  generalize w.alloc (.cells #[.slice a u.length cap] 24) = W at *
  have hpl := P0.out.lt
  have hu1 := HU.out.below HB1.out (Nat.le_refl _)
  refine (greatUnit_is u a w.heap.size cap W hu1 HB1.out.size hn).mono ?_; rintro e w2 ⟨r, rfl, hb2⟩
  have HB2 := Aid.hid hb2
  have p0 := (P0.out.below hb2 hpl).cell 0 _ rfl
  have hp2 : pb < w2.heap.size := Nat.lt_of_lt_of_le hpl hb2.size
  clear hb2 hu1
  cases r
  · go_wp2_with fail
    obtain ⟨b, off, rfl, hbB, hc⟩ := ((HU.out.below HB1.out (Nat.le_refl _)).below HB2.out HB1.out.size).at_ h0
    have ci := hc ni di DI.out 1 _ rfl
    have cj := hc nj dj DJ.out 1 _ rfl
    have ck := hc nk dk DK.out 1 _ rfl
    clear hc
    have QI := low_q i u.length ni LI.out (by omega) (by omega) w2
    have QJ := low_q j u.length nj LJ.out (by omega) (by omega) w2
    have QK := low_q k u.length nk LK.out (by omega) (by omega) w2
    go_quiet (first | (go_at_call 10; with_reducible refine QI _) | (go_at_call 10; with_reducible refine QJ _) | (go_at_call 10; with_reducible refine QK _))
    clear QI QJ QK ci cj ck
    have HB3 : Hid (Below W.heap.size W (w2.drewN nq)) := Aid.hid (below_drewN_k HB2.out nq)
    clear p0 hp2 HB2
    generalize w2.drewN nq = w3 at HB3 ⊢
    have p0 := (P0.out.below HB3.out hpl).cell 0 _ rfl
    have hp3 : pb < w3.heap.size := Nat.lt_of_lt_of_le hpl HB3.out.size
    have hu3 := (HU.out.below HB1.out (Nat.le_refl _)).below HB3.out HB1.out.size
    go_wp2_with fail
    refine (find_is u _ w.heap.size cap di.name nd w3 ND.out hu3 (Nat.le_trans HB1.out.size HB3.out.size)).mono ?_; rintro e w4 ⟨rfl, hb4⟩
    have HB4 := Aid.hid (HB3.out.trans (hb4.mono HB3.out.size))
    clear hb4 p0 hp3 hu3 HB3
    have p0 := (P0.out.below HB4.out hpl).cell 0 _ rfl
    have hp4 : pb < w4.heap.size := Nat.lt_of_lt_of_le hpl HB4.out.size
    have hu4 := (HU.out.below HB1.out (Nat.le_refl _)).below HB4.out HB1.out.size
    obtain ⟨b', off', hbe, _, hc⟩ := hu4.at_ h0
    obtain ⟨rfl, rfl⟩ : b = b' ∧ off = off' := by simpa using hbe
    have cd := hc nd dd DD.out 0 _ rfl
    simp only [Nat.add_zero] at cd
    clear hc hbe
    have n1 : decide ((nd : Int) < 0) = false := decide_eq_false (by omega)
    have n2 : decide ((u.length : Int) ≤ (nd : Int)) = false := decide_eq_false (by omega)
    go_wp2_with fail
    refine (is_is u _ w.heap.size cap di.name di.name _ w4 IS.out hu4 (Nat.le_trans HB1.out.size HB4.out.size)).mono ?_; rintro e w5 ⟨rfl, hb5⟩
    have HB5 := Aid.hid (HB4.out.trans (hb5.mono HB4.out.size))
    clear hb5 p0 hp4 hu4 HB4 cd
    have p0 := (P0.out.below HB5.out hpl).cell 0 _ rfl
    have hp5 : pb < w5.heap.size := Nat.lt_of_lt_of_le hpl HB5.out.size
    have hu5 := (HU.out.below HB1.out (Nat.le_refl _)).below HB5.out HB1.out.size
    go_wp2_with fail
    refine (is_is u _ w.heap.size cap di.name dj.name _ w5 RAB.out hu5 (Nat.le_trans HB1.out.size HB5.out.size)).mono ?_; rintro e w6 ⟨rfl, hb6⟩
    have HB6 := Aid.hid (HB5.out.trans (hb6.mono HB5.out.size))
    clear hb6 p0 hp5 hu5 HB5
    have p0 := (P0.out.below HB6.out hpl).cell 0 _ rfl
    have hp6 : pb < w6.heap.size := Nat.lt_of_lt_of_le hpl HB6.out.size
    have hu6 := (HU.out.below HB1.out (Nat.le_refl _)).below HB6.out HB1.out.size

    go_wp2_with fail
    refine (chain_is u _ w.heap.size cap nd ch w6 CH.out hu6 (Nat.le_trans HB1.out.size HB6.out.size)).mono ?_; rintro e w7 ⟨A7, c7, rfl, hO7, hb7⟩
    have HB7 := Aid.hid (HB6.out.trans (hb7.mono HB6.out.size))
    have O7 := Aid.hid (IntsAt.of_own hO7)
    clear hb7 hO7 p0 hp6 hu6 HB6
    have PC := Aid.hid (P0.out.cell 0 _ rfl)
    go_wp2_with fail

    go_loopw [16] (fun vi wr => ∃ q : Nat, vi = .int .i64 q ∧ q ≤ ch.length ∧ Hid (Below w7.heap.size w7 wr)) (fun vi _ => ch.length - (intOf vi).toNat)
    case atStart => exact ⟨0, rfl, Nat.zero_le _, Aid.hid (Below.refl _ _)⟩
    case round =>
      obtain ⟨q, rfl, hq, HR⟩ := hrel
      by_cases hlt : q < ch.length
      · obtain ⟨ad, rfl, _, hc⟩ := IntsAt.at_ (show IntsAt _ _ _ _ from Reads.below O7.out HR.out) hlt
        obtain ⟨z, hz⟩ : ∃ z, ch[q]? = some z := ⟨_, List.getElem?_eq_getElem hlt⟩
        have cz := hc q z hz
        have ME : z ∈ ch := List.mem_of_getElem? hz
        obtain ⟨x, dx, rfl, hx, hxk, hxl⟩ := Tb.kind_in ((Tb.chain_in u nd z (by rw [CH.out]; exact ME)).2.2) (by decide)
        have XY : Hid (Tb.is u di.name dx.name = true) := Aid.hid (Tb.is_chain (by rw [ND.out]; rw [CH.out]; exact ME) hx)
        have cp := ((HB7.out.trans (HR.out.mono HB7.out.size)).cell (p := ⟨pb, 0, none⟩) hpl).trans PC.out
        have hux := (HU.out.below HB1.out (Nat.le_refl _)).below (HB7.out.trans (HR.out.mono HB7.out.size)) HB1.out.size
        obtain ⟨b', off', hbe, _, hcu⟩ := hux.at_ h0
        obtain ⟨rfl, rfl⟩ : b = b' ∧ off = off' := by simpa using hbe
        have cd := hcu x dx hx 0 _ rfl
        have cn := hcu x dx hx 1 _ rfl
        simp only [Nat.add_zero] at cd
        rw [hxk] at cd
        have n3 : decide ((x : Int) < 0) = false := decide_eq_false (by omega)
        have n4 : decide ((u.length : Int) ≤ (x : Int)) = false := decide_eq_false (by omega)
        clear hc hcu hbe hz hx hxk ME
        go_wp2_with fail
        go_still_tail 37, (by kernel_rfl)
        change wpList _ _ _ _ _ wr.drew
        have HR2 := Aid.hid HR.out.drew
        clear HR cp hux cd cn cz
        generalize wr.drew = wt at HR2 ⊢
        go_wp2_with fail
        refine (is_is u _ w.heap.size cap di.name dx.name _ wt XY.out ((HU.out.below HB1.out (Nat.le_refl _)).below (HB7.out.trans (HR2.out.mono HB7.out.size)) HB1.out.size) (Nat.le_trans HB1.out.size (HB7.out.trans (HR2.out.mono HB7.out.size)).size)).mono ?_; rintro e we ⟨rfl, hbe⟩
        have HR3 := Aid.hid (HR2.out.trans (hbe.mono HR2.out.size))
        clear hbe HR2 n3 n4
        go_wp2_with fail
        go_roundw
        case rel => exact ⟨q + 1, by go_num, by omega, HR3⟩
        case measure => simp [intOf]; omega
      · have HBE := Aid.hid (HB7.out.trans (HR.out.mono HB7.out.size))
        clear HR
        generalize wr = w8 at HBE ⊢
        have HB8 := HBE
        clear HBE
        have p0 := (P0.out.below HB8.out hpl).cell 0 _ rfl
        have hu8 := (HU.out.below HB1.out (Nat.le_refl _)).below HB8.out HB1.out.size
        go_wp2_with fail
        refine (faces_is u _ w.heap.size cap nd fs w8 FS.out hu8 (Nat.le_trans HB1.out.size HB8.out.size)).mono ?_; rintro e w9 ⟨A9, c9, rfl, hO9, hb9⟩
        have HB9 := Aid.hid (HB8.out.trans (hb9.mono HB8.out.size))
        have O9 := Aid.hid (IntsAt.of_own hO9)
        clear hb9 hO9 p0 hu8 HB8 O7 HB7
        go_wp2_with fail
        go_loopw [18] (fun vi wr => ∃ q : Nat, vi = .int .i64 q ∧ q ≤ fs.length ∧ Hid (Below w9.heap.size w9 wr)) (fun vi _ => fs.length - (intOf vi).toNat)
        case atStart => exact ⟨0, rfl, Nat.zero_le _, Aid.hid (Below.refl _ _)⟩
        case round =>
          obtain ⟨q, rfl, hq, HR⟩ := hrel
          by_cases hlt : q < fs.length
          · obtain ⟨ad, rfl, _, hc⟩ := IntsAt.at_ (show IntsAt _ _ _ _ from Reads.below O9.out HR.out) hlt
            obtain ⟨z, hz⟩ : ∃ z, fs[q]? = some z := ⟨_, List.getElem?_eq_getElem hlt⟩
            have cz := hc q z hz
            have ME : z ∈ fs := List.mem_of_getElem? hz
            obtain ⟨x, dx, rfl, hx, hxk, hxl⟩ := Tb.kind_in (((Tb.faces_at u nd).inn z (by rw [FS.out]; exact ME)).2.2) (by decide)
            have XY : Hid (Tb.is u di.name dx.name = true) := Aid.hid (Tb.is_face (by rw [ND.out]; rw [FS.out]; exact ME) hx)
            have cp := ((HB9.out.trans (HR.out.mono HB9.out.size)).cell (p := ⟨pb, 0, none⟩) hpl).trans PC.out
            have hux := (HU.out.below HB1.out (Nat.le_refl _)).below (HB9.out.trans (HR.out.mono HB9.out.size)) HB1.out.size
            obtain ⟨b', off', hbe, _, hcu⟩ := hux.at_ h0
            obtain ⟨rfl, rfl⟩ : b = b' ∧ off = off' := by simpa using hbe
            have cd := hcu x dx hx 0 _ rfl
            have cn := hcu x dx hx 1 _ rfl
            simp only [Nat.add_zero] at cd
            rw [hxk] at cd
            have n3 : decide ((x : Int) < 0) = false := decide_eq_false (by omega)
            have n4 : decide ((u.length : Int) ≤ (x : Int)) = false := decide_eq_false (by omega)
            clear hc hcu hbe hz hx hxk ME
            go_wp2_with fail
            go_still_tail 37, (by kernel_rfl)
            change wpList _ _ _ _ _ wr.drew
            have HR2 := Aid.hid HR.out.drew
            clear HR cp hux cd cn cz
            generalize wr.drew = wt at HR2 ⊢
            go_wp2_with fail
            refine (is_is u _ w.heap.size cap di.name dx.name _ wt XY.out ((HU.out.below HB1.out (Nat.le_refl _)).below (HB9.out.trans (HR2.out.mono HB9.out.size)) HB1.out.size) (Nat.le_trans HB1.out.size (HB9.out.trans (HR2.out.mono HB9.out.size)).size)).mono ?_; rintro e we ⟨rfl, hbe⟩
            have HR3 := Aid.hid (HR2.out.trans (hbe.mono HR2.out.size))
            clear hbe HR2 n3 n4
            go_wp2_with fail
            go_roundw
            case rel => exact ⟨q + 1, by go_num, by omega, HR3⟩
            case measure => simp [intOf]; omega
          · have HBE := Aid.hid (HB9.out.trans (HR.out.mono HB9.out.size))
            clear HR
            generalize wr = w10 at HBE ⊢
            have HB10 := HBE
            clear HBE

            have p0 := (P0.out.below HB10.out hpl).cell 0 _ rfl
            have hu10 := (HU.out.below HB1.out (Nat.le_refl _)).below HB10.out HB1.out.size
            go_wp2_with fail

            refine (is_is u _ w.heap.size cap di.name dj.name false w10 RAB.out hu10 (Nat.le_trans HB1.out.size HB10.out.size)).mono ?_; rintro e w11 ⟨rfl, hb11⟩
            have HB11 := Aid.hid (HB10.out.trans (hb11.mono HB10.out.size))
            clear hb11 p0 hu10 HB10

            have p0 := (P0.out.below HB11.out hpl).cell 0 _ rfl
            have hu11 := (HU.out.below HB1.out (Nat.le_refl _)).below HB11.out HB1.out.size
            go_wp2_with fail

            refine (awake_any _).mono ?_; rintro e w12 ⟨rfl, hb12⟩
            have HB12 := Aid.hid (HB1.out.trans ((HB11.out.trans (hb12.mono HB11.out.size)).mono HB1.out.size))
            clear hb12 p0
            go_wp2_with fail
            go_ret
            exact ⟨rfl, HB12.out⟩
  · go_wp2_with fail
    refine (awake_any _).mono ?_; rintro e w3 ⟨rfl, hb3⟩
    have HB3 := Aid.hid (HB1.out.trans ((HB2.out.trans (hb3.mono HB2.out.size)).mono HB1.out.size))
    clear hb3
    go_wp2_with fail
    go_ret
    exact ⟨rfl, HB3.out⟩
end Go.Proofs.Ytjhlcfaakhabfaa
