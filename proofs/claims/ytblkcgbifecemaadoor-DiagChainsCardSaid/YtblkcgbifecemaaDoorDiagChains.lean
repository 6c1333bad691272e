/- The law DiagChains. -/
import Derived.Test.YtblkcgbifecemaaDoorErrChained
namespace Go.Proofs.YtblkcgbifecemaaDoor
open Go.RowKit Go.Extern.Stop Go.Stop Go.Extern

theorem Er.has_any (E : Er) (c : Int) : E.has c = E.chain.any (·.1 == c) := by
  induction E with
  | nil => rfl
  | own b k a s ih => simp [Er.has, Er.chain, ih]
  | other s ih => exact ih
  | es b s => rfl
theorem any_take_succ {l : List (Int × Int)} {k : Nat} {p : Int × Int} {c : Int} (h : l[k]? = some p) : (l.take (k + 1)).any (·.1 == c) = ((l.take k).any (·.1 == c) || p.1 == c) := by
  rw [List.take_add_one, h]; simp
theorem chain_none_ (w : World) (hg : Door w) :
    Calls Tryd.prog 11 #[.nilIface] w fun e w' => ∃ A c, e = .returned (.slice A 0 c) ∧ Below w.heap.size w w' :=
  (chain_er .nil w hg trivial (by simp [Er.chain])).mono fun _ _ ⟨A, c, he, _, hb⟩ => ⟨A, c, he, hb⟩

set_option maxRecDepth 100000 in
set_option maxHeartbeats 8000000 in
theorem diagChains_early (L : Option Addr) (lc : Nat) (n : Nat) (inn : Int) (w : World) (hg : Door w) (hn : n = 0 ∨ 20 < n) :
    Calls Tryd.prog 4 #[.slice L n lc, .int .i64 inn] w fun e w' => e = .returned (.bool true) ∧ Below w.heap.size w w' := by
  have HG := Aid.hid hg
  go_enter Tryd.func4, Tryd.ntmps4
  try simp only [List.append_eq, List.cons_append, List.nil_append]
  by_cases h20 : 20 < n
  · clear hn
    have h20' : decide ((20 : Int) < (n : Int)) = true := decide_eq_true (by omega)
    go_wp2_with fail
    refine (chain_none_ w hg).mono ?_; rintro e w1 ⟨A, c, rfl, hb1⟩
    have B1 := Aid.hid hb1
    clear hb1
    go_wp2_with fail
    refine (awake_any _ (HG.out.below B1.out)).mono ?_; rintro e w2 ⟨rfl, hb2⟩
    go_wp2_with fail
    go_ret
    exact ⟨rfl, B1.out.trans (hb2.mono B1.out.size)⟩
  · obtain rfl : n = 0 := by omega
    clear hn
    go_wp2_with fail
    refine (chain_none_ w hg).mono ?_; rintro e w1 ⟨A, c, rfl, hb1⟩
    have B1 := Aid.hid hb1
    clear hb1
    go_wp2_with fail
    refine (awake_any _ (HG.out.below B1.out)).mono ?_; rintro e w2 ⟨rfl, hb2⟩
    go_wp2_with fail
    go_ret
    exact ⟨rfl, B1.out.trans (hb2.mono B1.out.size)⟩

set_option maxRecDepth 100000 in
set_option maxHeartbeats 16000000 in
theorem diagChains_main (L : Option Addr) (lc : Nat) (ls : List (Int × Int × Bool)) (inn : Int) (w : World) (hg : Door w) (hL : Rows w w.heap.size 3 L (ls.map Lk.cells)) (hn : 0 < ls.length) (hl : ls.length ≤ 20) :
    Calls Tryd.prog 4 #[.slice L ls.length lc, .int .i64 inn] w fun e w' => e = .returned (.bool true) ∧ Below w.heap.size w w' := by
  have HG := Aid.hid hg
  have hc := chained_er L lc ls w hL hn hl
  have h20 : decide ((20 : Int) < (ls.length : Int)) = false := decide_eq_false (by omega)
  have h00 : ((ls.length : Int) == 0) = false := by simpa using (by omega : ¬ (ls.length : Int) = 0)
  clear hg hL
  go_enter Tryd.func4, Tryd.ntmps4
  try simp only [List.append_eq, List.cons_append, List.nil_append]
  go_wp2_with fail
  refine hc.mono ?_; rintro e w1 ⟨E, A, c, rfl, HA, O, HLN, HN, HB⟩
  clear hc
  obtain ⟨t, x, hv⟩ := Er.iface_of HN.out
  obtain ⟨ch, hch⟩ : ∃ ch, E.chain = ch := ⟨_, rfl⟩
  obtain ⟨q, hf⟩ : ∃ q, E.first = some q := by
    cases h : E.first with
    | none => exfalso; have h1 := HLN.out; rw [Er.chain_none h] at h1; simp at h1; omega
    | some q => exact ⟨q, rfl⟩
  obtain ⟨fb, fk, fa, fs⟩ := q
  have hc0 : ch = (fk, fa) :: fs.chain := hch ▸ (Er.chain_some hf).1
  have C0 : Hid (ch[0]? = some (fk, fa)) := Aid.hid (by rw [hc0]; rfl)
  have LC : Hid (0 < ch.length) := Aid.hid (by rw [hc0]; simp)
  have hcl : ch.length ≤ 20 := by have h := HLN.out; rw [hch] at h; omega
  have CF : Hid (∀ w', Door w' → E.At w' → Calls Tryd.prog 13 #[.iface t x] w' fun e w'' => e = .returned (.tuple #[.int .i64 fk, .int .i64 fa, .bool true]) ∧ Below w'.heap.size w' w'') := Aid.hid (fun w' h1 h2 => by rw [← hv]; exact find_some E fb fk fa fs w' hf h1 h2)
  have CC : Hid (∀ w', Door w' → E.At w' → Calls Tryd.prog 11 #[.iface t x] w' fun e w'' => ∃ A c, e = .returned (.slice A ch.length c) ∧ Hid (w''.ownsRow w'.heap.size 37 2 (.slice A ch.length c) ch.length ((ch.map Wr.cells).flatten)) ∧ Below w'.heap.size w' w'') := Aid.hid (fun w' h1 h2 => by rw [← hv, ← hch]; exact (chain_er E w' h1 h2 (by rw [hch]; omega)).mono fun _ _ ⟨A, c, a1, a2, a3⟩ => ⟨A, c, a1, Aid.hid a2, a3⟩)
  have CI : Hid (∀ (k : Int) (r : Bool), ch.any (·.1 == k) = r → ∀ w', E.At w' → Calls Tryd.prog 9 #[.int .i64 k] w' fun e w1 => ∃ b, e = .returned (.iface 46 (.pointer (some ⟨b, 0, none⟩))) ∧ Below w'.heap.size w' w1 ∧
    Hid (Calls Tryd.prog 8 #[.iface t x, .iface 46 (.pointer (some ⟨b, 0, none⟩))] w1 fun e w'' => e = .returned (.bool r) ∧ Below w1.heap.size w1 w'')) := Aid.hid (fun k r hr w' h2 => by rw [← hv]; exact of_is E k r (by rw [Er.has_any, hch]; exact hr) w' h2)
  rw [hv, hch]
  rw [hch] at O
  have R1 : Hid (Rows w1 w1.heap.size 2 A (ch.map Wr.cells)) := Aid.hid (Rows.of_own (Wr.len ch) (by simpa using O.out))
  have HG1 := Aid.hid (HG.out.below HB.out)
  clear hv hch hf hc0 O HLN HN HG
  obtain ⟨wb, wo, rfl, hwb, hwc⟩ := R1.out.pair LC.out
  have HWC := Aid.hid hwc
  clear hwc
  go_wp2_with fail
  refine (CF.out _ HG1.out HA.out).mono ?_; rintro e w2 ⟨rfl, hb2⟩
  have B2 := Aid.hid hb2
  clear hb2
  go_wp2_with fail
  refine (CC.out _ (HG1.out.below B2.out) (HA.out.below B2.out)).mono ?_; rintro e w3 ⟨A3, c3, rfl, O3, hb3⟩
  have B3 := Aid.hid hb3
  clear hb3
  go_wp2_with fail
  go_loopw [11, 12] (fun vin vi wr => ∃ (k : Nat) (v : Bool), vi = .int .i64 k ∧ k ≤ ch.length ∧ vin = .bool v ∧ Hid (v = (ch.take k).any (·.1 == inn)) ∧ Hid (Below w3.heap.size w3 wr)) (fun _ vi _ => ch.length - (intOf vi).toNat)
  case atStart => exact ⟨0, false, rfl, Nat.zero_le _, rfl, Aid.hid (by simp), Aid.hid (Below.refl _ _)⟩
  case round =>
    obtain ⟨k, v, rfl, hk, rfl, HV, BK⟩ := hrel
    have BR : Hid (Below w1.heap.size w1 wr) := Aid.hid ((B2.out.trans (B3.out.mono B2.out.size)).trans (BK.out.mono (Nat.le_trans B2.out.size B3.out.size)))
    by_cases hlt : k < ch.length
    · obtain ⟨p, hp'⟩ : ∃ p, ch[k]? = some p := ⟨_, List.getElem?_eq_getElem hlt⟩
      have hp := Aid.hid hp'
      obtain ⟨p1, p2⟩ := p
      have q0 := (BR.out.cell (p := ⟨wb, wo + k * 2, none⟩) hwb).trans (HWC.out k _ hp').1
      have CP : Hid (ch.any (·.1 == p1) = true) := Aid.hid (List.any_eq_true.2 ⟨_, List.mem_of_getElem? hp', by simp⟩)
      clear hp'
      cases v
      · go_wp2_with fail
        refine (CI.out _ true CP.out _ (HA.out.below BR.out)).mono ?_; rintro e w6 ⟨t6, rfl, hb6, HI6⟩
        have B6 := Aid.hid (BK.out.trans (hb6.mono BK.out.size))
        clear hb6
        go_wp2_with fail
        refine HI6.out.mono ?_; rintro e w7 ⟨rfl, hb7⟩
        have B7 := Aid.hid (B6.out.trans (hb7.mono B6.out.size))
        clear hb7 HI6 B6
        go_wp2_with fail
        go_roundw
        case rel => exact ⟨k + 1, _, by go_num, by omega, rfl, Aid.hid (by have h := HV.out; rw [any_take_succ hp.out]; simp [← h]), B7⟩
        case measure => simp [intOf]; omega
      · go_wp2_with fail
        refine (CI.out _ true CP.out _ (HA.out.below BR.out)).mono ?_; rintro e w6 ⟨t6, rfl, hb6, HI6⟩
        have B6 := Aid.hid (BK.out.trans (hb6.mono BK.out.size))
        clear hb6
        go_wp2_with fail
        refine HI6.out.mono ?_; rintro e w7 ⟨rfl, hb7⟩
        have B7 := Aid.hid (B6.out.trans (hb7.mono B6.out.size))
        clear hb7 HI6 B6
        go_wp2_with fail
        go_roundw
        case rel => exact ⟨k + 1, _, by go_num, by omega, rfl, Aid.hid (by have h := HV.out; rw [any_take_succ hp.out]; simp [← h]), B7⟩
        case measure => simp [intOf]; omega
    · obtain rfl : k = ch.length := by omega
      have CV : Hid (ch.any (·.1 == inn) = v) := Aid.hid (by have h := HV.out; rw [List.take_length] at h; exact h.symm)
      have hs := sameWrongs_walk A3 (some ⟨wb, wo, none⟩) c3 c w3.heap.size w1.heap.size ch ch wr ((Rows.of_own (Wr.len ch) (by simpa using O3.out)).below BK.out (Nat.le_refl _)) (R1.out.below BR.out (Nat.le_refl _)) (by omega) (by omega)
      simp only [decide_true] at hs
      go_wp2_with fail
      refine hs.mono ?_; rintro e w8 ⟨rfl, m, rfl⟩
      have B8 : Hid (Below w3.heap.size w3 (wr.drewN m)) := Aid.hid (below_drewN BK.out m)
      clear hs
      go_wp2_with fail
      refine (overWrongs_walk A3 c3 w2.heap.size ch.length _ w2 _ (own_keeps O3.out B8.out) (wr_one ch) (by omega) (B3.out.trans (B8.out.mono B3.out.size)) (Nat.le_trans B3.out.size B8.out.size)).mono ?_; rintro e w9 ⟨rfl, h9⟩
      have BB9 : Hid (Below w1.heap.size w1 w9) := Aid.hid (B2.out.trans (h9.mono B2.out.size))
      clear h9 B8
      have q0 := (BB9.out.cell (p := ⟨wb, wo, none⟩) hwb).trans ((by simpa using (HWC.out 0 _ C0.out).1 : w1.cell? ⟨wb, wo, none⟩ = _))
      have q1 := (BB9.out.cell (p := ⟨wb, wo + 1, none⟩) hwb).trans ((by simpa using (HWC.out 0 _ C0.out).2 : w1.cell? ⟨wb, wo + 1, none⟩ = _))
      have lc0 := LC.out
      cases v
      · go_wp2_with fail
        refine (CI.out _ _ CV.out _ (HA.out.below BB9.out)).mono ?_; rintro e wa ⟨ta, rfl, hba, HIa⟩
        have Ba := Aid.hid (BB9.out.trans (hba.mono BB9.out.size))
        clear hba
        go_wp2_with fail
        refine HIa.out.mono ?_; rintro e wb' ⟨rfl, hbb⟩
        have Bb := Aid.hid (Ba.out.trans (hbb.mono Ba.out.size))
        clear hbb HIa
        go_wp2_with fail
        refine (CC.out _ (HG1.out.below Bb.out) (HA.out.below Bb.out)).mono ?_; rintro e wc ⟨A5, c5, rfl, O5, hbc⟩
        have Bc := Aid.hid (Bb.out.trans (hbc.mono Bb.out.size))
        clear hbc
        have hs := sameWrongs_walk A5 (some ⟨wb, wo, none⟩) c5 c wc.heap.size w1.heap.size ch ch wc (Rows.of_own (Wr.len ch) (by simpa using O5.out)) (R1.out.below Bc.out (Nat.le_refl _)) (by omega) (by omega)
        simp only [decide_true] at hs
        go_wp2_with fail
        refine hs.mono ?_; rintro e wd ⟨rfl, m, rfl⟩
        have Bd : Hid (Below w1.heap.size w1 (wc.drewN m)) := Aid.hid (below_drewN Bc.out m)
        clear hs
        go_wp2_with fail
        refine (awake_any _ (HG1.out.below Bd.out)).mono ?_; rintro e we ⟨rfl, hbe⟩
        go_wp2_with fail
        go_ret
        exact ⟨rfl, HB.out.trans ((Bd.out.trans (hbe.mono Bd.out.size)).mono HB.out.size)⟩
      · go_wp2_with fail
        refine (CI.out _ _ CV.out _ (HA.out.below BB9.out)).mono ?_; rintro e wa ⟨ta, rfl, hba, HIa⟩
        have Ba := Aid.hid (BB9.out.trans (hba.mono BB9.out.size))
        clear hba
        go_wp2_with fail
        refine HIa.out.mono ?_; rintro e wb' ⟨rfl, hbb⟩
        have Bb := Aid.hid (Ba.out.trans (hbb.mono Ba.out.size))
        clear hbb HIa
        go_wp2_with fail
        refine (CC.out _ (HG1.out.below Bb.out) (HA.out.below Bb.out)).mono ?_; rintro e wc ⟨A5, c5, rfl, O5, hbc⟩
        have Bc := Aid.hid (Bb.out.trans (hbc.mono Bb.out.size))
        clear hbc
        have hs := sameWrongs_walk A5 (some ⟨wb, wo, none⟩) c5 c wc.heap.size w1.heap.size ch ch wc (Rows.of_own (Wr.len ch) (by simpa using O5.out)) (R1.out.below Bc.out (Nat.le_refl _)) (by omega) (by omega)
        simp only [decide_true] at hs
        go_wp2_with fail
        refine hs.mono ?_; rintro e wd ⟨rfl, m, rfl⟩
        have Bd : Hid (Below w1.heap.size w1 (wc.drewN m)) := Aid.hid (below_drewN Bc.out m)
        clear hs
        go_wp2_with fail
        refine (awake_any _ (HG1.out.below Bd.out)).mono ?_; rintro e we ⟨rfl, hbe⟩
        go_wp2_with fail
        go_ret
        exact ⟨rfl, HB.out.trans ((Bd.out.trans (hbe.mono Bd.out.size)).mono HB.out.size)⟩

end Go.Proofs.YtblkcgbifecemaaDoor
