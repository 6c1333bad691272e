/- errors.Is over such errors, as a walk: the loop. -/
import Derived.Test.YtblkcgbifecemaaDoorErrIs
namespace Go.Proofs.YtblkcgbifecemaaDoor
open Go.RowKit Go.Extern.Stop Go.Stop Go.Extern

theorem Er.iface_of {E : Er} (h : E ≠ .nil) : ∃ t x, E.v = .iface t x := by
  cases E with
  | nil => exact absurd rfl h
  | own b c a s => exact ⟨_, _, rfl⟩
  | other s => exact ⟨_, _, rfl⟩
  | es b s => exact ⟨_, _, rfl⟩
set_option maxRecDepth 100000 in
set_option maxHeartbeats 4000000 in
theorem isLoop (E : Er) (bt : Nat) (c : Int) (r : Bool) (W : World) (hr : E.has c = r) (hn : E ≠ .nil) (hE : E.At W) (ht : (Er.own bt c (-1) .nil).At W) (hno : E.no bt) :
    Calls Tryd.prog 24 #[E.v, .iface 46 (.pointer (some ⟨bt, 0, none⟩)), .bool true] W fun e w' => e = .returned (.bool r) ∧ Below W.heap.size W w' := by
  obtain ⟨i, hi, hcmp⟩ := Option.map_eq_some_iff.1 Er.compE
  obtain ⟨j, hj, hjs⟩ := Option.map_eq_some_iff.1 Er.sizeE
  have CO := Aid.hid hcmp
  have HI := Aid.hid hi
  have HJ := Aid.hid hj
  have HS := Aid.hid hjs
  have HT := Aid.hid ht
  have HE := Aid.hid hE
  have f1 := Er.hasIsE
  have f2 := Er.hasUnwrapE
  have f3 := Er.noIsO
  have f4 := Er.hasUnwrapO
  have f5 := Er.noIsS
  have f6 := Er.noUnwrapS
  have f7 := Er.noUnwrapsS
  have f8 := Er.mIs
  have f9 := Er.mUnwrapE
  have f10 := Er.mUnwrapO
  clear hcmp hi hj hjs ht hE
  go_enter Tryd.func24, Tryd.ntmps24
  try simp only [List.append_eq, List.cons_append, List.nil_append]
  go_wp2_with fail
  go_loopg [0] (E.deep) (fun k v wr => ∃ E' : Er, v = E'.v ∧ E' ≠ .nil ∧ k = E'.deep ∧ Hid (E'.At wr) ∧ Hid (E'.no bt) ∧ Hid (E'.has c = r) ∧ Hid (Below W.heap.size W wr))
  case atStart => exact ⟨E, rfl, hn, rfl, HE, Aid.hid hno, Aid.hid hr, Aid.hid (Below.refl _ _)⟩
  case round =>
    obtain ⟨E', rfl, hn', rfl, HA, HN, HR, HB⟩ := hrel
    have HT2 := Aid.hid (HT.out.below HB.out)
    cases E' with
    | nil => exact absurd rfl hn'
    | own b k a s =>
      have hne : (⟨b, 0, none⟩ : Addr) ≠ ⟨bt, 0, none⟩ := fun e => HN.out.1 (congrArg Addr.block e)
      have heq := run_eql_iface_ptr_other (P := Tryd.prog) wr Tryd.underlying23 Tryd.underlying46 HI.out CO.out HJ.out (by rw [HS.out]; decide) hne (HA.out.1) (HT2.out.1)
      dsimp only [Er.v]
      obtain ⟨q, hq⟩ : ∃ q, (c == k) = q := ⟨_, rfl⟩
      have HQ := Aid.hid hq
      clear hq
      cases q
      · go_wp2_with fail
        refine (is_own b bt k a c s false _ HQ.out HA.out HT2.out).mono ?_; rintro e w2 ⟨rfl, n, rfl⟩
        go_wp2_with fail
        refine (unwrap_own b k a s _ (HA.out.below (below_drewN (Below.refl _ _) n))).mono ?_; rintro e w2 ⟨rfl, rfl⟩
        have HR2 : Hid (s.has c = r) := Aid.hid (by have h := HR.out; unfold Er.has at h; rwa [show (k == c) = false by have := HQ.out; simp at this ⊢; omega, Bool.false_or] at h)
        cases s with
        | nil =>
          obtain rfl : false = r := HR2.out
          clear heq
          dsimp only [Er.v]
          go_wp2_with fail
          go_ret
          exact ⟨rfl, below_drewN HB.out n⟩
        | own b2 k2 a2 s2 =>
          clear heq
          dsimp only [Er.v]
          go_wp2_with fail
          go_roundg (Er.own b2 k2 a2 s2).deep
          case rel => exact ⟨_, rfl, by simp, rfl, Aid.hid (HA.out.2.below (below_drewN (Below.refl _ _) n)), Aid.hid HN.out.2, HR2, Aid.hid (below_drewN HB.out n)⟩
          case measure => show _ < (Er.own b k a _).deep; simp [Er.deep]
        | other s2 =>
          clear heq
          dsimp only [Er.v]
          go_wp2_with fail
          go_roundg (Er.other s2).deep
          case rel => exact ⟨_, rfl, by simp, rfl, Aid.hid (HA.out.2.below (below_drewN (Below.refl _ _) n)), Aid.hid HN.out.2, HR2, Aid.hid (below_drewN HB.out n)⟩
          case measure => show _ < (Er.own b k a _).deep; simp [Er.deep]
        | es b2 s2 =>
          clear heq
          dsimp only [Er.v]
          go_wp2_with fail
          go_roundg (Er.es b2 s2).deep
          case rel => exact ⟨_, rfl, by simp, rfl, Aid.hid (HA.out.2.below (below_drewN (Below.refl _ _) n)), Aid.hid HN.out.2, HR2, Aid.hid (below_drewN HB.out n)⟩
          case measure => show _ < (Er.own b k a _).deep; simp [Er.deep]
      · obtain rfl : true = r := by have h := HR.out; unfold Er.has at h; rw [show (k == c) = true by have := HQ.out; simp at this ⊢; omega, Bool.true_or] at h; exact h
        go_wp2_with fail
        refine (is_own b bt k a c s true _ HQ.out HA.out HT2.out).mono ?_; rintro e w2 ⟨rfl, n, rfl⟩
        go_wp2_with fail
        go_ret
        exact ⟨rfl, below_drewN HB.out n⟩
    | other s =>
      have heq := run_eql_iface_types (P := Tryd.prog) 62 46 (.agg #[s.v]) (.pointer (some ⟨bt, 0, none⟩)) Tryd.underlying23 (by decide) wr
      dsimp only [Er.v]
      have HR2 : Hid (s.has c = r) := HR
      go_wp2_with fail
      refine (unwrap_other s.v _).mono ?_; rintro e w2 ⟨rfl, hb⟩
      have HB2 := Aid.hid (HB.out.trans (hb.mono HB.out.size))
      have HA2 : Hid (s.At w2) := Aid.hid (Er.At.below (E := s) HA.out hb)
      clear hb heq
      cases s with
      | nil =>
        obtain rfl : false = r := HR2.out
        dsimp only [Er.v]
        go_wp2_with fail
        go_ret
        exact ⟨rfl, HB2.out⟩
      | own b2 k2 a2 s2 =>
        dsimp only [Er.v]
        go_wp2_with fail
        go_roundg (Er.own b2 k2 a2 s2).deep
        case rel => exact ⟨_, rfl, by simp, rfl, HA2, HN, HR2, HB2⟩
        case measure => show _ < (Er.other _).deep; simp [Er.deep]
      | other s2 =>
        dsimp only [Er.v]
        go_wp2_with fail
        go_roundg (Er.other s2).deep
        case rel => exact ⟨_, rfl, by simp, rfl, HA2, HN, HR2, HB2⟩
        case measure => show _ < (Er.other _).deep; simp [Er.deep]
      | es b2 s2 =>
        dsimp only [Er.v]
        go_wp2_with fail
        go_roundg (Er.es b2 s2).deep
        case rel => exact ⟨_, rfl, by simp, rfl, HA2, HN, HR2, HB2⟩
        case measure => show _ < (Er.other _).deep; simp [Er.deep]
    | es b s =>
      have heq := run_eql_iface_types (P := Tryd.prog) 65 46 (.pointer (some ⟨b, 0, none⟩)) (.pointer (some ⟨bt, 0, none⟩)) Tryd.underlying23 (by decide) wr
      obtain rfl : false = r := HR.out
      dsimp only [Er.v]
      go_wp2_with fail
      go_ret
      exact ⟨rfl, HB.out⟩
/-- errors.Is. -/
theorem is_er (E : Er) (bt : Nat) (c : Int) (r : Bool) (w : World) (hr : E.has c = r) (hE : E.At w) (ht : (Er.own bt c (-1) .nil).At w) (hno : E.no bt) :
    Calls Tryd.prog 8 #[E.v, .iface 46 (.pointer (some ⟨bt, 0, none⟩))] w fun e w' => e = .returned (.bool r) ∧ Below w.heap.size w w' := by
  have h1 := Er.callTypeOf
  have h2 := Er.callComparable
  have f3 := Er.mComparable
  by_cases hn : E = .nil
  · subst hn
    obtain rfl : false = r := hr
    have hnl := run_eql_iface_nil_left (P := Tryd.prog) w 46 (.pointer (some ⟨bt, 0, none⟩)) Tryd.underlying23
    dsimp only [Er.v]
    go_enter Tryd.func8, Tryd.ntmps8
    go_wp2_with fail
    go_ret
    exact ⟨rfl, Below.refl _ _⟩
  · have hc := isLoop E bt c r w hr hn hE ht hno
    obtain ⟨t, x, hv⟩ := Er.iface_of hn
    rw [hv] at hc ⊢
    clear hv hE ht hno hr hn
    go_enter Tryd.func8, Tryd.ntmps8
    go_wp2_with fail
    refine hc.mono ?_; rintro e w' ⟨rfl, hb⟩
    clear hc
    go_wp2_with fail
    go_ret
    exact ⟨rfl, hb⟩
end Go.Proofs.YtblkcgbifecemaaDoor
