/- Parts, as a walk: letters, '>', and i or nothing. -/
import Derived.Test.YtcgfabnmkbiogaaDoorShelf
import Derived.Test.YtcgfabnmkbiogaaDoorFlOp
import Derived.Shelf.Strings.SlTrimAscii
import Derived.Below
namespace Go.Proofs.YtcgfabnmkbiogaaDoor
open Go.RowKit

theorem Op.below_drewN {B : Nat} {a w : World} (h : Below B a w) (n : Nat) : Below B a (w.drewN n) := ⟨h.os, h.tape, h.output, h.size, h.block⟩
theorem Op.trim_con (t : ByteArray) (w : World) (h : t.size ≤ 1000) : ∃ T : ByteArray, (T.toList = [] ↔ ∀ x ∈ t.data.toList, x = 105 ∨ x = 114) ∧
    Calls Tryd.prog 39 #[.string t, .string ⟨#[105, 114]⟩] w fun e w' => e = .returned (.string T) ∧ Below w.heap.size w w' := by
  refine ⟨⟨(Lib.trimS t.data.toList [105, 114]).toArray⟩, ?_, Any.strings_Trim_laid Tryd.lays160 (by kernel_rfl) t ⟨#[105, 114]⟩ w (by omega) (by decide) (ascii_of_all (by decide))⟩
  rw [← Op.trim_nil]
  rw [ByteArray.toList_eq]
theorem Op.str_toList (l : List UInt8) : (⟨l.toArray⟩ : ByteArray).toList = l := by rw [ByteArray.toList_eq]
set_option maxHeartbeats 1000000 in
theorem parts_is (s : ByteArray) (p : List UInt8) (b ok : Bool) (h : Op.parts s.data.toList = (p, b, ok)) (hs : s.size ≤ 1000) (m : Int) (w : World) (hm : w.cell? ⟨0, 0, none⟩ = some (.int .i64 m)) :
    Calls Tryd.prog 35 #[.string s] w fun e w' => e = .returned (.tuple #[.string ⟨p.toArray⟩, .bool b, .bool ok]) ∧ Below w.heap.size w w' := by
  obtain ⟨p0, r0, k0, hc⟩ : ∃ p0 r0 k0, Lib.cut s.data.toList [62] = (p0, r0, k0) := ⟨_, _, _, rfl⟩
  have hcut := Tryd.strings_Cut s ⟨#[62]⟩ m w (by omega) hm
  rw [show (⟨#[62]⟩ : ByteArray).data.toList = [62] from rfl, hc] at hcut
  dsimp only at hcut
  clear hm
  have HC := Aid.hid hc
  have HP := Aid.hid h
  have hd : ∀ n, Below w.heap.size w (w.drewN n) := fun n => Op.below_drewN (Below.refl _ _) n
  have HD := Aid.hid hd
  clear hc h hd
  cases k0
  · obtain ⟨rfl, rfl, rfl⟩ : p = [] ∧ b = false ∧ ok = false := by
      have := Op.parts_no (fun q c g => absurd g (Op.cut_no HC.out q c))
      rw [HP.out] at this
      simpa using this
    go_enter Tryd.func35, Tryd.ntmps35
    go_wp2_with fail
    refine hcut.mono ?_; rintro e w' ⟨rfl, n, rfl⟩
    clear hcut
    go_wp2_with fail
    go_ret3
    exact ⟨rfl, HD.out n⟩
  · obtain ⟨hl, hn⟩ := Op.cut_yes HC.out
    have HL := Aid.hid hl
    have HN := Aid.hid hn
    have no : Hid (∀ q c, Op.Sg s.data.toList q c → q = p0 ∧ r0 = if c then [105] else []) := Aid.hid (fun q c g => by
      obtain ⟨h1, h2⟩ := Op.split _ _ _ _ g.no62 HN.out (g.1.symm.trans HL.out)
      exact ⟨h1, h2.symm⟩)
    obtain ⟨P, hP⟩ : ∃ P : ByteArray, P = ⟨p0.toArray⟩ := ⟨_, rfl⟩
    obtain ⟨R, hR⟩ : ∃ P : ByteArray, P = ⟨r0.toArray⟩ := ⟨_, rfl⟩
    rw [← hP, ← hR] at hcut
    have P2 : Hid (P = ⟨p0.toArray⟩) := Aid.hid hP
    have R2 : Hid (R = ⟨r0.toArray⟩) := Aid.hid hR
    have P3 : Hid (P.data.toList = p0) := Aid.hid (by rw [hP])
    have P4 : Hid (P.size = p0.length) := Aid.hid (by rw [hP]; rfl)
    have R3 : Hid (R.toList = r0) := Aid.hid (by rw [hR, Op.str_toList])
    clear hl hn hP hR
    by_cases h3 : (3 : Int) < (P.size : Int)
    · obtain ⟨rfl, rfl, rfl⟩ : p = [] ∧ b = false ∧ ok = false := by
        have := Op.parts_no (l := s.data.toList) (fun q c g => by have := (no.out q c g).1; subst this; have := P4.out; omega)
        rw [HP.out] at this
        simpa using this
      go_enter Tryd.func35, Tryd.ntmps35
      go_wp2_with fail
      refine hcut.mono ?_; rintro e w' ⟨rfl, n, rfl⟩
      clear hcut
      go_wp2_with fail
      go_ret3
      exact ⟨rfl, HD.out n⟩
    · have h3b : decide ((3 : Int) < (P.size : Int)) = false := by simpa using h3
      have h3l : P.size ≤ 3 := by omega
      clear h3
      go_enter Tryd.func35, Tryd.ntmps35
      go_wp2_with fail
      refine hcut.mono ?_; rintro e w' ⟨rfl, n, rfl⟩
      clear hcut
      go_wp2_with fail
      obtain ⟨T, hT, ht⟩ := Op.trim_con P (w.drewN n) (by omega)
      have HT := Aid.hid hT
      refine ht.mono ?_; rintro e w2 ⟨rfl, hb⟩
      have HB : Hid (Below w.heap.size w w2) := Aid.hid ((HD.out n).trans hb)
      clear hb ht hT
      by_cases ht0 : T.toList = []
      · have ht1 : (!T.toList.isEmpty) = false := by simp [ht0]
        have HT2 : Hid (∀ x ∈ p0, x = 105 ∨ x = 114) := Aid.hid (by rw [← P3.out]; exact HT.out.1 ht0)
        clear ht0
        by_cases hr0 : r0 = []
        · have hr1 : R.toList = [] := R3.out.trans hr0
          obtain ⟨rfl, rfl, rfl⟩ : p = p0 ∧ b = false ∧ ok = true := by
            have := Op.parts_yes (l := s.data.toList) (p := p0) (b := false) ⟨by simpa [hr0] using HL.out, HT2.out⟩ (by have := P4.out; omega)
            rw [HP.out] at this
            simpa using this
          have hr2 : (!R.toList.isEmpty) = false := by simp [hr1]
          have hr3 : (R.toList == [105]) = false := by simp [hr1]
          clear hr0
          go_wp2_with fail
          go_ret3
          obtain rfl := P2.out
          exact ⟨rfl, HB.out⟩
        · have hr2 : (!R.toList.isEmpty) = true := by rw [R3.out]; simpa using hr0
          by_cases hr1 : r0 = [105]
          · obtain ⟨rfl, rfl, rfl⟩ : p = p0 ∧ b = true ∧ ok = true := by
              have := Op.parts_yes (l := s.data.toList) (p := p0) (b := true) ⟨by simpa [hr1] using HL.out, HT2.out⟩ (by have := P4.out; omega)
              rw [HP.out] at this
              simpa using this
            have hr3 : R.toList = [105] := by rw [R3.out, hr1]
            clear hr0 hr1
            go_wp2_with fail
            go_ret3
            obtain rfl := P2.out
            exact ⟨rfl, HB.out⟩
          · obtain ⟨rfl, rfl, rfl⟩ : p = [] ∧ b = false ∧ ok = false := by
              have := Op.parts_no (l := s.data.toList) (fun q c g => by
                have := (no.out q c g).2
                cases c <;> simp at this <;> contradiction)
              rw [HP.out] at this
              simpa using this
            have hr3 : (R.toList == [105]) = false := by rw [R3.out]; simpa using hr1
            have hr4 : (!(R.toList == [105])) = true := by rw [hr3]; rfl
            clear hr0 hr1
            go_wp2_with fail
            go_ret3
            exact ⟨rfl, HB.out⟩
      · obtain ⟨rfl, rfl, rfl⟩ : p = [] ∧ b = false ∧ ok = false := by
          have := Op.parts_no (l := s.data.toList) (fun q c g => by
            have := (no.out q c g).1; subst this
            exact absurd (HT.out.2 (by rw [P3.out]; exact g.2)) ht0)
          rw [HP.out] at this
          simpa using this
        have ht1 : (!T.toList.isEmpty) = true := by simpa using ht0
        go_wp2_with fail
        go_ret3
        exact ⟨rfl, HB.out⟩
end Go.Proofs.YtcgfabnmkbiogaaDoor
