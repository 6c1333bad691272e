/- The document's Parts, as a walk. -/
import Derived.Test.YtbclpknmeaaajaaDoorOpPartsA
import Derived.WideShapes
namespace Go.Proofs.YtbclpknmeaaajaaDoor
open Go.RowKit

theorem Op.take_data (s : ByteArray) (k : Nat) : (s.extract 0 k).data.toList = s.data.toList.take k := by
  rw [ByteArray.data_extract, Array.toList_extract]; simp [List.extract]
theorem Op.sg_of {s : ByteArray} {k : Nat} {c : Bool} (h : s = s.extract 0 k ++ (if c then ⟨#[62, 105]⟩ else ⟨#[62]⟩)) (hl : (s.data.toList.take k).all Op.isl = true) : Op.Sg s.data.toList (s.data.toList.take k) c := by
  refine ⟨?_, fun x hx => (Op.isl_iff x).1 (List.all_eq_true.1 hl x hx)⟩
  have h2 : s.data.toList = (s.extract 0 k ++ (if c then (⟨#[62, 105]⟩ : ByteArray) else ⟨#[62]⟩)).data.toList := by rw [← h]
  rw [ByteArray.data_append, Array.toList_append, Op.take_data] at h2
  cases c <;> simpa using h2
theorem Op.of_sg {s : ByteArray} {p : List UInt8} {c : Bool} (h : Op.Sg s.data.toList p c) : s = s.extract 0 p.length ++ (if c then ⟨#[62, 105]⟩ else ⟨#[62]⟩) := by
  have e : ∀ a b : ByteArray, a.data.toList = b.data.toList → a = b := fun a b h => by
    cases a; cases b; simpa using h
  apply e
  rw [ByteArray.data_append, Array.toList_append, Op.take_data, h.1]
  cases c <;> simp
set_option maxRecDepth 100000 in
set_option maxHeartbeats 2000000 in
theorem rparts_is (s : ByteArray) (p : List UInt8) (b ok : Bool) (h : Op.parts s.data.toList = (p, b, ok)) (hs : s.size ≤ 1000) (w : World) :
    Calls Tryd.prog 8 #[.string s] w fun e w' => e = .returned (.tuple #[.string ⟨p.toArray⟩, .bool b, .bool ok]) ∧ w = w' := by
  have HP := Aid.hid h
  clear h
  go_enter Tryd.func8, Tryd.ntmps8
  go_wp2_with fail
  go_loop [5, 6] (fun i _ => ∃ k : Nat, k ≤ 4 ∧ i = .int .i64 k ∧ Hid (∀ q c, Op.Sg s.data.toList q c → q.length ≤ 3 → k ≤ q.length)) (fun i _ => 4 - (intOf i).toNat)
  case atStart => exact ⟨0, by omega, rfl, Aid.hid (fun _ _ _ _ => Nat.zero_le _)⟩
  case round =>
    obtain ⟨k, hk, rfl, HN⟩ := hrel
    by_cases h3 : k ≤ 3
    · by_cases hlt : k < s.size
      · obtain ⟨t, ht⟩ : ∃ t, s.extract 0 k = t := ⟨_, rfl⟩
        have tl : t.size ≤ 1000 := by rw [← ht]; simp; omega
        have td : t.data.toList = s.data.toList.take k := by rw [← ht]; exact Op.take_data s k
        have HT := Aid.hid ht
        have TD := Aid.hid td
        obtain ⟨r, hr⟩ : ∃ r, t.data.toList.all Op.isl = r := ⟨_, rfl⟩
        have HR := Aid.hid hr
        have TV : Hid ((⟨(s.data.toList.take k).toArray⟩ : ByteArray) = t) := Aid.hid (by rw [← td])
        clear td hr
        cases r
        · obtain ⟨rfl, rfl, rfl⟩ : p = [] ∧ b = false ∧ ok = false := by
            have := Op.parts_no (l := s.data.toList) (fun q c g hq => by
              have h1 := HN.out q c g hq
              have h2 := HR.out
              rw [TD.out, List.all_eq_false] at h2
              obtain ⟨x, hx, hx2⟩ := h2
              rw [g.1, List.take_append_of_le_length h1] at hx
              exact hx2 ((Op.isl_iff x).2 (g.2 x (List.mem_of_mem_take hx))))
            rw [HP.out] at this
            simpa using this
          go_wp2_with fail
          refine (letters_is t false HR.out _ tl).mono ?_; rintro e w' ⟨rfl, rfl⟩
          clear ht
          go_wp2_with fail
          go_ret3
          exact ⟨rfl, rfl⟩
        · by_cases h1 : s.toList = (t ++ (⟨#[62]⟩ : ByteArray)).toList
          · obtain ⟨rfl, rfl, rfl⟩ : p = s.data.toList.take k ∧ b = false ∧ ok = true := by
              have e : s = t ++ (⟨#[62]⟩ : ByteArray) := by
                rw [ByteArray.toList_eq, ByteArray.toList_eq] at h1
                exact Go.WideShapes.bytes_inj h1
              have := Op.parts_yes (Op.sg_of (s := s) (k := k) (c := false) (by rw [HT.out]; exact e) (by rw [← TD.out]; exact HR.out)) (by simp; omega)
              rw [HP.out] at this
              simpa using this
            go_wp2_with fail
            refine (letters_is t true HR.out _ tl).mono ?_; rintro e w' ⟨rfl, rfl⟩
            clear ht
            go_wp2_with fail
            refine (rsig_any t false _ tl).mono ?_; rintro e w' ⟨rfl, rfl⟩
            have h1b : (s.toList == (t ++ (⟨#[62]⟩ : ByteArray)).toList) = true := by simpa using h1
            clear h1
            go_wp2_with fail
            go_ret3
            exact ⟨by rw [TV.out]; rfl, rfl⟩
          · have h1b : (s.toList == (t ++ (⟨#[62]⟩ : ByteArray)).toList) = false := by simpa using h1
            by_cases h2 : s.toList = (t ++ (⟨#[62, 105]⟩ : ByteArray)).toList
            · obtain ⟨rfl, rfl, rfl⟩ : p = s.data.toList.take k ∧ b = true ∧ ok = true := by
                have e : s = t ++ (⟨#[62, 105]⟩ : ByteArray) := by
                  rw [ByteArray.toList_eq, ByteArray.toList_eq] at h2
                  exact Go.WideShapes.bytes_inj h2
                have := Op.parts_yes (Op.sg_of (s := s) (k := k) (c := true) (by rw [HT.out]; exact e) (by rw [← TD.out]; exact HR.out)) (by simp; omega)
                rw [HP.out] at this
                simpa using this
              have h2b : (s.toList == (t ++ (⟨#[62, 105]⟩ : ByteArray)).toList) = true := by simpa using h2
              clear h1 h2
              go_wp2_with fail
              refine (letters_is t true HR.out _ tl).mono ?_; rintro e w' ⟨rfl, rfl⟩
              clear ht
              go_wp2_with fail
              refine (rsig_any t false _ tl).mono ?_; rintro e w' ⟨rfl, rfl⟩
              go_wp2_with fail
              refine (rsig_any t true _ tl).mono ?_; rintro e w' ⟨rfl, rfl⟩
              go_wp2_with fail
              go_ret3
              exact ⟨by rw [TV.out]; rfl, rfl⟩
            · have h2b : (s.toList == (t ++ (⟨#[62, 105]⟩ : ByteArray)).toList) = false := by simpa using h2
              have HN2 : Hid (∀ q c, Op.Sg s.data.toList q c → q.length ≤ 3 → k + 1 ≤ q.length) := Aid.hid (fun q c g hq => by
                have h3 := HN.out q c g hq
                by_cases e : q.length = k
                · exfalso
                  have := Op.of_sg g
                  rw [e, HT.out] at this
                  cases c
                  · exact h1 (congrArg ByteArray.toList this)
                  · exact h2 (congrArg ByteArray.toList this)
                · omega)
              clear h1 h2
              go_wp2_with fail
              refine (letters_is t true HR.out _ tl).mono ?_; rintro e w' ⟨rfl, rfl⟩
              clear ht
              go_wp2_with fail
              refine (rsig_any t false _ tl).mono ?_; rintro e w' ⟨rfl, rfl⟩
              go_wp2_with fail
              refine (rsig_any t true _ tl).mono ?_; rintro e w' ⟨rfl, rfl⟩
              go_wp2_with fail
              go_round
              case rel => exact ⟨k + 1, by omega, by go_num, HN2⟩
              case measure => simp [intOf]; omega
      · obtain ⟨rfl, rfl, rfl⟩ : p = [] ∧ b = false ∧ ok = false := by
          have := Op.parts_no (l := s.data.toList) (fun q c g hq => by
            have h1 := HN.out q c g hq
            have h2 := congrArg List.length g.1
            simp at h2
            have h4 : s.data.size = s.size := rfl
            omega)
          rw [HP.out] at this
          simpa using this
        go_wp2_with fail
        go_ret3
        exact ⟨rfl, rfl⟩
    · obtain ⟨rfl, rfl, rfl⟩ : p = [] ∧ b = false ∧ ok = false := by
        have := Op.parts_no (l := s.data.toList) (fun q c g hq => by have h1 := HN.out q c g hq; omega)
        rw [HP.out] at this
        simpa using this
      go_wp2_with fail
      go_ret3
      exact ⟨rfl, rfl⟩
end Go.Proofs.YtbclpknmeaaajaaDoor
