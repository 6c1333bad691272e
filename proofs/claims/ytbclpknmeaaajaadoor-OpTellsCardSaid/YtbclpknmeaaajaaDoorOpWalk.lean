/- Signs: Sig, Letters, Frame, as walks. -/
import Derived.Test.YtbclpknmeaaajaaDoorProg
import Derived.Test.YtbclpknmeaaajaaDoorOpParts
import Derived.Test.YtbclpknmeaaajaaDoorAid
import Derived.WalkKit
import Derived.WalkSpells
import Derived.WalkLawsBesides
import Derived.LoopTactic
import Derived.Outline
namespace Go.Proofs.YtbclpknmeaaajaaDoor
open Go.RowKit

set_option maxHeartbeats 400000 in
theorem sig_any (p : ByteArray) (r : Bool) (w : World) (hp : p.size ≤ 1000) :
    Calls Tryd.prog 13 #[.string p, .bool r] w fun e w' => e = .returned (.string (p ++ if r then ⟨#[62, 105]⟩ else ⟨#[62]⟩)) ∧ w = w' := by
  cases r
  · go_enter Tryd.func13, Tryd.ntmps13
    go_wp2_with fail
    go_ret
    exact ⟨rfl, rfl⟩
  · go_enter Tryd.func13, Tryd.ntmps13
    go_wp2_with fail
    go_ret
    exact ⟨rfl, rfl⟩
set_option maxHeartbeats 400000 in
theorem rsig_any (p : ByteArray) (r : Bool) (w : World) (hp : p.size ≤ 1000) :
    Calls Tryd.prog 14 #[.string p, .bool r] w fun e w' => e = .returned (.string (p ++ if r then ⟨#[62, 105]⟩ else ⟨#[62]⟩)) ∧ w = w' := by
  cases r
  · go_enter Tryd.func14, Tryd.ntmps14
    go_wp2_with fail
    go_ret
    exact ⟨rfl, rfl⟩
  · go_enter Tryd.func14, Tryd.ntmps14
    go_wp2_with fail
    go_ret
    exact ⟨rfl, rfl⟩

def Op.isl (x : UInt8) : Bool := x == 105 || x == 114
theorem Op.isl_iff (x : UInt8) : Op.isl x = true ↔ x = 105 ∨ x = 114 := by simp [Op.isl]
set_option maxHeartbeats 1000000 in
theorem letters_is (s : ByteArray) (r : Bool) (hr : s.data.toList.all Op.isl = r) (w : World) (hs : s.size ≤ 1000) :
    Calls Tryd.prog 19 #[.string s] w fun e w' => e = .returned (.bool r) ∧ w = w' := by
  have HR := Aid.hid hr
  clear hr
  go_enter Tryd.func19, Tryd.ntmps19
  go_wp2_with fail
  go_loop [3] (fun i => ∃ k : Nat, k ≤ s.size ∧ i = .int .i64 k ∧ Hid (∀ j (hj : j < s.size), j < k → Op.isl s[j] = true)) (fun i => s.size - (intOf i).toNat)
  case atStart => exact ⟨0, Nat.zero_le _, rfl, Aid.hid (fun j _ h => absurd h (by omega))⟩
  case round =>
    obtain ⟨k, hk, rfl, HL⟩ := hrel
    by_cases hlt : k < s.size
    · by_cases h1 : s[k] = 105
      · have hq : Op.isl s[k] = true := by rw [Op.isl_iff]; exact Or.inl h1
        have HQ := Aid.hid hq
        have hb : ((s[k].toNat : Int) != 105) = false := by rw [h1]; rfl
        clear hq h1
        go_wp2_with fail
        go_round
        case rel =>
          refine ⟨k + 1, by omega, by go_num, Aid.hid (fun j hj h => ?_)⟩
          by_cases e : j = k
          · subst e; exact HQ.out
          · exact HL.out j hj (by omega)
        case measure => simp [intOf]; omega
      · have hb : ((s[k].toNat : Int) != 105) = true := by
          rw [bne_iff_ne]; intro e; exact h1 (UInt8.toNat_inj.1 (by have : (105 : UInt8).toNat = 105 := rfl; omega))
        by_cases h2 : s[k] = 114
        · have hq : Op.isl s[k] = true := by rw [Op.isl_iff]; exact Or.inr h2
          have HQ := Aid.hid hq
          have hb2 : ((s[k].toNat : Int) != 114) = false := by rw [h2]; rfl
          clear hq h1 h2
          go_wp2_with fail
          go_round
          case rel =>
            refine ⟨k + 1, by omega, by go_num, Aid.hid (fun j hj h => ?_)⟩
            by_cases e : j = k
            · subst e; exact HQ.out
            · exact HL.out j hj (by omega)
          case measure => simp [intOf]; omega
        · have hb2 : ((s[k].toNat : Int) != 114) = true := by
            rw [bne_iff_ne]; intro e; exact h2 (UInt8.toNat_inj.1 (by have : (114 : UInt8).toNat = 114 := rfl; omega))
          have hq : s.data.toList.all Op.isl = false := by
            rw [List.all_eq_false]
            exact ⟨s.data[k]'hlt, by simp, by show ¬ Op.isl s[k] = true; rw [Op.isl_iff]; rintro (h | h) <;> contradiction⟩
          have HQ := Aid.hid hq
          clear hq h1 h2
          go_wp2_with fail
          go_ret
          exact ⟨Aid.ret_bool (HQ.out.symm.trans HR.out), rfl⟩
    · have hq : s.data.toList.all Op.isl = true := by
        rw [List.all_eq_true]
        intro x hx
        obtain ⟨j, hj, rfl⟩ := List.getElem_of_mem hx
        have hj' : j < s.size := by simpa using hj
        exact HL.out j hj' (by omega)
      have HQ := Aid.hid hq
      clear hq
      go_wp2_with fail
      go_ret
      exact ⟨Aid.ret_bool (HQ.out.symm.trans HR.out), rfl⟩
def Op.frame (p l : ByteArray) (s : Int) : Int := wrap64 ((p.size : Int) + l.size + s)
set_option maxHeartbeats 400000 in
theorem frame_any (c : Int) (p l : ByteArray) (r : Bool) (st : Int) (A : Option Addr) (n k : Nat) (w : World) (hp : p.size ≤ 1000) (hl : l.size ≤ 1000) :
    Calls Tryd.prog 15 #[.agg #[.int .i64 c, .string p, .string l, .bool r, .int .i64 st, .slice A n k]] w fun e w' => e = .returned (.int .i64 (Op.frame p l st)) ∧ Below w.heap.size w w' := by
  go_enter Tryd.func15, Tryd.ntmps15
  go_wp2_with fail
  go_ret
  exact ⟨rfl, (Below.refl _ _).alloc (Nat.le_refl _) _⟩
set_option maxHeartbeats 400000 in
theorem rframe_any (c : Int) (p l : ByteArray) (r : Bool) (st : Int) (A : Option Addr) (n k : Nat) (w : World) (hp : p.size ≤ 1000) (hl : l.size ≤ 1000) :
    Calls Tryd.prog 16 #[.agg #[.int .i64 c, .string p, .string l, .bool r, .int .i64 st, .slice A n k]] w fun e w' => e = .returned (.int .i64 (Op.frame p l st)) ∧ Below w.heap.size w w' := by
  go_enter Tryd.func16, Tryd.ntmps16
  go_wp2_with fail
  go_ret
  exact ⟨rfl, (Below.refl _ _).alloc (Nat.le_refl _) _⟩
end Go.Proofs.YtbclpknmeaaajaaDoor
