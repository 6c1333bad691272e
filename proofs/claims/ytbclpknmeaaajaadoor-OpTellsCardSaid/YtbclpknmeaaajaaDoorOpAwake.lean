/- Chapter 14's awake, and OpTells, as walks. -/
import Derived.Test.YtbclpknmeaaajaaDoorOpMay
import Derived.Test.YtbclpknmeaaajaaDoorOpRMay
import Derived.Test.YtbclpknmeaaajaaDoorOpPartsR
namespace Go.Proofs.YtbclpknmeaaajaaDoor
open Go.RowKit

theorem Op.parts_one : Op.parts [105, 114, 62, 105] = ([105, 114], true, true) := Op.parts_yes (p := [105, 114]) (b := true) ⟨rfl, by decide⟩ (by decide)
/-- The library's MaxLen is some number. -/
def Op.Len (w : World) : Prop := 0 < w.heap.size ∧ ∃ m, w.cell? ⟨0, 0, none⟩ = some (.int .i64 m)
theorem Op.Len.below {w w' : World} (h : Op.Len w) (hb : Below w.heap.size w w') : Op.Len w' := by
  obtain ⟨h0, m, hm⟩ := h
  exact ⟨Nat.lt_of_lt_of_le h0 hb.size, m, (hb.cell (p := ⟨0, 0, none⟩) h0).trans hm⟩
theorem parts_of (s : ByteArray) (P : ByteArray) (b ok : Bool) (h : Op.parts s.data.toList = (P.data.toList, b, ok)) (hs : s.size ≤ 1000) (w : World) (hm : Op.Len w) :
    Calls Tryd.prog 7 #[.string s] w fun e w' => e = .returned (.tuple #[.string P, .bool b, .bool ok]) ∧ Below w.heap.size w w' := by
  obtain ⟨_, m, hc⟩ := hm
  exact parts_is s P.data.toList b ok h hs m w hc
theorem rparts_of (s : ByteArray) (P : ByteArray) (b ok : Bool) (h : Op.parts s.data.toList = (P.data.toList, b, ok)) (hs : s.size ≤ 1000) (w : World) :
    Calls Tryd.prog 8 #[.string s] w fun e w' => e = .returned (.tuple #[.string P, .bool b, .bool ok]) ∧ w = w' :=
  rparts_is s P.data.toList b ok h hs w
set_option maxRecDepth 100000 in
set_option maxHeartbeats 2000000 in
theorem awake_any (w : World) (hm : Op.Len w) :
    Calls Tryd.prog 6 #[] w fun e w' => e = .returned (.bool true) ∧ Below w.heap.size w w' := by
  have HM := Aid.hid hm
  clear hm
  go_enter Tryd.func6, Tryd.ntmps6
  try simp only [List.append_eq, List.cons_append, List.nil_append]
  go_wp2_with fail
  refine (parts_of ⟨#[105, 114, 62, 105]⟩ ⟨#[105, 114]⟩ true true Op.parts_one (by decide) _ HM.out).mono ?_; rintro e w1 ⟨rfl, hb1⟩
  go_wp2_with fail
  refine (operands_is 20 2 (by decide) _).mono ?_; rintro e w2 ⟨rfl, rfl⟩
  go_wp2_with fail
  refine (operands_is 0 (-1) (by decide) _).mono ?_; rintro e w2 ⟨rfl, rfl⟩
  go_wp2_with fail
  refine (may_is 1 (-5) 0 true (by decide) _).mono ?_; rintro e w2 ⟨rfl, hb2⟩
  go_wp2_with fail
  refine (sig_any _ true _ (by decide)).mono ?_; rintro e w3 ⟨rfl, rfl⟩
  rw [show ((⟨#[105, 114]⟩ : ByteArray) ++ (if true = true then (⟨#[62, 105]⟩ : ByteArray) else ⟨#[62]⟩)) = ⟨#[105, 114, 62, 105]⟩ by rfl]
  go_wp2_with fail
  refine (frame_any _ _ _ _ _ _ _ _ _ (by decide) (by decide)).mono ?_; rintro e w3 ⟨rfl, hb3⟩
  rw [show Op.frame ⟨#[105]⟩ ⟨#[114, 114]⟩ 4 = 7 by unfold Op.frame; rw [show ((⟨#[105]⟩ : ByteArray).size : Int) = 1 from rfl, show ((⟨#[114, 114]⟩ : ByteArray).size : Int) = 2 from rfl]; unfold wrap64; omega]
  go_wp2_with fail
  go_ret
  exact ⟨rfl, (hb1.trans (hb2.mono hb1.size)).trans (hb3.mono (Nat.le_trans hb1.size hb2.size))⟩
end Go.Proofs.YtbclpknmeaaajaaDoor
