/- The two classes of chapter 6's awake, in plain Lean. -/
import Derived.Test.YtjhlcfaakhabfaaTabG
namespace Go.Proofs.Ytjhlcfaakhabfaa
open Go.RowKit

def Tb.M0 : Md := ⟨⟨#[77]⟩, false, false, false, none, [], 0, ⟨0, 0, 0, .empty⟩, none, [], 0, none, [], 0⟩
def Tb.dA (mA : Option Addr) : Dk := ⟨2, ⟨#[65]⟩, .empty, none, [], 0, false, false, none, [], 0, mA, [Tb.M0], 1, none, [], 0, 0, 0⟩
def Tb.dB : Dk := ⟨2, ⟨#[66]⟩, ⟨#[65]⟩, none, [], 0, false, false, none, [], 0, none, [], 0, none, [], 0, 0, 0⟩
def Tb.two (mA : Option Addr) : List Dk := [Tb.dA mA, Tb.dB]
theorem Tb.two_findA (mA : Option Addr) : Tb.find (Tb.two mA) ⟨#[65]⟩ = 0 := by kernel_rfl
theorem Tb.two_findB (mA : Option Addr) : Tb.find (Tb.two mA) ⟨#[66]⟩ = 1 := by kernel_rfl
theorem Tb.two_findC (mA : Option Addr) : Tb.find (Tb.two mA) ⟨#[67]⟩ = -1 := by kernel_rfl
theorem Tb.two_chain (mA : Option Addr) : Tb.chain (Tb.two mA) 1 = [1, 0] := by kernel_rfl
theorem Tb.two_method (mA : Option Addr) : Tb.method (Tb.two mA) 1 ⟨#[77]⟩ = (0, 0, true) := by kernel_rfl
theorem Tb.two_is (mA : Option Addr) : Tb.is (Tb.two mA) ⟨#[66]⟩ ⟨#[65]⟩ = true := by kernel_rfl
theorem Tb.two_isnt (mA : Option Addr) : Tb.is (Tb.two mA) ⟨#[65]⟩ ⟨#[66]⟩ = false := by kernel_rfl

theorem Rows.one {w : World} {B b sz : Nat} {t : TypeId} {r : List Value} (h : Aid.Has w b r t) (hb : b < B) : Rows w B sz (some ⟨b, 0, none⟩) [r] := fun _ =>
  ⟨b, 0, rfl, hb, fun i x hx j v hv => by
    match i, hx with
    | 0, hx => cases hx; exact h.cell (0 + 0 * sz + j) v (by simpa using hv)⟩
theorem Rows.two {w : World} {B b sz : Nat} {t : TypeId} {r s : List Value} (h : Aid.Has w b (r ++ s) t) (hr : r.length = sz) (hb : b < B) : Rows w B sz (some ⟨b, 0, none⟩) [r, s] := fun _ =>
  ⟨b, 0, rfl, hb, fun i x hx j v hv => by
    match i, hx with
    | 0, hx =>
      cases hx
      have hj : j < r.length := (List.getElem?_eq_some_iff.1 hv).1
      exact h.cell (0 + 0 * sz + j) v (by rw [show 0 + 0 * sz + j = j by omega, List.getElem?_append_left hj]; exact hv)
    | 1, hx =>
      cases hx
      exact h.cell (0 + 1 * sz + j) v (by rw [show 0 + 1 * sz + j = r.length + j by omega, List.getElem?_append_right (by omega), Nat.add_sub_cancel_left]; exact hv)⟩

set_option maxRecDepth 100000 in
set_option maxHeartbeats 1000000 in
theorem two_any (w : World) :
    Calls Try.prog 33 #[] w fun e w' => ∃ a mA, e = .returned (.agg #[.slice a 2 2]) ∧ UnitAt w' w'.heap.size a (Tb.two mA) ∧ Below w.heap.size w w' := by
  go_enter Try.func33, Try.ntmps33
  go_wp2_with fail
  have e1 : (w.alloc (.cells #[.slice (some ⟨w.heap.size + 1 + 1, 0, none⟩) 2 2] 24)).heap.size = w.heap.size + 1 := by simp
  have e2 : ((w.alloc (.cells #[.slice (some ⟨w.heap.size + 1 + 1, 0, none⟩) 2 2] 24)).alloc (.cells Tb.M0.cells.toArray 42)).heap.size = w.heap.size + 1 + 1 := by simp
  have h0 := ((Aid.Has.new w [.slice (some ⟨w.heap.size + 1 + 1, 0, none⟩) 2 2] 24).alloc (.cells Tb.M0.cells.toArray 42)).alloc (.cells (((Tb.two (some ⟨w.heap.size + 1, 0, none⟩)).map Dk.cells).flatten).toArray 32)
  have h1 := (Aid.Has.new (w.alloc (.cells #[.slice (some ⟨w.heap.size + 1 + 1, 0, none⟩) 2 2] 24)) Tb.M0.cells 42).alloc (.cells (((Tb.two (some ⟨w.heap.size + 1, 0, none⟩)).map Dk.cells).flatten).toArray 32)
  rw [e1] at h1
  have h2 := Aid.Has.new ((w.alloc (.cells #[.slice (some ⟨w.heap.size + 1 + 1, 0, none⟩) 2 2] 24)).alloc (.cells Tb.M0.cells.toArray 42)) (((Tb.two (some ⟨w.heap.size + 1, 0, none⟩)).map Dk.cells).flatten) 32
  rw [e2] at h2
  have c0 := h0.cell 0 _ rfl
  refine bodyPost_ret (v := .agg #[.slice (some ⟨w.heap.size + 1 + 1, 0, none⟩) 2 2]) (by simp [results, Try.results33, go_sem]) rfl ⟨_, some ⟨w.heap.size + 1, 0, none⟩, rfl, ?_, ?_⟩
  · refine ⟨?_, ?_, by simp [Tb.two]⟩
    · exact Rows.two (t := 32) h2 rfl (by simp)
    · intro d hd
      have hd2 : d = Tb.dA (some ⟨w.heap.size + 1, 0, none⟩) ∨ d = Tb.dB := by simpa [Tb.two] using hd
      rcases hd2 with rfl | rfl
      · refine ⟨Rows.nil_ _ _ _ _, Rows.nil_ _ _ _ _, Rows.one (t := 42) h1 (by first | omega | simp | (simp; omega)), ?_, by simp [Tb.dA], by simp [Tb.dA], by simp [Tb.dA], 0, rfl⟩
        intro m hm
        obtain rfl : m = Tb.M0 := by simpa [Tb.dA] using hm
        exact ⟨Rows.nil_ _ _ _ _, Rows.nil_ _ _ _ _, by decide, by decide, 0, rfl⟩
      · exact ⟨Rows.nil_ _ _ _ _, Rows.nil_ _ _ _ _, Rows.nil_ _ _ _ _, fun m hm => by simp [Tb.dB] at hm, by decide, by decide, by decide, 0, rfl⟩
  · exact (((Below.refl _ _).alloc (Nat.le_refl _) _).alloc (by simp) _).alloc (by simp; omega) _
end Go.Proofs.Ytjhlcfaakhabfaa
