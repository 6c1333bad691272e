/- Fits, the document's; and in plain Lean. -/
import Derived.Test.YtmhdcehpddbjaaaTyB
import Derived.Test.YtmhdcehpddbjaaaTyC
import Derived.Test.YtmhdcehpddbjaaaRefD
import Derived.Test.YtmhdcehpddbjaaaTableIsL
import Derived.WalkKit
import Derived.WalkSpells
import Derived.WalkLawsBesides
import Derived.LoopTactic
import Derived.Deep.QuietTactic
import Derived.BigQuiet
import Derived.Below
import Derived.Laws.ResultCell
import Derived.Laws.Tables
import Derived.Laws.Rows
import Derived.Deep.Cut
import Derived.KernelRfl
namespace Go.Proofs.Ytmhdcehpddbjaaa
open Go.RowKit

set_option maxRecDepth 100000 in
set_option maxHeartbeats 4000000 in
theorem rfits_is (u : List Dk) (a : Option Addr) (B cap : Nat) (to fr : Ty) (r : Bool) (w : World) (hr : Ty.fits u to fr = r) (hu : UnitAt w B a u) (hB : B ≤ w.heap.size) :
    Calls Try.prog 22 #[.agg #[.slice a u.length cap], .agg #[.int .i64 to.k, .int .i64 to.lo, .int .i64 to.hi, .string to.name], .agg #[.int .i64 fr.k, .int .i64 fr.lo, .int .i64 fr.hi, .string fr.name]] w fun e w' => e = .returned (.bool r) ∧ Below w.heap.size w w' := by
  have HU := Aid.hid hu
  obtain ⟨q, hq⟩ : ∃ q, Tb.is u fr.name to.name = q := ⟨_, rfl⟩
  have HQ := Aid.hid hq
  have HR := Aid.hid hr
  clear hu hr hq
  go_enter Try.func22, Try.ntmps22
  try simp only [List.append_eq, List.cons_append, List.nil_append]
  go_wp2_with fail
  all_goals first | (go_ret; refine ⟨?_, (((Below.refl _ w).alloc (Nat.le_refl _) _).alloc (by simp) _).alloc (by simp; omega) _⟩; rw [← HR.out]; clear HR HQ HU; simp_all [Ty.fits]; done) | skip
  have K1 : ∀ x y z, Below w.heap.size w (((w.alloc x).alloc y).alloc z) := fun x y z => (((Below.refl _ w).alloc (Nat.le_refl _) _).alloc (by simp) _).alloc (by simp; omega) _
  refine (ris_is u a B cap fr.name to.name q _ HQ.out (HU.out.below (K1 _ _ _) hB) (Nat.le_trans hB (K1 _ _ _).size)).mono ?_
  rintro e w1 ⟨rfl, hb1⟩
  go_wp2_with fail
  go_ret
  refine ⟨?_, (K1 _ _ _).trans (hb1.mono (K1 _ _ _).size)⟩
  rw [← HR.out]; obtain rfl := HQ.out; clear HR HQ HU hb1 K1; simp_all [Ty.fits, Bool.or_assoc]
theorem Ty.fits_ref (u : List Dk) (a b : ByteArray) : Ty.fits u ⟨5, 0, 0, a⟩ ⟨5, 0, 0, b⟩ = (b.toList.isEmpty || (b.toList == a.toList || Tb.is u b a)) := by
  simp [Ty.fits]
theorem Ty.fits_trans (u : List Dk) (a b c : ByteArray) (hb : b.toList.isEmpty = false) (h1 : Ty.fits u ⟨5, 0, 0, a⟩ ⟨5, 0, 0, b⟩ = true) (h2 : Ty.fits u ⟨5, 0, 0, b⟩ ⟨5, 0, 0, c⟩ = true) : Ty.fits u ⟨5, 0, 0, a⟩ ⟨5, 0, 0, c⟩ = true := by
  rw [Ty.fits_ref] at h1 h2 ⊢
  rw [hb, Bool.false_or, Bool.or_eq_true] at h1
  rw [Bool.or_eq_true, Bool.or_eq_true] at h2 ⊢
  rcases h2 with h2 | h2 | h2
  · exact .inl h2
  · have e : c.toList = b.toList := by simpa using h2
    rcases h1 with h1 | h1
    · right; left; rw [e]; exact h1
    · right; right; rw [Tb.is_congr e rfl]; exact h1
  · rcases h1 with h1 | h1
    · have e : b.toList = a.toList := by simpa using h1
      right; right; rw [← Tb.is_congr rfl e]; exact h2
    · right; right; exact Tb.is_trans h2 h1
theorem Ty.fits_self (u : List Dk) (a : ByteArray) : Ty.fits u ⟨5, 0, 0, a⟩ ⟨5, 0, 0, a⟩ = true := by
  rw [Ty.fits_ref]; simp
theorem Ty.fits_null (u : List Dk) (a : ByteArray) : Ty.fits u ⟨5, 0, 0, a⟩ ⟨5, 0, 0, ⟨#[]⟩⟩ = true := by
  rw [Ty.fits_ref, show (⟨#[]⟩ : ByteArray).toList.isEmpty = true by kernel_rfl]; rfl
end Go.Proofs.Ytmhdcehpddbjaaa
