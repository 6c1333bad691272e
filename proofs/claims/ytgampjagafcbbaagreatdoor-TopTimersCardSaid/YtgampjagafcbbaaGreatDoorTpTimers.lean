/- TopTimers: it answers true, whatever comes in. -/
import Derived.Test.YtgampjagafcbbaaGreatDoorTpTi1
import Derived.Test.YtgampjagafcbbaaGreatDoorTpTi2
import Derived.Test.YtgampjagafcbbaaGreatDoorTpTiF
namespace Go.Proofs.YtgampjagafcbbaaGreatDoor
set_option linter.unusedSimpArgs false
set_option linter.unusedVariables false
set_option linter.constructorNameAsVariable false
open Go Go.RowKit
open Ev
def tiN0 (x y : Int) : Nat → Int := fun m => match m with | 0 => x | _ => y
def ti1Nv (x y : Int) (ln : Nat) : Nat → Int := fun m => match m with
  | 0 => x | 1 => y | 62 => (ln : Int) | 20 => 1 + zval (tiN0 x y) (lowZ 0 5) | 21 => 1 + zval (tiN0 x y) (lowZ 1 60)
  | 10 => 48 + (1 + zval (tiN0 x y) (lowZ 0 5))
  | 12 => 48 + (1 + zval (tiN0 x y) (lowZ 1 60))
  | _ => 0
def ti2Nv (x y : Int) (ln : Nat) : Nat → Int := fun m => match m with
  | 0 => x | 1 => y | 62 => (ln : Int) | 20 => 1 + zval (tiN0 x y) (lowZ 0 5) | 21 => 1 + zval (tiN0 x y) (lowZ 1 60)
  | 10 => 48 + (1 + zval (tiN0 x y) (lowZ 0 5))
  | 12 => 48 + (1 + zval (tiN0 x y) (lowZ 1 60)) / 10
  | 13 => 48 + (1 + zval (tiN0 x y) (lowZ 1 60)) % 10
  | 16 => (1 + zval (tiN0 x y) (lowZ 1 60)) / 10
  | 17 => (1 + zval (tiN0 x y) (lowZ 1 60)) % 10
  | _ => 0
theorem topTimers_any (x y : Int) (a0 : Option Addr) (b off ln cap : Nat) (zs : Nat → Int) (w : World) (hA : Tp.Asc w) (ha : 0 < ln → a0 = some ⟨b, off, none⟩) (hb : 0 < ln → b < w.heap.size) (hz : ∀ i, i < ln → w.cell? ⟨b, off + i, none⟩ = some (.int .i64 (zs i))) : Calls Tryz.prog 7 #[.int .i64 x, .int .i64 y, .slice a0 ln cap] w (fun e w' => e = .returned (.bool true) ∧ Below w.heap.size w w') := by
  obtain ⟨b', o', hpb, hm, hs⟩ : ∃ b' o', b' < w.heap.size ∧ HasTicks w b' o' ln zs ∧ (0 < ln → a0 = some ⟨b', o', none⟩) := by
    by_cases h : 0 < ln
    · exact ⟨b, off, hb h, hz, ha⟩
    · obtain ⟨cs, e, fz, h1, _⟩ := hA
      exact ⟨_, 0, (Array.getElem?_eq_some_iff.1 h1).1, fun i hi => by omega, fun h' => absurd h' h⟩
  have hv : ∀ ν : Nat → Int, ν 0 = x → ν 1 = y → ν 62 = (ln : Int) → VRs ν ((pl0 w [4]).put (bpOf 999) (b', o', 0)) [.i .i64 (.var 0), .i .i64 (.var 1), .sy (q 999) (.lit 0) (.var 62)] [.int .i64 x, .int .i64 y, .slice a0 ln cap] := by
    intro ν h0 h1 h62
    simp only [VRs, VR, zval]
    refine ⟨_, _, rfl, by rw [h0], _, _, rfl, by rw [h1], _, _, rfl, ⟨b', o', 0, ln, cap, a0, Pl.put_same .., rfl, h62.symm, Int.le_refl _, fun hp => ⟨o', hs (by omega), rfl⟩⟩, rfl⟩
  by_cases h40 : ln ≤ 40
  · obtain ⟨b1, c1⟩ := low_in (ν := tiN0 x y) 1 60 (by decide) (by decide)
    by_cases g : 1 + zval (tiN0 x y) (lowZ 1 60) < 10
    · exact ti1 (ν := ti1Nv x y ln) ⟨rfl, rfl, (by show (0 : Int) ≤ (ln : Int); omega), (by show (ln : Int) ≤ 40; omega)⟩ ⟨(by show 0 ≤ 1 + zval (tiN0 x y) (lowZ 1 60); omega), g⟩ rfl rfl w hA hpb rfl hm (hv _ rfl rfl rfl)
    · exact ti2 (ν := ti2Nv x y ln) ⟨rfl, rfl, (by show (0 : Int) ≤ (ln : Int); omega), (by show (ln : Int) ≤ 40; omega)⟩ ⟨(by show 10 ≤ 1 + zval (tiN0 x y) (lowZ 1 60); omega), (by show 1 + zval (tiN0 x y) (lowZ 1 60) < 100; omega)⟩ rfl rfl rfl rfl rfl w hA hpb rfl hm (hv _ rfl rfl rfl)
  · refine law_trueY (ν := fun m => match m with | 0 => x | 1 => y | 62 => (ln : Int) | _ => 0) (g := 7) (xs := [.i .i64 (.var 0), .i .i64 (.var 1), .sy (q 999) (.lit 0) (.var 62)]) (lov := noLov) (p := (b', o', 0)) (args := [.int .i64 x, .int .i64 y, .slice a0 ln cap]) w hA sOv_good (path_cons (fc_gt (by show (40 : Int) < (ln : Int); omega)) path_nil) norm_nil (show fnB 7 (len [V.i .i64 (.var 0), V.i .i64 (.var 1), V.sy (q 999) (.lit 0) (.var 62)]) = true from ti_fn) hpb (fun c1 hc => anyLov_ok) ti_long_ev (hv _ rfl rfl rfl)
end Go.Proofs.YtgampjagafcbbaaGreatDoor
