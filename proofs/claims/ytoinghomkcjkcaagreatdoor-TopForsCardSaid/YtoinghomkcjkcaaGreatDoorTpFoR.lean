/- FOR's loop: how many turns, and what is behind it. -/
import Derived.Test.YtoinghomkcjkcaaGreatDoorTpN
namespace Go.Proofs.YtoinghomkcjkcaaGreatDoor
set_option linter.unusedSimpArgs false
set_option linter.unusedVariables false
set_option linter.constructorNameAsVariable false
open Go Go.RowKit
open Ev
/-- From n turns and k on, while c: N turns, K behind. -/
inductive ForR (c : Int → Prop) (b : Int) : Int → Int → Int → Int → Prop
  | stop {n k : Int} (h : ¬ c k) : ForR c b n k n k
  | step {n k N K : Int} (h : c k) (r : ForR c b (n + 1) (k + b) N K) : ForR c b n k N K
theorem ForR.halt {c : Int → Prop} {b n k N K : Int} (h : ForR c b n k N K) (hk : ¬ c k) : N = n ∧ K = k := by
  cases h with
  | stop _ => exact ⟨rfl, rfl⟩
  | step h _ => exact absurd h hk
theorem ForR.next {c : Int → Prop} {b n k N K : Int} (h : ForR c b n k N K) (hk : c k) : ForR c b (n + 1) (k + b) N K := by
  cases h with
  | stop h => exact absurd hk h
  | step _ r => exact r
theorem ForR.up {b t : Int} (hb : 1 ≤ b) : ∀ (m : Nat) (n k : Int), t + 1 - k ≤ (m : Int) → ∃ N K, ForR (fun x => x ≤ t) b n k N K
  | 0, n, k, h => ⟨n, k, .stop (by show ¬ k ≤ t; omega)⟩
  | m + 1, n, k, h => by
    by_cases hk : k ≤ t
    · obtain ⟨N, K, r⟩ := ForR.up (t := t) hb m (n + 1) (k + b) (by omega)
      exact ⟨N, K, .step hk r⟩
    · exact ⟨n, k, .stop hk⟩
theorem ForR.down {b t : Int} (hb : b ≤ -1) : ∀ (m : Nat) (n k : Int), k + 1 - t ≤ (m : Int) → ∃ N K, ForR (fun x => t ≤ x) b n k N K
  | 0, n, k, h => ⟨n, k, .stop (by show ¬ t ≤ k; omega)⟩
  | m + 1, n, k, h => by
    by_cases hk : t ≤ k
    · obtain ⟨N, K, r⟩ := ForR.down (t := t) hb m (n + 1) (k + b) (by omega)
      exact ⟨N, K, .step hk r⟩
    · exact ⟨n, k, .stop hk⟩
theorem fo_fn : fnB 4 4 = true := by kernel_rfl
theorem fo_one : Nat.beq (loopsC (bodyOf 4)).length 1 = true := by kernel_rfl
theorem fo_rnt0 : Nat.ble (fnOf 46).ntmps 100000 = true := by kernel_rfl
set_option maxRecDepth 1000000 in
theorem fo_rnt : (fnOf 46).ntmps ≤ 100000 := Nat.le_of_ble_eq_true fo_rnt0
theorem fo_rone : Nat.beq (loopsC (bodyOf 46)).length 1 = true := by kernel_rfl
end Go.Proofs.YtoinghomkcjkcaaGreatDoor
