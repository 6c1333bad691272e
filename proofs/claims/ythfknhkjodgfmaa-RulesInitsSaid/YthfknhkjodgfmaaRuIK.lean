/- RulesInits: its numbers, what is known of them in each case, and its evaluation. -/
import Derived.Test.YthfknhkjodgfmaaEvK
import Derived.Test.YthfknhkjodgfmaaRows
import Derived.KernelRfl
namespace Go.Proofs.Ythfknhkjodgfmaa
set_option linter.unusedSimpArgs false
set_option linter.unusedVariables false
open Go Go.RowKit
open Ev
noncomputable section
def lowZ (i : Nat) (m : Int) : Z := .conv .i64 (.bin .rem .u64 (.conv .u64 (.var i)) (.lit m))
def zN : Z := .var 1
def zL : Z := .bin .sub .i64 (lowZ 2 50) (.lit 25)
def zH : Z := .bin .add .i64 zL (lowZ 3 30)
def zS : Z := .bin .sub .i64 (lowZ 5 12) (.lit 2)
def riNm (k d : Int) : List (Z × Int) := [(lowZ 0 5, k), (lowZ 4 3, d)]
def pEq (z : Z) (c : Int) (b : Bool) : List (Cd × Bool) := [((.eql, z, .lit c), b)]
def pGe (z : Z) (c : Int) (b : Bool) : List (Cd × Bool) := [((.geq, z, .lit c), b), ((.lss, z, .lit c), !b)]
/-- what lies in between, and where n lies -/
def pRange (x y : Bool) : List (Cd × Bool) := [((.geq, zL, .lit (-32768)), true), ((.leq, zH, .lit 32767), true), ((.leq, zL, zH), true), ((.geq, zN, zL), x), ((.leq, zN, zH), y)]
def riEv (k d : Int) (p : List (Cd × Bool)) : R1 := Ev.call (enOf Try.prog p (riNm k d) noOv []) 100000 4 [.i .i64 (.var 0), .i .i64 (.var 1), .i .i64 (.var 2), .i .i64 (.var 3), .i .i64 (.var 4), .i .i64 (.var 5)] (H0 [])
end
variable {ν : Nat → Int}
theorem path_eq {z : Z} {c : Int} {b : Bool} (h : decide (zval ν z = c) = b) : PathOk ν (pEq z c b) := by
  intro q hq
  simp only [pEq, List.mem_cons, List.not_mem_nil, or_false] at hq
  subst hq
  show eqI _ _ = b
  rw [eqI_eq, ← h]; rfl
theorem path_ge {z : Z} {c : Int} {b : Bool} (h : decide (c ≤ zval ν z) = b) : PathOk ν (pGe z c b) := by
  intro q hq
  simp only [pGe, List.mem_cons, List.not_mem_nil, or_false] at hq
  rcases hq with rfl | rfl
  · show (!ltI (zval ν z) c) = b; rw [ltI_eq, ← h, ← decide_not]; exact decide_eq_decide.2 (by omega)
  · show ltI (zval ν z) c = !b; rw [ltI_eq, ← h, ← decide_not]; exact decide_eq_decide.2 (by omega)
theorem wrap_small {n : Int} (h : -9223372036854775808 ≤ n) (h' : n < 9223372036854775808) : IntKind.i64.wrap n = n := by
  rw [IntKind.wrap_i64]; omega
theorem low_in (i : Nat) (m : Int) (h : 0 < m) (h' : m ≤ 1000) : 0 ≤ zval ν (lowZ i m) ∧ zval ν (lowZ i m) < m := by
  have e : zval ν (lowZ i m) = IntKind.i64.wrap ((IntKind.u64.wrap (ν i)).tmod m) := rfl
  have h0 : 0 ≤ IntKind.u64.wrap (ν i) := by rw [IntKind.wrap_u64]; omega
  have h1 := Int.tmod_nonneg m h0
  have h2 := Int.tmod_lt_of_pos (IntKind.u64.wrap (ν i)) h
  rw [e, wrap_small (by omega) (by omega)]
  exact ⟨h1, h2⟩
theorem zL_in : -25 ≤ zval ν zL ∧ zval ν zL < 25 := by
  have h := low_in (ν := ν) 2 50 (by omega) (by omega)
  have e : zval ν zL = IntKind.i64.wrap (zval ν (lowZ 2 50) - 25) := rfl
  rw [e, wrap_small (by omega) (by omega)]; omega
theorem zH_in : zval ν zL ≤ zval ν zH ∧ zval ν zH ≤ 60 := by
  have h := low_in (ν := ν) 3 30 (by omega) (by omega)
  have hL := zL_in (ν := ν)
  have e : zval ν zH = IntKind.i64.wrap (zval ν zL + zval ν (lowZ 3 30)) := rfl
  rw [e, wrap_small (by omega) (by omega)]; omega
theorem path_range {x y : Bool} (hx : decide (zval ν zL ≤ zval ν zN) = x) (hy : decide (zval ν zN ≤ zval ν zH) = y) : PathOk ν (pRange x y) := by
  have hL := zL_in (ν := ν)
  have hH := zH_in (ν := ν)
  intro q hq
  simp only [pRange, List.mem_cons, List.not_mem_nil, or_false] at hq
  rcases hq with rfl | rfl | rfl | rfl | rfl
  · show (!ltI (zval ν zL) (-32768)) = true; rw [ltI_eq, ← decide_not, decide_eq_true_eq]; omega
  · show (!ltI 32767 (zval ν zH)) = true; rw [ltI_eq, ← decide_not, decide_eq_true_eq]; omega
  · show (!ltI (zval ν zH) (zval ν zL)) = true; rw [ltI_eq, ← decide_not, decide_eq_true_eq]; omega
  · show (!ltI (zval ν zN) (zval ν zL)) = x; rw [ltI_eq, ← hx, ← decide_not]; exact decide_eq_decide.2 (by omega)
  · show (!ltI (zval ν zH) (zval ν zN)) = y; rw [ltI_eq, ← hy, ← decide_not]; exact decide_eq_decide.2 (by omega)
theorem norm_ri {k d : Int} (hk : zval ν (lowZ 0 5) = k) (hd : zval ν (lowZ 4 3) = d) : NormOk ν (riNm k d) := by
  intro q hq
  simp only [riNm, List.mem_cons, List.not_mem_nil, or_false] at hq
  rcases hq with rfl | rfl
  · exact hk
  · exact hd
end Go.Proofs.Ythfknhkjodgfmaa
