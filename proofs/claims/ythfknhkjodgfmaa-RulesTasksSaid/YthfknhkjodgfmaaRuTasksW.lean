/- RulesTasks answers true, whatever the numbers: by twelve evaluations. -/
import Derived.Test.YthfknhkjodgfmaaEvK
import Derived.Test.YthfknhkjodgfmaaRows
import Derived.KernelRfl
namespace Go.Proofs.Ythfknhkjodgfmaa
set_option linter.unusedSimpArgs false
set_option linter.unusedVariables false
open Go Go.RowKit
open Ev
noncomputable section
def zE : Z := .bin .sub .i64 (.conv .i64 (.bin .rem .u64 (.conv .u64 (.var 0)) (.lit 114))) (.lit 3)
def zF : Z := .bin .sub .i64 (.conv .i64 (.bin .rem .u64 (.conv .u64 (.var 1)) (.lit 20))) (.lit 3)
def rtEv (p : List (Cd × Bool)) (a b : Bool) : R1 := Ev.call (enOf Try.prog p [] noOv []) 100000 3 [.i .i64 (.var 0), .i .i64 (.var 1), .b a, .b b] (H0 [])
end
theorem rt_nf : okv (rtEv [] false false) = some (.b true) := by kernel_rfl
theorem rt_e1f : okv (rtEv (pLow zE 1) true false) = some (.b true) := by kernel_rfl
theorem rt_e2f : okv (rtEv (pHigh zE 1 100) true false) = some (.b true) := by kernel_rfl
theorem rt_f1f : okv (rtEv (Ev.app (pIn zE 1 100) (pLow zF 0)) true false) = some (.b true) := by kernel_rfl
theorem rt_f2f : okv (rtEv (Ev.app (pIn zE 1 100) (pIn zF 0 9)) true false) = some (.b true) := by kernel_rfl
theorem rt_f3f : okv (rtEv (Ev.app (pIn zE 1 100) (pHigh zF 0 9)) true false) = some (.b true) := by kernel_rfl
theorem rt_nt : okv (rtEv [] false true) = some (.b true) := by kernel_rfl
theorem rt_e1t : okv (rtEv (pLow zE 1) true true) = some (.b true) := by kernel_rfl
theorem rt_e2t : okv (rtEv (pHigh zE 1 100) true true) = some (.b true) := by kernel_rfl
theorem rt_f1t : okv (rtEv (Ev.app (pIn zE 1 100) (pLow zF 0)) true true) = some (.b true) := by kernel_rfl
theorem rt_f2t : okv (rtEv (Ev.app (pIn zE 1 100) (pIn zF 0 9)) true true) = some (.b true) := by kernel_rfl
theorem rt_f3t : okv (rtEv (Ev.app (pIn zE 1 100) (pHigh zF 0 9)) true true) = some (.b true) := by kernel_rfl
theorem ev_mo : Try.prog.follows .mixedOrders = true := by kernel_rfl
theorem ev_fo : flatOk Try.prog = true := by kernel_rfl
theorem ev_sz : (Nat.ble Try.prog.types.size 100000 && Nat.ble Try.prog.funcs.size 100000) = true := by kernel_rfl
def rtN (x y : Int) : Nat → Int := fun i => if i = 0 then x else y
theorem rt_calls (x y : Int) (a b : Bool) (w : World) {p : List (Cd × Bool)} (hp : PathOk (rtN x y) p) (hv : okv (rtEv p a b) = some (.b true)) :
    Calls Try.prog 3 #[.int .i64 x, .int .i64 y, .bool a, .bool b] w (fun e w' => e = .returned (.bool true) ∧ Below w.heap.size w w') :=
  eval_true (P := Try.prog) (ν := rtN x y) (w := w) ev_sz ev_fo ev_mo (path := p) (norm := []) hp (by intro c hc; cases hc) (l := []) (by intro p hp; cases hp) hv (args := [.int .i64 x, .int .i64 y, .bool a, .bool b]) (by simp [VRs, VR, zval, rtN])
theorem rulesTasks_any (x y : Int) (a b : Bool) (w : World) :
    Calls Try.prog 3 #[.int .i64 x, .int .i64 y, .bool a, .bool b] w (fun e w' => e = .returned (.bool true) ∧ Below w.heap.size w w') := by
  cases a with
  | false => cases b with
    | false => exact rt_calls x y false false w (by intro c hc; cases hc) rt_nf
    | true => exact rt_calls x y false true w (by intro c hc; cases hc) rt_nt
  | true =>
    by_cases h1 : zval (rtN x y) zE < 1
    · cases b with
      | false => exact rt_calls x y true false w (path_low h1) rt_e1f
      | true => exact rt_calls x y true true w (path_low h1) rt_e1t
    · by_cases h2 : 100 < zval (rtN x y) zE
      · cases b with
        | false => exact rt_calls x y true false w (path_high (by omega) h2) rt_e2f
        | true => exact rt_calls x y true true w (path_high (by omega) h2) rt_e2t
      · have hE : PathOk (rtN x y) (pIn zE 1 100) := path_in (by omega) (by omega)
        by_cases h3 : zval (rtN x y) zF < 0
        · cases b with
          | false => exact rt_calls x y true false w (hE.app (path_low h3)) rt_f1f
          | true => exact rt_calls x y true true w (hE.app (path_low h3)) rt_f1t
        · by_cases h4 : 9 < zval (rtN x y) zF
          · cases b with
            | false => exact rt_calls x y true false w (hE.app (path_high (by omega) h4)) rt_f3f
            | true => exact rt_calls x y true true w (hE.app (path_high (by omega) h4)) rt_f3t
          · cases b with
            | false => exact rt_calls x y true false w (hE.app (path_in (by omega) (by omega))) rt_f2f
            | true => exact rt_calls x y true true w (hE.app (path_in (by omega) (by omega))) rt_f2t
end Go.Proofs.Ythfknhkjodgfmaa
