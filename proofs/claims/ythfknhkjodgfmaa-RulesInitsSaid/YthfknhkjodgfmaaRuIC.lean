/- RulesInits: what an evaluation says of the program. -/
import Derived.Test.YthfknhkjodgfmaaRuIK
namespace Go.Proofs.Ythfknhkjodgfmaa
set_option linter.unusedSimpArgs false
set_option linter.unusedVariables false
open Go Go.RowKit
open Ev
theorem ev_mo : Try.prog.follows .mixedOrders = true := by kernel_rfl
theorem ev_fo : flatOk Try.prog = true := by kernel_rfl
theorem ev_sz : (Nat.ble Try.prog.types.size 100000 && Nat.ble Try.prog.funcs.size 100000) = true := by kernel_rfl
theorem ri_calls {ν : Nat → Int} (w : World) {k d : Int} {p : List (Cd × Bool)} (hk : zval ν (lowZ 0 5) = k) (hd : zval ν (lowZ 4 3) = d) (hp : PathOk ν p) (hv : okv (riEv k d p) = some (.b true)) :
    Calls Try.prog 4 #[.int .i64 (ν 0), .int .i64 (ν 1), .int .i64 (ν 2), .int .i64 (ν 3), .int .i64 (ν 4), .int .i64 (ν 5)] w (fun e w' => e = .returned (.bool true) ∧ Below w.heap.size w w') :=
  eval_true (P := Try.prog) (ν := ν) (w := w) ev_sz ev_fo ev_mo (path := p) (norm := riNm k d) hp (norm_ri hk hd) (l := []) (by intro p hp; cases hp) hv (args := [.int .i64 (ν 0), .int .i64 (ν 1), .int .i64 (ν 2), .int .i64 (ν 3), .int .i64 (ν 4), .int .i64 (ν 5)]) (by simp [VRs, VR, zval])
end Go.Proofs.Ythfknhkjodgfmaa
