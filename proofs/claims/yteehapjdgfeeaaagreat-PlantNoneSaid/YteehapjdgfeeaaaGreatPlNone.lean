/- PlantNone answers true, whatever the number: by evaluation. -/
import Derived.Test.YteehapjdgfeeaaaGreatEvJ
import Derived.Test.YteehapjdgfeeaaaGreatRows
import Derived.KernelRfl
namespace Go.Proofs.YteehapjdgfeeaaaGreat
open Go Go.RowKit
open Ev
noncomputable def enPlNone : En := enOf Tryz.prog [] [] noOv []
theorem plantNone_ev : okv (Ev.call enPlNone 100000 3 [.i .i64 (.var 0)] (H0 [])) = some (.b true) := by kernel_rfl
theorem ev_mo : Tryz.prog.follows .mixedOrders = true := by kernel_rfl
theorem ev_fo : flatOk Tryz.prog = true := by kernel_rfl
theorem ev_sz : (Nat.ble Tryz.prog.types.size 100000 && Nat.ble Tryz.prog.funcs.size 100000) = true := by kernel_rfl
theorem plantNone_any (n : Int) (w : World) : Calls Tryz.prog 3 #[.int .i64 n] w (fun e w' => e = .returned (.bool true) ∧ Below w.heap.size w w') :=
  eval_true (P := Tryz.prog) (ν := fun _ => n) (w := w) ev_sz ev_fo ev_mo (path := []) (norm := []) (by intro c hc; cases hc) (by intro c hc; cases hc) (l := []) (by intro p hp; cases hp) plantNone_ev (args := [.int .i64 n]) (by simp [VRs, VR, zval])
end Go.Proofs.YteehapjdgfeeaaaGreat
