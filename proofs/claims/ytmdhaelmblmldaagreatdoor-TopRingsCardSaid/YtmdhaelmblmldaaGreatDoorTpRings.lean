/- TopRings: it answers true, whatever comes in. -/
import Derived.Test.YtmdhaelmblmldaaGreatDoorTpRings0t
import Derived.Test.YtmdhaelmblmldaaGreatDoorTpRings0f
import Derived.Test.YtmdhaelmblmldaaGreatDoorTpRings1t
import Derived.Test.YtmdhaelmblmldaaGreatDoorTpRings1f
import Derived.Test.YtmdhaelmblmldaaGreatDoorTpRings2t
import Derived.Test.YtmdhaelmblmldaaGreatDoorTpRings2f
namespace Go.Proofs.YtmdhaelmblmldaaGreatDoor
set_option linter.unusedSimpArgs false
set_option linter.unusedVariables false
set_option linter.constructorNameAsVariable false
open Go Go.RowKit
open Ev
theorem topRings_any (x : Int) (b : Bool) (w : World) (hA : Tp.Asc w) : Calls Tryz.prog 14 #[.int .i64 x, .bool b] w (fun e w' => e = .returned (.bool true) ∧ Below w.heap.size w w') := by
  obtain ⟨h1, h2⟩ := low_in (ν := fun _ => x) 0 3 (by decide) (by decide)
  have key : ∀ m : Int, zval (fun _ => x) (lowZ 0 3) = m → okv (aEv [] [(lowZ 0 3, m)] 14 [.i .i64 (.var 0), .b b]) = some (.b true) → Calls Tryz.prog 14 #[.int .i64 x, .bool b] w (fun e w' => e = .returned (.bool true) ∧ Below w.heap.size w w') := fun m hm hv =>
    ta_true (ν := fun _ => x) w hA (path := []) (norm := [(lowZ 0 3, m)]) no_path (by intro p hp; obtain rfl := List.mem_singleton.1 hp; exact hm) hv (args := [.int .i64 x, .bool b]) (by simp [VRs, VR, zval])
  obtain h | h | h : zval (fun _ => x) (lowZ 0 3) = 0 ∨ zval (fun _ => x) (lowZ 0 3) = 1 ∨ zval (fun _ => x) (lowZ 0 3) = 2 := by omega
  · cases b
    · exact key 0 h rings0f_ev
    · exact key 0 h rings0t_ev
  · cases b
    · exact key 1 h rings1f_ev
    · exact key 1 h rings1t_ev
  · cases b
    · exact key 2 h rings2f_ev
    · exact key 2 h rings2t_ev
end Go.Proofs.YtmdhaelmblmldaaGreatDoor
