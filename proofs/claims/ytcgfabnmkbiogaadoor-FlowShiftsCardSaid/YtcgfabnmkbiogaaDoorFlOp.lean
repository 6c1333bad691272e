/- Sig, as a walk. -/
import Derived.Test.YtcgfabnmkbiogaaDoorProg
import Derived.Test.YtcgfabnmkbiogaaDoorOpParts
import Derived.Test.YtcgfabnmkbiogaaDoorAid
import Derived.WalkKit
import Derived.WalkSpells
import Derived.WalkLawsBesides
import Derived.LoopTactic
import Derived.Outline
namespace Go.Proofs.YtcgfabnmkbiogaaDoor
open Go.RowKit

set_option maxHeartbeats 400000 in
theorem sig_any (p : ByteArray) (r : Bool) (w : World) (hp : p.size ≤ 1000) :
    Calls Tryd.prog 30 #[.string p, .bool r] w fun e w' => e = .returned (.string (p ++ if r then ⟨#[62, 105]⟩ else ⟨#[62]⟩)) ∧ w = w' := by
  cases r
  · go_enter Tryd.func30, Tryd.ntmps30
    go_wp2_with fail
    go_ret
    exact ⟨rfl, rfl⟩
  · go_enter Tryd.func30, Tryd.ntmps30
    go_wp2_with fail
    go_ret
    exact ⟨rfl, rfl⟩
end Go.Proofs.YtcgfabnmkbiogaaDoor
