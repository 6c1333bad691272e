/- TypingFits: whatever comes in. -/
import Derived.Test.YtmhdcehpddbjaaaTypingFits
namespace Go.Proofs.Ytmhdcehpddbjaaa
open Go.RowKit

theorem typingFits_any (u : List Dk) (a : Option Addr) (cap : Nat) (to fr : Ty) (x1 x2 x3 : Int) (w : World) (hl : u.length ≤ 9223372036854775807) (hu : u.length ≤ 1000000000 → UnitAt w w.heap.size a u) :
    Calls Try.prog 5 #[.agg #[.slice a u.length cap], .agg #[.int .i64 to.k, .int .i64 to.lo, .int .i64 to.hi, .string to.name], .agg #[.int .i64 fr.k, .int .i64 fr.lo, .int .i64 fr.hi, .string fr.name], .int .i64 x1, .int .i64 x2, .int .i64 x3] w fun z w' => z = .returned (.bool true) ∧ Below w.heap.size w w' := by
  by_cases h : u.length ≤ 16
  · exact typingFits_main u a cap to fr x1 x2 x3 w (hu (by omega)) h
  · exact typingFits_big u u.length a cap to fr x1 x2 x3 w (by omega)
end Go.Proofs.Ytmhdcehpddbjaaa
