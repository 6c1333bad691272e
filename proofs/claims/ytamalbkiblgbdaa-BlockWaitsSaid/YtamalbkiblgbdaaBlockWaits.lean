/- BlockWaits: all cases together. -/
import Derived.Test.YtamalbkiblgbdaaBlockWaitsB
import Derived.Test.YtamalbkiblgbdaaBlockWaitsC
namespace Go.Proofs.Ytamalbkiblgbdaa
open Go.RowKit

theorem waits_any (k0 cv0 pt x y : Int) (q l o i : Bool) (w : World) :
    Calls Try.prog 5 #[.agg #[.int .i64 k0, .bool q, .bool l, .bool o, .int .i64 cv0], .bool i, .int .i64 pt, .int .i64 x, .int .i64 y] w fun e w' => e = .returned (.bool true) ∧ Below w.heap.size w w' := by
  obtain ⟨h0, h1⟩ := low_in k0 3 (by decide)
  have h : low k0 3 = 0 ∨ low k0 3 = 1 ∨ low k0 3 = 2 := by omega
  rcases h with h | h | h
  · cases i
    · exact waits_ton_faa k0 cv0 pt x y q l o w h
    · cases o
      · exact waits_ton_tfa k0 cv0 pt x y q l w h
      · exact waits_ton_tta k0 cv0 pt x y q l w h
  · cases i
    · exact waits_tof_faa k0 cv0 pt x y q l o w h
    · cases o
      · exact waits_tof_tfa k0 cv0 pt x y q l w h
      · exact waits_tof_tta k0 cv0 pt x y q l w h
  · cases i
    · exact waits_tp_faa k0 cv0 pt x y q l o w h
    · cases o
      · cases l
        · exact waits_tp_tff k0 cv0 pt x y q w h
        · exact waits_tp_tft k0 cv0 pt x y q w h
      · exact waits_tp_tta k0 cv0 pt x y q l w h
end Go.Proofs.Ytamalbkiblgbdaa
