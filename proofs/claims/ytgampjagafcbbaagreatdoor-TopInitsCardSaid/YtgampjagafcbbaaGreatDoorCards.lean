/-
  DERIVED. GIVEN WITH THE SEED: THE CARDS: each row of YtgampjagafcbbaaGreatDoorRows.lean that lists a variable, with what it lists TIED to the program's text (the seventh form; the later family's looks); each row that meets fmt, with fmt's text TOLD by the authors' own Lean function (tested against real Go, not proved from fmt's source: count such statements apart). THE CARD IS WHAT COUNTS. Prove the row's statement (the work); the ties are given (YtgampjagafcbbaaGreatDoorTie.lean); close each card by the builder's one call (the guide's Derived/Test/ToyasCard.lean, 'card_holds'). Laid BY PROGRAM, IN A SANDBOX (cutbox-door.mjs). By AI agents, Wed Nov 11 2026. No macro, syntax, notation, axiom, sorry.
-/
import Derived.Test.YtgampjagafcbbaaGreatDoorRows
import GoSem.ClaimSeven
namespace Go.Proofs.YtgampjagafcbbaaGreatDoor
namespace Rows

/-- THE TIED CARD OF 'governortop.TopCompares'. -/
def topComparesCard : Claim7 := { stood := { row := topComparesRow, standIns := [], harness := (true, "757e9b18c48d62b9e2ceb943cd19cb0b79f91d7742b58f2d409932e1c3a448e7"), looks := true }, kinds := [], alts := [], laidByText := true, laidKinds := [.data, .listed, .sentinel, .sentinel, .data, .data, .data, .handle, .pinned, .data], laidTests := true, laidLooks := .later }
def TopComparesCardSaid : Prop := Claim7.holds Tryz.pinned (.plain (OpenSpec.ofChange topComparesSpec)) topComparesCard

/-- THE TIED CARD OF 'governortop.TopCasts'. -/
def topCastsCard : Claim7 := { stood := { row := topCastsRow, standIns := [], harness := (true, "757e9b18c48d62b9e2ceb943cd19cb0b79f91d7742b58f2d409932e1c3a448e7"), looks := true }, kinds := [], alts := [], laidByText := true, laidKinds := [.data, .listed, .sentinel, .sentinel, .data, .data, .data, .handle, .pinned, .data], laidTests := true, laidLooks := .later }
def TopCastsCardSaid : Prop := Claim7.holds Tryz.pinned (.plain (OpenSpec.ofChange topCastsSpec)) topCastsCard

/-- THE TIED CARD OF 'governortop.TopRanges'. -/
def topRangesCard : Claim7 := { stood := { row := topRangesRow, standIns := [], harness := (true, "757e9b18c48d62b9e2ceb943cd19cb0b79f91d7742b58f2d409932e1c3a448e7"), looks := true }, kinds := [], alts := [], laidByText := true, laidKinds := [.data, .listed, .sentinel, .sentinel, .data, .data, .data, .handle, .pinned, .data], laidTests := true, laidLooks := .later }
def TopRangesCardSaid : Prop := Claim7.holds Tryz.pinned (.plain (OpenSpec.ofChange topRangesSpec)) topRangesCard

/-- THE TIED CARD OF 'governortop.TopFors'. -/
def topForsCard : Claim7 := { stood := { row := topForsRow, standIns := [], harness := (true, "757e9b18c48d62b9e2ceb943cd19cb0b79f91d7742b58f2d409932e1c3a448e7"), looks := true }, kinds := [], alts := [], laidByText := true, laidKinds := [.data, .listed, .sentinel, .sentinel, .data, .data, .data, .handle, .pinned, .data], laidTests := true, laidLooks := .later }
def TopForsCardSaid : Prop := Claim7.holds Tryz.pinned (.plain (OpenSpec.ofChange topForsSpec)) topForsCard

/-- THE TIED CARD OF 'governortop.TopTimers'. -/
def topTimersCard : Claim7 := { stood := { row := topTimersRow, standIns := [], harness := (true, "757e9b18c48d62b9e2ceb943cd19cb0b79f91d7742b58f2d409932e1c3a448e7"), looks := true }, kinds := [], alts := [], laidByText := true, laidKinds := [.data, .listed, .sentinel, .sentinel, .data, .data, .data, .handle, .pinned, .data], laidTests := true, laidLooks := .later }
def TopTimersCardSaid : Prop := Claim7.holds Tryz.pinned (.plain (OpenSpec.ofChange topTimersSpec)) topTimersCard

/-- THE TIED CARD OF 'governortop.TopOnce'. -/
def topOnceCard : Claim7 := { stood := { row := topOnceRow, standIns := [], harness := (true, "757e9b18c48d62b9e2ceb943cd19cb0b79f91d7742b58f2d409932e1c3a448e7"), looks := true }, kinds := [], alts := [], laidByText := true, laidKinds := [.data, .listed, .sentinel, .sentinel, .data, .data, .data, .handle, .pinned, .data], laidTests := true, laidLooks := .later }
def TopOnceCardSaid : Prop := Claim7.holds Tryz.pinned (.plain (OpenSpec.ofChange topOnceSpec)) topOnceCard

/-- THE TIED CARD OF 'governortop.TopInits'. -/
def topInitsCard : Claim7 := { stood := { row := topInitsRow, standIns := [], harness := (true, "757e9b18c48d62b9e2ceb943cd19cb0b79f91d7742b58f2d409932e1c3a448e7"), looks := true }, kinds := [], alts := [], laidByText := true, laidKinds := [.data, .listed, .sentinel, .sentinel, .data, .data, .data, .handle, .pinned, .data], laidTests := true, laidLooks := .later }
def TopInitsCardSaid : Prop := Claim7.holds Tryz.pinned (.plain (OpenSpec.ofChange topInitsSpec)) topInitsCard

/-- THE TIED CARD OF 'governortop.TopLoops'. -/
def topLoopsCard : Claim7 := { stood := { row := topLoopsRow, standIns := [], harness := (true, "757e9b18c48d62b9e2ceb943cd19cb0b79f91d7742b58f2d409932e1c3a448e7"), looks := true }, kinds := [], alts := [], laidByText := true, laidKinds := [.data, .listed, .sentinel, .sentinel, .data, .data, .data, .handle, .pinned, .data], laidTests := true, laidLooks := .later }
def TopLoopsCardSaid : Prop := Claim7.holds Tryz.pinned (.plain (OpenSpec.ofChange topLoopsSpec)) topLoopsCard

/-- THE SECOND FORM's CARD OF 'governortop.TopCompares'. -/
def topComparesUptoCard : Claim7 := { stood := { row := topComparesUptoRow, standIns := [], harness := (true, "757e9b18c48d62b9e2ceb943cd19cb0b79f91d7742b58f2d409932e1c3a448e7"), looks := true }, kinds := [], alts := [], laidByText := true, laidKinds := [.data, .listed, .sentinel, .sentinel, .data, .data, .data, .handle, .pinned, .data], laidTests := true, laidLooks := .later }
def TopComparesUptoCardSaid : Prop := Claim7.holds Tryz.pinned (.plain (OpenSpec.upto topComparesSpec)) topComparesUptoCard

/-- THE SECOND FORM's CARD OF 'governortop.TopCasts'. -/
def topCastsUptoCard : Claim7 := { stood := { row := topCastsUptoRow, standIns := [], harness := (true, "757e9b18c48d62b9e2ceb943cd19cb0b79f91d7742b58f2d409932e1c3a448e7"), looks := true }, kinds := [], alts := [], laidByText := true, laidKinds := [.data, .listed, .sentinel, .sentinel, .data, .data, .data, .handle, .pinned, .data], laidTests := true, laidLooks := .later }
def TopCastsUptoCardSaid : Prop := Claim7.holds Tryz.pinned (.plain (OpenSpec.upto topCastsSpec)) topCastsUptoCard

/-- THE SECOND FORM's CARD OF 'governortop.TopRanges'. -/
def topRangesUptoCard : Claim7 := { stood := { row := topRangesUptoRow, standIns := [], harness := (true, "757e9b18c48d62b9e2ceb943cd19cb0b79f91d7742b58f2d409932e1c3a448e7"), looks := true }, kinds := [], alts := [], laidByText := true, laidKinds := [.data, .listed, .sentinel, .sentinel, .data, .data, .data, .handle, .pinned, .data], laidTests := true, laidLooks := .later }
def TopRangesUptoCardSaid : Prop := Claim7.holds Tryz.pinned (.plain (OpenSpec.upto topRangesSpec)) topRangesUptoCard

/-- THE SECOND FORM's CARD OF 'governortop.TopFors'. -/
def topForsUptoCard : Claim7 := { stood := { row := topForsUptoRow, standIns := [], harness := (true, "757e9b18c48d62b9e2ceb943cd19cb0b79f91d7742b58f2d409932e1c3a448e7"), looks := true }, kinds := [], alts := [], laidByText := true, laidKinds := [.data, .listed, .sentinel, .sentinel, .data, .data, .data, .handle, .pinned, .data], laidTests := true, laidLooks := .later }
def TopForsUptoCardSaid : Prop := Claim7.holds Tryz.pinned (.plain (OpenSpec.upto topForsSpec)) topForsUptoCard

/-- THE SECOND FORM's CARD OF 'governortop.TopTimers'. -/
def topTimersUptoCard : Claim7 := { stood := { row := topTimersUptoRow, standIns := [], harness := (true, "757e9b18c48d62b9e2ceb943cd19cb0b79f91d7742b58f2d409932e1c3a448e7"), looks := true }, kinds := [], alts := [], laidByText := true, laidKinds := [.data, .listed, .sentinel, .sentinel, .data, .data, .data, .handle, .pinned, .data], laidTests := true, laidLooks := .later }
def TopTimersUptoCardSaid : Prop := Claim7.holds Tryz.pinned (.plain (OpenSpec.upto topTimersSpec)) topTimersUptoCard

/-- THE SECOND FORM's CARD OF 'governortop.TopOnce'. -/
def topOnceUptoCard : Claim7 := { stood := { row := topOnceUptoRow, standIns := [], harness := (true, "757e9b18c48d62b9e2ceb943cd19cb0b79f91d7742b58f2d409932e1c3a448e7"), looks := true }, kinds := [], alts := [], laidByText := true, laidKinds := [.data, .listed, .sentinel, .sentinel, .data, .data, .data, .handle, .pinned, .data], laidTests := true, laidLooks := .later }
def TopOnceUptoCardSaid : Prop := Claim7.holds Tryz.pinned (.plain (OpenSpec.upto topOnceSpec)) topOnceUptoCard

/-- THE SECOND FORM's CARD OF 'governortop.TopInits'. -/
def topInitsUptoCard : Claim7 := { stood := { row := topInitsUptoRow, standIns := [], harness := (true, "757e9b18c48d62b9e2ceb943cd19cb0b79f91d7742b58f2d409932e1c3a448e7"), looks := true }, kinds := [], alts := [], laidByText := true, laidKinds := [.data, .listed, .sentinel, .sentinel, .data, .data, .data, .handle, .pinned, .data], laidTests := true, laidLooks := .later }
def TopInitsUptoCardSaid : Prop := Claim7.holds Tryz.pinned (.plain (OpenSpec.upto topInitsSpec)) topInitsUptoCard

/-- THE SECOND FORM's CARD OF 'governortop.TopLoops'. -/
def topLoopsUptoCard : Claim7 := { stood := { row := topLoopsUptoRow, standIns := [], harness := (true, "757e9b18c48d62b9e2ceb943cd19cb0b79f91d7742b58f2d409932e1c3a448e7"), looks := true }, kinds := [], alts := [], laidByText := true, laidKinds := [.data, .listed, .sentinel, .sentinel, .data, .data, .data, .handle, .pinned, .data], laidTests := true, laidLooks := .later }
def TopLoopsUptoCardSaid : Prop := Claim7.holds Tryz.pinned (.plain (OpenSpec.upto topLoopsSpec)) topLoopsUptoCard
end Rows
end Go.Proofs.YtgampjagafcbbaaGreatDoor
