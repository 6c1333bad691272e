/-
  DERIVED. GIVEN WITH THE SEED: THE CARDS: each row of YtoinghomkcjkcaaGreatDoorRows.lean that lists a variable, with what it lists TIED to the program's text (the seventh form; the later family's looks); each row that meets fmt, with fmt's text TOLD by the authors' own Lean function (tested against real Go, not proved from fmt's source: count such statements apart). THE CARD IS WHAT COUNTS. Prove the row's statement (the work); the ties are given (YtoinghomkcjkcaaGreatDoorTie.lean); close each card by the builder's one call (the guide's Derived/Test/ToyasCard.lean, 'card_holds'). Laid BY PROGRAM, IN A SANDBOX (cutbox-door.mjs). By AI agents, Wed Nov 11 2026. No macro, syntax, notation, axiom, sorry.
-/
import Derived.Test.YtoinghomkcjkcaaGreatDoorRows
import GoSem.ClaimSeven
namespace Go.Proofs.YtoinghomkcjkcaaGreatDoor
namespace Rows

/-- THE TIED CARD OF 'governortop.TopCasts'. -/
def topCastsCard : Claim7 := { stood := { row := topCastsRow, standIns := [], harness := (true, "90e6d76f5db237ecdb946eac58ed4a430c681bc0c9a2533aa97d097726aaf49a"), looks := true }, kinds := [], alts := [], laidByText := true, laidKinds := [.data, .listed, .sentinel, .sentinel, .data, .data, .data, .handle, .pinned, .data], laidTests := true, laidLooks := .later }
def TopCastsCardSaid : Prop := Claim7.holds Tryz.pinned (.plain (OpenSpec.ofChange topCastsSpec)) topCastsCard

/-- THE TIED CARD OF 'governortop.TopFors'. -/
def topForsCard : Claim7 := { stood := { row := topForsRow, standIns := [], harness := (true, "90e6d76f5db237ecdb946eac58ed4a430c681bc0c9a2533aa97d097726aaf49a"), looks := true }, kinds := [], alts := [], laidByText := true, laidKinds := [.data, .listed, .sentinel, .sentinel, .data, .data, .data, .handle, .pinned, .data], laidTests := true, laidLooks := .later }
def TopForsCardSaid : Prop := Claim7.holds Tryz.pinned (.plain (OpenSpec.ofChange topForsSpec)) topForsCard

/-- THE TIED CARD OF 'governortop.TopLoops'. -/
def topLoopsCard : Claim7 := { stood := { row := topLoopsRow, standIns := [], harness := (true, "90e6d76f5db237ecdb946eac58ed4a430c681bc0c9a2533aa97d097726aaf49a"), looks := true }, kinds := [], alts := [], laidByText := true, laidKinds := [.data, .listed, .sentinel, .sentinel, .data, .data, .data, .handle, .pinned, .data], laidTests := true, laidLooks := .later }
def TopLoopsCardSaid : Prop := Claim7.holds Tryz.pinned (.plain (OpenSpec.ofChange topLoopsSpec)) topLoopsCard

/-- THE SECOND FORM's CARD OF 'governortop.TopCasts'. -/
def topCastsUptoCard : Claim7 := { stood := { row := topCastsUptoRow, standIns := [], harness := (true, "90e6d76f5db237ecdb946eac58ed4a430c681bc0c9a2533aa97d097726aaf49a"), looks := true }, kinds := [], alts := [], laidByText := true, laidKinds := [.data, .listed, .sentinel, .sentinel, .data, .data, .data, .handle, .pinned, .data], laidTests := true, laidLooks := .later }
def TopCastsUptoCardSaid : Prop := Claim7.holds Tryz.pinned (.plain (OpenSpec.upto topCastsSpec)) topCastsUptoCard

/-- THE SECOND FORM's CARD OF 'governortop.TopFors'. -/
def topForsUptoCard : Claim7 := { stood := { row := topForsUptoRow, standIns := [], harness := (true, "90e6d76f5db237ecdb946eac58ed4a430c681bc0c9a2533aa97d097726aaf49a"), looks := true }, kinds := [], alts := [], laidByText := true, laidKinds := [.data, .listed, .sentinel, .sentinel, .data, .data, .data, .handle, .pinned, .data], laidTests := true, laidLooks := .later }
def TopForsUptoCardSaid : Prop := Claim7.holds Tryz.pinned (.plain (OpenSpec.upto topForsSpec)) topForsUptoCard

/-- THE SECOND FORM's CARD OF 'governortop.TopLoops'. -/
def topLoopsUptoCard : Claim7 := { stood := { row := topLoopsUptoRow, standIns := [], harness := (true, "90e6d76f5db237ecdb946eac58ed4a430c681bc0c9a2533aa97d097726aaf49a"), looks := true }, kinds := [], alts := [], laidByText := true, laidKinds := [.data, .listed, .sentinel, .sentinel, .data, .data, .data, .handle, .pinned, .data], laidTests := true, laidLooks := .later }
def TopLoopsUptoCardSaid : Prop := Claim7.holds Tryz.pinned (.plain (OpenSpec.upto topLoopsSpec)) topLoopsUptoCard
end Rows
end Go.Proofs.YtoinghomkcjkcaaGreatDoor
