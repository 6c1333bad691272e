/-
  DERIVED. GIVEN WITH THE SEED: THE CARDS: each row of YtbclpknmeaaajaaDoorRows.lean that lists a variable, with what it lists TIED to the program's text (the seventh form; the later family's looks); each row that meets fmt, with fmt's text TOLD by the authors' own Lean function (tested against real Go, not proved from fmt's source: count such statements apart). THE CARD IS WHAT COUNTS. Prove the row's statement (the work); the ties are given (YtbclpknmeaaajaaDoorTie.lean); close each card by the builder's one call (the guide's Derived/Test/ToyasCard.lean, 'card_holds'). Laid BY PROGRAM, IN A SANDBOX (cutbox-door.mjs). By AI agents, Wed Nov 11 2026. No macro, syntax, notation, axiom, sorry.
-/
import Derived.Test.YtbclpknmeaaajaaDoorRows
import GoSem.ClaimSeven
namespace Go.Proofs.YtbclpknmeaaajaaDoor
namespace Rows

/-- THE TIED CARD OF 'governorlaw14.OpTells'. -/
def opTellsCard : Claim7 := { stood := { row := opTellsRow, standIns := [], harness := (true, "154dd59029fe334a85f06dfe698e22b474b15a930553b94833db7cc1b1608e1c"), looks := false }, kinds := [], alts := [], laidByText := true, laidKinds := [.data, .pinned], laidTests := true, laidLooks := .later }
def OpTellsCardSaid : Prop := Claim7.holds Tryd.pinned (.plain (OpenSpec.ofChange opTellsSpec)) opTellsCard

/-- THE TIED CARD OF 'governorlaw14.OpSigs'. -/
def opSigsCard : Claim7 := { stood := { row := opSigsRow, standIns := [], harness := (true, "154dd59029fe334a85f06dfe698e22b474b15a930553b94833db7cc1b1608e1c"), looks := false }, kinds := [], alts := [], laidByText := true, laidKinds := [.data, .pinned], laidTests := true, laidLooks := .later }
def OpSigsCardSaid : Prop := Claim7.holds Tryd.pinned (.plain (OpenSpec.ofChange opSigsSpec)) opSigsCard

/-- THE TIED CARD OF 'governorlaw14.OpBounds'. -/
def opBoundsCard : Claim7 := { stood := { row := opBoundsRow, standIns := [], harness := (true, "154dd59029fe334a85f06dfe698e22b474b15a930553b94833db7cc1b1608e1c"), looks := false }, kinds := [], alts := [], laidByText := true, laidKinds := [.data, .pinned], laidTests := true, laidLooks := .later }
def OpBoundsCardSaid : Prop := Claim7.holds Tryd.pinned (.plain (OpenSpec.ofChange opBoundsSpec)) opBoundsCard

/-- THE SECOND FORM's CARD OF 'governorlaw14.OpTells'. -/
def opTellsUptoCard : Claim7 := { stood := { row := opTellsUptoRow, standIns := [], harness := (true, "154dd59029fe334a85f06dfe698e22b474b15a930553b94833db7cc1b1608e1c"), looks := false }, kinds := [], alts := [], laidByText := true, laidKinds := [.data, .pinned], laidTests := true, laidLooks := .later }
def OpTellsUptoCardSaid : Prop := Claim7.holds Tryd.pinned (.plain (OpenSpec.upto opTellsSpec)) opTellsUptoCard

/-- THE SECOND FORM's CARD OF 'governorlaw14.OpSigs'. -/
def opSigsUptoCard : Claim7 := { stood := { row := opSigsUptoRow, standIns := [], harness := (true, "154dd59029fe334a85f06dfe698e22b474b15a930553b94833db7cc1b1608e1c"), looks := false }, kinds := [], alts := [], laidByText := true, laidKinds := [.data, .pinned], laidTests := true, laidLooks := .later }
def OpSigsUptoCardSaid : Prop := Claim7.holds Tryd.pinned (.plain (OpenSpec.upto opSigsSpec)) opSigsUptoCard

/-- THE SECOND FORM's CARD OF 'governorlaw14.OpBounds'. -/
def opBoundsUptoCard : Claim7 := { stood := { row := opBoundsUptoRow, standIns := [], harness := (true, "154dd59029fe334a85f06dfe698e22b474b15a930553b94833db7cc1b1608e1c"), looks := false }, kinds := [], alts := [], laidByText := true, laidKinds := [.data, .pinned], laidTests := true, laidLooks := .later }
def OpBoundsUptoCardSaid : Prop := Claim7.holds Tryd.pinned (.plain (OpenSpec.upto opBoundsSpec)) opBoundsUptoCard
end Rows
end Go.Proofs.YtbclpknmeaaajaaDoor
