/-
  DERIVED. GIVEN WITH THE SEED: THE CARDS: each row of YtmdhaelmblmldaaGreatDoorRows.lean that lists a variable, with what it lists TIED to the program's text (the seventh form; the later family's looks); each row that meets fmt, with fmt's text TOLD by the authors' own Lean function (tested against real Go, not proved from fmt's source: count such statements apart). THE CARD IS WHAT COUNTS. Prove the row's statement (the work); the ties are given (YtmdhaelmblmldaaGreatDoorTie.lean); close each card by the builder's one call (the guide's Derived/Test/ToyasCard.lean, 'card_holds'). Laid BY PROGRAM, IN A SANDBOX (cutbox-door.mjs). By AI agents, Wed Nov 11 2026. No macro, syntax, notation, axiom, sorry.
-/
import Derived.Test.YtmdhaelmblmldaaGreatDoorRows
import GoSem.ClaimSeven
namespace Go.Proofs.YtmdhaelmblmldaaGreatDoor
namespace Rows

/-- THE TIED CARD OF 'governortop.TopSums'. -/
def topSumsCard : Claim7 := { stood := { row := topSumsRow, standIns := [], harness := (true, "1ef525f4e0433af2bdf2b0f11551c03e81fadeda8cae3329923b9f9ce477cf6a"), looks := true }, kinds := [], alts := [], laidByText := true, laidKinds := [.data, .listed, .sentinel, .sentinel, .data, .data, .data, .handle, .pinned, .data], laidTests := true, laidLooks := .later }
def TopSumsCardSaid : Prop := Claim7.holds Tryz.pinned (.plain (OpenSpec.ofChange topSumsSpec)) topSumsCard

/-- THE TIED CARD OF 'governortop.TopCompares'. -/
def topComparesCard : Claim7 := { stood := { row := topComparesRow, standIns := [], harness := (true, "1ef525f4e0433af2bdf2b0f11551c03e81fadeda8cae3329923b9f9ce477cf6a"), looks := true }, kinds := [], alts := [], laidByText := true, laidKinds := [.data, .listed, .sentinel, .sentinel, .data, .data, .data, .handle, .pinned, .data], laidTests := true, laidLooks := .later }
def TopComparesCardSaid : Prop := Claim7.holds Tryz.pinned (.plain (OpenSpec.ofChange topComparesSpec)) topComparesCard

/-- THE TIED CARD OF 'governortop.TopDispatch'. -/
def topDispatchCard : Claim7 := { stood := { row := topDispatchRow, standIns := [], harness := (true, "1ef525f4e0433af2bdf2b0f11551c03e81fadeda8cae3329923b9f9ce477cf6a"), looks := true }, kinds := [], alts := [], laidByText := true, laidKinds := [.data, .listed, .sentinel, .sentinel, .data, .data, .data, .handle, .pinned, .data], laidTests := true, laidLooks := .later }
def TopDispatchCardSaid : Prop := Claim7.holds Tryz.pinned (.plain (OpenSpec.ofChange topDispatchSpec)) topDispatchCard

/-- THE TIED CARD OF 'governortop.TopFaces'. -/
def topFacesCard : Claim7 := { stood := { row := topFacesRow, standIns := [], harness := (true, "1ef525f4e0433af2bdf2b0f11551c03e81fadeda8cae3329923b9f9ce477cf6a"), looks := true }, kinds := [], alts := [], laidByText := true, laidKinds := [.data, .listed, .sentinel, .sentinel, .data, .data, .data, .handle, .pinned, .data], laidTests := true, laidLooks := .later }
def TopFacesCardSaid : Prop := Claim7.holds Tryz.pinned (.plain (OpenSpec.ofChange topFacesSpec)) topFacesCard

/-- THE TIED CARD OF 'governortop.TopCasts'. -/
def topCastsCard : Claim7 := { stood := { row := topCastsRow, standIns := [], harness := (true, "1ef525f4e0433af2bdf2b0f11551c03e81fadeda8cae3329923b9f9ce477cf6a"), looks := true }, kinds := [], alts := [], laidByText := true, laidKinds := [.data, .listed, .sentinel, .sentinel, .data, .data, .data, .handle, .pinned, .data], laidTests := true, laidLooks := .later }
def TopCastsCardSaid : Prop := Claim7.holds Tryz.pinned (.plain (OpenSpec.ofChange topCastsSpec)) topCastsCard

/-- THE TIED CARD OF 'governortop.TopArrays'. -/
def topArraysCard : Claim7 := { stood := { row := topArraysRow, standIns := [], harness := (true, "1ef525f4e0433af2bdf2b0f11551c03e81fadeda8cae3329923b9f9ce477cf6a"), looks := true }, kinds := [], alts := [], laidByText := true, laidKinds := [.data, .listed, .sentinel, .sentinel, .data, .data, .data, .handle, .pinned, .data], laidTests := true, laidLooks := .later }
def TopArraysCardSaid : Prop := Claim7.holds Tryz.pinned (.plain (OpenSpec.ofChange topArraysSpec)) topArraysCard

/-- THE TIED CARD OF 'governortop.TopCases'. -/
def topCasesCard : Claim7 := { stood := { row := topCasesRow, standIns := [], harness := (true, "1ef525f4e0433af2bdf2b0f11551c03e81fadeda8cae3329923b9f9ce477cf6a"), looks := true }, kinds := [], alts := [], laidByText := true, laidKinds := [.data, .listed, .sentinel, .sentinel, .data, .data, .data, .handle, .pinned, .data], laidTests := true, laidLooks := .later }
def TopCasesCardSaid : Prop := Claim7.holds Tryz.pinned (.plain (OpenSpec.ofChange topCasesSpec)) topCasesCard

/-- THE TIED CARD OF 'governortop.TopFields'. -/
def topFieldsCard : Claim7 := { stood := { row := topFieldsRow, standIns := [], harness := (true, "1ef525f4e0433af2bdf2b0f11551c03e81fadeda8cae3329923b9f9ce477cf6a"), looks := true }, kinds := [], alts := [], laidByText := true, laidKinds := [.data, .listed, .sentinel, .sentinel, .data, .data, .data, .handle, .pinned, .data], laidTests := true, laidLooks := .later }
def TopFieldsCardSaid : Prop := Claim7.holds Tryz.pinned (.plain (OpenSpec.ofChange topFieldsSpec)) topFieldsCard

/-- THE TIED CARD OF 'governortop.TopOrder'. -/
def topOrderCard : Claim7 := { stood := { row := topOrderRow, standIns := [], harness := (true, "1ef525f4e0433af2bdf2b0f11551c03e81fadeda8cae3329923b9f9ce477cf6a"), looks := true }, kinds := [], alts := [], laidByText := true, laidKinds := [.data, .listed, .sentinel, .sentinel, .data, .data, .data, .handle, .pinned, .data], laidTests := true, laidLooks := .later }
def TopOrderCardSaid : Prop := Claim7.holds Tryz.pinned (.plain (OpenSpec.ofChange topOrderSpec)) topOrderCard

/-- THE TIED CARD OF 'governortop.TopRefused'. -/
def topRefusedCard : Claim7 := { stood := { row := topRefusedRow, standIns := [], harness := (true, "1ef525f4e0433af2bdf2b0f11551c03e81fadeda8cae3329923b9f9ce477cf6a"), looks := true }, kinds := [], alts := [], laidByText := true, laidKinds := [.data, .listed, .sentinel, .sentinel, .data, .data, .data, .handle, .pinned, .data], laidTests := true, laidLooks := .later }
def TopRefusedCardSaid : Prop := Claim7.holds Tryz.pinned (.plain (OpenSpec.ofChange topRefusedSpec)) topRefusedCard

/-- THE TIED CARD OF 'governortop.TopTokens'. -/
def topTokensCard : Claim7 := { stood := { row := topTokensRow, standIns := [], harness := (true, "1ef525f4e0433af2bdf2b0f11551c03e81fadeda8cae3329923b9f9ce477cf6a"), looks := true }, kinds := [], alts := [], laidByText := true, laidKinds := [.data, .listed, .sentinel, .sentinel, .data, .data, .data, .handle, .pinned, .data], laidTests := true, laidLooks := .later }
def TopTokensCardSaid : Prop := Claim7.holds Tryz.pinned (.plain (OpenSpec.ofChange topTokensSpec)) topTokensCard

/-- THE TIED CARD OF 'governortop.TopRings'. -/
def topRingsCard : Claim7 := { stood := { row := topRingsRow, standIns := [], harness := (true, "1ef525f4e0433af2bdf2b0f11551c03e81fadeda8cae3329923b9f9ce477cf6a"), looks := true }, kinds := [], alts := [], laidByText := true, laidKinds := [.data, .listed, .sentinel, .sentinel, .data, .data, .data, .handle, .pinned, .data], laidTests := true, laidLooks := .later }
def TopRingsCardSaid : Prop := Claim7.holds Tryz.pinned (.plain (OpenSpec.ofChange topRingsSpec)) topRingsCard

/-- THE SECOND FORM's CARD OF 'governortop.TopSums'. -/
def topSumsUptoCard : Claim7 := { stood := { row := topSumsUptoRow, standIns := [], harness := (true, "1ef525f4e0433af2bdf2b0f11551c03e81fadeda8cae3329923b9f9ce477cf6a"), looks := true }, kinds := [], alts := [], laidByText := true, laidKinds := [.data, .listed, .sentinel, .sentinel, .data, .data, .data, .handle, .pinned, .data], laidTests := true, laidLooks := .later }
def TopSumsUptoCardSaid : Prop := Claim7.holds Tryz.pinned (.plain (OpenSpec.upto topSumsSpec)) topSumsUptoCard

/-- THE SECOND FORM's CARD OF 'governortop.TopCompares'. -/
def topComparesUptoCard : Claim7 := { stood := { row := topComparesUptoRow, standIns := [], harness := (true, "1ef525f4e0433af2bdf2b0f11551c03e81fadeda8cae3329923b9f9ce477cf6a"), looks := true }, kinds := [], alts := [], laidByText := true, laidKinds := [.data, .listed, .sentinel, .sentinel, .data, .data, .data, .handle, .pinned, .data], laidTests := true, laidLooks := .later }
def TopComparesUptoCardSaid : Prop := Claim7.holds Tryz.pinned (.plain (OpenSpec.upto topComparesSpec)) topComparesUptoCard

/-- THE SECOND FORM's CARD OF 'governortop.TopDispatch'. -/
def topDispatchUptoCard : Claim7 := { stood := { row := topDispatchUptoRow, standIns := [], harness := (true, "1ef525f4e0433af2bdf2b0f11551c03e81fadeda8cae3329923b9f9ce477cf6a"), looks := true }, kinds := [], alts := [], laidByText := true, laidKinds := [.data, .listed, .sentinel, .sentinel, .data, .data, .data, .handle, .pinned, .data], laidTests := true, laidLooks := .later }
def TopDispatchUptoCardSaid : Prop := Claim7.holds Tryz.pinned (.plain (OpenSpec.upto topDispatchSpec)) topDispatchUptoCard

/-- THE SECOND FORM's CARD OF 'governortop.TopFaces'. -/
def topFacesUptoCard : Claim7 := { stood := { row := topFacesUptoRow, standIns := [], harness := (true, "1ef525f4e0433af2bdf2b0f11551c03e81fadeda8cae3329923b9f9ce477cf6a"), looks := true }, kinds := [], alts := [], laidByText := true, laidKinds := [.data, .listed, .sentinel, .sentinel, .data, .data, .data, .handle, .pinned, .data], laidTests := true, laidLooks := .later }
def TopFacesUptoCardSaid : Prop := Claim7.holds Tryz.pinned (.plain (OpenSpec.upto topFacesSpec)) topFacesUptoCard

/-- THE SECOND FORM's CARD OF 'governortop.TopCasts'. -/
def topCastsUptoCard : Claim7 := { stood := { row := topCastsUptoRow, standIns := [], harness := (true, "1ef525f4e0433af2bdf2b0f11551c03e81fadeda8cae3329923b9f9ce477cf6a"), looks := true }, kinds := [], alts := [], laidByText := true, laidKinds := [.data, .listed, .sentinel, .sentinel, .data, .data, .data, .handle, .pinned, .data], laidTests := true, laidLooks := .later }
def TopCastsUptoCardSaid : Prop := Claim7.holds Tryz.pinned (.plain (OpenSpec.upto topCastsSpec)) topCastsUptoCard

/-- THE SECOND FORM's CARD OF 'governortop.TopArrays'. -/
def topArraysUptoCard : Claim7 := { stood := { row := topArraysUptoRow, standIns := [], harness := (true, "1ef525f4e0433af2bdf2b0f11551c03e81fadeda8cae3329923b9f9ce477cf6a"), looks := true }, kinds := [], alts := [], laidByText := true, laidKinds := [.data, .listed, .sentinel, .sentinel, .data, .data, .data, .handle, .pinned, .data], laidTests := true, laidLooks := .later }
def TopArraysUptoCardSaid : Prop := Claim7.holds Tryz.pinned (.plain (OpenSpec.upto topArraysSpec)) topArraysUptoCard

/-- THE SECOND FORM's CARD OF 'governortop.TopCases'. -/
def topCasesUptoCard : Claim7 := { stood := { row := topCasesUptoRow, standIns := [], harness := (true, "1ef525f4e0433af2bdf2b0f11551c03e81fadeda8cae3329923b9f9ce477cf6a"), looks := true }, kinds := [], alts := [], laidByText := true, laidKinds := [.data, .listed, .sentinel, .sentinel, .data, .data, .data, .handle, .pinned, .data], laidTests := true, laidLooks := .later }
def TopCasesUptoCardSaid : Prop := Claim7.holds Tryz.pinned (.plain (OpenSpec.upto topCasesSpec)) topCasesUptoCard

/-- THE SECOND FORM's CARD OF 'governortop.TopFields'. -/
def topFieldsUptoCard : Claim7 := { stood := { row := topFieldsUptoRow, standIns := [], harness := (true, "1ef525f4e0433af2bdf2b0f11551c03e81fadeda8cae3329923b9f9ce477cf6a"), looks := true }, kinds := [], alts := [], laidByText := true, laidKinds := [.data, .listed, .sentinel, .sentinel, .data, .data, .data, .handle, .pinned, .data], laidTests := true, laidLooks := .later }
def TopFieldsUptoCardSaid : Prop := Claim7.holds Tryz.pinned (.plain (OpenSpec.upto topFieldsSpec)) topFieldsUptoCard

/-- THE SECOND FORM's CARD OF 'governortop.TopOrder'. -/
def topOrderUptoCard : Claim7 := { stood := { row := topOrderUptoRow, standIns := [], harness := (true, "1ef525f4e0433af2bdf2b0f11551c03e81fadeda8cae3329923b9f9ce477cf6a"), looks := true }, kinds := [], alts := [], laidByText := true, laidKinds := [.data, .listed, .sentinel, .sentinel, .data, .data, .data, .handle, .pinned, .data], laidTests := true, laidLooks := .later }
def TopOrderUptoCardSaid : Prop := Claim7.holds Tryz.pinned (.plain (OpenSpec.upto topOrderSpec)) topOrderUptoCard

/-- THE SECOND FORM's CARD OF 'governortop.TopRefused'. -/
def topRefusedUptoCard : Claim7 := { stood := { row := topRefusedUptoRow, standIns := [], harness := (true, "1ef525f4e0433af2bdf2b0f11551c03e81fadeda8cae3329923b9f9ce477cf6a"), looks := true }, kinds := [], alts := [], laidByText := true, laidKinds := [.data, .listed, .sentinel, .sentinel, .data, .data, .data, .handle, .pinned, .data], laidTests := true, laidLooks := .later }
def TopRefusedUptoCardSaid : Prop := Claim7.holds Tryz.pinned (.plain (OpenSpec.upto topRefusedSpec)) topRefusedUptoCard

/-- THE SECOND FORM's CARD OF 'governortop.TopTokens'. -/
def topTokensUptoCard : Claim7 := { stood := { row := topTokensUptoRow, standIns := [], harness := (true, "1ef525f4e0433af2bdf2b0f11551c03e81fadeda8cae3329923b9f9ce477cf6a"), looks := true }, kinds := [], alts := [], laidByText := true, laidKinds := [.data, .listed, .sentinel, .sentinel, .data, .data, .data, .handle, .pinned, .data], laidTests := true, laidLooks := .later }
def TopTokensUptoCardSaid : Prop := Claim7.holds Tryz.pinned (.plain (OpenSpec.upto topTokensSpec)) topTokensUptoCard

/-- THE SECOND FORM's CARD OF 'governortop.TopRings'. -/
def topRingsUptoCard : Claim7 := { stood := { row := topRingsUptoRow, standIns := [], harness := (true, "1ef525f4e0433af2bdf2b0f11551c03e81fadeda8cae3329923b9f9ce477cf6a"), looks := true }, kinds := [], alts := [], laidByText := true, laidKinds := [.data, .listed, .sentinel, .sentinel, .data, .data, .data, .handle, .pinned, .data], laidTests := true, laidLooks := .later }
def TopRingsUptoCardSaid : Prop := Claim7.holds Tryz.pinned (.plain (OpenSpec.upto topRingsSpec)) topRingsUptoCard
end Rows
end Go.Proofs.YtmdhaelmblmldaaGreatDoor
