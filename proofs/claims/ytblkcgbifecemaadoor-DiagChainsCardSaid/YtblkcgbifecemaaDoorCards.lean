/-
  DERIVED. GIVEN WITH THE SEED: THE CARDS: each row of YtblkcgbifecemaaDoorRows.lean that lists a variable, with what it lists TIED to the program's text (the seventh form; the later family's looks); each row that meets fmt, with fmt's text TOLD by the authors' own Lean function (tested against real Go, not proved from fmt's source: count such statements apart). THE CARD IS WHAT COUNTS. Prove the row's statement (the work); the ties are given (YtblkcgbifecemaaDoorTie.lean); close each card by the builder's one call (the guide's Derived/Test/ToyasCard.lean, 'card_holds'). Laid BY PROGRAM, IN A SANDBOX (cutbox-door.mjs). By AI agents, Wed Nov 11 2026. No macro, syntax, notation, axiom, sorry.
-/
import Derived.Test.YtblkcgbifecemaaDoorRows
import GoSem.ClaimSeven
namespace Go.Proofs.YtblkcgbifecemaaDoor
namespace Rows

/-- THE TIED CARD OF 'governorlaw1.DiagKinds'. -/
def diagKindsCard : Claim7 := { stood := { row := diagKindsRow, standIns := [], harness := (true, "17c2fb76c04e36d05e6af306af00cbd8ea266c0433d33630a4d575fe09346835"), looks := true }, kinds := [], alts := [], laidByText := true, laidKinds := [.handle], laidTests := true, laidLooks := .later }
def DiagKindsCardSaid : Prop := Claim7.holds Tryd.pinned (.plain (OpenSpec.ofChange diagKindsSpec)) diagKindsCard

/-- THE TIED CARD OF 'governorlaw1.DiagChains'. -/
def diagChainsCard : Claim7 := { stood := { row := diagChainsRow, standIns := [], harness := (true, "17c2fb76c04e36d05e6af306af00cbd8ea266c0433d33630a4d575fe09346835"), looks := true }, kinds := [], alts := [], laidByText := true, laidKinds := [.handle], laidTests := true, laidLooks := .later }
def DiagChainsCardSaid : Prop := Claim7.holds Tryd.pinned (.plain (OpenSpec.ofChange diagChainsSpec)) diagChainsCard

/-- THE TIED CARD OF 'governorlaw1.DiagTexts'. -/
def diagTextsCard : Claim7 := { stood := { row := diagTextsRow, standIns := [], harness := (true, "17c2fb76c04e36d05e6af306af00cbd8ea266c0433d33630a4d575fe09346835"), looks := true }, kinds := [], alts := [], laidByText := true, laidKinds := [.data, .data, .data, .handle], laidTests := true, laidLooks := .later }
def DiagTextsCardSaid : Prop := Claim7.holds Tryd.pinned (.plain (OpenSpec.ofChange diagTextsSpec)) diagTextsCard

/-- THE TIED CARD OF 'governorlaw1.DiagNone'. -/
def diagNoneCard : Claim7 := { stood := { row := diagNoneRow, standIns := [], harness := (true, "17c2fb76c04e36d05e6af306af00cbd8ea266c0433d33630a4d575fe09346835"), looks := true }, kinds := [], alts := [], laidByText := true, laidKinds := [.data, .data, .data, .handle], laidTests := true, laidLooks := .later }
def DiagNoneCardSaid : Prop := Claim7.holds Tryd.pinned (.plain (OpenSpec.ofChange diagNoneSpec)) diagNoneCard

/-- THE SECOND FORM's CARD OF 'governorlaw1.DiagKinds'. -/
def diagKindsUptoCard : Claim7 := { stood := { row := diagKindsUptoRow, standIns := [], harness := (true, "17c2fb76c04e36d05e6af306af00cbd8ea266c0433d33630a4d575fe09346835"), looks := true }, kinds := [], alts := [], laidByText := true, laidKinds := [.handle], laidTests := true, laidLooks := .later }
def DiagKindsUptoCardSaid : Prop := Claim7.holds Tryd.pinned (.plain (OpenSpec.upto diagKindsSpec)) diagKindsUptoCard

/-- THE SECOND FORM's CARD OF 'governorlaw1.DiagChains'. -/
def diagChainsUptoCard : Claim7 := { stood := { row := diagChainsUptoRow, standIns := [], harness := (true, "17c2fb76c04e36d05e6af306af00cbd8ea266c0433d33630a4d575fe09346835"), looks := true }, kinds := [], alts := [], laidByText := true, laidKinds := [.handle], laidTests := true, laidLooks := .later }
def DiagChainsUptoCardSaid : Prop := Claim7.holds Tryd.pinned (.plain (OpenSpec.upto diagChainsSpec)) diagChainsUptoCard

/-- THE SECOND FORM's CARD OF 'governorlaw1.DiagTexts'. -/
def diagTextsUptoCard : Claim7 := { stood := { row := diagTextsUptoRow, standIns := [], harness := (true, "17c2fb76c04e36d05e6af306af00cbd8ea266c0433d33630a4d575fe09346835"), looks := true }, kinds := [], alts := [], laidByText := true, laidKinds := [.data, .data, .data, .handle], laidTests := true, laidLooks := .later }
def DiagTextsUptoCardSaid : Prop := Claim7.holds Tryd.pinned (.plain (OpenSpec.upto diagTextsSpec)) diagTextsUptoCard

/-- THE SECOND FORM's CARD OF 'governorlaw1.DiagNone'. -/
def diagNoneUptoCard : Claim7 := { stood := { row := diagNoneUptoRow, standIns := [], harness := (true, "17c2fb76c04e36d05e6af306af00cbd8ea266c0433d33630a4d575fe09346835"), looks := true }, kinds := [], alts := [], laidByText := true, laidKinds := [.data, .data, .data, .handle], laidTests := true, laidLooks := .later }
def DiagNoneUptoCardSaid : Prop := Claim7.holds Tryd.pinned (.plain (OpenSpec.upto diagNoneSpec)) diagNoneUptoCard
end Rows
end Go.Proofs.YtblkcgbifecemaaDoor
