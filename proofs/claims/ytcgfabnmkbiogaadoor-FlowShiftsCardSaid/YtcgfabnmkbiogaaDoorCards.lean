/-
  DERIVED. GIVEN WITH THE SEED: THE CARDS: each row of YtcgfabnmkbiogaaDoorRows.lean that lists a variable, with what it lists TIED to the program's text (the seventh form; the later family's looks); each row that meets fmt, with fmt's text TOLD by the authors' own Lean function (tested against real Go, not proved from fmt's source: count such statements apart). THE CARD IS WHAT COUNTS. Prove the row's statement (the work); the ties are given (YtcgfabnmkbiogaaDoorTie.lean); close each card by the builder's one call (the guide's Derived/Test/ToyasCard.lean, 'card_holds'). Laid BY PROGRAM, IN A SANDBOX (cutbox-door.mjs). By AI agents, Wed Nov 11 2026. No macro, syntax, notation, axiom, sorry.
-/
import Derived.Test.YtcgfabnmkbiogaaDoorRows
import GoSem.ClaimSeven
namespace Go.Proofs.YtcgfabnmkbiogaaDoor
namespace Rows

/-- THE TIED CARD OF 'governorlaw18.FlowJumps'. -/
def flowJumpsCard : Claim7 := { stood := { row := flowJumpsRow, standIns := [], harness := (true, "423bf1c767df218dd47817b24fa9df8b1192c866d2a0310331f82fe6775481d1"), looks := false }, kinds := [], alts := [], laidByText := true, laidKinds := [.data, .pinned], laidTests := true, laidLooks := .later }
def FlowJumpsCardSaid : Prop := Claim7.holds Tryd.pinned (.plain (OpenSpec.ofChange flowJumpsSpec)) flowJumpsCard

/-- THE TIED CARD OF 'governorlaw18.FlowHigh'. -/
def flowHighCard : Claim7 := { stood := { row := flowHighRow, standIns := [], harness := (true, "423bf1c767df218dd47817b24fa9df8b1192c866d2a0310331f82fe6775481d1"), looks := false }, kinds := [], alts := [], laidByText := true, laidKinds := [.data, .pinned], laidTests := true, laidLooks := .later }
def FlowHighCardSaid : Prop := Claim7.holds Tryd.pinned (.plain (OpenSpec.ofChange flowHighSpec)) flowHighCard

/-- THE TIED CARD OF 'governorlaw18.FlowJoins'. -/
def flowJoinsCard : Claim7 := { stood := { row := flowJoinsRow, standIns := [], harness := (true, "423bf1c767df218dd47817b24fa9df8b1192c866d2a0310331f82fe6775481d1"), looks := false }, kinds := [], alts := [], laidByText := true, laidKinds := [.data, .pinned], laidTests := true, laidLooks := .later }
def FlowJoinsCardSaid : Prop := Claim7.holds Tryd.pinned (.plain (OpenSpec.ofChange flowJoinsSpec)) flowJoinsCard

/-- THE TIED CARD OF 'governorlaw18.FlowShifts'. -/
def flowShiftsCard : Claim7 := { stood := { row := flowShiftsRow, standIns := [], harness := (true, "423bf1c767df218dd47817b24fa9df8b1192c866d2a0310331f82fe6775481d1"), looks := false }, kinds := [], alts := [], laidByText := true, laidKinds := [.data, .pinned], laidTests := true, laidLooks := .later }
def FlowShiftsCardSaid : Prop := Claim7.holds Tryd.pinned (.plain (OpenSpec.ofChange flowShiftsSpec)) flowShiftsCard

/-- THE SECOND FORM's CARD OF 'governorlaw18.FlowJumps'. -/
def flowJumpsUptoCard : Claim7 := { stood := { row := flowJumpsUptoRow, standIns := [], harness := (true, "423bf1c767df218dd47817b24fa9df8b1192c866d2a0310331f82fe6775481d1"), looks := false }, kinds := [], alts := [], laidByText := true, laidKinds := [.data, .pinned], laidTests := true, laidLooks := .later }
def FlowJumpsUptoCardSaid : Prop := Claim7.holds Tryd.pinned (.plain (OpenSpec.upto flowJumpsSpec)) flowJumpsUptoCard

/-- THE SECOND FORM's CARD OF 'governorlaw18.FlowHigh'. -/
def flowHighUptoCard : Claim7 := { stood := { row := flowHighUptoRow, standIns := [], harness := (true, "423bf1c767df218dd47817b24fa9df8b1192c866d2a0310331f82fe6775481d1"), looks := false }, kinds := [], alts := [], laidByText := true, laidKinds := [.data, .pinned], laidTests := true, laidLooks := .later }
def FlowHighUptoCardSaid : Prop := Claim7.holds Tryd.pinned (.plain (OpenSpec.upto flowHighSpec)) flowHighUptoCard

/-- THE SECOND FORM's CARD OF 'governorlaw18.FlowJoins'. -/
def flowJoinsUptoCard : Claim7 := { stood := { row := flowJoinsUptoRow, standIns := [], harness := (true, "423bf1c767df218dd47817b24fa9df8b1192c866d2a0310331f82fe6775481d1"), looks := false }, kinds := [], alts := [], laidByText := true, laidKinds := [.data, .pinned], laidTests := true, laidLooks := .later }
def FlowJoinsUptoCardSaid : Prop := Claim7.holds Tryd.pinned (.plain (OpenSpec.upto flowJoinsSpec)) flowJoinsUptoCard

/-- THE SECOND FORM's CARD OF 'governorlaw18.FlowShifts'. -/
def flowShiftsUptoCard : Claim7 := { stood := { row := flowShiftsUptoRow, standIns := [], harness := (true, "423bf1c767df218dd47817b24fa9df8b1192c866d2a0310331f82fe6775481d1"), looks := false }, kinds := [], alts := [], laidByText := true, laidKinds := [.data, .pinned], laidTests := true, laidLooks := .later }
def FlowShiftsUptoCardSaid : Prop := Claim7.holds Tryd.pinned (.plain (OpenSpec.upto flowShiftsSpec)) flowShiftsUptoCard
end Rows
end Go.Proofs.YtcgfabnmkbiogaaDoor
