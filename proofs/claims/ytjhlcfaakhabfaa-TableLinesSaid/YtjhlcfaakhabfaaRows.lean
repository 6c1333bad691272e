/-
  NARROWER THAN 'FOR EVERY INPUT', by the rows' own cells (each row's printed sentence says how): TableIs: loops · TableAlike: loops · TableTells: loops · TableGrows: loops.
  DERIVED. THE GIVEN ROWS OF THIS SEAT. 5 by the template 'for every input the law returns true; each argument reads behind the call as it read before'; 0 by the template 'total and deterministic' (their statements: YtjhlcfaakhabfaaTotals.lean).
  GIVEN WITH THE SEED: the statements are not yours to turn. If you find one false, say at which input.
  Laid BY PROGRAM, IN A SANDBOX (cutbox-rows.mjs): the forced cells as the released guide's own fill.sh prints them over the translation 13cd69f5a15d4935… (all of the seat's roots in one cut). By AI agents, Wed Nov 11 2026. No macro, syntax, notation, axiom, sorry.
-/
import Derived.Test.YtjhlcfaakhabfaaChecked
import GoSem.Claim
import GoSem.ClaimJoined
import GoSem.ClaimMapViews
import Derived.JoinedTies
import Derived.KernelRfl
namespace Go.Proofs.Ytjhlcfaakhabfaa
/- THE CELL 'sum', in the pinned program and in every row, IS THE sha256 OF THE DUMP (.gsa) THAT YtjhlcfaakhabfaaProg.lean LOADS. Nothing in Lean hashes anything: it is a label: what it is worth is what the hold of that sum in a sandbox is worth. -/
noncomputable def Try.pinned : Pinned := { name := "ytjhlcfaakhabfaa", sum := "13cd69f5a15d49350f80147df19b1cbee91ceaa3c479ab0bcf1a1c40597c58f6", checked := Try.checked }
namespace Rows
def none {H : Type} : Left H := { results := [], args := [] }

/-- 'governorlaw6.TableIs': WHATEVER THE INPUT: true; the input reads as it did. -/
def tableIsSpec : ChangeSpec := { name := "tableIs", fn := fun _ => fun
  | [d1, d2, d3, d4] => { results := [.lit (.bool true)], args := [d1, d2, d3, d4] }
  | _ => none }
def tableIsRow : OpenClaim := { program := "ytjhlcfaakhabfaa", sum := "13cd69f5a15d49350f80147df19b1cbee91ceaa3c479ab0bcf1a1c40597c58f6", func := "governor/governorlaw6.TableIs", spec := "tableIs", unfollowed := true, recurses := true, loops := true, apart := false }
def TableIsSaid : Prop := tableIsRow.holds Try.pinned (OpenSpec.ofChange tableIsSpec)

/-- ITS FALSE NEIGHBOUR: 'it returns false'. Refute it at one input. -/
def tableIsWrong : ChangeSpec := { name := "tableIs", fn := fun _ => fun
  | [d1, d2, d3, d4] => { results := [.lit (.bool false)], args := [d1, d2, d3, d4] }
  | _ => none }
def TableIsWrongFalsely : Prop := tableIsRow.holds Try.pinned (OpenSpec.ofChange tableIsWrong)

/-- 'governorlaw6.TableAlike': WHATEVER THE INPUT: true; the input reads as it did. -/
def tableAlikeSpec : ChangeSpec := { name := "tableAlike", fn := fun _ => fun
  | [d1, d2, d3] => { results := [.lit (.bool true)], args := [d1, d2, d3] }
  | _ => none }
def tableAlikeRow : OpenClaim := { program := "ytjhlcfaakhabfaa", sum := "13cd69f5a15d49350f80147df19b1cbee91ceaa3c479ab0bcf1a1c40597c58f6", func := "governor/governorlaw6.TableAlike", spec := "tableAlike", unfollowed := true, recurses := true, loops := true, apart := false }
def TableAlikeSaid : Prop := tableAlikeRow.holds Try.pinned (OpenSpec.ofChange tableAlikeSpec)

/-- ITS FALSE NEIGHBOUR: 'it returns false'. Refute it at one input. -/
def tableAlikeWrong : ChangeSpec := { name := "tableAlike", fn := fun _ => fun
  | [d1, d2, d3] => { results := [.lit (.bool false)], args := [d1, d2, d3] }
  | _ => none }
def TableAlikeWrongFalsely : Prop := tableAlikeRow.holds Try.pinned (OpenSpec.ofChange tableAlikeWrong)

/-- 'governorlaw6.TableTells': WHATEVER THE INPUT: true; the input reads as it did. -/
def tableTellsSpec : ChangeSpec := { name := "tableTells", fn := fun _ => fun
  | [d1, d2, d3, d4] => { results := [.lit (.bool true)], args := [d1, d2, d3, d4] }
  | _ => none }
def tableTellsRow : OpenClaim := { program := "ytjhlcfaakhabfaa", sum := "13cd69f5a15d49350f80147df19b1cbee91ceaa3c479ab0bcf1a1c40597c58f6", func := "governor/governorlaw6.TableTells", spec := "tableTells", unfollowed := true, recurses := true, loops := true, apart := false }
def TableTellsSaid : Prop := tableTellsRow.holds Try.pinned (OpenSpec.ofChange tableTellsSpec)

/-- ITS FALSE NEIGHBOUR: 'it returns false'. Refute it at one input. -/
def tableTellsWrong : ChangeSpec := { name := "tableTells", fn := fun _ => fun
  | [d1, d2, d3, d4] => { results := [.lit (.bool false)], args := [d1, d2, d3, d4] }
  | _ => none }
def TableTellsWrongFalsely : Prop := tableTellsRow.holds Try.pinned (OpenSpec.ofChange tableTellsWrong)

/-- 'governorlaw6.TableLines': WHATEVER THE INPUT: true; the input reads as it did. -/
def tableLinesSpec : ChangeSpec := { name := "tableLines", fn := fun _ => fun
  | [d1, d2, d3] => { results := [.lit (.bool true)], args := [d1, d2, d3] }
  | _ => none }
def tableLinesRow : OpenClaim := { program := "ytjhlcfaakhabfaa", sum := "13cd69f5a15d49350f80147df19b1cbee91ceaa3c479ab0bcf1a1c40597c58f6", func := "governor/governorlaw6.TableLines", spec := "tableLines", unfollowed := true, recurses := true, apart := false }
def TableLinesSaid : Prop := tableLinesRow.holds Try.pinned (OpenSpec.ofChange tableLinesSpec)

/-- ITS FALSE NEIGHBOUR: 'it returns false'. Refute it at one input. -/
def tableLinesWrong : ChangeSpec := { name := "tableLines", fn := fun _ => fun
  | [d1, d2, d3] => { results := [.lit (.bool false)], args := [d1, d2, d3] }
  | _ => none }
def TableLinesWrongFalsely : Prop := tableLinesRow.holds Try.pinned (OpenSpec.ofChange tableLinesWrong)

/-- 'governorlaw6.TableGrows': WHATEVER THE INPUT: true; the input reads as it did. -/
def tableGrowsSpec : ChangeSpec := { name := "tableGrows", fn := fun _ => fun
  | [d1, d2, d3, d4, d5] => { results := [.lit (.bool true)], args := [d1, d2, d3, d4, d5] }
  | _ => none }
def tableGrowsRow : OpenClaim := { program := "ytjhlcfaakhabfaa", sum := "13cd69f5a15d49350f80147df19b1cbee91ceaa3c479ab0bcf1a1c40597c58f6", func := "governor/governorlaw6.TableGrows", spec := "tableGrows", unfollowed := true, recurses := true, loops := true, apart := false }
def TableGrowsSaid : Prop := tableGrowsRow.holds Try.pinned (OpenSpec.ofChange tableGrowsSpec)

/-- ITS FALSE NEIGHBOUR: 'it returns false'. Refute it at one input. -/
def tableGrowsWrong : ChangeSpec := { name := "tableGrows", fn := fun _ => fun
  | [d1, d2, d3, d4, d5] => { results := [.lit (.bool false)], args := [d1, d2, d3, d4, d5] }
  | _ => none }
def TableGrowsWrongFalsely : Prop := tableGrowsRow.holds Try.pinned (OpenSpec.ofChange tableGrowsWrong)

/- THE SECOND FORM. 'bulk': how many values and letters a reading holds, each counted each time it is reached (what is shared counts as often as it is met; a slice's spare places count too). A statement '..UptoSaid' is the law's where the arguments, and the package variables that the reading takes, are together of bulk at most 1048576: NARROWER than '..Said'. Prove '..Said' where nothing that the law and all that it calls make is longer than what came in: it says more and counts as full. Else prove '..UptoSaid'. A law counts once. -/
mutual
def uptoBulk {H : Type} : DataW H → Nat
  | .lit (.string bytes) => bytes.length + 1
  | .lit _ => 1
  | .nil => 1
  | .ptr d => uptoBulk d + 1
  | .slice elems spare => uptoBulkAll elems + uptoBulkAll spare + 1
  | .agg parts => uptoBulkAll parts + 1
  | .iface _ d => uptoBulk d + 1
  | .map entries => uptoBulkEntries entries + 1
  | .held _ => 1
def uptoBulkAll {H : Type} : List (DataW H) → Nat
  | [] => 0
  | d :: r => uptoBulk d + uptoBulkAll r
def uptoBulkEntries {H : Type} : List (Lit × DataW H) → Nat
  | [] => 0
  | x :: r => uptoBulkEntry x + uptoBulkEntries r
def uptoBulkEntry {H : Type} : Lit × DataW H → Nat
  | (.string bytes, d) => bytes.length + uptoBulk d + 1
  | (_, d) => uptoBulk d + 1
 end
def uptoSmall : (H : Type) → List (DataW H) → Bool := fun _ ds => decide (uptoBulkAll ds ≤ 1048576)
def OpenSpec.upto (s : _root_.Go.ChangeSpec) : _root_.Go.OpenSpec := { _root_.Go.OpenSpec.ofChange s with cond := some uptoSmall }

/-- 'governorlaw6.TableIs', WHERE WHAT IT READS IS OF BULK AT MOST 1048576: true; the input reads as it did. -/
def tableIsUptoRow : OpenClaim := { program := "ytjhlcfaakhabfaa", sum := "13cd69f5a15d49350f80147df19b1cbee91ceaa3c479ab0bcf1a1c40597c58f6", func := "governor/governorlaw6.TableIs", spec := "tableIs", unfollowed := true, recurses := true, loops := true, apart := false, narrowed := true }
def TableIsUptoSaid : Prop := tableIsUptoRow.holds Try.pinned (OpenSpec.upto tableIsSpec)

/-- 'governorlaw6.TableAlike', WHERE WHAT IT READS IS OF BULK AT MOST 1048576: true; the input reads as it did. -/
def tableAlikeUptoRow : OpenClaim := { program := "ytjhlcfaakhabfaa", sum := "13cd69f5a15d49350f80147df19b1cbee91ceaa3c479ab0bcf1a1c40597c58f6", func := "governor/governorlaw6.TableAlike", spec := "tableAlike", unfollowed := true, recurses := true, loops := true, apart := false, narrowed := true }
def TableAlikeUptoSaid : Prop := tableAlikeUptoRow.holds Try.pinned (OpenSpec.upto tableAlikeSpec)

/-- 'governorlaw6.TableTells', WHERE WHAT IT READS IS OF BULK AT MOST 1048576: true; the input reads as it did. -/
def tableTellsUptoRow : OpenClaim := { program := "ytjhlcfaakhabfaa", sum := "13cd69f5a15d49350f80147df19b1cbee91ceaa3c479ab0bcf1a1c40597c58f6", func := "governor/governorlaw6.TableTells", spec := "tableTells", unfollowed := true, recurses := true, loops := true, apart := false, narrowed := true }
def TableTellsUptoSaid : Prop := tableTellsUptoRow.holds Try.pinned (OpenSpec.upto tableTellsSpec)

/-- 'governorlaw6.TableLines', WHERE WHAT IT READS IS OF BULK AT MOST 1048576: true; the input reads as it did. -/
def tableLinesUptoRow : OpenClaim := { program := "ytjhlcfaakhabfaa", sum := "13cd69f5a15d49350f80147df19b1cbee91ceaa3c479ab0bcf1a1c40597c58f6", func := "governor/governorlaw6.TableLines", spec := "tableLines", unfollowed := true, recurses := true, apart := false, narrowed := true }
def TableLinesUptoSaid : Prop := tableLinesUptoRow.holds Try.pinned (OpenSpec.upto tableLinesSpec)

/-- 'governorlaw6.TableGrows', WHERE WHAT IT READS IS OF BULK AT MOST 1048576: true; the input reads as it did. -/
def tableGrowsUptoRow : OpenClaim := { program := "ytjhlcfaakhabfaa", sum := "13cd69f5a15d49350f80147df19b1cbee91ceaa3c479ab0bcf1a1c40597c58f6", func := "governor/governorlaw6.TableGrows", spec := "tableGrows", unfollowed := true, recurses := true, loops := true, apart := false, narrowed := true }
def TableGrowsUptoSaid : Prop := tableGrowsUptoRow.holds Try.pinned (OpenSpec.upto tableGrowsSpec)

end Rows
end Go.Proofs.Ytjhlcfaakhabfaa
