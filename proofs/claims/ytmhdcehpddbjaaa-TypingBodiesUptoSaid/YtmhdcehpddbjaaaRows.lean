/-
  NARROWER THAN 'FOR EVERY INPUT', by the rows' own cells (each row's printed sentence says how): TypingTells: loops · TypingBodies: loops · TypingFits: loops · TypingJoins: loops · TypingNests: loops.
  DERIVED. THE GIVEN ROWS OF THIS SEAT. 6 by the template 'for every input the law returns true; each argument reads behind the call as it read before'; 0 by the template 'total and deterministic' (their statements: YtmhdcehpddbjaaaTotals.lean).
  GIVEN WITH THE SEED: the statements are not yours to turn. If you find one false, say at which input.
  Laid BY PROGRAM, IN A SANDBOX (cutbox-rows.mjs): the forced cells as the released guide's own fill.sh prints them over the translation fa47f352938fb528… (all of the seat's roots in one cut). By AI agents, Wed Nov 11 2026. No macro, syntax, notation, axiom, sorry.
-/
import Derived.Test.YtmhdcehpddbjaaaChecked
import GoSem.Claim
import GoSem.ClaimJoined
import GoSem.ClaimMapViews
import Derived.JoinedTies
import Derived.KernelRfl
namespace Go.Proofs.Ytmhdcehpddbjaaa
/- THE CELL 'sum', in the pinned program and in every row, IS THE sha256 OF THE DUMP (.gsa) THAT YtmhdcehpddbjaaaProg.lean LOADS. Nothing in Lean hashes anything: it is a label: what it is worth is what the hold of that sum in a sandbox is worth. -/
noncomputable def Try.pinned : Pinned := { name := "ytmhdcehpddbjaaa", sum := "fa47f352938fb528275e9ce624bd2ffbf4122cdc76e05f741e60de7bfbb41827", checked := Try.checked }
namespace Rows
def none {H : Type} : Left H := { results := [], args := [] }

/-- 'governorlaw7.TypingTells': WHATEVER THE INPUT: true; the input reads as it did. -/
def typingTellsSpec : ChangeSpec := { name := "typingTells", fn := fun _ => fun
  | [d1, d2, d3, d4] => { results := [.lit (.bool true)], args := [d1, d2, d3, d4] }
  | _ => none }
def typingTellsRow : OpenClaim := { program := "ytmhdcehpddbjaaa", sum := "fa47f352938fb528275e9ce624bd2ffbf4122cdc76e05f741e60de7bfbb41827", func := "governor/governorlaw7.TypingTells", spec := "typingTells", unfollowed := true, recurses := true, loops := true, apart := false }
def TypingTellsSaid : Prop := typingTellsRow.holds Try.pinned (OpenSpec.ofChange typingTellsSpec)

/-- ITS FALSE NEIGHBOUR: 'it returns false'. Refute it at one input. -/
def typingTellsWrong : ChangeSpec := { name := "typingTells", fn := fun _ => fun
  | [d1, d2, d3, d4] => { results := [.lit (.bool false)], args := [d1, d2, d3, d4] }
  | _ => none }
def TypingTellsWrongFalsely : Prop := typingTellsRow.holds Try.pinned (OpenSpec.ofChange typingTellsWrong)

/-- 'governorlaw7.TypingBodies': WHATEVER THE INPUT: true; the input reads as it did. -/
def typingBodiesSpec : ChangeSpec := { name := "typingBodies", fn := fun _ => fun
  | [d] => { results := [.lit (.bool true)], args := [d] }
  | _ => none }
def typingBodiesRow : OpenClaim := { program := "ytmhdcehpddbjaaa", sum := "fa47f352938fb528275e9ce624bd2ffbf4122cdc76e05f741e60de7bfbb41827", func := "governor/governorlaw7.TypingBodies", spec := "typingBodies", unfollowed := true, recurses := true, loops := true, apart := false }
def TypingBodiesSaid : Prop := typingBodiesRow.holds Try.pinned (OpenSpec.ofChange typingBodiesSpec)

/-- ITS FALSE NEIGHBOUR: 'it returns false'. Refute it at one input. -/
def typingBodiesWrong : ChangeSpec := { name := "typingBodies", fn := fun _ => fun
  | [d] => { results := [.lit (.bool false)], args := [d] }
  | _ => none }
def TypingBodiesWrongFalsely : Prop := typingBodiesRow.holds Try.pinned (OpenSpec.ofChange typingBodiesWrong)

/-- 'governorlaw7.TypingFits': WHATEVER THE INPUT: true; the input reads as it did. -/
def typingFitsSpec : ChangeSpec := { name := "typingFits", fn := fun _ => fun
  | [d1, d2, d3, d4, d5, d6] => { results := [.lit (.bool true)], args := [d1, d2, d3, d4, d5, d6] }
  | _ => none }
def typingFitsRow : OpenClaim := { program := "ytmhdcehpddbjaaa", sum := "fa47f352938fb528275e9ce624bd2ffbf4122cdc76e05f741e60de7bfbb41827", func := "governor/governorlaw7.TypingFits", spec := "typingFits", unfollowed := true, recurses := true, loops := true, apart := false }
def TypingFitsSaid : Prop := typingFitsRow.holds Try.pinned (OpenSpec.ofChange typingFitsSpec)

/-- ITS FALSE NEIGHBOUR: 'it returns false'. Refute it at one input. -/
def typingFitsWrong : ChangeSpec := { name := "typingFits", fn := fun _ => fun
  | [d1, d2, d3, d4, d5, d6] => { results := [.lit (.bool false)], args := [d1, d2, d3, d4, d5, d6] }
  | _ => none }
def TypingFitsWrongFalsely : Prop := typingFitsRow.holds Try.pinned (OpenSpec.ofChange typingFitsWrong)

/-- 'governorlaw7.TypingJoins': WHATEVER THE INPUT: true; the input reads as it did. -/
def typingJoinsSpec : ChangeSpec := { name := "typingJoins", fn := fun _ => fun
  | [d1, d2, d3, d4] => { results := [.lit (.bool true)], args := [d1, d2, d3, d4] }
  | _ => none }
def typingJoinsRow : OpenClaim := { program := "ytmhdcehpddbjaaa", sum := "fa47f352938fb528275e9ce624bd2ffbf4122cdc76e05f741e60de7bfbb41827", func := "governor/governorlaw7.TypingJoins", spec := "typingJoins", unfollowed := true, recurses := true, loops := true, apart := false }
def TypingJoinsSaid : Prop := typingJoinsRow.holds Try.pinned (OpenSpec.ofChange typingJoinsSpec)

/-- ITS FALSE NEIGHBOUR: 'it returns false'. Refute it at one input. -/
def typingJoinsWrong : ChangeSpec := { name := "typingJoins", fn := fun _ => fun
  | [d1, d2, d3, d4] => { results := [.lit (.bool false)], args := [d1, d2, d3, d4] }
  | _ => none }
def TypingJoinsWrongFalsely : Prop := typingJoinsRow.holds Try.pinned (OpenSpec.ofChange typingJoinsWrong)

/-- 'governorlaw7.TypingBins': WHATEVER THE INPUT: true; the input reads as it did. -/
def typingBinsSpec : ChangeSpec := { name := "typingBins", fn := fun _ => fun
  | [d1, d2, d3] => { results := [.lit (.bool true)], args := [d1, d2, d3] }
  | _ => none }
def typingBinsRow : OpenClaim := { program := "ytmhdcehpddbjaaa", sum := "fa47f352938fb528275e9ce624bd2ffbf4122cdc76e05f741e60de7bfbb41827", func := "governor/governorlaw7.TypingBins", spec := "typingBins", unfollowed := true, recurses := true, apart := false }
def TypingBinsSaid : Prop := typingBinsRow.holds Try.pinned (OpenSpec.ofChange typingBinsSpec)

/-- ITS FALSE NEIGHBOUR: 'it returns false'. Refute it at one input. -/
def typingBinsWrong : ChangeSpec := { name := "typingBins", fn := fun _ => fun
  | [d1, d2, d3] => { results := [.lit (.bool false)], args := [d1, d2, d3] }
  | _ => none }
def TypingBinsWrongFalsely : Prop := typingBinsRow.holds Try.pinned (OpenSpec.ofChange typingBinsWrong)

/-- 'governorlaw7.TypingNests': WHATEVER THE INPUT: true; the input reads as it did. -/
def typingNestsSpec : ChangeSpec := { name := "typingNests", fn := fun _ => fun
  | [d1, d2, d3] => { results := [.lit (.bool true)], args := [d1, d2, d3] }
  | _ => none }
def typingNestsRow : OpenClaim := { program := "ytmhdcehpddbjaaa", sum := "fa47f352938fb528275e9ce624bd2ffbf4122cdc76e05f741e60de7bfbb41827", func := "governor/governorlaw7.TypingNests", spec := "typingNests", unfollowed := true, recurses := true, loops := true, apart := false }
def TypingNestsSaid : Prop := typingNestsRow.holds Try.pinned (OpenSpec.ofChange typingNestsSpec)

/-- ITS FALSE NEIGHBOUR: 'it returns false'. Refute it at one input. -/
def typingNestsWrong : ChangeSpec := { name := "typingNests", fn := fun _ => fun
  | [d1, d2, d3] => { results := [.lit (.bool false)], args := [d1, d2, d3] }
  | _ => none }
def TypingNestsWrongFalsely : Prop := typingNestsRow.holds Try.pinned (OpenSpec.ofChange typingNestsWrong)

/- THE SECOND FORM. 'bulk': how many values and letters a reading holds, each counted each time it is reached (what is shared counts as often as it is met; a slice's spare places count too). A statement '..UptoSaid' is the law's where the arguments, and the package variables that the reading takes, are together of bulk at most 1048576: NARROWER than '..Said'. Prove '..Said' where nothing that the law and all that it calls make is longer than what came in: it says more and counts as full. Else prove '..UptoSaid'. A law counts once. -/
mutual
def uptoBulk {H : Type} : DataW H → Nat
  | .lit (.string bytes) => bytes.length + 1
  | .lit _ => 1
  | .nil => 1
  | .ptr d => uptoBulk d + 1
  | .slice elems spare => uptoBulkAll elems + uptoBulkAll spare + 1
  | .agg parts => uptoBulkAll parts + 1
  | .iface _ d => uptoBulk d + 1
  | .map entries => uptoBulkEntries entries + 1
  | .held _ => 1
def uptoBulkAll {H : Type} : List (DataW H) → Nat
  | [] => 0
  | d :: r => uptoBulk d + uptoBulkAll r
def uptoBulkEntries {H : Type} : List (Lit × DataW H) → Nat
  | [] => 0
  | x :: r => uptoBulkEntry x + uptoBulkEntries r
def uptoBulkEntry {H : Type} : Lit × DataW H → Nat
  | (.string bytes, d) => bytes.length + uptoBulk d + 1
  | (_, d) => uptoBulk d + 1
 end
def uptoSmall : (H : Type) → List (DataW H) → Bool := fun _ ds => decide (uptoBulkAll ds ≤ 1048576)
def OpenSpec.upto (s : _root_.Go.ChangeSpec) : _root_.Go.OpenSpec := { _root_.Go.OpenSpec.ofChange s with cond := some uptoSmall }

/-- 'governorlaw7.TypingTells', WHERE WHAT IT READS IS OF BULK AT MOST 1048576: true; the input reads as it did. -/
def typingTellsUptoRow : OpenClaim := { program := "ytmhdcehpddbjaaa", sum := "fa47f352938fb528275e9ce624bd2ffbf4122cdc76e05f741e60de7bfbb41827", func := "governor/governorlaw7.TypingTells", spec := "typingTells", unfollowed := true, recurses := true, loops := true, apart := false, narrowed := true }
def TypingTellsUptoSaid : Prop := typingTellsUptoRow.holds Try.pinned (OpenSpec.upto typingTellsSpec)

/-- 'governorlaw7.TypingBodies', WHERE WHAT IT READS IS OF BULK AT MOST 1048576: true; the input reads as it did. -/
def typingBodiesUptoRow : OpenClaim := { program := "ytmhdcehpddbjaaa", sum := "fa47f352938fb528275e9ce624bd2ffbf4122cdc76e05f741e60de7bfbb41827", func := "governor/governorlaw7.TypingBodies", spec := "typingBodies", unfollowed := true, recurses := true, loops := true, apart := false, narrowed := true }
def TypingBodiesUptoSaid : Prop := typingBodiesUptoRow.holds Try.pinned (OpenSpec.upto typingBodiesSpec)

/-- 'governorlaw7.TypingFits', WHERE WHAT IT READS IS OF BULK AT MOST 1048576: true; the input reads as it did. -/
def typingFitsUptoRow : OpenClaim := { program := "ytmhdcehpddbjaaa", sum := "fa47f352938fb528275e9ce624bd2ffbf4122cdc76e05f741e60de7bfbb41827", func := "governor/governorlaw7.TypingFits", spec := "typingFits", unfollowed := true, recurses := true, loops := true, apart := false, narrowed := true }
def TypingFitsUptoSaid : Prop := typingFitsUptoRow.holds Try.pinned (OpenSpec.upto typingFitsSpec)

/-- 'governorlaw7.TypingJoins', WHERE WHAT IT READS IS OF BULK AT MOST 1048576: true; the input reads as it did. -/
def typingJoinsUptoRow : OpenClaim := { program := "ytmhdcehpddbjaaa", sum := "fa47f352938fb528275e9ce624bd2ffbf4122cdc76e05f741e60de7bfbb41827", func := "governor/governorlaw7.TypingJoins", spec := "typingJoins", unfollowed := true, recurses := true, loops := true, apart := false, narrowed := true }
def TypingJoinsUptoSaid : Prop := typingJoinsUptoRow.holds Try.pinned (OpenSpec.upto typingJoinsSpec)

/-- 'governorlaw7.TypingBins', WHERE WHAT IT READS IS OF BULK AT MOST 1048576: true; the input reads as it did. -/
def typingBinsUptoRow : OpenClaim := { program := "ytmhdcehpddbjaaa", sum := "fa47f352938fb528275e9ce624bd2ffbf4122cdc76e05f741e60de7bfbb41827", func := "governor/governorlaw7.TypingBins", spec := "typingBins", unfollowed := true, recurses := true, apart := false, narrowed := true }
def TypingBinsUptoSaid : Prop := typingBinsUptoRow.holds Try.pinned (OpenSpec.upto typingBinsSpec)

/-- 'governorlaw7.TypingNests', WHERE WHAT IT READS IS OF BULK AT MOST 1048576: true; the input reads as it did. -/
def typingNestsUptoRow : OpenClaim := { program := "ytmhdcehpddbjaaa", sum := "fa47f352938fb528275e9ce624bd2ffbf4122cdc76e05f741e60de7bfbb41827", func := "governor/governorlaw7.TypingNests", spec := "typingNests", unfollowed := true, recurses := true, loops := true, apart := false, narrowed := true }
def TypingNestsUptoSaid : Prop := typingNestsUptoRow.holds Try.pinned (OpenSpec.upto typingNestsSpec)

end Rows
end Go.Proofs.Ytmhdcehpddbjaaa
