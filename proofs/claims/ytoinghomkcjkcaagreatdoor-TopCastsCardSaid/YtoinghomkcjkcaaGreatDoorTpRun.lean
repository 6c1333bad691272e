/- A world that holds what is listed, by closed facts, each of them small: no two places alike by one look at each. -/
import Derived.LaidLaws
import Derived.LaidOnce
namespace Go.Proofs.YtoinghomkcjkcaaGreatDoor
set_option linter.constructorNameAsVariable false
set_option linter.unusedVariables false
set_option linter.unusedSimpArgs false
open Go
theorem Tp.laidMet_run4 {P : Program} {w : World} {l : List (String × DataW Unit)} (fuel M : Nat) (h : (DataW.laidRun P w fuel (l.map (·.1))).map (·.1) = some l)
    (hn : (DataW.laidRun P w fuel (l.map (·.1))).map (fun x => nodupBits M x.2 0) = some true)
    (hr : (DataW.laidRun P w fuel (l.map (·.1))).map (fun x => laidRowsB P w x.2) = some true) : laidMet P l w := by
  cases hx : DataW.laidRun P w fuel (l.map (·.1)) with
  | none => simp [hx] at h
  | some x =>
    rw [hx] at h hn hr
    simp only [Option.map_some, Option.some.injEq] at h hn hr
    obtain ⟨x1, x2⟩ := x
    simp only at h hn hr
    subst h
    exact laidMet_of_run fuel hx (decide_eq_true (nodupBits_sound hn).1) hr
end Go.Proofs.YtoinghomkcjkcaaGreatDoor
