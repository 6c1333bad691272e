/- Out of a Top row's condition: strings.asciiSpace holds what is listed. -/
import Derived.Test.YtoinghomkcjkcaaGreatDoorKh
import Derived.Test.YtoinghomkcjkcaaGreatDoorRows
import Derived.Lib.LaidTab
import Derived.OpenShut
import Derived.Shelf.Vars
namespace Go.Proofs.YtoinghomkcjkcaaGreatDoor
set_option linter.constructorNameAsVariable false
set_option linter.unusedSimpArgs false
set_option linter.unusedVariables false
open Go Go.RowKit
open Ev
def Tp.ascZ : List Int := (List.range 256).map fun n => if (9 ≤ n ∧ n ≤ 13) ∨ n = 32 then 1 else 0
theorem Tp.asc_z : Tp.asc = Tp.ascZ.map (fun z => V.i .u8 (.lit z)) := by kernel_rfl
theorem Tp.asc_data : (Rows.laid_strings_asciiSpace : DataW Unit) = Lib.tabData .u8 Tp.ascZ := by kernel_rfl
theorem Tp.vrs_map {ν : Nat → Int} {ρ : Pl} : ∀ l : List Int, VRs ν ρ (l.map (fun z => V.i .u8 (.lit z))) (l.map (fun z => Value.int .u8 z))
  | [] => by simp only [List.map_nil, VRs]
  | z :: l => by simp only [List.map_cons, VRs, VR, zval]; exact ⟨_, _, rfl, rfl, Tp.vrs_map l⟩
theorem Tp.asc_glob : Tryz.prog.globalNamed "strings.asciiSpace" = some 4 := by kernel_rfl
theorem Tp.asc_row : ∃ zero t, ((begin Tryz.prog (fun _ _ => 0) default).world.heap[(4 : Nat)]?).bind Obj.row? = some (zero, t) := by
  cases h : ((begin Tryz.prog (fun _ _ => 0) default).world.heap[(4 : Nat)]?).bind Obj.row? with
  | some x => exact ⟨x.1, x.2, rfl⟩
  | none =>
    have : (((begin Tryz.prog (fun _ _ => 0) default).world.heap[(4 : Nat)]?).bind Obj.row?).isSome = true := by kernel_rfl
    rw [h] at this; cases this
theorem Tp.asc_door {W : World} {rest : List (String × DataW Unit)} (h : laidMet Tryz.prog (("strings.asciiSpace", Rows.laid_strings_asciiSpace) :: rest) W) (hS : W.ShapedOpen Tryz.prog) : Tp.Asc W := by
  rw [Tp.asc_data] at h
  have ht := Lib.tabIs_of_head (P := Tryz.prog) (W := W) (t := 594) (e := 5) (n := 256) (g := 4) Tp.asc_glob (by kernel_rfl) (by kernel_rfl) (by kernel_rfl) (by kernel_rfl) (by kernel_rfl) h
  obtain ⟨zero, t, hz⟩ := Tp.asc_row
  obtain ⟨cs, hc, _⟩ := hS.1 4 zero t (by decide +kernel) hz
  have hv : W.var? Tryz.prog "strings.asciiSpace" = some cs := by
    unfold World.var?
    rw [Tp.asc_glob]
    show (match W.heap[(4 : Nat)]? with | some (.cells cs _ _) => some cs | _ => none) = some cs
    rw [hc]
  have ht' : W.var? Tryz.prog "strings.asciiSpace" = some (Tp.ascZ.map fun z => Value.int .u8 z).toArray := ht
  obtain rfl : cs = (Tp.ascZ.map fun z => Value.int .u8 z).toArray := Option.some.inj (hv.symm.trans ht')
  exact ⟨_, t, (0, 0), hc, fun i _ k => by simp at k, by rw [Tp.asc_z]; exact Tp.vrs_map _⟩
end Go.Proofs.YtoinghomkcjkcaaGreatDoor
