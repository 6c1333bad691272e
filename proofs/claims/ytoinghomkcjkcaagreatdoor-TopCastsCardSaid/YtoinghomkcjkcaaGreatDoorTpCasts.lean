/- TopCasts: it answers true, whatever comes in. -/
import Derived.Test.YtoinghomkcjkcaaGreatDoorTc00
import Derived.Test.YtoinghomkcjkcaaGreatDoorTc01
import Derived.Test.YtoinghomkcjkcaaGreatDoorTc02
import Derived.Test.YtoinghomkcjkcaaGreatDoorTc03
import Derived.Test.YtoinghomkcjkcaaGreatDoorTc04
import Derived.Test.YtoinghomkcjkcaaGreatDoorTc10
import Derived.Test.YtoinghomkcjkcaaGreatDoorTc11
import Derived.Test.YtoinghomkcjkcaaGreatDoorTc12
import Derived.Test.YtoinghomkcjkcaaGreatDoorTc13
import Derived.Test.YtoinghomkcjkcaaGreatDoorTc14
import Derived.Test.YtoinghomkcjkcaaGreatDoorTc20
import Derived.Test.YtoinghomkcjkcaaGreatDoorTc21
import Derived.Test.YtoinghomkcjkcaaGreatDoorTc22
import Derived.Test.YtoinghomkcjkcaaGreatDoorTc23
import Derived.Test.YtoinghomkcjkcaaGreatDoorTc24
import Derived.Test.YtoinghomkcjkcaaGreatDoorTc30
import Derived.Test.YtoinghomkcjkcaaGreatDoorTc31
import Derived.Test.YtoinghomkcjkcaaGreatDoorTc32
import Derived.Test.YtoinghomkcjkcaaGreatDoorTc33
import Derived.Test.YtoinghomkcjkcaaGreatDoorTc34
namespace Go.Proofs.YtoinghomkcjkcaaGreatDoor
set_option linter.unusedSimpArgs false
set_option linter.unusedVariables false
set_option linter.constructorNameAsVariable false
open Go Go.RowKit
open Ev
theorem topCasts_any (x y : Int) (b : Bool) (w : World) (hA : Tp.Asc w) : Calls Tryz.prog 3 #[.int .i64 x, .int .i64 y, .bool b] w (fun e w' => e = .returned (.bool true) ∧ Below w.heap.size w w') := by
  obtain ⟨h1, h2⟩ := low_in (ν := (fun n => match n with | 0 => x | _ => y)) 0 4 (by decide) (by decide)
  obtain ⟨h3, h4⟩ := low_in (ν := (fun n => match n with | 0 => x | _ => y)) 1 5 (by decide) (by decide)
  obtain e | e | e | e : zval (fun n => match n with | 0 => x | _ => y) (lowZ 0 4) = 0 ∨ zval (fun n => match n with | 0 => x | _ => y) (lowZ 0 4) = 1 ∨ zval (fun n => match n with | 0 => x | _ => y) (lowZ 0 4) = 2 ∨ zval (fun n => match n with | 0 => x | _ => y) (lowZ 0 4) = 3 := by omega
  · obtain f | f | f | f | f : zval (fun n => match n with | 0 => x | _ => y) (lowZ 1 5) = 0 ∨ zval (fun n => match n with | 0 => x | _ => y) (lowZ 1 5) = 1 ∨ zval (fun n => match n with | 0 => x | _ => y) (lowZ 1 5) = 2 ∨ zval (fun n => match n with | 0 => x | _ => y) (lowZ 1 5) = 3 ∨ zval (fun n => match n with | 0 => x | _ => y) (lowZ 1 5) = 4 := by omega
    · cases b with
      | false => exact ct000 x y w hA e f
      | true => exact ct001 x y w hA e f
    · cases b with
      | false => exact ct010 x y w hA e f
      | true => exact ct011 x y w hA e f
    · cases b with
      | false => exact ct020 x y w hA e f
      | true => exact ct021 x y w hA e f
    · cases b with
      | false => exact ct030 x y w hA e f
      | true => exact ct031 x y w hA e f
    · cases b with
      | false => exact ct040 x y w hA e f
      | true => exact ct041 x y w hA e f
  · obtain f | f | f | f | f : zval (fun n => match n with | 0 => x | _ => y) (lowZ 1 5) = 0 ∨ zval (fun n => match n with | 0 => x | _ => y) (lowZ 1 5) = 1 ∨ zval (fun n => match n with | 0 => x | _ => y) (lowZ 1 5) = 2 ∨ zval (fun n => match n with | 0 => x | _ => y) (lowZ 1 5) = 3 ∨ zval (fun n => match n with | 0 => x | _ => y) (lowZ 1 5) = 4 := by omega
    · cases b with
      | false => exact ct100 x y w hA e f
      | true => exact ct101 x y w hA e f
    · cases b with
      | false => exact ct110 x y w hA e f
      | true => exact ct111 x y w hA e f
    · cases b with
      | false => exact ct120 x y w hA e f
      | true => exact ct121 x y w hA e f
    · cases b with
      | false => exact ct130 x y w hA e f
      | true => exact ct131 x y w hA e f
    · cases b with
      | false => exact ct140 x y w hA e f
      | true => exact ct141 x y w hA e f
  · obtain f | f | f | f | f : zval (fun n => match n with | 0 => x | _ => y) (lowZ 1 5) = 0 ∨ zval (fun n => match n with | 0 => x | _ => y) (lowZ 1 5) = 1 ∨ zval (fun n => match n with | 0 => x | _ => y) (lowZ 1 5) = 2 ∨ zval (fun n => match n with | 0 => x | _ => y) (lowZ 1 5) = 3 ∨ zval (fun n => match n with | 0 => x | _ => y) (lowZ 1 5) = 4 := by omega
    · cases b with
      | false => exact ct200 x y w hA e f
      | true => exact ct201 x y w hA e f
    · cases b with
      | false => exact ct210 x y w hA e f
      | true => exact ct211 x y w hA e f
    · cases b with
      | false => exact ct220 x y w hA e f
      | true => exact ct221 x y w hA e f
    · cases b with
      | false => exact ct230 x y w hA e f
      | true => exact ct231 x y w hA e f
    · cases b with
      | false => exact ct240 x y w hA e f
      | true => exact ct241 x y w hA e f
  · obtain f | f | f | f | f : zval (fun n => match n with | 0 => x | _ => y) (lowZ 1 5) = 0 ∨ zval (fun n => match n with | 0 => x | _ => y) (lowZ 1 5) = 1 ∨ zval (fun n => match n with | 0 => x | _ => y) (lowZ 1 5) = 2 ∨ zval (fun n => match n with | 0 => x | _ => y) (lowZ 1 5) = 3 ∨ zval (fun n => match n with | 0 => x | _ => y) (lowZ 1 5) = 4 := by omega
    · cases b with
      | false => exact ct300 x y w hA e f
      | true => exact ct301 x y w hA e f
    · cases b with
      | false => exact ct310 x y w hA e f
      | true => exact ct311 x y w hA e f
    · cases b with
      | false => exact ct320 x y w hA e f
      | true => exact ct321 x y w hA e f
    · cases b with
      | false => exact ct330 x y w hA e f
      | true => exact ct331 x y w hA e f
    · cases b with
      | false => exact ct340 x y w hA e f
      | true => exact ct341 x y w hA e f
end Go.Proofs.YtoinghomkcjkcaaGreatDoor
