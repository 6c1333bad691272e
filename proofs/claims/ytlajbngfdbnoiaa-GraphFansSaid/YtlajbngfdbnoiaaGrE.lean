/- GraphLines, GraphFans: their numbers, and what an evaluation says of the program. -/
import Derived.Test.YtlajbngfdbnoiaaEvZf
import Derived.Test.YtlajbngfdbnoiaaRows
import Derived.Test.YtlajbngfdbnoiaaGrBack
import Derived.KernelRfl
namespace Go.Proofs.Ytlajbngfdbnoiaa
set_option linter.unusedSimpArgs false
set_option linter.unusedVariables false
set_option linter.constructorNameAsVariable false
open Go Go.RowKit
open Ev
noncomputable section
def lowZ (i : Nat) (m : Int) : Z := .conv .i64 (.bin .rem .u64 (.conv .u64 (.var i)) (.lit m))
def bitZ (i : Int) : Z := .bin .and .i64 (.bin .shr .i64 (.var 1) (.lit i)) (.lit 1)
def gT : TT := ttOf Try.prog
def gN : Nat → String → Option Nat := fun _ _ => none
def g3 : CF3 := ((Try.prog.funcs[(29 : Nat)]?).bind (trF3 (ttOf Try.prog))).getD (.mk 0 (.bad 0) [])
def g4 : CF4 := ((Try.prog.funcs[(14 : Nat)]?).bind (trF4 (ttOf Try.prog))).getD (.mk 0 (.bad 0) [])
def gF : Fns := ⟨fnTa [(29, g3)], fnTa [(14, g4)], 58⟩
def gEv (norm : List (Z × Int)) (g : Nat) : R1 := gcall gF (enT [] norm (fnsOf Try.prog (ttOf Try.prog)) noOv gN []) 100000 g [.i .i64 (.var 0), .i .i64 (.var 1)] (H0 [])
def nmL (m b : Int) : List (Z × Int) := [(lowZ 0 6, m), (lowZ 1 (m + 2), b)]
def evL (m b : Int) : R1 := gEv [(lowZ 0 6, m), (lowZ 1 (m + 2), b)] 3
def nmF (m : Int) (bs : List (Int × Int)) : List (Z × Int) := (lowZ 0 6, m) :: bs.map fun b => (bitZ b.1, b.2)
def evF (m : Int) (bs : List (Int × Int)) : R1 := gEv (nmF m bs) 4
end
theorem gr_mo : Try.prog.follows .mixedOrders = true := by kernel_rfl
theorem gr_fo : flatOk Try.prog = true := by kernel_rfl
theorem gr_sz : (Nat.ble Try.prog.types.size 100000 && Nat.ble Try.prog.funcs.size 100000) = true := by kernel_rfl
theorem isSome_getD {α : Type} {o : Option α} (d : α) (h : o.isSome = true) : o = some (o.getD d) := by cases o with
  | none => cases h
  | some x => rfl
theorem gr_3s : ((Try.prog.funcs[(29 : Nat)]?).bind (trF3 (ttOf Try.prog))).isSome = true := by kernel_rfl
theorem gr_4s : ((Try.prog.funcs[(14 : Nat)]?).bind (trF4 (ttOf Try.prog))).isSome = true := by kernel_rfl
theorem gr_3c : (Try.prog.funcs[(29 : Nat)]?).bind (trF3 (ttOf Try.prog)) = some g3 := isSome_getD _ gr_3s
theorem gr_3 : FnsOk Try.prog (trF3 (ttOf Try.prog)) gF.f3 := fnTa_ok (code_of rfl gr_3c)
theorem gr_4c : (Try.prog.funcs[(14 : Nat)]?).bind (trF4 (ttOf Try.prog)) = some g4 := isSome_getD _ gr_4s
theorem gr_4 : FnsOk Try.prog (trF4 (ttOf Try.prog)) gF.f4 := fnTa_ok (code_of rfl gr_4c)
theorem gr_fns : FnsOk Try.prog (trF (ttOf Try.prog)) (fnsOf Try.prog (ttOf Try.prog)) := fun _ _ h => fnsOf_ok (by
  have h2 := gr_sz
  simp only [Bool.and_eq_true] at h2
  have := Nat.le_of_ble_eq_true h2.2
  omega) h
theorem gr_no {ν : Nat → Int} : PathOk ν [] := by intro p hp; cases hp
theorem gr_calls {ν : Nat → Int} (w : World) {norm : List (Z × Int)} {g : Nat} (hn : NormOk ν norm) (hv : okv (gEv norm g) = some (.b true)) :
    Calls Try.prog g #[.int .i64 (ν 0), .int .i64 (ν 1)] w (fun e w' => e = .returned (.bool true) ∧ Below w.heap.size w w') :=
  evalg_true (P := Try.prog) (ν := ν) (w := w) (fs := gF) gr_sz gr_fo gr_mo (path := []) (norm := norm) gr_no hn gr_fns gr_3 gr_4 back_it noMts_ok (l := []) (by intro p hp; cases hp) hv (args := [.int .i64 (ν 0), .int .i64 (ν 1)]) (by simp [VRs, VR, zval])
theorem wrap_small {n : Int} (h : -9223372036854775808 ≤ n) (h' : n < 9223372036854775808) : IntKind.i64.wrap n = n := by
  rw [IntKind.wrap_i64]; omega
theorem low_in {ν : Nat → Int} (i : Nat) (m : Int) (h : 0 < m) (h' : m ≤ 1000) : 0 ≤ zval ν (lowZ i m) ∧ zval ν (lowZ i m) < m := by
  have e : zval ν (lowZ i m) = IntKind.i64.wrap ((IntKind.u64.wrap (ν i)).tmod m) := rfl
  have h0 : 0 ≤ IntKind.u64.wrap (ν i) := by rw [IntKind.wrap_u64]; omega
  have h1 := Int.tmod_nonneg m h0
  have h2 := Int.tmod_lt_of_pos (IntKind.u64.wrap (ν i)) h
  rw [e, wrap_small (by omega) (by omega)]
  exact ⟨h1, h2⟩
theorem bit_in {ν : Nat → Int} (i : Int) : zval ν (bitZ i) = 0 ∨ zval ν (bitZ i) = 1 := by
  obtain ⟨x, hx⟩ : ∃ x : Int, zval ν (.bin .shr .i64 (.var 1) (.lit i)) = x := ⟨_, rfl⟩
  have e : zval ν (bitZ i) = binVal .and .i64 (zval ν (.bin .shr .i64 (.var 1) (.lit i))) 1 := rfl
  rw [e, hx]
  show IntKind.i64.wrap ((BitVec.ofInt 64 x &&& BitVec.ofInt 64 1).toNat) = 0 ∨ IntKind.i64.wrap ((BitVec.ofInt 64 x &&& BitVec.ofInt 64 1).toNat) = 1
  have h : (BitVec.ofInt 64 x &&& BitVec.ofInt 64 1).toNat = (BitVec.ofInt 64 x).toNat % 2 := by
    rw [BitVec.toNat_and, show (BitVec.ofInt 64 1).toNat = 1 from rfl, Nat.and_one_is_mod]
  rw [h, wrap_small (by omega) (by omega)]
  omega
theorem norm_cons {ν : Nat → Int} {z : Z} {n : Int} {l : List (Z × Int)} (h : zval ν z = n) (k : NormOk ν l) : NormOk ν ((z, n) :: l) := by
  intro q hq
  rcases List.mem_cons.1 hq with rfl | hq
  · exact h
  · exact k q hq
theorem norm_nil {ν : Nat → Int} : NormOk ν [] := by intro q hq; cases hq
end Go.Proofs.Ytlajbngfdbnoiaa
