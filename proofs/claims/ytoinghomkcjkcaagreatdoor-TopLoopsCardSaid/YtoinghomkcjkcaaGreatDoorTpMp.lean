/- Told calls under a path, and families of facts on small numbers and digits. -/
import Derived.Test.YtoinghomkcjkcaaGreatDoorTpDec
import Derived.Test.YtoinghomkcjkcaaGreatDoorKk
namespace Go.Proofs.YtoinghomkcjkcaaGreatDoor
set_option linter.unusedSimpArgs false
set_option linter.unusedVariables false
set_option linter.constructorNameAsVariable false
open Go Go.RowKit
open Ev
noncomputable section
/-- what is to be shown of a call that is told, of numbers of which this is known -/
def memoTp (ov : Ov) (path : List (Cd × Bool)) (norm : List (Z × Z)) (r : Rec) : Bool := memoB r.L r.ns r.base r.v r.os (mEv ov path norm r.g r.xs (hIn r.base r.L))
end
theorem memo_goodp {ν : Nat → Int} {r : Rec} {ovI rest : Ov} {path : List (Cd × Bool)} {norm : List (Z × Z)} (hp : PathOk ν path) (hn : NormOk ν norm) (hI : OvGood ν ovI) (hR : OvGood ν rest) (hv : memoTp ovI path norm r = true) : OvGood ν (memoOv r rest) := by
  intro W hW g xs h v h' e
  have e' : bcase (Nat.beq g r.g) (rest g xs h) (bcase (vsBeq xs r.xs) (rest g xs h) (bcase (bpEq (nx h) r.base) (rest g xs h) (bcase (insB h r.L) (rest g xs h) (some (R1.ok r.v (pushL r.os h)))))) = some (.ok v h') := e
  cases e1 : Nat.beq g r.g with
  | false => rw [e1] at e'; exact hR W hW _ _ _ _ _ e'
  | true =>
    rw [e1] at e'
    cases e2 : vsBeq xs r.xs with
    | false => rw [e2] at e'; exact hR W hW _ _ _ _ _ e'
    | true =>
      rw [e2] at e'
      cases e3 : bpEq (nx h) r.base with
      | false => rw [e3] at e'; exact hR W hW _ _ _ _ _ e'
      | true =>
        rw [e3] at e'
        cases e4 : insB h r.L with
        | false => rw [e4] at e'; exact hR W hW _ _ _ _ _ e'
        | true =>
          rw [e4] at e'
          have e5 : R1.ok r.v (pushL r.os h) = .ok v h' := Option.some.inj e'
          injection e5 with e6 e7
          subst e6; subst e7
          have h1 := Nat.eq_of_beq_eq_true e1
          have h2 := vsBeq_eq e2
          have h3 := (bpEq_iff _ _).1 e3
          cases hr : mEv ovI path norm r.g r.xs (hIn r.base r.L) with
          | bad n => have hv' : memoB r.L r.ns r.base r.v r.os (mEv ovI path norm r.g r.xs (hIn r.base r.L)) = true := hv; rw [hr] at hv'; cases hv'
          | ok v1 h1' =>
            have hv' : memoB r.L r.ns r.base r.v r.os (mEv ovI path norm r.g r.xs (hIn r.base r.L)) = true := hv
            rw [hr, ← h3] at hv'
            rw [h1, h2]
            rw [← h3] at hr
            exact sub_call1 (mEv_ok hW hI hp hn hr).1 e4 hv' (fun ρ w R => mEv_ok (hW.inner R) hI hp hn hr)
variable {ν : Nat → Int}
theorem norm_consz {z y : Z} {l : List (Z × Z)} (h : zval ν z = zval ν y) (k : NormOk ν l) : NormOk ν ((z, y) :: l) := by
  intro d hd
  rcases List.mem_cons.1 hd with rfl | hd
  · exact h
  · exact k d hd
theorem norm_app {l m : List (Z × Z)} (h : NormOk ν l) (k : NormOk ν m) : NormOk ν (l ++ m) := by
  intro d hd
  rcases List.mem_append.1 hd with hd | hd
  · exact h d hd
  · exact k d hd
theorem fc_eq {a b : Z} (h : zval ν a = zval ν b) : cmpI .eql (zval ν a) (zval ν b) = true := by show eqI _ _ = true; rw [eqI_d, decide_eq_true_eq]; exact h
theorem fc_ne {a b : Z} (h : zval ν a ≠ zval ν b) : cmpI .eql (zval ν a) (zval ν b) = false := by show eqI _ _ = false; rw [eqI_d, decide_eq_false_iff_not]; exact h
theorem fc_nq {a b : Z} (h : zval ν a = zval ν b) : cmpI .neq (zval ν a) (zval ν b) = false := by show (!eqI _ _) = false; rw [eqI_d, Bool.not_eq_false', decide_eq_true_eq]; exact h
theorem fc_nqt {a b : Z} (h : zval ν a ≠ zval ν b) : cmpI .neq (zval ν a) (zval ν b) = true := by show (!eqI _ _) = true; rw [eqI_d, Bool.not_eq_true', decide_eq_false_iff_not]; exact h
theorem fc_lt {a b : Z} (h : zval ν a < zval ν b) : cmpI .lss (zval ν a) (zval ν b) = true := by show ltI _ _ = true; rw [ltI_eq, decide_eq_true_eq]; exact h
theorem fc_ltf {a b : Z} (h : zval ν b ≤ zval ν a) : cmpI .lss (zval ν a) (zval ν b) = false := by show ltI _ _ = false; rw [ltI_eq, decide_eq_false_iff_not]; omega
theorem fc_le {a b : Z} (h : zval ν a ≤ zval ν b) : cmpI .leq (zval ν a) (zval ν b) = true := by show (!ltI _ _) = true; rw [ltI_eq, Bool.not_eq_true', decide_eq_false_iff_not]; omega
theorem fc_lef {a b : Z} (h : zval ν b < zval ν a) : cmpI .leq (zval ν a) (zval ν b) = false := by show (!ltI _ _) = false; rw [ltI_eq, Bool.not_eq_false', decide_eq_true_eq]; exact h
theorem fc_gt {a b : Z} (h : zval ν b < zval ν a) : cmpI .gtr (zval ν a) (zval ν b) = true := by show ltI _ _ = true; rw [ltI_eq, decide_eq_true_eq]; exact h
theorem fc_gtf {a b : Z} (h : zval ν a ≤ zval ν b) : cmpI .gtr (zval ν a) (zval ν b) = false := by show ltI _ _ = false; rw [ltI_eq, decide_eq_false_iff_not]; omega
theorem fc_ge {a b : Z} (h : zval ν b ≤ zval ν a) : cmpI .geq (zval ν a) (zval ν b) = true := by show (!ltI _ _) = true; rw [ltI_eq, Bool.not_eq_true', decide_eq_false_iff_not]; omega
theorem fc_gef {a b : Z} (h : zval ν a < zval ν b) : cmpI .geq (zval ν a) (zval ν b) = false := by show (!ltI _ _) = false; rw [ltI_eq, Bool.not_eq_false', decide_eq_true_eq]; exact h
/-- what the lexer asks of a digit -/
def digP (z : Z) : List (Cd × Bool) := [((.eql, z, .lit 32), false), ((.eql, z, .lit 9), false), ((.eql, z, .lit 10), false), ((.eql, z, .lit 13), false), ((.eql, z, .lit 40), false), ((.eql, z, .lit 58), false), ((.eql, z, .lit 63), false), ((.eql, z, .lit 62), false), ((.eql, z, .lit 60), false), ((.eql, z, .lit 46), false), ((.eql, z, .lit 43), false), ((.eql, z, .lit 45), false), ((.eql, z, .lit 42), false), ((.eql, z, .lit 47), false), ((.eql, z, .lit 61), false), ((.eql, z, .lit 41), false), ((.eql, z, .lit 91), false), ((.eql, z, .lit 93), false), ((.eql, z, .lit 44), false), ((.eql, z, .lit 59), false), ((.geq, z, .lit 97), false), ((.geq, z, .lit 65), false), ((.geq, z, .lit 48), true), ((.leq, z, .lit 57), true)]
theorem path_one {c : Cd} {b : Bool} (h : cmpI c.1 (zval ν c.2.1) (zval ν c.2.2) = b) : PathOk ν [(c, b)] := path_cons h path_nil
theorem digP_ok {z : Z} (h : 48 ≤ zval ν z) (h' : zval ν z ≤ 57) : PathOk ν (digP z) := by
  have ne : ∀ n : Int, n < 48 ∨ 57 < n → cmpI .eql (zval ν z) (zval ν (.lit n)) = false := fun n hn => fc_ne (by show zval ν z ≠ n; omega)
  have gf : ∀ n : Int, 57 < n → cmpI .geq (zval ν z) (zval ν (.lit n)) = false := fun n hn => fc_gef (by show zval ν z < n; omega)
  exact path_cons (ne 32 (by decide)) (path_cons (ne 9 (by decide)) (path_cons (ne 10 (by decide)) (path_cons (ne 13 (by decide)) (path_cons (ne 40 (by decide)) (path_cons (ne 58 (by decide)) (path_cons (ne 63 (by decide)) (path_cons (ne 62 (by decide)) (path_cons (ne 60 (by decide)) (path_cons (ne 46 (by decide)) (path_cons (ne 43 (by decide)) (path_cons (ne 45 (by decide)) (path_cons (ne 42 (by decide)) (path_cons (ne 47 (by decide)) (path_cons (ne 61 (by decide)) (path_cons (ne 41 (by decide)) (path_cons (ne 91 (by decide)) (path_cons (ne 93 (by decide)) (path_cons (ne 44 (by decide)) (path_cons (ne 59 (by decide)) (path_cons (gf 97 (by decide)) (path_cons (gf 65 (by decide)) (path_cons (fc_ge h) (path_cons (fc_le h') path_nil)))))))))))))))))))))))
theorem zconv (k : IntKind) (a : Z) : zval ν (.conv k a) = k.wrap (zval ν a) := rfl
theorem zbin (op : BinOp) (k : IntKind) (a b : Z) : zval ν (.bin op k a b) = binVal op k (zval ν a) (zval ν b) := rfl
theorem zvar (i : Nat) : zval ν (.var i) = ν i := rfl
theorem zlit (n : Int) : zval ν (.lit n) = n := rfl
theorem wrap_u8' (n : Int) : IntKind.u8.wrap n = n % 256 := by simp only [IntKind.wrap, IntKind.bits, IntKind.signed]; simp
theorem wrap_i32' (n : Int) : IntKind.i32.wrap n = (n + 2147483648) % 4294967296 - 2147483648 := by
  simp only [IntKind.wrap, IntKind.bits, IntKind.signed]; simp; split <;> omega
theorem shr_val (k : IntKind) (x : Int) (h : 0 ≤ x) (h' : x < 256) : binVal .shr k x 8 = 0 ∧ binVal .shr k x 16 = 0 ∧ binVal .shr k x 24 = 0 := by
  have e : ∀ m : Int, (0 : Int) < m → 256 ≤ m → x.fdiv m = 0 := fun m hm h1 => by
    rw [Int.fdiv_eq_ediv_of_nonneg _ (by omega)]
    exact Int.ediv_eq_zero_of_lt h (by omega)
  cases k <;> exact ⟨e _ (by decide) (by decide), e _ (by decide) (by decide), e _ (by decide) (by decide)⟩
theorem or0_val (x : Int) (h : 0 ≤ x) (h' : x < 9223372036854775808) : binVal .or .i64 0 x = x := by
  show IntKind.i64.wrap ((BitVec.ofInt 64 0 ||| BitVec.ofInt 64 x).toNat : Int) = x
  rw [show BitVec.ofInt 64 0 = 0#64 from rfl, BitVec.zero_or, BitVec.toNat_ofInt, IntKind.wrap_i64]
  omega
/-- what is reckoned with a number from 0 to 255 on its way through the layers -/
def smallN (z : Z) : List (Z × Z) := [(.conv .i64 z, z), (.bin .add .i64 (.lit 0) z, z), (.bin .shr .i64 z (.lit 24), .lit 0), (.bin .shr .i64 z (.lit 16), .lit 0), (.bin .shr .i64 z (.lit 8), .lit 0), (.conv .u8 z, z), (.bin .or .i64 (.lit 0) z, z), (.conv .i32 z, z)]
theorem smallN_ok {z : Z} (h : 0 ≤ zval ν z) (h' : zval ν z < 256) : NormOk ν (smallN z) := by
  have s := fun k => shr_val k (zval ν z) h h'
  exact norm_consz (by rw [zconv, IntKind.wrap_i64]; omega) (norm_consz (by rw [zbin, zlit]; show IntKind.i64.wrap _ = _; rw [IntKind.wrap_i64]; omega) (norm_consz (s _).2.2 (norm_consz (s _).2.1 (norm_consz (s _).1 (norm_consz (by rw [zconv, wrap_u8']; omega) (norm_consz (by rw [zbin, zlit]; exact or0_val _ h (by omega)) (norm_consz (by rw [zconv, wrap_i32']; omega) norm_nil)))))))
def smallP (z : Z) : List (Cd × Bool) := [((.gtr, z, .lit 32768), false), ((.lss, z, .lit (-2147483648)), false), ((.gtr, z, .lit 2147483647), false), ((.leq, .lit 0, z), true), ((.lss, z, .lit 256), true), ((.eql, z, z), true), ((.lss, z, .lit 0), false), ((.neq, z, z), false)]
theorem smallP_ok {z : Z} (h : 0 ≤ zval ν z) (h' : zval ν z < 256) : PathOk ν (smallP z) :=
  path_cons (fc_gtf (by show zval ν z ≤ 32768; omega)) (path_cons (fc_ltf (by show -2147483648 ≤ zval ν z; omega)) (path_cons (fc_gtf (by show zval ν z ≤ 2147483647; omega)) (path_cons (fc_le h) (path_cons (fc_lt h') (path_cons (fc_eq rfl) (path_cons (fc_ltf h) (path_cons (fc_nq rfl) path_nil)))))))
theorem quo_val {x y : Int} (hx : 0 ≤ x) (hx' : x < 1000000) (hy : 0 < y) : binVal .quo .i64 x y = x / y := by
  show IntKind.i64.wrap (x.tdiv y) = x / y
  rw [Int.tdiv_eq_ediv_of_nonneg hx, IntKind.wrap_i64]
  have h1 : 0 ≤ x / y := Int.ediv_nonneg hx (by omega)
  have h2 : x / y ≤ x := Int.ediv_le_self y hx
  omega
theorem quo_pos {x y : Z} (hy : 0 < zval ν y) (h : zval ν y ≤ zval ν x) (h' : zval ν x < 1000000) : 0 < zval ν (.bin .quo .i64 x y) := by
  rw [zbin, quo_val (by omega) h' hy]
  have := Int.le_ediv_of_mul_le hy (show 1 * zval ν y ≤ zval ν x by omega)
  omega
theorem quo_zero {x y : Z} (hx : 0 ≤ zval ν x) (h : zval ν x < zval ν y) (h' : zval ν x < 1000000) : zval ν (.bin .quo .i64 x y) = 0 := by
  rw [zbin, quo_val hx h' (by omega)]
  exact Int.ediv_eq_zero_of_lt hx h
theorem low_rem (i : Nat) (m : Int) (h : 0 < m) (h' : m ≤ 1000000) : zval ν (.bin .rem .u64 (.conv .u64 (.var i)) (.lit m)) = zval ν (lowZ i m) := by
  have e : zval ν (lowZ i m) = IntKind.i64.wrap ((IntKind.u64.wrap (ν i)).tmod m) := rfl
  have h0 : 0 ≤ IntKind.u64.wrap (ν i) := by rw [IntKind.wrap_u64]; omega
  have h1 := Int.tmod_nonneg m h0
  have h2 := Int.tmod_lt_of_pos (IntKind.u64.wrap (ν i)) h
  rw [e, wrap_small (by omega) (by omega)]
  rfl
theorem dec1_ok {z d : Z} (h : 0 ≤ zval ν z) (h' : zval ν z < 10) (hd : zval ν d = 48 + zval ν z) : ∃ n : Nat, n ≤ 1000000000 ∧ zval ν z = n ∧ SR ν [d] (Tp.decT n []) := by
  refine ⟨(zval ν z).toNat, by omega, by omega, ?_⟩
  rw [Tp.decT_1 (by omega)]
  refine ⟨?_, trivial⟩
  rw [hd, Tp.dg_val]; omega
theorem dec2_ok {z d e : Z} (h : 10 ≤ zval ν z) (h' : zval ν z < 100) (hd : zval ν d = 48 + zval ν z / 10) (he : zval ν e = 48 + zval ν z % 10) : ∃ n : Nat, n ≤ 1000000000 ∧ zval ν z = n ∧ SR ν [d, e] (Tp.decT n []) := by
  refine ⟨(zval ν z).toNat, by omega, by omega, ?_⟩
  rw [Tp.decT_2 (by omega) (by omega)]
  refine ⟨?_, ?_, trivial⟩
  · rw [hd, Tp.dg_val]; omega
  · rw [he, Tp.dg_val]; omega
theorem dec3_ok {z d e f : Z} (h : 100 ≤ zval ν z) (h' : zval ν z < 1000) (hd : zval ν d = 48 + zval ν z / 100) (he : zval ν e = 48 + zval ν z / 10 % 10) (hf : zval ν f = 48 + zval ν z % 10) : ∃ n : Nat, n ≤ 1000000000 ∧ zval ν z = n ∧ SR ν [d, e, f] (Tp.decT n []) := by
  refine ⟨(zval ν z).toNat, by omega, by omega, ?_⟩
  rw [Tp.decT_3 (by omega) (by omega)]
  refine ⟨?_, ?_, ?_, trivial⟩
  · rw [hd, Tp.dg_val]; omega
  · rw [he, Tp.dg_val]; omega
  · rw [hf, Tp.dg_val]; omega
theorem decok_cons {p : Z × List Z} {tb : List (Z × List Z)} (h : ∃ n : Nat, n ≤ 1000000000 ∧ zval ν p.1 = n ∧ SR ν p.2 (Tp.decT n [])) (k : DecOk ν tb) : DecOk ν (p :: tb) := by
  intro q hq
  rcases List.mem_cons.1 hq with rfl | hq
  · exact h
  · exact k q hq
theorem decok_nil : DecOk ν [] := fun q hq => by cases hq
theorem and1_val (x : Int) : binVal .and .i64 x 1 = 0 ∨ binVal .and .i64 x 1 = 1 := by
  show IntKind.i64.wrap ((BitVec.ofInt 64 x &&& BitVec.ofInt 64 1).toNat : Int) = 0 ∨ IntKind.i64.wrap ((BitVec.ofInt 64 x &&& BitVec.ofInt 64 1).toNat : Int) = 1
  rw [show BitVec.ofInt 64 1 = 1#64 from rfl, BitVec.toNat_and, show (1#64).toNat = 1 from rfl, Nat.and_one_is_mod, IntKind.wrap_i64]
  omega
theorem eqs_nil {ν' : Nat → Int} : ∀ p ∈ ([] : List (Nat × Z)), ν' p.1 = zval ν p.2 := fun p hp => by cases hp
theorem eqs_cons {ν' : Nat → Int} {j : Nat} {z : Z} {l : List (Nat × Z)} (h : ν' j = zval ν z) (k : ∀ p ∈ l, ν' p.1 = zval ν p.2) : ∀ p ∈ (j, z) :: l, ν' p.1 = zval ν p.2 := by
  intro p hp
  rcases List.mem_cons.1 hp with rfl | hp
  · exact h
  · exact k p hp
theorem shr_at (x : Int) : binVal .shr .i64 x 8 = x / 256 ∧ binVal .shr .i64 x 16 = x / 65536 ∧ binVal .shr .i64 x 24 = x / 16777216 :=
  ⟨Int.fdiv_eq_ediv_of_nonneg x (by decide), Int.fdiv_eq_ediv_of_nonneg x (by decide), Int.fdiv_eq_ediv_of_nonneg x (by decide)⟩
theorem or_at (x y : Int) (h : 0 ≤ x) (h' : x < 4294967296) (g : 0 ≤ y) (g' : y < 256) : binVal .or .i64 (x * 256) y = x * 256 + y := by
  show IntKind.i64.wrap ((BitVec.ofInt 64 (x * 256) ||| BitVec.ofInt 64 y).toNat : Int) = x * 256 + y
  obtain ⟨a, rfl⟩ := Int.eq_ofNat_of_zero_le h
  obtain ⟨b, rfl⟩ := Int.eq_ofNat_of_zero_le g
  have e1 : (BitVec.ofInt 64 ((a : Int) * 256)).toNat = a * 256 := by rw [BitVec.toNat_ofInt]; omega
  have e2 : (BitVec.ofInt 64 (b : Int)).toNat = b := by rw [BitVec.toNat_ofInt]; omega
  have e3 : a * 256 ||| b = a * 256 + b := by
    have := Nat.shiftLeft_add_eq_or_of_lt (show b < 2 ^ 8 by omega) a
    rw [Nat.shiftLeft_eq] at this
    exact this.symm
  rw [BitVec.toNat_or, e1, e2, e3, IntKind.wrap_i64]
  omega
theorem or_shl {x y : Z} (h : 0 ≤ zval ν x) (h' : zval ν x < 4294967296) (g : 0 ≤ zval ν y) (g' : zval ν y < 256) : zval ν (.bin .or .i64 (.bin .shl .i64 x (.lit 8)) y) = zval ν x * 256 + zval ν y := by
  rw [zbin, zbin]
  have e : binVal .shl .i64 (zval ν x) (zval ν (.lit 8)) = zval ν x * 256 := by
    show IntKind.i64.wrap (zval ν x * 256) = _
    rw [IntKind.wrap_i64]; omega
  rw [e]
  exact or_at _ _ h h' g g'
theorem dn1_ok {z d0 : Z} (h : 0 ≤ zval ν z) (h' : zval ν z < 10) (g0 : zval ν d0 = 48 + zval ν z) : ∃ n : Nat, n ≤ 1000000000 ∧ zval ν z = n ∧ SR ν [d0] (Tp.decT n []) := dec1_ok h h' g0
theorem dn2_ok {z d0 d1 : Z} (h : 10 ≤ zval ν z) (h' : zval ν z < 100) (g0 : zval ν d0 = 48 + zval ν z / 10) (g1 : zval ν d1 = 48 + zval ν z % 10) : ∃ n : Nat, n ≤ 1000000000 ∧ zval ν z = n ∧ SR ν [d0, d1] (Tp.decT n []) := by
  refine ⟨(zval ν z).toNat, by omega, by omega, ?_⟩
  rw [Tp.decT_2 (by omega) (by omega)]
  refine ⟨?_, ?_, trivial⟩
  · rw [g0, Tp.dg_val]; omega
  · rw [g1, Tp.dg_val]; omega
theorem dn3_ok {z d0 d1 d2 : Z} (h : 100 ≤ zval ν z) (h' : zval ν z < 1000) (g0 : zval ν d0 = 48 + zval ν z / 10 / 10) (g1 : zval ν d1 = 48 + zval ν z / 10 % 10) (g2 : zval ν d2 = 48 + zval ν z % 10) : ∃ n : Nat, n ≤ 1000000000 ∧ zval ν z = n ∧ SR ν [d0, d1, d2] (Tp.decT n []) := by
  refine ⟨(zval ν z).toNat, by omega, by omega, ?_⟩
  rw [Tp.decT_3 (by omega) (by omega)]
  refine ⟨?_, ?_, ?_, trivial⟩
  · rw [g0, Tp.dg_val]; omega
  · rw [g1, Tp.dg_val]; omega
  · rw [g2, Tp.dg_val]; omega
theorem dn4_ok {z d0 d1 d2 d3 : Z} (h : 1000 ≤ zval ν z) (h' : zval ν z < 10000) (g0 : zval ν d0 = 48 + zval ν z / 10 / 10 / 10) (g1 : zval ν d1 = 48 + zval ν z / 10 / 10 % 10) (g2 : zval ν d2 = 48 + zval ν z / 10 % 10) (g3 : zval ν d3 = 48 + zval ν z % 10) : ∃ n : Nat, n ≤ 1000000000 ∧ zval ν z = n ∧ SR ν [d0, d1, d2, d3] (Tp.decT n []) := by
  refine ⟨(zval ν z).toNat, by omega, by omega, ?_⟩
  rw [Tp.decT_4 (by omega) (by omega)]
  refine ⟨?_, ?_, ?_, ?_, trivial⟩
  · rw [g0, Tp.dg_val]; omega
  · rw [g1, Tp.dg_val]; omega
  · rw [g2, Tp.dg_val]; omega
  · rw [g3, Tp.dg_val]; omega
theorem dn5_ok {z d0 d1 d2 d3 d4 : Z} (h : 10000 ≤ zval ν z) (h' : zval ν z < 100000) (g0 : zval ν d0 = 48 + zval ν z / 10 / 10 / 10 / 10) (g1 : zval ν d1 = 48 + zval ν z / 10 / 10 / 10 % 10) (g2 : zval ν d2 = 48 + zval ν z / 10 / 10 % 10) (g3 : zval ν d3 = 48 + zval ν z / 10 % 10) (g4 : zval ν d4 = 48 + zval ν z % 10) : ∃ n : Nat, n ≤ 1000000000 ∧ zval ν z = n ∧ SR ν [d0, d1, d2, d3, d4] (Tp.decT n []) := by
  refine ⟨(zval ν z).toNat, by omega, by omega, ?_⟩
  rw [Tp.decT_5 (by omega) (by omega)]
  refine ⟨?_, ?_, ?_, ?_, ?_, trivial⟩
  · rw [g0, Tp.dg_val]; omega
  · rw [g1, Tp.dg_val]; omega
  · rw [g2, Tp.dg_val]; omega
  · rw [g3, Tp.dg_val]; omega
  · rw [g4, Tp.dg_val]; omega
end Go.Proofs.YtoinghomkcjkcaaGreatDoor
