/- Evaluations of Top laws, in which awake() is told by its contract. -/
import Derived.Test.YtoinghomkcjkcaaGreatDoorKj
import Derived.Test.YtoinghomkcjkcaaGreatDoorKf
import Derived.Shelf.Strings.Count
namespace Go.Proofs.YtoinghomkcjkcaaGreatDoor
set_option linter.unusedSimpArgs false
set_option linter.unusedVariables false
set_option linter.constructorNameAsVariable false
open Go Go.RowKit
open Ev
noncomputable section
def aOv (g : Nat) (xs : List V) (h : H) : Option R1 := bcase (Nat.beq g 9) (tOv g xs h) (List.rec (motive := fun _ => Option R1) (some (R1.ok (V.b true) h)) (fun _ _ _ => none) xs)
def aEv (path : List (Cd × Bool)) (norm : List (Z × Z)) (g : Nat) (xs : List V) : R1 := gcall tF (enT path norm (fnsOf Tryz.prog tT) aOv (mtsOf tT) [4]) 100000 g xs (H0 [(4, Tp.asc)])
end
theorem aOv_ok {ν : Nat → Int} {W : Bas} (hA : Tp.Asc W.w0) {path : List (Cd × Bool)} {norm : List (Z × Z)} : OvOk Tryz.prog ν W (enT path norm (fnsOf Tryz.prog tT) aOv (mtsOf tT) [4]) := by
  intro g xs h v h' e
  have e' : bcase (Nat.beq g 9) (tOv g xs h) (List.rec (motive := fun _ => Option R1) (some (R1.ok (V.b true) h)) (fun _ _ _ => none) xs) = some (.ok v h') := e
  cases h1 : Nat.beq g 9 with
  | true =>
    rw [h1] at e'
    obtain rfl := Nat.eq_of_beq_eq_true h1
    cases xs with
    | nil =>
      have e2 : R1.ok (V.b true) h = .ok v h' := Option.some.inj e'
      injection e2 with e3 e4
      subst e3; subst e4
      refine call1_pure (fun args w => enter_of Tryz.func9 (by kernel_rfl) (by kernel_rfl) _ _) (fun ρ args w R ha => ?_)
      simp only [VRs] at ha
      subst ha
      refine (awake_is w (Tp.asc_below hA R.below)).mono ?_
      rintro e w' ⟨rfl, hb⟩
      exact ⟨_, rfl, by simp only [VR], hb⟩
    | cons a l => cases e'
  | false =>
    rw [h1] at e'
    exact tOv_ok hA (path := path) (norm := norm) g xs h v h' e'
/-- An evaluation that ends in true. -/
theorem ta_true {ν : Nat → Int} (w : World) (hA : Tp.Asc w) {path : List (Cd × Bool)} {norm : List (Z × Z)} (hp : PathOk ν path) (hn : NormOk ν norm) {g : Nat} {xs : List V} {args : List Value} (hv : okv (aEv path norm g xs) = some (.b true)) (ha : VRs ν (pl0 w [4]) xs args) :
    Calls Tryz.prog g args.toArray w (fun e w' => e = .returned (.bool true) ∧ Below w.heap.size w w') := by
  obtain ⟨h', hv⟩ := okv_some hv
  have hl : ∀ p ∈ [((4 : Nat), Tp.asc)], p.1 < 1000 ∧ Listed ν (pl0 w ([((4 : Nat), Tp.asc)].map (·.1))) w p := by
    intro p hp
    obtain rfl := List.mem_singleton.1 hp
    obtain ⟨cs, e, fz, h1, h2, h3⟩ := hA
    exact ⟨by decide, cs, e, fz, h1, h2, Tp.lits_any _ _ (by kernel_rfl) h3⟩
  refine Calls.mono (evalgx_calls (P := Tryz.prog) (tt := tT) (ν := ν) (w := w) (fs := tF) ev_tt ev_mo hp hn (l := [(4, Tp.asc)]) tf_ok t3_ok t4_ok back_it (mtsOf_ok ev_tt) hl (aOv_ok hA) hv ha) (fun e w' he => ?_)
  obtain ⟨u, hu, ρ', hR, hvr⟩ := he
  simp only [VR] at hvr
  exact ⟨by rw [hu, hvr], hR.below⟩
def lowZ (i : Nat) (m : Int) : Z := .conv .i64 (.bin .rem .u64 (.conv .u64 (.var i)) (.lit m))
theorem wrap_small {n : Int} (h : -9223372036854775808 ≤ n) (h' : n < 9223372036854775808) : IntKind.i64.wrap n = n := by
  rw [IntKind.wrap_i64]; omega
theorem low_in {ν : Nat → Int} (i : Nat) (m : Int) (h : 0 < m) (h' : m ≤ 1000000) : 0 ≤ zval ν (lowZ i m) ∧ zval ν (lowZ i m) < m := by
  have e : zval ν (lowZ i m) = IntKind.i64.wrap ((IntKind.u64.wrap (ν i)).tmod m) := rfl
  have h0 : 0 ≤ IntKind.u64.wrap (ν i) := by rw [IntKind.wrap_u64]; omega
  have h1 := Int.tmod_nonneg m h0
  have h2 := Int.tmod_lt_of_pos (IntKind.u64.wrap (ν i)) h
  rw [e, wrap_small (by omega) (by omega)]
  exact ⟨h1, h2⟩
theorem no_path {ν : Nat → Int} : PathOk ν [] := by intro c hc; cases hc
end Go.Proofs.YtoinghomkcjkcaaGreatDoor
/- Top laws: evaluations in parts, each told once. -/
namespace Go.Proofs.YtoinghomkcjkcaaGreatDoor
set_option linter.unusedSimpArgs false
set_option linter.unusedVariables false
set_option linter.constructorNameAsVariable false
open Go Go.RowKit
open Ev
abbrev Ov := Nat → List V → H → Option R1
noncomputable section
def mEn (ov : Ov) (path : List (Cd × Bool)) (norm : List (Z × Z)) : En := enT path norm (fnsOf Tryz.prog tT) ov (mtsOf tT) [4]
def mEv (ov : Ov) (path : List (Cd × Bool)) (norm : List (Z × Z)) (g : Nat) (xs : List V) (h : H) : R1 := gcall tF (mEn ov path norm) 100000 g xs h
/-- A call that was told. -/
structure Rec where
  g : Nat
  xs : List V
  base : BP
  L : Ins
  ns : List BP
  v : V
  os : List (List V)
def memoOv (r : Rec) (rest : Ov) : Ov := fun g xs h => bcase (Nat.beq g r.g) (rest g xs h) (bcase (vsBeq xs r.xs) (rest g xs h) (bcase (bpEq (nx h) r.base) (rest g xs h) (bcase (insB h r.L) (rest g xs h) (some (R1.ok r.v (pushL r.os h))))))
/-- what is to be shown of a call that is told -/
def memoT (ov : Ov) (r : Rec) : Bool := memoB r.L r.ns r.base r.v r.os (mEv ov [] [] r.g r.xs (hIn r.base r.L))
/-- short names for what is told -/
def q (n : Nat) : BP := bpOf n
def N (l : List Nat) : List BP := List.rec (motive := fun _ => List BP) [] (fun n _ ih => q n :: ih) l
def U (l : List Nat) : List V := List.rec (motive := fun _ => List V) [] (fun n _ ih => V.i .u8 (.lit (Int.ofNat n)) :: ih) l
def I (n : Int) : V := V.i .i64 (.lit n)
def T (n : Nat) : Nat → List Z := Nat.rec (motive := fun _ => Nat → List Z) (fun _ => []) (fun _ ih k => Z.lit (Int.ofNat (Nat.mod k 256)) :: ih (Nat.div k 256)) n
def start : H := H0 [(4, Tp.asc)]
end
structure Good (ν : Nat → Int) (W : Bas) : Prop where
  asc : Tp.Asc W.w0
  gt : GtOk ν W (mEn aOv [] []).gt
def OvGood (ν : Nat → Int) (ov : Ov) : Prop := ∀ W, Good ν W → ∀ g xs h v h', ov g xs h = some (.ok v h') → Call1 Tryz.prog ν W g xs h v h'
theorem aOv_good {ν : Nat → Int} : OvGood ν aOv := fun W hW => aOv_ok hW.asc (path := []) (norm := [])
theorem Good.inner {ν : Nat → Int} {W : Bas} (hW : Good ν W) {ρ : Pl} {h : H} {w : World} (R : Rel ν W ρ h w) : Good ν (Bas.of w ρ) := ⟨Tp.asc_below hW.asc R.below, ⟨hW.gt.low, fun g v hv => VR.mono ν R.base _ _ (hW.gt.glob g v hv)⟩⟩
theorem mEvd_ok {ν : Nat → Int} {W : Bas} (hW : Good ν W) {ov : Ov} (ho : OvGood ν ov) {path : List (Cd × Bool)} {norm : List (Z × Z)} (hp : PathOk ν path) (hn : NormOk ν norm) {d g : Nat} {xs : List V} {h h' : H} {v : V} (hv : gcall tF (enT path norm (fnsOf Tryz.prog tT) ov (mtsOf tT) [4]) d g xs h = .ok v h') : Call1 Tryz.prog ν W g xs h v h' :=
  gcallT_ok ev_tt ev_mo hp hn tf_ok t3_ok t4_ok back_it (mtsOf_ok ev_tt) hW.gt (ho W hW) hv
theorem mEv_ok {ν : Nat → Int} {W : Bas} (hW : Good ν W) {ov : Ov} (ho : OvGood ν ov) {path : List (Cd × Bool)} {norm : List (Z × Z)} (hp : PathOk ν path) (hn : NormOk ν norm) {g : Nat} {xs : List V} {h h' : H} {v : V} (hv : mEv ov path norm g xs h = .ok v h') : Call1 Tryz.prog ν W g xs h v h' := mEvd_ok hW ho hp hn hv
theorem memo_good {ν : Nat → Int} {r : Rec} {ovI rest : Ov} (hI : OvGood ν ovI) (hR : OvGood ν rest) (hv : memoT ovI r = true) : OvGood ν (memoOv r rest) := by
  intro W hW g xs h v h' e
  have e' : bcase (Nat.beq g r.g) (rest g xs h) (bcase (vsBeq xs r.xs) (rest g xs h) (bcase (bpEq (nx h) r.base) (rest g xs h) (bcase (insB h r.L) (rest g xs h) (some (R1.ok r.v (pushL r.os h)))))) = some (.ok v h') := e
  cases e1 : Nat.beq g r.g with
  | false => rw [e1] at e'; exact hR W hW _ _ _ _ _ e'
  | true =>
    rw [e1] at e'
    cases e2 : vsBeq xs r.xs with
    | false => rw [e2] at e'; exact hR W hW _ _ _ _ _ e'
    | true =>
      rw [e2] at e'
      cases e3 : bpEq (nx h) r.base with
      | false => rw [e3] at e'; exact hR W hW _ _ _ _ _ e'
      | true =>
        rw [e3] at e'
        cases e4 : insB h r.L with
        | false => rw [e4] at e'; exact hR W hW _ _ _ _ _ e'
        | true =>
          rw [e4] at e'
          have e5 : R1.ok r.v (pushL r.os h) = .ok v h' := Option.some.inj e'
          injection e5 with e6 e7
          subst e6; subst e7
          have h1 := Nat.eq_of_beq_eq_true e1
          have h2 := vsBeq_eq e2
          have h3 := (bpEq_iff _ _).1 e3
          cases hr : mEv ovI [] [] r.g r.xs (hIn r.base r.L) with
          | bad n => have hv' : memoB r.L r.ns r.base r.v r.os (mEv ovI [] [] r.g r.xs (hIn r.base r.L)) = true := hv; rw [hr] at hv'; cases hv'
          | ok v1 h1' =>
            have hv' : memoB r.L r.ns r.base r.v r.os (mEv ovI [] [] r.g r.xs (hIn r.base r.L)) = true := hv
            rw [hr, ← h3] at hv'
            rw [h1, h2]
            rw [← h3] at hr
            exact sub_call1 (mEv_ok hW hI no_path (by intro c hc; cases hc) hr).1 e4 hv' (fun ρ w R => mEv_ok (hW.inner R) hI no_path (by intro c hc; cases hc) hr)
theorem start_good {ν : Nat → Int} {w : World} (hA : Tp.Asc w) : Good ν (Bas.of w (pl0 w [4])) := ⟨hA, gt_ok (P := Tryz.prog) (path := []) (norm := []) (ov := aOv) (fun g hg => by obtain rfl := List.mem_singleton.1 hg; decide)⟩
/-- An evaluation that ends in true, by calls that were told. -/
theorem tm_true {ν : Nat → Int} (w : World) (hA : Tp.Asc w) {ov : Ov} (ho : OvGood ν ov) {path : List (Cd × Bool)} {norm : List (Z × Z)} (hp : PathOk ν path) (hn : NormOk ν norm) {g : Nat} {xs : List V} {args : List Value} (hv : okv (mEv ov path norm g xs start) = some (.b true)) (ha : VRs ν (pl0 w [4]) xs args) :
    Calls Tryz.prog g args.toArray w (fun e w' => e = .returned (.bool true) ∧ Below w.heap.size w w') := by
  obtain ⟨h', hv⟩ := okv_some hv
  have hl : ∀ p ∈ [((4 : Nat), Tp.asc)], p.1 < 1000 ∧ Listed ν (pl0 w ([((4 : Nat), Tp.asc)].map (·.1))) w p := by
    intro p hp
    obtain rfl := List.mem_singleton.1 hp
    obtain ⟨cs, e, fz, h1, h2, h3⟩ := hA
    exact ⟨by decide, cs, e, fz, h1, h2, Tp.lits_any _ _ (by kernel_rfl) h3⟩
  refine Calls.mono ((mEv_ok (start_good hA) ho hp hn hv).2 _ args w (rel_start hl) ha) (fun e w' he => ?_)
  obtain ⟨u, hu, ρ', hR, hvr, _⟩ := he
  simp only [VR] at hvr
  exact ⟨by rw [hu, hvr], hR.below⟩
end Go.Proofs.YtoinghomkcjkcaaGreatDoor
/- Numbers of 16 bits, as the program and the document make them. -/
namespace Go.Proofs.YtoinghomkcjkcaaGreatDoor
set_option linter.unusedSimpArgs false
set_option linter.unusedVariables false
set_option linter.constructorNameAsVariable false
open Go Go.RowKit
open Ev
def fitZ (x : Z) : Z := .conv .i64 (.conv .i16 x)
def rfitZ (x : Z) : Z := .conv .i64 (.conv .i16 (.conv .u16 (.conv .u64 x)))
theorem wrap16 (n : Int) : IntKind.i16.wrap n = (n + 32768) % 65536 - 32768 := by
  simp only [IntKind.wrap, IntKind.bits, IntKind.signed]; simp; split <;> omega
theorem fit_val {ν : Nat → Int} (x : Z) : zval ν (fitZ x) = (zval ν x + 32768) % 65536 - 32768 := by
  show IntKind.i64.wrap (IntKind.i16.wrap (zval ν x)) = _
  rw [wrap16, IntKind.wrap_i64]; omega
theorem rfit_eq {ν : Nat → Int} (x : Z) : zval ν (rfitZ x) = zval ν (fitZ x) := by
  rw [fit_val]
  show IntKind.i64.wrap (IntKind.i16.wrap (IntKind.u16.wrap (IntKind.u64.wrap (zval ν x)))) = _
  rw [wrap16, IntKind.wrap_i64, IntKind.wrap_u64, IntKind.wrap_u16]; omega
theorem fit_in {ν : Nat → Int} (x : Z) : -32768 ≤ zval ν (fitZ x) ∧ zval ν (fitZ x) ≤ 32767 := by rw [fit_val]; omega
theorem path_nil {ν : Nat → Int} : PathOk ν [] := by intro c hc; cases hc
theorem norm_nil {ν : Nat → Int} : NormOk ν [] := by intro c hc; cases hc
theorem path_cons {ν : Nat → Int} {c : Cd} {b : Bool} {l : List (Cd × Bool)} (h : cmpI c.1 (zval ν c.2.1) (zval ν c.2.2) = b) (k : PathOk ν l) : PathOk ν ((c, b) :: l) := by
  intro d hd
  rcases List.mem_cons.1 hd with rfl | hd
  · exact h
  · exact k d hd
theorem norm_cons {ν : Nat → Int} {z : Z} {n : Int} {l : List (Z × Z)} (h : zval ν z = n) (k : NormOk ν l) : NormOk ν ((z, Z.lit n) :: l) := by
  intro d hd
  rcases List.mem_cons.1 hd with rfl | hd
  · exact h
  · exact k d hd
theorem path_app {ν : Nat → Int} {l m : List (Cd × Bool)} (h : PathOk ν l) (k : PathOk ν m) : PathOk ν (l ++ m) := by
  intro d hd
  rcases List.mem_append.1 hd with hd | hd
  · exact h d hd
  · exact k d hd
theorem eqI_d (a b : Int) : eqI a b = decide (a = b) := by
  cases h : eqI a b with
  | true => rw [decide_eq_true]; cases a <;> cases b <;> simp_all [eqI, ipos]
  | false => rw [decide_eq_false]; intro e; subst e; cases a <;> simp_all [eqI, ipos]
end Go.Proofs.YtoinghomkcjkcaaGreatDoor
/- stringslite.IndexByte and strings.Count (of one byte), as the evaluator answers them. -/
namespace Go.Proofs.YtoinghomkcjkcaaGreatDoor
set_option linter.unusedSimpArgs false
set_option linter.unusedVariables false
set_option linter.constructorNameAsVariable false
open Go Go.RowKit
open Ev
set_option maxRecDepth 100000 in
set_option maxHeartbeats 4000000 in
theorem indexByte_is (s : ByteArray) (c : Int) (w : World) :
    Calls Tryz.prog 518 #[.string s, .int .u8 c] w fun e w' => e = .returned (.int .i64 (Lib.indexByte s.data.toList c.toNat.toUInt8)) ∧ Below w.heap.size w w' := by
  go_enter Tryz.func518, Tryz.ntmps518
  go_wp2
  rw [run_callFunc_extern Tryz.func544 (by kernel_rfl) (by kernel_rfl) (by kernel_rfl) (e := Extern.BytealgIndexByte.indexByte) (by kernel_rfl), Lib.run_indexByteString]
  simp only [Result.andThen]
  rw [Oper.upon_value]
  go_wp2
  go_ret
  exact ⟨rfl, Below.refl _ _⟩
set_option maxRecDepth 100000 in
set_option maxHeartbeats 4000000 in
theorem count1_is (s : ByteArray) (c : UInt8) (w : World) :
    Calls Tryz.prog 405 #[.string s, .string ⟨#[c]⟩] w fun e w' => e = .returned (.int .i64 (Lib.countByte s.data.toList c)) ∧ Below w.heap.size w w' := by
  go_enter Tryz.func405, Tryz.ntmps405
  go_wp2
  rw [run_callFunc_extern Tryz.func485 (by kernel_rfl) (by kernel_rfl) (by kernel_rfl) (e := Extern.BytealgCount.count) (by kernel_rfl), Lib.run_countString]
  simp only [Result.andThen]
  rw [Oper.upon_value]
  go_wp2
  go_ret
  exact ⟨rfl, Below.refl _ _⟩
def Tp.byteLit (z : Z) : Option UInt8 := match z with
  | .lit n => if 0 ≤ n ∧ n < 256 then some n.toNat.toUInt8 else none
  | _ => none
def Tp.litBs : List Z → Option (List UInt8)
  | [] => some []
  | z :: l => match Tp.byteLit z, Tp.litBs l with
    | some b, some m => some (b :: m)
    | _, _ => none
theorem Tp.litBs_ok {ν : Nat → Int} : ∀ {l : List Z} {m b : List UInt8}, SR ν l m → Tp.litBs l = some b → m = b
  | [], [], b, _, h => Option.some.inj h
  | [], _ :: _, b, h, _ => h.elim
  | _ :: _, [], b, h, _ => h.elim
  | z :: l, x :: m, b, ⟨h1, h2⟩, h => by
    unfold Tp.litBs at h
    split at h
    · rename_i c d e1 e2
      obtain rfl := Option.some.inj h
      rw [Tp.litBs_ok h2 e2]
      congr 1
      unfold Tp.byteLit at e1
      split at e1
      · split at e1
        · rename_i n hn
          obtain rfl := Option.some.inj e1
          simp only [zval] at h1
          subst h1
          simp
        · cases e1
      · cases e1
    · cases h
noncomputable def Tp.ovIdx (xs : List V) (h : H) : Option R1 := match xs with
  | [.s l, .i .u8 (.lit c)] => match Tp.litBs l with
    | some b => ocase (okI .i64 (Lib.indexByte b c.toNat.toUInt8)) none (fun v => some (R1.ok v h))
    | none => none
  | _ => none
noncomputable def Tp.ovCnt (xs : List V) (h : H) : Option R1 := match xs with
  | [.s l, .s m] => match Tp.litBs l, Tp.litBs m with
    | some b, some [c] => ocase (okI .i64 (Lib.countByte b c)) none (fun v => some (R1.ok v h))
    | _, _ => none
  | _ => none
theorem Tp.ovIdx_ok {ν : Nat → Int} {W : Bas} {xs : List V} {h h' : H} {v : V} (hv : Tp.ovIdx xs h = some (.ok v h')) : Call1 Tryz.prog ν W 518 xs h v h' := by
  unfold Tp.ovIdx at hv
  split at hv
  · rename_i l c
    split at hv
    · rename_i b hb
      rw [okI_eq] at hv
      have hv' : R1.ok (.i .i64 (.lit (Lib.indexByte b c.toNat.toUInt8))) h = R1.ok v h' := Option.some.inj hv
      injection hv' with e1 e2
      subst e1; subst e2
      refine call1_pure (fun args w => enter_of Tryz.func518 (by kernel_rfl) (by kernel_rfl) _ _) (fun ρ args w R ha => ?_)
      simp only [VRs, VR, zval] at ha
      obtain ⟨u, _, rfl, ⟨s, rfl, hs⟩, u2, _, rfl, rfl, rfl⟩ := ha
      refine (indexByte_is s c w).mono ?_
      rintro e w' ⟨rfl, hbl⟩
      refine ⟨_, rfl, ?_, hbl⟩
      rw [Tp.litBs_ok hs hb]
      simp only [VR, zval]
    · cases hv
  · cases hv
theorem Tp.ovCnt_ok {ν : Nat → Int} {W : Bas} {xs : List V} {h h' : H} {v : V} (hv : Tp.ovCnt xs h = some (.ok v h')) : Call1 Tryz.prog ν W 405 xs h v h' := by
  unfold Tp.ovCnt at hv
  split at hv
  · rename_i l m
    split at hv
    · rename_i b c hb hc
      rw [okI_eq] at hv
      have hv' : R1.ok (.i .i64 (.lit (Lib.countByte b c))) h = R1.ok v h' := Option.some.inj hv
      injection hv' with e1 e2
      subst e1; subst e2
      refine call1_pure (fun args w => enter_of Tryz.func405 (by kernel_rfl) (by kernel_rfl) _ _) (fun ρ args w R ha => ?_)
      simp only [VRs, VR, zval] at ha
      obtain ⟨u, _, rfl, ⟨s, rfl, hs⟩, u2, _, rfl, ⟨t, rfl, ht⟩, rfl⟩ := ha
      have h1 := Tp.litBs_ok ht hc
      obtain rfl : t = ⟨#[c]⟩ := by
        cases t with
        | mk d => congr 1; exact Array.toList_inj.1 h1
      refine (count1_is s c w).mono ?_
      rintro e w' ⟨rfl, hbl⟩
      refine ⟨_, rfl, ?_, hbl⟩
      rw [Tp.litBs_ok hs hb]
      simp only [VR, zval]
    · cases hv
  · cases hv
noncomputable def sOv : Ov := fun g xs h => bcase (Nat.beq g 518) (bcase (Nat.beq g 405) (aOv g xs h) (Tp.ovCnt xs h)) (Tp.ovIdx xs h)
theorem sOv_good {ν : Nat → Int} : OvGood ν sOv := by
  intro W hW g xs h v h' e
  have e' : bcase (Nat.beq g 518) (bcase (Nat.beq g 405) (aOv g xs h) (Tp.ovCnt xs h)) (Tp.ovIdx xs h) = some (.ok v h') := e
  cases h1 : Nat.beq g 518 with
  | true => rw [h1] at e'; rw [Nat.eq_of_beq_eq_true h1]; exact Tp.ovIdx_ok e'
  | false =>
    rw [h1] at e'
    cases h2 : Nat.beq g 405 with
    | true => rw [h2] at e'; rw [Nat.eq_of_beq_eq_true h2]; exact Tp.ovCnt_ok e'
    | false => rw [h2] at e'; exact aOv_good W hW _ _ _ _ _ e'
end Go.Proofs.YtoinghomkcjkcaaGreatDoor
