/- Laws with loops: a loop's rounds evaluated, told by states. -/
import Derived.Test.YtoinghomkcjkcaaGreatDoorTpMp
import Derived.Test.YtoinghomkcjkcaaGreatDoorEvL
namespace Go.Proofs.YtoinghomkcjkcaaGreatDoor
set_option linter.unusedSimpArgs false
set_option linter.unusedVariables false
set_option linter.constructorNameAsVariable false
open Go Go.RowKit
open Ev
noncomputable section
def fnOf (g : Nat) : Func := (Tryz.prog.funcs[g]?).getD Tryz.f0
def bodyOf (g : Nat) : Code := ((fnOf g).body).getD .skip
def loopOf (g i : Nat) : Code := ((loopsC (bodyOf g))[i]?).getD .skip
def slotsOf (g : Nat) : Tr Unit := slots ((fnOf g).params.size + (fnOf g).nfree) (useR (fnOf g).results.toList (useC (bodyOf g) .lf))
def resOf (g : Nat) : List Rv := (trRvs tT (fnOf g).results.toList).getD []
/-- a function's code, and a loop of it, as the evaluator runs them -/
def bodyC (g : Nat) : C2 := trC tT (fnOf g).ntmps (slotsOf g) (bodyOf g)
def loopC (g i : Nat) : C2 := trC tT (fnOf g).ntmps (slotsOf g) (loopOf g i)
def mGt : Tr V := (mEn aOv [] []).gt
def mFS (lov : Lov) (ov : Ov) (path : List (Cd × Bool)) (norm : List (Z × Z)) (c : C2) (t : Tr V) (h : H) : X := FSx lov (mEn ov path norm) (gcall tF (mEn ov path norm) 100000) 1000000 c t h
def noLov : Lov := fun _ _ => none
/-- a loop that is told: it begins at this state, and leaves at that one -/
def lovOf (k : BP) (s0 : St) (E0 : Eqs) (id : Nat) (sE : St) (rest : Lov) : Lov := fun t h => bcase (bpEq (nx h) k) (rest t h) (bcase (turnB k s0 [] E0 t h) (rest t h) (some (X.ex id (sE.tr mGt) sE.hh)))
/-- a function's run from its arguments -/
def lawX (lov : Lov) (ov : Ov) (path : List (Cd × Bool)) (norm : List (Z × Z)) (g : Nat) (xs : List V) (h : H) : X := mFS lov ov path norm (bodyC g) (init' xs BP.one mGt) h
def fnB (g n : Nat) : Bool := (bif Nat.ble (fnOf g).ntmps 100000 then bif Nat.ble ((fnOf g).params.size + (fnOf g).nfree) 1000 then bif Nat.ble n ((fnOf g).params.size + (fnOf g).nfree) then !((fnOf g).name == "runtime.NumGoroutine") else false else false else false) && (Tryz.prog.funcs[g]?).isSome && (fnOf g).body.isSome && (trRvs tT (fnOf g).results.toList).isSome
end
set_option maxRecDepth 100000 in
theorem mFS_sound {ν : Nat → Int} {W : Bas} (hW : Good ν W) {ov : Ov} (ho : OvGood ν ov) {path : List (Cd × Bool)} {norm : List (Z × Z)} (hp : PathOk ν path) (hn : NormOk ν norm) {lov : Lov} {Df : List Deferred} {C : Tr Unit} {nt : Nat} (hnt : nt ≤ 100000) {c : Code} (hl : ∀ c1, c1 ∈ loopsC c → ToldOk Tryz.prog tT ν W Df C nt lov c1) {t : Tr V} {h : H} {X0 : X} {ρ : Pl} {a : Act} {w : World}
    (hX : mFS lov ov path norm (trC tT nt C c) t h = X0) (hb : ∀ n, X0 ≠ .bad n) (R : Rel ν W ρ h w) (F : FrC Df ν C ρ nt t a) : c.wp Tryz.prog (Post Df ν W C nt h ρ X0) a w :=
  by
  have he : EnOk ν (mEn ov path norm) := ⟨hp, hn⟩
  have hm : MtsOk Tryz.prog (mEn ov path norm).mts := mtsOf_ok ev_tt
  have hc : CallOk Tryz.prog ν W (gcall tF (mEn ov path norm) 100000) := gcall_ok (P := Tryz.prog) (tt := tT) (ν := ν) (fs := tF) (en := mEn ov path norm) (W := W) ev_tt he ev_mo hm tf_ok t3_ok t4_ok back_it hW.gt (ho W hW) 100000
  exact fsx_sound (en := mEn ov path norm) (call := gcall tF (mEn ov path norm) 100000) (n := 1000000) ev_tt he ev_mo hc hm hnt c hl t h X0 ρ a w hX hb R F
/-- How a round goes: on to a state that is told, nearer to the end; or out. -/
def RoundOk (ν ν' : Nat → Int) (ov : Ov) (g i : Nat) (k : BP) (id : Nat) (sE : St) (S : Nat → St) (F : Nat → (Nat → Int) → Prop) (mu : Nat → (Nat → Int) → Nat) (j : Nat) : Prop :=
  ∃ path norm, PathOk ν' path ∧ NormOk ν' norm ∧
    ((∃ j' ps E ν'', goesB k (S j') ps E (mFS noLov ov path norm (loopC g i) ((S j).tr mGt) (S j).hh) = true ∧ (∀ p ∈ E, ν'' p.1 = zval ν' p.2) ∧ F j' ν'' ∧ mu j' ν'' < mu j ν') ∨
     (∃ ps E, leavesB id k sE ps E (mFS noLov ov path norm (loopC g i) ((S j).tr mGt) (S j).hh) = true ∧ (∀ p ∈ E, ν p.1 = zval ν' p.2)))
theorem goesB_some {k : BP} {s : St} {ps : List (BP × BP)} {E : Eqs} {x : X} (h : goesB k s ps E x = true) : ∃ t1 h1, x = .nm t1 h1 ∧ turnB k s ps E t1 h1 = true := by
  cases x <;> first | exact ⟨_, _, rfl, h⟩ | cases h
theorem leavesB_some {id : Nat} {k : BP} {s : St} {ps : List (BP × BP)} {E : Eqs} {x : X} (h : leavesB id k s ps E x = true) : ∃ t1 h1, x = .ex id t1 h1 ∧ turnB k s ps E t1 h1 = true := by
  cases x <;> first | (cases h; done) | skip
  obtain ⟨h1, h2⟩ := bcase_ne (show bcase (Nat.beq _ id) false (turnB k s ps E _ _) = true from h) (by simp)
  obtain rfl := Nat.eq_of_beq_eq_true h1
  exact ⟨_, _, rfl, h2⟩
theorem anyLov_ok {P : Program} {tt : TT} {ν : Nat → Int} {W : Bas} {Df : List Deferred} {C : Tr Unit} {nt : Nat} {c : Code} : ToldOk P tt ν W Df C nt noLov c := fun t h x ρ a w e => by cases e
/-- A loop that is told. -/
theorem told_loop {ν : Nat → Int} {W : Bas} (hA : Tp.Asc W.w0) (hg : ∀ ν', GtOk ν' W mGt) {k : BP} (hW : ∀ x p, W.pl x = some p → bpN x < bpN k) {ov : Ov} {g i : Nat} (hnt : (fnOf g).ntmps ≤ 100000) {id : Nat} {s0 sE : St} {E0 : Eqs} {S : Nat → St} {F : Nat → (Nat → Int) → Prop} {mu : Nat → (Nat → Int) → Nat} (hS : S 0 = s0)
    (ho : ∀ j ν', F j ν' → OvGood ν' ov) (hF : ∀ ν' : Nat → Int, (∀ p ∈ E0, ν' p.1 = zval ν p.2) → F 0 ν') (hν : ∃ ν' : Nat → Int, ∀ p ∈ E0, ν' p.1 = zval ν p.2) (round : ∀ j ν', F j ν' → RoundOk ν ν' ov g i k id sE S F mu j) {rest : Lov} (hr : ToldOk Tryz.prog tT ν W [] (slotsOf g) (fnOf g).ntmps rest (loopOf g i)) : ToldOk Tryz.prog tT ν W [] (slotsOf g) (fnOf g).ntmps (lovOf k s0 E0 id sE rest) (loopOf g i) := by
  intro t h x ρ a w hx R Fr
  have hx' : bcase (bpEq (nx h) k) (rest t h) (bcase (turnB k s0 [] E0 t h) (rest t h) (some (X.ex id (sE.tr mGt) sE.hh))) = some x := hx
  cases e1 : bpEq (nx h) k with
  | false => rw [e1] at hx'; exact hr t h x ρ a w hx' R Fr
  | true =>
    rw [e1] at hx'
    have hx2 : bcase (turnB k s0 [] E0 t h) (rest t h) (some (X.ex id (sE.tr mGt) sE.hh)) = some x := hx'
    cases e2 : turnB k s0 [] E0 t h with
    | false => rw [e2] at hx2; exact hr t h x ρ a w hx2 R Fr
    | true =>
      rw [e2] at hx2
      obtain rfl : X.ex id (sE.tr mGt) sE.hh = x := Option.some.inj hx2
      have hk := (bpEq_iff _ _).1 e1
      have hρ : ∀ x p, ρ x = some p → bpN x < bpN k := fun x p e => by obtain ⟨b, c, n⟩ := p; rw [← hk]; exact (R.lt x b c n e).2
      obtain ⟨ν0, h0⟩ := hν
      obtain ⟨ρ2, R2, X2, F2⟩ := turn_ok (hg ν) hk hW hρ (hg ν0) e2 h0 R (Ext.refl _ _) Fr
      let Inv : Nat → (Nat → Int) → Act → World → Prop := fun j ν' a w => F j ν' ∧ ∃ ρ', Rel ν' W ρ' (S j).hh w ∧ Ext h ρ (S j).hh ρ' ∧ FrC [] ν' (slotsOf g) ρ' (fnOf g).ntmps ((S j).tr mGt) a
      refine (loop_told (Inv := Inv) (mu := mu) ?_ 0 ν0 a w ⟨hF ν0 h0, ρ2, by rw [hS]; exact R2, by rw [hS]; exact X2, by rw [hS]; exact F2⟩).wp
      rintro j ν' a w ⟨hf, ρ', R', X', F'⟩
      obtain ⟨path, norm, hp, hn, hcase⟩ := round j ν' hf
      have hG : Good ν' W := ⟨hA, hg ν'⟩
      rcases hcase with ⟨j', ps, E, ν'', h1, h2, h3, h4⟩ | ⟨ps, E, h1, h2⟩
      · obtain ⟨t1, m1, e3, e4⟩ := goesB_some h1
        refine wp_mono (mFS_sound (lov := noLov) (c := loopOf g i) (nt := (fnOf g).ntmps) (C := slotsOf g) hG (ho j ν' hf) hp hn hnt (fun c1 _ => anyLov_ok) (show mFS noLov ov path norm (trC tT (fnOf g).ntmps (slotsOf g) (loopOf g i)) ((S j).tr mGt) (S j).hh = _ from e3) (fun n e => by cases e) R' F') (fun e a1 w1 hp => ?_)
        cases e <;> first | exact hp.elim | skip
        obtain ⟨ρ1, R1, X1, F1⟩ := hp
        obtain ⟨ρ3, R3, X3, F3⟩ := turn_ok (hg ν'') hk hW hρ (hg ν'') e4 h2 R1 (X'.trans X1) F1
        exact .inl ⟨rfl, j', ν'', h4, h3, ρ3, R3, X3, F3⟩
      · obtain ⟨t1, m1, e3, e4⟩ := leavesB_some h1
        refine wp_mono (mFS_sound (lov := noLov) (c := loopOf g i) (nt := (fnOf g).ntmps) (C := slotsOf g) hG (ho j ν' hf) hp hn hnt (fun c1 _ => anyLov_ok) (show mFS noLov ov path norm (trC tT (fnOf g).ntmps (slotsOf g) (loopOf g i)) ((S j).tr mGt) (S j).hh = _ from e3) (fun n e => by cases e) R' F') (fun e a1 w1 hp => ?_)
        cases e <;> first | exact hp.elim | skip
        obtain ⟨he, ρ1, R1, X1, F1⟩ := hp
        obtain ⟨ρ3, R3, X3, F3⟩ := turn_ok (hg ν) hk hW hρ (hg ν) e4 h2 R1 (X'.trans X1) F1
        exact .inr ⟨by simp, he, ρ3, R3, X3, F3⟩
theorem fnB_ok {g n : Nat} (h : fnB g n = true) : Tryz.prog.funcs[g]? = some (fnOf g) ∧ (fnOf g).body = some (bodyOf g) ∧ trRvs tT (fnOf g).results.toList = some (resOf g) ∧ (fnOf g).ntmps ≤ 100000 ∧ (fnOf g).params.size + (fnOf g).nfree ≤ 1000 ∧ ((fnOf g).name == "runtime.NumGoroutine") = false ∧ n ≤ (fnOf g).params.size + (fnOf g).nfree := by
  unfold fnB at h
  simp only [Bool.and_eq_true] at h
  obtain ⟨⟨⟨h1, h2⟩, h3⟩, h4⟩ := h
  cases e1 : Nat.ble (fnOf g).ntmps 100000 with
  | false => rw [e1] at h1; cases h1
  | true =>
    cases e2 : Nat.ble ((fnOf g).params.size + (fnOf g).nfree) 1000 with
    | false => rw [e1, e2] at h1; cases h1
    | true =>
      cases e3 : Nat.ble n ((fnOf g).params.size + (fnOf g).nfree) with
      | false => rw [e1, e2, e3] at h1; cases h1
      | true =>
        rw [e1, e2, e3] at h1
        refine ⟨isSome_getD _ h2, isSome_getD _ h3, isSome_getD _ h4, Nat.le_of_ble_eq_true e1, Nat.le_of_ble_eq_true e2, ?_, Nat.le_of_ble_eq_true e3⟩
        simpa using h1
/-- A law whose loops are told, that ends in true. -/
theorem law_true {ν : Nat → Int} (w : World) (hA : Tp.Asc w) {ov : Ov} (ho : OvGood ν ov) {path : List (Cd × Bool)} {norm : List (Z × Z)} (hp : PathOk ν path) (hn : NormOk ν norm) {lov : Lov} {g : Nat} {xs : List V} {args : List Value} (hb : fnB g (len xs) = true)
    (hl : ∀ c1, c1 ∈ loopsC (bodyOf g) → ToldOk Tryz.prog tT ν (Bas.of w (pl0 w [4])) [] (slotsOf g) (fnOf g).ntmps lov c1)
    (hv : okv (finX (lawX lov ov path norm g xs start) (resOf g)) = some (.b true)) (ha : VRs ν (pl0 w [4]) xs args) :
    Calls Tryz.prog g args.toArray w (fun e w' => e = .returned (.bool true) ∧ Below w.heap.size w w') := by
  obtain ⟨h', hv⟩ := okv_some hv
  obtain ⟨b1, b2, b3, b4, b5, b6, b7⟩ := fnB_ok hb
  rw [len_eq] at b7
  have hW := start_good (ν := ν) hA
  have hlst : ∀ p ∈ [((4 : Nat), Tp.asc)], p.1 < 1000 ∧ Listed ν (pl0 w ([((4 : Nat), Tp.asc)].map (·.1))) w p := by
    intro p hp
    obtain rfl := List.mem_singleton.1 hp
    obtain ⟨cs, e, fz, h1, h2, h3⟩ := hA
    exact ⟨by decide, cs, e, fz, h1, h2, Tp.lits_any _ _ (by kernel_rfl) h3⟩
  have hc : Call1 Tryz.prog ν (Bas.of w (pl0 w [4])) g xs start (.b true) h' := by
    refine func_at (gt := mGt) (X0 := lawX lov ov path norm g xs start) ev_tt hW.gt b1 b2 b3 b4 b5 b6 b7 (fun ρ a w R F => ?_) hv
    refine mFS_sound hW ho hp hn b4 hl rfl (fun n e => ?_) R F
    have e' : lawX lov ov path norm g xs start = X.bad n := e
    rw [e'] at hv; cases hv
  refine Calls.mono (hc.2 _ args w (rel_start hlst) ha) (fun e w' he => ?_)
  obtain ⟨u, hu, ρ', hR, hvr, _⟩ := he
  simp only [VR] at hvr
  exact ⟨by rw [hu, hvr], hR.below⟩
theorem law_gt {w : World} (hA : Tp.Asc w) : ∀ ν', GtOk ν' (Bas.of w (pl0 w [4])) mGt := fun ν' => (start_good (ν := ν') hA).gt
theorem law_pl {w : World} {k : BP} (hk : 1001 ≤ bpN k) : ∀ x p, (Bas.of w (pl0 w [4])).pl x = some p → bpN x < bpN k := by
  intro x p e
  obtain ⟨b, c, n⟩ := p
  obtain ⟨h1, h2, _, _⟩ := pl0_some e
  obtain rfl := List.mem_singleton.1 h1
  rw [h2, bpN_of (by decide)]
  have : (4 : Nat) < 1000 := by decide
  omega
/-- a function of one loop -/
theorem one_loop {g : Nat} (h : Nat.beq (loopsC (bodyOf g)).length 1 = true) : ∀ c1, c1 ∈ loopsC (bodyOf g) → c1 = loopOf g 0 := by
  intro c1 hc
  have h1 := Nat.eq_of_beq_eq_true h
  unfold loopOf
  match e : loopsC (bodyOf g), h1 with
  | [x], _ => rw [e] at hc; obtain rfl := List.mem_singleton.1 hc; rfl
end Go.Proofs.YtoinghomkcjkcaaGreatDoor
