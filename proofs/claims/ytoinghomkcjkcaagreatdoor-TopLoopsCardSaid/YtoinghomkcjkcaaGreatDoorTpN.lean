/- Loops within functions: told by states, so many rounds at once; a function whose loops are told, as an override. -/
import Derived.Test.YtoinghomkcjkcaaGreatDoorTpL
namespace Go.Proofs.YtoinghomkcjkcaaGreatDoor
set_option linter.unusedSimpArgs false
set_option linter.unusedVariables false
set_option linter.constructorNameAsVariable false
open Go Go.RowKit
open Ev
noncomputable section
/-- so many rounds -/
def iterX (f : Tr V → H → X) : Nat → Tr V → H → X := Nat.rec (motive := fun _ => Tr V → H → X) (fun t h => X.nm t h) (fun _ ih t h => again (f t h) ih)
/-- how a told loop ends: it leaves a block, or its function -/
def endX (e : Option Nat) (s : St) : X := ocase e (X.rt (s.tr mGt) s.hh) (fun id => X.ex id (s.tr mGt) s.hh)
def endsB (e : Option Nat) (k : BP) (s : St) (ps : List (BP × BP)) (E : Eqs) : X → Bool := X.rec (fun _ _ => false) (fun i t h => ocase e false (fun id => bcase (Nat.beq i id) false (turnB k s ps E t h))) (fun t h => ocase e (turnB k s ps E t h) (fun _ => false)) (fun _ => false)
def lovN (k : BP) (s0 : St) (E0 : Eqs) (e : Option Nat) (sE : St) (rest : Lov) : Lov := fun t h => bcase (bpEq (nx h) k) (rest t h) (bcase (turnB k s0 [] E0 t h) (rest t h) (some (endX e sE)))
/-- a function whose loops are told -/
def loopOv (g : Nat) (lov : Lov) (ov : Ov) (path : List (Cd × Bool)) (norm : List (Z × Z)) (rest : Ov) : Ov := fun g' xs h => bcase (Nat.beq g' g) (rest g' xs h) (bcase (fnB g (len xs)) none (r1 (finX (mFS lov ov path norm (bodyC g) (init' xs BP.one mGt) h) (resOf g)) (fun _ => none) (fun v h' => some (R1.ok v h'))))
end
/-- How some rounds go: on to a state that is told, nearer to the end; or out. -/
def RoundOkN (ν ν' : Nat → Int) (ov : Ov) (g i : Nat) (k : BP) (e : Option Nat) (sE : St) (S : Nat → St) (F : Nat → (Nat → Int) → Prop) (mu : Nat → (Nat → Int) → Nat) (j : Nat) : Prop :=
  ∃ path norm m, PathOk ν' path ∧ NormOk ν' norm ∧
    ((∃ j' ps E ν'', goesB k (S j') ps E (iterX (mFS noLov ov path norm (loopC g i)) m ((S j).tr mGt) (S j).hh) = true ∧ (∀ p ∈ E, ν'' p.1 = zval ν' p.2) ∧ F j' ν'' ∧ mu j' ν'' < mu j ν') ∨
     (∃ ps E, endsB e k sE ps E (iterX (mFS noLov ov path norm (loopC g i)) m ((S j).tr mGt) (S j).hh) = true ∧ (∀ p ∈ E, ν p.1 = zval ν' p.2)))
theorem endsB_some {e : Option Nat} {k : BP} {s : St} {ps : List (BP × BP)} {E : Eqs} {x : X} (h : endsB e k s ps E x = true) : ∃ t1 h1, turnB k s ps E t1 h1 = true ∧ ((∃ id, e = some id ∧ x = .ex id t1 h1) ∨ (e = none ∧ x = .rt t1 h1)) := by
  cases x with
  | nm t h1 => cases h
  | bad w => cases h
  | ex i t h1 =>
    cases e with
    | none => cases h
    | some id =>
      obtain ⟨h1, h2⟩ := bcase_ne (show bcase (Nat.beq i id) false (turnB k s ps E t _) = true from h) (by simp)
      obtain rfl := Nat.eq_of_beq_eq_true h1
      exact ⟨_, _, h2, .inl ⟨_, rfl, rfl⟩⟩
  | rt t h1 =>
    cases e with
    | none => exact ⟨_, _, h, .inr ⟨rfl, rfl⟩⟩
    | some id => cases h
theorem again_nm {t : Tr V} {h : H} {k : Tr V → H → X} : again (X.nm t h) k = k t h := rfl
set_option maxRecDepth 100000 in
theorem loop_iter {ν : Nat → Int} {W : Bas} (hG : Good ν W) {ov : Ov} (ho : OvGood ν ov) {path : List (Cd × Bool)} {norm : List (Z × Z)} (hp : PathOk ν path) (hn : NormOk ν norm) {g i : Nat} (hnt : (fnOf g).ntmps ≤ 100000) {Q : Exit → Act → World → Prop} :
    ∀ (m : Nat) (t : Tr V) (h : H) (X0 : X) (ρ : Pl) (a : Act) (w : World), iterX (mFS noLov ov path norm (loopC g i)) m t h = X0 → (∀ n, X0 ≠ .bad n) → Rel ν W ρ h w → FrC [] ν (slotsOf g) ρ (fnOf g).ntmps t a →
      (∀ e a1 w1, Post [] ν W (slotsOf g) (fnOf g).ntmps h ρ X0 e a1 w1 → (e = .normal → LoopWp Tryz.prog (loopOf g i) Q a1 w1) ∧ (e ≠ .normal → Q e a1 w1)) → LoopWp Tryz.prog (loopOf g i) Q a w
  | 0, t, h, X0, ρ, a, w, hX, hb, R, F, hQ => by
    obtain rfl : X.nm t h = X0 := hX
    exact (hQ .normal a w ⟨ρ, R, Ext.refl _ _, F⟩).1 rfl
  | m + 1, t, h, X0, ρ, a, w, hX, hb, R, F, hQ => by
    have hX' : again (mFS noLov ov path norm (loopC g i) t h) (iterX (mFS noLov ov path norm (loopC g i)) m) = X0 := hX
    refine LoopWp.round (wp_mono (mFS_sound (lov := noLov) (c := loopOf g i) (nt := (fnOf g).ntmps) (C := slotsOf g) (X0 := mFS noLov ov path norm (loopC g i) t h) hG ho hp hn hnt (fun c1 _ => anyLov_ok) rfl (fun n e => ?_) R F) (fun e a1 w1 hp1 => ?_))
    · have e' : mFS noLov ov path norm (loopC g i) t h = .bad n := e
      rw [e'] at hX'
      exact hb n hX'.symm
    · cases hx : mFS noLov ov path norm (loopC g i) t h with
      | bad n => rw [hx] at hX'; exact absurd hX'.symm (hb n)
      | nm t1 h1 =>
        rw [hx] at hp1 hX'
        cases e <;> first | exact hp1.elim | skip
        obtain ⟨ρ1, R1, X1, F1⟩ := hp1
        exact loop_iter hG ho hp hn hnt m t1 h1 X0 ρ1 a1 w1 hX' hb R1 F1 (fun e a2 w2 hp2 => hQ e a2 w2 (Post.mono X1 e a2 w2 hp2))
      | ex id t1 h1 =>
        rw [hx] at hp1 hX'
        obtain rfl : X.ex id t1 h1 = X0 := hX'
        cases e <;> first | exact hp1.elim | skip
        exact (hQ _ a1 w1 hp1).2 (by simp)
      | rt t1 h1 =>
        rw [hx] at hp1 hX'
        obtain rfl : X.rt t1 h1 = X0 := hX'
        cases e <;> first | exact hp1.elim | skip
        exact (hQ _ a1 w1 hp1).2 (by simp)
theorem mGt_val {x : BP} {v : V} (h : get x mGt = some v) : v = .p (bpOf 4) 0 := by
  have h' : get x (Ev.set (bpOf (100000 + 4)) (some (.p (bpOf 4) 0)) .lf) = some v := h
  rw [get_set] at h'
  split at h'
  · exact (Option.some.inj h').symm
  · rw [get_lf] at h'; cases h'
theorem Good.any {ν ν' : Nat → Int} {W : Bas} (h : Good ν W) : Good ν' W := ⟨h.asc, h.gt.low, fun g v e => by
  have h1 := h.gt.glob g v e
  obtain rfl := mGt_val e
  simpa only [VR] using h1⟩
set_option maxRecDepth 100000 in
/-- A loop that is told, by so many rounds at once. -/
theorem told_loopN {ν : Nat → Int} {W : Bas} (hG0 : Good ν W) {k : BP} {ov : Ov} {g i : Nat} (hnt : (fnOf g).ntmps ≤ 100000) {e : Option Nat} {s0 sE : St} {E0 : Eqs} {S : Nat → St} {F : Nat → (Nat → Int) → Prop} {mu : Nat → (Nat → Int) → Nat} (hS : S 0 = s0)
    (ho : ∀ j ν', F j ν' → OvGood ν' ov) (hν : ∃ ν' : Nat → Int, (∀ p ∈ E0, ν' p.1 = zval ν p.2) ∧ F 0 ν') (round : ∀ j ν', F j ν' → RoundOkN ν ν' ov g i k e sE S F mu j) {rest : Lov} (hr : ToldOk Tryz.prog tT ν W [] (slotsOf g) (fnOf g).ntmps rest (loopOf g i)) : ToldOk Tryz.prog tT ν W [] (slotsOf g) (fnOf g).ntmps (lovN k s0 E0 e sE rest) (loopOf g i) := by
  have hg : ∀ ν', GtOk ν' W mGt := fun ν' => (hG0.any (ν' := ν')).gt
  intro t h x ρ a w hx R Fr
  have hx' : bcase (bpEq (nx h) k) (rest t h) (bcase (turnB k s0 [] E0 t h) (rest t h) (some (endX e sE))) = some x := hx
  cases e1 : bpEq (nx h) k with
  | false => rw [e1] at hx'; exact hr t h x ρ a w hx' R Fr
  | true =>
    rw [e1] at hx'
    have hx2 : bcase (turnB k s0 [] E0 t h) (rest t h) (some (endX e sE)) = some x := hx'
    cases e2 : turnB k s0 [] E0 t h with
    | false => rw [e2] at hx2; exact hr t h x ρ a w hx2 R Fr
    | true =>
      rw [e2] at hx2
      obtain rfl : endX e sE = x := Option.some.inj hx2
      have hk := (bpEq_iff _ _).1 e1
      have hρ : ∀ x p, ρ x = some p → bpN x < bpN k := fun x p e => by obtain ⟨b, c, n⟩ := p; rw [← hk]; exact (R.lt x b c n e).2
      have hW : ∀ x p, W.pl x = some p → bpN x < bpN k := fun x p e => hρ x p (R.base x p e)
      obtain ⟨ν0, h0, hF0⟩ := hν
      obtain ⟨ρ2, R2, X2, F2⟩ := turn_ok (hg ν) hk hW hρ (hg ν0) e2 h0 R (Ext.refl _ _) Fr
      have main : ∀ n j ν' a w, mu j ν' < n → F j ν' → (∃ ρ', Rel ν' W ρ' (S j).hh w ∧ Ext h ρ (S j).hh ρ' ∧ FrC [] ν' (slotsOf g) ρ' (fnOf g).ntmps ((S j).tr mGt) a) → LoopWp Tryz.prog (loopOf g i) (Post [] ν W (slotsOf g) (fnOf g).ntmps h ρ (endX e sE)) a w := by
        intro n
        induction n with
        | zero => intro j ν' a w h; omega
        | succ n ih =>
          rintro j ν' a w hlt hf ⟨ρ', R', X', F'⟩
          obtain ⟨path, norm, m, hp, hn, hcase⟩ := round j ν' hf
          rcases hcase with ⟨j', ps, E, ν'', h1, h2, h3, h4⟩ | ⟨ps, E, h1, h2⟩
          · obtain ⟨t1, m1, e3, e4⟩ := goesB_some h1
            refine loop_iter (hG0.any (ν' := ν')) (ho j ν' hf) hp hn hnt m _ _ _ ρ' a w e3 (fun n e => by cases e) R' F' (fun e' a1 w1 hp1 => ?_)
            cases e' <;> first | exact hp1.elim | skip
            obtain ⟨ρ1, R1, X1, F1⟩ := hp1
            obtain ⟨ρ3, R3, X3, F3⟩ := turn_ok (hg ν'') hk hW hρ (hg ν'') e4 h2 R1 (X'.trans X1) F1
            exact ⟨fun _ => ih j' ν'' a1 w1 (by omega) h3 ⟨ρ3, R3, X3, F3⟩, fun h => absurd rfl h⟩
          · obtain ⟨t1, m1, e4, e3⟩ := endsB_some h1
            rcases e3 with ⟨id, rfl, e3⟩ | ⟨rfl, e3⟩
            · refine loop_iter (hG0.any (ν' := ν')) (ho j ν' hf) hp hn hnt m _ _ _ ρ' a w e3 (fun n e => by cases e) R' F' (fun e' a1 w1 hp1 => ?_)
              cases e' <;> first | exact hp1.elim | skip
              obtain ⟨he, ρ1, R1, X1, F1⟩ := hp1
              obtain ⟨ρ3, R3, X3, F3⟩ := turn_ok (hg ν) hk hW hρ (hg ν) e4 h2 R1 (X'.trans X1) F1
              exact ⟨fun h => (by cases h), fun _ => ⟨he, ρ3, R3, X3, F3⟩⟩
            · refine loop_iter (hG0.any (ν' := ν')) (ho j ν' hf) hp hn hnt m _ _ _ ρ' a w e3 (fun n e => by cases e) R' F' (fun e' a1 w1 hp1 => ?_)
              cases e' <;> first | exact hp1.elim | skip
              obtain ⟨ρ1, R1, X1, F1⟩ := hp1
              obtain ⟨ρ3, R3, X3, F3⟩ := turn_ok (hg ν) hk hW hρ (hg ν) e4 h2 R1 (X'.trans X1) F1
              exact ⟨fun h => (by cases h), fun _ => ⟨ρ3, R3, X3, F3⟩⟩
      exact (main _ 0 ν0 a w (Nat.lt_succ_self _) hF0 ⟨ρ2, by rw [hS]; exact R2, by rw [hS]; exact X2, by rw [hS]; exact F2⟩).wp
set_option maxRecDepth 100000 in
/-- A function whose loops are told, as an override. -/
theorem loopOv_good {ν : Nat → Int} {g : Nat} {lov : Lov} {ov rest : Ov} {path : List (Cd × Bool)} {norm : List (Z × Z)} (ho : OvGood ν ov) (hp : PathOk ν path) (hn : NormOk ν norm) (hR : OvGood ν rest)
    (hl : ∀ W, Good ν W → ∀ c1, c1 ∈ loopsC (bodyOf g) → ToldOk Tryz.prog tT ν W [] (slotsOf g) (fnOf g).ntmps lov c1) : OvGood ν (loopOv g lov ov path norm rest) := by
  intro W hW g' xs h v h' e
  have e' : bcase (Nat.beq g' g) (rest g' xs h) (bcase (fnB g (len xs)) none (r1 (finX (mFS lov ov path norm (bodyC g) (init' xs BP.one mGt) h) (resOf g)) (fun _ => none) (fun v h' => some (R1.ok v h')))) = some (.ok v h') := e
  cases e1 : Nat.beq g' g with
  | false => rw [e1] at e'; exact hR W hW _ _ _ _ _ e'
  | true =>
    rw [e1] at e'
    obtain rfl := Nat.eq_of_beq_eq_true e1
    obtain ⟨hb, e2⟩ := bcase_ne (show bcase (fnB g' (len xs)) none (r1 (finX (mFS lov ov path norm (bodyC g') (init' xs BP.one mGt) h) (resOf g')) (fun _ => none) (fun v h' => some (R1.ok v h'))) = some (.ok v h') from e') (by simp)
    cases hx : finX (mFS lov ov path norm (bodyC g') (init' xs BP.one mGt) h) (resOf g') with
    | bad n => rw [hx] at e2; cases e2
    | ok v1 h1 =>
      rw [hx] at e2
      have e3 : some (R1.ok v1 h1) = some (R1.ok v h') := e2
      obtain ⟨rfl, rfl⟩ : v1 = v ∧ h1 = h' := by simpa using e3
      obtain ⟨b1, b2, b3, b4, b5, b6, b7⟩ := fnB_ok hb
      rw [len_eq] at b7
      refine func_at (gt := mGt) (X0 := mFS lov ov path norm (bodyC g') (init' xs BP.one mGt) h) ev_tt hW.gt b1 b2 b3 b4 b5 b6 b7 (fun ρ a w R F => ?_) hx
      refine mFS_sound hW ho hp hn b4 (hl W hW) rfl (fun n e => ?_) R F
      have e' : mFS lov ov path norm (bodyC g') (init' xs BP.one mGt) h = X.bad n := e
      rw [e'] at hx; cases hx
end Go.Proofs.YtoinghomkcjkcaaGreatDoor
