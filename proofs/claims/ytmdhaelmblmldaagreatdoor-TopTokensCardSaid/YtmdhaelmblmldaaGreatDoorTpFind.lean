/- diag.Find and syntax.wrapped, as the evaluator answers them; evaluations that ask them. -/
import Derived.Test.YtmdhaelmblmldaaGreatDoorTkH
import Derived.Test.YtmdhaelmblmldaaGreatDoorKk
namespace Go.Proofs.YtmdhaelmblmldaaGreatDoor
set_option linter.unusedSimpArgs false
set_option linter.unusedVariables false
set_option linter.constructorNameAsVariable false
open Go Go.RowKit
open Ev
theorem Tk.of {ν : Nat → Int} {W : Bas} {ρ : Pl} {h : H} {w : World} (R : Rel ν W ρ h w) {x : BP} {off b c m : Nat} {l : List V} (hx : ρ x = some (b, c, m)) (hl : cellsAt h x off 3 = some l) : ∃ us, VRs ν ρ l us ∧ Tk.Has w b (c + off) us := by
  obtain ⟨hlen, us, hus, hcell⟩ := cellsAt_some R hx hl
  refine ⟨us, hus, (R.lt x b c m hx).1, ?_, fun i v e => by rw [hcell i v e]⟩
  obtain ⟨l0, p, wn, ho, _⟩ := onC_ne hl (by simp)
  obtain ⟨cs, e, fz, hb, hsz, hfz, _, _⟩ := R.ob x _ ho b c m hx
  refine ⟨cs, e, fz, hb, hfz _ ?_⟩
  have h3 : us.length = 3 := by rw [hus.length, hlen]
  obtain ⟨u, hu⟩ : ∃ u, us[0]? = some u := ⟨_, List.getElem?_eq_getElem (by omega)⟩
  have h4 := hcell 0 u hu
  rw [Nat.add_zero] at h4
  have h5 : cs[c + off]? = some u := by rw [← cell_of hb]; exact h4
  exact (Array.getElem?_eq_some_iff.1 h5).1
noncomputable section
def onN {β : Type} (v : V) (g : β) (f : Nat → V → β) : β := V.rec (motive_1 := fun _ => β) (motive_2 := fun _ => Unit) g (fun _ => g) (fun _ _ => g) (fun _ => g) g (fun _ _ => g) g (fun _ _ => g) (fun _ _ _ _ => g) g (fun _ _ _ _ _ => g) g (fun t e _ => f t e) (fun _ _ => g) (fun _ _ => g) g (fun _ => g) () (fun _ _ _ _ => ()) v
def litI (v : V) : Option Int := onI v none (fun k z => bcase (Nat.beq (kN k) 3) none (onLit z none some))
/-- of none nothing is found; of an error of package diag its code and place -/
def Tp.findV (h : H) (v : V) : Option R1 := bcase (isT 11 v) (V.rec (motive_1 := fun _ => Option R1) (motive_2 := fun _ => Unit) none (fun _ => none) (fun _ _ => none) (fun _ => none) none (fun _ _ => none) none (fun _ _ => none) (fun _ _ _ _ => none) none (fun _ _ _ _ _ => none) none
  (fun t e _ => bcase (Nat.beq t 82) none (onP e none (fun x off => ocase (cellsAt h x off 3) none (fun l => lcase l none (fun a l => lcase l none (fun b _ => onI a none (fun k y => onI b none (fun k' z => bcase (Nat.beq (kN k) 3) none (bcase (Nat.beq (kN k') 3) none (some (R1.ok (V.u [V.i .i64 y, V.i .i64 z, V.b true]) h)))))))))))
  (fun _ _ => none) (fun _ _ => none) none (fun _ => none) () (fun _ _ _ _ => ()) v) (some (R1.ok (V.u [V.i .i64 (.lit 0), V.i .i64 (.lit 0), V.b false]) h))
/-- none stays none; an error of tokens is wrapped, by its code and place -/
def Tp.inK (k : Int) : Bool := bcase (eqI k 1) (bcase (eqI k 2) (eqI k 5) true) true
def Tp.wrapV (h : H) (v : V) : Option R1 := bcase (isT 11 v) (onN v none (fun t e => bcase (Nat.beq t 82) none (onP e none (fun x off => ocase (cellsAt h x off 3) none (fun l => lcase l none (fun a l => lcase l none (fun b l => lcase l none (fun c _ => bcase (isT 11 c) none (ocase (litI a) none (fun k => onI b none (fun k' z => bcase (Nat.beq (kN k') 3) none (bcase (Tp.inK k) none (some (R1.ok (V.n 82 (V.p (nx h) 0)) (addO h (O.c [V.i .i64 (.lit k), V.i .i64 z, V.n 82 (V.p x off)] none true)))))))))))))))) (some (R1.ok .n0 h))
def dOv : Ov := fun g xs h => bcase (Nat.beq g 45) (bcase (Nat.beq g 126) (aOv g xs h) (lcase xs none (fun a l => lcase l (Tp.wrapV h a) (fun _ _ => none)))) (List.rec (motive := fun _ => Option R1) none (fun a l _ => List.rec (motive := fun _ => Option R1) (Tp.findV h a) (fun _ _ _ => none) l) xs)
def dEv (path : List (Cd × Bool)) (norm : List (Z × Z)) (g : Nat) (xs : List V) : R1 := gcall tF (enT path norm (fnsOf Tryz.prog tT) dOv (mtsOf tT) [4]) 100000 g xs (H0 [(4, Tp.asc)])
end
theorem onN_ne {β : Type} {v : V} {g r : β} {f : Nat → V → β} (h : onN v g f = r) (hg : g ≠ r) : ∃ t e, v = .n t e ∧ f t e = r := by
  cases v <;> first | exact ⟨_, _, rfl, h⟩ | exact absurd h hg
theorem litI_some {v : V} {n : Int} (h : litI v = some n) : v = .i .i64 (.lit n) := by
  obtain ⟨k, z, rfl, h1⟩ := onI_ne (show onI v none (fun k z => bcase (Nat.beq (kN k) 3) none (onLit z none some)) = some n from h) (by simp)
  obtain ⟨h2, h3⟩ := bcase_ne h1 (by simp)
  obtain rfl : k = .i64 := kN_inj (Nat.eq_of_beq_eq_true h2)
  cases z <;> first | (cases h3; done) | skip
  obtain rfl := Option.some.inj (show some _ = some n from h3)
  rfl
theorem isT11 {v : V} (h : isT 11 v = true) : v = .n0 := by cases v <;> first | rfl | cases h
/-- A function that answers one new block, and leaves all that was there as it was. -/
theorem call1_new {P : Program} {ν : Nat → Int} {W : Bas} {g : Nat} {xs : List V} {h : H} {ob : O} {mk : BP → V} (he : ∀ args w, (callFunc g args).run P w = .ok (.enter g args) w) (hp : parO ob = none)
    (hc : ∀ (ρ : Pl) (args : List Value) (w : World), Rel ν W ρ h w → VRs ν ρ xs args → Calls P g args.toArray w (fun e w' => ∃ u w1 n, e = .returned u ∧ Below w.heap.size w w1 ∧ Grows w1 w' ∧ ObjR ν ρ w' w1.heap.size 0 n ob ∧ ∀ (ρ' : Pl) x, ρ' x = some (w1.heap.size, 0, n) → VR ν ρ' (mk x) u)) : Call1 P ν W g xs h (mk (nx h)) (addO h ob) :=
  ⟨he, fun ρ args w R ha => (hc ρ args w R ha).mono fun e w' k => by
    obtain ⟨u, w1, n, h1, h2, h3, h4, h5⟩ := k
    have R1 := R.stays h2
    have R2 := R1.add ob (fun y e => by rw [hp] at e; cases e) (fun y e => by rw [hp] at e; cases e)
    refine ⟨u, h1, ρ.put (nx h) (w1.heap.size, 0, n), R2.place h3 (by rw [obj_addO, if_pos rfl]) R.idle h4, h5 _ _ (Pl.put_same _ _), Pl.le_put R.idle, fun k e hk => ?_, by rw [nx_addO]; omega⟩
    rw [Pl.put_ne _ (fun e' => by rw [e'] at hk; exact Nat.lt_irrefl _ hk)]; exact e⟩
theorem Tp.inK_some {k : Int} (h : Tp.inK k = true) : k = 1 ∨ k = 2 ∨ k = 5 := by
  unfold Tp.inK at h
  simp only [eqI_d] at h
  by_cases h1 : k = 1
  · exact .inl h1
  · by_cases h2 : k = 2
    · exact .inr (.inl h2)
    · by_cases h3 : k = 5
      · exact .inr (.inr h3)
      · simp [h1, h2, h3, bcase] at h
set_option maxHeartbeats 1000000 in
theorem Tp.wrapV_ok {ν : Nat → Int} {W : Bas} (hD : Door W.w0) {h h' : H} {a v : V} (e : Tp.wrapV h a = some (.ok v h')) : Call1 Tryz.prog ν W 126 [a] h v h' := by
  have hent : ∀ (args : Array Value) (w : World), (callFunc 126 args).run Tryz.prog w = .ok (.enter 126 args) w := fun args w => enter_of Tryz.func126 (by kernel_rfl) (by kernel_rfl) _ _
  cases hT : isT 11 a with
  | true =>
    obtain rfl := isT11 hT
    unfold Tp.wrapV at e
    rw [hT] at e
    have k4 : R1.ok V.n0 h = .ok v h' := Option.some.inj (show some (R1.ok V.n0 h) = some (.ok v h') from e)
    injection k4 with k5 k6
    subst k5; subst k6
    refine call1_pure hent (fun ρ args w R ha => ?_)
    simp only [VRs, VR] at ha
    obtain ⟨u, _, rfl, rfl, rfl⟩ := ha
    refine (wrapped_nil w).mono ?_
    rintro e w' ⟨rfl, hb⟩
    exact ⟨_, rfl, by simp only [VR], hb⟩
  | false =>
    unfold Tp.wrapV at e
    rw [hT] at e
    obtain ⟨t1, e1, rfl, k4⟩ := onN_ne (show onN a none (fun t e => bcase (Nat.beq t 82) none (onP e none (fun x off => ocase (cellsAt h x off 3) none (fun l => lcase l none (fun a l => lcase l none (fun b l => lcase l none (fun c _ => bcase (isT 11 c) none (ocase (litI a) none (fun k => onI b none (fun k' z => bcase (Nat.beq (kN k') 3) none (bcase (Tp.inK k) none (some (R1.ok (V.n 82 (V.p (nx h) 0)) (addO h (O.c [V.i .i64 (.lit k), V.i .i64 z, V.n 82 (V.p x off)] none true))))))))))))))) = some (R1.ok v h') from e) (by simp)
    obtain ⟨k5, k6⟩ := bcase_ne k4 (by simp)
    obtain rfl := Nat.eq_of_beq_eq_true k5
    obtain ⟨x, o, rfl, k7⟩ := onP_ne k6 (by simp)
    obtain ⟨l, hl, k11⟩ := ocase_ne k7 (by simp)
    obtain ⟨c1, l1, rfl, k13⟩ := lcase_ne k11 (by simp)
    obtain ⟨c2, l2, rfl, k14⟩ := lcase_ne k13 (by simp)
    obtain ⟨c3, l3, rfl, k15⟩ := lcase_ne k14 (by simp)
    obtain ⟨k16, k17⟩ := bcase_ne k15 (by simp)
    obtain rfl := isT11 k16
    obtain ⟨ka, k23, k24⟩ := ocase_ne k17 (by simp)
    obtain ⟨k', z, rfl, k25⟩ := onI_ne k24 (by simp)
    obtain ⟨k26, k27⟩ := bcase_ne k25 (by simp)
    obtain rfl : k' = .i64 := kN_inj (Nat.eq_of_beq_eq_true k26)
    obtain ⟨k28, k29⟩ := bcase_ne k27 (by simp)
    obtain rfl := litI_some k23
    have hk := Tp.inK_some k28
    have k31 := Option.some.inj k29
    injection k31 with k32 k33
    subst k32; subst k33
    refine call1_new (mk := fun y => V.n 82 (V.p y 0)) hent rfl (fun ρ args w R ha => ?_)
    simp only [VRs, VR] at ha
    obtain ⟨u, _, rfl, ⟨u1, rfl, b1, s1, n1, hx, rfl⟩, rfl⟩ := ha
    obtain ⟨us, hus, HX⟩ := Tk.of R hx hl
    simp only [VRs, VR, zval] at hus
    obtain ⟨_, us1, rfl, rfl, _, us2, rfl, rfl, _, us3, rfl, rfl, hus3⟩ := hus
    have hX3 : Tk.Has w b1 (s1 + o) [.int .i64 ka, .int .i64 (zval ν z), .nilIface] := ⟨HX.lt, HX.raw, fun i v e => by
      match i, e with
      | 0, e => exact HX.cell 0 _ e
      | 1, e => exact HX.cell 1 _ e
      | 2, e => exact HX.cell 2 _ e
      | i + 3, e => simp at e⟩
    refine (wrapped_some b1 (s1 + o) ka (zval ν z) hk w (hD.below R.below) hX3).mono ?_
    rintro e w' ⟨w1, rfl, hb, rfl⟩
    refine ⟨_, w1, 3, rfl, hb, grows_alloc _ _, objR_new (new_block _ _) ?_, fun ρ' y hy => ?_⟩
    · simp only [VRs, VR, zval]
      exact ⟨_, _, rfl, rfl, _, _, rfl, rfl, _, _, rfl, ⟨_, rfl, _, _, _, hx, rfl⟩, rfl⟩
    · simp only [VR]
      exact ⟨_, rfl, _, _, _, hy, rfl⟩
theorem dOv_ok {ν : Nat → Int} {W : Bas} (hA : Tp.Asc W.w0) (hD : Door W.w0) {path : List (Cd × Bool)} {norm : List (Z × Z)} : OvOk Tryz.prog ν W (enT path norm (fnsOf Tryz.prog tT) dOv (mtsOf tT) [4]) := by
  intro g xs h v h' e
  have e' : bcase (Nat.beq g 45) (bcase (Nat.beq g 126) (aOv g xs h) (lcase xs none (fun a l => lcase l (Tp.wrapV h a) (fun _ _ => none)))) (List.rec (motive := fun _ => Option R1) none (fun a l _ => List.rec (motive := fun _ => Option R1) (Tp.findV h a) (fun _ _ _ => none) l) xs) = some (.ok v h') := e
  cases h1 : Nat.beq g 45 with
  | false =>
    rw [h1] at e'
    have e1 : bcase (Nat.beq g 126) (aOv g xs h) (lcase xs none (fun a l => lcase l (Tp.wrapV h a) (fun _ _ => none))) = some (.ok v h') := e'
    cases h2 : Nat.beq g 126 with
    | false => rw [h2] at e1; exact aOv_ok hA (path := path) (norm := norm) g xs h v h' e1
    | true =>
      rw [h2] at e1
      obtain rfl := Nat.eq_of_beq_eq_true h2
      obtain ⟨a, l, rfl, e2⟩ := lcase_ne (show lcase xs none (fun a l => lcase l (Tp.wrapV h a) (fun _ _ => none)) = some (.ok v h') from e1) (by simp)
      cases l with
      | cons _ _ => cases e2
      | nil => exact Tp.wrapV_ok hD (show Tp.wrapV h a = some (.ok v h') from e2)
  | true =>
    rw [h1] at e'
    obtain rfl := Nat.eq_of_beq_eq_true h1
    have hent : ∀ (args : Array Value) (w : World), (callFunc 45 args).run Tryz.prog w = .ok (.enter 45 args) w := fun args w => enter_of Tryz.func45 (by kernel_rfl) (by kernel_rfl) _ _
    cases xs with
    | nil => cases e'
    | cons a l => cases l with
      | cons b l => cases e'
      | nil =>
        have e2 : Tp.findV h a = some (.ok v h') := e'
        cases a <;> first | (cases e2; done) | skip
        · -- none
          have e3 : R1.ok (V.u [V.i .i64 (.lit 0), V.i .i64 (.lit 0), V.b false]) h = .ok v h' := Option.some.inj e2
          injection e3 with e4 e5
          subst e4; subst e5
          refine call1_pure hent (fun ρ args w R ha => ?_)
          simp only [VRs, VR] at ha
          obtain ⟨u, _, rfl, rfl, rfl⟩ := ha
          refine (find_none .nil w rfl (hD.below R.below) trivial).mono ?_
          rintro e w' ⟨rfl, hb⟩
          refine ⟨_, rfl, ?_, hb⟩
          simp only [VR, VRs, zval]
          exact ⟨_, rfl, _, _, rfl, rfl, _, _, rfl, rfl, _, _, rfl, rfl, rfl⟩
        · rename_i t p
          have e3 : bcase (Nat.beq t 82) none (onP p none (fun x off => ocase (cellsAt h x off 3) none (fun l => lcase l none (fun a l => lcase l none (fun b _ => onI a none (fun k y => onI b none (fun k' z => bcase (Nat.beq (kN k) 3) none (bcase (Nat.beq (kN k') 3) none (some (R1.ok (V.u [V.i .i64 y, V.i .i64 z, V.b true]) h)))))))))) = some (R1.ok v h') := e2
          obtain ⟨q1, e4⟩ := bcase_ne e3 (by simp)
          obtain rfl := Nat.eq_of_beq_eq_true q1
          clear e3 e2 e' e
          obtain ⟨x, off, rfl, e5⟩ := onP_ne e4 (by simp)
          clear e4
          obtain ⟨l, hl, e6⟩ := ocase_ne e5 (by simp)
          clear e5
          obtain ⟨a, l1, rfl, e7⟩ := lcase_ne e6 (by simp)
          clear e6
          obtain ⟨b, l2, rfl, e8⟩ := lcase_ne e7 (by simp)
          clear e7
          obtain ⟨k, y, rfl, e9⟩ := onI_ne e8 (by simp)
          clear e8
          obtain ⟨k', z, rfl, e10⟩ := onI_ne e9 (by simp)
          clear e9
          obtain ⟨q2, e11⟩ := bcase_ne e10 (by simp)
          obtain ⟨q3, e3⟩ := bcase_ne e11 (by simp)
          obtain rfl : k = .i64 := kN_inj (Nat.eq_of_beq_eq_true q2)
          obtain rfl : k' = .i64 := kN_inj (Nat.eq_of_beq_eq_true q3)
          have e3' : R1.ok (V.u [V.i .i64 y, V.i .i64 z, V.b true]) h = .ok v h' := Option.some.inj e3
          injection e3' with e4 e5
          subst e4; subst e5
          refine call1_pure hent (fun ρ args w R ha => ?_)
          simp only [VRs, VR] at ha
          obtain ⟨u, _, rfl, ⟨u1, rfl, bb, c, n, hx, rfl⟩, rfl⟩ := ha
          obtain ⟨us, hus, hTk⟩ := Tk.of R hx hl
          simp only [VRs, VR] at hus
          obtain ⟨_, us1, rfl, rfl, _, us2, rfl, rfl, _⟩ := hus
          have hat : (Er.own bb (c + off) (zval ν y) (zval ν z)).At w := ⟨hTk.lt, hTk.raw, fun i v e => by
            match i, e with
            | 0, e => exact hTk.cell 0 _ e
            | 1, e => exact hTk.cell 1 _ e
            | i + 2, e => simp at e⟩
          refine (find_some (.own bb (c + off) (zval ν y) (zval ν z)) bb (c + off) (zval ν y) (zval ν z) w rfl (hD.below R.below) hat).mono ?_
          rintro e w' ⟨rfl, hb⟩
          refine ⟨_, rfl, ?_, hb⟩
          simp only [VR, VRs, zval]
          exact ⟨_, rfl, _, _, rfl, rfl, _, _, rfl, rfl, _, _, rfl, rfl, rfl⟩
/-- An evaluation that ends in true. -/
theorem td_true {ν : Nat → Int} (w : World) (hA : Tp.Asc w) (hD : Door w) {path : List (Cd × Bool)} {norm : List (Z × Z)} (hp : PathOk ν path) (hn : NormOk ν norm) {g : Nat} {xs : List V} {args : List Value} (hv : okv (dEv path norm g xs) = some (.b true)) (ha : VRs ν (pl0 w [4]) xs args) :
    Calls Tryz.prog g args.toArray w (fun e w' => e = .returned (.bool true) ∧ Below w.heap.size w w') := by
  obtain ⟨h', hv⟩ := okv_some hv
  have hl : ∀ p ∈ [((4 : Nat), Tp.asc)], p.1 < 1000 ∧ Listed ν (pl0 w ([((4 : Nat), Tp.asc)].map (·.1))) w p := by
    intro p hp
    obtain rfl := List.mem_singleton.1 hp
    obtain ⟨cs, e, fz, h1, h2, h3⟩ := hA
    exact ⟨by decide, cs, e, fz, h1, h2, Tp.lits_any _ _ (by kernel_rfl) h3⟩
  refine Calls.mono (evalgx_calls (P := Tryz.prog) (tt := tT) (ν := ν) (w := w) (fs := tF) ev_tt ev_mo hp hn (l := [(4, Tp.asc)]) tf_ok t3_ok t4_ok back_it (mtsOf_ok ev_tt) hl (dOv_ok hA hD) hv ha) (fun e w' he => ?_)
  obtain ⟨u, hu, ρ', hR, hvr⟩ := he
  simp only [VR] at hvr
  exact ⟨by rw [hu, hvr], hR.below⟩
end Go.Proofs.YtmdhaelmblmldaaGreatDoor
