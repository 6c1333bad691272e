/- Loops told; memory turned from one naming to another one. -/
import Derived.Test.YtoinghomkcjkcaaGreatDoorKf
namespace Go.Proofs.YtoinghomkcjkcaaGreatDoor
set_option linter.unusedSimpArgs false
set_option linter.unusedVariables false
set_option linter.constructorNameAsVariable false
open Go Go.RowKit
namespace Ev
variable {Df : List Deferred}
variable {P : Program} {tt : TT} {ν : Nat → Int} {ρ : Pl} {a : Act} {en : En} {w : World} {o : Oper} {v : V} {t : Tr V} {nt : Nat} {ops : Array Oper} {call : Cl} {h0 : H} {C : Tr Unit} {W : Bas} {rn : Rn} {n : Nat}
abbrev Lov := Tr V → H → Option X
noncomputable section
/-- A code's run; a loop at a state that is told ends as told. -/
def FSx (lov : Lov) (en : En) (call : Cl) (n : Nat) : C2 → Tr V → H → X := C2.rec (fun t h => X.nm t h) (fun its cm t h => rr (runIts en call t its [] h) X.bad (fun r h => X.nm (commit r cm t) h)) (fun _ _ ia ib t h => again (ia t h) ib)
  (fun s _ _ ia ib t h => onB (src [] t s) (X.bad 86) (fun x => bcase x (ib t h) (ia t h))) (fun id _ ic t h => blockK (ic t h) id) (fun _ ib t h => ocase (lov t h) (fsLoop ib n t h) (fun x => x)) (fun id t h => X.ex id t h) (fun t h => X.rt t h) (fun w _ _ => X.bad w)
end
/-- a code's loops -/
def loopsC : Code → List Code
  | .seq a b => loopsC a ++ loopsC b
  | .cond _ a b => loopsC a ++ loopsC b
  | .block _ c => loopsC c
  | .loop c => c :: loopsC c
  | _ => []
/-- What is told of a loop is so. -/
def ToldOk (P : Program) (tt : TT) (ν : Nat → Int) (W : Bas) (Df : List Deferred) (C : Tr Unit) (nt : Nat) (lov : Lov) (c : Code) : Prop := ∀ t h x (ρ : Pl) (a : Act) (w : World), lov t h = some x → Rel ν W ρ h w → FrC Df ν C ρ nt t a → (Code.loop c).wp P (Post Df ν W C nt h ρ x) a w
variable {lov : Lov}
theorem fsx_sound (hT : TTok P tt) (he : EnOk ν en) (hmo : P.follows .mixedOrders = true) (hcall : CallOk P ν W call) (hm : MtsOk P en.mts) {C : Tr Unit} {nt : Nat} (hnt : nt ≤ 100000) : ∀ (c : Code), (∀ c1, c1 ∈ loopsC c → ToldOk P tt ν W Df C nt lov c1) → ∀ (t : Tr V) (h : H) (X0 : X) (ρ : Pl) (a : Act) (w : World),
    FSx lov en call n (trC tt nt C c) t h = X0 → (∀ n, X0 ≠ .bad n) → Rel ν W ρ h w → FrC Df ν C ρ nt t a → c.wp P (Post Df ν W C nt h ρ X0) a w := by
  intro c
  induction c with
  | skip => intro _ t h X0 ρ a w hX hb R F; rw [← show X.nm t h = X0 from hX]; exact wp_skip ⟨ρ, R, Ext.refl _ _, F⟩
  | label l => intro _ t h X0 ρ a w hX hb R F; rw [← show X.nm t h = X0 from hX]; exact wp_label ⟨ρ, R, Ext.refl _ _, F⟩
  | exit id => intro _ t h X0 ρ a w hX hb R F; rw [← show X.ex id t h = X0 from hX]; exact wp_exit ⟨rfl, ρ, R, Ext.refl _ _, F⟩
  | ret => intro _ t h X0 ρ a w hX hb R F; rw [← show X.rt t h = X0 from hX]; exact wp_ret ⟨ρ, R, Ext.refl _ _, F⟩
  | region id ops draw =>
    intro _ t h X0 ρ a w hX hb R F
    change FSx lov en call n (trReg tt nt C ops.toList draw) t h = X0 at hX
    rcases trReg_cases (tt := tt) (nt := nt) (C := C) ops.toList draw with htr | ⟨its, cm, htr⟩
    · rw [htr] at hX
      exact absurd (show X.bad 132 = X0 from hX).symm (hb _)
    · rw [htr] at hX
      obtain ⟨l, h', h1, h2⟩ := rr_ne (show rr (runIts en call t its [] h) X.bad (fun r h => X.nm (commit r cm t) h) = X0 from hX) (fun n e => hb n e.symm)
      refine region_sound hT he hmo hcall hm hnt htr h1 R F (fun ρ' a' w' R' E' F' => ?_)
      rw [← h2]
      exact ⟨ρ', R', E', F'⟩
  | seq x y ihx0 ihy0 =>
    intro hl t h X0 ρ a w hX hb R F
    have ihx := ihx0 (fun c1 h1 => hl c1 (List.mem_append.2 (.inl h1)))
    have ihy := ihy0 (fun c1 h1 => hl c1 (List.mem_append.2 (.inr h1)))
    have hX' : again (FSx lov en call n (trC tt nt C x) t h) (FSx lov en call n (trC tt nt C y)) = X0 := hX
    refine wp_seq ?_
    cases hx : FSx lov en call n (trC tt nt C x) t h with
    | bad n => rw [hx] at hX'; exact absurd hX'.symm (hb n)
    | nm t1 h1 =>
      rw [hx] at hX'
      refine wp_mono (ihx t h _ ρ a w hx (by simp) R F) (fun e a1 w1 hp => ?_)
      cases e <;> first | exact hp.elim | skip
      obtain ⟨ρ1, R1, E1, F1⟩ := hp
      exact wp_mono (ihy t1 h1 X0 ρ1 a1 w1 hX' hb R1 F1) (Post.mono E1)
    | ex i t1 h1 =>
      rw [hx] at hX'
      refine wp_mono (ihx t h _ ρ a w hx (by simp) R F) (fun e a1 w1 hp => ?_)
      cases e <;> first | exact hp.elim | skip
      rw [← show X.ex i t1 h1 = X0 from hX']; exact hp
    | rt t1 h1 =>
      rw [hx] at hX'
      refine wp_mono (ihx t h _ ρ a w hx (by simp) R F) (fun e a1 w1 hp => ?_)
      cases e <;> first | exact hp.elim | skip
      rw [← show X.rt t1 h1 = X0 from hX']; exact hp
  | cond c x y ihx0 ihy0 =>
    intro hl t h X0 ρ a w hX hb R F
    have ihx := ihx0 (fun c1 h1 => hl c1 (List.mem_append.2 (.inl h1)))
    have ihy := ihy0 (fun c1 h1 => hl c1 (List.mem_append.2 (.inr h1)))
    change FSx lov en call n (match trSrc [] c with | some s => C2.cond s (trC tt nt C x) (trC tt nt C y) | none => .bad 130) t h = X0 at hX
    cases hs : trSrc [] c with
    | none => rw [hs] at hX; exact absurd (show X.bad 130 = X0 from hX).symm (hb _)
    | some s =>
      rw [hs] at hX
      have hv := Cur.val F.toFrR hs
      have hX' : onB (src [] t s) (X.bad 86) (fun b => bcase b (FSx lov en call n (trC tt nt C y) t h) (FSx lov en call n (trC tt nt C x) t h)) = X0 := hX
      obtain ⟨b, hb1, hX2⟩ := onB_ne hX' (fun e => hb _ e.symm)
      rw [hb1] at hv
      simp only [VR] at hv
      refine wp_cond hv ?_
      cases b with
      | true => exact ihx t h X0 ρ a w hX2 hb R F
      | false => exact ihy t h X0 ρ a w hX2 hb R F
  | block id c ih0 =>
    intro hl t h X0 ρ a w hX hb R F
    have ih := ih0 hl
    have hX' : blockK (FSx lov en call n (trC tt nt C c) t h) id = X0 := hX
    refine wp_block ?_
    cases hx : FSx lov en call n (trC tt nt C c) t h with
    | bad n => rw [hx] at hX'; exact absurd hX'.symm (hb n)
    | nm t1 h1 =>
      rw [hx] at hX'
      refine wp_mono (ih t h _ ρ a w hx (by simp) R F) (fun e a1 w1 hp => ?_)
      cases e <;> first | exact hp.elim | skip
      rw [← show X.nm t1 h1 = X0 from hX']; exact hp
    | ex i t1 h1 =>
      rw [hx] at hX'
      refine wp_mono (ih t h _ ρ a w hx (by simp) R F) (fun e a1 w1 hp => ?_)
      cases e <;> first | exact hp.elim | skip
      rename_i j
      obtain ⟨hij, hp⟩ := hp
      have hX2 : bcase (Nat.beq i id) (X.ex i t1 h1) (X.nm t1 h1) = X0 := hX'
      simp only [Exit.inBlock]
      split
      · rename_i e
        rw [hij, e, Nat.beq_refl] at hX2
        rw [← show X.nm t1 h1 = X0 from hX2]; exact hp
      · rename_i e
        rw [show Nat.beq i id = false from Bool.eq_false_iff.2 fun h => e (hij ▸ Nat.eq_of_beq_eq_true h)] at hX2
        rw [← show X.ex i t1 h1 = X0 from hX2]; exact ⟨hij, hp⟩
    | rt t1 h1 =>
      rw [hx] at hX'
      refine wp_mono (ih t h _ ρ a w hx (by simp) R F) (fun e a1 w1 hp => ?_)
      cases e <;> first | exact hp.elim | skip
      rw [← show X.rt t1 h1 = X0 from hX']; exact hp
  | loop c ih0 =>
    intro hl
    have ih := ih0 (fun c1 h1 => hl c1 (List.mem_cons_of_mem _ h1))
    have main : ∀ (m : Nat) (t : Tr V) (h : H) (X0 : X) (ρ : Pl) (a : Act) (w : World), fsLoop (FSx lov en call n (trC tt nt C c)) m t h = X0 → (∀ n, X0 ≠ .bad n) → Rel ν W ρ h w → FrC Df ν C ρ nt t a → LoopWp P c (Post Df ν W C nt h ρ X0) a w := by
      intro m
      induction m with
      | zero => intro t h X0 ρ a w hX hb R F; exact absurd (show X.bad 87 = X0 from hX).symm (hb _)
      | succ m ihm =>
        intro t h X0 ρ a w hX hb R F
        have hX' : again (FSx lov en call n (trC tt nt C c) t h) (fsLoop (FSx lov en call n (trC tt nt C c)) m) = X0 := hX
        refine LoopWp.round ?_
        cases hx : FSx lov en call n (trC tt nt C c) t h with
        | bad n => rw [hx] at hX'; exact absurd hX'.symm (hb n)
        | nm t1 h1 =>
          rw [hx] at hX'
          refine wp_mono (ih t h _ ρ a w hx (by simp) R F) (fun e a1 w1 hp => ?_)
          cases e <;> first | exact hp.elim | skip
          obtain ⟨ρ1, R1, E1, F1⟩ := hp
          exact WP_mono (c := .loop c) (ihm t1 h1 X0 ρ1 a1 w1 hX' hb R1 F1) (Post.mono E1)
        | ex i t1 h1 =>
          rw [hx] at hX'
          refine wp_mono (ih t h _ ρ a w hx (by simp) R F) (fun e a1 w1 hp => ?_)
          cases e <;> first | exact hp.elim | skip
          rw [← show X.ex i t1 h1 = X0 from hX']; exact hp
        | rt t1 h1 =>
          rw [hx] at hX'
          refine wp_mono (ih t h _ ρ a w hx (by simp) R F) (fun e a1 w1 hp => ?_)
          cases e <;> first | exact hp.elim | skip
          rw [← show X.rt t1 h1 = X0 from hX']; exact hp
    intro t h X0 ρ a w hX hb R F
    have hX' : ocase (lov t h) (fsLoop (FSx lov en call n (trC tt nt C c)) n t h) (fun x => x) = X0 := hX
    cases hlov : lov t h with
    | none => rw [hlov] at hX'; exact (main n t h X0 ρ a w hX' hb R F).wp
    | some x =>
      rw [hlov] at hX'
      obtain rfl : x = X0 := hX'
      exact hl c (List.mem_cons_self ..) t h x ρ a w hlov R F
  | _ => intro _ t h X0 ρ a w hX hb R F; exact absurd (show X.bad 131 = X0 from hX).symm (hb _)
/-- A call by what its body does. -/
theorem func_at {gt : Tr V} (hT : TTok P tt) (hgt : GtOk ν W gt) {g : Nat} {as : List V} {h h' : H} {v : V} {fn : Func} {c : Code} {rs : List Rv} {X0 : X} (hf : P.funcs[g]? = some fn) (hb : fn.body = some c) (hrs : trRvs tt fn.results.toList = some rs) (hnt : fn.ntmps ≤ 100000) (hn : fn.params.size + fn.nfree ≤ 1000) (hname : (fn.name == "runtime.NumGoroutine") = false) (hlen : as.length ≤ fn.params.size + fn.nfree)
    (hr : ∀ (ρ : Pl) (a : Act) (w : World), Rel ν W ρ h w → FrC [] ν (slots (fn.params.size + fn.nfree) (useR fn.results.toList (useC c .lf))) ρ fn.ntmps (init' as BP.one gt) a → c.wp P (Post [] ν W (slots (fn.params.size + fn.nfree) (useR fn.results.toList (useC c .lf))) fn.ntmps h ρ X0) a w)
    (hv3 : finX X0 rs = .ok v h') : Call1 P ν W g as h v h' := by
  refine ⟨fun args w => ?_, fun ρ args w R hargs => ?_⟩
  · have hne : fn.name ≠ "runtime.NumGoroutine" := by simpa using hname
    simp [callFunc, hf, hb, hne]
  · have hal := hargs.length
    have hget : ∀ n, n < 100000 → get (bpOf n) (init' as BP.one gt) = if n < as.length then as[n]? else none := fun n hn' => by
      rw [show BP.one = bpOf 0 from rfl, init_get n as 0 gt (by omega)]
      by_cases e : n < as.length
      · rw [if_pos (by omega), if_pos e]; simp
      · rw [if_neg (by omega), if_neg e]; exact hgt.low n hn'
    have F : FrC [] ν (slots (fn.params.size + fn.nfree) (useR fn.results.toList (useC c .lf))) ρ fn.ntmps (init' as BP.one gt) { tmps := args.toArray ++ Array.replicate (fn.ntmps - args.toArray.size) undef, defers := [] } := by
      refine ⟨⟨fun n hn' v hv => ?_, fun g v hv => ?_, rfl, by simp; omega⟩, fun n v hn' hv => ?_⟩
      · rw [hget n hn'] at hv
        split at hv
        · obtain ⟨u, hu, hvr⟩ := hargs.get hv
          have hlt : n < args.length := by omega
          have : (args.toArray ++ Array.replicate (fn.ntmps - args.toArray.size) undef).getD n undef = u := by
            rw [Array.getD_eq_getD_getElem?, Array.getElem?_append_left (by simpa using hlt)]
            simp [hu]
          rw [this]; exact hvr
        · cases hv
      · rw [show BP.one = bpOf 0 from rfl, init_get (100000 + g) as 0 gt (by omega), if_neg (by omega)] at hv
        exact VR.mono ν R.base _ _ (hgt.glob g v hv)
      · rw [hget n hn'] at hv
        split at hv
        · exact ⟨(), slots_get _ n _ (by omega) hn⟩
        · cases hv
    refine calls_of_wp hf hb ?_
    cases X0 with
    | bad n => cases hv3
    | ex i t1 h1 => cases hv3
    | nm t1 h1 =>
      refine wp_mono (hr ρ _ w R F) (fun e a1 w1 hp => ?_)
      cases e <;> first | exact hp.elim | skip
      obtain ⟨ρ1, R1', E1, F1⟩ := hp
      obtain ⟨rfl, u, hres, hvr⟩ := fin_sound hT hrs R1' F1.toFrR (show fin rs t1 h1 = .ok v h' from hv3)
      exact ⟨F1.defers, u, hres, u, rfl, ρ1, R1', hvr, E1⟩
    | rt t1 h1 =>
      refine wp_mono (hr ρ _ w R F) (fun e a1 w1 hp => ?_)
      cases e <;> first | exact hp.elim | skip
      obtain ⟨ρ1, R1', E1, F1⟩ := hp
      obtain ⟨rfl, u, hres, hvr⟩ := fin_sound hT hrs R1' F1.toFrR (show fin rs t1 h1 = .ok v h' from hv3)
      exact ⟨F1.defers, u, hres, u, rfl, ρ1, R1', hvr, E1⟩
/-- The law of a loop: i tells how it stands, ν' the numbers. -/
theorem loop_told {c : Code} {Inv : Nat → (Nat → Int) → Act → World → Prop} {mu : Nat → (Nat → Int) → Nat} {Q : Exit → Act → World → Prop}
    (round : ∀ i ν' a w, Inv i ν' a w → c.wp P (fun e a' w' => (e = .normal ∧ ∃ i' ν'', mu i' ν'' < mu i ν' ∧ Inv i' ν'' a' w') ∨ (e ≠ .normal ∧ Q e a' w')) a w) :
    ∀ i ν' a w, Inv i ν' a w → LoopWp P c Q a w := by
  have main : ∀ k i ν' a w, mu i ν' < k → Inv i ν' a w → LoopWp P c Q a w := by
    intro k
    induction k with
    | zero => intro i ν' a w h; omega
    | succ k ih =>
      intro i ν' a w hk hi
      refine LoopWp.round (wp_mono (round i ν' a w hi) (fun e a1 w1 hp => ?_))
      rcases hp with ⟨rfl, i', ν'', h1, h2⟩ | ⟨h1, h2⟩
      · exact ih i' ν'' a1 w1 (by omega) h2
      · cases e <;> first | exact absurd rfl h1 | exact h2
  intro i ν' a w hi
  exact main _ i ν' a w (Nat.lt_succ_self _) hi
noncomputable section
def closedZ : Z → Bool := Z.rec (fun _ => true) (fun _ => false) (fun _ _ _ _ ha hb => bcase ha false hb) (fun _ _ ih => ih)
def closedZs : List Z → Bool := List.rec true (fun z _ ih => bcase (closedZ z) false ih)
def closedV : V → Bool := V.rec (motive_1 := fun _ => Bool) (motive_2 := fun _ => Bool) true (fun _ => true) (fun _ z => closedZ z) (fun l => closedZs l) true (fun _ _ => true) true (fun _ _ => true) (fun _ _ _ _ => true) true (fun _ _ _ ha hc => bcase ha false hc) true (fun _ _ hv => hv) (fun _ hl => hl) (fun _ hl => hl) true (fun _ => true) (fun _ _ _ => false) true (fun _ _ ha hl => bcase ha false hl)
def closedVs : List V → Bool := V.rec_1 (motive_1 := fun _ => Bool) (motive_2 := fun _ => Bool) true (fun _ => true) (fun _ z => closedZ z) (fun l => closedZs l) true (fun _ _ => true) true (fun _ _ => true) (fun _ _ _ _ => true) true (fun _ _ _ ha hc => bcase ha false hc) true (fun _ _ hv => hv) (fun _ hl => hl) (fun _ hl => hl) true (fun _ => true) (fun _ _ _ => false) true (fun _ _ ha hl => bcase ha false hl)
abbrev Eqs := List (Nat × Z)
def eqIn (j : Nat) (z : Z) : Eqs → Bool := List.rec false (fun p _ ih => bcase (Nat.beq p.1 j) ih (bcase (zBeq p.2 z) ih true))
def turnZ (E : Eqs) (c lit : Z) : Bool := onVar lit (bcase (closedZ lit) false (zBeq c lit)) (fun j => eqIn j c E)
def turnZs (E : Eqs) : List Z → List Z → Bool := List.rec (motive := fun _ => List Z → Bool) (fun m => lcase m true (fun _ _ => false)) (fun a _ ih m => lcase m false (fun b t => bcase (turnZ E a b) false (ih t)))
/-- what is no number -/
def turnW (f : BP → Option BP) (E : Eqs) (c lit : V) : Bool := onS lit (bcase (closedV lit) false (vBeq (renV f c) lit)) (fun l => onS c false (fun m => turnZs E m l))
/-- one value turned: what is named there is what it comes to here -/
def turnV (f : BP → Option BP) (E : Eqs) (c lit : V) : Bool := bcase (isT 0 lit) (onI lit (turnW f E c lit) (fun k z => onVar z (bcase (closedV lit) false (vBeq c lit)) (fun j => onI c false (fun k' z' => bcase (Nat.beq (kN k) (kN k')) false (eqIn j z' E))))) true
def turnVs (f : BP → Option BP) (E : Eqs) : List V → List V → Bool := List.rec (motive := fun _ => List V → Bool) (fun m => lcase m true (fun _ _ => false)) (fun a _ ih m => lcase m false (fun b t => bcase (turnV f E a b) false (ih t)))
end
mutual
theorem VR.closed {ν ν' : Nat → Int} : ∀ (v : V) (u : Value), closedV v = true → VR ν ρ v u → VR ν' ρ v u
  | .x, _, _, _ => by simp only [VR]
  | .b x, u, _, k => by simpa only [VR] using k
  | .i a z, u, h, k => by simp only [VR] at k ⊢; rw [← closedZ_val (show closedZ z = true from h) ν ν']; exact k
  | .s l, u, h, k => by simp only [VR] at k ⊢; obtain ⟨s, e, k⟩ := k; exact ⟨s, e, closedZs_val (show closedZs l = true from h) k⟩
  | .p0, u, _, k => by simpa only [VR] using k
  | .p x o, u, _, k => by simpa only [VR] using k
  | .s0, u, _, k => by simpa only [VR] using k
  | .e x o, u, _, k => by simpa only [VR] using k
  | .sl x o sz len, u, _, k => by simpa only [VR] using k
  | .f0, u, _, k => by simpa only [VR] using k
  | .f g a c, u, h, k => by
    obtain ⟨h1, h2⟩ := bcase_ne (show bcase (closedVs a) false (closedVs c) = true from h) (by simp)
    simp only [VR] at k ⊢; obtain ⟨xs, ys, e, k1, k2⟩ := k; exact ⟨xs, ys, e, VRs.closed _ _ h1 k1, VRs.closed _ _ h2 k2⟩
  | .n0, u, _, k => by simpa only [VR] using k
  | .n t v, u, h, k => by simp only [VR] at k ⊢; obtain ⟨w, e, k⟩ := k; exact ⟨w, e, VR.closed v _ (show closedV v = true from h) k⟩
  | .g l, u, h, k => by simp only [VR] at k ⊢; obtain ⟨w, e, k⟩ := k; exact ⟨w, e, VRs.closed _ _ (show closedVs l = true from h) k⟩
  | .u l, u, h, k => by simp only [VR] at k ⊢; obtain ⟨w, e, k⟩ := k; exact ⟨w, e, VRs.closed _ _ (show closedVs l = true from h) k⟩
  | .m0, u, _, k => by simpa only [VR] using k
  | .m x, u, _, k => by simpa only [VR] using k
  | .sy x z l, u, h, _ => by cases h
theorem VRs.closed {ν ν' : Nat → Int} : ∀ (v : List V) (u : List Value), closedVs v = true → VRs ν ρ v u → VRs ν' ρ v u
  | [], _, _, k => by simpa only [VRs] using k
  | v :: vs, u, h, k => by
    obtain ⟨h1, h2⟩ := bcase_ne (show bcase (closedV v) false (closedVs vs) = true from h) (by simp)
    simp only [VRs] at k ⊢; obtain ⟨u, us, e, k1, k2⟩ := k; exact ⟨u, us, e, VR.closed v u h1 k1, VRs.closed vs us h2 k2⟩
theorem closedZ_val : ∀ {z : Z}, closedZ z = true → ∀ ν ν' : Nat → Int, zval ν z = zval ν' z
  | .lit n, _, _, _ => rfl
  | .var i, h, _, _ => by cases h
  | .bin op k x y, h, ν, ν' => by
    obtain ⟨h1, h2⟩ := bcase_ne (show bcase (closedZ x) false (closedZ y) = true from h) (by simp)
    simp only [zval]; rw [closedZ_val h1 ν ν', closedZ_val h2 ν ν']
  | .conv k x, h, ν, ν' => by simp only [zval]; rw [closedZ_val (show closedZ x = true from h) ν ν']
theorem closedZs_val {ν ν' : Nat → Int} : ∀ {l : List Z} {m : List UInt8}, closedZs l = true → SR ν l m → SR ν' l m
  | [], [], _, _ => trivial
  | [], _ :: _, _, k => k.elim
  | _ :: _, [], _, k => k.elim
  | z :: l, b :: m, h, k => by
    obtain ⟨h1, h2⟩ := bcase_ne (show bcase (closedZ z) false (closedZs l) = true from h) (by simp)
    exact ⟨by rw [← closedZ_val h1 ν ν']; exact k.1, closedZs_val h2 k.2⟩
end
theorem eqIn_ok {j : Nat} {z : Z} : ∀ {E : Eqs}, eqIn j z E = true → (j, z) ∈ E
  | [], h => by cases h
  | p :: E, h => by
    have h' : bcase (Nat.beq p.1 j) (eqIn j z E) (bcase (zBeq p.2 z) (eqIn j z E) true) = true := h
    cases e1 : Nat.beq p.1 j with
    | false => rw [e1] at h'; exact List.mem_cons_of_mem _ (eqIn_ok (show eqIn j z E = true from h'))
    | true =>
      rw [e1] at h'
      have h'' : bcase (zBeq p.2 z) (eqIn j z E) true = true := h'
      cases e2 : zBeq p.2 z with
      | false => rw [e2] at h''; exact List.mem_cons_of_mem _ (eqIn_ok (show eqIn j z E = true from h''))
      | true =>
        obtain rfl := Nat.eq_of_beq_eq_true e1
        obtain rfl := zBeq_eq _ _ e2
        exact List.mem_cons_self ..
theorem onVar_cases {β : Type} (z : Z) (g : β) (f : Nat → β) : (∃ j, z = .var j ∧ onVar z g f = f j) ∨ onVar z g f = g := by
  cases z <;> first | exact .inl ⟨_, rfl, rfl⟩ | exact .inr rfl
theorem onI_cases {β : Type} (v : V) (g : β) (f : IntKind → Z → β) : (∃ k z, v = .i k z ∧ onI v g f = f k z) ∨ onI v g f = g := by
  cases v <;> first | exact .inl ⟨_, _, rfl, rfl⟩ | exact .inr rfl
theorem onS_cases {β : Type} (v : V) (g : β) (f : List Z → β) : (∃ l, v = .s l ∧ onS v g f = f l) ∨ onS v g f = g := by
  cases v <;> first | exact .inl ⟨_, rfl, rfl⟩ | exact .inr rfl
theorem turnZ_ok {ν ν' : Nat → Int} {E : Eqs} (hE : ∀ p ∈ E, ν' p.1 = zval ν p.2) {c lit : Z} (h : turnZ E c lit = true) : zval ν' lit = zval ν c := by
  have h' : onVar lit (bcase (closedZ lit) false (zBeq c lit)) (fun j => eqIn j c E) = true := h
  rcases onVar_cases lit (bcase (closedZ lit) false (zBeq c lit)) (fun j => eqIn j c E) with ⟨j, rfl, h4⟩ | h4
  · rw [h4] at h'; exact hE _ (eqIn_ok h')
  · rw [h4] at h'
    obtain ⟨h5, h6⟩ := bcase_ne h' (by simp)
    obtain rfl := zBeq_eq _ _ h6
    exact closedZ_val (ρ := fun _ => none) h5 ν' ν
theorem turnZs_ok {ν ν' : Nat → Int} {E : Eqs} (hE : ∀ p ∈ E, ν' p.1 = zval ν p.2) : ∀ {m l : List Z} {b : List UInt8}, turnZs E m l = true → SR ν m b → SR ν' l b
  | [], l, b, h, k => by
    cases l with
    | nil => cases b <;> first | trivial | exact k.elim
    | cons x t => exact absurd (show false = true from h) (by simp)
  | a :: m, l, b, h, k => by
    obtain ⟨x, t, rfl, h⟩ := lcase_ne (show lcase l false (fun b t => bcase (turnZ E a b) false (turnZs E m t)) = true from h) (by simp)
    obtain ⟨h1, h2⟩ := bcase_ne h (by simp)
    cases b with
    | nil => exact k.elim
    | cons y b => exact ⟨(turnZ_ok hE h1).trans k.1, turnZs_ok hE h2 k.2⟩
theorem turnV_ok {ν ν' : Nat → Int} {ρ ρ' : Pl} {f : BP → Option BP} {E : Eqs} (hf : ∀ x y p, f x = some y → ρ x = some p → ρ' y = some p) (hE : ∀ p ∈ E, ν' p.1 = zval ν p.2) {c lit : V} (h : turnV f E c lit = true) {u : Value} (k : VR ν ρ c u) : VR ν' ρ' lit u := by
  cases e : isT 0 lit with
  | true => cases lit <;> first | (cases e; done) | simp only [VR]
  | false =>
    have h' : bcase (isT 0 lit) (onI lit (turnW f E c lit) (fun k z => onVar z (bcase (closedV lit) false (vBeq c lit)) (fun j => onI c false (fun k' z' => bcase (Nat.beq (kN k) (kN k')) false (eqIn j z' E))))) true = true := h
    rw [e] at h'
    have h2 : onI lit (turnW f E c lit) (fun k z => onVar z (bcase (closedV lit) false (vBeq c lit)) (fun j => onI c false (fun k' z' => bcase (Nat.beq (kN k) (kN k')) false (eqIn j z' E)))) = true := h'
    rcases onI_cases lit (turnW f E c lit) (fun k z => onVar z (bcase (closedV lit) false (vBeq c lit)) (fun j => onI c false (fun k' z' => bcase (Nat.beq (kN k) (kN k')) false (eqIn j z' E)))) with ⟨kk, z, rfl, h3⟩ | h3
    · rw [h3] at h2
      rcases onVar_cases z (bcase (closedV (.i kk z)) false (vBeq c (.i kk z))) (fun j => onI c false (fun k' z' => bcase (Nat.beq (kN kk) (kN k')) false (eqIn j z' E))) with ⟨j, rfl, h4⟩ | h4
      · rw [h4] at h2
        obtain ⟨k', z', rfl, h5⟩ := onI_ne h2 (by simp)
        obtain ⟨h6, h7⟩ := bcase_ne h5 (by simp)
        obtain rfl := kN_inj (Nat.eq_of_beq_eq_true h6)
        simp only [VR] at k ⊢
        rw [k, show zval ν' (.var j) = ν' j from rfl, hE _ (eqIn_ok h7)]
      · rw [h4] at h2
        obtain ⟨h5, h6⟩ := bcase_ne h2 (by simp)
        obtain rfl := vBeq_eq _ _ h6
        have := VR.closed (ν' := ν') _ u h5 k
        simpa only [VR] using this
    · rw [h3] at h2
      have h2' : onS lit (bcase (closedV lit) false (vBeq (renV f c) lit)) (fun l => onS c false (fun m => turnZs E m l)) = true := h2
      rcases onS_cases lit (bcase (closedV lit) false (vBeq (renV f c) lit)) (fun l => onS c false (fun m => turnZs E m l)) with ⟨l, rfl, h4⟩ | h4
      · rw [h4] at h2'
        obtain ⟨m, rfl, h5⟩ := onS_ne h2' (by simp)
        simp only [VR] at k ⊢
        obtain ⟨s, hs, hr⟩ := k
        exact ⟨s, hs, turnZs_ok hE h5 hr⟩
      · rw [h4] at h2'
        obtain ⟨h5, h6⟩ := bcase_ne h2' (by simp)
        have := vBeq_eq _ _ h6
        exact VR.closed (ν := ν) _ u h5 (this ▸ VR.ren hf c u k)
theorem turnVs_get {f : BP → Option BP} {E : Eqs} : ∀ {l lit : List V}, turnVs f E l lit = true → l.length = lit.length ∧ ∀ (i : Nat) (b : V), lit[i]? = some b → ∃ a, l[i]? = some a ∧ turnV f E a b = true
  | [], lit, h => by
    cases lit with
    | nil => exact ⟨rfl, fun i b e => by simp at e⟩
    | cons b t => exact absurd (show false = true from h) (by simp)
  | a :: l, lit, h => by
    obtain ⟨b, t, rfl, h⟩ := lcase_ne (show lcase lit false (fun b t => bcase (turnV f E a b) false (turnVs f E l t)) = true from h) (by simp)
    obtain ⟨h1, h2⟩ := bcase_ne h (by simp)
    obtain ⟨e, k⟩ := turnVs_get h2
    refine ⟨by simp [e], fun i c ec => ?_⟩
    cases i with
    | zero => obtain rfl : b = c := by simpa using ec
              exact ⟨a, rfl, h1⟩
    | succ i => simpa using k i c (by simpa using ec)
/-- A state as it is told: its slots, its blocks (each with its name, what it holds, whether it was made here), the next name. -/
structure St where
  sl : List (Nat × V)
  ob : List (BP × List V × Bool)
  nx : BP
noncomputable section
def stT (gt : Tr V) (l : List (Nat × V)) : Tr V := List.rec (motive := fun _ => Tr V) gt (fun p _ ih => set (bpOf p.1) (some p.2) ih) l
def stM (l : List (BP × List V × Bool)) : Tr O := List.rec (motive := fun _ => Tr O) .lf (fun p _ ih => set p.1 (some (O.c p.2.1 none p.2.2)) ih) l
def St.tr (s : St) (gt : Tr V) : Tr V := stT gt s.sl
def St.hh (s : St) : H := H.mk s.nx (stM s.ob)
def isOld (k : BP) (x : BP) : Bool := Nat.blt (bpN x) (bpN k)
/-- names from here (first) to there (second): old ones stay, new ones as told -/
def fwd (k : BP) (ps : List (BP × BP)) (x : BP) : Option BP := bcase (isOld k x) (asc ps x) (some x)
def bwd (k : BP) (ps : List (BP × BP)) (y : BP) : Option BP := bcase (isOld k y) (List.rec (motive := fun _ => Option BP) none (fun p _ ih => bcase (bpEq p.2 y) ih (some p.1)) ps) (some y)
def slotsT (f : BP → Option BP) (E : Eqs) (t1 : Tr V) : List (Nat × V) → Bool := List.rec true (fun p _ ih => bcase (Nat.blt p.1 100000) false (bcase (ocase (get (bpOf p.1) t1) false (fun v1 => turnV f E v1 p.2)) false ih))
def obIn (x : BP) : List (BP × List V × Bool) → Bool := List.rec false (fun p _ ih => bcase (bpEq p.1 x) ih true)
def objT (k : BP) (ps : List (BP × BP)) (E : Eqs) (h1 : H) (ob : List (BP × List V × Bool)) (p : BP × List V × Bool) : Bool := ocase (bwd k ps p.1) false (fun x => onC (obj h1 x) false (fun l1 q wn => bcase (bcase wn (!p.2.2) p.2.2) false (bcase (ocase q true (fun y => ocase (fwd k ps y) true (fun y' => bcase (obIn y' ob) true false))) false (turnVs (fwd k ps) E l1 p.2.1))))
def objsT (k : BP) (ps : List (BP × BP)) (E : Eqs) (h1 : H) (nx : BP) (ob : List (BP × List V × Bool)) : List (BP × List V × Bool) → Bool := List.rec true (fun p _ ih => bcase (Nat.blt (bpN p.1) (bpN nx)) false (bcase (objT k ps E h1 ob p) false ih))
/-- sources and aims are all distinct, and new -/
def psOk (k nx : BP) (ps : List (BP × BP)) : Bool := List.rec (motive := fun _ => Bool) true (fun p l ih => bcase (isOld k p.1) (bcase (isOld k p.2) (bcase (Nat.blt (bpN p.2) (bpN nx)) false (bcase (ocase (asc l p.1) true (fun _ => false)) false (bcase (ocase (List.rec (motive := fun _ => Option BP) none (fun q _ i2 => bcase (bpEq q.2 p.2) i2 (some q.1)) l) true (fun _ => false)) false ih))) false) false) ps
def turnB (k : BP) (s : St) (ps : List (BP × BP)) (E : Eqs) (t1 : Tr V) (h1 : H) : Bool := bcase (psOk k s.nx ps) false (bcase (Nat.ble (bpN k) (bpN s.nx)) false (bcase (slotsT (fwd k ps) E t1 s.sl) false (objsT k ps E h1 s.nx s.ob s.ob)))
/-- goes on, at this state -/
def goesB (k : BP) (s : St) (ps : List (BP × BP)) (E : Eqs) : X → Bool := X.rec (fun t h => turnB k s ps E t h) (fun _ _ _ => false) (fun _ _ => false) (fun _ => false)
/-- leaves by this exit, at this state -/
def leavesB (id : Nat) (k : BP) (s : St) (ps : List (BP × BP)) (E : Eqs) : X → Bool := X.rec (fun _ _ => false) (fun i t h => bcase (Nat.beq i id) false (turnB k s ps E t h)) (fun _ _ => false) (fun _ => false)
end
theorem ble_iff {a b : Nat} : Nat.ble a b = true ↔ a ≤ b := ⟨Nat.le_of_ble_eq_true, Nat.ble_eq_true_of_le⟩
theorem isOld_iff {k x : BP} : isOld k x = true ↔ bpN x < bpN k := by unfold isOld; exact blt_iff
theorem isOld_not {k x : BP} : isOld k x = false ↔ bpN k ≤ bpN x := by
  rw [← Bool.not_eq_true, isOld_iff]; omega
noncomputable abbrev inv2 (ps : List (BP × BP)) (y : BP) : Option BP := List.rec (motive := fun _ => Option BP) none (fun p _ ih => bcase (bpEq p.2 y) ih (some p.1)) ps
structure PsOk (k nx : BP) (ps : List (BP × BP)) : Prop where
  new1 : ∀ p ∈ ps, bpN k ≤ bpN p.1
  new2 : ∀ p ∈ ps, bpN k ≤ bpN p.2
  lt : ∀ p ∈ ps, bpN p.2 < bpN nx
  inj1 : ∀ p ∈ ps, ∀ q ∈ ps, p.1 = q.1 → p = q
  inj2 : ∀ p ∈ ps, ∀ q ∈ ps, p.2 = q.2 → p = q
theorem asc_none : ∀ {ps : List (BP × BP)} {x : BP}, asc ps x = none → ∀ q ∈ ps, q.1 ≠ x
  | [], x, _, q, hq => by cases hq
  | p :: ps, x, h, q, hq => by
    have h' : bcase (bpEq p.1 x) (asc ps x) (some p.2) = none := h
    cases e : bpEq p.1 x with
    | true => rw [e] at h'; cases h'
    | false =>
      rw [e] at h'
      rcases List.mem_cons.1 hq with rfl | hq
      · intro e2; rw [(bpEq_iff _ _).2 e2] at e; cases e
      · exact asc_none (show asc ps x = none from h') q hq
theorem asc_some : ∀ {ps : List (BP × BP)} {x y : BP}, asc ps x = some y → (x, y) ∈ ps
  | [], x, y, h => by cases h
  | p :: ps, x, y, h => by
    have h' : bcase (bpEq p.1 x) (asc ps x) (some p.2) = some y := h
    cases e : bpEq p.1 x with
    | true =>
      rw [e] at h'
      obtain rfl := (bpEq_iff _ _).1 e
      obtain rfl := Option.some.inj (show some p.2 = some y from h')
      exact List.mem_cons_self ..
    | false => rw [e] at h'; exact List.mem_cons_of_mem _ (asc_some (show asc ps x = some y from h'))
theorem inv2_none : ∀ {ps : List (BP × BP)} {y : BP}, inv2 ps y = none → ∀ q ∈ ps, q.2 ≠ y
  | [], y, _, q, hq => by cases hq
  | p :: ps, y, h, q, hq => by
    have h' : bcase (bpEq p.2 y) (inv2 ps y) (some p.1) = none := h
    cases e : bpEq p.2 y with
    | true => rw [e] at h'; cases h'
    | false =>
      rw [e] at h'
      rcases List.mem_cons.1 hq with rfl | hq
      · intro e2; rw [(bpEq_iff _ _).2 e2] at e; cases e
      · exact inv2_none (show inv2 ps y = none from h') q hq
theorem inv2_some : ∀ {ps : List (BP × BP)} {x y : BP}, inv2 ps y = some x → (x, y) ∈ ps
  | [], x, y, h => by cases h
  | p :: ps, x, y, h => by
    have h' : bcase (bpEq p.2 y) (inv2 ps y) (some p.1) = some x := h
    cases e : bpEq p.2 y with
    | true =>
      rw [e] at h'
      obtain rfl := (bpEq_iff _ _).1 e
      obtain rfl := Option.some.inj (show some p.1 = some x from h')
      exact List.mem_cons_self ..
    | false => rw [e] at h'; exact List.mem_cons_of_mem _ (inv2_some (show inv2 ps y = some x from h'))
theorem onone {α β : Type} {x : Option α} {f : α → Bool} (h : ocase x true (fun a => f a) = true) (hf : ∀ a, f a = false) : x = none := by
  cases x with
  | none => rfl
  | some a => have := hf a; exact absurd (show f a = true from h) (by rw [this]; simp)
theorem psOk_ok {k nx : BP} : ∀ {ps : List (BP × BP)}, psOk k nx ps = true → PsOk k nx ps
  | [], _ => ⟨fun p hp => (by cases hp), fun p hp => (by cases hp), fun p hp => (by cases hp), fun p hp => (by cases hp), fun p hp => (by cases hp)⟩
  | p :: l, h => by
    have h' : bcase (isOld k p.1) (bcase (isOld k p.2) (bcase (Nat.blt (bpN p.2) (bpN nx)) false (bcase (ocase (asc l p.1) true (fun _ => false)) false (bcase (ocase (inv2 l p.2) true (fun _ => false)) false (psOk k nx l)))) false) false = true := h
    cases e1 : isOld k p.1 with
    | true => rw [e1] at h'; cases h'
    | false =>
      rw [e1] at h'
      have h2 : bcase (isOld k p.2) (bcase (Nat.blt (bpN p.2) (bpN nx)) false (bcase (ocase (asc l p.1) true (fun _ => false)) false (bcase (ocase (inv2 l p.2) true (fun _ => false)) false (psOk k nx l)))) false = true := h'
      cases e2 : isOld k p.2 with
      | true => rw [e2] at h2; cases h2
      | false =>
        rw [e2] at h2
        obtain ⟨h3, h4⟩ := bcase_ne (show bcase (Nat.blt (bpN p.2) (bpN nx)) false (bcase (ocase (asc l p.1) true (fun _ => false)) false (bcase (ocase (inv2 l p.2) true (fun _ => false)) false (psOk k nx l))) = true from h2) (by simp)
        obtain ⟨h5, h6⟩ := bcase_ne h4 (by simp)
        obtain ⟨h7, h8⟩ := bcase_ne h6 (by simp)
        have i1 := onone (β := Bool) h5 (fun _ => rfl)
        have i2 := onone (β := Bool) h7 (fun _ => rfl)
        have I := psOk_ok h8
        refine ⟨fun q hq => ?_, fun q hq => ?_, fun q hq => ?_, fun q hq r hr e => ?_, fun q hq r hr e => ?_⟩
        · rcases List.mem_cons.1 hq with rfl | hq
          · exact isOld_not.1 e1
          · exact I.new1 q hq
        · rcases List.mem_cons.1 hq with rfl | hq
          · exact isOld_not.1 e2
          · exact I.new2 q hq
        · rcases List.mem_cons.1 hq with rfl | hq
          · exact blt_iff.1 h3
          · exact I.lt q hq
        · rcases List.mem_cons.1 hq with hq1 | hq1 <;> rcases List.mem_cons.1 hr with hr1 | hr1
          · rw [hq1, hr1]
          · exact absurd (by rw [← e, hq1]) (asc_none i1 r hr1)
          · exact absurd (by rw [e, hr1]) (asc_none i1 q hq1)
          · exact I.inj1 q hq1 r hr1 e
        · rcases List.mem_cons.1 hq with hq1 | hq1 <;> rcases List.mem_cons.1 hr with hr1 | hr1
          · rw [hq1, hr1]
          · exact absurd (by rw [← e, hq1]) (inv2_none i2 r hr1)
          · exact absurd (by rw [e, hr1]) (inv2_none i2 q hq1)
          · exact I.inj2 q hq1 r hr1 e
theorem bwd_of_fwd {k nx : BP} {ps : List (BP × BP)} (I : PsOk k nx ps) {x y : BP} (h : fwd k ps x = some y) : bwd k ps y = some x := by
  have h' : bcase (isOld k x) (asc ps x) (some x) = some y := h
  show bcase (isOld k y) (inv2 ps y) (some y) = some x
  cases e : isOld k x with
  | true =>
    rw [e] at h'
    obtain rfl := Option.some.inj (show some x = some y from h')
    rw [e]; rfl
  | false =>
    rw [e] at h'
    have hm := asc_some (show asc ps x = some y from h')
    rw [isOld_not.2 (I.new2 _ hm)]
    show inv2 ps y = some x
    cases e2 : inv2 ps y with
    | none => exact absurd rfl (inv2_none e2 _ hm)
    | some x' =>
      have := I.inj2 _ (inv2_some e2) _ hm rfl
      injection this with e3 e4
      rw [e3]
theorem fwd_of_bwd {k nx : BP} {ps : List (BP × BP)} (I : PsOk k nx ps) {x y : BP} (h : bwd k ps y = some x) : fwd k ps x = some y := by
  have h' : bcase (isOld k y) (inv2 ps y) (some y) = some x := h
  show bcase (isOld k x) (asc ps x) (some x) = some y
  cases e : isOld k y with
  | true =>
    rw [e] at h'
    obtain rfl := Option.some.inj (show some y = some x from h')
    rw [e]; rfl
  | false =>
    rw [e] at h'
    have hm := inv2_some (show inv2 ps y = some x from h')
    rw [isOld_not.2 (I.new1 _ hm)]
    show asc ps x = some y
    cases e2 : asc ps x with
    | none => exact absurd rfl (asc_none e2 _ hm)
    | some y' =>
      have := I.inj1 _ (asc_some e2) _ hm rfl
      injection this with e3 e4
      rw [e4]
theorem stM_get : ∀ {l : List (BP × List V × Bool)} {x : BP} {o : O}, get x (stM l) = some o → ∃ p ∈ l, x = p.1 ∧ o = .c p.2.1 none p.2.2
  | [], x, o, h => by rw [show stM [] = Tr.lf from rfl, get_lf] at h; cases h
  | p :: l, x, o, h => by
    rw [show stM (p :: l) = Ev.set p.1 (some (O.c p.2.1 none p.2.2)) (stM l) from rfl, get_set] at h
    split at h
    · rename_i e; exact ⟨p, List.mem_cons_self .., e, (Option.some.inj h).symm⟩
    · obtain ⟨q, h1, h2⟩ := stM_get h; exact ⟨q, List.mem_cons_of_mem _ h1, h2⟩
theorem stT_get {gt : Tr V} : ∀ {l : List (Nat × V)} {x : BP} {v : V}, get x (stT gt l) = some v → (∃ p ∈ l, x = bpOf p.1 ∧ v = p.2) ∨ get x gt = some v
  | [], x, v, h => .inr h
  | p :: l, x, v, h => by
    rw [show stT gt (p :: l) = Ev.set (bpOf p.1) (some p.2) (stT gt l) from rfl, get_set] at h
    split at h
    · rename_i e; exact .inl ⟨p, List.mem_cons_self .., e, (Option.some.inj h).symm⟩
    · rcases stT_get h with ⟨q, h1, h2⟩ | h1
      · exact .inl ⟨q, List.mem_cons_of_mem _ h1, h2⟩
      · exact .inr h1
theorem slotsT_get {f : BP → Option BP} {E : Eqs} {t1 : Tr V} : ∀ {l : List (Nat × V)}, slotsT f E t1 l = true → ∀ p ∈ l, p.1 < 100000 ∧ ∃ v1, get (bpOf p.1) t1 = some v1 ∧ turnV f E v1 p.2 = true
  | [], _, p, hp => by cases hp
  | q :: l, h, p, hp => by
    obtain ⟨h1, h2⟩ := bcase_ne (show bcase (Nat.blt q.1 100000) false (bcase (ocase (get (bpOf q.1) t1) false (fun v1 => turnV f E v1 q.2)) false (slotsT f E t1 l)) = true from h) (by simp)
    obtain ⟨h3, h4⟩ := bcase_ne h2 (by simp)
    rcases List.mem_cons.1 hp with rfl | hp
    · obtain ⟨v1, e1, e2⟩ := ocase_ne h3 (by simp)
      exact ⟨blt_iff.1 h1, v1, e1, e2⟩
    · exact slotsT_get h4 p hp
theorem objsT_get {k : BP} {ps : List (BP × BP)} {E : Eqs} {h1 : H} {nx : BP} {ob : List (BP × List V × Bool)} : ∀ {l : List (BP × List V × Bool)}, objsT k ps E h1 nx ob l = true → ∀ p ∈ l, bpN p.1 < bpN nx ∧ objT k ps E h1 ob p = true
  | [], _, p, hp => by cases hp
  | q :: l, h, p, hp => by
    obtain ⟨e1, h2⟩ := bcase_ne (show bcase (Nat.blt (bpN q.1) (bpN nx)) false (bcase (objT k ps E h1 ob q) false (objsT k ps E h1 nx ob l)) = true from h) (by simp)
    obtain ⟨e2, h3⟩ := bcase_ne h2 (by simp)
    rcases List.mem_cons.1 hp with rfl | hp
    · exact ⟨blt_iff.1 e1, e2⟩
    · exact objsT_get h3 p hp
theorem obIn_mem : ∀ {ob : List (BP × List V × Bool)} {p : BP × List V × Bool}, p ∈ ob → obIn p.1 ob = true
  | [], p, h => by cases h
  | q :: l, p, h => by
    show bcase (bpEq q.1 p.1) (obIn p.1 l) true = true
    rcases List.mem_cons.1 h with rfl | h
    · rw [(bpEq_iff _ _).2 rfl]; rfl
    · rw [obIn_mem h]; cases bpEq q.1 p.1 <;> rfl
theorem objT_get {k : BP} {ps : List (BP × BP)} {E : Eqs} {h1 : H} {ob : List (BP × List V × Bool)} {p : BP × List V × Bool} (h : objT k ps E h1 ob p = true) : ∃ x l1 q, bwd k ps p.1 = some x ∧ obj h1 x = some (.c l1 q p.2.2) ∧ (∀ y y', q = some y → fwd k ps y = some y' → obIn y' ob = false) ∧ turnVs (fwd k ps) E l1 p.2.1 = true := by
  obtain ⟨x, e1, h2⟩ := ocase_ne (show ocase (bwd k ps p.1) false (fun x => onC (obj h1 x) false (fun l1 q wn => bcase (bcase wn (!p.2.2) p.2.2) false (bcase (ocase q true (fun y => ocase (fwd k ps y) true (fun y' => bcase (obIn y' ob) true false))) false (turnVs (fwd k ps) E l1 p.2.1)))) = true from h) (by simp)
  obtain ⟨l1, q, wn, e2, h3⟩ := onC_ne h2 (by simp)
  obtain ⟨h4, h5⟩ := bcase_ne h3 (by simp)
  obtain ⟨h6, h7⟩ := bcase_ne h5 (by simp)
  have hw : wn = p.2.2 := by
    cases wn <;> cases e : p.2.2 <;> rw [e] at h4 <;> first | rfl | cases h4
  refine ⟨x, l1, q, e1, by rw [e2, hw], fun y y' hy hy' => ?_, h7⟩
  subst hy
  have h8 : ocase (fwd k ps y) true (fun y' => bcase (obIn y' ob) true false) = true := h6
  rw [hy'] at h8
  have h9 : bcase (obIn y' ob) true false = true := h8
  cases e : obIn y' ob with
  | false => rfl
  | true => rw [e] at h9; cases h9
/-- A state stands as another one, by other names. -/
theorem turn_ok {gt : Tr V} (hgt : GtOk ν W gt) {ν' ν'' : Nat → Int} {k : BP} {hh : H} {ρ0 ρ1 : Pl} (hk : nx hh = k) (hW : ∀ x p, W.pl x = some p → bpN x < bpN k) (hρ : ∀ x p, ρ0 x = some p → bpN x < bpN k) (hg2 : GtOk ν'' W gt) {s : St} {ps : List (BP × BP)} {E : Eqs} {t1 : Tr V} {h1 : H} (hB : turnB k s ps E t1 h1 = true) (hE : ∀ p ∈ E, ν'' p.1 = zval ν' p.2) (R : Rel ν' W ρ1 h1 w) (X : Ext hh ρ0 h1 ρ1) (F : FrC Df ν' C ρ1 nt t1 a) :
    ∃ ρ2, Rel ν'' W ρ2 s.hh w ∧ Ext hh ρ0 s.hh ρ2 ∧ FrC Df ν'' C ρ2 nt (s.tr gt) a := by
  obtain ⟨b1, b2⟩ := bcase_ne (show bcase (psOk k s.nx ps) false (bcase (Nat.ble (bpN k) (bpN s.nx)) false (bcase (slotsT (fwd k ps) E t1 s.sl) false (objsT k ps E h1 s.nx s.ob s.ob))) = true from hB) (by simp)
  obtain ⟨b3, b4⟩ := bcase_ne b2 (by simp)
  obtain ⟨b5, b6⟩ := bcase_ne b4 (by simp)
  have I := psOk_ok b1
  have hkn : bpN k ≤ bpN s.nx := ble_iff.1 b3
  let ρ2 : Pl := fun y => if bpN y < bpN k then ρ1 y else (inv2 ps y).bind ρ1
  have hold : ∀ y, bpN y < bpN k → ρ2 y = ρ1 y := fun y hy => if_pos hy
  have hnew : ∀ x y, (x, y) ∈ ps → ρ2 y = ρ1 x := fun x y hm => by
    show (if bpN y < bpN k then ρ1 y else (inv2 ps y).bind ρ1) = ρ1 x
    have h0 : bpN k ≤ bpN y := I.new2 _ hm
    rw [if_neg (by omega)]
    cases e2 : inv2 ps y with
    | none => exact absurd rfl (inv2_none e2 _ hm)
    | some x' =>
      have := I.inj2 _ (inv2_some e2) _ hm rfl
      injection this with e3 e4
      rw [e3]; rfl
  have hbwd : ∀ y x, bwd k ps y = some x → ρ2 y = ρ1 x := fun y x h => by
    have h' : bcase (isOld k y) (inv2 ps y) (some y) = some x := h
    cases e : isOld k y with
    | true =>
      rw [e] at h'
      obtain rfl := Option.some.inj (show some y = some x from h')
      exact hold _ (isOld_iff.1 e)
    | false => rw [e] at h'; exact hnew _ _ (inv2_some (show inv2 ps y = some x from h'))
  have hren : ∀ x y p, fwd k ps x = some y → ρ1 x = some p → ρ2 y = some p := fun x y p h e => by rw [hbwd y x (bwd_of_fwd I h), e]
  have hob : ∀ y o, obj s.hh y = some o → ∃ p ∈ s.ob, y = p.1 ∧ o = .c p.2.1 none p.2.2 := fun y o ho => stM_get (show get y (stM s.ob) = some o from ho)
  have hl2 : ∀ y b c n, ρ2 y = some (b, c, n) → b < w.heap.size ∧ bpN y < bpN s.nx := by
    intro y b c n e
    by_cases hy : bpN y < bpN k
    · rw [hold y hy] at e
      exact ⟨(R.lt y b c n e).1, by omega⟩
    · have e' : (if bpN y < bpN k then ρ1 y else (inv2 ps y).bind ρ1) = some (b, c, n) := e
      rw [if_neg hy] at e'
      cases e2 : inv2 ps y with
      | none => rw [e2] at e'; cases e'
      | some x =>
        rw [e2] at e'
        exact ⟨(R.lt x b c n e').1, I.lt _ (inv2_some e2)⟩
  refine ⟨ρ2, ⟨R.below, ?_, hl2, ?_, ?_, ?_, ?_, ?_, ?_, R.kp⟩, ⟨?_, ?_, ?_⟩, ⟨⟨?_, ?_, F.defers, F.size⟩, ?_⟩⟩
  · intro y o ho b c n hy
    obtain ⟨p, hp, rfl, rfl⟩ := hob y o ho
    obtain ⟨x, l1, q, e1, e2, e3, e4⟩ := objT_get (objsT_get b6 p hp).2
    rw [hbwd _ _ e1] at hy
    obtain ⟨cs, e, fz, q1, q2, q3, q4, q5⟩ := R.ob x _ e2 b c n hy
    obtain ⟨r1, r2⟩ := turnVs_get e4
    refine ⟨cs, e, fz, q1, q2, q3, by omega, fun j vv hj => ?_⟩
    obtain ⟨aa, s1, s2⟩ := r2 j vv hj
    obtain ⟨uu, s3, s4⟩ := q5 j aa s1
    exact ⟨uu, s3, turnV_ok hren hE s2 s4⟩
  · intro y o ho
    obtain ⟨p, hp, rfl, rfl⟩ := hob y o ho
    exact (objsT_get b6 p hp).1
  · intro y o ho hw b c n hy
    obtain ⟨p, hp, rfl, rfl⟩ := hob y o ho
    obtain ⟨x, l1, q, e1, e2, e3, e4⟩ := objT_get (objsT_get b6 p hp).2
    rw [hbwd _ _ e1] at hy
    exact R.mine x _ e2 hw b c n hy
  · intro y z oy oz hy hz hne b c n c' n' e1 e2
    obtain ⟨p, hp, rfl, rfl⟩ := hob y oy hy
    obtain ⟨p', hp', rfl, rfl⟩ := hob z oz hz
    obtain ⟨x, l1, q, g1, g2, g3, g4⟩ := objT_get (objsT_get b6 p hp).2
    obtain ⟨x', l1', q', g1', g2', g3', g4'⟩ := objT_get (objsT_get b6 p' hp').2
    rw [hbwd _ _ g1] at e1
    rw [hbwd _ _ g1'] at e2
    have hxx : x ≠ x' := by
      rintro rfl
      have f1 := fwd_of_bwd I g1
      have f2 := fwd_of_bwd I g1'
      rw [f1] at f2
      exact hne (Option.some.inj f2)
    rcases R.sep x x' _ _ g2 g2' hxx b c n c' n' e1 e2 with qq | qq
    · have h2 := g3 x' _ qq (fwd_of_bwd I g1'); rw [obIn_mem hp'] at h2; cases h2
    · have h2 := g3' x _ qq (fwd_of_bwd I g1); rw [obIn_mem hp] at h2; cases h2
  · intro y o z hy hp
    obtain ⟨p, hp', rfl, rfl⟩ := hob y o hy
    cases hp
  · intro y o z hy hp
    obtain ⟨p, hp', rfl, rfl⟩ := hob y o hy
    cases hp
  · intro x p e
    rw [hold x (hW x p e)]; exact R.base x p e
  · intro x p e
    rw [hold x (hρ x p e)]; exact X.le x p e
  · intro x e hx
    rw [hold x (by rw [← hk]; exact hx)]; exact X.idle x e hx
  · rw [hk]; exact hkn
  · intro m hm v hv
    rcases stT_get (show get (bpOf m) (stT gt s.sl) = some v from hv) with ⟨p, hp, e1, rfl⟩ | e1
    · obtain ⟨c1, v1, e2, e3⟩ := slotsT_get b5 p hp
      have e4 := F.slot p.1 c1 v1 e2
      have : m = p.1 := bpOf_inj (by omega) (by omega) e1
      rw [this]
      exact turnV_ok hren hE e3 e4
    · rw [hgt.low m hm] at e1; cases e1
  · intro g v hv
    rcases stT_get (show get (bpOf (100000 + g)) (stT gt s.sl) = some v from hv) with ⟨p, hp, e1, rfl⟩ | e1
    · obtain ⟨c1, _⟩ := slotsT_get b5 p hp
      exfalso
      have h5 := bpOf_big (100000 + g)
      have h6 : bpN (bpOf p.1) = p.1 + 1 := by unfold bpOf; exact bpOf'_N 40 _ (by omega) (by omega)
      have h7 := congrArg bpN e1
      omega
    · exact VR.mono ν'' (fun x p e => by rw [hold x (hW x p e)]; exact R.base x p e) _ _ (hg2.glob g v e1)
  · intro m v hm hv
    rcases stT_get (show get (bpOf m) (stT gt s.sl) = some v from hv) with ⟨p, hp, e1, rfl⟩ | e1
    · obtain ⟨c1, v1, e2, e3⟩ := slotsT_get b5 p hp
      have : m = p.1 := bpOf_inj (by omega) (by omega) e1
      rw [this]
      exact F.ins p.1 v1 c1 e2
    · rw [hgt.low m hm] at e1; cases e1
end Ev
end Go.Proofs.YtoinghomkcjkcaaGreatDoor
