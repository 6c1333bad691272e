/- The small machine's codes, run as a whole: first plainly, then as functions made once of the code. -/
import Derived.Test.YtlajbngfdbnoiaaEvJ
namespace Go.Proofs.Ytlajbngfdbnoiaa
set_option linter.unusedSimpArgs false
set_option linter.unusedVariables false
set_option linter.constructorNameAsVariable false
open Go Go.RowKit
namespace Ev
abbrev Cl := Nat → List V → H → R1
noncomputable section
def again : X → (Tr V → H → X) → X := X.rec (fun t h k => k t h) (fun i t h _ => X.ex i t h) (fun t h _ => X.rt t h) (fun w _ => X.bad w)
def fsLoop (b : Tr V → H → X) : Nat → Tr V → H → X := Nat.rec (fun _ _ => X.bad 87) (fun _ ih t h => again (b t h) ih)
/-- A code's run: calls by 'call', loops of at most n turns. -/
def FS (en : En) (call : Cl) (n : Nat) : C2 → Tr V → H → X := C2.rec (fun t h => X.nm t h) (fun its cm t h => rr (runIts en call t its [] h) X.bad (fun r h => X.nm (commit r cm t) h)) (fun _ _ ia ib t h => again (ia t h) ib)
  (fun s _ _ ia ib t h => onB (src [] t s) (X.bad 86) (fun x => bcase x (ib t h) (ia t h))) (fun id _ ic t h => blockK (ic t h) id) (fun _ ib t h => fsLoop ib n t h) (fun id t h => X.ex id t h) (fun t h => X.rt t h) (fun w _ _ => X.bad w)
end
variable {Df : List Deferred}
variable {P : Program} {tt : TT} {ν : Nat → Int} {ρ : Pl} {a : Act} {en : En} {w : World} {o : Oper} {v : V} {t : Tr V} {nt : Nat} {ops : Array Oper} {call : Cl} {h0 : H} {C : Tr Unit} {W : Bas} {rn : Rn} {n : Nat}
theorem fs_sound (hT : TTok P tt) (he : EnOk ν en) (hmo : P.follows .mixedOrders = true) (hcall : CallOk P ν W call) (hm : MtsOk P en.mts) {C : Tr Unit} {nt : Nat} (hnt : nt ≤ 100000) : ∀ (c : Code) (t : Tr V) (h : H) (X0 : X) (ρ : Pl) (a : Act) (w : World),
    FS en call n (trC tt nt C c) t h = X0 → (∀ n, X0 ≠ .bad n) → Rel ν W ρ h w → FrC Df ν C ρ nt t a → c.wp P (Post Df ν W C nt h ρ X0) a w := by
  intro c
  induction c with
  | skip => intro t h X0 ρ a w hX hb R F; rw [← show X.nm t h = X0 from hX]; exact wp_skip ⟨ρ, R, Ext.refl _ _, F⟩
  | label l => intro t h X0 ρ a w hX hb R F; rw [← show X.nm t h = X0 from hX]; exact wp_label ⟨ρ, R, Ext.refl _ _, F⟩
  | exit id => intro t h X0 ρ a w hX hb R F; rw [← show X.ex id t h = X0 from hX]; exact wp_exit ⟨rfl, ρ, R, Ext.refl _ _, F⟩
  | ret => intro t h X0 ρ a w hX hb R F; rw [← show X.rt t h = X0 from hX]; exact wp_ret ⟨ρ, R, Ext.refl _ _, F⟩
  | region id ops draw =>
    intro t h X0 ρ a w hX hb R F
    change FS en call n (trReg tt nt C ops.toList draw) t h = X0 at hX
    rcases trReg_cases (tt := tt) (nt := nt) (C := C) ops.toList draw with htr | ⟨its, cm, htr⟩
    · rw [htr] at hX
      exact absurd (show X.bad 132 = X0 from hX).symm (hb _)
    · rw [htr] at hX
      obtain ⟨l, h', h1, h2⟩ := rr_ne (show rr (runIts en call t its [] h) X.bad (fun r h => X.nm (commit r cm t) h) = X0 from hX) (fun n e => hb n e.symm)
      refine region_sound hT he hmo hcall hm hnt htr h1 R F (fun ρ' a' w' R' E' F' => ?_)
      rw [← h2]
      exact ⟨ρ', R', E', F'⟩
  | seq x y ihx ihy =>
    intro t h X0 ρ a w hX hb R F
    have hX' : again (FS en call n (trC tt nt C x) t h) (FS en call n (trC tt nt C y)) = X0 := hX
    refine wp_seq ?_
    cases hx : FS en call n (trC tt nt C x) t h with
    | bad n => rw [hx] at hX'; exact absurd hX'.symm (hb n)
    | nm t1 h1 =>
      rw [hx] at hX'
      refine wp_mono (ihx t h _ ρ a w hx (by simp) R F) (fun e a1 w1 hp => ?_)
      cases e <;> first | exact hp.elim | skip
      obtain ⟨ρ1, R1, E1, F1⟩ := hp
      exact wp_mono (ihy t1 h1 X0 ρ1 a1 w1 hX' hb R1 F1) (Post.mono E1)
    | ex i t1 h1 =>
      rw [hx] at hX'
      refine wp_mono (ihx t h _ ρ a w hx (by simp) R F) (fun e a1 w1 hp => ?_)
      cases e <;> first | exact hp.elim | skip
      rw [← show X.ex i t1 h1 = X0 from hX']; exact hp
    | rt t1 h1 =>
      rw [hx] at hX'
      refine wp_mono (ihx t h _ ρ a w hx (by simp) R F) (fun e a1 w1 hp => ?_)
      cases e <;> first | exact hp.elim | skip
      rw [← show X.rt t1 h1 = X0 from hX']; exact hp
  | cond c x y ihx ihy =>
    intro t h X0 ρ a w hX hb R F
    change FS en call n (match trSrc [] c with | some s => C2.cond s (trC tt nt C x) (trC tt nt C y) | none => .bad 130) t h = X0 at hX
    cases hs : trSrc [] c with
    | none => rw [hs] at hX; exact absurd (show X.bad 130 = X0 from hX).symm (hb _)
    | some s =>
      rw [hs] at hX
      have hv := Cur.val F.toFrR hs
      have hX' : onB (src [] t s) (X.bad 86) (fun b => bcase b (FS en call n (trC tt nt C y) t h) (FS en call n (trC tt nt C x) t h)) = X0 := hX
      obtain ⟨b, hb1, hX2⟩ := onB_ne hX' (fun e => hb _ e.symm)
      rw [hb1] at hv
      simp only [VR] at hv
      refine wp_cond hv ?_
      cases b with
      | true => exact ihx t h X0 ρ a w hX2 hb R F
      | false => exact ihy t h X0 ρ a w hX2 hb R F
  | block id c ih =>
    intro t h X0 ρ a w hX hb R F
    have hX' : blockK (FS en call n (trC tt nt C c) t h) id = X0 := hX
    refine wp_block ?_
    cases hx : FS en call n (trC tt nt C c) t h with
    | bad n => rw [hx] at hX'; exact absurd hX'.symm (hb n)
    | nm t1 h1 =>
      rw [hx] at hX'
      refine wp_mono (ih t h _ ρ a w hx (by simp) R F) (fun e a1 w1 hp => ?_)
      cases e <;> first | exact hp.elim | skip
      rw [← show X.nm t1 h1 = X0 from hX']; exact hp
    | ex i t1 h1 =>
      rw [hx] at hX'
      refine wp_mono (ih t h _ ρ a w hx (by simp) R F) (fun e a1 w1 hp => ?_)
      cases e <;> first | exact hp.elim | skip
      rename_i j
      obtain ⟨hij, hp⟩ := hp
      have hX2 : bcase (Nat.beq i id) (X.ex i t1 h1) (X.nm t1 h1) = X0 := hX'
      simp only [Exit.inBlock]
      split
      · rename_i e
        rw [hij, e, Nat.beq_refl] at hX2
        rw [← show X.nm t1 h1 = X0 from hX2]; exact hp
      · rename_i e
        rw [show Nat.beq i id = false from Bool.eq_false_iff.2 fun h => e (hij ▸ Nat.eq_of_beq_eq_true h)] at hX2
        rw [← show X.ex i t1 h1 = X0 from hX2]; exact ⟨hij, hp⟩
    | rt t1 h1 =>
      rw [hx] at hX'
      refine wp_mono (ih t h _ ρ a w hx (by simp) R F) (fun e a1 w1 hp => ?_)
      cases e <;> first | exact hp.elim | skip
      rw [← show X.rt t1 h1 = X0 from hX']; exact hp
  | loop c ih =>
    have main : ∀ (m : Nat) (t : Tr V) (h : H) (X0 : X) (ρ : Pl) (a : Act) (w : World), fsLoop (FS en call n (trC tt nt C c)) m t h = X0 → (∀ n, X0 ≠ .bad n) → Rel ν W ρ h w → FrC Df ν C ρ nt t a → LoopWp P c (Post Df ν W C nt h ρ X0) a w := by
      intro m
      induction m with
      | zero => intro t h X0 ρ a w hX hb R F; exact absurd (show X.bad 87 = X0 from hX).symm (hb _)
      | succ m ihm =>
        intro t h X0 ρ a w hX hb R F
        have hX' : again (FS en call n (trC tt nt C c) t h) (fsLoop (FS en call n (trC tt nt C c)) m) = X0 := hX
        refine LoopWp.round ?_
        cases hx : FS en call n (trC tt nt C c) t h with
        | bad n => rw [hx] at hX'; exact absurd hX'.symm (hb n)
        | nm t1 h1 =>
          rw [hx] at hX'
          refine wp_mono (ih t h _ ρ a w hx (by simp) R F) (fun e a1 w1 hp => ?_)
          cases e <;> first | exact hp.elim | skip
          obtain ⟨ρ1, R1, E1, F1⟩ := hp
          exact WP_mono (c := .loop c) (ihm t1 h1 X0 ρ1 a1 w1 hX' hb R1 F1) (Post.mono E1)
        | ex i t1 h1 =>
          rw [hx] at hX'
          refine wp_mono (ih t h _ ρ a w hx (by simp) R F) (fun e a1 w1 hp => ?_)
          cases e <;> first | exact hp.elim | skip
          rw [← show X.ex i t1 h1 = X0 from hX']; exact hp
        | rt t1 h1 =>
          rw [hx] at hX'
          refine wp_mono (ih t h _ ρ a w hx (by simp) R F) (fun e a1 w1 hp => ?_)
          cases e <;> first | exact hp.elim | skip
          rw [← show X.rt t1 h1 = X0 from hX']; exact hp
    intro t h X0 ρ a w hX hb R F
    exact (main n t h X0 ρ a w hX hb R F).wp
  | _ => intro t h X0 ρ a w hX hb R F; exact absurd (show X.bad 131 = X0 from hX).symm (hb _)
end Ev
end Go.Proofs.Ytlajbngfdbnoiaa
