/- Runs and calls. -/
import Derived.Test.YtlajbngfdbnoiaaEvF
namespace Go.Proofs.Ytlajbngfdbnoiaa
set_option linter.unusedSimpArgs false
set_option linter.unusedVariables false
set_option linter.constructorNameAsVariable false
open Go Go.RowKit
namespace Ev
variable {Df : List Deferred}
variable {P : Program} {tt : TT} {ν : Nat → Int} {ρ : Pl} {a : Act} {en : En} {w : World} {o : Oper} {v : V} {t : Tr V} {nt : Nat} {ops : Array Oper} {call : Nat → List V → H → R1} {h0 : H} {C : Tr Unit} {W : Bas} {rn : Rn}
theorem rr_ne {β : Type} {x : RR} {g : Nat → β} {f : List V → H → β} {r : β} (h : rr x g f = r) (hg : ∀ n, g n ≠ r) : ∃ l h', x = .ok l h' ∧ f l h' = r := by
  cases x with
  | bad n => exact absurd h (hg n)
  | ok l h' => exact ⟨l, h', rfl, h⟩
theorem Cur.val (F : FrR Df ν ρ nt t a) {x : Operand} {s : Src} (hs : trSrc [] x = some s) : VR ν ρ (src [] t s) (a.eval x) :=
  (Cur.start (ops := #[]) F).opR [x] x (List.mem_singleton.2 rfl) s hs
theorem cond_cases {α : Type} (b : Bool) (x y : α) : cond b x y = y ∨ cond b x y = x := by cases b <;> simp
theorem trReg_cases (l : List Oper) (draw : Bool) : trReg tt nt C l draw = .bad 132 ∨ ∃ its cm, trReg tt nt C l draw = .reg its cm := by
  unfold trReg
  rcases cond_cases _ _ _ with h | h
  · exact .inl h
  · exact .inr ⟨_, _, h⟩
theorem step_run (hT : TTok P tt) (he : EnOk ν en) (hmo : P.follows .mixedOrders = true) (hcall : CallOk P ν W (callBy en rn)) (hm : MtsOk P en.mts) (hr : RunOk P tt ν W rn) : RunOk P tt ν W (fun c => step c en rn) := by
  intro Df C nt hnt c t h X0 ρ a w hX hb R F
  have norm : ∀ {e : Exit}, e = .normal → X0 = .nm t h → Post Df ν W C nt h ρ X0 e a w := fun he hX => by rw [he, hX]; exact ⟨ρ, R, Ext.refl _ _, F⟩
  cases c with
  | skip => exact wp_skip (norm rfl hX.symm)
  | label l => exact wp_label (norm rfl hX.symm)
  | exit id =>
    refine wp_exit ?_
    rw [← show X.ex id t h = X0 from hX]
    exact ⟨rfl, ρ, R, Ext.refl _ _, F⟩
  | ret =>
    refine wp_ret ?_
    rw [← show X.rt t h = X0 from hX]
    exact ⟨ρ, R, Ext.refl _ _, F⟩
  | region id ops draw =>
    change step (trReg tt nt C ops.toList draw) en rn t h = X0 at hX
    rcases trReg_cases (tt := tt) (nt := nt) (C := C) ops.toList draw with htr | ⟨its, cm, htr⟩
    · rw [htr] at hX
      exact absurd (show X.bad 132 = X0 from hX).symm (hb _)
    · rw [htr] at hX
      obtain ⟨l, h', h1, h2⟩ := rr_ne (show rr (runIts en (callBy en rn) t its [] h) X.bad (fun r h => X.nm (commit r cm t) h) = X0 from hX) (fun n e => hb n e.symm)
      refine region_sound hT he hmo hcall hm hnt htr h1 R F (fun ρ' a' w' R' E' F' => ?_)
      rw [← h2]
      exact ⟨ρ', R', E', F'⟩
  | seq x y =>
    have hX' : seqK (rn (trC tt nt C x) t h) (trC tt nt C y) rn = X0 := hX
    refine wp_seq ?_
    cases hx : rn (trC tt nt C x) t h with
    | bad n => rw [hx] at hX'; exact absurd hX'.symm (hb n)
    | nm t1 h1 =>
      rw [hx] at hX'
      refine wp_mono (hr Df C nt hnt x t h _ ρ a w hx (by simp) R F).wp (fun e a1 w1 hp => ?_)
      cases e <;> first | exact hp.elim | skip
      obtain ⟨ρ1, R1, E1, F1⟩ := hp
      exact wp_mono (hr Df C nt hnt y t1 h1 X0 ρ1 a1 w1 hX' hb R1 F1).wp (Post.mono E1)
    | ex i t1 h1 =>
      rw [hx] at hX'
      refine wp_mono (hr Df C nt hnt x t h _ ρ a w hx (by simp) R F).wp (fun e a1 w1 hp => ?_)
      cases e <;> first | exact hp.elim | skip
      rw [← show X.ex i t1 h1 = X0 from hX']; exact hp
    | rt t1 h1 =>
      rw [hx] at hX'
      refine wp_mono (hr Df C nt hnt x t h _ ρ a w hx (by simp) R F).wp (fun e a1 w1 hp => ?_)
      cases e <;> first | exact hp.elim | skip
      rw [← show X.rt t1 h1 = X0 from hX']; exact hp
  | cond c x y =>
    change step (match trSrc [] c with | some s => C2.cond s (trC tt nt C x) (trC tt nt C y) | none => .bad 130) en rn t h = X0 at hX
    cases hs : trSrc [] c with
    | none => rw [hs] at hX; exact absurd (show X.bad 130 = X0 from hX).symm (hb _)
    | some s =>
      rw [hs] at hX
      have hv := Cur.val F.toFrR hs
      have hX' : onB (src [] t s) (X.bad 86) (fun b => bcase b (rn (trC tt nt C y) t h) (rn (trC tt nt C x) t h)) = X0 := hX
      obtain ⟨b, hb1, hX2⟩ := onB_ne hX' (fun e => hb _ e.symm)
      rw [hb1] at hv
      simp only [VR] at hv
      refine wp_cond hv ?_
      cases b with
      | true => exact (hr Df C nt hnt x t h X0 ρ a w hX2 hb R F).wp
      | false => exact (hr Df C nt hnt y t h X0 ρ a w hX2 hb R F).wp
  | block id c =>
    have hX' : blockK (rn (trC tt nt C c) t h) id = X0 := hX
    refine wp_block ?_
    cases hx : rn (trC tt nt C c) t h with
    | bad n => rw [hx] at hX'; exact absurd hX'.symm (hb n)
    | nm t1 h1 =>
      rw [hx] at hX'
      refine wp_mono (hr Df C nt hnt c t h _ ρ a w hx (by simp) R F).wp (fun e a1 w1 hp => ?_)
      cases e <;> first | exact hp.elim | skip
      rw [← show X.nm t1 h1 = X0 from hX']; exact hp
    | ex i t1 h1 =>
      rw [hx] at hX'
      refine wp_mono (hr Df C nt hnt c t h _ ρ a w hx (by simp) R F).wp (fun e a1 w1 hp => ?_)
      cases e <;> first | exact hp.elim | skip
      rename_i j
      obtain ⟨hij, hp⟩ := hp
      have hX2 : bcase (Nat.beq i id) (X.ex i t1 h1) (X.nm t1 h1) = X0 := hX'
      simp only [Exit.inBlock]
      split
      · rename_i e
        rw [hij, e, Nat.beq_refl] at hX2
        rw [← show X.nm t1 h1 = X0 from hX2]; exact hp
      · rename_i e
        rw [show Nat.beq i id = false from Bool.eq_false_iff.2 fun h => e (hij ▸ Nat.eq_of_beq_eq_true h)] at hX2
        rw [← show X.ex i t1 h1 = X0 from hX2]; exact ⟨hij, hp⟩
    | rt t1 h1 =>
      rw [hx] at hX'
      refine wp_mono (hr Df C nt hnt c t h _ ρ a w hx (by simp) R F).wp (fun e a1 w1 hp => ?_)
      cases e <;> first | exact hp.elim | skip
      rw [← show X.rt t1 h1 = X0 from hX']; exact hp
  | loop c =>
    have hX' : seqK (rn (trC tt nt C c) t h) (trC tt nt C (.loop c)) rn = X0 := hX
    refine LoopWp.round ?_
    cases hx : rn (trC tt nt C c) t h with
    | bad n => rw [hx] at hX'; exact absurd hX'.symm (hb n)
    | nm t1 h1 =>
      rw [hx] at hX'
      refine wp_mono (hr Df C nt hnt c t h _ ρ a w hx (by simp) R F).wp (fun e a1 w1 hp => ?_)
      cases e <;> first | exact hp.elim | skip
      obtain ⟨ρ1, R1, E1, F1⟩ := hp
      exact WP_mono (c := .loop c) (hr Df C nt hnt (.loop c) t1 h1 X0 ρ1 a1 w1 hX' hb R1 F1) (Post.mono E1)
    | ex i t1 h1 =>
      rw [hx] at hX'
      refine wp_mono (hr Df C nt hnt c t h _ ρ a w hx (by simp) R F).wp (fun e a1 w1 hp => ?_)
      cases e <;> first | exact hp.elim | skip
      rw [← show X.ex i t1 h1 = X0 from hX']; exact hp
    | rt t1 h1 =>
      rw [hx] at hX'
      refine wp_mono (hr Df C nt hnt c t h _ ρ a w hx (by simp) R F).wp (fun e a1 w1 hp => ?_)
      cases e <;> first | exact hp.elim | skip
      rw [← show X.rt t1 h1 = X0 from hX']; exact hp
  | _ => exact absurd (show X.bad 131 = X0 from hX).symm (hb _)
end Ev
end Go.Proofs.Ytlajbngfdbnoiaa
