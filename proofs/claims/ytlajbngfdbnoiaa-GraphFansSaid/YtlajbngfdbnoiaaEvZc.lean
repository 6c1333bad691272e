/- Codes that call nothing, in a round of a range over a function. -/
import Derived.Test.YtlajbngfdbnoiaaEvZb
import Derived.OrdersIn
import Derived.LoopNIn
import Derived.TacticsIn
import Derived.RangeFuncLeaves
import Derived.RangeFuncSeq
import Derived.RangeFuncOwn
import Derived.RangeFuncFrom
namespace Go.Proofs.Ytlajbngfdbnoiaa
set_option linter.unusedSimpArgs false
set_option linter.unusedVariables false
set_option linter.constructorNameAsVariable false
open Go Go.RowKit
namespace Ev
/-- What comes of an operation that enters no function. -/
def Quits : Result Next → Prop
  | .ok (.enter _ _) _ => False
  | .ok (.row _ _) _ => False
  | .ok (.round ..) _ => False
  | _ => True
/-- Operations that enter no function. -/
def plainB (o : Oper) : Bool := match o.op with
  | .move _ | .assign _ | .load .. | .store .. | .fieldAddr .. | .indexAddr .. | .binOp .. | .pick .. | .buildSlice .. | .build .. | .alloc _ | .field .. | .index .. | .unOp .. => true
  | .call c => match c.callee with | .builtin .append => true | .builtin .len => true | _ => false
  | _ => false
section
variable {P : Program} {ops : Array Oper} {Q : Exit → Act → World → Prop} {F : Fence} {k : Nat}
theorem quits_v (m : Sem Value) (w : World) : Quits ((do let x ← m; pure (Next.value x) : Sem Next).run P w) := by
  simp only [Sem.run_bind]
  cases m.run P w <;> simp [Result.andThen, Quits, Sem.run_pure]
theorem quits_u (m : Sem Unit) (w : World) : Quits ((do m; pure Next.skip : Sem Next).run P w) := by
  simp only [Sem.run_bind]
  cases m.run P w <;> simp [Result.andThen, Quits, Sem.run_pure]
theorem quits_pick (m : Sem Bool) (f : Bool → Value) (w : World) : Quits ((do let x ← m; pure (Next.value (f x)) : Sem Next).run P w) := by
  simp only [Sem.run_bind]
  cases m.run P w <;> simp [Result.andThen, Quits, Sem.run_pure]
theorem quits_uv (m : Sem Unit) (m' : Sem Value) (w : World) : Quits ((do m; let x ← m'; pure (Next.value x) : Sem Next).run P w) := by
  simp only [Sem.run_bind]
  cases m.run P w with
  | ok x w' => simp only [Result.andThen]; cases m'.run P w' <;> simp [Quits, Sem.run_pure]
  | halt x w' => simp [Result.andThen, Quits]
theorem about_plain {o : Oper} (h : plainB o = true) (w : World) (ρ : Operand → Value) : o.about P w ρ = none := by
  unfold Oper.about
  unfold plainB at h
  cases ho : o.op <;> rw [ho] at h <;> first | rfl | (cases h; done) | skip
  rename_i c
  obtain ⟨callee, args, argTypes⟩ := c
  cases callee <;> first | (cases h; done) | skip
  simp [resolve, Sem.run_pure, Target.leads]
theorem quits_plain {o : Oper} (h : plainB o = true) (ρ : Operand → Value) (w : World) : Quits ((execOp ρ o).run P w) := by
  unfold plainB at h
  unfold execOp
  cases ho : o.op <;> rw [ho] at h <;> first | (cases h; done) | exact quits_v _ _ | exact quits_u _ _ | exact quits_pick _ _ _ | exact quits_uv _ _ _ | (simp [Sem.run_pure, Quits]; done) | skip
  rename_i c
  obtain ⟨callee, args, argTypes⟩ := c
  cases callee <;> first | (cases h; done) | skip
  simp only [resolve, invoke, Sem.run_bind, Sem.run_pure, Result.andThen_ok]
  rename_i b
  cases b <;> first | (cases h; done) | exact quits_v _ _ | skip
theorem no_defer {o : Oper} (h : plainB o = true) : ∀ c, o.op ≠ .defer c := fun c hc => by unfold plainB at h; rw [hc] at h; cases h
theorem in_of_plain {o : Oper} {a : Act} {w : World} {K : Act → World → Prop} (h : plainB o = true) (hw : o.wp P a w K Q) : o.wpIn F k P a w K Q := by
  unfold Oper.wpIn
  refine ⟨fun f hf => (by rw [about_plain h] at hf; cases hf), ?_⟩
  rw [Oper.semAt_eq _ _ _ (no_defer h)]
  unfold Oper.wp at hw
  have hq := quits_plain (P := P) h a.eval w
  generalize (execOp a.eval o).run P w = r at hw hq
  cases r with
  | ok x w' => cases x <;> first | exact hw | exact hq.elim
  | halt x w' => cases x <;> first | exact hw
theorem anyIn_of_any {md : Region.Mode} (hp : ∀ (i : Nat) (o : Oper), ops[i]? = some o → plainB o = true) (hQ : ¬ LetsOut Q) : ∀ (f : Nat) (listed : Array Bool) (a : Act) (w : World),
    wpAny P md ops Q f listed a w → wpAnyIn F k P md ops Q f listed a w
  | 0, _, _, _, h => h
  | f + 1, listed, a, w, h => by
    refine ⟨h.1, fun i hi => ?_⟩
    have h2 := h.2 i hi
    unfold wpOp at h2
    unfold wpOpIn
    cases ho : ops[i]? with
    | none => rw [ho] at h2; exact anyIn_of_any hp hQ f _ a w h2
    | some o =>
      rw [ho] at h2
      simp only [] at h2 ⊢
      split at h2
      · rename_i hw
        rw [if_pos hw]
        rcases h2 with h2 | ⟨_, h2⟩
        · exact in_of_plain (hp i o ho) (Oper.wp_mono (fun a w h3 => anyIn_of_any hp hQ f _ a w h3) h2)
        · exact (hQ h2).elim
      · rename_i hw
        rw [if_neg hw]
        exact ⟨fun f hf => (by rw [about_plain (hp i o ho)] at hf; cases hf), anyIn_of_any hp hQ f _ _ w h2⟩
theorem opsIn_of_ops (hp : ∀ (i : Nat) (o : Oper), ops[i]? = some o → plainB o = true) (hQ : ¬ LetsOut Q) : ∀ (l : List Nat) (a : Act) (w : World), wpOps P ops Q l a w → wpOpsIn F k P ops Q l a w
  | [], _, _, h => h
  | i :: l, a, w, h => by
    unfold wpOps at h
    unfold wpOpsIn
    cases ho : ops[i]? with
    | none => rw [ho] at h; exact opsIn_of_ops hp hQ l a w h
    | some o =>
      rw [ho] at h
      simp only [] at h ⊢
      split at h
      · rename_i hw
        rw [if_pos hw]
        rcases h with h2 | ⟨_, h2⟩
        · exact in_of_plain (hp i o ho) (Oper.wp_mono (fun a w h3 => opsIn_of_ops hp hQ l a w h3) h2)
        · exact (hQ h2).elim
      · rename_i hw
        rw [if_neg hw]
        exact ⟨fun f hf => (by rw [about_plain (hp i o ho)] at hf; cases hf), opsIn_of_ops hp hQ l _ w h⟩
theorem region_in {id : Nat} {draw : Bool} {a : Act} {w : World} (hm : P.follows .mixedOrders = true) (hp : ops.toList.all plainB = true) (hQ : ¬ LetsOut Q) (h : RegWp P ops draw Q a w) : (Code.region id ops draw).wpIn F k P Q a w := by
  have hp' : ∀ (i : Nat) (o : Oper), ops[i]? = some o → plainB o = true := fun i o ho => List.all_eq_true.1 hp o (List.mem_of_getElem? (by simpa using ho))
  cases draw with
  | false => exact wpIn_region (opsIn_of_ops hp' hQ _ _ _ h)
  | true => exact wpIn_region_any hm (anyIn_of_any hp' hQ _ _ _ _ h)
end
/-- codes that call nothing -/
def plainC : Code → Bool
  | .skip => true
  | .label _ => true
  | .region _ ops _ => ops.toList.all plainB
  | .seq a b => plainC a && plainC b
  | .cond _ a b => plainC a && plainC b
  | .block _ c => plainC c
  | .loop c => plainC c
  | .exit _ => true
  | .ret => true
  | _ => false
variable {Df : List Deferred}
variable {P : Program} {tt : TT} {ν : Nat → Int} {ρ : Pl} {a : Act} {en : En} {w : World} {o : Oper} {v : V} {t : Tr V} {nt : Nat} {ops : Array Oper} {call : Cl} {h0 : H} {C : Tr Unit} {W : Bas} {rn : Rn} {n : Nat} {F : Fence} {k : Nat}
theorem post_noOut {h : H} {X0 : X} : ¬ LetsOut (Post Df ν W C nt h ρ X0) := by
  rintro ⟨a, w, hp⟩
  cases X0 <;> exact hp
theorem fs_in (hT : TTok P tt) (he : EnOk ν en) (hmo : P.follows .mixedOrders = true) (hcall : CallOk P ν W call) (hm : MtsOk P en.mts) {C : Tr Unit} {nt : Nat} (hnt : nt ≤ 100000) : ∀ (c : Code), plainC c = true → ∀ (t : Tr V) (h : H) (X0 : X) (ρ : Pl) (a : Act) (w : World),
    FS en call n (trC tt nt C c) t h = X0 → (∀ n, X0 ≠ .bad n) → Rel ν W ρ h w → FrC Df ν C ρ nt t a → c.wpIn F k P (Post Df ν W C nt h ρ X0) a w := by
  intro c
  induction c with
  | skip => intro hpl t h X0 ρ a w hX hb R F; rw [← show X.nm t h = X0 from hX]; exact wpIn_skip ⟨ρ, R, Ext.refl _ _, F⟩
  | label l => intro hpl t h X0 ρ a w hX hb R F; rw [← show X.nm t h = X0 from hX]; exact wpIn_label ⟨ρ, R, Ext.refl _ _, F⟩
  | exit id => intro hpl t h X0 ρ a w hX hb R F; rw [← show X.ex id t h = X0 from hX]; exact wpIn_exit ⟨rfl, ρ, R, Ext.refl _ _, F⟩
  | ret => intro hpl t h X0 ρ a w hX hb R F; rw [← show X.rt t h = X0 from hX]; exact wpIn_ret ⟨ρ, R, Ext.refl _ _, F⟩
  | region id ops draw =>
    intro hpl t h X0 ρ a w hX hb R F
    change FS en call n (trReg tt nt C ops.toList draw) t h = X0 at hX
    rcases trReg_cases (tt := tt) (nt := nt) (C := C) ops.toList draw with htr | ⟨its, cm, htr⟩
    · rw [htr] at hX
      exact absurd (show X.bad 132 = X0 from hX).symm (hb _)
    · rw [htr] at hX
      obtain ⟨l, h', h1, h2⟩ := rr_ne (show rr (runIts en call t its [] h) X.bad (fun r h => X.nm (commit r cm t) h) = X0 from hX) (fun n e => hb n e.symm)
      refine region_in hmo hpl post_noOut (region_wps hT he hcall hm hnt htr h1 R F (fun ρ' a' w' R' E' F' => ?_))
      rw [← h2]
      exact ⟨ρ', R', E', F'⟩
  | seq x y ihx ihy =>
    intro hpl t h X0 ρ a w hX hb R F
    obtain ⟨hpx, hpy⟩ := Bool.and_eq_true_iff.1 (show (plainC x && plainC y) = true from hpl)
    have hX' : again (FS en call n (trC tt nt C x) t h) (FS en call n (trC tt nt C y)) = X0 := hX
    refine wpIn_seq ?_
    cases hx : FS en call n (trC tt nt C x) t h with
    | bad n => rw [hx] at hX'; exact absurd hX'.symm (hb n)
    | nm t1 h1 =>
      rw [hx] at hX'
      refine wpIn_mono (ihx hpx t h _ ρ a w hx (by simp) R F) (fun e a1 w1 hp => ?_)
      cases e <;> first | exact hp.elim | skip
      obtain ⟨ρ1, R1, E1, F1⟩ := hp
      exact wpIn_mono (ihy hpy t1 h1 X0 ρ1 a1 w1 hX' hb R1 F1) (Post.mono E1)
    | ex i t1 h1 =>
      rw [hx] at hX'
      refine wpIn_mono (ihx hpx t h _ ρ a w hx (by simp) R F) (fun e a1 w1 hp => ?_)
      cases e <;> first | exact hp.elim | skip
      rw [← show X.ex i t1 h1 = X0 from hX']; exact hp
    | rt t1 h1 =>
      rw [hx] at hX'
      refine wpIn_mono (ihx hpx t h _ ρ a w hx (by simp) R F) (fun e a1 w1 hp => ?_)
      cases e <;> first | exact hp.elim | skip
      rw [← show X.rt t1 h1 = X0 from hX']; exact hp
  | cond c x y ihx ihy =>
    intro hpl t h X0 ρ a w hX hb R F
    obtain ⟨hpx, hpy⟩ := Bool.and_eq_true_iff.1 (show (plainC x && plainC y) = true from hpl)
    change FS en call n (match trSrc [] c with | some s => C2.cond s (trC tt nt C x) (trC tt nt C y) | none => .bad 130) t h = X0 at hX
    cases hs : trSrc [] c with
    | none => rw [hs] at hX; exact absurd (show X.bad 130 = X0 from hX).symm (hb _)
    | some s =>
      rw [hs] at hX
      have hv := Cur.val F.toFrR hs
      have hX' : onB (src [] t s) (X.bad 86) (fun b => bcase b (FS en call n (trC tt nt C y) t h) (FS en call n (trC tt nt C x) t h)) = X0 := hX
      obtain ⟨b, hb1, hX2⟩ := onB_ne hX' (fun e => hb _ e.symm)
      rw [hb1] at hv
      simp only [VR] at hv
      refine wpIn_cond hv ?_
      cases b with
      | true => exact ihx hpx t h X0 ρ a w hX2 hb R F
      | false => exact ihy hpy t h X0 ρ a w hX2 hb R F
  | block id c ih =>
    intro hpl t h X0 ρ a w hX hb R F
    have hX' : blockK (FS en call n (trC tt nt C c) t h) id = X0 := hX
    refine wpIn_block ?_
    cases hx : FS en call n (trC tt nt C c) t h with
    | bad n => rw [hx] at hX'; exact absurd hX'.symm (hb n)
    | nm t1 h1 =>
      rw [hx] at hX'
      refine wpIn_mono (ih hpl t h _ ρ a w hx (by simp) R F) (fun e a1 w1 hp => ?_)
      cases e <;> first | exact hp.elim | skip
      rw [← show X.nm t1 h1 = X0 from hX']; exact hp
    | ex i t1 h1 =>
      rw [hx] at hX'
      refine wpIn_mono (ih hpl t h _ ρ a w hx (by simp) R F) (fun e a1 w1 hp => ?_)
      cases e <;> first | exact hp.elim | skip
      rename_i j
      obtain ⟨hij, hp⟩ := hp
      have hX2 : bcase (Nat.beq i id) (X.ex i t1 h1) (X.nm t1 h1) = X0 := hX'
      simp only [Exit.inBlock]
      split
      · rename_i e
        rw [hij, e, Nat.beq_refl] at hX2
        rw [← show X.nm t1 h1 = X0 from hX2]; exact hp
      · rename_i e
        rw [show Nat.beq i id = false from Bool.eq_false_iff.2 fun h => e (hij ▸ Nat.eq_of_beq_eq_true h)] at hX2
        rw [← show X.ex i t1 h1 = X0 from hX2]; exact ⟨hij, hp⟩
    | rt t1 h1 =>
      rw [hx] at hX'
      refine wpIn_mono (ih hpl t h _ ρ a w hx (by simp) R F) (fun e a1 w1 hp => ?_)
      cases e <;> first | exact hp.elim | skip
      rw [← show X.rt t1 h1 = X0 from hX']; exact hp
  | loop c ih =>
    intro hpl
    have main : ∀ (m : Nat) (t : Tr V) (h : H) (X0 : X) (ρ : Pl) (a : Act) (w : World), fsLoop (FS en call n (trC tt nt C c)) m t h = X0 → (∀ n, X0 ≠ .bad n) → Rel ν W ρ h w → FrC Df ν C ρ nt t a → ∀ (Q : Exit → Act → World → Prop), (∀ e a w, Post Df ν W C nt h ρ X0 e a w → Q e a w) → Code.roundsIn F k P c Q m a w := by
      intro m
      induction m with
      | zero => intro t h X0 ρ a w hX hb R F Q hQ; exact absurd (show X.bad 87 = X0 from hX).symm (hb _)
      | succ m ihm =>
        intro t h X0 ρ a w hX hb R F Q hQ
        have hX' : again (FS en call n (trC tt nt C c) t h) (fsLoop (FS en call n (trC tt nt C c)) m) = X0 := hX
        rw [roundsIn_succ]
        cases hx : FS en call n (trC tt nt C c) t h with
        | bad n => rw [hx] at hX'; exact absurd hX'.symm (hb n)
        | nm t1 h1 =>
          rw [hx] at hX'
          refine wpIn_mono (ih hpl t h _ ρ a w hx (by simp) R F) (fun e a1 w1 hp => ?_)
          cases e <;> first | exact hp.elim | skip
          obtain ⟨ρ1, R1, E1, F1⟩ := hp
          exact ihm t1 h1 X0 ρ1 a1 w1 hX' hb R1 F1 Q (fun e a w hp => hQ e a w (Post.mono E1 e a w hp))
        | ex i t1 h1 =>
          rw [hx] at hX'
          refine wpIn_mono (ih hpl t h _ ρ a w hx (by simp) R F) (fun e a1 w1 hp => ?_)
          cases e <;> first | exact hp.elim | skip
          refine hQ _ _ _ ?_
          rw [← show X.ex i t1 h1 = X0 from hX']; exact hp
        | rt t1 h1 =>
          rw [hx] at hX'
          refine wpIn_mono (ih hpl t h _ ρ a w hx (by simp) R F) (fun e a1 w1 hp => ?_)
          cases e <;> first | exact hp.elim | skip
          refine hQ _ _ _ ?_
          rw [← show X.rt t1 h1 = X0 from hX']; exact hp
    intro t h X0 ρ a w hX hb R F
    exact wpIn_loop_rounds n (main n t h X0 ρ a w hX hb R F _ (fun _ _ _ h => h))
  | _ => intro hpl; cases hpl
end Ev
end Go.Proofs.Ytlajbngfdbnoiaa
