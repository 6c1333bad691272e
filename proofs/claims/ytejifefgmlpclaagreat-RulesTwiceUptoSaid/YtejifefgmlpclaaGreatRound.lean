/- A region that draws its order, in a round of a range over a function: where none of its operations calls a Go function or defers, it is walked as outside a round. -/
import Derived.Test.YtejifefgmlpclaaGreatOrd
import Derived.OrdersIn
import Derived.TacticsIn
set_option linter.unusedSimpArgs false
set_option linter.unusedVariables false
namespace Go.Proofs.YtejifefgmlpclaaGreat.Ord
open Go

/-- What comes of an operation that enters no function. -/
def Quits : Result Next → Prop
  | .ok (.enter _ _) _ => False
  | .ok (.row _ _) _ => False
  | .ok (.round ..) _ => False
  | _ => True
/-- Operations that enter no function. -/
def plainB (o : Oper) : Bool := match o.op with
  | .move _ | .assign _ | .load .. | .store .. | .fieldAddr .. | .indexAddr .. | .binOp .. | .pick .. | .buildSlice .. | .build .. => true
  | .call c => match c.callee with | .builtin .append => true | .builtin .len => true | _ => false
  | _ => false
section
variable {P : Program} {ops : Array Oper} {Q : Exit → Act → World → Prop} {F : Fence} {k : Nat}
theorem quits_v (m : Sem Value) (w : World) : Quits ((do let x ← m; pure (Next.value x) : Sem Next).run P w) := by
  simp only [Sem.run_bind]
  cases m.run P w <;> simp [Result.andThen, Quits, Sem.run_pure]
theorem quits_u (m : Sem Unit) (w : World) : Quits ((do m; pure Next.skip : Sem Next).run P w) := by
  simp only [Sem.run_bind]
  cases m.run P w <;> simp [Result.andThen, Quits, Sem.run_pure]
theorem quits_pick (m : Sem Bool) (f : Bool → Value) (w : World) : Quits ((do let x ← m; pure (Next.value (f x)) : Sem Next).run P w) := by
  simp only [Sem.run_bind]
  cases m.run P w <;> simp [Result.andThen, Quits, Sem.run_pure]
theorem about_plain {o : Oper} (h : plainB o = true) (w : World) (ρ : Operand → Value) : o.about P w ρ = none := by
  unfold Oper.about
  unfold plainB at h
  cases ho : o.op <;> rw [ho] at h <;> first | rfl | (cases h; done) | skip
  rename_i c
  obtain ⟨callee, args, argTypes⟩ := c
  cases callee <;> first | (cases h; done) | skip
  simp [resolve, Sem.run_pure, Target.leads]
theorem quits_plain {o : Oper} (h : plainB o = true) (ρ : Operand → Value) (w : World) : Quits ((execOp ρ o).run P w) := by
  unfold plainB at h
  unfold execOp
  cases ho : o.op <;> rw [ho] at h <;> first | (cases h; done) | exact quits_v _ _ | exact quits_u _ _ | exact quits_pick _ _ _ | (simp [Sem.run_pure, Quits]; done) | skip
  rename_i c
  obtain ⟨callee, args, argTypes⟩ := c
  cases callee <;> first | (cases h; done) | skip
  simp only [resolve, invoke, Sem.run_bind, Sem.run_pure, Result.andThen_ok]
  rename_i b
  cases b <;> first | (cases h; done) | exact quits_v _ _ | skip
theorem no_defer {o : Oper} (h : plainB o = true) : ∀ c, o.op ≠ .defer c := fun c hc => by unfold plainB at h; rw [hc] at h; cases h
theorem in_of_plain {o : Oper} {a : Act} {w : World} {K : Act → World → Prop} (h : plainB o = true) (hw : o.wp P a w K Q) : o.wpIn F k P a w K Q := by
  unfold Oper.wpIn
  refine ⟨fun f hf => (by rw [about_plain h] at hf; cases hf), ?_⟩
  rw [Oper.semAt_eq _ _ _ (no_defer h)]
  unfold Oper.wp at hw
  have hq := quits_plain (P := P) h a.eval w
  generalize (execOp a.eval o).run P w = r at hw hq
  cases r with
  | ok x w' => cases x <;> first | exact hw | exact hq.elim
  | halt x w' => cases x <;> first | exact hw
theorem anyIn_of_any {md : Region.Mode} (hp : ∀ (i : Nat) (o : Oper), ops[i]? = some o → plainB o = true) (hQ : ¬ LetsOut Q) : ∀ (f : Nat) (listed : Array Bool) (a : Act) (w : World),
    wpAny P md ops Q f listed a w → wpAnyIn F k P md ops Q f listed a w
  | 0, _, _, _, h => h
  | f + 1, listed, a, w, h => by
    refine ⟨h.1, fun i hi => ?_⟩
    have h2 := h.2 i hi
    unfold wpOp at h2
    unfold wpOpIn
    cases ho : ops[i]? with
    | none => rw [ho] at h2; exact anyIn_of_any hp hQ f _ a w h2
    | some o =>
      rw [ho] at h2
      simp only [] at h2 ⊢
      split at h2
      · rename_i hw
        rw [if_pos hw]
        rcases h2 with h2 | ⟨_, h2⟩
        · exact in_of_plain (hp i o ho) (Oper.wp_mono (fun a w h3 => anyIn_of_any hp hQ f _ a w h3) h2)
        · exact (hQ h2).elim
      · rename_i hw
        rw [if_neg hw]
        exact ⟨fun f hf => (by rw [about_plain (hp i o ho)] at hf; cases hf), anyIn_of_any hp hQ f _ _ w h2⟩

theorem wpIn_region_walk {id : Nat} {a : Act} {w : World} (S : World → Prop) (n : Nat) (l : List (Bool × Nat)) (hm : P.follows .mixedOrders = true) (hB : regionB ops n l = true) (hp : ops.toList.all plainB = true) (hQ : ∀ c (a : Act) d v w, Q (.panic c) (a.put d v) w → Q (.panic c) a w) (hL : ¬ LetsOut Q) (hS : S w.drew)
    (h : wpWalk P ops Q S n l a w.drew) : (Code.region id ops true).wpIn F k P Q a w := by
  simp only [regionB, Bool.and_eq_true, decide_eq_true_eq] at hB
  obtain ⟨⟨⟨⟨⟨hsel, hn⟩, hs⟩, hc⟩, hl⟩, hw⟩ := hB
  have inv0 : HeadInv .any ops n (Array.replicate ops.size false) :=
    ⟨by simp, fun j oj _ hl => (by rw [getD_replicate_false] at hl; cases hl), fun t _ ht => getD_in (by simpa using ht) (getD_replicate_false _ _)⟩
  have H := wpAny_of_wpHead _ _ _ _ (wpHead_of_walk (md := .any) hQ hsel hs hc hn l _ a w.drew inv0 hw hS h)
  rw [hl, show n + (ops.size - n) = ops.size by omega] at H
  exact wpIn_region_any hm (anyIn_of_any (fun i o ho => List.all_eq_true.1 hp o (List.mem_of_getElem? (by simpa using ho))) hL _ _ _ _ H)
end
end Go.Proofs.YtejifefgmlpclaaGreat.Ord
