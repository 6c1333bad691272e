/- Regions, bodies. -/
import Derived.Test.YtlajbngfdbnoiaaEvC
namespace Go.Proofs.Ytlajbngfdbnoiaa
set_option linter.unusedSimpArgs false
set_option linter.unusedVariables false
set_option linter.constructorNameAsVariable false
open Go Go.RowKit
namespace Ev
variable {Df : List Deferred}
variable {P : Program} {tt : TT} {ν : Nat → Int} {ρ : Pl} {a : Act} {en : En} {w : World} {o : Oper} {v : V} {t : Tr V} {nt : Nat} {ops : Array Oper} {call : Nat → List V → H → R1} {h0 : H} {C : Tr Unit} {W : Bas}
theorem Rel.drew {h : H} (R : Rel ν W ρ h w) : Rel ν W ρ h { w with drawn := w.drawn + 1 } where
  below := R.below.drew
  ob := R.ob
  lt := R.lt
  dom := R.dom
  mine := R.mine
  sep := R.sep
  par := R.par
  parlt := R.parlt
  base := R.base
  kp := R.kp
theorem trSeq_dst2 : ∀ (l : List Oper) (i : Nat) (tk : List Tk), ∀ k ∈ (trSeq tt l i tk).2, k ∈ tk ∨ ∃ o ∈ l, k.dst = o.dst
  | [], _, _, k, hk => .inl hk
  | o :: l, i, tk, k, hk => by
    rcases trSeq_dst2 l (i + 1) _ k hk with h | ⟨o', h1, h2⟩
    · rcases List.mem_cons.1 h with rfl | h
      · exact .inr ⟨o, List.mem_cons_self .., rfl⟩
      · exact .inl h
    · exact .inr ⟨o', List.mem_cons_of_mem _ h1, h2⟩
theorem dstOk_lt {o : Oper} (h : dstOk nt o = true) {m : Tmp} (hm : o.dst = some m) : m < nt := by
  unfold dstOk at h
  rw [hm] at h
  exact blt_iff.1 h
theorem getD_false {n i : Nat} : (Array.replicate n false).getD i false = false := by
  rw [Array.getD_eq_getD_getElem?, Array.getElem?_replicate]; split <;> rfl
/-- What a region's walk asks. -/
def RegWp (P : Program) (ops : Array Oper) (draw : Bool) (Q : Exit → Act → World → Prop) (a : Act) (w : World) : Prop := match draw with
  | false => wpOps P ops Q (List.range ops.size) a w
  | true => wpAny P .any ops Q ops.size (Array.replicate ops.size false) a { w with drawn := w.drawn + 1 }
/-- A region. -/
theorem region_wps (hT : TTok P tt) (he : EnOk ν en) (hcall : CallOk P ν W call) (hm : MtsOk P en.mts) (hnt : nt ≤ 100000) {draw : Bool} {h h' : H} {its : List It} {cm : List (BP × Nat)} {r : List V}
    (htr : trReg tt nt C ops.toList draw = .reg its cm) (hv : runIts en call t its [] h = .ok r h') (R : Rel ν W ρ h w) (F : FrC Df ν C ρ nt t a) {Q : Exit → Act → World → Prop}
    (hQ : ∀ ρ' a' w', Rel ν W ρ' h' w' → Ext h ρ h' ρ' → FrC Df ν C ρ' nt (commit r cm t) a' → Q .normal a' w') : RegWp P ops draw Q a w := by
  unfold trReg at htr
  cases draw with
  | false =>
    simp only [cond_false, Bool.and_true] at htr
    cases hd : ops.toList.all (dstOk nt) with
    | false => rw [hd] at htr; cases htr
    | true =>
      rw [hd] at htr
      simp only [cond_true] at htr
      injection htr with g1 g2
      subst g1; subst g2
      have hd' := List.all_eq_true.1 hd
      have hdt : ∀ k ∈ (trSeq tt ops.toList 0 []).2, ∀ m, k.dst = some m → m < nt := by
        intro k hk m hm
        rcases trSeq_dst2 _ _ _ k hk with h | ⟨o, h1, h2⟩
        · cases h
        · exact dstOk_lt (hd' o h1) (h2 ▸ hm)
      show wpOps P ops Q (List.range ops.size) a w
      have := seq_sound (Q := Q) hT he hcall hm hnt ops.toList 0 [] [] h ρ a w r h' rfl hd' (by simp) hv R (Cur.start F.toFrR) (fun ρ' a' w' R' E' K' => hQ ρ' a' w' R' E' (FrC.region F.ins K' hdt hnt))
      rw [List.range_eq_range']
      simpa using this
  | true =>
    simp only [cond_true] at htr
    cases hd : ops.toList.all (dstOk nt) with
    | false => rw [hd] at htr; cases htr
    | true =>
      rw [hd] at htr
      have hd' := List.all_eq_true.1 hd
      cases hc : drawOk (trDraw tt ops.toList ops.toList.length 0 []).2 && allIn ops.toList.length (trDraw tt ops.toList ops.toList.length 0 []).2 with
      | false => rw [hc] at htr; cases htr
      | true =>
        rw [hc] at htr
        simp only [Bool.and_self, cond_true] at htr
        injection htr with g1 g2
        subst g1; subst g2
        simp only [Bool.and_eq_true] at hc
        obtain ⟨ents, hD, htk, hvl⟩ := trDraw_tr (ops := ops) ops.toList.length 0 [] h DrT.nil (fun j hj => by rw [bit_eq] at hj; simp at hj) hv
        have htk' : tks ents = (trDraw tt ops.toList ops.toList.length 0 []).2 := htk
        have hdst : ∀ e ∈ ents, ∀ m, e.k.dst = some m → m < nt := by
          intro e hee m hm
          obtain ⟨es, hs⟩ := mem_suffix hee
          obtain ⟨h1, hD1⟩ := hD.suffix hs
          obtain ⟨_, ⟨o, ho, _, _, hd1, _⟩, _, _⟩ := hD1.inv
          exact dstOk_lt (hd' o (by rw [Array.mem_toList_iff]; exact Array.mem_of_getElem? ho)) (hd1 ▸ hm)
        have hdt : ∀ k ∈ tks ents, ∀ m, k.dst = some m → m < nt := by
          intro k hk m hm
          obtain ⟨e, hee, rfl⟩ := List.mem_map.1 hk
          exact hdst e hee m hm
        have hin : ∀ i, i < ops.size → ∃ e ∈ ents, e.k.i = i := by
          intro i hi
          have h1 := hc.2
          unfold allIn at h1
          have h2 := List.all_eq_true.1 h1 i (List.mem_range.2 (by simpa using hi))
          obtain ⟨k, hk, hki⟩ := List.any_eq_true.1 h2
          rw [← htk'] at hk
          obtain ⟨e, hee, rfl⟩ := List.mem_map.1 hk
          exact ⟨e, hee, Nat.eq_of_beq_eq_true hki⟩
        have nosuf : ∀ {e : Ent} {es : List Ent}, ¬ (e :: es) <:+ [] := fun hs => by have := List.IsSuffix.length_le hs; simp at this
        show wpAny P .any ops Q ops.size (Array.replicate ops.size false) a { w with drawn := w.drawn + 1 }
        refine draw_main (Q := Q) (ρ0 := ρ) hT he hcall hm hnt hD (by rw [htk']; exact hc.1) hdst hin (fun ρ' a' w' R' E' K' => hQ ρ' a' w' R' E' ?_) ops.size ents [] h ρ _ a _ ⟨by simp, DrT.nil, R.drew, Ext.refl _ _, by simp, fun e _ => getD_false, by simp, fun e es hs => absurd hs nosuf, fun e es e' es' hs => absurd hs nosuf, fun e _ hl => (by rw [getD_false] at hl; cases hl), fun n _ e _ _ hl => (by rw [getD_false] at hl; cases hl), fun n hn _ v hv => F.slot n hn v hv, F.glob, F.defers, F.size, fun e es hs => absurd hs nosuf⟩ ?_
        · have := FrC.region F.ins K' hdt hnt
          rw [hvl, htk'] at this
          exact this
        · exact Nat.le_trans List.countP_le_length (by simp)
theorem region_sound (hT : TTok P tt) (he : EnOk ν en) (hmo : P.follows .mixedOrders = true) (hcall : CallOk P ν W call) (hm : MtsOk P en.mts) (hnt : nt ≤ 100000) {id : Nat} {draw : Bool} {h h' : H} {its : List It} {cm : List (BP × Nat)} {r : List V}
    (htr : trReg tt nt C ops.toList draw = .reg its cm) (hv : runIts en call t its [] h = .ok r h') (R : Rel ν W ρ h w) (F : FrC Df ν C ρ nt t a) {Q : Exit → Act → World → Prop}
    (hQ : ∀ ρ' a' w', Rel ν W ρ' h' w' → Ext h ρ h' ρ' → FrC Df ν C ρ' nt (commit r cm t) a' → Q .normal a' w') : (Code.region id ops draw).wp P Q a w := by
  have := region_wps hT he hcall hm hnt htr hv R F hQ
  cases draw with
  | false => exact wp_region this
  | true => exact wp_region_any hmo this
/-- How it ends. -/
def Post (Df : List Deferred) (ν : Nat → Int) (W : Bas) (C : Tr Unit) (nt : Nat) (h : H) (ρ : Pl) : X → Exit → Act → World → Prop
  | .nm t h', .normal, a, w => ∃ ρ', Rel ν W ρ' h' w ∧ Ext h ρ h' ρ' ∧ FrC Df ν C ρ' nt t a
  | .ex i t h', .exit j, a, w => i = j ∧ ∃ ρ', Rel ν W ρ' h' w ∧ Ext h ρ h' ρ' ∧ FrC Df ν C ρ' nt t a
  | .rt t h', .ret, a, w => ∃ ρ', Rel ν W ρ' h' w ∧ Ext h ρ h' ρ' ∧ FrC Df ν C ρ' nt t a
  | _, _, _, _ => False
/-- a loop that has begun -/
def LoopWp (P : Program) (c : Code) (Q : Exit → Act → World → Prop) (a : Act) (w : World) : Prop := ∀ (b : Frame) (k : List Item) (cs : List Frame), ∃ e a' w', Q e a' w' ∧ Arrives P (lone (b.at a (.code c :: .inLoop c :: k)) cs w) b k cs e a' w'
theorem LoopWp.wp {c : Code} {Q : Exit → Act → World → Prop} (h : LoopWp P c Q a w) : (Code.loop c).wp P Q a w := fun b k cs => let ⟨e, a', w', q, r⟩ := h b k cs; ⟨e, a', w', q, .of_steps (.one step_loop) r⟩
theorem LoopWp.round {c : Code} {Q : Exit → Act → World → Prop} (h : c.wp P (Exit.then (LoopWp P c Q) Q) a w) : LoopWp P c Q a w := by
  intro b k cs
  obtain ⟨e, a₁, w₁, hq, harr⟩ := h b (.inLoop c :: k) cs
  cases e with
  | normal =>
    obtain ⟨e₂, a₂, w₂, hq₂, harr₂⟩ := hq b k cs
    exact ⟨e₂, a₂, w₂, hq₂, .of_steps (Steps.trans harr (.one step_inLoop)) harr₂⟩
  | exit id => exact ⟨_, a₁, w₁, hq, .pass (x := .inLoop c) rfl (fun _ _ => .inl (by simp)) harr⟩
  | goto l => exact ⟨_, a₁, w₁, hq, .pass (x := .inLoop c) rfl (fun _ _ => .inl (by simp)) harr⟩
  | ret => exact ⟨_, a₁, w₁, hq, .pass (x := .inLoop c) rfl (fun _ _ => .inl (by simp)) harr⟩
  | panic ch => exact ⟨_, a₁, w₁, hq, .pass (x := .inLoop c) rfl (fun _ _ => .inl (by simp)) harr⟩
  | outgrown => exact ⟨_, a₁, w₁, hq, .pass (x := .inLoop c) rfl (fun _ _ => .inl (by simp)) harr⟩
def WP (P : Program) : Code → (Exit → Act → World → Prop) → Act → World → Prop
  | .loop c, Q, a, w => LoopWp P c Q a w
  | c, Q, a, w => c.wp P Q a w
theorem WP.wp {c : Code} {Q : Exit → Act → World → Prop} (h : WP P c Q a w) : c.wp P Q a w := by
  cases c <;> first | exact LoopWp.wp h | exact h
def RunOk (P : Program) (tt : TT) (ν : Nat → Int) (W : Bas) (rn : Rn) : Prop := ∀ (Df : List Deferred) (C : Tr Unit) (nt : Nat), nt ≤ 100000 → ∀ (c : Code) (t : Tr V) (h : H) (X0 : X) (ρ : Pl) (a : Act) (w : World), rn (trC tt nt C c) t h = X0 → (∀ n, X0 ≠ .bad n) → Rel ν W ρ h w → FrC Df ν C ρ nt t a → WP P c (Post Df ν W C nt h ρ X0) a w
theorem Post.mono {h1 : H} {ρ1 : Pl} {h : H} (E : Ext h ρ h1 ρ1) {X0 : X} : ∀ e a w, Post Df ν W C nt h1 ρ1 X0 e a w → Post Df ν W C nt h ρ X0 e a w := by
  intro e a w hp
  cases X0 <;> cases e <;> first | exact hp.elim | skip
  · obtain ⟨ρ', h1, h2, h3⟩ := hp; exact ⟨ρ', h1, E.trans h2, h3⟩
  · obtain ⟨h0, ρ', h1, h2, h3⟩ := hp; exact ⟨h0, ρ', h1, E.trans h2, h3⟩
  · obtain ⟨ρ', h1, h2, h3⟩ := hp; exact ⟨ρ', h1, E.trans h2, h3⟩
theorem WP_mono {c : Code} {Q Q' : Exit → Act → World → Prop} (h : WP P c Q a w) (hq : ∀ e a w, Q e a w → Q' e a w) : WP P c Q' a w := by
  cases c <;> first | exact (fun b k cs => let ⟨e, a', w', q, r⟩ := h b k cs; ⟨e, a', w', hq _ _ _ q, r⟩)
end Ev
end Go.Proofs.Ytlajbngfdbnoiaa
