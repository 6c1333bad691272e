/- What only reckons does in the model what it does in the small machine. -/
import Derived.Test.YtlajbngfdbnoiaaEvR
namespace Go.Proofs.Ytlajbngfdbnoiaa
set_option linter.unusedSimpArgs false
set_option linter.unusedVariables false
set_option linter.constructorNameAsVariable false
open Go Go.RowKit
namespace Ev
variable {path : List (Cd × Bool)} {norm : List (Z × Int)}
variable {P : Program} {tt : TT} {ν : Nat → Int} {ρ : Pl} {ds : List (Option Tmp)} {sv : Src → V} {a : Act} {en : En} {w : World}
structure TTok (P : Program) (tt : TT) : Prop where
  info : ∀ t i, ti tt t = some i → P.info? t = some i
  flat : ∀ t, flatT tt t = true → P.stoodInHeld t = false ∧ P.eqGuardType P.depth t = false
instance : CoeFun (TTok P tt) (fun _ => ∀ t i, ti tt t = some i → P.info? t = some i) := ⟨TTok.info⟩
theorem und_ok (h : TTok P tt) {t : Nat} {d : TypeDesc} (k : und tt t = some d) : P.underlying t = some d := by
  unfold und at k
  unfold Program.underlying
  split at k
  · rename_i n u _ _ _ _ _ _ _ _ _ e
    rw [h _ _ e]
    cases e2 : ti tt u with
    | none => rw [e2] at k; simp at k
    | some i => rw [e2] at k; simp only [h _ _ e2]; simpa using k
  · rename_i i hn e
    rw [h _ _ e]
    obtain rfl := Option.some.inj k
    split
    · rename_i n u _ _ _ _ _ _ _ _ _ e3
      obtain rfl := Option.some.inj e3
      exact absurd rfl (hn _ _ _ _ _ _ _ _ _ _ _)
    · rename_i i' _ e3
      obtain rfl := Option.some.inj e3
      rfl
    · rename_i e3; cases e3
  · cases k
theorem size_ok (h : TTok P tt) {t n : Nat} (k : sizeT tt t = some n) : (Go.sizeOf t).run P w = .ok n w := by
  unfold sizeT at k
  cases e : ti tt t with
  | none => rw [e] at k; cases k
  | some i => rw [e] at k; obtain rfl := Option.some.inj k; simp [Go.sizeOf, typeInfo, h _ _ e]
theorem agg_ok (h : TTok P tt) {t : Nat} {b : Bool} (k : aggT tt t = some b) : (isAgg t).run P w = .ok b w := by
  unfold aggT at k
  cases e : und tt t with
  | none => rw [e] at k; cases k
  | some d =>
    rw [e] at k
    simp only [isAgg, Sem.run_bind, run_underlying (und_ok h e), Result.andThen_ok]
    cases d <;> simp_all
/-- The operands that are named stand as they should. -/
def OpR (ν : Nat → Int) (ρ : Pl) (ds : List (Option Tmp)) (sv : Src → V) (a : Act) (xs : List Operand) : Prop := ∀ x ∈ xs, ∀ s, trSrc ds x = some s → VR ν ρ (sv s) (a.eval x)
def PathOk (ν : Nat → Int) (path : List (Cd × Bool)) : Prop := ∀ c ∈ path, cmpI c.1.1 (zval ν c.1.2.1) (zval ν c.1.2.2) = c.2
def NormOk (ν : Nat → Int) (norm : List (Z × Int)) : Prop := ∀ c ∈ norm, zval ν c.1 = c.2
structure EnOk (ν : Nat → Int) (en : En) : Prop where
  path : PathOk ν en.path
  norm : NormOk ν en.norm
-- numbers
theorem eqI_eq : ∀ a b : Int, eqI a b = decide (a = b)
  | .ofNat m, .ofNat n => by
    show Nat.beq m n = _
    rw [Bool.eq_iff_iff, Nat.beq_eq, decide_eq_true_eq]; exact ⟨fun h => (by rw [h]), fun h => (by cases h; rfl)⟩
  | .ofNat m, .negSucc n => (decide_eq_false (by intro h; cases h)).symm
  | .negSucc m, .ofNat n => (decide_eq_false (by intro h; cases h)).symm
  | .negSucc m, .negSucc n => by
    show Nat.beq m n = _
    rw [Bool.eq_iff_iff, Nat.beq_eq, decide_eq_true_eq]; exact ⟨fun h => (by rw [h]), fun h => (by cases h; rfl)⟩
theorem blt_iff {m n : Nat} : Nat.blt m n = true ↔ m < n := by show Nat.ble (m + 1) n = true ↔ _; rw [Nat.ble_eq]; omega
theorem ltI_eq : ∀ a b : Int, ltI a b = decide (a < b)
  | .ofNat m, .ofNat n => by
    show Nat.blt m n = _
    rw [Bool.eq_iff_iff, blt_iff, decide_eq_true_eq, Int.ofNat_eq_natCast, Int.ofNat_eq_natCast]; omega
  | .ofNat m, .negSucc n => by
    show false = _
    rw [Int.ofNat_eq_natCast, Int.negSucc_eq]; symm; rw [decide_eq_false_iff_not]; omega
  | .negSucc m, .ofNat n => by
    show true = _
    rw [Int.ofNat_eq_natCast, Int.negSucc_eq]; symm; rw [decide_eq_true_eq]; omega
  | .negSucc m, .negSucc n => by
    show Nat.blt n m = _
    rw [Bool.eq_iff_iff, blt_iff, decide_eq_true_eq, Int.negSucc_eq, Int.negSucc_eq]; omega
theorem kN_inj {j k : IntKind} (h : kN j = kN k) : j = k := by cases j <;> cases k <;> first | rfl | exact absurd h (by decide)
theorem bN_inj {j k : BinOp} (h : bN j = bN k) : j = k := by cases j <;> cases k <;> first | rfl | exact absurd h (by decide)
theorem zBeq_eq : ∀ a b : Z, zBeq a b = true → a = b
  | .lit n, b, h => by
    cases b <;> first | exact absurd h Bool.false_ne_true | skip
    rename_i m
    have h' : eqI n m = true := h
    rw [eqI_eq] at h'; rw [of_decide_eq_true h']
  | .var i, b, h => by
    cases b <;> first | exact absurd h Bool.false_ne_true | skip
    rename_i j
    rw [Nat.eq_of_beq_eq_true (show Nat.beq i j = true from h)]
  | .bin op k a b, c, h => by
    cases c <;> first | exact absurd h Bool.false_ne_true | skip
    rename_i op' k' a' b'
    have h' : bcase (Nat.beq (bN op) (bN op')) false (bcase (Nat.beq (kN k) (kN k')) false (bcase (zBeq a a') false (zBeq b b'))) = true := h
    obtain ⟨h1, h'⟩ := bcase_ne h' (by simp)
    obtain ⟨h2, h'⟩ := bcase_ne h' (by simp)
    obtain ⟨h3, h4⟩ := bcase_ne h' (by simp)
    rw [bN_inj (Nat.eq_of_beq_eq_true h1), kN_inj (Nat.eq_of_beq_eq_true h2), zBeq_eq a a' h3, zBeq_eq b b' h4]
  | .conv k a, c, h => by
    cases c <;> first | exact absurd h Bool.false_ne_true | skip
    rename_i k' a'
    have h' : bcase (Nat.beq (kN k) (kN k')) false (zBeq a a') = true := h
    obtain ⟨h1, h'⟩ := bcase_ne h' (by simp)
    rw [kN_inj (Nat.eq_of_beq_eq_true h1), zBeq_eq a a' h']
theorem look_sound (hp : PathOk ν path) {op : BinOp} {x y : Z} {b : Bool} (h : look (op, x, y) path = some b) : cmpI op (zval ν x) (zval ν y) = b := by
  induction path with
  | nil => cases h
  | cons p l ih =>
    have h' : bcase (cdBeq (op, x, y) p.1) (look (op, x, y) l) (some p.2) = some b := h
    cases hc : cdBeq (op, x, y) p.1 with
    | false => rw [hc] at h'; exact ih (fun c hc => hp c (List.mem_cons_of_mem _ hc)) h'
    | true =>
      rw [hc] at h'
      obtain rfl := Option.some.inj h'
      have hc' : bcase (Nat.beq (bN op) (bN p.1.1)) false (bcase (zBeq x p.1.2.1) false (zBeq y p.1.2.2)) = true := hc
      obtain ⟨h1, hc'⟩ := bcase_ne hc' (by simp)
      obtain ⟨h2, h3⟩ := bcase_ne hc' (by simp)
      rw [bN_inj (Nat.eq_of_beq_eq_true h1), zBeq_eq _ _ h2, zBeq_eq _ _ h3]
      exact hp p (List.mem_cons_self ..)
theorem cmpZ_sound (hp : PathOk ν path) {op : BinOp} {x y : Z} {b : Bool} (h : cmpZ path op x y = some b) : cmpI op (zval ν x) (zval ν y) = b := by
  cases x <;> first
    | exact look_sound hp h
    | (cases y <;> first | exact look_sound hp h | exact Option.some.inj h)
theorem lookN_sound (hp : NormOk ν norm) {z : Z} {n : Int} (h : lookN z norm = some n) : zval ν z = n := by
  induction norm with
  | nil => cases h
  | cons p l ih =>
    have h' : bcase (zBeq z p.1) (lookN z l) (some p.2) = some n := h
    cases hc : zBeq z p.1 with
    | false => rw [hc] at h'; exact ih (fun c hc => hp c (List.mem_cons_of_mem _ hc)) h'
    | true =>
      rw [hc] at h'
      obtain rfl := Option.some.inj h'
      rw [zBeq_eq _ _ hc]
      exact hp p (List.mem_cons_self ..)
theorem okZ_sound (hn : NormOk ν norm) {k : IntKind} {z : Z} {v : V} (h : okZ norm k z = some v) : ∃ z', v = .i k z' ∧ zval ν z' = zval ν z := by
  unfold okZ at h
  cases e : lookN z norm with
  | none => rw [e] at h; obtain rfl := Option.some.inj h; exact ⟨z, rfl, rfl⟩
  | some n => rw [e] at h; simp only [ocase_some, okI_eq, Option.some.injEq] at h; subst h; exact ⟨_, rfl, (lookN_sound hn e).symm⟩
theorem inR_wrap (k : IntKind) (n : Int) (h : inR k n = true) : k.wrap n = n := by
  have hk : ∀ c m, ltN c m = true → m < c := fun c m h => by simp only [ltN, Nat.blt, Nat.ble_eq] at h; omega
  cases k <;> cases n <;> simp only [inR, ipos] at h <;> first
    | (have := hk _ _ h; simp only [IntKind.wrap, IntKind.bits, IntKind.signed]; simp; omega)
    | exact absurd h (by simp [noN])
theorem wrapF_eq (k : IntKind) (n : Int) : wrapF k n = k.wrap n := by
  unfold wrapF
  cases h : inR k n with
  | true => exact (inR_wrap k n h).symm
  | false => rfl
theorem lit2_or {β : Type} {a b : Z} {g : β} {f : Int → Int → β} : (∃ m n, a = .lit m ∧ b = .lit n ∧ lit2 a b g f = f m n) ∨ lit2 a b g f = g := by
  cases a <;> first
    | exact .inr rfl
    | (cases b <;> first | exact .inr rfl | exact .inl ⟨_, _, rfl, rfl, rfl⟩)
theorem binI_sound (he : EnOk ν en) {op : BinOp} {k : IntKind} {x y : Z} {v : V} (h : binI op en k x y = some v) (t : TypeId) (p q : Operand) :
    ∃ u, (do eqGuard op t p q (.int k (zval ν x)) (.int k (zval ν y)); binOp op t (.int k (zval ν x)) (.int k (zval ν y)) : Sem Value).run P w = .ok u w ∧ VR ν ρ v u := by
  have hg : (eqGuard op t p q (.int k (zval ν x)) (.int k (zval ν y))).run P w = .ok () w := by cases op <;> simp [eqGuard]
  simp only [Sem.run_bind, hg, Result.andThen_ok]
  have ar : ∀ op', op' = .add ∨ op' = .sub ∨ op' = .mul → binAr en op' k x y = some v → ∃ z', v = .i k z' ∧ zval ν z' = binVal op' k (zval ν x) (zval ν y) := by
    intro op' ho h
    unfold binAr at h
    rcases lit2_or (a := x) (b := y) (g := okZ en.norm k (Z.bin op' k x y)) (f := fun m n => okI k (wrapF k (arI op' m n))) with ⟨m, n, rfl, rfl, e⟩ | e
    · rw [e, okI_eq] at h
      obtain rfl := Option.some.inj h
      refine ⟨_, rfl, ?_⟩
      simp only [zval, wrapF_eq]
      rcases ho with rfl | rfl | rfl <;> rfl
    · rw [e] at h; obtain ⟨z', rfl, e'⟩ := okZ_sound he.norm h; exact ⟨z', rfl, e'⟩
  have bi : ∀ op', op' = .and ∨ op' = .or ∨ op' = .xor ∨ op' = .andNot → binBit en op' k x y = some v → ∃ z', v = .i k z' ∧ zval ν z' = binVal op' k (zval ν x) (zval ν y) := by
    intro op' ho h
    unfold binBit at h
    rcases lit2_or (a := x) (b := y) (g := okZ en.norm k (Z.bin op' k x y)) (f := fun m n => okI k (bitI op' k m n)) with ⟨m, n, rfl, rfl, e⟩ | e
    · rw [e, okI_eq] at h
      obtain rfl := Option.some.inj h
      refine ⟨_, rfl, ?_⟩
      simp only [zval]
      rcases ho with rfl | rfl | rfl | rfl <;> rfl
    · rw [e] at h; obtain ⟨z', rfl, e'⟩ := okZ_sound he.norm h; exact ⟨z', rfl, e'⟩
  have di : ∀ op', op' = .quo ∨ op' = .rem → binDiv en op' k x y = some v → zval ν y ≠ 0 ∧ ∃ z', v = .i k z' ∧ zval ν z' = binVal op' k (zval ν x) (zval ν y) := by
    intro op' ho h
    unfold binDiv at h
    obtain ⟨b, hb, h⟩ := ocase_ne h (by simp)
    obtain ⟨rfl, h⟩ := bcase_ne' h (by simp)
    have h0 := cmpZ_sound he.path hb
    simp only [cmpI, eqI_eq, zval, decide_eq_false_iff_not] at h0
    refine ⟨h0, ?_⟩
    rcases lit2_or (a := x) (b := y) (g := okZ en.norm k (Z.bin op' k x y)) (f := fun m n => okI k (divI op' k m n)) with ⟨m, n, rfl, rfl, e⟩ | e
    · rw [e, okI_eq] at h
      obtain rfl := Option.some.inj h
      refine ⟨_, rfl, ?_⟩
      simp only [zval]
      rcases ho with rfl | rfl <;> rfl
    · rw [e] at h; obtain ⟨z', rfl, e'⟩ := okZ_sound he.norm h; exact ⟨z', rfl, e'⟩
  have sh : ∀ op', op' = .shl ∨ op' = .shr → binSh en op' k x y = some v → ¬ zval ν y < 0 ∧ ∃ z', v = .i k z' ∧ zval ν z' = binVal op' k (zval ν x) (zval ν y) := by
    intro op' ho h
    unfold binSh at h
    obtain ⟨b, hb, h⟩ := ocase_ne h (by simp)
    obtain ⟨rfl, h⟩ := bcase_ne' h (by simp)
    have h0 := cmpZ_sound he.path hb
    simp only [cmpI, ltI_eq, zval, decide_eq_false_iff_not] at h0
    refine ⟨h0, ?_⟩
    rcases lit2_or (a := x) (b := y) (g := okZ en.norm k (Z.bin op' k x y)) (f := fun m n => okI k (shI op' k m n)) with ⟨m, n, rfl, rfl, e⟩ | e
    · rw [e, okI_eq] at h
      obtain rfl := Option.some.inj h
      refine ⟨_, rfl, ?_⟩
      simp only [zval]
      rcases ho with rfl | rfl <;> rfl
    · rw [e] at h; obtain ⟨z', rfl, e'⟩ := okZ_sound he.norm h; exact ⟨z', rfl, e'⟩
  have cm : ∀ op', cmpK en op' x y = some v → v = .b (cmpI op' (zval ν x) (zval ν y)) := by
    intro op' h
    obtain ⟨b, hb, rfl⟩ := okOB_some h
    rw [cmpZ_sound he.path hb]
  cases op with
  | add => obtain ⟨z', rfl, e⟩ := ar .add (by simp) h; exact ⟨.int k (k.wrap (zval ν x + zval ν y)), by simp [binOp, Op.intArith], by simp only [VR]; rw [e]; rfl⟩
  | sub => obtain ⟨z', rfl, e⟩ := ar .sub (by simp) h; exact ⟨.int k (k.wrap (zval ν x - zval ν y)), by simp [binOp, Op.intArith], by simp only [VR]; rw [e]; rfl⟩
  | mul => obtain ⟨z', rfl, e⟩ := ar .mul (by simp) h; exact ⟨.int k (k.wrap (zval ν x * zval ν y)), by simp [binOp, Op.intArith], by simp only [VR]; rw [e]; rfl⟩
  | quo => obtain ⟨h0, z', rfl, e⟩ := di .quo (by simp) h; exact ⟨_, by simp [binOp, Op.intDiv, h0]; rfl, by simp only [VR]; rw [e]; rfl⟩
  | rem => obtain ⟨h0, z', rfl, e⟩ := di .rem (by simp) h; exact ⟨_, by simp [binOp, Op.intDiv, h0]; rfl, by simp only [VR]; rw [e]; rfl⟩
  | and => obtain ⟨z', rfl, e⟩ := bi .and (by simp) h; exact ⟨_, by simp [binOp, Op.intBits]; rfl, by simp only [VR]; rw [e]; rfl⟩
  | or => obtain ⟨z', rfl, e⟩ := bi .or (by simp) h; exact ⟨_, by simp [binOp, Op.intBits]; rfl, by simp only [VR]; rw [e]; rfl⟩
  | xor => obtain ⟨z', rfl, e⟩ := bi .xor (by simp) h; exact ⟨_, by simp [binOp, Op.intBits]; rfl, by simp only [VR]; rw [e]; rfl⟩
  | andNot => obtain ⟨z', rfl, e⟩ := bi .andNot (by simp) h; exact ⟨_, by simp only [binOp, ne_eq, not_true_eq_false, if_false]; rfl, by simp only [VR]; rw [e]; rfl⟩
  | shl => obtain ⟨h0, z', rfl, e⟩ := sh .shl (by simp) h; exact ⟨_, by simp [binOp, Op.shift, h0]; rfl, by simp only [VR]; rw [e]; rfl⟩
  | shr => obtain ⟨h0, z', rfl, e⟩ := sh .shr (by simp) h; exact ⟨_, by simp [binOp, Op.shift, h0]; rfl, by simp only [VR]; rw [e]; rfl⟩
  | eql => obtain rfl := cm .eql h; exact ⟨_, by simp [binOp, Op.intCmp]; rfl, by simp only [VR, cmpI, eqI_eq]; rfl⟩
  | neq => obtain rfl := cm .neq h; exact ⟨_, by simp [binOp, Op.intCmp]; rfl, by simp only [VR, cmpI, eqI_eq]; rfl⟩
  | lss => obtain rfl := cm .lss h; exact ⟨_, by simp [binOp, Op.intCmp]; rfl, by simp only [VR, cmpI, ltI_eq]⟩
  | leq => obtain rfl := cm .leq h; exact ⟨_, by simp [binOp, Op.intCmp]; rfl, by simp only [VR, cmpI, ltI_eq]; refine congrArg Value.bool ?_; rw [Bool.eq_iff_iff]; simp⟩
  | gtr => obtain rfl := cm .gtr h; exact ⟨_, by simp [binOp, Op.intCmp]; rfl, by simp only [VR, cmpI, ltI_eq]⟩
  | geq => obtain rfl := cm .geq h; exact ⟨_, by simp [binOp, Op.intCmp]; rfl, by simp only [VR, cmpI, ltI_eq]; refine congrArg Value.bool ?_; rw [Bool.eq_iff_iff]; simp⟩
end Ev
end Go.Proofs.Ytlajbngfdbnoiaa
