/- A region whose operations come in whatever order. -/
import Derived.Test.YtoinghomkcjkcaaGreatDoorKc
import Derived.Orders
namespace Go.Proofs.YtoinghomkcjkcaaGreatDoor
set_option linter.unusedSimpArgs false
set_option linter.unusedVariables false
set_option linter.constructorNameAsVariable false
open Go Go.RowKit
namespace Ev
variable {Df : List Deferred}
variable {P : Program} {tt : TT} {ν : Nat → Int} {ρ : Pl} {a : Act} {en : En} {w : World} {o : Oper} {v : V} {t : Tr V} {nt : Nat} {ops : Array Oper} {call : Nat → List V → H → R1} {h0 : H}
structure Ent where
  k : Tk
  v : V
  hb : H
def tks (es : List Ent) : List Tk := es.map (·.k)
def vals (es : List Ent) : List V := es.map (·.v)
/-- The evaluation, item by item; the latest is the first. -/
inductive DrT (tt : TT) (ops : Array Oper) (en : En) (call : Nat → List V → H → R1) (t : Tr V) (h0 : H) : List Ent → H → Prop
  | nil : DrT tt ops en call t h0 [] h0
  | snoc {es : List Ent} {h : H} {i : Nat} {o : Oper} {g : Option (Src × Bool)} {v : V} {h' : H} : DrT tt ops en call t h0 es h → ops[i]? = some o → trGuard (tks es) o = some g → (∀ j ∈ edgesOf o, ∃ e ∈ es, e.k.i = j) →
      doG en call (src (vals es) t) h g (trK tt ((tks es).map (·.dst)) o.op) = .ok v h' →
      (heavyK (trK tt ((tks es).map (·.dst)) o.op) = true → stills en t (v :: vals es) h' (agains (ancs (tks es) (edgesOf o)) (tks es) 1) = true) →
      DrT tt ops en call t h0 (⟨⟨i, o.dst, g, trK tt ((tks es).map (·.dst)) o.op, ancs (tks es) (edgesOf o), looksOf (tks es) o⟩, v, h⟩ :: es) h'
theorem pickOp_some (opl : List Oper) (done : Nat) : ∀ (l : List Oper) (i : Nat) (hh : Option (Nat × Oper)) (j : Nat) (o : Oper), opl.drop i = l → (∀ p, hh = some p → opl[p.1]? = some p.2 ∧ (edgesOf p.2).all (bit done) = true) → pickOp opl done l i hh = some (j, o) → opl[j]? = some o ∧ (edgesOf o).all (bit done) = true
  | [], i, hh, j, o, _, hp, h => hp (j, o) h
  | x :: l, i, hh, j, o, hl, hp, h => by
    have hx : opl[i]? = some x := by
      have := congrArg (fun x => x[0]?) hl
      simpa using this
    have hl' : opl.drop (i + 1) = l := by
      have := congrArg List.tail hl
      simpa using this
    simp only [pickOp] at h
    cases hc : !(bit done i) && (edgesOf x).all (bit done) with
    | false => rw [hc] at h; exact pickOp_some opl done l (i + 1) hh j o hl' hp h
    | true =>
      rw [hc] at h
      simp only [Bool.and_eq_true] at hc
      cases hv : heavyOp x.op with
      | false =>
        rw [hv] at h
        obtain ⟨rfl, rfl⟩ := Prod.mk.inj (Option.some.inj (show some (i, x) = some (j, o) from h))
        exact ⟨hx, hc.2⟩
      | true =>
        rw [hv] at h
        refine pickOp_some opl done l (i + 1) _ j o hl' ?_ h
        intro p hp'
        cases hh with
        | none => obtain rfl := Option.some.inj hp'; exact ⟨hx, hc.2⟩
        | some q => exact hp p hp'
theorem bit_eq (m i : Nat) : bit m i = m.testBit i := by
  unfold bit Nat.testBit
  have h1 : Nat.land (Nat.shiftRight m i) 1 = (m >>> i) &&& 1 := rfl
  rw [h1, Nat.and_comm, Bool.eq_iff_iff, Nat.beq_eq, bne_iff_ne]
  have : 1 &&& m >>> i = (m >>> i) % 2 := by rw [Nat.and_comm]; exact Nat.and_one_is_mod _
  rw [this]; omega
theorem bit_or (m n i : Nat) : bit (Nat.lor m n) i = (bit m i || bit n i) := by rw [bit_eq, bit_eq, bit_eq]; exact Nat.testBit_or m n i
theorem bit_one (j i : Nat) : bit (Nat.shiftLeft 1 j) i = decide (j = i) := by
  rw [bit_eq]
  have : Nat.shiftLeft 1 j = 2 ^ j := by show 1 <<< j = _; rw [Nat.shiftLeft_eq, Nat.one_mul]
  rw [this, Nat.testBit_two_pow]
theorem trDraw_tr {hN : H} {rN : List V} : ∀ (f done : Nat) (es : List Ent) (h : H), DrT tt ops en call t h0 es h → (∀ j, bit done j = true → ∃ e ∈ es, e.k.i = j) →
    runIts en call t (trDraw tt ops.toList f done (tks es)).1 (vals es) h = .ok rN hN → ∃ ents, DrT tt ops en call t h0 ents hN ∧ tks ents = (trDraw tt ops.toList f done (tks es)).2 ∧ vals ents = rN
  | 0, done, es, h, hD, _, hv => by
    have hv' : RR.ok (vals es) h = .ok rN hN := hv
    injection hv' with g1 g2; subst g2
    exact ⟨es, hD, rfl, g1⟩
  | f + 1, done, es, h, hD, hdone, hv => by
    simp only [trDraw] at hv ⊢
    cases hp : pickOp ops.toList done ops.toList 0 none with
    | none =>
      rw [hp] at hv
      have hv' : RR.ok (vals es) h = .ok rN hN := hv
      injection hv' with g1 g2; subst g2
      exact ⟨es, hD, rfl, g1⟩
    | some p =>
      obtain ⟨i, o⟩ := p
      rw [hp] at hv
      simp only at hv ⊢
      obtain ⟨ho, hed⟩ := pickOp_some ops.toList done ops.toList 0 none i o (by simp) (fun p hp => by cases hp) hp
      have ho' : ops[i]? = some o := by simpa using ho
      have hedge : ∀ j ∈ edgesOf o, ∃ e ∈ es, e.k.i = j := fun j hj => hdone j (List.all_eq_true.1 hed j hj)
      cases hg : trGuard (tks es) o with
      | none =>
        exfalso
        have hk : (takeOp tt true (tks es) i o).2 = .mk none (no 128) (agains (ancs (tks es) (edgesOf o)) (tks es) 1) := by simp [takeOp, hg, heavyK, no]
        rw [hk] at hv
        have : RR.bad 128 = RR.ok rN hN := hv
        cases this
      | some g =>
        have hk : takeOp tt true (tks es) i o = (⟨i, o.dst, g, trK tt ((tks es).map (·.dst)) o.op, ancs (tks es) (edgesOf o), looksOf (tks es) o⟩, .mk g (trK tt ((tks es).map (·.dst)) o.op) (bif heavyK (trK tt ((tks es).map (·.dst)) o.op) then agains (ancs (tks es) (edgesOf o)) (tks es) 1 else [])) := by
          simp [takeOp, hg]
        rw [hk] at hv
        simp only at hv
        have hv2 : r1 (doG en call (src (vals es) t) h g (trK tt ((tks es).map (·.dst)) o.op)) RR.bad (fun v h1 => bcase (stills en t (v :: vals es) h1 (bif heavyK (trK tt ((tks es).map (·.dst)) o.op) then agains (ancs (tks es) (edgesOf o)) (tks es) 1 else [])) (RR.bad 82)
            (runIts en call t (trDraw tt ops.toList f (Nat.lor done (Nat.shiftLeft 1 i)) ((takeOp tt true (tks es) i o).1 :: tks es)).1 (v :: vals es) h1)) = .ok rN hN := by rw [hk]; exact hv
        cases hdg : doG en call (src (vals es) t) h g (trK tt ((tks es).map (·.dst)) o.op) with
        | bad n => rw [hdg] at hv2; cases hv2
        | ok v h1 =>
          rw [hdg] at hv2
          obtain ⟨hst, hv3⟩ := bcase_ne (show bcase _ (RR.bad 82) _ = RR.ok rN hN from hv2) (by simp)
          have hD' := DrT.snoc hD ho' hg hedge hdg (fun hh => by rw [hh] at hst; exact hst)
          have := trDraw_tr f (Nat.lor done (Nat.shiftLeft 1 i)) _ h1 hD' (fun j hj => by
            rw [bit_or, bit_one, Bool.or_eq_true] at hj
            rcases hj with hj | hj
            · obtain ⟨e, he, h2⟩ := hdone j hj; exact ⟨e, List.mem_cons_of_mem _ he, h2⟩
            · exact ⟨_, List.mem_cons_self .., of_decide_eq_true hj⟩) (by rw [hk] at hv3; exact hv3)
          rw [hk]
          exact this
-- equal values are equal
theorem zsBeq_eq : ∀ {l m : List Z}, zsBeq l m = true → l = m
  | [], m, h => by cases m with
    | nil => rfl
    | cons _ _ => cases h
  | a :: l, m, h => by
    obtain ⟨b, m', rfl, h1⟩ := lcase_ne (show lcase m false (fun b t => bcase (zBeq a b) false (zsBeq l t)) = true from h) (by simp)
    obtain ⟨h2, h3⟩ := bcase_ne h1 (by simp)
    rw [zBeq_eq _ _ h2, zsBeq_eq h3]
mutual
theorem vBeq_eq : ∀ (v u : V), vBeq v u = true → v = u
  | .x, u, h => by cases h
  | .b x, u, h => by
    obtain ⟨y, rfl, h⟩ := onB_ne (show onB u false (fun y => bcase x (!y) y) = true from h) (by simp)
    cases x <;> cases y <;> first | rfl | cases h
  | .i k n, u, h => by
    obtain ⟨j, m, rfl, h1⟩ := onI_ne (show onI u false (fun j m => bcase (Nat.beq (kN k) (kN j)) false (zBeq n m)) = true from h) (by simp)
    obtain ⟨h2, h3⟩ := bcase_ne h1 (by simp)
    rw [kN_inj (Nat.eq_of_beq_eq_true h2), zBeq_eq _ _ h3]
  | .s l, u, h => by
    obtain ⟨m, rfl, h1⟩ := onS_ne (show onS u false (fun m => zsBeq l m) = true from h) (by simp)
    rw [zsBeq_eq h1]
  | .p0, u, h => (isT_p0 h).symm
  | .p x o, u, h => by
    obtain ⟨y, q, rfl, h1⟩ := onP_ne (show onP u false (fun y q => bcase (bpEq x y) false (Nat.beq o q)) = true from h) (by simp)
    obtain ⟨h2, h3⟩ := bcase_ne h1 (by simp)
    rw [(bpEq_iff _ _).1 h2, Nat.eq_of_beq_eq_true h3]
  | .s0, u, h => (isT_s0 h).symm
  | .e x o, u, h => by
    obtain ⟨y, q, rfl, h1⟩ := onE_ne (show onE u false (fun y q => bcase (bpEq x y) false (Nat.beq o q)) = true from h) (by simp)
    obtain ⟨h2, h3⟩ := bcase_ne h1 (by simp)
    rw [(bpEq_iff _ _).1 h2, Nat.eq_of_beq_eq_true h3]
  | .sl x o s n, u, h => by
    obtain ⟨y, q, s', m, rfl, h1⟩ := onSl_ne (show onSl u false (fun y q s' m => bcase (bpEq x y) false (bcase (Nat.beq o q) false (bcase (Nat.beq s s') false (Nat.beq n m)))) = true from h) (by simp)
    obtain ⟨h2, h3⟩ := bcase_ne h1 (by simp)
    obtain ⟨h4, h5⟩ := bcase_ne h3 (by simp)
    obtain ⟨h6, h7⟩ := bcase_ne h5 (by simp)
    rw [(bpEq_iff _ _).1 h2, Nat.eq_of_beq_eq_true h4, Nat.eq_of_beq_eq_true h6, Nat.eq_of_beq_eq_true h7]
  | .f0, u, h => (isT_f0 h).symm
  | .f g a b, u, h => by
    obtain ⟨g', a', b', rfl, h1⟩ := onF_ne (show onF u false (fun g' a' b' => bcase (Nat.beq g g') false (bcase (vsBeq' a a') false (vsBeq' b b'))) = true from h) (by simp)
    obtain ⟨h2, h3⟩ := bcase_ne h1 (by simp)
    obtain ⟨h4, h5⟩ := bcase_ne h3 (by simp)
    rw [Nat.eq_of_beq_eq_true h2, vsBeq'_eq _ _ h4, vsBeq'_eq _ _ h5]
  | .n0, u, h => (isT_n0 h).symm
  | .n t v, u, h => by
    obtain ⟨t', w, rfl, h1⟩ := onN_ne (show onN u false (fun t' w => bcase (Nat.beq t t') false (vBeq v w)) = true from h) (by simp)
    obtain ⟨h2, h3⟩ := bcase_ne h1 (by simp)
    rw [Nat.eq_of_beq_eq_true h2, vBeq_eq _ _ h3]
  | .g l, u, h => by
    obtain ⟨m, rfl, h1⟩ := onG_ne (show onG u false (vsBeq' l) = true from h) (by simp)
    rw [vsBeq'_eq _ _ h1]
  | .u l, u, h => by
    obtain ⟨m, rfl, h1⟩ := onU_ne (show onU u false (vsBeq' l) = true from h) (by simp)
    rw [vsBeq'_eq _ _ h1]
  | .m0, u, h => (isT_m0 h).symm
  | .m x, u, h => by
    obtain ⟨y, rfl, h1⟩ := onM_ne (show onM u false (fun y => bpEq x y) = true from h) (by simp)
    rw [(bpEq_iff _ _).1 h1]
  | .sy x z l, u, h => by cases h
theorem vsBeq'_eq : ∀ (l m : List V), vsBeq' l m = true → l = m
  | [], m, h => by cases m with
    | nil => rfl
    | cons _ _ => cases h
  | a :: l, m, h => by
    obtain ⟨b, m', rfl, h1⟩ := lcase_ne (show lcase m false (fun b t => bcase (vBeq a b) false (vsBeq' l t)) = true from h) (by simp)
    obtain ⟨h2, h3⟩ := bcase_ne h1 (by simp)
    rw [vBeq_eq _ _ h2, vsBeq'_eq _ _ h3]
end
theorem vsBeq_eq : ∀ {l m : List V}, vsBeq l m = true → l = m
  | [], m, h => by cases m with
    | nil => rfl
    | cons _ _ => cases h
  | a :: l, m, h => by
    obtain ⟨b, m', rfl, h1⟩ := lcase_ne (show lcase m false (fun b t => bcase (vBeq a b) false (vsBeq l t)) = true from h) (by simp)
    obtain ⟨h2, h3⟩ := bcase_ne h1 (by simp)
    rw [vBeq_eq _ _ h2, vsBeq_eq h3]
/-- What reads reads the same where a block is new. -/
theorem onC_add {h : H} (hdom : ∀ x ob, obj h x = some ob → x ≠ nx h) (ob : O) {β : Type} {x : BP} {g r : β} {f : List V → Option BP → Bool → β} (hv : onC (obj h x) g f = r) (hg : g ≠ r) : onC (obj (addO h ob) x) g f = r := by
  obtain ⟨l, p, w, e, _⟩ := onC_ne hv hg
  rw [obj_addO, if_neg (hdom x _ e)]; exact hv
theorem onMp_add {h : H} (hdom : ∀ x ob, obj h x = some ob → x ≠ nx h) (ob : O) {β : Type} {x : BP} {g r : β} {f : List (V × V) → β} (hv : onMp (obj h x) g f = r) (hg : g ≠ r) : onMp (obj (addO h ob) x) g f = r := by
  obtain ⟨es, e, _⟩ := onMp_ne hv hg
  rw [obj_addO, if_neg (hdom x _ e)]; exact hv
theorem cellsAt_add {h : H} (hdom : ∀ x ob, obj h x = some ob → x ≠ nx h) (ob : O) {x : BP} {off n : Nat} {l : List V} (hv : cellsAt h x off n = some l) : cellsAt (addO h ob) x off n = some l := onC_add hdom ob hv (by simp)
theorem cellsOf_add {h : H} (hdom : ∀ x0 ob, obj h x0 = some ob → x0 ≠ nx h) (ob : O) {sz : Nat} {x0 : V} {l : List V} (hv : cellsOf h sz x0 = some l) : cellsOf (addO h ob) sz x0 = some l := by
  by_cases hs : ∃ y o s n, x0 = .sl y o s n
  · obtain ⟨y, off, s, n, rfl⟩ := hs
    obtain ⟨h1, h2⟩ := bcase_ne (show bcase (Nat.beq s sz) none (cellsAt h y off (Nat.mul n sz)) = some l from hv) (by simp)
    show bcase (Nat.beq s sz) none (cellsAt (addO h ob) y off (Nat.mul n sz)) = some l
    rw [h1]; exact cellsAt_add hdom ob h2
  · cases x0 <;> first | exact hv | exact absurd ⟨_, _, _, _, rfl⟩ hs
theorem doR_add {h : H} (hdom : ∀ x ob, obj h x = some ob → x ≠ nx h) (ob : O) {k : KR} {sv : Src → V} (hv : doR k en sv h = some v) : doR k en sv (addO h ob) = some v := by
  cases k with
  | load1 s =>
    obtain ⟨x, off, e, h1⟩ := onP_ne (show onP (sv s) none (fun x off => onC (obj h x) none (fun l _ _ => nth l off)) = some v from hv) (by simp)
    show onP (sv s) none (fun x off => onC (obj (addO h ob) x) none (fun l _ _ => nth l off)) = some v
    rw [e]; exact onC_add hdom ob h1 (by simp)
  | loadn n s =>
    obtain ⟨x, off, e, h1⟩ := onP_ne (show onP (sv s) none (fun x off => ocase (cellsAt h x off n) none (fun l => some (V.g l))) = some v from hv) (by simp)
    obtain ⟨l, h2, h3⟩ := ocase_ne h1 (by simp)
    show onP (sv s) none (fun x off => ocase (cellsAt (addO h ob) x off n) none (fun l => some (V.g l))) = some v
    rw [e]
    show ocase (cellsAt (addO h ob) x off n) none (fun l => some (V.g l)) = some v
    rw [cellsAt_add hdom ob h2]; exact h3
  | mlen s =>
    have hv' : onM (sv s) (bcase (isT 15 (sv s)) none (okN 0)) (fun x => onMp (obj h x) none (fun es => okN (Ev.len es))) = some v := hv
    show onM (sv s) (bcase (isT 15 (sv s)) none (okN 0)) (fun x => onMp (obj (addO h ob) x) none (fun es => okN (Ev.len es))) = some v
    generalize sv s = vs at hv' ⊢
    cases vs <;> first | exact hv' | exact onMp_add hdom ob hv' (by simp)
  | lookup ks z ok m i =>
    obtain ⟨h1, h2⟩ := bcase_ne (show bcase (isKey ks (sv i)) none (onM (sv m) (bcase (isT 15 (sv m)) none (okV ok z false)) (fun x => onMp (obj h x) none (fun es => ocase (findK ks en.path (sv i) es) none (fun r => ocase r (okV ok z false) (fun v => okV ok v true))))) = some v from hv) (by simp)
    show bcase (isKey ks (sv i)) none (onM (sv m) (bcase (isT 15 (sv m)) none (okV ok z false)) (fun x => onMp (obj (addO h ob) x) none (fun es => ocase (findK ks en.path (sv i) es) none (fun r => ocase r (okV ok z false) (fun v => okV ok v true))))) = some v
    rw [h1]
    generalize sv m = vs at h2 ⊢
    cases vs <;> first | exact h2 | exact onMp_add hdom ob h2 (by simp)
  | str s =>
    obtain ⟨l, h1, h2⟩ := ocase_ne (show ocase (cellsOf h 1 (sv s)) none (fun l => ocase (bytesZ en.path l) none (fun z => some (V.s z))) = some v from hv) (by simp)
    show ocase (cellsOf (addO h ob) 1 (sv s)) none (fun l => ocase (bytesZ en.path l) none (fun z => some (V.s z))) = some v
    rw [cellsOf_add hdom ob h1]; exact h2
/-- Operands, guard: by the slots that are looked at alone. -/
def SlotR (ν : Nat → Int) (ρ : Pl) (t : Tr V) (tk : List Tk) (r : List V) (a : Act) (n : Nat) : Prop := match locOf n (tk.map (·.dst)) 0 with
    | some i => ∃ v, r[i]? = some v ∧ VR ν ρ v (a.tmps.getD n undef)
    | none => ∀ v, get (bpOf n) t = some v → VR ν ρ v (a.tmps.getD n undef)
theorem mem_tmpsOf {n : Nat} : ∀ {xs : List Operand}, Operand.tmp n ∈ xs → n ∈ tmpsOf xs
  | [], h => by cases h
  | y :: ys, h => by
    rcases List.mem_cons.1 h with rfl | h
    · simp [tmpsOf]
    · have := mem_tmpsOf h
      cases y <;> simp [tmpsOf, this]
theorem opR_of {tk : List Tk} {r : List V} (hglob : ∀ g v, get (bpOf (100000 + g)) t = some v → VR ν ρ v (.pointer (some ⟨g, 0, none⟩))) (xs : List Operand) (hs : ∀ n, n ∈ tmpsOf xs → n < 100000 → SlotR ν ρ t tk r a n) : OpR ν ρ (tk.map (·.dst)) (src r t) a xs := by
  intro x hx s hs1
  cases x with
  | tmp n =>
    have hs' : (bif Nat.blt n 100000 then (match locOf n (tk.map (·.dst)) 0 with | some i => some (Src.loc i) | none => some (Src.tmp (bpOf n))) else none) = some s := hs1
    have hn : n < 100000 := by
      cases hb : Nat.blt n 100000 with
      | true => exact blt_iff.1 hb
      | false => rw [hb] at hs'; cases hs'
    have hmem : n ∈ tmpsOf xs := mem_tmpsOf hx
    have hC := hs n hmem hn
    rw [blt_iff.2 hn] at hs'
    have hs2 := hs'
    simp only [cond_true] at hs2
    unfold SlotR at hC
    split at hs2
    · rename_i i e
      obtain rfl := Option.some.inj hs2
      rw [e] at hC
      obtain ⟨v, h1, h2⟩ := hC
      rw [src_loc, h1]; exact h2
    · rename_i e
      obtain rfl := Option.some.inj hs2
      rw [e] at hC
      rw [src_tmp]
      cases hg : get (bpOf n) t with
      | none => exact VR_x _
      | some v => exact hC v hg
  | const u =>
    simp only [trSrc] at hs1
    split at hs1
    · rename_i v e
      obtain rfl := Option.some.inj hs1
      exact trVal_sound u v e
    · cases hs1
  | global g =>
    obtain rfl := Option.some.inj (show some (Src.tmp (bpOf (100000 + g))) = some s from hs1)
    rw [src_tmp]
    cases hg : get (bpOf (100000 + g)) t with
    | none => exact VR_x _
    | some v => exact hglob g v hg
  | func f =>
    obtain rfl := Option.some.inj (show some (Src.val (.f f [] [])) = some s from hs1)
    show VR ν ρ (.f f [] []) _
    simp only [VR, VRs]; exact ⟨#[], #[], rfl, rfl, rfl⟩
theorem wanted_of {tk : List Tk} {r : List V} (htk : ∀ k ∈ tk, ∃ o, ops[k.i]? = some o ∧ o.dst = k.dst) (hd : ∀ k ∈ tk, ∀ m, k.dst = some m → m < nt) (hnt : nt ≤ 100000) (hsz : nt ≤ a.tmps.size)
    (hs : ∀ j w p k d, o.guard = some (j, w) → posOf j (tk.map (·.i)) 0 = some p → nth tk p = some k → k.dst = some d → SlotR ν ρ t tk r a d) {g : Option (Src × Bool)} {b : Bool} (hg : trGuard tk o = some g) (hw : want (src r t) g = some b) : Region.wanted o (yielded ops a.tmps) = b := by
  unfold trGuard at hg
  unfold Region.wanted
  split at hg
  · rename_i e
    obtain rfl := Option.some.inj hg
    rw [e]
    exact (Option.some.inj (show some true = some b from hw))
  · rename_i j wt e
    rw [e]
    split at hg
    · rename_i p hp
      split at hg
      · rename_i k hk
        split at hg
        · rename_i d hdst
          cases hc : Nat.beq k.i j && optEq (locOf d (tk.map (·.dst)) 0) (some p) with
          | false => rw [hc] at hg; cases hg
          | true =>
            rw [hc] at hg
            obtain rfl := Option.some.inj (show some (some (Src.loc p, wt)) = some g from hg)
            simp only [Bool.and_eq_true] at hc
            have hkj := Nat.eq_of_beq_eq_true hc.1
            have hloc : locOf d (tk.map (·.dst)) 0 = some p := by
              have := hc.2
              unfold optEq at this
              split at this
              · rename_i m n e1 e2
                rw [e1, e2, Nat.eq_of_beq_eq_true this]
              · cases this
            have hC := hs j wt p k d e hp hk hdst
            rw [nth_eq] at hk
            have hkm : k ∈ tk := List.mem_of_getElem? hk
            obtain ⟨oj, ho1, ho2⟩ := htk k hkm
            have hdn := hd k hkm d hdst
            unfold SlotR at hC
            rw [hloc] at hC
            obtain ⟨v', h1, h2⟩ := hC
            have hds : d < a.tmps.size := Nat.lt_of_lt_of_le hdn hsz
            have hy : yielded ops a.tmps j = match a.tmps.getD d undef with | .bool b => some b | _ => none := by
              unfold yielded
              rw [← hkj, ho1]
              simp only [Option.bind_some, ho2, hdst]
              rw [Array.getElem?_eq_getElem hds]
              simp only [Array.getD_eq_getD_getElem?, Array.getElem?_eq_getElem hds, Option.getD_some]
              cases a.tmps[d] <;> rfl
            show (yielded ops a.tmps j == some wt) = b
            rw [hy]
            have hw' : onB (src r t (.loc p)) (onU (src r t (.loc p)) none (fun _ => some false)) (fun b => some (bcase wt (!b) b)) = some b := hw
            rw [src_loc, h1] at hw'
            simp only [Option.getD_some] at hw'
            cases v' <;> first | (cases hw'; done) | skip
            · simp only [VR] at h2; rw [h2]
              rename_i x
              have := Option.some.inj (show some (bcase wt (!x) x) = some b from hw')
              rw [← this]
              cases wt <;> cases x <;> rfl
            · simp only [VR] at h2
              obtain ⟨cs, h2, _⟩ := h2
              rw [h2]
              exact Option.some.inj (show some false = some b from hw')
        · cases hg
      · cases hg
    · cases hg
-- what is known of the evaluation
def Ok1 (tt : TT) (ops : Array Oper) (e : Ent) (es : List Ent) : Prop := ∃ o, ops[e.k.i]? = some o ∧ trGuard (tks es) o = some e.k.g ∧ e.k.k = trK tt ((tks es).map (·.dst)) o.op ∧ e.k.dst = o.dst ∧ e.k.anc = ancs (tks es) (edgesOf o) ∧ e.k.looks = looksOf (tks es) o ∧ ∀ j ∈ edgesOf o, ∃ e' ∈ es, e'.k.i = j
theorem DrT.inv {e : Ent} {es : List Ent} {h' : H} (hD : DrT tt ops en call t h0 (e :: es) h') : DrT tt ops en call t h0 es e.hb ∧ Ok1 tt ops e es ∧ doG en call (src (vals es) t) e.hb e.k.g e.k.k = .ok e.v h' ∧ (heavyK e.k.k = true → stills en t (e.v :: vals es) h' (agains e.k.anc (tks es) 1) = true) := by
  cases hD with
  | snoc h1 h2 h3 h4 h5 h6 => exact ⟨h1, ⟨_, h2, h3, rfl, rfl, rfl, rfl, h4⟩, h5, h6⟩
theorem DrT.suffix {ents : List Ent} {hN : H} (hD : DrT tt ops en call t h0 ents hN) : ∀ {e : Ent} {es : List Ent}, (e :: es) <:+ ents → ∃ h', DrT tt ops en call t h0 (e :: es) h' := by
  induction ents generalizing hN with
  | nil => intro e es hs; have := List.IsSuffix.length_le hs; simp at this
  | cons x xs ih =>
    intro e es hs
    rcases List.suffix_cons_iff.1 hs with h | h
    · rw [h]; exact ⟨hN, hD⟩
    · exact ih hD.inv.1 h
theorem DrT.uniq {es : List Ent} {h1 h2 : H} (a : DrT tt ops en call t h0 es h1) (b : DrT tt ops en call t h0 es h2) : h1 = h2 := by
  cases es with
  | nil => cases a; cases b; rfl
  | cons e es =>
    have g1 := a.inv.2.2.1
    have g2 := b.inv.2.2.1
    rw [g1] at g2
    injection g2
theorem doA_par {k : KA} {sv : Src → V} {ob : O} {mk : BP → V} (h : doA k sv = some (ob, mk)) : parO ob = none := by
  cases k with
  | alloc z => obtain ⟨rfl, _⟩ := Prod.mk.inj (Option.some.inj (show some (O.c z none true, fun x => V.p x 0) = some (ob, mk) from h)); rfl
  | box n s =>
    obtain ⟨_, h⟩ := bcase_ne' (show bcase (isT 0 (sv s)) (bcase (lenIs n (cellsV (sv s))) none (some (O.c (cellsV (sv s)) none true, fun x => V.p x 0))) none = some (ob, mk) from h) (by simp)
    obtain ⟨_, h⟩ := bcase_ne h (by simp)
    obtain ⟨rfl, _⟩ := Prod.mk.inj (Option.some.inj h); rfl
  | bslice sz n z ps =>
    obtain ⟨l, _, h⟩ := ocase_ne (show ocase (place (srcP sv ps) z) none (fun l => some (O.c l none true, fun x => V.sl x 0 sz n)) = some (ob, mk) from h) (by simp)
    obtain ⟨rfl, _⟩ := Prod.mk.inj (Option.some.inj h); rfl
  | mkslice sz z l c =>
    obtain ⟨_, l, _, h⟩ := asNat_ne (show asNat (sv l) none (fun l => asNat (sv c) none (fun c => bcase (Nat.ble l c) none (bcase (small c) none (bcase (small l) none (some (O.c (rep z c) none true, fun x => V.sl x 0 sz l)))))) = some (ob, mk) from h) (by simp)
    obtain ⟨_, c, _, h⟩ := asNat_ne h (by simp)
    obtain ⟨_, h⟩ := bcase_ne h (by simp)
    obtain ⟨_, h⟩ := bcase_ne h (by simp)
    obtain ⟨_, h⟩ := bcase_ne h (by simp)
    obtain ⟨rfl, _⟩ := Prod.mk.inj (Option.some.inj h); rfl
  | mkmap => obtain ⟨rfl, _⟩ := Prod.mk.inj (Option.some.inj (show some (O.m [], fun x => V.m x) = some (ob, mk) from h)); rfl
  | s2b s =>
    obtain ⟨l, _, h⟩ := onS_ne (show onS (sv s) none (fun l => bcase (small (Ev.len l)) none (some (O.c (zs l) none true, fun x => V.sl x 0 1 (Ev.len l)))) = some (ob, mk) from h) (by simp)
    obtain ⟨_, h⟩ := bcase_ne h (by simp)
    obtain ⟨rfl, _⟩ := Prod.mk.inj (Option.some.inj h); rfl
theorem drawOk_pair {ents : List Ent} (h : drawOk (tks ents) = true) : ∀ {e : Ent} {es : List Ent}, (e :: es) <:+ ents → ∀ p ∈ es, pairOk e.k p.k = true ∧ p.k.i ≠ e.k.i := by
  induction ents with
  | nil => intro e es hs; have := List.IsSuffix.length_le hs; simp at this
  | cons x xs ih =>
    intro e es hs p hp
    have h' : (((tks xs).all (pairOk x.k) && !((tks xs).any fun p => Nat.beq p.i x.k.i)) && drawOk (tks xs)) = true := h
    simp only [Bool.and_eq_true, Bool.not_eq_true'] at h'
    rcases List.suffix_cons_iff.1 hs with h1 | h1
    · injection h1 with g1 g2
      subst g1; subst g2
      have hpk : p.k ∈ tks es := List.mem_map_of_mem hp
      refine ⟨List.all_eq_true.1 h'.1.1 _ hpk, fun e => ?_⟩
      have := List.any_eq_false.1 h'.1.2 _ hpk
      rw [e, Nat.beq_refl] at this; exact this rfl
    · exact ih h'.2 h1 p hp
theorem suffix_trans' {e : Ent} {es l m : List Ent} (h : (e :: es) <:+ l) (k : l <:+ m) : (e :: es) <:+ m := h.trans k
theorem drawOk_dup {ents : List Ent} (hok : drawOk (tks ents) = true) {l1 l2 : List Ent} {e : Ent} (h : ents = l1 ++ (e :: l2)) (he : e ∈ l1) : False := by
  obtain ⟨pre, post, hpre⟩ := List.append_of_mem he
  have hs : (e :: (post ++ e :: l2)) <:+ ents := ⟨pre, by rw [h, hpre]; simp⟩
  exact (drawOk_pair hok hs e (by simp)).2 rfl
theorem mem_suffix {e : Ent} : ∀ {l : List Ent}, e ∈ l → ∃ es, (e :: es) <:+ l
  | [], h => by cases h
  | x :: xs, h => by
    rcases List.mem_cons.1 h with rfl | h
    · exact ⟨xs, List.suffix_refl _⟩
    · obtain ⟨es, h⟩ := mem_suffix h; exact ⟨es, h.trans (List.suffix_cons ..)⟩
/-- A light one that may still come up gives what it gave. -/
def LOk (en : En) (t : Tr V) (ρ : Pl) (e : Ent) (es : List Ent) (hc : H) : Prop := ∃ b, want (src (vals es) t) e.k.g = some b ∧ (b = false → e.v = .u []) ∧ (b = true → match e.k.k with
  | .pu k => doP k en (src (vals es) t) = some e.v
  | .rd k => doR k en (src (vals es) t) hc = some e.v
  | .al k => ∃ ob mk, doA k (src (vals es) t) = some (ob, mk) ∧ e.v = mk (nx e.hb) ∧ obj hc (nx e.hb) = some ob ∧ ρ (nx e.hb) = none
  | _ => False)
def AlP (en : En) (t : Tr V) (e : Ent) (es : List Ent) : Prop := (∃ k, e.k.k = .al k) ∧ want (src (vals es) t) e.k.g = some true
structure Inv (Df : List Deferred) (tt : TT) (ops : Array Oper) (en : En) (call : Nat → List V → H → R1) (t : Tr V) (h0 : H) (ν : Nat → Int) (W : Bas) (nt : Nat) (ρ0 : Pl) (ents later cur : List Ent) (hc : H) (ρ : Pl) (listed : Array Bool) (a : Act) (w : World) : Prop where
  all : ents = later ++ cur
  dr : DrT tt ops en call t h0 cur hc
  rel : Rel ν W ρ hc w
  ext : Ext h0 ρ0 hc ρ
  sz : listed.size = ops.size
  late : ∀ e ∈ later, listed.getD e.k.i false = false
  hvy : ∀ e ∈ cur, heavyK e.k.k = true → listed.getD e.k.i false = true
  lgt : ∀ e es, (e :: es) <:+ cur → listed.getD e.k.i false = false → LOk en t ρ e es hc
  dist : ∀ e es e' es', (e :: es) <:+ cur → (e' :: es') <:+ cur → listed.getD e.k.i false = false → listed.getD e'.k.i false = false → AlP en t e es → AlP en t e' es' → e.k.i ≠ e'.k.i → nx e.hb ≠ nx e'.hb
  dc : ∀ e ∈ ents, listed.getD e.k.i false = true → ∀ j, bit e.k.anc j = true → listed.getD j false = true
  slot1 : ∀ n, n < 100000 → ∀ e ∈ ents, e.k.dst = some n → listed.getD e.k.i false = true → VR ν ρ e.v (a.tmps.getD n undef)
  slot2 : ∀ n, n < 100000 → (∀ e ∈ ents, e.k.dst = some n → listed.getD e.k.i false = false) → ∀ v, get (bpOf n) t = some v → VR ν ρ v (a.tmps.getD n undef)
  glob : ∀ g v, get (bpOf (100000 + g)) t = some v → VR ν ρ v (.pointer (some ⟨g, 0, none⟩))
  defers : a.defers = Df
  size : nt ≤ a.tmps.size
  lo : ∀ e es, (e :: es) <:+ cur → bpN (nx h0) ≤ bpN (nx e.hb)
theorem heavyK_cases (k : K) : heavyK k = true ∨ (∃ q, k = .pu q) ∨ (∃ q, k = .rd q) ∨ ∃ q, k = .al q := by cases k <;> simp [heavyK]
/-- The next light one in the order of evaluation: nothing has to happen. -/
theorem Inv.advance {W : Bas} {ρ0 : Pl} {ents later cur : List Ent} {hc : H} {listed : Array Bool} {e : Ent} {hN : H} (hD : DrT tt ops en call t h0 ents hN) (I : Inv Df tt ops en call t h0 ν W nt ρ0 ents (later ++ [e]) cur hc ρ listed a w) (hl : heavyK e.k.k = false) :
    ∃ hc', Inv Df tt ops en call t h0 ν W nt ρ0 ents later (e :: cur) hc' ρ listed a w := by
  have hall : ents = later ++ (e :: cur) := by rw [I.all]; simp
  have hsuf : (e :: cur) <:+ ents := ⟨later, hall.symm⟩
  obtain ⟨hc', hD'⟩ := hD.suffix hsuf
  obtain ⟨hDc, hok, hdg, _⟩ := hD'.inv
  obtain rfl : e.hb = hc := hDc.uniq I.dr
  have hdom : ∀ x ob, obj e.hb x = some ob → x ≠ nx e.hb := fun x ob hx hx' => by
    have := I.rel.dom x ob hx; rw [hx'] at this; exact Nat.lt_irrefl _ this
  -- what it gives
  have key : (hc' = e.hb ∧ LOk en t ρ e cur e.hb ∧ ¬ AlP en t e cur) ∨ ∃ ob, parO ob = none ∧ hc' = addO e.hb ob ∧ LOk en t ρ e cur hc' := by
    unfold doG at hdg
    obtain ⟨b, hb, hdg⟩ := ocase_ne hdg (by simp)
    cases b with
    | false =>
      have hdg' : R1.ok (V.u []) e.hb = .ok e.v hc' := hdg
      injection hdg' with g1 g2
      refine .inl ⟨g2.symm, ⟨false, hb, fun _ => g1.symm, fun h => by cases h⟩, fun ha => ?_⟩
      have := ha.2; rw [hb] at this; cases this
    | true =>
      have hdg' : doK e.k.k en call (src (vals cur) t) e.hb = .ok e.v hc' := hdg
      rcases heavyK_cases e.k.k with h1 | ⟨q, h1⟩ | ⟨q, h1⟩ | ⟨q, h1⟩
      · rw [hl] at h1; cases h1
      · rw [h1] at hdg'
        obtain ⟨g1, g2⟩ := okR_ok (show okR (doP q en (src (vals cur) t)) e.hb 90 = .ok e.v hc' from hdg')
        refine .inl ⟨g2, ⟨true, hb, fun h => (by cases h), fun _ => by rw [h1]; exact g1⟩, fun ha => ?_⟩
        obtain ⟨k, hk⟩ := ha.1; rw [h1] at hk; cases hk
      · rw [h1] at hdg'
        obtain ⟨g1, g2⟩ := okR_ok (show okR (doR q en (src (vals cur) t) e.hb) e.hb 91 = .ok e.v hc' from hdg')
        refine .inl ⟨g2, ⟨true, hb, fun h => (by cases h), fun _ => by rw [h1]; exact g1⟩, fun ha => ?_⟩
        obtain ⟨k, hk⟩ := ha.1; rw [h1] at hk; cases hk
      · rw [h1] at hdg'
        obtain ⟨⟨ob, mk⟩, h2, h3⟩ := ocase_ne (show ocase (doA q (src (vals cur) t)) (R1.bad 92) (fun p => fresh e.hb p.1 p.2) = .ok e.v hc' from hdg') (by simp)
        rw [fresh_eq] at h3
        injection h3 with g1 g2
        obtain ⟨o, ho, _, hk, _⟩ := hok
        refine .inr ⟨ob, doA_par h2, g2.symm, ⟨true, hb, fun h => (by cases h), fun _ => ?_⟩⟩
        rw [h1]
        exact ⟨ob, mk, h2, g1.symm, by rw [← g2, obj_addO, if_pos rfl], I.rel.idle⟩
  have hsc : ∀ {x : Ent} {es : List Ent}, (x :: es) <:+ (e :: cur) → (x = e ∧ es = cur) ∨ (x :: es) <:+ cur := fun hs => by
    rcases List.suffix_cons_iff.1 hs with h | h
    · injection h with h1 h2; exact .inl ⟨h1, h2⟩
    · exact .inr h
  have hlo2 : ∀ x xs, (x :: xs) <:+ (e :: cur) → bpN (nx h0) ≤ bpN (nx x.hb) := fun x xs hs => by
    rcases hsc hs with ⟨rfl, rfl⟩ | h
    · exact I.ext.nx
    · exact I.lo x xs h
  refine ⟨hc', ?_⟩
  rcases key with ⟨rfl, hlo, hna⟩ | ⟨ob, hp, rfl, hlo⟩
  · refine ⟨hall, hD', I.rel, I.ext, I.sz, fun x hx => I.late x (by simp [hx]), ?_, ?_, ?_, I.dc, I.slot1, I.slot2, I.glob, I.defers, I.size, hlo2⟩
    · intro x hx hh
      rcases List.mem_cons.1 hx with rfl | hx
      · rw [hl] at hh; cases hh
      · exact I.hvy x hx hh
    · intro x es hs hu
      rcases hsc hs with ⟨rfl, rfl⟩ | hs
      · exact hlo
      · exact I.lgt x es hs hu
    · intro x es x' es' hs hs' hu hu' ha ha' hne
      rcases hsc hs with ⟨rfl, rfl⟩ | ks <;> rcases hsc hs' with ⟨rfl, rfl⟩ | ks'
      · exact absurd rfl hne
      · exact absurd ha hna
      · exact absurd ha' hna
      · exact I.dist x es x' es' ks ks' hu hu' ha ha' hne
  · have hR : Rel ν W ρ (addO e.hb ob) w := I.rel.add ob (fun y hy => by rw [hp] at hy; cases hy) (fun y hy => by rw [hp] at hy; cases hy)
    have hid : ∀ {x : Ent} {es : List Ent}, (x :: es) <:+ cur → listed.getD x.k.i false = false → AlP en t x es → nx x.hb ≠ nx e.hb := by
      intro x es hs hu ha
      obtain ⟨b, hb, _, h2⟩ := I.lgt x es hs hu
      obtain ⟨⟨k, hk⟩, hw⟩ := ha
      rw [hw] at hb; obtain rfl := Option.some.inj hb
      have := h2 rfl
      rw [hk] at this
      obtain ⟨ob', mk, _, _, h5, _⟩ := this
      exact hdom _ _ h5
    refine ⟨hall, hD', hR, ⟨I.ext.le, I.ext.idle, Nat.le_trans I.ext.nx (by rw [nx_addO]; omega)⟩, I.sz, fun x hx => I.late x (by simp [hx]), ?_, ?_, ?_, I.dc, I.slot1, I.slot2, I.glob, I.defers, I.size, hlo2⟩
    · intro x hx hh
      rcases List.mem_cons.1 hx with rfl | hx
      · rw [hl] at hh; cases hh
      · exact I.hvy x hx hh
    · intro x es hs hu
      rcases hsc hs with ⟨rfl, rfl⟩ | hs
      · exact hlo
      · obtain ⟨b, hb, h1, h2⟩ := I.lgt x es hs hu
        refine ⟨b, hb, h1, fun hbt => ?_⟩
        have h3 := h2 hbt
        rcases heavyK_cases x.k.k with g | ⟨q, g⟩ | ⟨q, g⟩ | ⟨q, g⟩
        · have := I.hvy x (hs.subset (List.mem_cons_self ..)) g; rw [hu] at this; cases this
        · rw [g] at h3 ⊢; exact h3
        · rw [g] at h3 ⊢; exact doR_add hdom ob h3
        · rw [g] at h3 ⊢
          obtain ⟨ob', mk, g1, g2, g3, g4⟩ := h3
          exact ⟨ob', mk, g1, g2, by rw [obj_addO, if_neg (hdom _ _ g3)]; exact g3, g4⟩
    · intro x es x' es' hs hs' hu hu' ha ha' hne
      rcases hsc hs with ⟨rfl, rfl⟩ | ks <;> rcases hsc hs' with ⟨rfl, rfl⟩ | ks'
      · exact absurd rfl hne
      · exact fun h => hid ks' hu' ha' h.symm
      · exact hid ks hu ha
      · exact I.dist x es x' es' ks ks' hu hu' ha ha' hne
theorem suffix_cmp {ents : List Ent} {e e' : Ent} {es es' : List Ent} (h : (e :: es) <:+ ents) (h' : (e' :: es') <:+ ents) : (e = e' ∧ es = es') ∨ (e :: es) <:+ es' ∨ (e' :: es') <:+ es := by
  rcases List.suffix_or_suffix_of_suffix h h' with k | k
  · rcases List.suffix_cons_iff.1 k with g | g
    · injection g with g1 g2; exact .inl ⟨g1, g2⟩
    · exact .inr (.inl g)
  · rcases List.suffix_cons_iff.1 k with g | g
    · injection g with g1 g2; exact .inl ⟨g1.symm, g2.symm⟩
    · exact .inr (.inr g)
theorem bit_ancs {tk : List Tk} {j' : Nat} : ∀ {l : List Nat}, bit (ancs tk l) j' = true → ∃ j ∈ l, j = j' ∨ bit (ancOf tk j) j' = true
  | [], h => by rw [show ancs tk [] = 0 from rfl, bit_eq, Nat.zero_testBit] at h; cases h
  | j :: l, h => by
    have h' : bit (Nat.lor (Nat.lor (Nat.shiftLeft 1 j) (ancOf tk j)) (ancs tk l)) j' = true := h
    rw [bit_or, bit_or, bit_one, Bool.or_eq_true, Bool.or_eq_true] at h'
    rcases h' with (h' | h') | h'
    · exact ⟨j, List.mem_cons_self .., .inl (of_decide_eq_true h')⟩
    · exact ⟨j, List.mem_cons_self .., .inr h'⟩
    · obtain ⟨q, h1, h2⟩ := bit_ancs h'; exact ⟨q, List.mem_cons_of_mem _ h1, h2⟩
theorem bit_ancOf {j j' : Nat} : ∀ {tk : List Tk}, bit (ancOf tk j) j' = true → ∃ k ∈ tk, k.i = j ∧ bit k.anc j' = true
  | [], h => by rw [show ancOf [] j = 0 from rfl, bit_eq, Nat.zero_testBit] at h; cases h
  | k :: l, h => by
    have h' : bit (bif Nat.beq k.i j then k.anc else ancOf l j) j' = true := h
    cases hb : Nat.beq k.i j with
    | true => rw [hb] at h'; exact ⟨k, List.mem_cons_self .., Nat.eq_of_beq_eq_true hb, h'⟩
    | false => rw [hb] at h'; obtain ⟨q, h1, h2⟩ := bit_ancOf h'; exact ⟨q, List.mem_cons_of_mem _ h1, h2⟩
theorem locOf_some {n : Nat} : ∀ {l : List (Option Tmp)} {i : Nat}, locOf n l 0 = some i → l[i]? = some (some n)
  | [], i, h => by cases h
  | d :: l, i, h => by
    rw [locOf_cons] at h
    split at h
    · rename_i e; obtain rfl := Option.some.inj h; simp [e]
    · obtain ⟨j, h1, rfl⟩ := Option.map_eq_some_iff.1 h
      simpa using locOf_some h1
theorem locOf_none {n : Nat} : ∀ {l : List (Option Tmp)}, locOf n l 0 = none → some n ∉ l
  | [], _ => by simp
  | d :: l, h => by
    rw [locOf_cons] at h
    split at h
    · cases h
    · rename_i e
      have h1 : locOf n l 0 = none := by
        cases hl : locOf n l 0 with
        | none => rfl
        | some i => rw [hl] at h; cases h
      intro hm
      rcases List.mem_cons.1 hm with hm | hm
      · exact e hm.symm
      · exact locOf_none h1 hm
section
variable {W : Bas} {ρ0 : Pl} {ents later cur : List Ent} {hc : H} {listed : Array Bool} {e : Ent} {es : List Ent} {hN : H}
/-- All that one that comes up looks at stands as it should. -/
theorem Inv.looks (hD : DrT tt ops en call t h0 ents hN) (hok : drawOk (tks ents) = true) (I : Inv Df tt ops en call t h0 ν W nt ρ0 ents later cur hc ρ listed a w) (hs : (e :: es) <:+ ents) (hu : listed.getD e.k.i false = false) (hr : e.k.i ∈ Region.ready .any ops listed) :
    (∀ j, bit e.k.anc j = true → listed.getD j false = true) ∧ ∀ n, n < 100000 → n ∈ e.k.looks → SlotR ν ρ t (tks es) (vals es) a n := by
  obtain ⟨h', hD'⟩ := hD.suffix hs
  obtain ⟨_, ⟨o, ho, hg, hk, hd, hanc, hlk, hed⟩, _, _⟩ := hD'.inv
  obtain ⟨_, o', ho', hall⟩ := mem_ready.1 hr
  rw [ho] at ho'; obtain rfl := Option.some.inj ho'
  have hdir : ∀ j ∈ edgesOf o, listed.getD j false = true := by
    intro j hj
    unfold edgesOf at hj
    obtain ⟨ed, h1, rfl⟩ := List.mem_map.1 hj
    obtain ⟨h2, h3⟩ := List.mem_filter.1 h1
    exact hall ed (by simpa using h2) h3
  have hbits : ∀ j, bit e.k.anc j = true → listed.getD j false = true := by
    intro j hj
    rw [hanc] at hj
    obtain ⟨q, h1, h2⟩ := bit_ancs hj
    rcases h2 with rfl | h2
    · exact hdir q h1
    · obtain ⟨k, h3, h4, h5⟩ := bit_ancOf h2
      obtain ⟨x, hx, rfl⟩ := List.mem_map.1 h3
      exact I.dc x (hs.subset (List.mem_cons_of_mem _ hx)) (by rw [h4]; exact hdir q h1) j h5
  refine ⟨hbits, fun n hn hnl => ?_⟩
  unfold SlotR
  split
  · rename_i i hi
    have h1 := locOf_some hi
    rw [List.getElem?_map] at h1
    obtain ⟨k, h2, h3⟩ := Option.map_eq_some_iff.1 h1
    unfold tks at h2
    rw [List.getElem?_map] at h2
    obtain ⟨p, h4, rfl⟩ := Option.map_eq_some_iff.1 h2
    have hp : p ∈ es := List.mem_of_getElem? h4
    have hpair := (drawOk_pair hok hs p hp).1
    have hclash : clash e.k p.k = true := by
      unfold clash; rw [h3]
      simp only [Bool.or_eq_true, List.any_eq_true]
      exact .inl ⟨n, hnl, Nat.beq_refl n⟩
    have hb : bit e.k.anc p.k.i = true := by
      unfold pairOk at hpair
      rw [hclash] at hpair
      simp only [Bool.true_or, cond_true, Bool.and_eq_true] at hpair
      exact hpair.2
    refine ⟨p.v, by unfold vals; rw [List.getElem?_map, h4]; rfl, I.slot1 n hn p (hs.subset (List.mem_cons_of_mem _ hp)) h3 (hbits _ hb)⟩
  · rename_i hi
    have h1 := locOf_none hi
    refine I.slot2 n hn (fun x hx hxd => ?_)
    obtain ⟨xs, hxs⟩ := mem_suffix hx
    rcases suffix_cmp hs hxs with ⟨rfl, rfl⟩ | h2 | h2
    · exact hu
    · cases hl : listed.getD x.k.i false with
      | false => rfl
      | true =>
        exfalso
        have hp : e ∈ xs := h2.subset (List.mem_cons_self ..)
        have hpair := (drawOk_pair hok hxs e hp).1
        have hclash : clash x.k e.k = true := by
          unfold clash; rw [hxd]
          simp only [Bool.or_eq_true, List.any_eq_true]
          exact .inr ⟨n, hnl, Nat.beq_refl n⟩
        have hb : bit x.k.anc e.k.i = true := by
          unfold pairOk at hpair
          rw [hclash] at hpair
          simp only [Bool.true_or, cond_true, Bool.and_eq_true] at hpair
          exact hpair.2
        have := I.dc x hx hl _ hb
        rw [hu] at this; cases this
    · exfalso
      apply h1
      have hx' : x ∈ es := h2.subset (List.mem_cons_self ..)
      exact List.mem_map.2 ⟨x.k, List.mem_map_of_mem hx', hxd⟩
theorem Inv.slots (hok : drawOk (tks ents) = true) (I : Inv Df tt ops en call t h0 ν W nt ρ0 ents later cur hc ρ listed a w) (hs : (e :: es) <:+ ents) (hu : listed.getD e.k.i false = false) (hlt : e.k.i < listed.size) {ρ' : Pl} (hle : ρ.le ρ') {u : Value} (hv : VR ν ρ' e.v u) (hd : ∀ m, e.k.dst = some m → m < nt) :
    (∀ n, n < 100000 → ∀ x ∈ ents, x.k.dst = some n → (listed.setIfInBounds e.k.i true).getD x.k.i false = true → VR ν ρ' x.v ((a.put e.k.dst u).tmps.getD n undef)) ∧
    (∀ n, n < 100000 → (∀ x ∈ ents, x.k.dst = some n → (listed.setIfInBounds e.k.i true).getD x.k.i false = false) → ∀ v, get (bpOf n) t = some v → VR ν ρ' v ((a.put e.k.dst u).tmps.getD n undef)) := by
  have hd' : ∀ m, e.k.dst = some m → m < a.tmps.size := fun m h => Nat.lt_of_lt_of_le (hd m h) I.size
  have heq : ∀ x ∈ ents, x.k.i = e.k.i → x = e := by
    intro x hx hi
    obtain ⟨xs, hxs⟩ := mem_suffix hx
    rcases suffix_cmp hs hxs with ⟨h, _⟩ | h | h
    · exact h.symm
    · exact absurd hi.symm (drawOk_pair hok hxs e (h.subset (List.mem_cons_self ..))).2
    · exact absurd hi (drawOk_pair hok hs x (h.subset (List.mem_cons_self ..))).2
  have hdst : ∀ x ∈ ents, ∀ n, x.k.dst = some n → e.k.dst = some n → x = e := by
    intro x hx n h1 h2
    obtain ⟨xs, hxs⟩ := mem_suffix hx
    rcases suffix_cmp hs hxs with ⟨h, _⟩ | h | h
    · exact h.symm
    · have := (drawOk_pair hok hxs e (h.subset (List.mem_cons_self ..))).1
      unfold pairOk sameDst at this
      rw [h1, h2] at this; simp [Nat.beq_refl] at this
    · have := (drawOk_pair hok hs x (h.subset (List.mem_cons_self ..))).1
      unfold pairOk sameDst at this
      rw [h1, h2] at this; simp [Nat.beq_refl] at this
  have hset : ∀ j, j ≠ e.k.i → (listed.setIfInBounds e.k.i true).getD j false = listed.getD j false := fun j hj => getD_set_ne false (fun h => hj h.symm)
  have hself : (listed.setIfInBounds e.k.i true).getD e.k.i false = true := by simp [hlt]
  constructor
  · intro n hn x hx hxd hxl
    rw [put_getD a e.k.dst u n hd']
    by_cases h : e.k.dst = some n
    · rw [if_pos h, hdst x hx n hxd h]; exact hv
    · rw [if_neg h]
      by_cases hi : x.k.i = e.k.i
      · rw [heq x hx hi] at hxd; exact absurd hxd h
      · rw [hset _ hi] at hxl
        exact VR.mono ν hle _ _ (I.slot1 n hn x hx hxd hxl)
  · intro n hn hall v hv'
    have hne : e.k.dst ≠ some n := fun h => by
      have := hall e (hs.subset (List.mem_cons_self ..)) h
      rw [hself] at this; cases this
    rw [put_getD a e.k.dst u n hd', if_neg hne]
    refine VR.mono ν hle _ _ (I.slot2 n hn (fun x hx hxd => ?_) v hv')
    have h1 := hall x hx hxd
    have hi : x.k.i ≠ e.k.i := fun hi => by rw [hi, hself] at h1; cases h1
    rwa [hset _ hi] at h1
theorem Inv.dc' (hok : drawOk (tks ents) = true) (I : Inv Df tt ops en call t h0 ν W nt ρ0 ents later cur hc ρ listed a w) (hs : (e :: es) <:+ ents) (hb : ∀ j, bit e.k.anc j = true → listed.getD j false = true) :
    ∀ x ∈ ents, (listed.setIfInBounds e.k.i true).getD x.k.i false = true → ∀ j, bit x.k.anc j = true → (listed.setIfInBounds e.k.i true).getD j false = true := by
  intro x hx hl j hj
  by_cases hi : x.k.i = e.k.i
  · have : x = e := by
      obtain ⟨xs, hxs⟩ := mem_suffix hx
      rcases suffix_cmp hs hxs with ⟨h, _⟩ | h | h
      · exact h.symm
      · exact absurd hi.symm (drawOk_pair hok hxs e (h.subset (List.mem_cons_self ..))).2
      · exact absurd hi (drawOk_pair hok hs x (h.subset (List.mem_cons_self ..))).2
    subst this
    exact getD_set_true (hb j hj)
  · rw [getD_set_ne false (fun h => hi h.symm)] at hl
    exact getD_set_true (I.dc x hx hl j hj)
theorem holds_obj {h : H} {ob : O} {x : BP} {v : V} (hp : parO ob = none) (ho : ownO ob = true) (hv : v = .p x 0 ∨ (∃ o s n, v = .sl x o s n) ∨ v = .m x) (hh : holds h ob v = true) : obj h x = some ob := by
  have h1 : ocs ob (oms ob false (fun es => bcase (isEmp es) false (onMp (obj h x) false isEmp))) (fun l _ _ => onC (obj h x) false (fun l' p w => bcase w false (ocase p (vsBeq l l') (fun _ => false)))) = true := by
    rcases hv with rfl | ⟨o, s, n, rfl⟩ | rfl <;> exact hh
  cases ob with
  | c l p w =>
    obtain ⟨l', p', w', e, h2⟩ := onC_ne (show onC (obj h x) false (fun l' p w => bcase w false (ocase p (vsBeq l l') (fun _ => false))) = true from h1) (by simp)
    obtain ⟨rfl, h3⟩ := bcase_ne h2 (by simp)
    cases p' with
    | some y => cases h3
    | none =>
      rw [vsBeq_eq (show vsBeq l l' = true from h3), e]
      have hp' : p = none := hp
      have ho' : w = true := ho
      rw [hp', ho']
  | m es =>
    obtain ⟨h2, h3⟩ := bcase_ne (show bcase (isEmp es) false (onMp (obj h x) false isEmp) = true from h1) (by simp)
    obtain ⟨es', e, h4⟩ := onMp_ne h3 (by simp)
    have g1 : es = [] := by cases es <;> first | rfl | cases h2
    have g2 : es' = [] := by cases es' <;> first | rfl | cases h4
    rw [e, g1, g2]
theorem doA_own {k : KA} {sv : Src → V} {ob : O} {mk : BP → V} (h : doA k sv = some (ob, mk)) (x : BP) : ownO ob = true ∧ (mk x = .p x 0 ∨ (∃ o s n, mk x = .sl x o s n) ∨ mk x = .m x) := by
  cases k with
  | alloc z => obtain ⟨rfl, rfl⟩ := Prod.mk.inj (Option.some.inj (show some (O.c z none true, fun x => V.p x 0) = some (ob, mk) from h)); exact ⟨rfl, .inl rfl⟩
  | box n s =>
    obtain ⟨_, h⟩ := bcase_ne' (show bcase (isT 0 (sv s)) (bcase (lenIs n (cellsV (sv s))) none (some (O.c (cellsV (sv s)) none true, fun x => V.p x 0))) none = some (ob, mk) from h) (by simp)
    obtain ⟨_, h⟩ := bcase_ne h (by simp)
    obtain ⟨rfl, rfl⟩ := Prod.mk.inj (Option.some.inj h); exact ⟨rfl, .inl rfl⟩
  | bslice sz n z ps =>
    obtain ⟨l, _, h⟩ := ocase_ne (show ocase (place (srcP sv ps) z) none (fun l => some (O.c l none true, fun x => V.sl x 0 sz n)) = some (ob, mk) from h) (by simp)
    obtain ⟨rfl, rfl⟩ := Prod.mk.inj (Option.some.inj h); exact ⟨rfl, .inr (.inl ⟨_, _, _, rfl⟩)⟩
  | mkslice sz z l c =>
    obtain ⟨_, l, _, h⟩ := asNat_ne (show asNat (sv l) none (fun l => asNat (sv c) none (fun c => bcase (Nat.ble l c) none (bcase (small c) none (bcase (small l) none (some (O.c (rep z c) none true, fun x => V.sl x 0 sz l)))))) = some (ob, mk) from h) (by simp)
    obtain ⟨_, c, _, h⟩ := asNat_ne h (by simp)
    obtain ⟨_, h⟩ := bcase_ne h (by simp)
    obtain ⟨_, h⟩ := bcase_ne h (by simp)
    obtain ⟨_, h⟩ := bcase_ne h (by simp)
    obtain ⟨rfl, rfl⟩ := Prod.mk.inj (Option.some.inj h); exact ⟨rfl, .inr (.inl ⟨_, _, _, rfl⟩)⟩
  | mkmap => obtain ⟨rfl, rfl⟩ := Prod.mk.inj (Option.some.inj (show some (O.m [], fun x => V.m x) = some (ob, mk) from h)); exact ⟨rfl, .inr (.inr rfl)⟩
  | s2b s =>
    obtain ⟨l, _, h⟩ := onS_ne (show onS (sv s) none (fun l => bcase (small (Ev.len l)) none (some (O.c (zs l) none true, fun x => V.sl x 0 1 (Ev.len l)))) = some (ob, mk) from h) (by simp)
    obtain ⟨_, h⟩ := bcase_ne h (by simp)
    obtain ⟨rfl, rfl⟩ := Prod.mk.inj (Option.some.inj h); exact ⟨rfl, .inr (.inl ⟨_, _, _, rfl⟩)⟩
theorem agains_mem {anc : Nat} {q : Tk} : ∀ {tk : List Tk} {d n : Nat}, tk[d]? = some q → looksK q.k = true → bit anc q.i = false → Ag.mk (n + d) q.g q.k ∈ agains anc tk n
  | [], d, n, h, _, _ => by simp at h
  | k :: l, d, n, h, h1, h2 => by
    simp only [agains]
    cases d with
    | zero =>
      obtain rfl : k = q := by simpa using h
      rw [h1, h2]; exact List.mem_cons_self ..
    | succ d =>
      have := agains_mem (anc := anc) (n := n + 1) (show l[d]? = some q by simpa using h) h1 h2
      rw [show n + 1 + d = n + (d + 1) by omega] at this
      cases (looksK k.k && !(bit anc k.i)) with
      | true => exact List.mem_cons_of_mem _ this
      | false => exact this
theorem stills_mem {r : List V} {h : H} : ∀ {l : List Ag}, stills en t r h l = true → ∀ x ∈ l, stillA x en t r h = true
  | [], _, x, hx => by cases hx
  | y :: l, hs, x, hx => by
    obtain ⟨h1, h2⟩ := bcase_ne (show bcase (stillA y en t r h) false (stills en t r h l) = true from hs) (by simp)
    rcases List.mem_cons.1 hx with rfl | hx
    · exact h1
    · exact stills_mem h2 x hx
theorem suffix_drop {p : Ent} {ps cur : List Ent} (h : (p :: ps) <:+ cur) : ∃ d, cur[d]? = some p ∧ cur.drop (d + 1) = ps := by
  obtain ⟨l, rfl⟩ := h
  exact ⟨l.length, by simp, by simp⟩
/-- A light one behind a heavy one. -/
theorem lok_after {h' : H} {p : Ent} {ps : List Ent} {ρ' : Pl} (hstill : stills en t (e.v :: vals cur) h' (agains e.k.anc (tks cur) 1) = true) (hs : (p :: ps) <:+ cur) (hl : heavyK p.k.k = false) (hb : bit e.k.anc p.k.i = false) (hok : Ok1 tt ops p ps)
    (hL : LOk en t ρ p ps hc) (hρ : ρ (nx p.hb) = none → obj hc (nx p.hb) ≠ none → ρ' (nx p.hb) = none) : LOk en t ρ' p ps h' := by
  obtain ⟨b, hw, h1, h2⟩ := hL
  refine ⟨b, hw, h1, fun hbt => ?_⟩
  have h3 := h2 hbt
  subst hbt
  obtain ⟨d, hd1, hd2⟩ := suffix_drop hs
  have htk : (tks cur)[d]? = some p.k := by unfold tks; rw [List.getElem?_map, hd1]; rfl
  have hst : looksK p.k.k = true → stillK p.k.k en (src (vals ps) t) h' p.v = true := by
    intro hlk
    have := stills_mem hstill _ (agains_mem (n := 1) htk hlk hb)
    have h4 : lcase (Ev.drop (1 + d) (e.v :: vals cur)) false (fun v r' => still en (src r' t) h' p.k.g p.k.k v) = true := this
    rw [drop_eq, show 1 + d = d + 1 by omega, List.drop_succ_cons] at h4
    have h5 : (vals cur).drop d = p.v :: vals ps := by
      unfold vals
      rw [← List.map_drop]
      have : cur.drop d = p :: ps := by
        rw [← hd2]
        exact List.drop_eq_getElem_cons (List.getElem?_eq_some_iff.1 hd1).1 ▸ by rw [(List.getElem?_eq_some_iff.1 hd1).2]
      rw [this]; rfl
    rw [h5] at h4
    have h6 : ocase (want (src (vals ps) t) p.k.g) false (fun b => bcase b true (stillK p.k.k en (src (vals ps) t) h' p.v)) = true := h4
    rw [hw] at h6
    exact h6
  rcases heavyK_cases p.k.k with g | ⟨q, g⟩ | ⟨q, g⟩ | ⟨q, g⟩
  · rw [hl] at g; cases g
  · rw [g] at h3 ⊢; exact h3
  · have h7 := hst (by rw [g]; rfl)
    rw [g] at h3 h7 ⊢
    obtain ⟨u, hu, h8⟩ := ocase_ne (show ocase (doR q en (src (vals ps) t) h') false (fun u => vBeq u p.v) = true from h7) (by simp)
    rw [vBeq_eq _ _ h8] at hu; exact hu
  · have h7 := hst (by rw [g]; rfl)
    rw [g] at h3 h7 ⊢
    obtain ⟨ob, mk, g1, g2, g3, g4⟩ := h3
    obtain ⟨⟨ob', mk'⟩, hu, h8⟩ := ocase_ne (show ocase (doA q (src (vals ps) t)) false (fun x => holds h' x.1 p.v) = true from h7) (by simp)
    rw [g1] at hu
    obtain ⟨rfl, rfl⟩ := Prod.mk.inj (Option.some.inj hu)
    obtain ⟨o1, o2⟩ := doA_own g1 (nx p.hb)
    rw [← g2] at o2
    exact ⟨ob, mk, g1, g2, holds_obj (doA_par g1) o1 o2 h8, hρ g4 (by rw [g3]; simp)⟩
theorem Inv.norm (hD : DrT tt ops en call t h0 ents hN) : ∀ (n : Nat) (later cur : List Ent) (hc : H), later.length = n → Inv Df tt ops en call t h0 ν W nt ρ0 ents later cur hc ρ listed a w →
    ∃ later' cur' hc', Inv Df tt ops en call t h0 ν W nt ρ0 ents later' cur' hc' ρ listed a w ∧ (later' = [] ∨ ∃ l1 e, later' = l1 ++ [e] ∧ heavyK e.k.k = true)
  | 0, later, cur, hc, hn, I => ⟨later, cur, hc, I, .inl (List.eq_nil_of_length_eq_zero hn)⟩
  | n + 1, later, cur, hc, hn, I => by
    rcases List.eq_nil_or_concat later with h | ⟨l1, e, h⟩
    · subst h; simp at hn
    · rw [List.concat_eq_append] at h
      subst h
      cases hh : heavyK e.k.k with
      | true => exact ⟨_, _, _, I, .inr ⟨l1, e, rfl, hh⟩⟩
      | false =>
        obtain ⟨hc', I'⟩ := I.advance hD hh
        exact Inv.norm hD n l1 (e :: cur) hc' (by simpa using hn) I'
theorem first_unlisted : ∀ {l : List Ent}, (∃ e ∈ l, listed.getD e.k.i false = false) → ∃ e es, (e :: es) <:+ l ∧ listed.getD e.k.i false = false ∧ ∀ x ∈ es, listed.getD x.k.i false = true
  | [], h => by obtain ⟨e, he, _⟩ := h; cases he
  | x :: xs, h => by
    by_cases h2 : ∃ e ∈ xs, listed.getD e.k.i false = false
    · obtain ⟨e, es, h3, h4⟩ := first_unlisted h2
      exact ⟨e, es, h3.trans (List.suffix_cons ..), h4⟩
    · have hall : ∀ y ∈ xs, listed.getD y.k.i false = true := fun y hy => by
        cases hl : listed.getD y.k.i false with
        | true => rfl
        | false => exact absurd ⟨y, hy, hl⟩ h2
      obtain ⟨e, he, hl⟩ := h
      rcases List.mem_cons.1 he with rfl | he
      · exact ⟨e, xs, List.suffix_refl _, hl, hall⟩
      · rw [hall e he] at hl; cases hl
theorem countP_lt {p q : Nat → Bool} {x : Nat} : ∀ {l : List Nat}, x ∈ l → (∀ y, q y = true → p y = true) → p x = true → q x = false → l.countP q < l.countP p
  | [], h, _, _, _ => by cases h
  | y :: l, h, hpq, hp, hq => by
    have hle : l.countP q ≤ l.countP p := List.countP_mono_left (fun z _ hz => hpq z hz)
    rw [List.countP_cons, List.countP_cons]
    by_cases hxy : y = x
    · subst hxy; rw [hp, hq]; simp; omega
    · rcases List.mem_cons.1 h with h | h
      · exact absurd h.symm hxy
      · have := countP_lt h hpq hp hq
        cases hqy : q y with
        | false => simp; omega
        | true => rw [hpq y hqy]; simp; omega
end
theorem draw_main (hT : TTok P tt) (he : EnOk ν en) {W : Bas} (hcall : CallOk P ν W call) (hm : MtsOk P en.mts) (hnt : nt ≤ 100000) {ents : List Ent} {hN : H} (hD : DrT tt ops en call t h0 ents hN) (hok : drawOk (tks ents) = true) (hdst : ∀ e ∈ ents, ∀ m, e.k.dst = some m → m < nt)
    (hin : ∀ i, i < ops.size → ∃ e ∈ ents, e.k.i = i) {Q : Exit → Act → World → Prop} {ρ0 : Pl} (hQ : ∀ ρ' a' w', Rel ν W ρ' hN w' → Ext h0 ρ0 hN ρ' → Cur Df ν ρ' nt ops t (tks ents) (vals ents) a' → Q .normal a' w') :
    ∀ (fuel : Nat) (later cur : List Ent) (hc : H) (ρ : Pl) (listed : Array Bool) (a : Act) (w : World), Inv Df tt ops en call t h0 ν W nt ρ0 ents later cur hc ρ listed a w → (List.range ops.size).countP (fun i => !(listed.getD i true)) ≤ fuel → wpAny P .any ops Q fuel listed a w := by
  -- the end
  have fin : ∀ (later cur : List Ent) (hc : H) (ρ : Pl) (listed : Array Bool) (a : Act) (w : World), Inv Df tt ops en call t h0 ν W nt ρ0 ents later cur hc ρ listed a w → Region.ready .any ops listed = [] → Q .normal a w := by
    intro later cur hc ρ listed a w I hr
    have hall : ∀ e ∈ ents, listed.getD e.k.i false = true := by
      intro e0 he0
      cases hl : listed.getD e0.k.i false with
      | true => rfl
      | false =>
        exfalso
        obtain ⟨e, es, hs, hu, hes⟩ := first_unlisted ⟨e0, he0, hl⟩
        obtain ⟨h', hD'⟩ := hD.suffix hs
        obtain ⟨_, ⟨o, ho, _, _, _, _, _, hed⟩, _, _⟩ := hD'.inv
        have hlt : e.k.i < listed.size := by rw [I.sz]; exact (Array.getElem?_eq_some_iff.1 ho).1
        have : e.k.i ∈ Region.ready .any ops listed := by
          refine mem_ready.2 ⟨?_, o, ho, fun x hx hb => ?_⟩
          · have h2 := hu
            rw [Array.getD_eq_getD_getElem?, Array.getElem?_eq_getElem hlt] at h2 ⊢; exact h2
          · obtain ⟨q, hq, hqi⟩ := hed x.on (by unfold edgesOf; exact List.mem_map.2 ⟨x, List.mem_filter.2 ⟨by simpa using hx, hb⟩, rfl⟩)
            rw [← hqi]; exact hes q hq
        rw [hr] at this; cases this
    have hl0 : later = [] := by
      cases later with
      | nil => rfl
      | cons x xs =>
        have h1 := I.late x (List.mem_cons_self ..)
        rw [hall x (by rw [I.all]; simp)] at h1; cases h1
    subst hl0
    have hce : cur = ents := by rw [I.all]; rfl
    subst hce
    obtain rfl : hc = hN := I.dr.uniq hD
    refine hQ ρ a w I.rel I.ext ⟨by simp [vals, tks], fun n hn => ?_, I.glob, fun k hk => ?_, I.defers, I.size⟩
    · split
      · rename_i i hi
        have h1 := locOf_some hi
        rw [List.getElem?_map] at h1
        obtain ⟨k, h2, h3⟩ := Option.map_eq_some_iff.1 h1
        unfold tks at h2
        rw [List.getElem?_map] at h2
        obtain ⟨p, h4, rfl⟩ := Option.map_eq_some_iff.1 h2
        have hp := List.mem_of_getElem? h4
        exact ⟨p.v, by unfold vals; rw [List.getElem?_map, h4]; rfl, I.slot1 n hn p hp h3 (hall p hp)⟩
      · rename_i hi
        have h1 := locOf_none hi
        exact I.slot2 n hn (fun x hx hxd => absurd (List.mem_map.2 ⟨x.k, List.mem_map_of_mem hx, hxd⟩) h1)
    · obtain ⟨x, hx, rfl⟩ := List.mem_map.1 hk
      obtain ⟨xs, hxs⟩ := mem_suffix hx
      obtain ⟨h', hD'⟩ := hD.suffix hxs
      obtain ⟨_, ⟨o, ho, _, _, hd, _⟩, _, _⟩ := hD'.inv
      exact ⟨o, ho, hd.symm⟩
  intro fuel
  induction fuel with
  | zero =>
    intro later cur hc ρ listed a w I hcnt
    have hr : Region.ready .any ops listed = [] := by
      cases h : Region.ready .any ops listed with
      | nil => rfl
      | cons i rest =>
        exfalso
        have hi : i ∈ Region.ready .any ops listed := by rw [h]; exact List.mem_cons_self ..
        obtain ⟨h1, o, ho, _⟩ := mem_ready.1 hi
        have hlt := (Array.getElem?_eq_some_iff.1 ho).1
        have : 0 < (List.range ops.size).countP (fun i => !(listed.getD i true)) := List.countP_pos_iff.2 ⟨i, List.mem_range.2 hlt, by rw [h1]; rfl⟩
        omega
    exact ⟨hr, fin later cur hc ρ listed a w I hr⟩
  | succ fuel ih =>
    intro later0 cur0 hc0 ρ listed a w I0 hcnt
    obtain ⟨later, cur, hc, I, hlast⟩ := I0.norm hD _ later0 cur0 hc0 rfl
    refine ⟨fun hr => fin later cur hc ρ listed a w I hr, fun i hi => ?_⟩
    obtain ⟨hit, o', ho', _⟩ := mem_ready.1 hi
    have hilt := (Array.getElem?_eq_some_iff.1 ho').1
    obtain ⟨e, hee, hei⟩ := hin i hilt
    subst hei
    have hlt : e.k.i < listed.size := by rw [I.sz]; exact hilt
    have hu : listed.getD e.k.i false = false := by
      rw [Array.getD_eq_getD_getElem?, Array.getElem?_eq_getElem hlt] at hit ⊢; exact hit
    obtain ⟨es, hs⟩ := mem_suffix hee
    obtain ⟨h', hD'⟩ := hD.suffix hs
    obtain ⟨hDe, hok1, hdg, hstill⟩ := hD'.inv
    have hok1' := hok1
    obtain ⟨o, ho, hg, hk, hd, hanc, hlk, hed⟩ := hok1
    rw [ho] at ho'; obtain rfl := Option.some.inj ho'
    obtain ⟨hbits, hslot⟩ := I.looks hD hok hs hu hi
    have hdm := hdst e hee
    have htk : ∀ k ∈ tks es, ∃ o, ops[k.i]? = some o ∧ o.dst = k.dst := by
      intro k hk'
      obtain ⟨x, hx, rfl⟩ := List.mem_map.1 hk'
      obtain ⟨xs, hxs⟩ := mem_suffix hx
      obtain ⟨h'', hD''⟩ := hDe.suffix hxs
      obtain ⟨_, ⟨o2, ho2, _, _, hd2, _⟩, _, _⟩ := hD''.inv
      exact ⟨o2, ho2, hd2.symm⟩
    have hopR : OpR ν ρ ((tks es).map (·.dst)) (src (vals es) t) a o.op.operands.toList := opR_of I.glob _ (fun n hn hn' => hslot n hn' (by rw [hlk]; unfold looksOf; exact List.mem_append.2 (.inr hn)))
    have hcnt' : (List.range ops.size).countP (fun i => !((listed.setIfInBounds e.k.i true).getD i true)) ≤ fuel := by
      have : (List.range ops.size).countP (fun i => !((listed.setIfInBounds e.k.i true).getD i true)) < (List.range ops.size).countP (fun i => !(listed.getD i true)) := by
        refine countP_lt (x := e.k.i) (List.mem_range.2 hilt) (fun y hy => ?_) (by rw [hit]; rfl) (by simp [hlt])
        by_cases h : e.k.i = y
        · subst h; simp [hlt] at hy
        · rw [getD_set_ne true h] at hy; exact hy
      omega
    have hdc' := I.dc' hok hs hbits
    have hwanted : ∀ {b : Bool}, want (src (vals es) t) e.k.g = some b → Region.wanted o (yielded ops a.tmps) = b := fun hb =>
      wanted_of (ν := ν) (ρ := ρ) htk (fun k hk' m hm => by
        obtain ⟨x, hx, rfl⟩ := List.mem_map.1 hk'
        exact hdst x (hs.subset (List.mem_cons_of_mem _ hx)) m hm) hnt I.size (fun j wt p k d h1 h2 h3 h4 => hslot d (Nat.lt_of_lt_of_le (by
          rw [nth_eq] at h3
          obtain ⟨x, hx, rfl⟩ := List.mem_map.1 (List.mem_of_getElem? h3)
          exact hdst x (hs.subset (List.mem_cons_of_mem _ hx)) d h4) hnt) (by
          rw [hlk]; unfold looksOf; rw [h1]; simp only [h2, h3, h4, Option.toList]; exact List.mem_append.2 (.inl (List.mem_singleton.2 rfl)))) hg hb
    have hself : (listed.setIfInBounds e.k.i true).getD e.k.i false = true := by simp [hlt]
    have hsz' : (listed.setIfInBounds e.k.i true).size = ops.size := by simp [I.sz]
    have hputd : ∀ u, (a.put o.dst u).defers = Df := fun u => by cases h : o.dst <;> simp [Act.put, I.defers]
    have hputs : ∀ u, nt ≤ (a.put o.dst u).tmps.size := fun u => by cases h : o.dst <;> simp [Act.put] <;> exact I.size
    have hne_of : ∀ x ∈ ents, x.k.i = e.k.i → x = e := by
      intro x hx hxi
      obtain ⟨xs, hxs⟩ := mem_suffix hx
      rcases suffix_cmp hs hxs with ⟨h, _⟩ | h | h
      · exact h.symm
      · exact absurd hxi.symm (drawOk_pair hok hxs e (h.subset (List.mem_cons_self ..))).2
      · exact absurd hxi (drawOk_pair hok hs x (h.subset (List.mem_cons_self ..))).2
    unfold wpOp
    simp only [ho]
    have hcases : e ∈ cur ∨ ∃ l1, later = l1 ++ [e] ∧ heavyK e.k.k = true := by
      have hmem := hee
      rw [I.all] at hmem
      rcases List.mem_append.1 hmem with h | h
      · right
        rcases hlast with h0' | ⟨l1, eh, h1, h2⟩
        · subst h0'; cases h
        · subst h1
          rcases List.mem_append.1 h with h5 | h5
          · exfalso
            -- behind the heavy one
            have hsh : (eh :: cur) <:+ ents := ⟨l1, by rw [I.all]; simp⟩
            have hehes : eh ∈ es := by
              rcases suffix_cmp hs hsh with ⟨g1, g2⟩ | g | g
              · subst g1
                exact (drawOk_dup hok (e := e) (l2 := cur) (by rw [I.all]; simp) h5).elim
              · exfalso
                have hec : e ∈ cur := g.subset (List.mem_cons_self ..)
                obtain ⟨pre, post, hpre⟩ := List.append_of_mem h5
                have hs2 : (e :: (post ++ [eh] ++ cur)) <:+ ents := ⟨pre, by rw [I.all, hpre]; simp⟩
                exact (drawOk_pair hok hs2 e (by simp [hec])).2 rfl
              · exact g.subset (List.mem_cons_self ..)
            have hp := (drawOk_pair hok hs eh hehes).1
            unfold pairOk at hp
            rw [h2] at hp
            simp only [Bool.or_true, cond_true, Bool.and_eq_true] at hp
            have h3 := hbits _ hp.2
            rw [I.late eh (by simp)] at h3; cases h3
          · obtain rfl := List.mem_singleton.1 h5
            exact ⟨l1, rfl, h2⟩
      · exact .inl h
    rcases hcases with hcur | ⟨l1, rfl, hheavy⟩
    · -- a light one
      obtain ⟨es', hs'⟩ := mem_suffix hcur
      have hcs : cur <:+ ents := ⟨later, I.all.symm⟩
      have hee' : es' = es := by
        rcases suffix_cmp hs (hs'.trans hcs) with ⟨_, h⟩ | h | h
        · exact h.symm
        · exact absurd rfl (drawOk_pair hok (hs'.trans hcs) e (h.subset (List.mem_cons_self ..))).2
        · exact absurd rfl (drawOk_pair hok hs e (h.subset (List.mem_cons_self ..))).2
      subst hee'
      have hlight : heavyK e.k.k = false := by
        cases h : heavyK e.k.k with
        | false => rfl
        | true => have := I.hvy e hcur h; rw [hu] at this; cases this
      obtain ⟨b, hb, hbf, hbt⟩ := I.lgt e es' hs' hu
      have hw := hwanted hb
      -- what follows
      have next : ∀ (ρ' : Pl) (u : Value) (w' : World), Rel ν W ρ' hc w' → ρ.le ρ' → Ext h0 ρ0 hc ρ' → (∀ x xs, (x :: xs) <:+ cur → x.k.i ≠ e.k.i → listed.getD x.k.i false = false → LOk en t ρ' x xs hc) → VR ν ρ' e.v u →
          wpAny P .any ops Q fuel (listed.setIfInBounds e.k.i true) (a.put o.dst u) w' := by
        intro ρ' u w' R' hle hE hL hvr
        have hsl := I.slots hok hs hu hlt hle hvr hdm
        rw [hd] at hsl
        refine ih later cur hc ρ' _ _ w' ⟨I.all, I.dr, R', hE, hsz', fun x hx => ?_, fun x hx hh => getD_set_true (I.hvy x hx hh), fun x xs hxs hxu => ?_, fun x xs x' xs' h1 h2 h3 h4 h5 h6 h7 => ?_, hdc', hsl.1, hsl.2, fun g v hg' => VR.mono ν hle _ _ (I.glob g v hg'), hputd u, hputs u, I.lo⟩ hcnt'
        · have hxe : x.k.i ≠ e.k.i := fun h => by
            have := hne_of x (by rw [I.all]; exact List.mem_append.2 (.inl hx)) h
            subst this
            obtain ⟨pre, post, hpre⟩ := List.append_of_mem hx
            have hs2 : (x :: (post ++ cur)) <:+ ents := ⟨pre, by rw [I.all, hpre]; simp⟩
            exact (drawOk_pair hok hs2 x (by simp [hcur])).2 rfl
          rw [getD_set_ne false (fun h => hxe h.symm)]; exact I.late x hx
        · have hxe : x.k.i ≠ e.k.i := fun h => by rw [h, hself] at hxu; cases hxu
          rw [getD_set_ne false (fun h => hxe h.symm)] at hxu
          exact hL x xs hxs hxe hxu
        · have hxe : x.k.i ≠ e.k.i := fun h => by rw [h, hself] at h3; cases h3
          have hxe' : x'.k.i ≠ e.k.i := fun h => by rw [h, hself] at h4; cases h4
          rw [getD_set_ne false (fun h => hxe h.symm)] at h3
          rw [getD_set_ne false (fun h => hxe' h.symm)] at h4
          exact I.dist x xs x' xs' h1 h2 h3 h4 h5 h6 h7
      cases b with
      | false =>
        rw [hw]
        simp only [Bool.false_eq_true, if_false]
        exact next ρ undef w I.rel (Pl.le_refl ρ) I.ext (fun x xs h1 _ h3 => I.lgt x xs h1 h3) (by rw [hbf rfl]; exact undef_iff.2 rfl)
      | true =>
        rw [hw]
        simp only [if_true]
        left
        have h3 := hbt rfl
        rcases heavyK_cases e.k.k with g | ⟨q, g⟩ | ⟨q, g⟩ | ⟨q, g⟩
        · rw [hlight] at g; cases g
        · rw [g] at h3
          obtain ⟨u, hu', hvr⟩ := doP_sound (w := w) hT he (hk ▸ g) hopR h3
          unfold Oper.wp; rw [hu']
          exact next ρ u w I.rel (Pl.le_refl ρ) I.ext (fun x xs h1 _ h3 => I.lgt x xs h1 h3) hvr
        · rw [g] at h3
          obtain ⟨u, hu', hvr⟩ := doR_sound I.rel hT he (hk ▸ g) hopR h3
          unfold Oper.wp; rw [hu']
          exact next ρ u w I.rel (Pl.le_refl ρ) I.ext (fun x xs h1 _ h3 => I.lgt x xs h1 h3) hvr
        · rw [g] at h3
          obtain ⟨ob, mk, g1, g2, g3, g4⟩ := h3
          obtain ⟨hp, ho2, u, w', n, hrun, hgw, hob, hvr⟩ := doA_sound (w := w) hT (hk ▸ g) hopR g1
          unfold Oper.wp; rw [hrun]
          refine next (ρ.put (nx e.hb) (w.heap.size, 0, n)) u w' (I.rel.place hgw g3 g4 hob) (Pl.le_put g4) ⟨Pl.le_trans I.ext.le (Pl.le_put g4), fun x hx hxn => ?_, I.ext.nx⟩ (fun x xs h1 h2 h3 => ?_) (by rw [g2]; exact hvr _ _ (Pl.put_same _ _))
          · rw [Pl.put_ne]
            · exact I.ext.idle x hx hxn
            · intro hxe
              -- it was made behind the start
              subst hxe
              exact absurd hxn (Nat.not_lt.2 (I.lo e es' hs'))
          · obtain ⟨b', hb', hbf', hbt'⟩ := I.lgt x xs h1 h3
            refine ⟨b', hb', hbf', fun h => ?_⟩
            have h4 := hbt' h
            subst h
            rcases heavyK_cases x.k.k with k1 | ⟨q', k1⟩ | ⟨q', k1⟩ | ⟨q', k1⟩
            · have := I.hvy x (h1.subset (List.mem_cons_self ..)) k1; rw [h3] at this; cases this
            · rw [k1] at h4 ⊢; exact h4
            · rw [k1] at h4 ⊢; exact h4
            · rw [k1] at h4 ⊢
              obtain ⟨ob', mk', j1, j2, j3, j4⟩ := h4
              refine ⟨ob', mk', j1, j2, j3, ?_⟩
              rw [Pl.put_ne]
              · exact j4
              · exact I.dist x xs e es' h1 hs' h3 hu ⟨⟨q', k1⟩, hb'⟩ ⟨⟨q, g⟩, hb⟩ h2
    · -- the heavy one
      have hsh : (e :: cur) <:+ ents := ⟨l1, by rw [I.all]; simp⟩
      have hee' : es = cur := by
        rcases suffix_cmp hs hsh with ⟨_, h⟩ | h | h
        · exact h
        · exact absurd rfl (drawOk_pair hok hsh e (h.subset (List.mem_cons_self ..))).2
        · exact absurd rfl (drawOk_pair hok hs e (h.subset (List.mem_cons_self ..))).2
      subst hee'
      obtain rfl : e.hb = hc := hDe.uniq I.dr
      have hall' : ents = l1 ++ (e :: es) := by rw [I.all]; simp
      have next : ∀ (ρ' : Pl) (u : Value) (w' : World), Rel ν W ρ' h' w' → Ext e.hb ρ h' ρ' → (∀ x xs, (x :: xs) <:+ es → listed.getD x.k.i false = false → LOk en t ρ' x xs h') → VR ν ρ' e.v u →
          wpAny P .any ops Q fuel (listed.setIfInBounds e.k.i true) (a.put o.dst u) w' := by
        intro ρ' u w' R' hE hL hvr
        have hsl := I.slots hok hs hu hlt hE.le hvr hdm
        rw [hd] at hsl
        have hsc : ∀ {x : Ent} {xs : List Ent}, (x :: xs) <:+ (e :: es) → (listed.setIfInBounds e.k.i true).getD x.k.i false = false → (x :: xs) <:+ es ∧ listed.getD x.k.i false = false := by
          intro x xs hxs hxu
          rcases List.suffix_cons_iff.1 hxs with h | h
          · injection h with h1 h2; subst h1; rw [hself] at hxu; cases hxu
          · have hxe : x.k.i ≠ e.k.i := fun h => by rw [h, hself] at hxu; cases hxu
            rw [getD_set_ne false (fun h => hxe h.symm)] at hxu
            exact ⟨h, hxu⟩
        refine ih l1 (e :: es) h' ρ' _ _ w' ⟨hall', hD', R', I.ext.trans hE, hsz', fun x hx => ?_, fun x hx hh => ?_, fun x xs hxs hxu => ?_, fun x xs x' xs' h1 h2 h3 h4 h5 h6 h7 => ?_, hdc', hsl.1, hsl.2, fun g v hg' => VR.mono ν hE.le _ _ (I.glob g v hg'), hputd u, hputs u, fun x xs hs => by
          rcases List.suffix_cons_iff.1 hs with h | h
          · injection h with h1 h2; subst h1; exact I.ext.nx
          · exact I.lo x xs h⟩ hcnt'
        · have hxe : x.k.i ≠ e.k.i := fun h => by
            have := hne_of x (by rw [I.all]; simp [hx]) h
            subst this
            obtain ⟨pre, post, hpre⟩ := List.append_of_mem hx
            have hs2 : (x :: (post ++ x :: es)) <:+ ents := ⟨pre, by rw [hall', hpre]; simp⟩
            exact (drawOk_pair hok hs2 x (by simp)).2 rfl
          rw [getD_set_ne false (fun h => hxe h.symm)]; exact I.late x (by simp [hx])
        · rcases List.mem_cons.1 hx with rfl | hx
          · exact hself
          · exact getD_set_true (I.hvy x hx hh)
        · obtain ⟨g1, g2⟩ := hsc hxs hxu
          exact hL x xs g1 g2
        · obtain ⟨g1, g2⟩ := hsc h1 h3
          obtain ⟨g1', g2'⟩ := hsc h2 h4
          exact I.dist x xs x' xs' g1 g1' g2 g2' h5 h6 h7
      have hdg2 := hdg
      unfold doG at hdg2
      obtain ⟨b, hb, hdg3⟩ := ocase_ne hdg2 (by simp)
      have hw := hwanted hb
      cases b with
      | false =>
        have hdg4 : R1.ok (V.u []) e.hb = .ok e.v h' := hdg3
        injection hdg4 with g1 g2
        subst g2
        rw [hw]
        simp only [Bool.false_eq_true, if_false]
        exact next ρ undef w I.rel (Ext.refl _ _) (fun x xs h1 h2 => I.lgt x xs h1 h2) (by rw [← g1]; exact undef_iff.2 rfl)
      | true =>
        have hdg4 : doK e.k.k en call (src (vals es) t) e.hb = .ok e.v h' := hdg3
        rw [hw]
        simp only [if_true]
        left
        rw [hk] at hdg4
        refine step_sound hT he I.rel hcall hm hopR hdg4 _ Q (fun u w1 ha => ?_)
        obtain ⟨ρ1, R1', hvr, hE⟩ := ha
        refine next ρ1 u w1 R1' hE (fun x xs h1 h2 => ?_) hvr
        have hlight : heavyK x.k.k = false := by
          cases h : heavyK x.k.k with
          | false => rfl
          | true => have := I.hvy x (h1.subset (List.mem_cons_self ..)) h; rw [h2] at this; cases this
        have hbx : bit e.k.anc x.k.i = false := by
          cases h : bit e.k.anc x.k.i with
          | false => rfl
          | true => have := hbits _ h; rw [h2] at this; cases this
        obtain ⟨hx1, hDx⟩ := I.dr.suffix h1
        refine lok_after (hstill hheavy) h1 hlight hbx hDx.inv.2.1 (I.lgt x xs h1 h2) (fun h3 h4 => ?_)
        cases hob : obj e.hb (nx x.hb) with
        | none => exact absurd hob h4
        | some ob => exact hE.idle _ h3 (I.rel.dom _ _ hob)
end Ev
end Go.Proofs.YtoinghomkcjkcaaGreatDoor
/- Code: what a body does. -/
namespace Go.Proofs.YtoinghomkcjkcaaGreatDoor
set_option linter.unusedSimpArgs false
set_option linter.unusedVariables false
set_option linter.constructorNameAsVariable false
open Go Go.RowKit
namespace Ev
variable {Df : List Deferred}
variable {P : Program} {tt : TT} {ν : Nat → Int} {ρ : Pl} {a : Act} {en : En} {w : World} {o : Oper} {v : V} {t : Tr V} {nt : Nat} {ops : Array Oper} {call : Nat → List V → H → R1} {h0 : H} {C : Tr Unit}
theorem bpOf_ne {m n : Nat} (hm : m < 200000) (hn : n < 200000) (h : m ≠ n) : bpOf m ≠ bpOf n := fun e => h (bpOf_inj (by omega) (by omega) e)
theorem bpOf'_big : ∀ (f k m : Nat), k ≤ f → 2 ^ k ≤ m → 2 ^ k ≤ bpN (bpOf' f m)
  | f, 0, m, _, _ => bpN_pos _
  | 0, k + 1, m, h, _ => by omega
  | f + 1, k + 1, m, h, hm => by
    have hm2 : 2 ^ k ≤ Nat.shiftRight m 1 := by
      show 2 ^ k ≤ m >>> 1
      rw [Nat.shiftRight_eq_div_pow, Nat.pow_one]
      rw [Nat.pow_succ] at hm
      omega
    have ih := bpOf'_big f k (Nat.shiftRight m 1) (by omega) hm2
    have hle : Nat.ble m 1 = false := by
      cases hb : Nat.ble m 1 with
      | false => rfl
      | true => have := Nat.le_of_ble_eq_true hb; rw [Nat.pow_succ] at hm; have := Nat.one_le_two_pow (n := k); omega
    show 2 ^ (k + 1) ≤ bpN (Bool.rec (Bool.rec (BP.e (bpOf' f (Nat.shiftRight m 1))) (BP.o (bpOf' f (Nat.shiftRight m 1))) (Nat.beq (Nat.land m 1) 1)) BP.one (Nat.ble m 1))
    rw [hle]
    cases Nat.beq (Nat.land m 1) 1 <;> (simp only [bpN]; rw [Nat.pow_succ]; omega)
theorem bpOf_big (g : Nat) : min (g + 1) (2 ^ 39) ≤ bpN (bpOf g) := by
  by_cases h : g + 1 < 2 ^ 40
  · unfold bpOf; rw [bpOf'_N 40 _ (by omega) h]; omega
  · have := bpOf'_big 40 40 (g + 1) (Nat.le_refl _) (by omega)
    unfold bpOf; omega
theorem commit_get (C : Tr Unit) (r : List V) (d : Nat) (hd : d < 100000) : ∀ (tk : List Tk) (seen : List Nat) (n : Nat) (t : Tr V), (∀ k ∈ tk, ∀ m, k.dst = some m → m < 100000) →
    get (bpOf d) (commit r (commits C seen tk n) t) = match (if d ∈ seen then none else match get (bpOf d) C with | some _ => locOf d (tk.map (·.dst)) n | none => none) with | some p => r[p]? | none => get (bpOf d) t := by
  intro tk
  induction tk with
  | nil =>
    intro seen n t _
    show get (bpOf d) t = _
    split
    · rename_i p e
      split at e
      · cases e
      · split at e
        · cases e
        · cases e
    · rfl
  | cons k tk ih =>
    intro seen n t hk
    have hk' := fun x hx => hk x (List.mem_cons_of_mem _ hx)
    cases hdst : k.dst with
    | none =>
      simp only [commits, hdst, List.map_cons, locOf]
      rw [ih seen (n + 1) t hk']
    | some m =>
      have hm : Nat.lt m 100000 := hk k (List.mem_cons_self ..) m hdst
      have hm : LE.le (α := Nat) (Nat.succ m) 100000 := hm
      simp only [commits, hdst, List.map_cons, locOf]
      cases hs : seen.any (Nat.beq m) with
      | true =>
        obtain ⟨x, hx, hxe⟩ := List.any_eq_true.1 hs
        have hms : m ∈ seen := by rw [Nat.eq_of_beq_eq_true hxe]; exact hx
        simp only [cond_true]
        rw [ih seen (n + 1) t hk']
        by_cases e : d ∈ seen
        · rw [if_pos e, if_pos e]
        · have hne : m ≠ d := fun h => e (h ▸ hms)
          rw [if_neg e, if_neg e, show Nat.beq m d = false from Bool.eq_false_iff.2 fun h => hne (Nat.eq_of_beq_eq_true h)]
          rfl
      | false =>
        have hms : m ∉ seen := fun h => by
          have : seen.any (Nat.beq m) = true := List.any_eq_true.2 ⟨m, h, Nat.beq_refl m⟩
          rw [hs] at this; cases this
        simp only [cond_false]
        cases hC : get (bpOf m) C with
        | none =>
          simp only []
          rw [ih seen (n + 1) t hk']
          by_cases e : m = d
          · subst e; simp only [hC]
          · rw [show Nat.beq m d = false from Bool.eq_false_iff.2 fun h => e (Nat.eq_of_beq_eq_true h)]
            rfl
        | some u =>
          simp only []
          show get (bpOf d) (commit r (commits C (m :: seen) tk (n + 1)) (set (bpOf m) (nth r n) t)) = _
          rw [ih (m :: seen) (n + 1) _ hk', get_set, nth_eq]
          by_cases e : m = d
          · subst e
            rw [if_pos (List.mem_cons_self ..), if_neg hms, hC, Nat.beq_refl]
            simp
          · rw [show Nat.beq m d = false from Bool.eq_false_iff.2 fun h => e (Nat.eq_of_beq_eq_true h), if_neg (bpOf_ne (by omega) (by omega) (fun h => e h.symm))]
            have : (d ∈ m :: seen) ↔ d ∈ seen := by simp; exact fun h => absurd h.symm e
            simp only [this, cond_false]
theorem commit_glob (C : Tr Unit) (r : List V) (g : Nat) : ∀ (tk : List Tk) (seen : List Nat) (n : Nat) (t : Tr V), (∀ k ∈ tk, ∀ m, k.dst = some m → m < 100000) →
    get (bpOf (100000 + g)) (commit r (commits C seen tk n) t) = get (bpOf (100000 + g)) t := by
  intro tk
  induction tk with
  | nil => intro seen n t _; rfl
  | cons k tk ih =>
    intro seen n t hk
    have hk' := fun x hx => hk x (List.mem_cons_of_mem _ hx)
    cases hdst : k.dst with
    | none => simp only [commits, hdst]; exact ih seen (n + 1) t hk'
    | some m =>
      have hm : Nat.lt m 100000 := hk k (List.mem_cons_self ..) m hdst
      have hm : LE.le (α := Nat) (Nat.succ m) 100000 := hm
      simp only [commits, hdst]
      cases hs : seen.any (Nat.beq m) with
      | true => simp only [cond_true]; exact ih seen (n + 1) t hk'
      | false =>
        simp only [cond_false]
        cases hC : get (bpOf m) C with
        | none => simp only []; exact ih seen (n + 1) t hk'
        | some u =>
          simp only []
          show get (bpOf (100000 + g)) (commit r (commits C (m :: seen) tk (n + 1)) (set (bpOf m) (nth r n) t)) = _
          rw [ih (m :: seen) (n + 1) _ hk', get_set, if_neg]
          intro e
          have hN := congrArg bpN e
          have h1 : bpN (bpOf m) = m + 1 := by unfold bpOf; exact bpOf'_N 40 _ (by omega) (by omega)
          have h2 := bpOf_big (100000 + g)
          omega
/-- How a frame stands between two regions. -/
structure FrC (Df : List Deferred) (ν : Nat → Int) (C : Tr Unit) (ρ : Pl) (nt : Nat) (t : Tr V) (a : Act) : Prop extends FrR Df ν ρ nt t a where
  ins : ∀ n v, n < 100000 → get (bpOf n) t = some v → ∃ u, get (bpOf n) C = some u
theorem FrC.mono {ρ' : Pl} (h : ρ.le ρ') (F : FrC Df ν C ρ nt t a) : FrC Df ν C ρ' nt t a := ⟨F.toFrR.mono h, F.ins⟩
theorem FrC.region {tk : List Tk} {r : List V} (F : ∀ n v, n < 100000 → get (bpOf n) t = some v → ∃ u, get (bpOf n) C = some u) (K : Cur Df ν ρ nt ops t tk r a) (hd : ∀ k ∈ tk, ∀ m, k.dst = some m → m < nt) (hnt : nt ≤ 100000) : FrC Df ν C ρ nt (commit r (commits C [] tk 0) t) a := by
  have hd' : ∀ k ∈ tk, ∀ m, k.dst = some m → m < 100000 := fun k hk m hm => Nat.lt_of_lt_of_le (hd k hk m hm) hnt
  refine ⟨⟨fun n hn v hv => ?_, fun g v hv => K.glob g v (by rwa [commit_glob C r g tk [] 0 t hd'] at hv), K.defers, K.size⟩, fun n v hn hv => ?_⟩
  · rw [commit_get C r n hn tk [] 0 t hd', if_neg (by simp)] at hv
    have hK := K.slot n hn
    cases hC : get (bpOf n) C with
    | none =>
      rw [hC] at hv
      obtain ⟨u, hu⟩ := F n v hn hv
      rw [hC] at hu; cases hu
    | some u =>
      rw [hC] at hv
      simp only [] at hv
      cases hl : locOf n (tk.map (·.dst)) 0 with
      | none => rw [hl] at hv hK; exact hK v hv
      | some p =>
        rw [hl] at hv hK
        obtain ⟨v', h1, h2⟩ := hK
        simp only [] at hv
        rw [h1] at hv
        obtain rfl := Option.some.inj hv
        exact h2
  · rw [commit_get C r n hn tk [] 0 t hd', if_neg (by simp)] at hv
    cases hC : get (bpOf n) C with
    | none => rw [hC] at hv; exact (F n v hn hv).imp fun u hu => by rw [hC] at hu; cases hu
    | some u => exact ⟨u, rfl⟩
end Ev
end Go.Proofs.YtoinghomkcjkcaaGreatDoor
/- Regions, bodies. -/
namespace Go.Proofs.YtoinghomkcjkcaaGreatDoor
set_option linter.unusedSimpArgs false
set_option linter.unusedVariables false
set_option linter.constructorNameAsVariable false
open Go Go.RowKit
namespace Ev
variable {Df : List Deferred}
variable {P : Program} {tt : TT} {ν : Nat → Int} {ρ : Pl} {a : Act} {en : En} {w : World} {o : Oper} {v : V} {t : Tr V} {nt : Nat} {ops : Array Oper} {call : Nat → List V → H → R1} {h0 : H} {C : Tr Unit} {W : Bas}
theorem Rel.drew {h : H} (R : Rel ν W ρ h w) : Rel ν W ρ h { w with drawn := w.drawn + 1 } where
  below := R.below.drew
  ob := R.ob
  lt := R.lt
  dom := R.dom
  mine := R.mine
  sep := R.sep
  par := R.par
  parlt := R.parlt
  base := R.base
  kp := R.kp
theorem trSeq_dst2 : ∀ (l : List Oper) (i : Nat) (tk : List Tk), ∀ k ∈ (trSeq tt l i tk).2, k ∈ tk ∨ ∃ o ∈ l, k.dst = o.dst
  | [], _, _, k, hk => .inl hk
  | o :: l, i, tk, k, hk => by
    rcases trSeq_dst2 l (i + 1) _ k hk with h | ⟨o', h1, h2⟩
    · rcases List.mem_cons.1 h with rfl | h
      · exact .inr ⟨o, List.mem_cons_self .., rfl⟩
      · exact .inl h
    · exact .inr ⟨o', List.mem_cons_of_mem _ h1, h2⟩
theorem dstOk_lt {o : Oper} (h : dstOk nt o = true) {m : Tmp} (hm : o.dst = some m) : m < nt := by
  unfold dstOk at h
  rw [hm] at h
  exact blt_iff.1 h
theorem getD_false {n i : Nat} : (Array.replicate n false).getD i false = false := by
  rw [Array.getD_eq_getD_getElem?, Array.getElem?_replicate]; split <;> rfl
/-- What a region's walk asks. -/
def RegWp (P : Program) (ops : Array Oper) (draw : Bool) (Q : Exit → Act → World → Prop) (a : Act) (w : World) : Prop := match draw with
  | false => wpOps P ops Q (List.range ops.size) a w
  | true => wpAny P .any ops Q ops.size (Array.replicate ops.size false) a { w with drawn := w.drawn + 1 }
/-- A region. -/
theorem region_wps (hT : TTok P tt) (he : EnOk ν en) (hcall : CallOk P ν W call) (hm : MtsOk P en.mts) (hnt : nt ≤ 100000) {draw : Bool} {h h' : H} {its : List It} {cm : List (BP × Nat)} {r : List V}
    (htr : trReg tt nt C ops.toList draw = .reg its cm) (hv : runIts en call t its [] h = .ok r h') (R : Rel ν W ρ h w) (F : FrC Df ν C ρ nt t a) {Q : Exit → Act → World → Prop}
    (hQ : ∀ ρ' a' w', Rel ν W ρ' h' w' → Ext h ρ h' ρ' → FrC Df ν C ρ' nt (commit r cm t) a' → Q .normal a' w') : RegWp P ops draw Q a w := by
  unfold trReg at htr
  cases draw with
  | false =>
    simp only [cond_false, Bool.and_true] at htr
    cases hd : ops.toList.all (dstOk nt) with
    | false => rw [hd] at htr; cases htr
    | true =>
      rw [hd] at htr
      simp only [cond_true] at htr
      injection htr with g1 g2
      subst g1; subst g2
      have hd' := List.all_eq_true.1 hd
      have hdt : ∀ k ∈ (trSeq tt ops.toList 0 []).2, ∀ m, k.dst = some m → m < nt := by
        intro k hk m hm
        rcases trSeq_dst2 _ _ _ k hk with h | ⟨o, h1, h2⟩
        · cases h
        · exact dstOk_lt (hd' o h1) (h2 ▸ hm)
      show wpOps P ops Q (List.range ops.size) a w
      have := seq_sound (Q := Q) hT he hcall hm hnt ops.toList 0 [] [] h ρ a w r h' rfl hd' (by simp) hv R (Cur.start F.toFrR) (fun ρ' a' w' R' E' K' => hQ ρ' a' w' R' E' (FrC.region F.ins K' hdt hnt))
      rw [List.range_eq_range']
      simpa using this
  | true =>
    simp only [cond_true] at htr
    cases hd : ops.toList.all (dstOk nt) with
    | false => rw [hd] at htr; cases htr
    | true =>
      rw [hd] at htr
      have hd' := List.all_eq_true.1 hd
      cases hc : drawOk (trDraw tt ops.toList ops.toList.length 0 []).2 && allIn ops.toList.length (trDraw tt ops.toList ops.toList.length 0 []).2 with
      | false => rw [hc] at htr; cases htr
      | true =>
        rw [hc] at htr
        simp only [Bool.and_self, cond_true] at htr
        injection htr with g1 g2
        subst g1; subst g2
        simp only [Bool.and_eq_true] at hc
        obtain ⟨ents, hD, htk, hvl⟩ := trDraw_tr (ops := ops) ops.toList.length 0 [] h DrT.nil (fun j hj => by rw [bit_eq] at hj; simp at hj) hv
        have htk' : tks ents = (trDraw tt ops.toList ops.toList.length 0 []).2 := htk
        have hdst : ∀ e ∈ ents, ∀ m, e.k.dst = some m → m < nt := by
          intro e hee m hm
          obtain ⟨es, hs⟩ := mem_suffix hee
          obtain ⟨h1, hD1⟩ := hD.suffix hs
          obtain ⟨_, ⟨o, ho, _, _, hd1, _⟩, _, _⟩ := hD1.inv
          exact dstOk_lt (hd' o (by rw [Array.mem_toList_iff]; exact Array.mem_of_getElem? ho)) (hd1 ▸ hm)
        have hdt : ∀ k ∈ tks ents, ∀ m, k.dst = some m → m < nt := by
          intro k hk m hm
          obtain ⟨e, hee, rfl⟩ := List.mem_map.1 hk
          exact hdst e hee m hm
        have hin : ∀ i, i < ops.size → ∃ e ∈ ents, e.k.i = i := by
          intro i hi
          have h1 := hc.2
          unfold allIn at h1
          have h2 := List.all_eq_true.1 h1 i (List.mem_range.2 (by simpa using hi))
          obtain ⟨k, hk, hki⟩ := List.any_eq_true.1 h2
          rw [← htk'] at hk
          obtain ⟨e, hee, rfl⟩ := List.mem_map.1 hk
          exact ⟨e, hee, Nat.eq_of_beq_eq_true hki⟩
        have nosuf : ∀ {e : Ent} {es : List Ent}, ¬ (e :: es) <:+ [] := fun hs => by have := List.IsSuffix.length_le hs; simp at this
        show wpAny P .any ops Q ops.size (Array.replicate ops.size false) a { w with drawn := w.drawn + 1 }
        refine draw_main (Q := Q) (ρ0 := ρ) hT he hcall hm hnt hD (by rw [htk']; exact hc.1) hdst hin (fun ρ' a' w' R' E' K' => hQ ρ' a' w' R' E' ?_) ops.size ents [] h ρ _ a _ ⟨by simp, DrT.nil, R.drew, Ext.refl _ _, by simp, fun e _ => getD_false, by simp, fun e es hs => absurd hs nosuf, fun e es e' es' hs => absurd hs nosuf, fun e _ hl => (by rw [getD_false] at hl; cases hl), fun n _ e _ _ hl => (by rw [getD_false] at hl; cases hl), fun n hn _ v hv => F.slot n hn v hv, F.glob, F.defers, F.size, fun e es hs => absurd hs nosuf⟩ ?_
        · have := FrC.region F.ins K' hdt hnt
          rw [hvl, htk'] at this
          exact this
        · exact Nat.le_trans List.countP_le_length (by simp)
theorem region_sound (hT : TTok P tt) (he : EnOk ν en) (hmo : P.follows .mixedOrders = true) (hcall : CallOk P ν W call) (hm : MtsOk P en.mts) (hnt : nt ≤ 100000) {id : Nat} {draw : Bool} {h h' : H} {its : List It} {cm : List (BP × Nat)} {r : List V}
    (htr : trReg tt nt C ops.toList draw = .reg its cm) (hv : runIts en call t its [] h = .ok r h') (R : Rel ν W ρ h w) (F : FrC Df ν C ρ nt t a) {Q : Exit → Act → World → Prop}
    (hQ : ∀ ρ' a' w', Rel ν W ρ' h' w' → Ext h ρ h' ρ' → FrC Df ν C ρ' nt (commit r cm t) a' → Q .normal a' w') : (Code.region id ops draw).wp P Q a w := by
  have := region_wps hT he hcall hm hnt htr hv R F hQ
  cases draw with
  | false => exact wp_region this
  | true => exact wp_region_any hmo this
/-- How it ends. -/
def Post (Df : List Deferred) (ν : Nat → Int) (W : Bas) (C : Tr Unit) (nt : Nat) (h : H) (ρ : Pl) : X → Exit → Act → World → Prop
  | .nm t h', .normal, a, w => ∃ ρ', Rel ν W ρ' h' w ∧ Ext h ρ h' ρ' ∧ FrC Df ν C ρ' nt t a
  | .ex i t h', .exit j, a, w => i = j ∧ ∃ ρ', Rel ν W ρ' h' w ∧ Ext h ρ h' ρ' ∧ FrC Df ν C ρ' nt t a
  | .rt t h', .ret, a, w => ∃ ρ', Rel ν W ρ' h' w ∧ Ext h ρ h' ρ' ∧ FrC Df ν C ρ' nt t a
  | _, _, _, _ => False
/-- a loop that has begun -/
def LoopWp (P : Program) (c : Code) (Q : Exit → Act → World → Prop) (a : Act) (w : World) : Prop := ∀ (b : Frame) (k : List Item) (cs : List Frame), ∃ e a' w', Q e a' w' ∧ Arrives P (lone (b.at a (.code c :: .inLoop c :: k)) cs w) b k cs e a' w'
theorem LoopWp.wp {c : Code} {Q : Exit → Act → World → Prop} (h : LoopWp P c Q a w) : (Code.loop c).wp P Q a w := fun b k cs => let ⟨e, a', w', q, r⟩ := h b k cs; ⟨e, a', w', q, .of_steps (.one step_loop) r⟩
theorem LoopWp.round {c : Code} {Q : Exit → Act → World → Prop} (h : c.wp P (Exit.then (LoopWp P c Q) Q) a w) : LoopWp P c Q a w := by
  intro b k cs
  obtain ⟨e, a₁, w₁, hq, harr⟩ := h b (.inLoop c :: k) cs
  cases e with
  | normal =>
    obtain ⟨e₂, a₂, w₂, hq₂, harr₂⟩ := hq b k cs
    exact ⟨e₂, a₂, w₂, hq₂, .of_steps (Steps.trans harr (.one step_inLoop)) harr₂⟩
  | exit id => exact ⟨_, a₁, w₁, hq, .pass (x := .inLoop c) rfl (fun _ _ => .inl (by simp)) harr⟩
  | goto l => exact ⟨_, a₁, w₁, hq, .pass (x := .inLoop c) rfl (fun _ _ => .inl (by simp)) harr⟩
  | ret => exact ⟨_, a₁, w₁, hq, .pass (x := .inLoop c) rfl (fun _ _ => .inl (by simp)) harr⟩
  | panic ch => exact ⟨_, a₁, w₁, hq, .pass (x := .inLoop c) rfl (fun _ _ => .inl (by simp)) harr⟩
  | outgrown => exact ⟨_, a₁, w₁, hq, .pass (x := .inLoop c) rfl (fun _ _ => .inl (by simp)) harr⟩
def WP (P : Program) : Code → (Exit → Act → World → Prop) → Act → World → Prop
  | .loop c, Q, a, w => LoopWp P c Q a w
  | c, Q, a, w => c.wp P Q a w
theorem WP.wp {c : Code} {Q : Exit → Act → World → Prop} (h : WP P c Q a w) : c.wp P Q a w := by
  cases c <;> first | exact LoopWp.wp h | exact h
def RunOk (P : Program) (tt : TT) (ν : Nat → Int) (W : Bas) (rn : Rn) : Prop := ∀ (Df : List Deferred) (C : Tr Unit) (nt : Nat), nt ≤ 100000 → ∀ (c : Code) (t : Tr V) (h : H) (X0 : X) (ρ : Pl) (a : Act) (w : World), rn (trC tt nt C c) t h = X0 → (∀ n, X0 ≠ .bad n) → Rel ν W ρ h w → FrC Df ν C ρ nt t a → WP P c (Post Df ν W C nt h ρ X0) a w
theorem Post.mono {h1 : H} {ρ1 : Pl} {h : H} (E : Ext h ρ h1 ρ1) {X0 : X} : ∀ e a w, Post Df ν W C nt h1 ρ1 X0 e a w → Post Df ν W C nt h ρ X0 e a w := by
  intro e a w hp
  cases X0 <;> cases e <;> first | exact hp.elim | skip
  · obtain ⟨ρ', h1, h2, h3⟩ := hp; exact ⟨ρ', h1, E.trans h2, h3⟩
  · obtain ⟨h0, ρ', h1, h2, h3⟩ := hp; exact ⟨h0, ρ', h1, E.trans h2, h3⟩
  · obtain ⟨ρ', h1, h2, h3⟩ := hp; exact ⟨ρ', h1, E.trans h2, h3⟩
theorem WP_mono {c : Code} {Q Q' : Exit → Act → World → Prop} (h : WP P c Q a w) (hq : ∀ e a w, Q e a w → Q' e a w) : WP P c Q' a w := by
  cases c <;> first | exact (fun b k cs => let ⟨e, a', w', q, r⟩ := h b k cs; ⟨e, a', w', hq _ _ _ q, r⟩)
end Ev
end Go.Proofs.YtoinghomkcjkcaaGreatDoor
/- Runs and calls. -/
namespace Go.Proofs.YtoinghomkcjkcaaGreatDoor
set_option linter.unusedSimpArgs false
set_option linter.unusedVariables false
set_option linter.constructorNameAsVariable false
open Go Go.RowKit
namespace Ev
variable {Df : List Deferred}
variable {P : Program} {tt : TT} {ν : Nat → Int} {ρ : Pl} {a : Act} {en : En} {w : World} {o : Oper} {v : V} {t : Tr V} {nt : Nat} {ops : Array Oper} {call : Nat → List V → H → R1} {h0 : H} {C : Tr Unit} {W : Bas} {rn : Rn}
theorem rr_ne {β : Type} {x : RR} {g : Nat → β} {f : List V → H → β} {r : β} (h : rr x g f = r) (hg : ∀ n, g n ≠ r) : ∃ l h', x = .ok l h' ∧ f l h' = r := by
  cases x with
  | bad n => exact absurd h (hg n)
  | ok l h' => exact ⟨l, h', rfl, h⟩
theorem Cur.val (F : FrR Df ν ρ nt t a) {x : Operand} {s : Src} (hs : trSrc [] x = some s) : VR ν ρ (src [] t s) (a.eval x) :=
  (Cur.start (ops := #[]) F).opR [x] x (List.mem_singleton.2 rfl) s hs
theorem cond_cases {α : Type} (b : Bool) (x y : α) : cond b x y = y ∨ cond b x y = x := by cases b <;> simp
theorem trReg_cases (l : List Oper) (draw : Bool) : trReg tt nt C l draw = .bad 132 ∨ ∃ its cm, trReg tt nt C l draw = .reg its cm := by
  unfold trReg
  rcases cond_cases _ _ _ with h | h
  · exact .inl h
  · exact .inr ⟨_, _, h⟩
theorem step_run (hT : TTok P tt) (he : EnOk ν en) (hmo : P.follows .mixedOrders = true) (hcall : CallOk P ν W (callBy en rn)) (hm : MtsOk P en.mts) (hr : RunOk P tt ν W rn) : RunOk P tt ν W (fun c => step c en rn) := by
  intro Df C nt hnt c t h X0 ρ a w hX hb R F
  have norm : ∀ {e : Exit}, e = .normal → X0 = .nm t h → Post Df ν W C nt h ρ X0 e a w := fun he hX => by rw [he, hX]; exact ⟨ρ, R, Ext.refl _ _, F⟩
  cases c with
  | skip => exact wp_skip (norm rfl hX.symm)
  | label l => exact wp_label (norm rfl hX.symm)
  | exit id =>
    refine wp_exit ?_
    rw [← show X.ex id t h = X0 from hX]
    exact ⟨rfl, ρ, R, Ext.refl _ _, F⟩
  | ret =>
    refine wp_ret ?_
    rw [← show X.rt t h = X0 from hX]
    exact ⟨ρ, R, Ext.refl _ _, F⟩
  | region id ops draw =>
    change step (trReg tt nt C ops.toList draw) en rn t h = X0 at hX
    rcases trReg_cases (tt := tt) (nt := nt) (C := C) ops.toList draw with htr | ⟨its, cm, htr⟩
    · rw [htr] at hX
      exact absurd (show X.bad 132 = X0 from hX).symm (hb _)
    · rw [htr] at hX
      obtain ⟨l, h', h1, h2⟩ := rr_ne (show rr (runIts en (callBy en rn) t its [] h) X.bad (fun r h => X.nm (commit r cm t) h) = X0 from hX) (fun n e => hb n e.symm)
      refine region_sound hT he hmo hcall hm hnt htr h1 R F (fun ρ' a' w' R' E' F' => ?_)
      rw [← h2]
      exact ⟨ρ', R', E', F'⟩
  | seq x y =>
    have hX' : seqK (rn (trC tt nt C x) t h) (trC tt nt C y) rn = X0 := hX
    refine wp_seq ?_
    cases hx : rn (trC tt nt C x) t h with
    | bad n => rw [hx] at hX'; exact absurd hX'.symm (hb n)
    | nm t1 h1 =>
      rw [hx] at hX'
      refine wp_mono (hr Df C nt hnt x t h _ ρ a w hx (by simp) R F).wp (fun e a1 w1 hp => ?_)
      cases e <;> first | exact hp.elim | skip
      obtain ⟨ρ1, R1, E1, F1⟩ := hp
      exact wp_mono (hr Df C nt hnt y t1 h1 X0 ρ1 a1 w1 hX' hb R1 F1).wp (Post.mono E1)
    | ex i t1 h1 =>
      rw [hx] at hX'
      refine wp_mono (hr Df C nt hnt x t h _ ρ a w hx (by simp) R F).wp (fun e a1 w1 hp => ?_)
      cases e <;> first | exact hp.elim | skip
      rw [← show X.ex i t1 h1 = X0 from hX']; exact hp
    | rt t1 h1 =>
      rw [hx] at hX'
      refine wp_mono (hr Df C nt hnt x t h _ ρ a w hx (by simp) R F).wp (fun e a1 w1 hp => ?_)
      cases e <;> first | exact hp.elim | skip
      rw [← show X.rt t1 h1 = X0 from hX']; exact hp
  | cond c x y =>
    change step (match trSrc [] c with | some s => C2.cond s (trC tt nt C x) (trC tt nt C y) | none => .bad 130) en rn t h = X0 at hX
    cases hs : trSrc [] c with
    | none => rw [hs] at hX; exact absurd (show X.bad 130 = X0 from hX).symm (hb _)
    | some s =>
      rw [hs] at hX
      have hv := Cur.val F.toFrR hs
      have hX' : onB (src [] t s) (X.bad 86) (fun b => bcase b (rn (trC tt nt C y) t h) (rn (trC tt nt C x) t h)) = X0 := hX
      obtain ⟨b, hb1, hX2⟩ := onB_ne hX' (fun e => hb _ e.symm)
      rw [hb1] at hv
      simp only [VR] at hv
      refine wp_cond hv ?_
      cases b with
      | true => exact (hr Df C nt hnt x t h X0 ρ a w hX2 hb R F).wp
      | false => exact (hr Df C nt hnt y t h X0 ρ a w hX2 hb R F).wp
  | block id c =>
    have hX' : blockK (rn (trC tt nt C c) t h) id = X0 := hX
    refine wp_block ?_
    cases hx : rn (trC tt nt C c) t h with
    | bad n => rw [hx] at hX'; exact absurd hX'.symm (hb n)
    | nm t1 h1 =>
      rw [hx] at hX'
      refine wp_mono (hr Df C nt hnt c t h _ ρ a w hx (by simp) R F).wp (fun e a1 w1 hp => ?_)
      cases e <;> first | exact hp.elim | skip
      rw [← show X.nm t1 h1 = X0 from hX']; exact hp
    | ex i t1 h1 =>
      rw [hx] at hX'
      refine wp_mono (hr Df C nt hnt c t h _ ρ a w hx (by simp) R F).wp (fun e a1 w1 hp => ?_)
      cases e <;> first | exact hp.elim | skip
      rename_i j
      obtain ⟨hij, hp⟩ := hp
      have hX2 : bcase (Nat.beq i id) (X.ex i t1 h1) (X.nm t1 h1) = X0 := hX'
      simp only [Exit.inBlock]
      split
      · rename_i e
        rw [hij, e, Nat.beq_refl] at hX2
        rw [← show X.nm t1 h1 = X0 from hX2]; exact hp
      · rename_i e
        rw [show Nat.beq i id = false from Bool.eq_false_iff.2 fun h => e (hij ▸ Nat.eq_of_beq_eq_true h)] at hX2
        rw [← show X.ex i t1 h1 = X0 from hX2]; exact ⟨hij, hp⟩
    | rt t1 h1 =>
      rw [hx] at hX'
      refine wp_mono (hr Df C nt hnt c t h _ ρ a w hx (by simp) R F).wp (fun e a1 w1 hp => ?_)
      cases e <;> first | exact hp.elim | skip
      rw [← show X.rt t1 h1 = X0 from hX']; exact hp
  | loop c =>
    have hX' : seqK (rn (trC tt nt C c) t h) (trC tt nt C (.loop c)) rn = X0 := hX
    refine LoopWp.round ?_
    cases hx : rn (trC tt nt C c) t h with
    | bad n => rw [hx] at hX'; exact absurd hX'.symm (hb n)
    | nm t1 h1 =>
      rw [hx] at hX'
      refine wp_mono (hr Df C nt hnt c t h _ ρ a w hx (by simp) R F).wp (fun e a1 w1 hp => ?_)
      cases e <;> first | exact hp.elim | skip
      obtain ⟨ρ1, R1, E1, F1⟩ := hp
      exact WP_mono (c := .loop c) (hr Df C nt hnt (.loop c) t1 h1 X0 ρ1 a1 w1 hX' hb R1 F1) (Post.mono E1)
    | ex i t1 h1 =>
      rw [hx] at hX'
      refine wp_mono (hr Df C nt hnt c t h _ ρ a w hx (by simp) R F).wp (fun e a1 w1 hp => ?_)
      cases e <;> first | exact hp.elim | skip
      rw [← show X.ex i t1 h1 = X0 from hX']; exact hp
    | rt t1 h1 =>
      rw [hx] at hX'
      refine wp_mono (hr Df C nt hnt c t h _ ρ a w hx (by simp) R F).wp (fun e a1 w1 hp => ?_)
      cases e <;> first | exact hp.elim | skip
      rw [← show X.rt t1 h1 = X0 from hX']; exact hp
  | _ => exact absurd (show X.bad 131 = X0 from hX).symm (hb _)
end Ev
end Go.Proofs.YtoinghomkcjkcaaGreatDoor
/- Calls. -/
namespace Go.Proofs.YtoinghomkcjkcaaGreatDoor
set_option linter.unusedSimpArgs false
set_option linter.unusedVariables false
set_option linter.constructorNameAsVariable false
open Go Go.RowKit
namespace Ev
variable {Df : List Deferred}
variable {P : Program} {tt : TT} {ν : Nat → Int} {ρ : Pl} {a : Act} {en : En} {w : World} {o : Oper} {v : V} {t : Tr V} {nt : Nat} {ops : Array Oper} {call : Nat → List V → H → R1} {h0 : H} {C : Tr Unit} {W : Bas} {rn : Rn}
theorem slots_get (C : Tr Unit) (n : Nat) : ∀ m, n < m → m ≤ 1000 → get (bpOf n) (slots m C) = some ()
  | 0, h, _ => absurd h (Nat.not_lt_zero n)
  | m + 1, h, hm => by
    show get (bpOf n) (set (bpOf m) (some ()) (slots m C)) = _
    rw [get_set]
    by_cases e : n = m
    · rw [e, if_pos rfl]
    · rw [if_neg (bpOf_ne (by omega) (by omega) e)]; exact slots_get C n m (by omega) (by omega)
theorem succ_bpOf {k : Nat} (h : k < 100000) : succ (bpOf k) = bpOf (k + 1) := by
  apply bpN_inj
  rw [bpN_succ]
  unfold bpOf
  rw [bpOf'_N 40 _ (by omega) (by omega), bpOf'_N 40 _ (by omega) (by omega)]
theorem init_get (n : Nat) : ∀ (as : List V) (k : Nat) (t : Tr V), k + as.length ≤ 1000 → get (bpOf n) (init' as (bpOf k) t) = if k ≤ n ∧ n < k + as.length then as[n - k]? else get (bpOf n) t
  | [], k, t, _ => by rw [if_neg (by simp only [List.length_nil]; omega)]; rfl
  | x0 :: as, k, t, h => by
    simp only [List.length_cons] at h ⊢
    show get (bpOf n) (init' as (succ (bpOf k)) (set (bpOf k) (some x0) t)) = _
    rw [succ_bpOf (by omega), init_get n as (k + 1) _ (by omega), get_set]
    by_cases e : n = k
    · subst e; rw [if_neg (by omega), if_pos rfl, if_pos (by omega)]; simp
    · have hne : bpOf n ≠ bpOf k := by
        intro e2
        have h1 := congrArg bpN e2
        have h2 : bpN (bpOf k) = k + 1 := by unfold bpOf; exact bpOf'_N 40 _ (by omega) (by omega)
        have h3 := bpOf_big n
        by_cases hb : n < 1000
        · exact bpOf_ne (by omega) (by omega) e e2
        · omega
      rw [if_neg hne]
      by_cases c : k + 1 ≤ n ∧ n < k + 1 + as.length
      · rw [if_pos c, if_pos (by omega), show n - k = (n - (k + 1)) + 1 by omega]; simp
      · rw [if_neg c, if_neg (by omega)]
/-- the listed variables -/
structure GtOk (ν : Nat → Int) (W : Bas) (gt : Tr V) : Prop where
  low : ∀ n, n < 100000 → get (bpOf n) gt = none
  glob : ∀ g v, get (bpOf (100000 + g)) gt = some v → VR ν W.pl v (.pointer (some ⟨g, 0, none⟩))
def Call1 (P : Program) (ν : Nat → Int) (W : Bas) (g : Nat) (as : List V) (h : H) (v : V) (h' : H) : Prop :=
  (∀ args w, (callFunc g args).run P w = .ok (.enter g args) w) ∧ ∀ (ρ : Pl) (args : List Value) (w : World), Rel ν W ρ h w → VRs ν ρ as args → Calls P g args.toArray w (fun e w' => ∃ u, e = .returned u ∧ After ν W h ρ h' v u w')
def OvOk (P : Program) (ν : Nat → Int) (W : Bas) (en : En) : Prop := ∀ g as h v h', en.ov g as h = some (.ok v h') → Call1 P ν W g as h v h'
theorem rv_sound (hT : TTok P tt) {h : H} (R : Rel ν W ρ h w) (F : FrR Df ν ρ nt t a) {r : ResultVar} {q : Rv} (hr : trRv tt r = some q) (hv : rv1 q t h = some v) :
    ∃ u, ((match r with | .tmp t => pure (a.tmps.getD t undef) | .cell x t => do loadVar t (← asAddr (a.tmps.getD x undef)) : Sem Value)).run P w = .ok u w ∧ VR ν ρ v u := by
  cases r with
  | tmp n =>
    have hr' : (bif Nat.blt n 100000 then some (Rv.tmp (bpOf n)) else none) = some q := hr
    rcases cond_cases (Nat.blt n 100000) (some (Rv.tmp (bpOf n))) none with h1 | h1
    · rw [h1] at hr'; cases hr'
    · cases hb : Nat.blt n 100000 with
      | false => rw [hb] at hr'; cases hr'
      | true =>
        rw [h1] at hr'
        obtain rfl := Option.some.inj hr'
        exact ⟨_, rfl, F.slot n (blt_iff.1 hb) v hv⟩
  | cell x ty =>
    simp only [trRv] at hr
    cases hb : Nat.blt x 100000 with
    | false => rw [hb] at hr; cases hr
    | true =>
    rw [hb] at hr
    simp only [Bool.not_true, cond_false] at hr
    have hlt := blt_iff.1 hb
    split at hr
    · rename_i n ht hs
      obtain rfl := Option.some.inj hr
      obtain ⟨pv, e1, hv⟩ := ocase_ne (show ocase (get (bpOf x) t) none (fun v => onP v none (fun x off => ocase (cellsAt h x off n) none (fun l => some (V.g l)))) = some v from hv) (by simp)
      have hx := F.slot x hlt pv e1
      obtain ⟨y, off, e2, hv⟩ := onP_ne hv (by simp)
      obtain ⟨l, e3, hv⟩ := ocase_ne hv (by simp)
      obtain rfl := Option.some.inj hv
      rw [e2] at hx; simp only [VR] at hx
      obtain ⟨b, c, m, e4, hx⟩ := hx
      obtain ⟨hl, us, hr, hc⟩ := cellsAt_some R e4 e3
      have hus : us.length = n := by rw [hr.length, hl]
      have hrun := run_loadCells_list (P := P) w ⟨b, c + off, none⟩ us (fun j u hj => by rw [add_at]; exact hc j u hj)
      rw [hus] at hrun
      refine ⟨.agg us.toArray, ?_, by simp only [VR]; exact ⟨_, rfl, by simpa using hr⟩⟩
      simp only [Array.getD_eq_getD_getElem?] at hx ⊢
      simp [hx, asAddr, loadVar, agg_ok hT ht, size_ok hT hs, hrun]
    · rename_i n ht hs
      obtain rfl := Option.some.inj hr
      obtain ⟨pv, e1, hv⟩ := ocase_ne (show ocase (get (bpOf x) t) none (fun v => onP v none (fun x off => onC (obj h x) none (fun l _ _ => nth l off))) = some v from hv) (by simp)
      have hx := F.slot x hlt pv e1
      obtain ⟨y, off, e2, hv⟩ := onP_ne hv (by simp)
      obtain ⟨l, p, wn, e3, hv⟩ := onC_ne hv (by simp)
      rw [nth_eq] at hv
      rw [e2] at hx; simp only [VR] at hx
      obtain ⟨b, c, m, e4, hx⟩ := hx
      obtain ⟨cs, e, fz, hb, hsz, _, hl, hg⟩ := R.ob y _ e3 b c m e4
      obtain ⟨u, hu, hr⟩ := hg off v hv
      have hc : w.cell? ⟨b, c + off, none⟩ = some u := by rw [cell_of hb, hu]
      refine ⟨u, ?_, hr⟩
      simp only [Array.getD_eq_getD_getElem?] at hx ⊢
      simp [hx, asAddr, loadVar, agg_ok hT ht, hc]
    · cases hr
theorem rvs_sound (hT : TTok P tt) {h : H} (R : Rel ν W ρ h w) (F : FrR Df ν ρ nt t a) : ∀ (l : List ResultVar) (rs : List Rv) (vs : List V), trRvs tt l = some rs → rvs t h rs = some vs →
    ∃ us : List Value, (l.mapM (fun r => (match r with | .tmp t => pure (a.tmps.getD t undef) | .cell x t => do loadVar t (← asAddr (a.tmps.getD x undef)) : Sem Value))).run P w = .ok us w ∧ VRs ν ρ vs us
  | [], rs, vs, hr, hv => by
    obtain rfl := Option.some.inj (show some [] = some rs from hr)
    obtain rfl := Option.some.inj (show some [] = some vs from hv)
    exact ⟨[], by simp, by simp only [VRs]⟩
  | r :: l, rs, vs, hr, hv => by
    simp only [trRvs] at hr
    split at hr
    · rename_i q qs e1 e2
      obtain rfl := Option.some.inj hr
      obtain ⟨v, h1, hv⟩ := ocase_ne (show ocase (rv1 q t h) none (fun v => ocase (rvs t h qs) none (fun vs => some (v :: vs))) = some vs from hv) (by simp)
      obtain ⟨vs', h2, hv⟩ := ocase_ne hv (by simp)
      obtain rfl := Option.some.inj hv
      obtain ⟨u, k1, k2⟩ := rv_sound hT R F e1 h1
      obtain ⟨us, k3, k4⟩ := rvs_sound hT R F l qs vs' e2 h2
      refine ⟨u :: us, ?_, by simp only [VRs]; exact ⟨u, us, rfl, k2, k4⟩⟩
      rw [List.mapM_cons]
      simp only [Sem.run_bind, k1]
      refine (congrArg (fun r => Result.andThen r (fun a w' => Sem.run P (pure (u :: a)) w')) k3).trans ?_
      rfl
    · cases hr
theorem fin_sound (hT : TTok P tt) {fn : Func} {rs : List Rv} (hrs : trRvs tt fn.results.toList = some rs) {h h' : H} (R : Rel ν W ρ h w) (F : FrR Df ν ρ nt t a) (hv : fin rs t h = .ok v h') : h' = h ∧ ∃ u, (results fn a.tmps).run P w = .ok u w ∧ VR ν ρ v u := by
  obtain ⟨vs, h1, hv⟩ := ocase_ne (show ocase (rvs t h rs) (R1.bad 83) (fun vs => lcase vs (R1.ok (V.u []) h) (fun v l => lcase l (R1.ok v h) (fun _ _ => R1.ok (V.u vs) h))) = .ok v h' from hv) (by simp)
  obtain ⟨us, h2, h3⟩ := rvs_sound hT R F _ _ _ hrs h1
  have hlen := h3.length
  have hrun : (results fn a.tmps).run P w = .ok (if h : us.toArray.size = 1 then us.toArray[0] else .tuple us.toArray) w := by
    unfold results
    rw [Array.mapM_eq_mapM_toList, map_eq_pure_bind]
    simp only [Sem.run_bind]
    refine (congrArg (fun r => Result.andThen (Result.andThen r (fun a w' => Sem.run P (pure a.toArray) w')) (fun (vs : Array Value) w' => Sem.run P (pure (if h : vs.size = 1 then vs[0] else .tuple vs)) w')) h2).trans ?_
    rfl
  cases vs with
  | nil =>
    cases us with
    | cons u us => simp at hlen
    | nil =>
      injection hv with g1 g2
      subst g1
      exact ⟨g2.symm, _, hrun, by simp only [VR]; exact ⟨#[], by simp, by simp only [VRs]⟩⟩
  | cons v1 vs =>
    cases us with
    | nil => simp at hlen
    | cons u1 us =>
      simp only [VRs] at h3
      obtain ⟨u2, us2, h4, h5, h6⟩ := h3
      injection h4 with h7 h8
      subst h7; subst h8
      cases vs with
      | nil =>
        injection hv with g1 g2
        subst g1
        cases us with
        | cons x xs => simp at hlen
        | nil => exact ⟨g2.symm, u1, hrun, h5⟩
      | cons v2 vs =>
        injection hv with g1 g2
        subst g1
        cases us with
        | nil => simp at hlen
        | cons x xs =>
          rw [dif_neg (by simp)] at hrun
          exact ⟨g2.symm, _, hrun, by simp only [VR]; exact ⟨_, rfl, by simp only [VRs]; exact ⟨u1, x :: xs, rfl, h5, by simpa only [VRs] using h6⟩⟩⟩
theorem trF_some {fn : Func} {cf : CF} (h : trF tt fn = some cf) : ∃ c rs, fn.body = some c ∧ trRvs tt fn.results.toList = some rs ∧ fn.ntmps ≤ 100000 ∧ fn.params.size + fn.nfree ≤ 1000 ∧ (fn.name == "runtime.NumGoroutine") = false ∧
    cf = .mk (fn.params.size + fn.nfree) (trC tt fn.ntmps (slots (fn.params.size + fn.nfree) (useR fn.results.toList (useC c .lf))) c) rs := by
  unfold trF at h
  split at h
  · rename_i c rs e1 e2
    rcases cond_cases (Nat.ble fn.ntmps 100000 && Nat.ble (fn.params.size + fn.nfree) 1000 && !(fn.name == "runtime.NumGoroutine")) (some (CF.mk (fn.params.size + fn.nfree) (trC tt fn.ntmps (slots (fn.params.size + fn.nfree) (useR fn.results.toList (useC c .lf))) c) rs)) none with _ | _
    all_goals
      cases hb : (Nat.ble fn.ntmps 100000 && Nat.ble (fn.params.size + fn.nfree) 1000 && !(fn.name == "runtime.NumGoroutine")) with
      | false => rw [hb] at h; cases h
      | true =>
        rw [hb] at h
        simp only [Bool.and_eq_true, Bool.not_eq_true'] at hb
        exact ⟨c, rs, e1, e2, Nat.le_of_ble_eq_true hb.1.1, Nat.le_of_ble_eq_true hb.1.2, hb.2, (Option.some.inj h).symm⟩
  · cases h
/-- A function's run, whatever runs its codes. -/
theorem func_run (hT : TTok P tt) (hgt : GtOk ν W en.gt) (hr : ∀ (C : Tr Unit) (nt : Nat), nt ≤ 100000 → ∀ (c : Code) (t : Tr V) (h : H) (X0 : X) (ρ : Pl) (a : Act) (w : World), rn (trC tt nt C c) t h = X0 → (∀ n, X0 ≠ .bad n) → Rel ν W ρ h w → FrC [] ν C ρ nt t a → c.wp P (Post [] ν W C nt h ρ X0) a w)
    {g : Nat} {as : List V} {h h' : H} {v : V} {fn : Func} {cf : CF} (hf : P.funcs[g]? = some fn) (htf : trF tt fn = some cf) (hv2 : runF cf en.gt rn as h = .ok v h') : Call1 P ν W g as h v h' := by
  obtain ⟨c, rs, hb, hrs, hnt, hn, hname, rfl⟩ := trF_some htf
  obtain ⟨hlen, hv3⟩ := bcase_ne (show bcase (Nat.ble (len as) (fn.params.size + fn.nfree)) (R1.bad 85) (finX (rn (trC tt fn.ntmps (slots (fn.params.size + fn.nfree) (useR fn.results.toList (useC c .lf))) c) (init' as BP.one en.gt) h) rs) = R1.ok v h' from hv2) (by simp)
  have hlen := Nat.le_of_ble_eq_true hlen
  rw [len_eq] at hlen
  refine ⟨fun args w => ?_, fun ρ args w R hargs => ?_⟩
  · have hne : fn.name ≠ "runtime.NumGoroutine" := by simpa using hname
    simp [callFunc, hf, hb, hne]
  · have hal := hargs.length
    have hget : ∀ n, n < 100000 → get (bpOf n) (init' as BP.one en.gt) = if n < as.length then as[n]? else none := fun n hn' => by
      rw [show BP.one = bpOf 0 from rfl, init_get n as 0 en.gt (by omega)]
      by_cases e : n < as.length
      · rw [if_pos (by omega), if_pos e]; simp
      · rw [if_neg (by omega), if_neg e]; exact hgt.low n hn'
    have F : FrC [] ν (slots (fn.params.size + fn.nfree) (useR fn.results.toList (useC c .lf))) ρ fn.ntmps (init' as BP.one en.gt) { tmps := args.toArray ++ Array.replicate (fn.ntmps - args.toArray.size) undef, defers := [] } := by
      refine ⟨⟨fun n hn' v hv => ?_, fun g v hv => ?_, rfl, by simp; omega⟩, fun n v hn' hv => ?_⟩
      · rw [hget n hn'] at hv
        split at hv
        · obtain ⟨u, hu, hvr⟩ := hargs.get hv
          have hlt : n < args.length := by omega
          have : (args.toArray ++ Array.replicate (fn.ntmps - args.toArray.size) undef).getD n undef = u := by
            rw [Array.getD_eq_getD_getElem?, Array.getElem?_append_left (by simpa using hlt)]
            simp [hu]
          rw [this]; exact hvr
        · cases hv
      · rw [show BP.one = bpOf 0 from rfl, init_get (100000 + g) as 0 en.gt (by omega), if_neg (by omega)] at hv
        exact VR.mono ν R.base _ _ (hgt.glob g v hv)
      · rw [hget n hn'] at hv
        split at hv
        · exact ⟨(), slots_get _ n _ (by omega) hn⟩
        · cases hv
    refine calls_of_wp hf hb ?_
    cases hx : rn (trC tt fn.ntmps (slots (fn.params.size + fn.nfree) (useR fn.results.toList (useC c .lf))) c) (init' as BP.one en.gt) h with
    | bad n => rw [hx] at hv3; cases hv3
    | ex i t1 h1 => rw [hx] at hv3; cases hv3
    | nm t1 h1 =>
      rw [hx] at hv3
      refine wp_mono (hr _ _ hnt c _ h _ ρ _ w hx (by simp) R F) (fun e a1 w1 hp => ?_)
      cases e <;> first | exact hp.elim | skip
      obtain ⟨ρ1, R1', E1, F1⟩ := hp
      obtain ⟨rfl, u, hres, hvr⟩ := fin_sound hT hrs R1' F1.toFrR (show fin rs t1 h1 = .ok v h' from hv3)
      exact ⟨F1.defers, u, hres, u, rfl, ρ1, R1', hvr, E1⟩
    | rt t1 h1 =>
      rw [hx] at hv3
      refine wp_mono (hr _ _ hnt c _ h _ ρ _ w hx (by simp) R F) (fun e a1 w1 hp => ?_)
      cases e <;> first | exact hp.elim | skip
      obtain ⟨ρ1, R1', E1, F1⟩ := hp
      obtain ⟨rfl, u, hres, hvr⟩ := fin_sound hT hrs R1' F1.toFrR (show fin rs t1 h1 = .ok v h' from hv3)
      exact ⟨F1.defers, u, hres, u, rfl, ρ1, R1', hvr, E1⟩
/-- A call. -/
theorem call_run (hT : TTok P tt) (hfn : ∀ g cf, get (bpOf g) en.fns = some cf → ∃ fn, P.funcs[g]? = some fn ∧ trF tt fn = some cf) (hgt : GtOk ν W en.gt) (hov : OvOk P ν W en) (hr : RunOk P tt ν W rn) : CallOk P ν W (callBy en rn) := by
  intro g as h v h' hv
  have hv' : ocase (en.ov g as h) (ocase (get (bpOf g) en.fns) (R1.bad (1000 + g)) (fun cf => runF cf en.gt rn as h)) (fun r => r) = R1.ok v h' := hv
  cases ho : en.ov g as h with
  | some r =>
    rw [ho] at hv'
    exact hov g as h v h' (by rw [ho]; exact congrArg some hv')
  | none =>
    rw [ho] at hv'
    obtain ⟨cf, h1, hv2⟩ := ocase_ne (show ocase (get (bpOf g) en.fns) (R1.bad (1000 + g)) (fun cf => runF cf en.gt rn as h) = R1.ok v h' from hv') (by simp)
    obtain ⟨fn, hf, htf⟩ := hfn g cf h1
    exact func_run hT hgt (fun C nt hnt c t h X0 ρ a w hX hb R F => (hr [] C nt hnt c t h X0 ρ a w hX hb R F).wp) hf htf hv2
/-- All together. -/
theorem run_sound (hT : TTok P tt) (he : EnOk ν en) (hmo : P.follows .mixedOrders = true) (hm : MtsOk P en.mts) (hfn : ∀ g cf, get (bpOf g) en.fns = some cf → ∃ fn, P.funcs[g]? = some fn ∧ trF tt fn = some cf) (hgt : GtOk ν W en.gt) (hov : OvOk P ν W en) : ∀ f, RunOk P tt ν W (run en f)
  | 0 => fun _ _ _ _ c t h X0 ρ a w hX hb _ _ => absurd (show X.bad 87 = X0 from hX).symm (hb 87)
  | f + 1 => step_run hT he hmo (call_run hT hfn hgt hov (run_sound hT he hmo hm hfn hgt hov f)) hm (run_sound hT he hmo hm hfn hgt hov f)
theorem call_sound (hT : TTok P tt) (he : EnOk ν en) (hmo : P.follows .mixedOrders = true) (hm : MtsOk P en.mts) (hfn : ∀ g cf, get (bpOf g) en.fns = some cf → ∃ fn, P.funcs[g]? = some fn ∧ trF tt fn = some cf) (hgt : GtOk ν W en.gt) (hov : OvOk P ν W en) (f : Nat) : CallOk P ν W (fun g => callBy en (run en f) g) :=
  call_run hT hfn hgt hov (run_sound hT he hmo hm hfn hgt hov f)
end Ev
end Go.Proofs.YtoinghomkcjkcaaGreatDoor
/- The start; all together. -/
namespace Go.Proofs.YtoinghomkcjkcaaGreatDoor
set_option linter.unusedSimpArgs false
set_option linter.unusedVariables false
set_option linter.constructorNameAsVariable false
open Go Go.RowKit
namespace Ev
variable {P : Program} {tt : TT} {ν : Nat → Int} {ρ : Pl} {a : Act} {en : En} {w : World} {o : Oper} {v : V} {t : Tr V}
theorem bpN_of {n : Nat} (h : n < 2 ^ 39) : bpN (bpOf n) = n + 1 := by unfold bpOf; exact bpOf'_N 40 _ (by omega) (by omega)
theorem ofL_far {α : Type} : ∀ (l : List (Option α)) (i : Nat) (t : Tr α) (n : Nat), i + l.length < 2 ^ 39 → 2 ^ 39 ≤ n → get (bpOf n) (ofL l i t) = get (bpOf n) t
  | [], i, t, n, _, _ => rfl
  | a :: l, i, t, n, h, hn => by
    simp only [List.length_cons] at h
    show get (bpOf n) (ofL l (i + 1) (Ev.set (bpOf i) a t)) = _
    rw [ofL_far l (i + 1) _ n (by omega) hn, get_set, if_neg]
    intro e
    have h1 := congrArg bpN e
    rw [bpN_of (n := i) (by omega)] at h1
    have := bpOf_big n
    omega
theorem ofL_some {α : Type} {l : List (Option α)} (hl : l.length < 2 ^ 39) {n : Nat} {x : α} (h : get (bpOf n) (ofL l 0 .lf) = some x) : l[n]? = some (some x) := by
  by_cases hn : n < 2 ^ 39
  · rw [ofL_get l 0 .lf n (by omega) hn, get_lf] at h
    split at h
    · simp only [Nat.sub_zero] at h
      cases e : l[n]? with
      | none => rw [e] at h; cases h
      | some y => rw [e] at h; exact congrArg some h
    · cases h
  · rw [ofL_far l 0 .lf n (by omega) (by omega), get_lf] at h; cases h
/-- Structs that may be compared cell by cell may be. -/
noncomputable def flatOk (P : Program) : Bool := (List.range P.types.size).all fun t => !(flatT (ttOf P) t) || (!(P.stoodInHeld t) && !(P.eqGuardType P.depth t))
theorem ttOf_info (h : P.types.size < 2 ^ 39) : ∀ t i, ti (ttOf P) t = some i → t < P.types.size ∧ P.info? t = some i := by
  intro t i hi
  have h1 := ofL_some (l := P.types.toList.map some) (by simpa using h) (show get (bpOf t) (ofL (P.types.toList.map some) 0 .lf) = some i from hi)
  rw [List.getElem?_map] at h1
  cases e : P.types.toList[t]? with
  | none => rw [e] at h1; cases h1
  | some y =>
    rw [e] at h1
    obtain rfl := Option.some.inj (Option.some.inj h1)
    rw [Array.getElem?_toList] at e
    have hlt : t < P.types.size := (Array.getElem?_eq_some_iff.1 e).1
    refine ⟨hlt, ?_⟩
    unfold Tables.info?
    rw [if_pos hlt]; exact e
theorem ttOf_ok (h : P.types.size < 2 ^ 39) (hf : flatOk P = true) : TTok P (ttOf P) := by
  refine ⟨fun t i hi => (ttOf_info h t i hi).2, fun t ht => ?_⟩
  have hlt : t < P.types.size := by
    cases e : ti (ttOf P) t with
    | none => unfold flatT und at ht; rw [e] at ht; cases ht
    | some i => exact (ttOf_info h t i e).1
  have := List.all_eq_true.1 hf t (List.mem_range.2 hlt)
  simp only [ht, Bool.not_true, Bool.false_or, Bool.and_eq_true, Bool.not_eq_true'] at this
  exact this
theorem fnsOf_ok (h : P.funcs.size < 2 ^ 39) {g : Nat} {cf : CF} (hg : get (bpOf g) (fnsOf P tt) = some cf) : ∃ fn, P.funcs[g]? = some fn ∧ trF tt fn = some cf := by
  have h1 := ofL_some (l := P.funcs.toList.map (trF tt)) (by simpa using h) hg
  rw [List.getElem?_map] at h1
  cases e : P.funcs.toList[g]? with
  | none => rw [e] at h1; cases h1
  | some y =>
    rw [e] at h1
    exact ⟨y, by rw [← Array.getElem?_toList]; exact e, Option.some.inj h1⟩
theorem mtsOf_ok (hT : TTok P tt) : MtsOk P (mtsOf tt) := by
  intro ty name g hg v w
  unfold mtsOf at hg
  split at hg
  · rename_i i hi
    split at hg
    · rename_i m hm
      have hi' := hT ty i hi
      have hm' : i.methods.find? (fun m => m.name == name) = some m := by rw [← Array.find?_toList]; exact hm
      have hd : ∃ k, P.types.size + Made.depth = k + 1 := ⟨P.types.size + Made.depth - 1, by unfold Made.depth; omega⟩
      obtain ⟨k, hk⟩ := hd
      rw [hk]
      split at hg
      · rename_i f e0 hp hf hu
        obtain rfl := Option.some.inj hg
        simp [method, typeInfo, hi', hm', hp, hf, follow, receiverAt, Place.get, run_underlying (und_ok hT hu)]
      · cases hg
      · rename_i f d hnp hp hf hu
        obtain rfl := Option.some.inj hg
        have hr : ∀ wr, (receiverAt ty (.val v) false wr).run P w = .ok v w := by
          intro wr
          unfold receiverAt
          simp only [Sem.run_bind, run_underlying (und_ok hT hu), Result.andThen_ok]
          cases d <;> first | (exfalso; exact hnp _ rfl) | simp [Place.get] | skip
        simp [method, typeInfo, hi', hm', hp, hf, follow, hr]
      · cases hg
    · cases hg
  · cases hg
-- the start
/-- how many cells a block has -/
def cellsIn (w : World) (b : Nat) : Nat := match w.heap[b]? with
  | some (.cells cs _ _) => cs.size
  | _ => 0
/-- where the listed variables lie -/
noncomputable def pl0 (w : World) (l : List Nat) : Pl := fun x => (l.find? (fun g => bpEq (bpOf g) x)).map (fun g => (g, 0, cellsIn w g))
theorem pl0_some {l : List Nat} {x : BP} {b c n : Nat} (h : pl0 w l x = some (b, c, n)) : b ∈ l ∧ x = bpOf b ∧ c = 0 ∧ n = cellsIn w b := by
  unfold pl0 at h
  cases e : l.find? (fun g => bpEq (bpOf g) x) with
  | none => rw [e] at h; cases h
  | some g =>
    rw [e] at h
    have h1 := List.find?_some e
    have h2 := List.mem_of_find?_eq_some e
    simp only [Option.map_some, Option.some.injEq, Prod.mk.injEq] at h
    obtain ⟨rfl, rfl, rfl⟩ := h
    exact ⟨h2, ((bpEq_iff _ _).1 h1).symm, rfl, rfl⟩
theorem pl0_mem {l : List Nat} (hl : ∀ g ∈ l, g < 1000) {g : Nat} (hg : g ∈ l) : pl0 w l (bpOf g) = some (g, 0, cellsIn w g) := by
  unfold pl0
  cases e : l.find? (fun g' => bpEq (bpOf g') (bpOf g)) with
  | none => have := List.find?_eq_none.1 e g hg; rw [(bpEq_iff _ _).2 rfl] at this; exact absurd rfl this
  | some g' =>
    have h1' := List.find?_some (p := fun g' => bpEq (bpOf g') (bpOf g)) e
    have h1 := (bpEq_iff _ _).1 h1'
    have h2 := List.mem_of_find?_eq_some e
    have := bpOf_inj (by have := hl _ h2; omega) (by have := hl _ hg; omega) h1
    subst this; rfl
theorem H0_obj : ∀ (l : List (Nat × List V)) {x : BP} {o : O}, get x (l.foldr (fun p t => set (bpOf p.1) (some (O.c p.2 none false)) t) .lf) = some o → ∃ p ∈ l, x = bpOf p.1 ∧ o = .c p.2 none false
  | [], x, o, h => by rw [List.foldr_nil, get_lf] at h; cases h
  | p :: l, x, o, h => by
    rw [List.foldr_cons, get_set] at h
    split at h
    · rename_i e; exact ⟨p, List.mem_cons_self .., e, (Option.some.inj h).symm⟩
    · obtain ⟨q, h1, h2⟩ := H0_obj l h; exact ⟨q, List.mem_cons_of_mem _ h1, h2⟩
/-- A listed variable holds what is listed. -/
def Listed (ν : Nat → Int) (ρ : Pl) (w : World) (p : Nat × List V) : Prop := ∃ cs e fz, w.heap[p.1]? = some (.cells cs e fz) ∧ (∀ i, i < cs.size → ¬ (fz.1 ≤ i ∧ i < fz.2)) ∧ VRs ν ρ p.2 cs.toList
theorem rel_start {l : List (Nat × List V)} (hl : ∀ p ∈ l, p.1 < 1000 ∧ Listed ν (pl0 w (l.map (·.1))) w p) : Rel ν (Bas.of w (pl0 w (l.map (·.1)))) (pl0 w (l.map (·.1))) (H0 l) w := by
  have hob : ∀ {x : BP} {o : O}, obj (H0 l) x = some o → ∃ p ∈ l, x = bpOf p.1 ∧ o = .c p.2 none false := fun h => H0_obj l h
  have hlt : ∀ g ∈ l.map (·.1), g < 1000 := fun g hg => by obtain ⟨p, h1, rfl⟩ := List.mem_map.1 hg; exact (hl p h1).1
  have hnx : bpN (nx (H0 l)) = 1001 := by show bpN (bpOf 1000) = 1001; exact bpN_of (by omega)
  refine ⟨Below.refl _ _, ?_, ?_, ?_, ?_, ?_, ?_, ?_, Pl.le_refl _, fun p hp => by cases hp⟩
  · intro x o ho b c n hx
    obtain ⟨p, hp, rfl, rfl⟩ := hob ho
    obtain ⟨h1, h2, rfl, rfl⟩ := pl0_some hx
    have hpb : p.1 = b := bpOf_inj (by have := (hl p hp).1; omega) (by have := hlt b h1; omega) h2
    subst hpb
    obtain ⟨_, cs, e, fz, hc, hf, hv⟩ := hl p hp
    have hci : cellsIn w p.1 = cs.size := by unfold cellsIn; rw [hc]
    refine ⟨cs, e, fz, hc, by rw [hci]; omega, fun _ => hf, by rw [hci]; have := hv.length; simp at this; omega, fun i v hi => ?_⟩
    obtain ⟨u, hu, hr⟩ := hv.get hi
    exact ⟨u, by rw [Nat.zero_add, ← Array.getElem?_toList]; exact hu, hr⟩
  · intro x b c n hx
    obtain ⟨h1, rfl, rfl, rfl⟩ := pl0_some hx
    obtain ⟨p, hp, rfl⟩ := List.mem_map.1 h1
    obtain ⟨hp1, cs, e, fz, hc, _⟩ := hl p hp
    refine ⟨(Array.getElem?_eq_some_iff.1 hc).1, ?_⟩
    rw [hnx, bpN_of (by omega)]; omega
  · intro x o ho
    obtain ⟨p, hp, rfl, rfl⟩ := hob ho
    have := (hl p hp).1
    rw [hnx, bpN_of (by omega)]; omega
  · intro x o ho hw
    obtain ⟨p, hp, rfl, rfl⟩ := hob ho
    cases hw
  · intro x y ox oy hx hy hne b c n c' n' h1 h2
    obtain ⟨_, e1, _⟩ := pl0_some h1
    obtain ⟨_, e2, _⟩ := pl0_some h2
    exact absurd (e1.trans e2.symm) hne
  · intro x o y ho hp
    obtain ⟨p, _, rfl, rfl⟩ := hob ho
    cases hp
  · intro x o y ho hp
    obtain ⟨p, _, rfl, rfl⟩ := hob ho
    cases hp
theorem gt_get : ∀ (l : List Nat) {x : BP} {v : V}, get x (l.foldr (fun g t => set (bpOf (100000 + g)) (some (V.p (bpOf g) 0)) t) .lf) = some v → ∃ g ∈ l, x = bpOf (100000 + g) ∧ v = .p (bpOf g) 0
  | [], x, o, h => by rw [List.foldr_nil, get_lf] at h; cases h
  | p :: l, x, o, h => by
    rw [List.foldr_cons, get_set] at h
    split at h
    · rename_i e; exact ⟨p, List.mem_cons_self .., e, (Option.some.inj h).symm⟩
    · obtain ⟨q, h1, h2⟩ := gt_get l h; exact ⟨q, List.mem_cons_of_mem _ h1, h2⟩
theorem gt_ok {l : List Nat} (hl : ∀ g ∈ l, g < 1000) {path : List (Cd × Bool)} {norm : List (Z × Z)} {ov : Nat → List V → H → Option R1} : GtOk ν (Bas.of w (pl0 w l)) (enOf P path norm ov l).gt := by
  refine ⟨fun n hn => ?_, fun g v hv => ?_⟩
  · cases e : get (bpOf n) (enOf P path norm ov l).gt with
    | none => rfl
    | some v =>
      obtain ⟨g, hg, h1, _⟩ := gt_get l e
      have := bpOf_inj (by omega) (by have := hl g hg; omega) h1
      omega
  · obtain ⟨g', hg, h1, rfl⟩ := gt_get l hv
    have hg' := hl g' hg
    have hgg : g = g' := by
      by_cases hb : g < 1000000
      · have := bpOf_inj (by omega) (by omega) h1; omega
      · have h2 := congrArg bpN h1
        rw [bpN_of (n := 100000 + g') (by omega)] at h2
        have := bpOf_big (100000 + g)
        omega
    subst hgg
    simp only [VR]
    exact ⟨g, 0, cellsIn w g, pl0_mem hl hg, rfl⟩
/-- **The evaluator tells the truth.** -/
theorem eval_calls (hsz : (Nat.ble P.types.size 100000 && Nat.ble P.funcs.size 100000) = true) (hfo : flatOk P = true) (hmo : P.follows .mixedOrders = true) {path : List (Cd × Bool)} {norm : List (Z × Z)} (hp : PathOk ν path) (hn : NormOk ν norm) {l : List (Nat × List V)} {ov : Nat → List V → H → Option R1}
    (hl : ∀ p ∈ l, p.1 < 1000 ∧ Listed ν (pl0 w (l.map (·.1))) w p) (hov : OvOk P ν (Bas.of w (pl0 w (l.map (·.1)))) (enOf P path norm ov (l.map (·.1)))) {f g : Nat} {as : List V} {v : V} {h' : H} (hv : Ev.call (enOf P path norm ov (l.map (·.1))) f g as (H0 l) = .ok v h') {args : List Value} (ha : VRs ν (pl0 w (l.map (·.1))) as args) :
    Calls P g args.toArray w (fun e w' => ∃ u, e = .returned u ∧ ∃ ρ', Rel ν (Bas.of w (pl0 w (l.map (·.1)))) ρ' h' w' ∧ VR ν ρ' v u) := by
  simp only [Bool.and_eq_true] at hsz
  have h1 := Nat.le_of_ble_eq_true hsz.1
  have h2 := Nat.le_of_ble_eq_true hsz.2
  have hlt : ∀ g ∈ l.map (·.1), g < 1000 := fun g hg => by obtain ⟨p, k1, rfl⟩ := List.mem_map.1 hg; exact (hl p k1).1
  have hT : TTok P (ttOf P) := ttOf_ok (by omega) hfo
  have := call_sound (P := P) (tt := ttOf P) (ν := ν) (en := enOf P path norm ov (l.map (fun x : Nat × List V => x.1))) (W := (Bas.of w (pl0 w (l.map (fun x : Nat × List V => x.1))))) hT ⟨hp, hn⟩ hmo (mtsOf_ok hT) (fun g cf hg => fnsOf_ok (by omega) hg) (gt_ok hlt) hov f g as (H0 l) v h' hv
  refine Calls.mono (this.2 _ args w (rel_start hl) ha) (fun e w' he => ?_)
  obtain ⟨u, hu, ρ', hR, hvr, _⟩ := he
  exact ⟨u, hu, ρ', hR, hvr⟩
/-- what comes out -/
noncomputable def okv (r : R1) : Option V := R1.rec (fun _ => none) (fun v _ => some v) r
theorem okv_some {r : R1} {v : V} (h : okv r = some v) : ∃ h', r = .ok v h' := by
  cases r with
  | bad n => cases h
  | ok u h' => obtain rfl := Option.some.inj (show some u = some v from h); exact ⟨h', rfl⟩
theorem noOv_ok {W : Bas} {path : List (Cd × Bool)} {norm : List (Z × Z)} {gl : List Nat} : OvOk P ν W (enOf P path norm noOv gl) := fun _ _ _ _ _ e => by cases e
/-- It answers true. -/
theorem eval_true (hsz : (Nat.ble P.types.size 100000 && Nat.ble P.funcs.size 100000) = true) (hfo : flatOk P = true) (hmo : P.follows .mixedOrders = true) {path : List (Cd × Bool)} {norm : List (Z × Z)} (hp : PathOk ν path) (hn : NormOk ν norm) {l : List (Nat × List V)}
    (hl : ∀ p ∈ l, p.1 < 1000 ∧ Listed ν (pl0 w (l.map (·.1))) w p) {f g : Nat} {vs : List V} (hv : okv (Ev.call (enOf P path norm noOv (l.map (·.1))) f g vs (H0 l)) = some (.b true)) {args : List Value} (ha : VRs ν (pl0 w (l.map (·.1))) vs args) :
    Calls P g args.toArray w (fun e w' => e = .returned (.bool true) ∧ Below w.heap.size w w') := by
  obtain ⟨h', hv⟩ := okv_some hv
  refine Calls.mono (eval_calls hsz hfo hmo hp hn hl noOv_ok hv ha) (fun e w' he => ?_)
  obtain ⟨u, hu, ρ', hR, hvr⟩ := he
  simp only [VR] at hvr
  exact ⟨by rw [hu, hvr], hR.below⟩
end Ev
end Go.Proofs.YtoinghomkcjkcaaGreatDoor
/- The small machine's codes, run as a whole: first plainly, then as functions made once of the code. -/
namespace Go.Proofs.YtoinghomkcjkcaaGreatDoor
set_option linter.unusedSimpArgs false
set_option linter.unusedVariables false
set_option linter.constructorNameAsVariable false
open Go Go.RowKit
namespace Ev
abbrev Cl := Nat → List V → H → R1
noncomputable section
def again : X → (Tr V → H → X) → X := X.rec (fun t h k => k t h) (fun i t h _ => X.ex i t h) (fun t h _ => X.rt t h) (fun w _ => X.bad w)
def fsLoop (b : Tr V → H → X) : Nat → Tr V → H → X := Nat.rec (fun _ _ => X.bad 87) (fun _ ih t h => again (b t h) ih)
/-- A code's run: calls by 'call', loops of at most n turns. -/
def FS (en : En) (call : Cl) (n : Nat) : C2 → Tr V → H → X := C2.rec (fun t h => X.nm t h) (fun its cm t h => rr (runIts en call t its [] h) X.bad (fun r h => X.nm (commit r cm t) h)) (fun _ _ ia ib t h => again (ia t h) ib)
  (fun s _ _ ia ib t h => onB (src [] t s) (X.bad 86) (fun x => bcase x (ib t h) (ia t h))) (fun id _ ic t h => blockK (ic t h) id) (fun _ ib t h => fsLoop ib n t h) (fun id t h => X.ex id t h) (fun t h => X.rt t h) (fun w _ _ => X.bad w)
end
variable {Df : List Deferred}
variable {P : Program} {tt : TT} {ν : Nat → Int} {ρ : Pl} {a : Act} {en : En} {w : World} {o : Oper} {v : V} {t : Tr V} {nt : Nat} {ops : Array Oper} {call : Cl} {h0 : H} {C : Tr Unit} {W : Bas} {rn : Rn} {n : Nat}
theorem fs_sound (hT : TTok P tt) (he : EnOk ν en) (hmo : P.follows .mixedOrders = true) (hcall : CallOk P ν W call) (hm : MtsOk P en.mts) {C : Tr Unit} {nt : Nat} (hnt : nt ≤ 100000) : ∀ (c : Code) (t : Tr V) (h : H) (X0 : X) (ρ : Pl) (a : Act) (w : World),
    FS en call n (trC tt nt C c) t h = X0 → (∀ n, X0 ≠ .bad n) → Rel ν W ρ h w → FrC Df ν C ρ nt t a → c.wp P (Post Df ν W C nt h ρ X0) a w := by
  intro c
  induction c with
  | skip => intro t h X0 ρ a w hX hb R F; rw [← show X.nm t h = X0 from hX]; exact wp_skip ⟨ρ, R, Ext.refl _ _, F⟩
  | label l => intro t h X0 ρ a w hX hb R F; rw [← show X.nm t h = X0 from hX]; exact wp_label ⟨ρ, R, Ext.refl _ _, F⟩
  | exit id => intro t h X0 ρ a w hX hb R F; rw [← show X.ex id t h = X0 from hX]; exact wp_exit ⟨rfl, ρ, R, Ext.refl _ _, F⟩
  | ret => intro t h X0 ρ a w hX hb R F; rw [← show X.rt t h = X0 from hX]; exact wp_ret ⟨ρ, R, Ext.refl _ _, F⟩
  | region id ops draw =>
    intro t h X0 ρ a w hX hb R F
    change FS en call n (trReg tt nt C ops.toList draw) t h = X0 at hX
    rcases trReg_cases (tt := tt) (nt := nt) (C := C) ops.toList draw with htr | ⟨its, cm, htr⟩
    · rw [htr] at hX
      exact absurd (show X.bad 132 = X0 from hX).symm (hb _)
    · rw [htr] at hX
      obtain ⟨l, h', h1, h2⟩ := rr_ne (show rr (runIts en call t its [] h) X.bad (fun r h => X.nm (commit r cm t) h) = X0 from hX) (fun n e => hb n e.symm)
      refine region_sound hT he hmo hcall hm hnt htr h1 R F (fun ρ' a' w' R' E' F' => ?_)
      rw [← h2]
      exact ⟨ρ', R', E', F'⟩
  | seq x y ihx ihy =>
    intro t h X0 ρ a w hX hb R F
    have hX' : again (FS en call n (trC tt nt C x) t h) (FS en call n (trC tt nt C y)) = X0 := hX
    refine wp_seq ?_
    cases hx : FS en call n (trC tt nt C x) t h with
    | bad n => rw [hx] at hX'; exact absurd hX'.symm (hb n)
    | nm t1 h1 =>
      rw [hx] at hX'
      refine wp_mono (ihx t h _ ρ a w hx (by simp) R F) (fun e a1 w1 hp => ?_)
      cases e <;> first | exact hp.elim | skip
      obtain ⟨ρ1, R1, E1, F1⟩ := hp
      exact wp_mono (ihy t1 h1 X0 ρ1 a1 w1 hX' hb R1 F1) (Post.mono E1)
    | ex i t1 h1 =>
      rw [hx] at hX'
      refine wp_mono (ihx t h _ ρ a w hx (by simp) R F) (fun e a1 w1 hp => ?_)
      cases e <;> first | exact hp.elim | skip
      rw [← show X.ex i t1 h1 = X0 from hX']; exact hp
    | rt t1 h1 =>
      rw [hx] at hX'
      refine wp_mono (ihx t h _ ρ a w hx (by simp) R F) (fun e a1 w1 hp => ?_)
      cases e <;> first | exact hp.elim | skip
      rw [← show X.rt t1 h1 = X0 from hX']; exact hp
  | cond c x y ihx ihy =>
    intro t h X0 ρ a w hX hb R F
    change FS en call n (match trSrc [] c with | some s => C2.cond s (trC tt nt C x) (trC tt nt C y) | none => .bad 130) t h = X0 at hX
    cases hs : trSrc [] c with
    | none => rw [hs] at hX; exact absurd (show X.bad 130 = X0 from hX).symm (hb _)
    | some s =>
      rw [hs] at hX
      have hv := Cur.val F.toFrR hs
      have hX' : onB (src [] t s) (X.bad 86) (fun b => bcase b (FS en call n (trC tt nt C y) t h) (FS en call n (trC tt nt C x) t h)) = X0 := hX
      obtain ⟨b, hb1, hX2⟩ := onB_ne hX' (fun e => hb _ e.symm)
      rw [hb1] at hv
      simp only [VR] at hv
      refine wp_cond hv ?_
      cases b with
      | true => exact ihx t h X0 ρ a w hX2 hb R F
      | false => exact ihy t h X0 ρ a w hX2 hb R F
  | block id c ih =>
    intro t h X0 ρ a w hX hb R F
    have hX' : blockK (FS en call n (trC tt nt C c) t h) id = X0 := hX
    refine wp_block ?_
    cases hx : FS en call n (trC tt nt C c) t h with
    | bad n => rw [hx] at hX'; exact absurd hX'.symm (hb n)
    | nm t1 h1 =>
      rw [hx] at hX'
      refine wp_mono (ih t h _ ρ a w hx (by simp) R F) (fun e a1 w1 hp => ?_)
      cases e <;> first | exact hp.elim | skip
      rw [← show X.nm t1 h1 = X0 from hX']; exact hp
    | ex i t1 h1 =>
      rw [hx] at hX'
      refine wp_mono (ih t h _ ρ a w hx (by simp) R F) (fun e a1 w1 hp => ?_)
      cases e <;> first | exact hp.elim | skip
      rename_i j
      obtain ⟨hij, hp⟩ := hp
      have hX2 : bcase (Nat.beq i id) (X.ex i t1 h1) (X.nm t1 h1) = X0 := hX'
      simp only [Exit.inBlock]
      split
      · rename_i e
        rw [hij, e, Nat.beq_refl] at hX2
        rw [← show X.nm t1 h1 = X0 from hX2]; exact hp
      · rename_i e
        rw [show Nat.beq i id = false from Bool.eq_false_iff.2 fun h => e (hij ▸ Nat.eq_of_beq_eq_true h)] at hX2
        rw [← show X.ex i t1 h1 = X0 from hX2]; exact ⟨hij, hp⟩
    | rt t1 h1 =>
      rw [hx] at hX'
      refine wp_mono (ih t h _ ρ a w hx (by simp) R F) (fun e a1 w1 hp => ?_)
      cases e <;> first | exact hp.elim | skip
      rw [← show X.rt t1 h1 = X0 from hX']; exact hp
  | loop c ih =>
    have main : ∀ (m : Nat) (t : Tr V) (h : H) (X0 : X) (ρ : Pl) (a : Act) (w : World), fsLoop (FS en call n (trC tt nt C c)) m t h = X0 → (∀ n, X0 ≠ .bad n) → Rel ν W ρ h w → FrC Df ν C ρ nt t a → LoopWp P c (Post Df ν W C nt h ρ X0) a w := by
      intro m
      induction m with
      | zero => intro t h X0 ρ a w hX hb R F; exact absurd (show X.bad 87 = X0 from hX).symm (hb _)
      | succ m ihm =>
        intro t h X0 ρ a w hX hb R F
        have hX' : again (FS en call n (trC tt nt C c) t h) (fsLoop (FS en call n (trC tt nt C c)) m) = X0 := hX
        refine LoopWp.round ?_
        cases hx : FS en call n (trC tt nt C c) t h with
        | bad n => rw [hx] at hX'; exact absurd hX'.symm (hb n)
        | nm t1 h1 =>
          rw [hx] at hX'
          refine wp_mono (ih t h _ ρ a w hx (by simp) R F) (fun e a1 w1 hp => ?_)
          cases e <;> first | exact hp.elim | skip
          obtain ⟨ρ1, R1, E1, F1⟩ := hp
          exact WP_mono (c := .loop c) (ihm t1 h1 X0 ρ1 a1 w1 hX' hb R1 F1) (Post.mono E1)
        | ex i t1 h1 =>
          rw [hx] at hX'
          refine wp_mono (ih t h _ ρ a w hx (by simp) R F) (fun e a1 w1 hp => ?_)
          cases e <;> first | exact hp.elim | skip
          rw [← show X.ex i t1 h1 = X0 from hX']; exact hp
        | rt t1 h1 =>
          rw [hx] at hX'
          refine wp_mono (ih t h _ ρ a w hx (by simp) R F) (fun e a1 w1 hp => ?_)
          cases e <;> first | exact hp.elim | skip
          rw [← show X.rt t1 h1 = X0 from hX']; exact hp
    intro t h X0 ρ a w hX hb R F
    exact (main n t h X0 ρ a w hX hb R F).wp
  | _ => intro t h X0 ρ a w hX hb R F; exact absurd (show X.bad 131 = X0 from hX).symm (hb _)
end Ev
end Go.Proofs.YtoinghomkcjkcaaGreatDoor
