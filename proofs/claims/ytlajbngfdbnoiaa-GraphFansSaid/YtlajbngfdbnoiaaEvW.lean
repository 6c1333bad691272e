/- What is built of parts. -/
import Derived.Test.YtlajbngfdbnoiaaEvV
namespace Go.Proofs.Ytlajbngfdbnoiaa
set_option linter.unusedSimpArgs false
set_option linter.unusedVariables false
set_option linter.constructorNameAsVariable false
open Go Go.RowKit
namespace Ev
variable {path : List (Cd × Bool)}
variable {P : Program} {tt : TT} {ν : Nat → Int} {ρ : Pl} {ds : List (Option Tmp)} {sv : Src → V} {a : Act} {en : En} {w : World} {o : Oper} {v : V}
theorem fold_splice (off : Nat) : ∀ (cs : List Value) (j : Nat) (b : Array Value), off + j + cs.length ≤ b.size →
    ((cs.zipIdx j).foldl (fun b p => b.setIfInBounds (off + p.2) p.1) b).toList = splice (off + j) cs b.toList
  | [], j, b, h => by simp only [List.zipIdx_nil, List.foldl_nil]; rw [splice_eq _ _ _ (by simpa using h)]; simp
  | c :: cs, j, b, h => by
    simp only [List.length_cons] at h
    rw [List.zipIdx_cons, List.foldl_cons, fold_splice off cs (j + 1) _ (by simp; omega)]
    apply List.ext_getElem?
    intro i
    rw [splice_get (by simp; omega), splice_get (by simp; omega)]
    simp only [Array.toList_setIfInBounds, List.getElem?_set, List.length_cons, Array.length_toList]
    by_cases h1 : off + (j + 1) ≤ i ∧ i < off + (j + 1) + cs.length
    · rw [if_pos h1, if_pos (by omega), show i - (off + j) = (i - (off + (j + 1))) + 1 by omega, List.getElem?_cons_succ]
    · rw [if_neg h1]
      by_cases h2 : off + j = i
      · subst h2; rw [if_pos rfl, if_pos (by omega), if_pos (by omega)]; simp
      · rw [if_neg h2, if_neg (by omega)]
theorem VRs.splice {l l' : List V} {m m' : List Value} (h : VRs ν ρ l m) (h' : VRs ν ρ l' m') {off : Nat} (hf : off + l'.length ≤ l.length) : VRs ν ρ (Ev.splice off l' l) (Ev.splice off m' m) := by
  rw [splice_eq off l' l hf, splice_eq off m' m (by rw [h.length, h'.length]; exact hf), h'.length]
  exact ((h.take off).app h').app (h.drop _)
theorem place_sound (pl : Nat → Option (Nat × Nat)) : ∀ (ps : List (Nat × Operand)) (ss : List (Nat × Nat × Src)) (z l : List V) (b : Array Value), trParts ds z.length pl ps = some ss → OpR ν ρ ds sv a (ps.map (·.2)) → VRs ν ρ z b.toList →
    place (srcP sv ss) z = some l → ∃ cs, Instr.fill pl b (ps.map fun p => (p.1, a.eval p.2)) = some cs ∧ VRs ν ρ l cs.toList
  | [], ss, z, l, b, h, _, hz, hv => by
    simp only [trParts, Option.some.injEq] at h; subst h
    obtain rfl := Option.some.inj (show some z = some l from hv)
    exact ⟨b, rfl, hz⟩
  | p :: ps, ss, z, l, b, h, hr, hz, hv => by
    simp only [trParts] at h
    split at h
    · rename_i off n s ss' e1 e2 e3
      cases hb : Nat.ble (off + n) z.length with
      | false => rw [hb] at h; cases h
      | true =>
        rw [hb] at h
        have hfit := Nat.le_of_ble_eq_true hb
        obtain rfl := Option.some.inj (show some ((off, n, s) :: ss') = some ss from h)
        obtain ⟨hx, hv⟩ := bcase_ne' (show bcase (isT 0 (sv s)) (bcase (lenIs n (cellsV (sv s))) none (place (srcP sv ss') (Ev.splice off (cellsV (sv s)) z))) none = some l from hv) (by simp)
        obtain ⟨hn, hv⟩ := bcase_ne hv (by simp)
        have hn' := lenIs_iff.1 hn
        have hvr : VR ν ρ (sv s) (a.eval p.2) := hr p.2 (by simp) s e2
        have hcs := cellsV_sound (fun e => by rw [e] at hx; cases hx) hvr
        have hlen : (a.eval p.2).cells.size = n := by have := hcs.length; simpa [hn'] using this
        have hzl : b.size = z.length := by simpa using hz.length
        have hl2 : (Ev.splice off (cellsV (sv s)) z).length = z.length := splice_len (by omega)
        obtain ⟨cs, hf, hl⟩ := place_sound pl ps ss' (Ev.splice off (cellsV (sv s)) z) l ((a.eval p.2).cells.zipIdx.foldl (fun b q => b.setIfInBounds (off + q.2) q.1) b) (by rw [hl2]; exact e3) (fun x hx => hr x (by simp at hx ⊢; exact .inr hx)) (by
            rw [← Array.foldl_toList, Array.toList_zipIdx, fold_splice off _ 0 b (by simp only [Nat.add_zero, Array.length_toList]; omega), Nat.add_zero]
            exact hz.splice hcs (by omega)) hv
        refine ⟨cs, ?_, hl⟩
        simp only [List.map_cons, Instr.fill, e1]
        rw [if_neg (by simp only [Bool.or_eq_true, decide_eq_true_eq]; omega)]
        exact hf
    · cases h
theorem run_places (hT : TTok P tt) : ∀ (fs : List Field), allSz tt fs = true → ∃ l : List (Nat × Nat), (fs.mapM (fun f => do pure (f.offset, ← Go.sizeOf f.type) : Field → Sem (Nat × Nat))).run P w = .ok l w ∧ ∀ i, l[i]? = fieldPl tt fs i
  | [], _ => ⟨[], by simp, fun i => by simp [fieldPl, nth_eq]⟩
  | f :: fs, h => by
    have h' : (sizeT tt f.type).isSome = true ∧ allSz tt fs = true := by simpa [allSz] using h
    obtain ⟨l, hl, hg⟩ := run_places hT fs h'.2
    obtain ⟨n, hn⟩ := Option.isSome_iff_exists.1 h'.1
    refine ⟨(f.offset, n) :: l, ?_, fun i => ?_⟩
    · rw [List.mapM_cons]
      simp only [Sem.run_bind, size_ok hT hn, hl, Result.andThen_ok, Sem.run_pure]
    · cases i with
      | zero => simp [fieldPl, nth_eq, hn]
      | succ i => rw [List.getElem?_cons_succ, hg i]; simp [fieldPl, nth_eq]
theorem zero_ok (hT : TTok P tt) {t : Nat} {z : V} (h : zeroV tt t = some z) : ∃ u, (zeroValue t).run P w = .ok u w ∧ VR ν ρ z u ∧ trVal u = some z := by
  unfold zeroV at h
  cases hti : ti tt t with
  | none => rw [hti] at h; cases h
  | some i =>
    rw [hti] at h
    cases hz : i.zero with
    | none => simp only [hz] at h; cases h
    | some u => simp only [hz] at h; exact ⟨u, by simp [zeroValue, typeInfo, hT _ _ hti, hz], trVal_sound u z h, h⟩
theorem trVal_nx {u : Value} {z : V} (h : trVal u = some z) : z ≠ .x := by
  rintro rfl
  unfold trVal at h
  split at h <;> first | (cases h; done) | (split at h <;> cases h; done)
theorem zeroC_ok (hT : TTok P tt) {t : Nat} {z : List V} (h : zeroC tt t = some z) : ∃ u, (zeroValue t).run P w = .ok u w ∧ VRs ν ρ z u.cells.toList := by
  unfold zeroC at h
  cases hz : zeroV tt t with
  | none => rw [hz] at h; cases h
  | some v =>
    rw [hz] at h
    obtain rfl := Option.some.inj h
    obtain ⟨u, hu, hr, hn⟩ := zero_ok (w := w) (ν := ν) (ρ := ρ) hT hz
    exact ⟨u, hu, cellsV_sound (trVal_nx hn) hr⟩
theorem p_build (hT : TTok P tt) {t : Nat} {ps : Array (Nat × Operand)} {k : KP} (ho : o.op = .build t ps) (hk : trBuild tt ds t ps.toList = .pu k) (hr : OpR ν ρ ds sv a (ps.toList.map (·.2))) (hv : doP k en sv = some v) : Gives P ν ρ a o w v := by
  unfold trBuild at hk
  split at hk
  · rename_i z hz
    obtain ⟨u, hu, hzr⟩ := zeroC_ok (w := w) (ν := ν) (ρ := ρ) hT hz
    split at hk
    · rename_i fs ht
      split at hk
      · rename_i ss hss
        cases ha : allSz tt fs.toList with
        | false => rw [ha] at hk; cases hk
        | true =>
          rw [ha] at hk
          have hk' : K.pu (.build z ss) = .pu k := hk
          injection hk' with hk'; subst hk'
          obtain ⟨l, hl, hv⟩ := ocase_ne (show ocase (place (srcP sv ss) z) none (fun l => some (V.g l)) = some v from hv) (by simp)
          obtain rfl := Option.some.inj hv
          obtain ⟨pl, hpl, hg⟩ := run_places (w := w) hT fs.toList ha
          obtain ⟨cs, hf, hcs⟩ := place_sound (fieldPl tt fs.toList) ps.toList ss z l u.cells hss hr hzr hl
          refine ⟨.agg cs, ?_, by simp only [VR]; exact ⟨cs, rfl, hcs⟩⟩
          have hpl' : (fs.mapM (fun f => do pure (f.offset, ← Go.sizeOf f.type) : Field → Sem (Nat × Nat))).run P w = .ok pl.toArray w := by
            rw [Array.mapM_eq_mapM_toList]; simp only [Sem.run_map, hpl, Result.andThen_ok]
          have hfun : (fun i => pl.toArray[i]?) = fieldPl tt fs.toList := funext fun i => by rw [← hg i]; simp
          simp only [execOp, ho, Instr.build, Sem.run_bind, hu, Result.andThen_ok, run_underlying (und_ok hT ht), hpl', hfun]
          rw [Array.toList_map, hf]; rfl
      · cases hk
    · rename_i n e ht
      split at hk
      · rename_i sz hs
        split at hk
        · rename_i ss hss
          injection hk with hk; subst hk
          obtain ⟨l, hl, hv⟩ := ocase_ne (show ocase (place (srcP sv ss) z) none (fun l => some (V.g l)) = some v from hv) (by simp)
          obtain rfl := Option.some.inj hv
          obtain ⟨cs, hf, hcs⟩ := place_sound (fun i => some (i * sz, sz)) ps.toList ss z l u.cells hss hr hzr hl
          refine ⟨.agg cs, ?_, by simp only [VR]; exact ⟨cs, rfl, hcs⟩⟩
          simp only [execOp, ho, Instr.build, Sem.run_bind, hu, Result.andThen_ok, run_underlying (und_ok hT ht), size_ok hT hs]
          rw [Array.toList_map, hf]; rfl
        · cases hk
      · cases hk
    · cases hk
  · cases hk
theorem opR_one {x : Operand} (h : OpR ν ρ ds sv a [x]) {s : Src} (e : trSrc ds x = some s) : VR ν ρ (sv s) (a.eval x) := h x (by simp) s e
theorem optR_of {xs : List Operand} (h : OpR ν ρ ds sv a xs) {x : Option Operand} {s : Option Src} (e : trOpt ds x = some s) (hm : ∀ y, x = some y → y ∈ xs) : OptR ν ρ sv a x s := by
  cases x with
  | none => obtain rfl := Option.some.inj (show some none = some s from e); trivial
  | some x =>
    obtain ⟨s', e', rfl⟩ := Option.map_eq_some_iff.1 (show (trSrc ds x).map some = some s from e)
    exact h x (hm x rfl) s' e'
theorem trSrcs_two {x y : Operand} {l : List Src} (h : trSrcs ds [x, y] = some l) : ∃ p q, l = [p, q] ∧ trSrc ds x = some p ∧ trSrc ds y = some q := by
  simp only [trSrcs] at h
  split at h
  · rename_i s t e1 e2
    split at e2
    · rename_i s' t' e3 e4
      obtain rfl := Option.some.inj e4
      obtain rfl := Option.some.inj e2
      obtain rfl := Option.some.inj h
      exact ⟨_, _, rfl, e1, e3⟩
    · cases e2
  · cases h
theorem trSrcs_len : ∀ {xs : List Operand} {l : List Src}, trSrcs ds xs = some l → l.length = xs.length
  | [], l, h => by simp only [trSrcs, Option.some.injEq] at h; subst h; rfl
  | x :: xs, l, h => by
    simp only [trSrcs] at h
    split at h
    · rename_i s t e1 e2
      obtain rfl := Option.some.inj h
      simp [trSrcs_len e2]
    · cases h
theorem trSrcs_cons {x : Operand} {xs : List Operand} {l : List Src} (h : trSrcs ds (x :: xs) = some l) : ∃ p q, l = p :: q ∧ trSrc ds x = some p ∧ trSrcs ds xs = some q := by
  simp only [trSrcs] at h
  split at h
  · rename_i s t e1 e2
    obtain rfl := Option.some.inj h
    exact ⟨s, t, rfl, e1, e2⟩
  · cases h
theorem bif_ne {c : Bool} {k1 k : K} {w : Nat} (h : (bif c then k1 else K.no w) = k) (hk : ∀ w, K.no w ≠ k) : c = true ∧ k1 = k := by
  cases c with
  | true => exact ⟨rfl, h⟩
  | false => exact absurd h (hk _)
theorem len_two {α : Type} {l : List α} (h : l.length = 2) : ∃ x y, l = [x, y] := by
  match l, h with
  | [x, y], _ => exact ⟨x, y, rfl⟩
theorem len_three {α : Type} {l : List α} (h : l.length = 3) : ∃ x y z, l = [x, y, z] := by
  match l, h with
  | [x, y, z], _ => exact ⟨x, y, z, rfl⟩
/-- What only reckons gives what it gives in the small machine. -/
theorem doP_sound (hT : TTok P tt) (he : EnOk ν en) {k : KP} (hk : trK tt ds o.op = .pu k) (hr : OpR ν ρ ds sv a o.op.operands.toList) (hv : doP k en sv = some v) : Gives P ν ρ a o w v := by
  have nw : ∀ w, K.no w ≠ .pu k := fun w h => by cases h
  generalize hop : o.op = op at hk hr
  cases op <;> simp only [trK, no] at hk <;> try (cases hk; done)
  case move x =>
    obtain ⟨s, e, hk⟩ := s1_ne hk nw
    injection hk with hk; subst hk
    obtain rfl := Option.some.inj (show some (sv s) = some v from hv)
    exact p_move (.inl hop) (opR_one hr e)
  case assign x =>
    obtain ⟨s, e, hk⟩ := s1_ne hk nw
    injection hk with hk; subst hk
    obtain rfl := Option.some.inj (show some (sv s) = some v from hv)
    exact p_move (.inr hop) (opR_one hr e)
  case pick c x y =>
    split at hk
    · rename_i s e
      obtain ⟨p, q, e1, e2, hk⟩ := s2_ne hk nw
      injection hk with hk; subst hk
      exact p_pick hop (hr c (by simp [Op.operands]) _ e) (hr x (by simp [Op.operands]) _ e1) (hr y (by simp [Op.operands]) _ e2) hv
    · cases hk
  case alloc t => split at hk <;> cases hk
  case box t x =>
    split at hk
    · obtain ⟨s, e, hk⟩ := s1_ne hk nw; cases hk
    · cases hk
  case build t ps => exact p_build hT hop hk (by simpa [Op.operands] using hr) hv
  case buildSlice t n ps =>
    unfold trBSlice at hk
    repeat' split at hk
    all_goals first | (cases hk; done) | (obtain ⟨_, hk⟩ := bif_ne hk nw; cases hk)
  case load t x =>
    obtain ⟨s, e, hk⟩ := s1_ne hk nw
    unfold trLoad at hk
    repeat' split at hk
    all_goals cases hk
  case store t x y =>
    split at hk
    · obtain ⟨p, q, e1, e2, hk⟩ := s2_ne hk nw; cases hk
    · cases hk
  case nilCheck x =>
    obtain ⟨s, e, hk⟩ := s1_ne hk nw
    injection hk with hk; subst hk
    exact p_nilck hop (opR_one hr e) hv
  case binOp op t x y ty =>
    obtain ⟨p, q, e1, e2, hk⟩ := s2_ne hk nw
    have hx := hr x (by simp [Op.operands]) _ e1
    have hy := hr y (by simp [Op.operands]) _ e2
    unfold trBin at hk
    cases hc : isCmp op with
    | false =>
      rw [hc] at hk
      have hk' : K.pu (.bin op p q) = .pu k := hk
      injection hk' with hk'; subst hk'
      exact p_bin he hop hx hy hv
    | true =>
      rw [hc] at hk
      have hk' : trEq tt op t x y p q = .pu k := hk
      have : k = .bin op p q ∨ ∃ n b, k = .eq n b p q := by
        unfold trEq at hk'
        split at hk' <;> first
          | (injection hk' with h; exact .inr ⟨_, _, h.symm⟩)
          | (injection hk' with h; exact .inl h.symm)
          | (split at hk' <;> first | (injection hk' with h; exact .inr ⟨_, _, h.symm⟩) | (cases hk'; done))
          | (cases hz : (isNilC x || isNilC y) with
              | true => rw [hz] at hk'; exact .inr ⟨5, isNeq op, by (have h2 : K.pu (.eq 5 (isNeq op) p q) = .pu k := hk'; injection h2 with h2; exact h2.symm)⟩
              | false => rw [hz] at hk'; exact .inr ⟨6, isNeq op, by (have h2 : K.pu (.eq 6 (isNeq op) p q) = .pu k := hk'; injection h2 with h2; exact h2.symm)⟩)
          | (cases hz : flatT tt t <;> rw [hz] at hk' <;> first | (cases hk'; done) | exact .inr ⟨_, isNeq op, by (have h2 : K.pu (.eq _ (isNeq op) p q) = .pu k := hk'; injection h2 with h2; exact h2.symm)⟩)
          | (cases hk'; done)
      rcases this with rfl | ⟨n, b, rfl⟩
      · exact p_bin he hop hx hy hv
      · exact p_eq hT hc hop hx hy hk' hv
  case unOp u t x =>
    cases u <;> simp only [trK, no] at hk <;> first | (cases hk; done) | skip
    · obtain ⟨s, e, hk⟩ := s1_ne hk nw
      injection hk with hk; subst hk
      exact p_neg he hop (opR_one hr e) hv
    · obtain ⟨s, e, hk⟩ := s1_ne hk nw
      injection hk with hk; subst hk
      exact p_inv he hop (opR_one hr e) hv
    · obtain ⟨s, e, hk⟩ := s1_ne hk nw
      injection hk with hk; subst hk
      exact p_not hop (opR_one hr e) hv
  case convert t t' x =>
    obtain ⟨s, e, hk⟩ := s1_ne hk nw
    unfold trConv at hk
    split at hk
    · rename_i e1 e2
      injection hk with hk; subst hk
      exact p_conv hT he hop e1 e2 (opR_one hr e) hv
    · rename_i e1 e2
      injection hk with hk; subst hk
      obtain ⟨l, el, hv'⟩ := onS_ne (show onS (sv s) none (fun l => some (V.s l)) = some v from hv) (by simp)
      obtain rfl := Option.some.inj hv'
      rw [← el]
      exact p_convS hT hop e1 e2 (opR_one hr e) ⟨l, el⟩
    · split at hk <;> cases hk
    · split at hk <;> cases hk
    · cases hk
  case makeInterface t x =>
    cases hi : ifaceT tt t with
    | true => rw [hi] at hk; cases hk
    | false =>
      rw [hi] at hk
      obtain ⟨s, e, hk⟩ := s1_ne (show s1 ds x (fun s => .pu (.mkif t s)) = .pu k from hk) nw
      injection hk with hk; subst hk
      obtain rfl := Option.some.inj (show some (V.n t (sv s)) = some v from hv)
      exact p_mkif hT hop hi (opR_one hr e)
  case makeFunc f x y =>
    cases f <;> simp only [trK, no] at hk <;> first | (cases hk; done) | skip
    split at hk
    · rename_i p q e1 e2
      injection hk with hk; subst hk
      obtain rfl := Option.some.inj (show some (V.f _ (srcs sv p) (srcs sv q)) = some v from hv)
      exact p_mkfn hop (trSrcs_sound e1 (fun z hz => hr z (by simp [Op.operands] at hz ⊢; exact .inl hz))) (trSrcs_sound e2 (fun z hz => hr z (by simp [Op.operands] at hz ⊢; exact .inr hz)))
    · cases hk
  case makeMap t r => cases r <;> simp only [trK, no] at hk <;> cases hk
  case makeSlice t x y =>
    obtain ⟨p, q, e1, e2, hk⟩ := s2_ne hk nw
    unfold trMkS at hk
    repeat' split at hk
    all_goals first | (cases hk; done) | (obtain ⟨_, hk⟩ := bif_ne hk nw; cases hk)
  case slice t x lo hi mx =>
    split at hk
    · rename_i l h m e1 e2 e3
      obtain ⟨s, e, hk⟩ := s1_ne hk nw
      have hx := hr x (by simp [Op.operands]) _ e
      have h1 := optR_of hr e1 (fun y hy => by subst hy; simp [Op.operands])
      have h2 := optR_of hr e2 (fun y hy => by subst hy; simp [Op.operands])
      have h3 := optR_of hr e3 (fun y hy => by subst hy; simp [Op.operands])
      unfold trSlice at hk
      split at hk
      · rename_i ht
        split at hk
        · injection hk with hk; subst hk
          have hm : mx = none := by
            cases mx with
            | none => rfl
            | some mx => exact h3.elim
          subst hm
          exact p_sstr hT hop ht hx h1 h2 hv
        · cases hk
      · rename_i e' ht
        split at hk
        · rename_i n hs
          injection hk with hk; subst hk
          exact p_slice hT hop ht hs hx h1 h2 h3 hv
        · cases hk
      · cases hk
    · cases hk
  case fieldAddr t x f =>
    obtain ⟨s, e, hk⟩ := s1_ne hk nw
    unfold trFAddr at hk
    split at hk
    · rename_i fs ht
      split at hk
      · rename_i off n hf
        injection hk with hk; subst hk
        exact p_faddr hT hop ht hf (opR_one hr e) hv
      · cases hk
    · cases hk
  case field t x f =>
    obtain ⟨s, e, hk⟩ := s1_ne hk nw
    exact p_field hT hop hk (opR_one hr e) hv
  case indexAddr t x i =>
    obtain ⟨p, q, e1, e2, hk⟩ := s2_ne hk nw
    exact p_iaddr hT hop hk (hr x (by simp [Op.operands]) _ e1) (hr i (by simp [Op.operands]) _ e2) hv
  case index t x i =>
    obtain ⟨p, q, e1, e2, hk⟩ := s2_ne hk nw
    exact p_index hT hop hk (hr x (by simp [Op.operands]) _ e1) (hr i (by simp [Op.operands]) _ e2) hv
  case lookup t m i ok =>
    obtain ⟨p, q, e1, e2, hk⟩ := s2_ne hk nw
    unfold trLookup at hk
    repeat' split at hk
    all_goals cases hk
  case mapUpdate t m i x =>
    obtain ⟨p, q, e1, e2, hk⟩ := s2_ne hk nw
    obtain ⟨s, e3, hk⟩ := s1_ne hk nw
    unfold trUpd at hk
    repeat' split at hk
    all_goals cases hk
  case insert t m i x =>
    obtain ⟨p, q, e1, e2, hk⟩ := s2_ne hk nw
    obtain ⟨s, e3, hk⟩ := s1_ne hk nw
    unfold trUpd at hk
    repeat' split at hk
    all_goals cases hk
  case typeAssert x t' t ok =>
    obtain ⟨s, e, hk⟩ := s1_ne hk nw
    exact p_tas hT hop hk (opR_one hr e) hv
  case extract x i =>
    obtain ⟨s, e, hk⟩ := s1_ne hk nw
    injection hk with hk; subst hk
    exact p_ext hop (opR_one hr e) hv
  case call c =>
    obtain ⟨ce, args, ts⟩ := c
    unfold trCall at hk
    split at hk
    · rename_i as has
      simp only at has
      cases ce with
      | value f =>
        exfalso
        cases f <;> first | (cases hk; done) | (obtain ⟨s, e, hk⟩ := s1_ne hk nw; cases hk)
      | invoke r m => exfalso; obtain ⟨s, e, hk⟩ := s1_ne hk nw; cases hk
      | builtin b =>
        have hr' : OpR ν ρ ds sv a args.toList := fun x hx => hr x (by simpa [Op.operands, Call.operands] using hx)
        have hk' : trBuiltin tt b ts.toList as = .pu k := hk
        unfold trBuiltin at hk'
        split at hk'
        · rename_i t s eas
          have hl := trSrcs_len has
          obtain ⟨x, ex⟩ : ∃ x, args.toList = [x] := List.length_eq_one_iff.1 (by simpa using hl.symm)
          obtain ⟨p, q, e1, e2, _⟩ := trSrcs_cons (ex ▸ has)
          injection e1 with e1; subst e1
          have ea : args = #[x] := by cases args; simp_all
          have et : ts = #[t] := by cases ts; simp_all
          subst ea; subst et
          exact p_len hT hop hk' (hr' x (by simp) _ e2) hv
        · rename_i t s eas
          have hl := trSrcs_len has
          obtain ⟨x, ex⟩ : ∃ x, args.toList = [x] := List.length_eq_one_iff.1 (by simpa using hl.symm)
          obtain ⟨p, q, e1, e2, _⟩ := trSrcs_cons (ex ▸ has)
          injection e1 with e1; subst e1
          have ea : args = #[x] := by cases args; simp_all
          have et : ts = #[t] := by cases ts; simp_all
          subst ea; subst et
          exact p_cap hT hop hk' (hr' x (by simp) _ e2) hv
        · rename_i p q
          injection hk' with hk'; subst hk'
          obtain ⟨x, y, ex⟩ := len_two (trSrcs_len has).symm
          obtain ⟨p', q', e1, e2, e3⟩ := trSrcs_two (ex ▸ has)
          injection e1 with e1 e1'; injection e1' with e1'; subst e1; subst e1'
          have ea : args = #[x, y] := by cases args; simp_all
          subst ea
          exact p_mm (mx := false) he hop (hr' x (by simp) _ e2) (hr' y (by simp) _ e3) hv
        · rename_i p q
          injection hk' with hk'; subst hk'
          obtain ⟨x, y, ex⟩ := len_two (trSrcs_len has).symm
          obtain ⟨p', q', e1, e2, e3⟩ := trSrcs_two (ex ▸ has)
          injection e1 with e1 e1'; injection e1' with e1'; subst e1; subst e1'
          have ea : args = #[x, y] := by cases args; simp_all
          subst ea
          exact p_mm (mx := true) he hop (hr' x (by simp) _ e2) (hr' y (by simp) _ e3) hv
        · rename_i p q r
          injection hk' with hk'; subst hk'
          obtain ⟨x, y, z, ex⟩ := len_three (trSrcs_len has).symm
          obtain ⟨p', l', e1, e2, e3⟩ := trSrcs_cons (ex ▸ has)
          injection e1 with e1 e1'; subst e1; subst e1'
          obtain ⟨q', r', e1, e4, e5⟩ := trSrcs_two e3
          injection e1 with e1 e1'; injection e1' with e1'; subst e1; subst e1'
          have ea : args = #[x, y, z] := by cases args; simp_all
          subst ea
          exact p_mm3 (mx := false) he hop (hr' x (by simp) _ e2) (hr' y (by simp) _ e4) (hr' z (by simp) _ e5) hv
        · rename_i p q r
          injection hk' with hk'; subst hk'
          obtain ⟨x, y, z, ex⟩ := len_three (trSrcs_len has).symm
          obtain ⟨p', l', e1, e2, e3⟩ := trSrcs_cons (ex ▸ has)
          injection e1 with e1 e1'; subst e1; subst e1'
          obtain ⟨q', r', e1, e4, e5⟩ := trSrcs_two e3
          injection e1 with e1 e1'; injection e1' with e1'; subst e1; subst e1'
          have ea : args = #[x, y, z] := by cases args; simp_all
          subst ea
          exact p_mm3 (mx := true) he hop (hr' x (by simp) _ e2) (hr' y (by simp) _ e4) (hr' z (by simp) _ e5) hv
        · exfalso
          unfold trApp at hk'
          repeat' split at hk'
          all_goals first
            | (cases hk'; done)
            | (obtain ⟨_, h⟩ := bif_ne hk' nw; (repeat' split at h) <;> cases h)
        · exfalso
          unfold trCopy at hk'
          repeat' split at hk'
          all_goals (cases hk'; done)
        · exfalso
          unfold trClear at hk'
          repeat' split at hk'
          all_goals first
            | (cases hk'; done)
            | (obtain ⟨_, h⟩ := bif_ne hk' nw; cases h)
        · exfalso
          unfold trDel at hk'
          repeat' split at hk'
          all_goals (cases hk'; done)
        · injection hk' with hk'; subst hk'
          exact p_mmn (mx := false) he hop (trSrcs_sound has hr') hv
        · injection hk' with hk'; subst hk'
          exact p_mmn (mx := true) he hop (trSrcs_sound has hr') hv
        · cases hk'
    · cases hk
end Ev
end Go.Proofs.Ytlajbngfdbnoiaa
