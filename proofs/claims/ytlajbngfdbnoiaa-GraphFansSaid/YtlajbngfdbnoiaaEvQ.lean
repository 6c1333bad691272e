/- What only reckons, operation by operation. -/
import Derived.Test.YtlajbngfdbnoiaaEvP
import Derived.Laws.Slices
import Derived.Laws.Entries
namespace Go.Proofs.Ytlajbngfdbnoiaa
set_option linter.unusedSimpArgs false
set_option linter.unusedVariables false
set_option linter.constructorNameAsVariable false
open Go Go.RowKit
namespace Ev
variable {P : Program} {tt : TT} {ν : Nat → Int} {ρ : Pl} {ds : List (Option Tmp)} {sv : Src → V} {a : Act} {en : En} {w : World} {o : Oper} {v : V}
/-- The operation gives a value, as the small machine does, and turns nothing. -/
def Gives (P : Program) (ν : Nat → Int) (ρ : Pl) (a : Act) (o : Oper) (w : World) (v : V) : Prop := ∃ u, (execOp a.eval o).run P w = .ok (.value u) w ∧ VR ν ρ v u
theorem s1_ne {x : Operand} {f : Src → K} {k : K} (h : s1 ds x f = k) (hk : ∀ w, K.no w ≠ k) : ∃ s, trSrc ds x = some s ∧ f s = k := by
  unfold s1 at h
  split at h
  · rename_i s e; exact ⟨s, e, h⟩
  · exact absurd h (hk _)
theorem s2_ne {x y : Operand} {f : Src → Src → K} {k : K} (h : s2 ds x y f = k) (hk : ∀ w, K.no w ≠ k) : ∃ s t, trSrc ds x = some s ∧ trSrc ds y = some t ∧ f s t = k := by
  unfold s2 at h
  split at h
  · rename_i s e
    split at h
    · rename_i t e'; exact ⟨s, t, e, e', h⟩
    · exact absurd h (hk _)
  · exact absurd h (hk _)
theorem trSrcs_sound : ∀ {l : List Operand} {ss : List Src}, trSrcs ds l = some ss → OpR ν ρ ds sv a l → VRs ν ρ (srcs sv ss) (l.map a.eval)
  | [], ss, h, _ => by simp only [trSrcs, Option.some.injEq] at h; subst h; simp [srcs, VRs]
  | x :: l, ss, h, hr => by
    simp only [trSrcs] at h
    split at h
    · rename_i s t e1 e2
      obtain rfl := Option.some.inj h
      show VRs ν ρ (sv s :: srcs sv t) _
      simp only [VRs, List.map_cons]
      exact ⟨_, _, rfl, hr x (by simp) s e1, trSrcs_sound e2 (fun y hy => hr y (by simp [hy]))⟩
    · cases h
theorem size_eq (s : ByteArray) : s.size = s.data.toList.length := by cases s; simp [ByteArray.size]
-- one by one
theorem p_move {x : Operand} {s : Src} (ho : o.op = .move x ∨ o.op = .assign x) (h : VR ν ρ (sv s) (a.eval x)) : Gives P ν ρ a o w (sv s) := by
  rcases ho with ho | ho <;> exact ⟨a.eval x, by simp [execOp, ho], h⟩
theorem p_pick {c x y : Operand} {p q r : Src} (ho : o.op = .pick c x y) (hc : VR ν ρ (sv p) (a.eval c)) (hx : VR ν ρ (sv q) (a.eval x)) (hy : VR ν ρ (sv r) (a.eval y))
    (hv : doP (.pick p q r) en sv = some v) : Gives P ν ρ a o w v := by
  obtain ⟨b, e, hv⟩ := onB_ne (show onB (sv p) none (fun x => bcase x (some (sv r)) (some (sv q))) = some v from hv) (by simp)
  rw [e] at hc; simp only [VR] at hc
  cases b with
  | true => obtain rfl := Option.some.inj hv; exact ⟨a.eval x, by simp [execOp, ho, hc, asBool], hx⟩
  | false => obtain rfl := Option.some.inj hv; exact ⟨a.eval y, by simp [execOp, ho, hc, asBool], hy⟩
theorem p_nilck {x : Operand} {s : Src} (ho : o.op = .nilCheck x) (hx : VR ν ρ (sv s) (a.eval x)) (hv : nilck (sv s) = some v) : Gives P ν ρ a o w v := by
  generalize hs : sv s = z at *
  cases z <;> simp only [nilck, onP, onF, onN] at hv <;> first | (cases hv; done) | skip
  all_goals (obtain rfl := Option.some.inj hv; refine ⟨a.eval x, ?_, hx⟩; simp only [VR] at hx)
  · obtain ⟨b, c, n, _, e⟩ := hx; simp [execOp, ho, e]
  · obtain ⟨xs, ys, e, _, _⟩ := hx; simp [execOp, ho, e]
  · obtain ⟨u, e, _⟩ := hx; simp [execOp, ho, e]
theorem p_not {t : TypeId} {x : Operand} {s : Src} (ho : o.op = .unOp .not t x) (hx : VR ν ρ (sv s) (a.eval x)) (hv : onB (sv s) none (fun b => okB (!b)) = some v) : Gives P ν ρ a o w v := by
  obtain ⟨b, e, hv⟩ := onB_ne hv (by simp)
  rw [e] at hx; simp only [VR] at hx
  rw [okB_eq] at hv; obtain rfl := Option.some.inj hv
  exact ⟨.bool (!b), by simp [execOp, ho, hx, Op.unary], by simp only [VR]⟩
theorem p_neg (he : EnOk ν en) {t : TypeId} {x : Operand} {s : Src} (ho : o.op = .unOp .neg t x) (hx : VR ν ρ (sv s) (a.eval x)) (hv : onI (sv s) none (fun k z => binAr en .sub k (Z.lit 0) z) = some v) : Gives P ν ρ a o w v := by
  obtain ⟨k, z, e, hv⟩ := onI_ne hv (by simp)
  rw [e] at hx; simp only [VR] at hx
  obtain ⟨u, hu, hr⟩ := binI_sound (P := P) (w := w) (ρ := ρ) he (op := .sub) (k := k) (x := .lit 0) (y := z) hv 0 (.const .nilIface) (.const .nilIface)
  refine ⟨u, ?_, hr⟩
  simp [eqGuard, binOp, zval] at hu
  simp [execOp, ho, hx, Op.unary, hu]
theorem p_inv (he : EnOk ν en) {t : TypeId} {x : Operand} {s : Src} (ho : o.op = .unOp .xor t x) (hx : VR ν ρ (sv s) (a.eval x)) (hv : onI (sv s) none (fun k z => binBit en .xor k (Z.lit (maskI k)) z) = some v) : Gives P ν ρ a o w v := by
  obtain ⟨k, z, e, hv⟩ := onI_ne hv (by simp)
  rw [e] at hx; simp only [VR] at hx
  obtain ⟨u, hu, hr⟩ := binI_sound (P := P) (w := w) (ρ := ρ) he (op := .xor) (k := k) (x := .lit (maskI k)) (y := z) hv 0 (.const .nilIface) (.const .nilIface)
  refine ⟨u, ?_, hr⟩
  have hm : (if k.signed = true then (-1 : Int) else k.max) = maskI k := by cases k <;> rfl
  simp [eqGuard, binOp, zval] at hu
  simp [execOp, ho, hx, Op.unary, hm, hu]
theorem p_conv (hT : TTok P tt) (he : EnOk ν en) {t t' : TypeId} {x : Operand} {s : Src} {d : TypeDesc} {k : IntKind} (ho : o.op = .convert t t' x) (ht : und tt t = some d) (ht' : und tt t' = some (.int k)) (hx : VR ν ρ (sv s) (a.eval x)) (hv : convK en k (sv s) = some v) : Gives P ν ρ a o w v := by
  obtain ⟨j, z, e, hv⟩ := onI_ne hv (by cases isT 3 (sv s) <;> simp)
  rw [e] at hx; simp only [VR] at hx
  refine ⟨.int k (k.wrap (zval ν z)), ?_, ?_⟩
  · simp [execOp, ho, hx, convert, run_underlying (und_ok hT ht), run_underlying (und_ok hT ht'), Conv.intToInt]
  · cases z <;> first
      | (obtain ⟨z', rfl, e'⟩ := okZ_sound he.norm hv; simp only [VR]; rw [e']; rfl)
      | (simp only [onLit, okI_eq, Option.some.injEq] at hv; subst hv; simp only [VR, zval, wrapF_eq])
theorem p_convS (hT : TTok P tt) {t t' : TypeId} {x : Operand} {s : Src} (ho : o.op = .convert t t' x) (ht : und tt t = some .string) (ht' : und tt t' = some .string) (hx : VR ν ρ (sv s) (a.eval x)) (hs : ∃ l, sv s = .s l) : Gives P ν ρ a o w (sv s) := by
  obtain ⟨l, e⟩ := hs
  refine ⟨a.eval x, ?_, hx⟩
  rw [e] at hx; simp only [VR] at hx
  obtain ⟨s', e', _⟩ := hx
  simp [execOp, ho, e', convert, run_underlying (und_ok hT ht), run_underlying (und_ok hT ht')]
theorem p_mkif (hT : TTok P tt) {t : TypeId} {x : Operand} {s : Src} (ho : o.op = .makeInterface t x) (ht : ifaceT tt t = false) (hx : VR ν ρ (sv s) (a.eval x)) : Gives P ν ρ a o w (.n t (sv s)) := by
  refine ⟨.iface t (a.eval x), ?_, by simp only [VR]; exact ⟨_, rfl, hx⟩⟩
  unfold ifaceT at ht
  cases e : und tt t with
  | none => rw [e] at ht; cases ht
  | some d =>
    rw [e] at ht
    simp only [execOp, ho, Instr.makeInterface, Sem.run_bind, run_underlying (und_ok hT e), Result.andThen_ok]
    cases d <;> simp_all
theorem p_mkfn {g : Nat} {x y : Array Operand} {p q : List Src} (ho : o.op = .makeFunc (.func g) x y) (hx : VRs ν ρ (srcs sv p) (x.toList.map a.eval)) (hy : VRs ν ρ (srcs sv q) (y.toList.map a.eval)) : Gives P ν ρ a o w (.f g (srcs sv p) (srcs sv q)) :=
  ⟨.func (.func g) (x.map a.eval) (y.map a.eval), by simp [execOp, ho, Instr.makeFunc], by simp only [VR]; exact ⟨_, _, rfl, by simpa using hx, by simpa using hy⟩⟩
theorem p_ext {x : Operand} {i : Nat} {s : Src} (ho : o.op = .extract x i) (hx : VR ν ρ (sv s) (a.eval x)) (hv : onU (sv s) none (fun l => nth l i) = some v) : Gives P ν ρ a o w v := by
  obtain ⟨l, e, hv⟩ := onU_ne hv (by simp)
  rw [e] at hx; simp only [VR] at hx
  obtain ⟨cs, e', hl⟩ := hx
  rw [nth_eq] at hv
  obtain ⟨u, hu, hr⟩ := hl.get hv
  exact ⟨u, by simp [execOp, ho, e', Instr.extract, show cs[i]? = some u by simpa using hu], hr⟩
theorem p_eqC0 {t : TypeId} {x y : Operand} {op : BinOp} {ty : TypeId} {e : Bool} (hc : isCmp op = true) (ho : o.op = .binOp op t x y ty)
    (hg : (eqGuard op t x y (a.eval x) (a.eval y)).run P w = .ok () w) (hn : ∀ k n, a.eval x ≠ .int k n) (hn' : ∀ s, a.eval x ≠ .string s) (hn'' : ∀ k n, a.eval x ≠ .float k n) (hn3 : ∀ k n m, a.eval x ≠ .complex k n m)
    (hq : (Op.equal t (a.eval x) (a.eval y)).run P w = .ok e w) (hv : bcase (isNeq op) (okB e) (okB (!e)) = some v) : Gives P ν ρ a o w v := by
  have hb : (binOp op t (a.eval x) (a.eval y)).run P w = .ok (.bool (bif isNeq op then !e else e)) w := by
    cases op <;> first | exact absurd hc (by decide) | skip
    all_goals
      cases hx : a.eval x <;> first
        | exact absurd hx (hn _ _) | exact absurd hx (hn' _) | exact absurd hx (hn'' _ _) | exact absurd hx (hn3 _ _ _)
        | (rw [hx] at hq; simp [binOp, hq, isNeq])
  refine ⟨_, by simp [execOp, ho, hg, hb]; rfl, ?_⟩
  cases hne : isNeq op <;> rw [hne] at hv <;> simp only [bcase_f, bcase_t, okB_eq, Option.some.injEq] at hv <;> subst hv <;> simp only [VR, cond_true, cond_false]
end Ev
end Go.Proofs.Ytlajbngfdbnoiaa
