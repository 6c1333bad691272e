/- What only reckons, operation by operation: places, parts, slices. -/
import Derived.Test.YtlajbngfdbnoiaaEvS
namespace Go.Proofs.Ytlajbngfdbnoiaa
set_option linter.unusedSimpArgs false
set_option linter.unusedVariables false
set_option linter.constructorNameAsVariable false
open Go Go.RowKit
namespace Ev
variable {path : List (Cd × Bool)}
variable {P : Program} {tt : TT} {ν : Nat → Int} {ρ : Pl} {ds : List (Option Tmp)} {sv : Src → V} {a : Act} {en : En} {w : World} {o : Oper} {v : V}
theorem add_at (b c n : Nat) : (⟨b, c, none⟩ : Addr).add n = ⟨b, c + n, none⟩ := by unfold Addr.add; split <;> simp_all
theorem ti_size (hT : TTok P tt) {t n : Nat} (k : sizeT tt t = some n) : ∃ i, P.info? t = some i ∧ i.size = n := by
  unfold sizeT at k
  cases e : ti tt t with
  | none => rw [e] at k; cases k
  | some i => rw [e] at k; exact ⟨i, hT _ _ e, Option.some.inj k⟩
theorem fieldPl_some {fs : List Field} {i off n : Nat} (h : fieldPl tt fs i = some (off, n)) : ∃ f, fs[i]? = some f ∧ f.offset = off ∧ sizeT tt f.type = some n := by
  unfold fieldPl at h
  rw [nth_eq] at h
  split at h
  · rename_i f e
    split at h
    · rename_i m e'
      obtain ⟨rfl, rfl⟩ : f.offset = off ∧ m = n := by simpa using h
      exact ⟨f, e, rfl, e'⟩
    · cases h
  · cases h
theorem p_faddr (hT : TTok P tt) {t f off n : Nat} {x : Operand} {s : Src} {fs : Array Field} (ho : o.op = .fieldAddr t x f) (ht : und tt t = some (.struct fs)) (hf : fieldPl tt fs.toList f = some (off, n + 1)) (hx : VR ν ρ (sv s) (a.eval x))
    (hv : faddr off (sv s) = some v) : Gives P ν ρ a o w v := by
  obtain ⟨y, q, e, hv⟩ := onP_ne hv (by simp)
  rw [e] at hx; simp only [VR] at hx
  obtain ⟨b, c, m, e1, hx⟩ := hx
  rw [forceN_eq] at hv; obtain rfl := Option.some.inj hv
  obtain ⟨fd, e2, rfl, e3⟩ := fieldPl_some hf
  have hs := size_ok (w := w) hT e3
  refine ⟨.pointer (some ⟨b, c + (q + fd.offset), none⟩), ?_, by simp only [VR]; exact ⟨b, c, m, e1, rfl⟩⟩
  have e2' : fs[f]? = some fd := by simpa using e2
  simp [execOp, ho, hx, Instr.fieldAt, run_underlying (und_ok hT ht), e2', Instr.sureAddr, fieldPlace, hs, add_at, Nat.add_assoc]
theorem p_part1 (hT : TTok P tt) {t off : Nat} {cs : Array Value} {l : List V} (ht : aggT tt t = some false) (hl : VRs ν ρ l cs.toList) (hv : nth l off = some v) : ∃ u, (part t cs off).run P w = .ok u w ∧ VR ν ρ v u := by
  rw [nth_eq] at hv
  obtain ⟨u, hu, hr⟩ := hl.get hv
  have hu' : cs[off]? = some u := by simpa using hu
  exact ⟨u, by simp [part, agg_ok hT ht, hu'], hr⟩
theorem p_partn (hT : TTok P tt) {t off n : Nat} {cs : Array Value} {l : List V} (ht : aggT tt t = some true) (hs : sizeT tt t = some n) (hl : VRs ν ρ l cs.toList) (hv : partn off n (.g l) = some v) : ∃ u, (part t cs off).run P w = .ok u w ∧ VR ν ρ v u := by
  obtain ⟨hn, hv⟩ := bcase_ne (show bcase (lenIs n (Ev.take n (Ev.drop off l))) none (some (V.g (Ev.take n (Ev.drop off l)))) = some v from hv) (by simp)
  obtain rfl := Option.some.inj hv
  refine ⟨.agg (cs.extract off (off + n)), by simp [part, agg_ok hT ht, size_ok hT hs], ?_⟩
  simp only [VR]
  refine ⟨_, rfl, ?_⟩
  rw [take_eq, drop_eq]
  have : (cs.extract off (off + n)).toList = (cs.toList.drop off).take n := by simp [Array.toList_extract, List.extract, show off + n - off = n by omega]
  rw [this]
  exact (hl.drop off).take n
theorem p_field (hT : TTok P tt) {t f : Nat} {x : Operand} {s : Src} {k : KP} (ho : o.op = .field t x f) (hk : trField tt t f s = .pu k) (hx : VR ν ρ (sv s) (a.eval x)) (hv : doP k en sv = some v) : Gives P ν ρ a o w v := by
  unfold trField at hk
  split at hk
  · rename_i fs ht
    rw [nth_eq] at hk
    split at hk
    · rename_i fd e
      have e' : fs[f]? = some fd := by simpa using e
      unfold trPart at hk
      split at hk
      · rename_i ha
        split at hk
        · rename_i n hs
          injection hk with hk; subst hk
          have hv' : partn fd.offset n (sv s) = some v := hv
          obtain ⟨l, el, _⟩ := onG_ne hv' (by simp)
          rw [el] at hv' hx; simp only [VR] at hx
          obtain ⟨cs, e1, hl⟩ := hx
          obtain ⟨u, hu, hr⟩ := p_partn (w := w) hT ha hs hl hv'
          exact ⟨u, by simp [execOp, ho, Instr.field, run_underlying (und_ok hT ht), e', e1, asAgg, hu], hr⟩
        · cases hk
      · rename_i ha
        injection hk with hk; subst hk
        obtain ⟨l, el, hv'⟩ := onG_ne (show part1 fd.offset (sv s) = some v from hv) (by simp)
        rw [el] at hx; simp only [VR] at hx
        obtain ⟨cs, e1, hl⟩ := hx
        obtain ⟨u, hu, hr⟩ := p_part1 (w := w) hT ha hl hv'
        exact ⟨u, by simp [execOp, ho, Instr.field, run_underlying (und_ok hT ht), e', e1, asAgg, hu], hr⟩
      · cases hk
    · cases hk
  · cases hk
theorem p_iaddr (hT : TTok P tt) {t : Nat} {x i : Operand} {p q : Src} {k : KP} (ho : o.op = .indexAddr t x i) (hk : trIAddr tt t p q = .pu k) (hx : VR ν ρ (sv p) (a.eval x)) (hi : VR ν ρ (sv q) (a.eval i)) (hv : doP k en sv = some v) : Gives P ν ρ a o w v := by
  unfold trIAddr at hk
  split at hk
  · rename_i e ht
    split at hk
    · rename_i sz hs
      injection hk with hk; subst hk
      obtain ⟨y, off, s, n, e1, hv⟩ := onSl_ne (show iaddr sz (sv p) (sv q) = some v from hv) (by simp)
      obtain ⟨ki, m, e2, hv⟩ := asNat_ne hv (by simp)
      obtain ⟨h1, hv⟩ := bcase_ne hv (by simp)
      obtain ⟨h2, hv⟩ := bcase_ne hv (by simp)
      rw [forceN_eq] at hv; obtain rfl := Option.some.inj hv
      obtain rfl : s = sz := Nat.eq_of_beq_eq_true h2
      have h1' := blt_iff.1 h1
      rw [e1] at hx; rw [e2] at hi; simp only [VR, zval] at hx hi
      obtain ⟨b, c, nn, cap, pp, e3, hx, hle, hc⟩ := hx
      obtain ⟨rfl, hfit⟩ := hc (by omega)
      refine ⟨.pointer (some ⟨b, c + (off + m * s), none⟩), ?_, by simp only [VR]; exact ⟨b, c, nn, e3, rfl⟩⟩
      simp [execOp, ho, hx, hi, Instr.indexAt, asIntOf, run_underlying (und_ok hT ht), size_ok hT hs, add_at, Nat.add_assoc, h1']
    · cases hk
  · rename_i len e ht
    split at hk
    · rename_i sz hs
      injection hk with hk; subst hk
      obtain ⟨y, off, e1, hv⟩ := onP_ne (show aaddr sz len (sv p) (sv q) = some v from hv) (by simp)
      obtain ⟨ki, m, e2, hv⟩ := asNat_ne hv (by simp)
      obtain ⟨h1, hv⟩ := bcase_ne hv (by simp)
      rw [forceN_eq] at hv; obtain rfl := Option.some.inj hv
      have h1' := blt_iff.1 h1
      rw [e1] at hx; rw [e2] at hi; simp only [VR, zval] at hx hi
      obtain ⟨b, c, nn, e3, hx⟩ := hx
      refine ⟨.pointer (some ⟨b, c + (off + m * sz), none⟩), ?_, by simp only [VR]; exact ⟨b, c, nn, e3, rfl⟩⟩
      simp [execOp, ho, hx, hi, Instr.indexAt, asIntOf, run_underlying (und_ok hT ht), size_ok hT hs, add_at, Nat.add_assoc, h1', Instr.sureAddr]
    · cases hk
  · cases hk
theorem p_index (hT : TTok P tt) {t : Nat} {x i : Operand} {p q : Src} {k : KP} (ho : o.op = .index t x i) (hk : trIndex tt t p q = .pu k) (hx : VR ν ρ (sv p) (a.eval x)) (hi : VR ν ρ (sv q) (a.eval i)) (hv : doP k en sv = some v) : Gives P ν ρ a o w v := by
  unfold trIndex at hk
  split at hk
  · rename_i ht
    injection hk with hk; subst hk
    obtain ⟨l, e1, hv⟩ := onS_ne (show istr (sv p) (sv q) = some v from hv) (by simp)
    obtain ⟨ki, m, e2, hv⟩ := asNat_ne hv (by simp)
    obtain ⟨z, hz, hv⟩ := ocase_ne hv (by simp)
    obtain rfl := Option.some.inj hv
    rw [nth_eq] at hz
    rw [e1] at hx; rw [e2] at hi; simp only [VR, zval] at hx hi
    obtain ⟨s, es, hs⟩ := hx
    obtain ⟨b, hb, hzb⟩ := hs.get hz
    have hm : m < s.size := by rw [size_eq]; exact (List.getElem?_eq_some_iff.1 hb).1
    have hbb : s[m]'hm = b := by
      have h3 := (List.getElem?_eq_some_iff.1 hb).2
      rw [← h3]; cases s; rfl
    refine ⟨.int .u8 b.toNat, ?_, by simp only [VR]; rw [hzb]⟩
    simp only [execOp, ho, hi, es, Sem.run_bind]
    rw [run_index_string w t s ki m (und_ok hT ht), dif_pos ⟨by omega, by omega⟩]
    simp [hbb]
  · rename_i len e ht
    split at hk
    · rename_i n ha hs
      injection hk with hk; subst hk
      obtain ⟨ki, m, e2, hv⟩ := asNat_ne (show ipartn len n (sv p) (sv q) = some v from hv) (by simp)
      obtain ⟨h1, hv⟩ := bcase_ne hv (by simp)
      have h1' := blt_iff.1 h1
      obtain ⟨l, el, _⟩ := onG_ne hv (by simp)
      rw [el] at hv hx; rw [e2] at hi; simp only [VR, zval] at hx hi
      obtain ⟨cs, e1, hl⟩ := hx
      obtain ⟨u, hu, hr⟩ := p_partn (w := w) hT ha hs hl hv
      exact ⟨u, by simp [execOp, ho, e1, hi, Instr.index, asIntOf, run_underlying (und_ok hT ht), h1', size_ok hT hs]; rw [show m * n = Nat.mul m n from rfl, hu]; rfl, hr⟩
    · rename_i n ha hs
      cases hn : Nat.beq n 1 with
      | false => rw [hn] at hk; cases hk
      | true =>
        rw [hn] at hk
        obtain rfl := Nat.eq_of_beq_eq_true hn
        have hk' : K.pu (.ipart1 len p q) = .pu k := hk
        injection hk' with hk'; subst hk'
        obtain ⟨ki, m, e2, hv⟩ := asNat_ne (show ipart1 len (sv p) (sv q) = some v from hv) (by simp)
        obtain ⟨h1, hv⟩ := bcase_ne hv (by simp)
        have h1' := blt_iff.1 h1
        obtain ⟨l, el, hv⟩ := onG_ne hv (by simp)
        rw [el] at hx; rw [e2] at hi; simp only [VR, zval] at hx hi
        obtain ⟨cs, e1, hl⟩ := hx
        obtain ⟨u, hu, hr⟩ := p_part1 (w := w) hT ha hl hv
        exact ⟨u, by simp [execOp, ho, e1, hi, Instr.index, asIntOf, run_underlying (und_ok hT ht), h1', size_ok hT hs, hu], hr⟩
    · cases hk
  · cases hk
-- lengths
theorem lenS_some {v : V} {u : Value} {n : Nat} (h : lenS v = some n) (k : VR ν ρ v u) : ∃ p c, u = .slice p n c ∧ n ≤ c := by
  cases v <;> first | (cases h; done) | skip
  · obtain rfl := Option.some.inj h; simp only [VR] at k; exact ⟨_, _, k, Nat.le_refl _⟩
  · obtain rfl := Option.some.inj h; simp only [VR] at k; obtain ⟨p, k⟩ := k; exact ⟨_, _, k, Nat.le_refl _⟩
  · obtain rfl := Option.some.inj h; simp only [VR] at k; obtain ⟨_, _, _, cap, p, _, k, hle, _⟩ := k; exact ⟨_, _, k, hle⟩
theorem run_builtin {b : Builtin} {args : Array Operand} {ts : Array TypeId} (ho : o.op = .call ⟨.builtin b, args, ts⟩) : (execOp a.eval o).run P w = (builtin b ts o.type (args.map fun | .const _ => true | _ => false) (args.map a.eval)).run P w := by
  simp only [execOp, ho, resolve, invoke, Sem.run_bind, Sem.run_pure, Result.andThen_ok]; rfl
theorem p_len (hT : TTok P tt) {x : Operand} {s : Src} {t : Nat} {k : KP} (ho : o.op = .call ⟨.builtin .len, #[x], #[t]⟩) (hk : trLen tt t s = .pu k) (hx : VR ν ρ (sv s) (a.eval x)) (hv : doP k en sv = some v) : Gives P ν ρ a o w v := by
  have hrun : ∀ u, (Builtin.len_ #[t] o.type #[a.eval x]).run P w = .ok u w → (execOp a.eval o).run P w = .ok (.value u) w := by
    intro u hu
    rw [run_builtin ho]
    simp [builtin, hu]
  have fin : ∀ (n : Nat) , okN n = some v → (Builtin.len_ #[t] o.type #[a.eval x]).run P w = .ok (goInt n) w → Gives P ν ρ a o w v := by
    intro n hn hu
    rw [okN_eq] at hn
    obtain rfl := Option.some.inj hn
    exact ⟨_, hrun _ hu, by simp only [VR, goInt, zval]⟩
  unfold trLen at hk
  split at hk
  · rename_i ht
    injection hk with hk; subst hk
    obtain ⟨l, el, hv⟩ := onS_ne (show onS (sv s) none (fun l => okN (Ev.len l)) = some v from hv) (by simp)
    rw [el] at hx; simp only [VR] at hx
    obtain ⟨b, eb, hb⟩ := hx
    refine fin _ hv ?_
    rw [len_eq, eb]
    have h2 : b.size = l.length := by rw [size_eq, hb.length]
    simp [Builtin.len_, run_underlying (und_ok hT ht), h2]
  · rename_i e ht
    injection hk with hk; subst hk
    obtain ⟨n, hn, hv⟩ := ocase_ne (show ocase (lenS (sv s)) none okN = some v from hv) (by simp)
    obtain ⟨p, c, e1, _⟩ := lenS_some hn hx
    refine fin _ hv ?_
    rw [e1]
    simp [Builtin.len_, run_underlying (und_ok hT ht)]
  · cases hk
  · rename_i n e ht
    injection hk with hk; subst hk
    refine fin _ (show okN n = some v from hv) ?_
    simp [Builtin.len_, run_underlying (und_ok hT ht)]
  · rename_i e ht
    split at hk
    · rename_i n e' ht'
      injection hk with hk; subst hk
      refine fin _ (show okN n = some v from hv) ?_
      simp [Builtin.len_, run_underlying (und_ok hT ht), run_underlying (und_ok hT ht')]
    · cases hk
  · cases hk
theorem p_cap (hT : TTok P tt) {x : Operand} {s : Src} {t : Nat} {k : KP} (ho : o.op = .call ⟨.builtin .cap, #[x], #[t]⟩) (hk : trCap tt t s = .pu k) (hx : VR ν ρ (sv s) (a.eval x)) (hv : doP k en sv = some v) : Gives P ν ρ a o w v := by
  unfold trCap at hk
  split at hk
  · rename_i e ht
    injection hk with hk; subst hk
    have hv' : bcase (isT 6 (sv s)) (onE (sv s) none (fun _ _ => okN 0)) (okN 0) = some v := hv
    have : v = .i .i64 (.lit 0) ∧ ∃ p, a.eval x = .slice p 0 0 := by
      cases hs : isT 6 (sv s) with
      | true =>
        rw [hs] at hv'; rw [bcase_t, okN_eq] at hv'
        have := isT_s0 hs
        rw [this] at hx; simp only [VR] at hx
        exact ⟨(Option.some.inj hv').symm, _, hx⟩
      | false =>
        rw [hs] at hv'
        obtain ⟨y, q, e1, h⟩ := onE_ne (show onE (sv s) none (fun _ _ => okN 0) = some v from hv') (by simp)
        rw [okN_eq] at h
        rw [e1] at hx; simp only [VR] at hx
        obtain ⟨p, hx⟩ := hx
        exact ⟨(Option.some.inj h).symm, _, hx⟩
    obtain ⟨rfl, p, hx'⟩ := this
    refine ⟨goInt 0, ?_, by simp only [VR, goInt, zval]⟩
    rw [run_builtin ho]
    simp [builtin, hx', Builtin.cap_, run_underlying (und_ok hT ht)]
  · cases hk
theorem mm_some (he : EnOk ν en) {mx : Bool} {x0 y r : V} {u u' : Value} (h : mm en.path mx x0 y = some r) (hx : VR ν ρ x0 u) (hy : VR ν ρ y u') :
    ∃ k m k' n, u = .int k m ∧ u' = .int k' n ∧ VR ν ρ r (.int k (if mx then (if n > m then n else m) else (if n < m then n else m))) := by
  obtain ⟨k, m, rfl, h⟩ := onI_ne h (by simp)
  obtain ⟨k', n, rfl, h⟩ := onI_ne h (by simp)
  obtain ⟨c, hc, h⟩ := ocase_ne h (by simp)
  simp only [VR] at hx hy
  refine ⟨k, _, k', _, hx, hy, ?_⟩
  cases mx with
  | false =>
    have := cmpZ_sound he.path (show cmpZ en.path .lss n m = some c from hc)
    simp only [cmpI, ltI_eq] at this
    cases c with
    | false => obtain rfl := Option.some.inj h; simp only [VR]; rw [if_neg (of_decide_eq_false this)]; rfl
    | true => obtain rfl := Option.some.inj h; simp only [VR]; rw [if_pos (of_decide_eq_true this)]; rfl
  | true =>
    have := cmpZ_sound he.path (show cmpZ en.path .gtr n m = some c from hc)
    simp only [cmpI, ltI_eq] at this
    cases c with
    | false => obtain rfl := Option.some.inj h; simp only [VR, if_true]; rw [if_neg (of_decide_eq_false this)]
    | true => obtain rfl := Option.some.inj h; simp only [VR, if_true]; rw [if_pos (of_decide_eq_true this)]
theorem p_mm (he : EnOk ν en) {x y : Operand} {p q : Src} {ts : Array TypeId} {mx : Bool} (ho : o.op = .call ⟨.builtin (if mx then .max else .min), #[x, y], ts⟩) (hx : VR ν ρ (sv p) (a.eval x)) (hy : VR ν ρ (sv q) (a.eval y)) (hv : mm en.path mx (sv p) (sv q) = some v) : Gives P ν ρ a o w v := by
  obtain ⟨k, m, k', n, e1, e2, hr⟩ := mm_some he hv hx hy
  cases mx with
  | false => refine ⟨_, ?_, hr⟩; rw [run_builtin ho]; simp [builtin, e1, e2, run_min_int2]
  | true => refine ⟨_, ?_, hr⟩; rw [run_builtin ho]; simp [builtin, e1, e2, run_max_int2]
theorem p_mm3 (he : EnOk ν en) {x y z : Operand} {p q r : Src} {ts : Array TypeId} {mx : Bool} (ho : o.op = .call ⟨.builtin (if mx then .max else .min), #[x, y, z], ts⟩) (hx : VR ν ρ (sv p) (a.eval x)) (hy : VR ν ρ (sv q) (a.eval y)) (hz : VR ν ρ (sv r) (a.eval z))
    (hv : ocase (mm en.path mx (sv p) (sv q)) none (fun t => mm en.path mx t (sv r)) = some v) : Gives P ν ρ a o w v := by
  obtain ⟨t, ht, hv⟩ := ocase_ne hv (by simp)
  obtain ⟨k, m, k', n, e1, e2, hr⟩ := mm_some he ht hx hy
  obtain ⟨k2, m2, k3, n3, e3, e4, hr2⟩ := mm_some he hv hr hz
  injection e3 with e3 e3'; subst e3; subst e3'
  cases mx with
  | false => refine ⟨_, ?_, hr2⟩; rw [run_builtin ho]; simp [builtin, e1, e2, e4, run_min_int3]
  | true => refine ⟨_, ?_, hr2⟩; rw [run_builtin ho]; simp [builtin, e1, e2, e4, run_max_int3]
theorem mmf_sound (he : EnOk ν en) {mx : Bool} : ∀ {l : List V} {us : List Value} {x0 r : V} {u : Value}, mmf en.path mx l x0 = some r → VR ν ρ x0 u → VRs ν ρ l us → ∃ u', (us.foldlM (if mx then Builtin.max2 else Builtin.min2) u).run P w = .ok u' w ∧ VR ν ρ r u'
  | [], us, x0, r, u, h, hx, hl => by
    simp only [VRs] at hl; subst hl
    obtain rfl := Option.some.inj (show some x0 = some r from h)
    exact ⟨u, by simp, hx⟩
  | y :: l, us, x0, r, u, h, hx, hl => by
    simp only [VRs] at hl
    obtain ⟨u1, us', rfl, h1, h2⟩ := hl
    obtain ⟨t, ht, h⟩ := ocase_ne (show ocase (mm en.path mx x0 y) none (fun t => mmf en.path mx l t) = some r from h) (by simp)
    obtain ⟨k, m, k', n, rfl, rfl, hr⟩ := mm_some he ht hx h1
    obtain ⟨u', h3, h4⟩ := mmf_sound he h hr h2
    refine ⟨u', ?_, h4⟩
    rw [List.foldlM_cons, Sem.run_bind]
    cases mx with
    | false => simp only [Bool.false_eq_true, if_false] at h3 ⊢; rw [show (Builtin.min2 (.int k m) (.int k' n)).run P w = .ok (.int k (if n < m then n else m)) w by simp [Builtin.min2]]; exact h3
    | true => simp only [if_true] at h3 ⊢; rw [show (Builtin.max2 (.int k m) (.int k' n)).run P w = .ok (.int k (if n > m then n else m)) w by simp [Builtin.max2]]; exact h3
theorem p_mmn (he : EnOk ν en) {xs : Array Operand} {ss : List Src} {ts : Array TypeId} {mx : Bool} (ho : o.op = .call ⟨.builtin (if mx then .max else .min), xs, ts⟩) (hx : VRs ν ρ (srcs sv ss) (xs.toList.map a.eval))
    (hv : lcase (srcs sv ss) none (fun x0 r => mmf en.path mx r x0) = some v) : Gives P ν ρ a o w v := by
  obtain ⟨x0, r, e1, hv⟩ := lcase_ne hv (by simp)
  rw [e1] at hx
  simp only [VRs] at hx
  obtain ⟨u, us, e2, h1, h2⟩ := hx
  obtain ⟨u', h3, h4⟩ := mmf_sound (P := P) (w := w) he hv h1 h2

  refine ⟨u', ?_, h4⟩
  rw [run_builtin ho]
  cases mx with
  | false => simp only [Bool.false_eq_true, if_false] at h3 ⊢; simp [builtin, Builtin.min_, e2, h3]
  | true => simp only [if_true] at h3 ⊢; simp [builtin, Builtin.max_, e2, h3]
theorem p_tas (hT : TTok P tt) {x : Operand} {s : Src} {t t' : Nat} {ok : Bool} {k : KP} (ho : o.op = .typeAssert x t' t ok) (hk : trTas tt t ok s = .pu k) (hx : VR ν ρ (sv s) (a.eval x)) (hv : doP k en sv = some v) : Gives P ν ρ a o w v := by
  unfold trTas at hk
  split at hk
  · cases hk
  · rename_i d hni ht
    split at hk
    · rename_i z hz
      injection hk with hk; subst hk
      unfold zeroV at hz
      cases hti : ti tt t with
      | none => rw [hti] at hz; cases hz
      | some i =>
        rw [hti] at hz
        cases hzz : i.zero with
        | none => simp only [hzz] at hz; cases hz
        | some zz =>
          simp only [hzz] at hz
          have hzv : (zeroValue t).run P w = .ok zz w := by simp [zeroValue, typeInfo, hT _ _ hti, hzz]
          have hvz : VR ν ρ z zz := trVal_sound zz z hz
          have hu := run_underlying (und_ok hT ht) w
          have hv' : tas t ok z (sv s) = some v := hv
          generalize sv s = vs at *
          cases vs <;> first | (cases hv'; done) | skip
          · simp only [VR] at hx
            obtain ⟨rfl, h⟩ := bcase_ne (show bcase ok none (some (V.u [z, V.b false])) = some v from hv') (by simp)
            obtain rfl := Option.some.inj h
            refine ⟨.tuple #[zz, .bool false], ?_, by simp only [VR, VRs]; exact ⟨_, rfl, _, _, rfl, hvz, _, _, rfl, by simp only [VR], rfl⟩⟩
            simp only [execOp, ho, hx, Instr.typeAssert, Sem.run_bind, hu, Result.andThen_ok]
            cases d <;> first | exact absurd rfl (hni _) | (simp [hzv])
          · rename_i t2 w2
            simp only [VR] at hx
            obtain ⟨u2, hx, hr⟩ := hx
            have hv2 : bcase (Nat.beq t2 t) (bcase ok none (some (V.u [z, V.b false]))) (bcase ok (some w2) (some (V.u [w2, V.b true]))) = some v := hv'
            cases hb : Nat.beq t2 t with
            | false =>
              rw [hb] at hv2
              obtain ⟨rfl, h⟩ := bcase_ne (show bcase ok none (some (V.u [z, V.b false])) = some v from hv2) (by simp)
              obtain rfl := Option.some.inj h
              have hne : ¬ t2 = t := fun e => by rw [e, Nat.beq_refl] at hb; cases hb
              refine ⟨.tuple #[zz, .bool false], ?_, by simp only [VR, VRs]; exact ⟨_, rfl, _, _, rfl, hvz, _, _, rfl, by simp only [VR], rfl⟩⟩
              simp only [execOp, ho, hx, Instr.typeAssert, Sem.run_bind, hu, Result.andThen_ok]
              cases d <;> first | exact absurd rfl (hni _) | (simp [hzv, hne])
            | true =>
              rw [hb] at hv2
              obtain rfl := Nat.eq_of_beq_eq_true hb
              cases ok with
              | false =>
                obtain rfl := Option.some.inj hv2
                refine ⟨u2, ?_, hr⟩
                simp only [execOp, ho, hx, Instr.typeAssert, Sem.run_bind, hu, Result.andThen_ok]
                cases d <;> first | exact absurd rfl (hni _) | (simp)
              | true =>
                obtain rfl := Option.some.inj hv2
                refine ⟨.tuple #[u2, .bool true], ?_, by simp only [VR, VRs]; exact ⟨_, rfl, _, _, rfl, hr, _, _, rfl, by simp only [VR], rfl⟩⟩
                simp only [execOp, ho, hx, Instr.typeAssert, Sem.run_bind, hu, Result.andThen_ok]
                cases d <;> first | exact absurd rfl (hni _) | (simp)
    · cases hk
  · cases hk
end Ev
end Go.Proofs.Ytlajbngfdbnoiaa
