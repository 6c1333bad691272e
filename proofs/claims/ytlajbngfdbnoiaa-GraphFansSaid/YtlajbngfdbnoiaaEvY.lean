/- What acts: calls; all of it in one law. -/
import Derived.Test.YtlajbngfdbnoiaaEvE
namespace Go.Proofs.Ytlajbngfdbnoiaa
set_option linter.unusedSimpArgs false
set_option linter.unusedVariables false
set_option linter.constructorNameAsVariable false
open Go Go.RowKit
namespace Ev
variable {path : List (Cd × Bool)}
variable {P : Program} {tt : TT} {ν : Nat → Int} {ρ : Pl} {ds : List (Option Tmp)} {sv : Src → V} {a : Act} {en : En} {w : World} {o : Oper} {v : V}
theorem string_bytes (s : ByteArray) : (s.extract 0 s.size).data = s.data := by
  rw [ByteArray.data_extract]
  have : s.size = s.data.size := rfl
  rw [this, Array.extract_size]
theorem e_app (hT : TTok P tt) {h h' : H} {W : Bas} (R : Rel ν W ρ h w) {t u : Nat} {x y : Operand} {p q : Src} {k : KE} (ho : o.op = .call ⟨.builtin .append, #[x, y], #[t, u]⟩) (hk : trApp tt t u p q = .ef k) (hx : VR ν ρ (sv p) (a.eval x)) (hy : VR ν ρ (sv q) (a.eval y))
    {call : Nat → List V → H → R1} (hv : doE k en call sv h = .ok v h') : Does P o a w (After ν W h ρ h' v) := by
  have nw : ∀ w, K.no w ≠ .ef k := fun w h => by cases h
  have fin : ∀ u' w', (Builtin.append_ #[t, u] o.type #[a.eval x, a.eval y]).run P w = .ok u' w' → After ν W h ρ h' v u' w' → Does P o a w (After ν W h ρ h' v) := by
    intro u' w' hrun ha
    refine Does.value ?_ ha
    rw [run_builtin ho]
    simp [builtin, hrun]
  unfold trApp at hk
  split at hk <;> try (cases hk; done)
  rename_i e ht
  split at hk <;> try (cases hk; done)
  rename_i i z hi hz
  obtain ⟨hc, hk⟩ := bif_ne hk nw
  simp only [Bool.and_eq_true] at hc
  have hzl := Nat.eq_of_beq_eq_true hc.1
  have hbl := Nat.le_of_ble_eq_true hc.2
  have hii := hT _ _ hi
  -- the zero
  obtain ⟨zu, hzu, hzr⟩ : ∃ zu, i.zero = some zu ∧ VRs ν ρ z zu.cells.toList := by
    unfold zeroC zeroV at hz
    rw [hi] at hz
    cases hzz : i.zero with
    | none => simp only [hzz] at hz; cases hz
    | some zu =>
      simp only [hzz] at hz
      obtain ⟨zv, hzv, rfl⟩ := Option.map_eq_some_iff.1 hz
      exact ⟨zu, rfl, cellsV_sound (trVal_nx hzv) (trVal_sound zu zv hzv)⟩
  have hzs : zu.cells.size = i.size := by have := hzr.length; simp at this; omega
  split at hk
  · rename_i ik hu
    injection hk with hk; subst hk
    obtain ⟨k', n, e1, hv⟩ := asNat_ne (show asNat (sv q) (R1.bad 80) (fun n => bcase (small n) (R1.bad 80) (appTo h i.size i.bytes (sv p) n (rep z n))) = .ok v h' from hv) (by simp)
    rw [e1] at hy; simp only [VR, zval] at hy
    obtain ⟨c2, hv⟩ := bcase_ne hv (by simp)
    have hsm : n ≤ 1000000 ∧ i.bytes ≤ 1000 := ⟨Nat.le_of_ble_eq_true c2, hbl⟩
    have hrep : VRs ν ρ (rep z n) (if n * i.size = 0 then #[] else Builtin.zeroCells zu.cells n).toList := by
      have h1 := hzr.rep n
      rw [hzl] at h1
      by_cases h0 : n * i.size = 0
      · rw [if_pos h0]
        have : (rep z n).length = 0 := by rw [rep_len, hzl, h0]
        rw [List.eq_nil_of_length_eq_zero this]; simp [VRs]
      · rw [if_neg h0]
        have : Builtin.zeroCells zu.cells n = (Array.range (n * i.size)).map (zu.cells[· % zu.cells.size]!) := by unfold Builtin.zeroCells; rw [hzs]
        rw [this]; exact h1
    obtain ⟨u', w', hrun, ha⟩ := e_appTo (u := u) (ty := o.type) R (und_ok hT ht) hii hzu hzs hx (x := a.eval y) (n := n) (news := (if n * i.size = 0 then #[] else Builtin.zeroCells zu.cells n).toList) (.inr ⟨ik, k', und_ok hT hu, hy, hsm.1, hsm.2, by simp⟩)
      (by rw [hrep.length, rep_len, hzl]) hrep hv
    exact fin u' w' hrun ha
  · rename_i d hnd hu
    injection hk with hk; subst hk
    have hv' : append h i.size i.bytes (sv p) (sv q) = .ok v h' := hv
    have hd : ∀ k, d ≠ .int k := fun k e => hnd k (by rw [e])
    by_cases hs : ∃ l, sv q = .s l
    · obtain ⟨l, el⟩ := hs
      rw [el] at hv' hy
      obtain ⟨c1, v1⟩ := bcase_ne (show bcase (Nat.beq i.size 1) (R1.bad 32) (appTo h i.size i.bytes (sv p) (Ev.len l) (zs l)) = .ok v h' from hv') (by simp)
      have hs1 := Nat.eq_of_beq_eq_true c1
      simp only [VR] at hy
      obtain ⟨b, eb, hb⟩ := hy
      have hbl : b.size = l.length := by rw [size_eq, hb.length]
      rw [len_eq, ← hbl] at v1
      obtain ⟨u', w', hrun, ha⟩ := e_appTo (u := u) (ty := o.type) R (und_ok hT ht) hii hzu hzs hx (x := a.eval y) (news := b.data.toList.map fun c => Value.int .u8 (c.toNat : Int)) (.inl ⟨d, und_ok hT hu, hd, fun w' _ => ⟨by rw [eb]; simp [Builtin.lenOf], by
          rw [eb]; simp only [Builtin.firstCells, string_bytes, Sem.run_pure]; congr 1; apply Array.ext'; simp⟩⟩) (by simp [hs1]) hb.zs v1
      exact fin u' w' hrun ha
    · have hv2 : ocase (lenS (sv q)) (R1.bad 31) (fun n => ocase (cellsOf h i.size (sv q)) (R1.bad 30) (fun new => appTo h i.size i.bytes (sv p) n new)) = .ok v h' := by
        generalize sv q = vq at hv' hs
        cases vq <;> first | exact hv' | exact absurd ⟨_, rfl⟩ hs
      obtain ⟨n, hn, v1⟩ := ocase_ne hv2 (by simp)
      obtain ⟨new, hnew, v2⟩ := ocase_ne v1 (by simp)
      obtain ⟨n', us, hn', hl, hr, hrun0⟩ := firstCells_slice R hnew hy
      rw [hn] at hn'; obtain rfl := Option.some.inj hn'
      obtain ⟨u', w', hrun, ha⟩ := e_appTo (u := u) (ty := o.type) R (und_ok hT ht) hii hzu hzs hx (x := a.eval y) (.inl ⟨d, und_ok hT hu, hd, hrun0⟩) (by rw [hr.length, hl]) hr v2
      exact fin u' w' hrun ha
  · cases hk
/-- What is known of calls. -/
def CallOk (P : Program) (ν : Nat → Int) (W : Bas) (call : Nat → List V → H → R1) : Prop := ∀ (g : Nat) (as : List V) (h : H) (v : V) (h' : H), call g as h = .ok v h' →
  (∀ args w, (callFunc g args).run P w = .ok (.enter g args) w) ∧ ∀ (ρ : Pl) (args : List Value) (w : World), Rel ν W ρ h w → VRs ν ρ as args → Calls P g args.toArray w (fun e w' => ∃ u, e = .returned u ∧ After ν W h ρ h' v u w')
def MtsOk (P : Program) (mts : Nat → String → Option Nat) : Prop := ∀ t m g, mts t m = some g → ∀ (v : Value) (w : World), (method (P.types.size + Made.depth) t v m).run P w = .ok (g, v) w
theorem Does.enter {g : Nat} {args : Array Value} {R : Value → World → Prop} (h : (execOp a.eval o).run P w = .ok (.enter g args) w) (hc : Calls P g args w (fun e w' => ∃ u, e = .returned u ∧ R u w')) : Does P o a w R := fun next Q k => by
  unfold Oper.wp; rw [h]
  refine Calls.mono hc (fun e w' he => ?_)
  obtain ⟨u, rfl, hu⟩ := he
  exact k u w' hu
theorem e_call {h h' : H} {W : Bas} (R : Rel ν W ρ h w) {call : Nat → List V → H → R1} (hcall : CallOk P ν W call) (hm : MtsOk P en.mts) {args : Array Operand} {ts : Array TypeId} {ce : Callee} {as : List Src} {cb : Cb} (ho : o.op = .call ⟨ce, args, ts⟩)
    (has : VRs ν ρ (srcs sv as) (args.toList.map a.eval)) (hce : match ce, cb with | .value (.func g), .fn g' => g = g' | .value f, .val s => VR ν ρ (sv s) (a.eval f) | .invoke r m, .inv s m' => m = m' ∧ VR ν ρ (sv s) (a.eval r) | _, _ => False)
    (hv : doCall cb en call sv as h = .ok v h') : Does P o a w (After ν W h ρ h' v) := by
  have hargs : (args.map a.eval).toList = args.toList.map a.eval := Array.toList_map
  cases cb with
  | fn g =>
    have : ce = .value (.func g) := by
      cases ce with
      | value f => cases f <;> first | exact hce.elim | (cases hce; rfl)
      | invoke _ _ => exact hce.elim
      | builtin _ => exact hce.elim
    subst this
    obtain ⟨h1, h2⟩ := hcall g _ h v h' hv
    refine Does.enter (g := g) (args := args.map a.eval) ?_ ?_
    · simp [execOp, ho, resolve, Deferred.ofValue, Act.eval, invoke, h1]
    · have := h2 ρ _ w R has
      rwa [← hargs, Array.toArray_toList] at this
  | val s =>
    obtain ⟨f, rfl, hf⟩ : ∃ f, ce = .value f ∧ VR ν ρ (sv s) (a.eval f) := by
      cases ce with
      | value f => cases f <;> exact ⟨_, rfl, hce⟩
      | invoke _ _ => exact hce.elim
      | builtin _ => exact hce.elim
    obtain ⟨g, fa, fb, e1, v1⟩ := onF_ne (show onF (sv s) (R1.bad 75) (fun g a b => call g (app a (app (srcs sv as) b)) h) = .ok v h' from hv) (by simp)
    obtain ⟨h1, h2⟩ := hcall g _ h v h' v1
    rw [e1] at hf; simp only [VR] at hf
    obtain ⟨xs, ys, e2, hxs, hys⟩ := hf
    refine Does.enter (g := g) (args := xs ++ args.map a.eval ++ ys) ?_ ?_
    · simp [execOp, ho, resolve, e2, Deferred.ofValue, invoke, h1]
    · have := h2 ρ (xs.toList ++ (args.toList.map a.eval ++ ys.toList)) w R (by rw [app_eq, app_eq]; exact hxs.app (has.app hys))
      rw [← hargs] at this
      have e3 : (xs.toList ++ ((args.map a.eval).toList ++ ys.toList)).toArray = xs ++ args.map a.eval ++ ys := by apply Array.ext'; simp
      rwa [e3] at this
  | inv s m =>
    obtain ⟨r, rfl, hr⟩ : ∃ r, ce = .invoke r m ∧ VR ν ρ (sv s) (a.eval r) := by
      cases ce with
      | value f => cases f <;> exact hce.elim
      | invoke r m' => obtain ⟨rfl, h2⟩ := hce; exact ⟨r, rfl, h2⟩
      | builtin _ => exact hce.elim
    obtain ⟨ty, rv, e1, v1⟩ := onN_ne (show onN (sv s) (R1.bad 77) (fun ty v => ocase (en.mts ty m) (R1.bad 76) (fun g => call g (v :: srcs sv as) h)) = .ok v h' from hv) (by simp)
    obtain ⟨g, hg, v2⟩ := ocase_ne v1 (by simp)
    obtain ⟨h1, h2⟩ := hcall g _ h v h' v2
    rw [e1] at hr; simp only [VR] at hr
    obtain ⟨uu, e2, hu⟩ := hr
    refine Does.enter (g := g) (args := #[uu] ++ args.map a.eval) ?_ ?_
    · have hx : (#[Value.iface ty uu] ++ args.map a.eval)[0]? = some (.iface ty uu) := by rw [Array.getElem?_append_left (by simp)]; rfl
      have hex : (#[Value.iface ty uu] ++ args.map a.eval).extract 1 (#[Value.iface ty uu] ++ args.map a.eval).size = args.map a.eval := by
        apply Array.ext'; rw [Array.toList_extract]; simp [List.extract, List.take_of_length_le]
      simp only [execOp, ho, resolve, e2, Sem.run_bind, Sem.run_pure, Result.andThen_ok, invoke, hx, hex, callMethod, run_program, hm _ _ _ hg, h1]
    · have := h2 ρ (uu :: args.toList.map a.eval) w R (by simp only [VRs]; exact ⟨_, _, rfl, hu, has⟩)
      rw [← hargs] at this
      have e3 : (uu :: (args.map a.eval).toList).toArray = #[uu] ++ args.map a.eval := by apply Array.ext'; simp
      rwa [e3] at this
/-- What acts does what it does in the small machine. -/
theorem doE_sound (hT : TTok P tt) (he : EnOk ν en) {h h' : H} {W : Bas} (R : Rel ν W ρ h w) {call : Nat → List V → H → R1} (hcall : CallOk P ν W call) (hm : MtsOk P en.mts) {k : KE} (hk : trK tt ds o.op = .ef k) (hr : OpR ν ρ ds sv a o.op.operands.toList)
    (hv : doE k en call sv h = .ok v h') : Does P o a w (After ν W h ρ h' v) := by
  have nw : ∀ w, K.no w ≠ .ef k := fun w h => by cases h
  generalize hop : o.op = op at hk hr
  cases op <;> simp only [trK, no] at hk <;> try (cases hk; done)
  case store t x y =>
    split at hk
    · rename_i n hs
      obtain ⟨p, q, e1, e2, hk⟩ := s2_ne hk nw
      injection hk with hk; subst hk
      exact e_store R hT hop hs (hr x (by simp [Op.operands]) _ e1) (hr y (by simp [Op.operands]) _ e2) hv
    · cases hk
  case mapUpdate t m x y =>
    obtain ⟨p, q, e1, e2, hk⟩ := s2_ne hk nw
    obtain ⟨r, e3, hk⟩ := s1_ne hk nw
    unfold trUpd at hk
    split at hk
    · rename_i kt et ht
      split at hk
      · rename_i ks hks
        injection hk with hk; subst hk
        exact e_mapup R he hT (.inl hop) ht hks (hr m (by simp [Op.operands]) _ e1) (hr x (by simp [Op.operands]) _ e2) (hr y (by simp [Op.operands]) _ e3) hv
      · cases hk
    · cases hk
  case insert t m x y =>
    obtain ⟨p, q, e1, e2, hk⟩ := s2_ne hk nw
    obtain ⟨r, e3, hk⟩ := s1_ne hk nw
    unfold trUpd at hk
    split at hk
    · rename_i kt et ht
      split at hk
      · rename_i ks hks
        injection hk with hk; subst hk
        exact e_mapup R he hT (.inr hop) ht hks (hr m (by simp [Op.operands]) _ e1) (hr x (by simp [Op.operands]) _ e2) (hr y (by simp [Op.operands]) _ e3) hv
      · cases hk
    · cases hk
  case call c =>
    obtain ⟨ce, args, ts⟩ := c
    unfold trCall at hk
    split at hk
    · rename_i as has
      simp only at has
      have hra : ∀ x ∈ args.toList, ∀ s, trSrc ds x = some s → VR ν ρ (sv s) (a.eval x) := fun x hx => hr x (by cases ce <;> simp [Op.operands, Call.operands] <;> simp at hx <;> simp [hx])
      have hvs := trSrcs_sound has hra
      cases ce with
      | value f =>
        by_cases hf : ∃ g, f = .func g
        · obtain ⟨g, rfl⟩ := hf
          injection hk with hk; subst hk
          exact e_call (cb := .fn g) R hcall hm hop hvs rfl hv
        · have hk2 : s1 ds f (fun s => .ef (.call (.val s) as)) = .ef k := by
            cases f <;> first | exact hk | exact absurd ⟨_, rfl⟩ hf
          obtain ⟨s, e, hk⟩ := s1_ne hk2 nw
          injection hk with hk; subst hk
          refine e_call (cb := .val s) R hcall hm hop hvs ?_ hv
          have := hr f (by simp [Op.operands, Call.operands]) s e
          cases f <;> first | exact this | exact absurd ⟨_, rfl⟩ hf
      | invoke r m =>
        obtain ⟨s, e, hk⟩ := s1_ne hk nw
        injection hk with hk; subst hk
        exact e_call (cb := .inv s m) R hcall hm hop hvs ⟨rfl, hr r (by simp [Op.operands, Call.operands]) s e⟩ hv
      | builtin b =>
        have hk' : trBuiltin tt b ts.toList as = .ef k := hk
        unfold trBuiltin at hk'
        split at hk'
        · unfold trLen at hk'
          (repeat' split at hk') <;> cases hk'
        · unfold trCap at hk'
          (repeat' split at hk') <;> cases hk'
        · cases hk'
        · cases hk'
        · cases hk'
        · cases hk'
        · rename_i t u p q eas
          obtain ⟨x, y, ex⟩ := len_two (trSrcs_len has).symm
          obtain ⟨p', q', e1, e2, e3⟩ := trSrcs_two (ex ▸ has)
          injection e1 with e1 e1'; injection e1' with e1'; subst e1; subst e1'
          have ea : args = #[x, y] := by cases args; simp_all
          have et : ts = #[t, u] := by cases ts; simp_all
          subst ea; subst et
          exact e_app hT R hop hk' (hra x (by simp) _ e2) (hra y (by simp) _ e3) hv
        · rename_i t u p q eas
          obtain ⟨x, y, ex⟩ := len_two (trSrcs_len has).symm
          obtain ⟨p', q', e1, e2, e3⟩ := trSrcs_two (ex ▸ has)
          injection e1 with e1 e1'; injection e1' with e1'; subst e1; subst e1'
          have ea : args = #[x, y] := by cases args; simp_all
          have et : ts = #[t, u] := by cases ts; simp_all
          subst ea; subst et
          unfold trCopy at hk'
          split at hk' <;> try (cases hk'; done)
          rename_i e ht
          split at hk' <;> try (cases hk'; done)
          rename_i sz hs
          injection hk' with hk'; subst hk'
          exact e_copy R hT hop ht hs (hra x (by simp) _ e2) (hra y (by simp) _ e3) hv
        · rename_i t p eas
          obtain ⟨x, ex⟩ : ∃ x, args.toList = [x] := List.length_eq_one_iff.1 (trSrcs_len has).symm
          obtain ⟨p', q', e1, e2, _⟩ := trSrcs_cons (ex ▸ has)
          injection e1 with e1; subst e1
          have ea : args = #[x] := by cases args; simp_all
          have et : ts = #[t] := by cases ts; simp_all
          subst ea; subst et
          unfold trClear at hk'
          split at hk' <;> try (cases hk'; done)
          rename_i e ht
          split at hk' <;> try (cases hk'; done)
          rename_i sz z hs hz
          obtain ⟨hzl, hk'⟩ := bif_ne hk' nw
          injection hk' with hk'; subst hk'
          exact e_clear R hT hop ht hs hz (Nat.eq_of_beq_eq_true hzl) (hra x (by simp) _ e2) hv
        · rename_i t tr p q eas
          obtain ⟨x, y, ex⟩ := len_two (trSrcs_len has).symm
          obtain ⟨p', q', e1, e2, e3⟩ := trSrcs_two (ex ▸ has)
          injection e1 with e1 e1'; injection e1' with e1'; subst e1; subst e1'
          have ea : args = #[x, y] := by cases args; simp_all
          have et : ts[0]? = some t := by rw [← Array.getElem?_toList]; simp_all
          subst ea
          unfold trDel at hk'
          split at hk' <;> try (cases hk'; done)
          rename_i kt et' ht
          split at hk' <;> try (cases hk'; done)
          rename_i ks hks
          injection hk' with hk'; subst hk'
          exact e_del R he hT hop et ht hks (hra x (by simp) _ e2) (hra y (by simp) _ e3) hv
        · cases hk'
        · cases hk'
        · cases hk'
    · cases hk
  case unOp u t x => cases u <;> simp only [trK, no] at hk <;> first | (cases hk; done) | (obtain ⟨s, e, hk⟩ := s1_ne hk nw; cases hk)
  case makeFunc f x y =>
    cases f <;> simp only [trK, no] at hk <;> first | (cases hk; done) | (split at hk <;> cases hk)
  case makeMap t r => cases r <;> simp only [trK, no] at hk <;> cases hk
  case makeInterface t x =>
    cases hi : ifaceT tt t with
    | true => rw [hi] at hk; cases hk
    | false => rw [hi] at hk; obtain ⟨s, e, hk⟩ := s1_ne (show s1 ds x (fun s => .pu (.mkif t s)) = _ from hk) nw; cases hk
  all_goals first
    | (obtain ⟨s, e, hk⟩ := s1_ne hk nw; cases hk; done)
    | (obtain ⟨s, t, e1, e2, hk⟩ := s2_ne hk nw; cases hk; done)
    | (split at hk <;> first | (cases hk; done) | (obtain ⟨s, e, hk⟩ := s1_ne hk nw; cases hk; done) | (obtain ⟨s, t, e1, e2, hk⟩ := s2_ne hk nw; cases hk; done))
    | (unfold trBuild at hk; (repeat' split at hk) <;> first | (cases hk; done) | (obtain ⟨_, hk⟩ := bif_ne hk nw; cases hk; done))
    | (unfold trBSlice at hk; (repeat' split at hk) <;> first | (cases hk; done) | (obtain ⟨_, hk⟩ := bif_ne hk nw; cases hk; done))
    | (obtain ⟨s, t, e1, e2, hk⟩ := s2_ne hk nw; unfold trBin trEq at hk; simp only [Bool.cond_eq_ite] at hk; (repeat' split at hk) <;> first | (cases hk; done) | (obtain ⟨_, hk⟩ := bif_ne hk nw; cases hk; done))
    | (split at hk
       · obtain ⟨s, e, hk⟩ := s1_ne hk nw; unfold trSlice at hk; (repeat' split at hk) <;> (cases hk; done)
       · cases hk)
    | (obtain ⟨s, e, hk⟩ := s1_ne hk nw; unfold trFAddr at hk; (repeat' split at hk) <;> (cases hk; done))
    | (obtain ⟨s, e, hk⟩ := s1_ne hk nw; unfold trField trPart at hk; (repeat' split at hk) <;> (cases hk; done))
    | (obtain ⟨s, t, e1, e2, hk⟩ := s2_ne hk nw; unfold trIAddr at hk; (repeat' split at hk) <;> (cases hk; done))
    | (obtain ⟨s, t, e1, e2, hk⟩ := s2_ne hk nw; unfold trIndex at hk; (repeat' split at hk) <;> first | (cases hk; done) | (obtain ⟨_, hk⟩ := bif_ne hk nw; cases hk; done))
    | (obtain ⟨s, t, e1, e2, hk⟩ := s2_ne hk nw; unfold trMkS at hk; (repeat' split at hk) <;> first | (cases hk; done) | (obtain ⟨_, hk⟩ := bif_ne hk nw; cases hk; done))
    | (obtain ⟨s, t, e1, e2, hk⟩ := s2_ne hk nw; obtain ⟨s, e3, hk⟩ := s1_ne hk nw; unfold trUpd at hk; (repeat' split at hk) <;> (cases hk; done))
    | (obtain ⟨s, t, e1, e2, hk⟩ := s2_ne hk nw; unfold trLookup at hk; (repeat' split at hk) <;> (cases hk; done))
    | (obtain ⟨s, e, hk⟩ := s1_ne hk nw; unfold trTas at hk; (repeat' split at hk) <;> (cases hk; done))
    | (obtain ⟨s, e, hk⟩ := s1_ne hk nw; unfold trLoad at hk; (repeat' split at hk) <;> (cases hk; done))
    | (obtain ⟨s, e, hk⟩ := s1_ne hk nw; unfold trConv at hk; (repeat' split at hk) <;> (cases hk; done))
end Ev
end Go.Proofs.Ytlajbngfdbnoiaa
