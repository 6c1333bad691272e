/- Calls. -/
import Derived.Test.YtlajbngfdbnoiaaEvH
namespace Go.Proofs.Ytlajbngfdbnoiaa
set_option linter.unusedSimpArgs false
set_option linter.unusedVariables false
set_option linter.constructorNameAsVariable false
open Go Go.RowKit
namespace Ev
variable {Df : List Deferred}
variable {P : Program} {tt : TT} {ν : Nat → Int} {ρ : Pl} {a : Act} {en : En} {w : World} {o : Oper} {v : V} {t : Tr V} {nt : Nat} {ops : Array Oper} {call : Nat → List V → H → R1} {h0 : H} {C : Tr Unit} {W : Bas} {rn : Rn}
theorem slots_get (C : Tr Unit) (n : Nat) : ∀ m, n < m → m ≤ 1000 → get (bpOf n) (slots m C) = some ()
  | 0, h, _ => absurd h (Nat.not_lt_zero n)
  | m + 1, h, hm => by
    show get (bpOf n) (set (bpOf m) (some ()) (slots m C)) = _
    rw [get_set]
    by_cases e : n = m
    · rw [e, if_pos rfl]
    · rw [if_neg (bpOf_ne (by omega) (by omega) e)]; exact slots_get C n m (by omega) (by omega)
theorem succ_bpOf {k : Nat} (h : k < 100000) : succ (bpOf k) = bpOf (k + 1) := by
  apply bpN_inj
  rw [bpN_succ]
  unfold bpOf
  rw [bpOf'_N 40 _ (by omega) (by omega), bpOf'_N 40 _ (by omega) (by omega)]
theorem init_get (n : Nat) : ∀ (as : List V) (k : Nat) (t : Tr V), k + as.length ≤ 1000 → get (bpOf n) (init' as (bpOf k) t) = if k ≤ n ∧ n < k + as.length then as[n - k]? else get (bpOf n) t
  | [], k, t, _ => by rw [if_neg (by simp only [List.length_nil]; omega)]; rfl
  | x0 :: as, k, t, h => by
    simp only [List.length_cons] at h ⊢
    show get (bpOf n) (init' as (succ (bpOf k)) (set (bpOf k) (some x0) t)) = _
    rw [succ_bpOf (by omega), init_get n as (k + 1) _ (by omega), get_set]
    by_cases e : n = k
    · subst e; rw [if_neg (by omega), if_pos rfl, if_pos (by omega)]; simp
    · have hne : bpOf n ≠ bpOf k := by
        intro e2
        have h1 := congrArg bpN e2
        have h2 : bpN (bpOf k) = k + 1 := by unfold bpOf; exact bpOf'_N 40 _ (by omega) (by omega)
        have h3 := bpOf_big n
        by_cases hb : n < 1000
        · exact bpOf_ne (by omega) (by omega) e e2
        · omega
      rw [if_neg hne]
      by_cases c : k + 1 ≤ n ∧ n < k + 1 + as.length
      · rw [if_pos c, if_pos (by omega), show n - k = (n - (k + 1)) + 1 by omega]; simp
      · rw [if_neg c, if_neg (by omega)]
/-- the listed variables -/
structure GtOk (ν : Nat → Int) (W : Bas) (gt : Tr V) : Prop where
  low : ∀ n, n < 100000 → get (bpOf n) gt = none
  glob : ∀ g v, get (bpOf (100000 + g)) gt = some v → VR ν W.pl v (.pointer (some ⟨g, 0, none⟩))
def Call1 (P : Program) (ν : Nat → Int) (W : Bas) (g : Nat) (as : List V) (h : H) (v : V) (h' : H) : Prop :=
  (∀ args w, (callFunc g args).run P w = .ok (.enter g args) w) ∧ ∀ (ρ : Pl) (args : List Value) (w : World), Rel ν W ρ h w → VRs ν ρ as args → Calls P g args.toArray w (fun e w' => ∃ u, e = .returned u ∧ After ν W h ρ h' v u w')
def OvOk (P : Program) (ν : Nat → Int) (W : Bas) (en : En) : Prop := ∀ g as h v h', en.ov g as h = some (.ok v h') → Call1 P ν W g as h v h'
theorem rv_sound (hT : TTok P tt) {h : H} (R : Rel ν W ρ h w) (F : FrR Df ν ρ nt t a) {r : ResultVar} {q : Rv} (hr : trRv tt r = some q) (hv : rv1 q t h = some v) :
    ∃ u, ((match r with | .tmp t => pure (a.tmps.getD t undef) | .cell x t => do loadVar t (← asAddr (a.tmps.getD x undef)) : Sem Value)).run P w = .ok u w ∧ VR ν ρ v u := by
  cases r with
  | tmp n =>
    have hr' : (bif Nat.blt n 100000 then some (Rv.tmp (bpOf n)) else none) = some q := hr
    rcases cond_cases (Nat.blt n 100000) (some (Rv.tmp (bpOf n))) none with h1 | h1
    · rw [h1] at hr'; cases hr'
    · cases hb : Nat.blt n 100000 with
      | false => rw [hb] at hr'; cases hr'
      | true =>
        rw [h1] at hr'
        obtain rfl := Option.some.inj hr'
        exact ⟨_, rfl, F.slot n (blt_iff.1 hb) v hv⟩
  | cell x ty =>
    simp only [trRv] at hr
    cases hb : Nat.blt x 100000 with
    | false => rw [hb] at hr; cases hr
    | true =>
    rw [hb] at hr
    simp only [Bool.not_true, cond_false] at hr
    have hlt := blt_iff.1 hb
    split at hr
    · rename_i n ht hs
      obtain rfl := Option.some.inj hr
      obtain ⟨pv, e1, hv⟩ := ocase_ne (show ocase (get (bpOf x) t) none (fun v => onP v none (fun x off => ocase (cellsAt h x off n) none (fun l => some (V.g l)))) = some v from hv) (by simp)
      have hx := F.slot x hlt pv e1
      obtain ⟨y, off, e2, hv⟩ := onP_ne hv (by simp)
      obtain ⟨l, e3, hv⟩ := ocase_ne hv (by simp)
      obtain rfl := Option.some.inj hv
      rw [e2] at hx; simp only [VR] at hx
      obtain ⟨b, c, m, e4, hx⟩ := hx
      obtain ⟨hl, us, hr, hc⟩ := cellsAt_some R e4 e3
      have hus : us.length = n := by rw [hr.length, hl]
      have hrun := run_loadCells_list (P := P) w ⟨b, c + off, none⟩ us (fun j u hj => by rw [add_at]; exact hc j u hj)
      rw [hus] at hrun
      refine ⟨.agg us.toArray, ?_, by simp only [VR]; exact ⟨_, rfl, by simpa using hr⟩⟩
      simp only [Array.getD_eq_getD_getElem?] at hx ⊢
      simp [hx, asAddr, loadVar, agg_ok hT ht, size_ok hT hs, hrun]
    · rename_i n ht hs
      obtain rfl := Option.some.inj hr
      obtain ⟨pv, e1, hv⟩ := ocase_ne (show ocase (get (bpOf x) t) none (fun v => onP v none (fun x off => onC (obj h x) none (fun l _ _ => nth l off))) = some v from hv) (by simp)
      have hx := F.slot x hlt pv e1
      obtain ⟨y, off, e2, hv⟩ := onP_ne hv (by simp)
      obtain ⟨l, p, wn, e3, hv⟩ := onC_ne hv (by simp)
      rw [nth_eq] at hv
      rw [e2] at hx; simp only [VR] at hx
      obtain ⟨b, c, m, e4, hx⟩ := hx
      obtain ⟨cs, e, fz, hb, hsz, _, hl, hg⟩ := R.ob y _ e3 b c m e4
      obtain ⟨u, hu, hr⟩ := hg off v hv
      have hc : w.cell? ⟨b, c + off, none⟩ = some u := by rw [cell_of hb, hu]
      refine ⟨u, ?_, hr⟩
      simp only [Array.getD_eq_getD_getElem?] at hx ⊢
      simp [hx, asAddr, loadVar, agg_ok hT ht, hc]
    · cases hr
theorem rvs_sound (hT : TTok P tt) {h : H} (R : Rel ν W ρ h w) (F : FrR Df ν ρ nt t a) : ∀ (l : List ResultVar) (rs : List Rv) (vs : List V), trRvs tt l = some rs → rvs t h rs = some vs →
    ∃ us : List Value, (l.mapM (fun r => (match r with | .tmp t => pure (a.tmps.getD t undef) | .cell x t => do loadVar t (← asAddr (a.tmps.getD x undef)) : Sem Value))).run P w = .ok us w ∧ VRs ν ρ vs us
  | [], rs, vs, hr, hv => by
    obtain rfl := Option.some.inj (show some [] = some rs from hr)
    obtain rfl := Option.some.inj (show some [] = some vs from hv)
    exact ⟨[], by simp, by simp only [VRs]⟩
  | r :: l, rs, vs, hr, hv => by
    simp only [trRvs] at hr
    split at hr
    · rename_i q qs e1 e2
      obtain rfl := Option.some.inj hr
      obtain ⟨v, h1, hv⟩ := ocase_ne (show ocase (rv1 q t h) none (fun v => ocase (rvs t h qs) none (fun vs => some (v :: vs))) = some vs from hv) (by simp)
      obtain ⟨vs', h2, hv⟩ := ocase_ne hv (by simp)
      obtain rfl := Option.some.inj hv
      obtain ⟨u, k1, k2⟩ := rv_sound hT R F e1 h1
      obtain ⟨us, k3, k4⟩ := rvs_sound hT R F l qs vs' e2 h2
      refine ⟨u :: us, ?_, by simp only [VRs]; exact ⟨u, us, rfl, k2, k4⟩⟩
      rw [List.mapM_cons]
      simp only [Sem.run_bind, k1]
      refine (congrArg (fun r => Result.andThen r (fun a w' => Sem.run P (pure (u :: a)) w')) k3).trans ?_
      rfl
    · cases hr
theorem fin_sound (hT : TTok P tt) {fn : Func} {rs : List Rv} (hrs : trRvs tt fn.results.toList = some rs) {h h' : H} (R : Rel ν W ρ h w) (F : FrR Df ν ρ nt t a) (hv : fin rs t h = .ok v h') : h' = h ∧ ∃ u, (results fn a.tmps).run P w = .ok u w ∧ VR ν ρ v u := by
  obtain ⟨vs, h1, hv⟩ := ocase_ne (show ocase (rvs t h rs) (R1.bad 83) (fun vs => lcase vs (R1.ok (V.u []) h) (fun v l => lcase l (R1.ok v h) (fun _ _ => R1.ok (V.u vs) h))) = .ok v h' from hv) (by simp)
  obtain ⟨us, h2, h3⟩ := rvs_sound hT R F _ _ _ hrs h1
  have hlen := h3.length
  have hrun : (results fn a.tmps).run P w = .ok (if h : us.toArray.size = 1 then us.toArray[0] else .tuple us.toArray) w := by
    unfold results
    rw [Array.mapM_eq_mapM_toList, map_eq_pure_bind]
    simp only [Sem.run_bind]
    refine (congrArg (fun r => Result.andThen (Result.andThen r (fun a w' => Sem.run P (pure a.toArray) w')) (fun (vs : Array Value) w' => Sem.run P (pure (if h : vs.size = 1 then vs[0] else .tuple vs)) w')) h2).trans ?_
    rfl
  cases vs with
  | nil =>
    cases us with
    | cons u us => simp at hlen
    | nil =>
      injection hv with g1 g2
      subst g1
      exact ⟨g2.symm, _, hrun, by simp only [VR]; exact ⟨#[], by simp, by simp only [VRs]⟩⟩
  | cons v1 vs =>
    cases us with
    | nil => simp at hlen
    | cons u1 us =>
      simp only [VRs] at h3
      obtain ⟨u2, us2, h4, h5, h6⟩ := h3
      injection h4 with h7 h8
      subst h7; subst h8
      cases vs with
      | nil =>
        injection hv with g1 g2
        subst g1
        cases us with
        | cons x xs => simp at hlen
        | nil => exact ⟨g2.symm, u1, hrun, h5⟩
      | cons v2 vs =>
        injection hv with g1 g2
        subst g1
        cases us with
        | nil => simp at hlen
        | cons x xs =>
          rw [dif_neg (by simp)] at hrun
          exact ⟨g2.symm, _, hrun, by simp only [VR]; exact ⟨_, rfl, by simp only [VRs]; exact ⟨u1, x :: xs, rfl, h5, by simpa only [VRs] using h6⟩⟩⟩
theorem trF_some {fn : Func} {cf : CF} (h : trF tt fn = some cf) : ∃ c rs, fn.body = some c ∧ trRvs tt fn.results.toList = some rs ∧ fn.ntmps ≤ 100000 ∧ fn.params.size + fn.nfree ≤ 1000 ∧ (fn.name == "runtime.NumGoroutine") = false ∧
    cf = .mk (fn.params.size + fn.nfree) (trC tt fn.ntmps (slots (fn.params.size + fn.nfree) (useR fn.results.toList (useC c .lf))) c) rs := by
  unfold trF at h
  split at h
  · rename_i c rs e1 e2
    rcases cond_cases (Nat.ble fn.ntmps 100000 && Nat.ble (fn.params.size + fn.nfree) 1000 && !(fn.name == "runtime.NumGoroutine")) (some (CF.mk (fn.params.size + fn.nfree) (trC tt fn.ntmps (slots (fn.params.size + fn.nfree) (useR fn.results.toList (useC c .lf))) c) rs)) none with _ | _
    all_goals
      cases hb : (Nat.ble fn.ntmps 100000 && Nat.ble (fn.params.size + fn.nfree) 1000 && !(fn.name == "runtime.NumGoroutine")) with
      | false => rw [hb] at h; cases h
      | true =>
        rw [hb] at h
        simp only [Bool.and_eq_true, Bool.not_eq_true'] at hb
        exact ⟨c, rs, e1, e2, Nat.le_of_ble_eq_true hb.1.1, Nat.le_of_ble_eq_true hb.1.2, hb.2, (Option.some.inj h).symm⟩
  · cases h
/-- A function's run, whatever runs its codes. -/
theorem func_run (hT : TTok P tt) (hgt : GtOk ν W en.gt) (hr : ∀ (C : Tr Unit) (nt : Nat), nt ≤ 100000 → ∀ (c : Code) (t : Tr V) (h : H) (X0 : X) (ρ : Pl) (a : Act) (w : World), rn (trC tt nt C c) t h = X0 → (∀ n, X0 ≠ .bad n) → Rel ν W ρ h w → FrC [] ν C ρ nt t a → c.wp P (Post [] ν W C nt h ρ X0) a w)
    {g : Nat} {as : List V} {h h' : H} {v : V} {fn : Func} {cf : CF} (hf : P.funcs[g]? = some fn) (htf : trF tt fn = some cf) (hv2 : runF cf en.gt rn as h = .ok v h') : Call1 P ν W g as h v h' := by
  obtain ⟨c, rs, hb, hrs, hnt, hn, hname, rfl⟩ := trF_some htf
  obtain ⟨hlen, hv3⟩ := bcase_ne (show bcase (Nat.ble (len as) (fn.params.size + fn.nfree)) (R1.bad 85) (finX (rn (trC tt fn.ntmps (slots (fn.params.size + fn.nfree) (useR fn.results.toList (useC c .lf))) c) (init' as BP.one en.gt) h) rs) = R1.ok v h' from hv2) (by simp)
  have hlen := Nat.le_of_ble_eq_true hlen
  rw [len_eq] at hlen
  refine ⟨fun args w => ?_, fun ρ args w R hargs => ?_⟩
  · have hne : fn.name ≠ "runtime.NumGoroutine" := by simpa using hname
    simp [callFunc, hf, hb, hne]
  · have hal := hargs.length
    have hget : ∀ n, n < 100000 → get (bpOf n) (init' as BP.one en.gt) = if n < as.length then as[n]? else none := fun n hn' => by
      rw [show BP.one = bpOf 0 from rfl, init_get n as 0 en.gt (by omega)]
      by_cases e : n < as.length
      · rw [if_pos (by omega), if_pos e]; simp
      · rw [if_neg (by omega), if_neg e]; exact hgt.low n hn'
    have F : FrC [] ν (slots (fn.params.size + fn.nfree) (useR fn.results.toList (useC c .lf))) ρ fn.ntmps (init' as BP.one en.gt) { tmps := args.toArray ++ Array.replicate (fn.ntmps - args.toArray.size) undef, defers := [] } := by
      refine ⟨⟨fun n hn' v hv => ?_, fun g v hv => ?_, rfl, by simp; omega⟩, fun n v hn' hv => ?_⟩
      · rw [hget n hn'] at hv
        split at hv
        · obtain ⟨u, hu, hvr⟩ := hargs.get hv
          have hlt : n < args.length := by omega
          have : (args.toArray ++ Array.replicate (fn.ntmps - args.toArray.size) undef).getD n undef = u := by
            rw [Array.getD_eq_getD_getElem?, Array.getElem?_append_left (by simpa using hlt)]
            simp [hu]
          rw [this]; exact hvr
        · cases hv
      · rw [show BP.one = bpOf 0 from rfl, init_get (100000 + g) as 0 en.gt (by omega), if_neg (by omega)] at hv
        exact VR.mono ν R.base _ _ (hgt.glob g v hv)
      · rw [hget n hn'] at hv
        split at hv
        · exact ⟨(), slots_get _ n _ (by omega) hn⟩
        · cases hv
    refine calls_of_wp hf hb ?_
    cases hx : rn (trC tt fn.ntmps (slots (fn.params.size + fn.nfree) (useR fn.results.toList (useC c .lf))) c) (init' as BP.one en.gt) h with
    | bad n => rw [hx] at hv3; cases hv3
    | ex i t1 h1 => rw [hx] at hv3; cases hv3
    | nm t1 h1 =>
      rw [hx] at hv3
      refine wp_mono (hr _ _ hnt c _ h _ ρ _ w hx (by simp) R F) (fun e a1 w1 hp => ?_)
      cases e <;> first | exact hp.elim | skip
      obtain ⟨ρ1, R1', E1, F1⟩ := hp
      obtain ⟨rfl, u, hres, hvr⟩ := fin_sound hT hrs R1' F1.toFrR (show fin rs t1 h1 = .ok v h' from hv3)
      exact ⟨F1.defers, u, hres, u, rfl, ρ1, R1', hvr, E1⟩
    | rt t1 h1 =>
      rw [hx] at hv3
      refine wp_mono (hr _ _ hnt c _ h _ ρ _ w hx (by simp) R F) (fun e a1 w1 hp => ?_)
      cases e <;> first | exact hp.elim | skip
      obtain ⟨ρ1, R1', E1, F1⟩ := hp
      obtain ⟨rfl, u, hres, hvr⟩ := fin_sound hT hrs R1' F1.toFrR (show fin rs t1 h1 = .ok v h' from hv3)
      exact ⟨F1.defers, u, hres, u, rfl, ρ1, R1', hvr, E1⟩
/-- A call. -/
theorem call_run (hT : TTok P tt) (hfn : ∀ g cf, get (bpOf g) en.fns = some cf → ∃ fn, P.funcs[g]? = some fn ∧ trF tt fn = some cf) (hgt : GtOk ν W en.gt) (hov : OvOk P ν W en) (hr : RunOk P tt ν W rn) : CallOk P ν W (callBy en rn) := by
  intro g as h v h' hv
  have hv' : ocase (en.ov g as h) (ocase (get (bpOf g) en.fns) (R1.bad (1000 + g)) (fun cf => runF cf en.gt rn as h)) (fun r => r) = R1.ok v h' := hv
  cases ho : en.ov g as h with
  | some r =>
    rw [ho] at hv'
    exact hov g as h v h' (by rw [ho]; exact congrArg some hv')
  | none =>
    rw [ho] at hv'
    obtain ⟨cf, h1, hv2⟩ := ocase_ne (show ocase (get (bpOf g) en.fns) (R1.bad (1000 + g)) (fun cf => runF cf en.gt rn as h) = R1.ok v h' from hv') (by simp)
    obtain ⟨fn, hf, htf⟩ := hfn g cf h1
    exact func_run hT hgt (fun C nt hnt c t h X0 ρ a w hX hb R F => (hr [] C nt hnt c t h X0 ρ a w hX hb R F).wp) hf htf hv2
/-- All together. -/
theorem run_sound (hT : TTok P tt) (he : EnOk ν en) (hmo : P.follows .mixedOrders = true) (hm : MtsOk P en.mts) (hfn : ∀ g cf, get (bpOf g) en.fns = some cf → ∃ fn, P.funcs[g]? = some fn ∧ trF tt fn = some cf) (hgt : GtOk ν W en.gt) (hov : OvOk P ν W en) : ∀ f, RunOk P tt ν W (run en f)
  | 0 => fun _ _ _ _ c t h X0 ρ a w hX hb _ _ => absurd (show X.bad 87 = X0 from hX).symm (hb 87)
  | f + 1 => step_run hT he hmo (call_run hT hfn hgt hov (run_sound hT he hmo hm hfn hgt hov f)) hm (run_sound hT he hmo hm hfn hgt hov f)
theorem call_sound (hT : TTok P tt) (he : EnOk ν en) (hmo : P.follows .mixedOrders = true) (hm : MtsOk P en.mts) (hfn : ∀ g cf, get (bpOf g) en.fns = some cf → ∃ fn, P.funcs[g]? = some fn ∧ trF tt fn = some cf) (hgt : GtOk ν W en.gt) (hov : OvOk P ν W en) (f : Nat) : CallOk P ν W (fun g => callBy en (run en f) g) :=
  call_run hT hfn hgt hov (run_sound hT he hmo hm hfn hgt hov f)
end Ev
end Go.Proofs.Ytlajbngfdbnoiaa
