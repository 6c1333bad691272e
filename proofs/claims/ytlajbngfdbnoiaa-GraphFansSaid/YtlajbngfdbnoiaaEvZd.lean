/- Functions that range over slices.Backward of numbers. -/
import Derived.Test.YtlajbngfdbnoiaaEvZc
namespace Go.Proofs.Ytlajbngfdbnoiaa
set_option linter.unusedSimpArgs false
set_option linter.unusedVariables false
set_option linter.constructorNameAsVariable false
open Go Go.RowKit
namespace Ev
/-- A function's code, where it ranges over a function once. -/
inductive C3 where | pl (c : C2) | sq (a : C3) (b : C2) | qs (a : C2) (b : C3) | cond (s : Src) (a b : C3) | block (id : Nat) (c : C3) | back (s : Src) (p q : Option BP) (as body : C2) | bad (w : Nat)
inductive CF3 where | mk (n : Nat) (body : C3) (rs : List Rv)
noncomputable section
def badCl : Cl := fun _ _ _ => R1.bad 89
def backV (bk : Nat) (v : V) : Option BP := onF v none (fun g first caps => bcase (Nat.beq g bk) none (lcase first (lcase caps none (fun c r => lcase r (onP c none (fun y o => bcase (Nat.beq o 0) none (some y))) (fun _ _ => none))) (fun _ _ => none)))
def setP (p : Option BP) (v : V) (t : Tr V) : Tr V := ocase p t (fun p => set p (some v) t)
def onNm (x : X) (f : Tr V → H → Option H) : Option H := X.rec (motive := fun _ => Option H) f (fun _ _ _ => none) (fun _ _ => none) (fun _ => none) x
def backRound (en : En) (n : Nat) (y : BP) (p q : Option BP) (as body : C2) (t : Tr V) (i : Nat) (h : H) : Option H :=
  ocase (load1' (V.p y 0) h) none (fun sl => ocase (iaddr 1 sl (V.i .i64 (Z.lit (Int.ofNat i)))) none (fun pv => ocase (load1' pv h) none (fun v => onI v none (fun k z => bcase (Nat.beq (kN k) 3) none
    (onNm (FS en badCl n as (setP q v (setP p (V.i .i64 (Z.lit (Int.ofNat i))) t)) h) (fun t h => onNm (FS en badCl n body t h) (fun _ h => some h)))))))
def backL (step : Nat → H → Option H) : Nat → H → Option H := Nat.rec (fun h => some h) (fun i ih h => ocase (step i h) none ih)
def boxLen (y : BP) (h : H) : Option Nat := ocase (load1' (V.p y 0) h) none lenS
def FS3 (en : En) (call : Cl) (n bk : Nat) : C3 → Tr V → H → X := C3.rec (fun c => FS en call n c) (fun _ b ia t h => again (ia t h) (FS en badCl n b)) (fun a _ ib t h => again (FS en call n a t h) ib)
  (fun s _ _ ia ib t h => onB (src [] t s) (X.bad 86) (fun x => bcase x (ib t h) (ia t h))) (fun id _ ic t h => blockK (ic t h) id)
  (fun s p q as body t h => ocase (backV bk (src [] t s)) (X.bad 140) (fun y => ocase (boxLen y h) (X.bad 141) (fun m => bcase (Nat.ble m 1000000) (X.bad 143) (ocase (backL (backRound en n y p q as body t) m h) (X.bad 142) (fun h' => X.nm t h')))))
  (fun w _ _ => X.bad w)
def run3 : CF3 → En → Cl → Nat → List V → H → R1 := CF3.rec (fun n body rs en call bk as h => bcase (Nat.ble (len as) n) (R1.bad 85) (finX (FS3 en call 1000000 bk body (init' as BP.one en.gt) h) rs))
-- from the program's code
def hasR : Code → Bool
  | .rangeFunc .. => true
  | .seq a b => hasR a || hasR b
  | .cond _ a b => hasR a || hasR b
  | .block _ c => hasR c
  | _ => false
def useC3 : Code → Tr Unit → Tr Unit
  | .seq a b, C => useC3 b (useC3 a C)
  | .cond c a b, C => useC3 b (useC3 a (useO [] c C))
  | .block _ c, C => useC3 c C
  | .rangeFunc f _ a c, C => useC c (useC a (useO [] f C))
  | c, C => useC c C
def slotIn (C : Tr Unit) (nt p : Nat) : Option (Option BP) := bif Nat.blt p nt then (match get (bpOf p) C with | some _ => some (some (bpOf p)) | none => some none) else none
def trC3 (tt : TT) (nt : Nat) (C : Tr Unit) : Code → C3
  | .rangeFunc f ps a c => match ps.toList, trSrc [] f with
    | [p, q], some s => (match slotIn C nt p, slotIn C nt q with
      | some p', some q' => bif (plainC a && plainC c) && !(Nat.beq p q) then .back s p' q' (trC tt nt C a) (trC tt nt C c) else .bad 145
      | _, _ => .bad 146)
    | _, _ => .bad 147
  | .seq a b => bif hasR a then .sq (trC3 tt nt C a) (trC tt nt C b) else .qs (trC tt nt C a) (trC3 tt nt C b)
  | .cond c a b => match trSrc [] c with | some s => .cond s (trC3 tt nt C a) (trC3 tt nt C b) | none => .bad 130
  | .block id c => .block id (trC3 tt nt C c)
  | c => .pl (trC tt nt C c)
def trF3 (tt : TT) (fn : Func) : Option CF3 := match fn.body, trRvs tt fn.results.toList with
  | some c, some rs => bif Nat.ble fn.ntmps 100000 && Nat.ble (fn.params.size + fn.nfree) 1000 && !(fn.name == "runtime.NumGoroutine") then some (.mk (fn.params.size + fn.nfree) (trC3 tt fn.ntmps (slots (fn.params.size + fn.nfree) (useR fn.results.toList (useC3 c .lf))) c) rs) else none
  | _, _ => none
end
variable {Df : List Deferred}
variable {P : Program} {tt : TT} {ν : Nat → Int} {ρ : Pl} {a : Act} {en : En} {w : World} {o : Oper} {v : V} {t : Tr V} {nt : Nat} {ops : Array Oper} {call : Cl} {h0 : H} {C : Tr Unit} {W : Bas} {rn : Rn} {n : Nat} {F : Fence} {k : Nat} {h : H}
/-- the base with these kept -/
def Bas.keep (W : Bas) (ks : List (Nat × Obj)) : Bas := ⟨W.w0, W.pl, ks⟩
theorem Rel.keep_sub (R : Rel ν W ρ h w) {ks : List (Nat × Obj)} (hs : ∀ p ∈ ks, p ∈ W.kp) : Rel ν (W.keep ks) ρ h w := ⟨R.below, R.ob, R.lt, R.dom, R.mine, R.sep, R.par, R.parlt, R.base, fun p hp => R.kp p (hs p hp)⟩
theorem Rel.keep_new (R : Rel ν W ρ h w) {ob : Obj} (ho : oddO ob = true) : Rel ν (W.keep ((w.heap.size, ob) :: W.kp)) ρ h (w.alloc ob) := by
  have R' := R.grown (grows_alloc w ob)
  refine ⟨R'.below, R'.ob, R'.lt, R'.dom, R'.mine, R'.sep, R'.par, R'.parlt, R'.base, fun p hp => ?_⟩
  rcases List.mem_cons.1 hp with rfl | hp
  · exact ⟨new_block w ob, ho⟩
  · exact R'.kp p hp
/-- One that is kept is turned. -/
theorem Rel.keep_put {l : Nat} {o : Obj} (R : Rel ν W ρ h w) (hl : W.w0.heap.size ≤ l) (he : w.heap[l]? = some o) (ho : oddO o = true) (o' : Obj) {ks : List (Nat × Obj)} (hs : ∀ p ∈ ks, (p ∈ W.kp ∧ p.1 ≠ l) ∨ (p = (l, o') ∧ oddO o' = true)) : Rel ν (W.keep ks) ρ h (w.putObj l o') := by
  have hne : ∀ b, b ≠ l → (w.putObj l o').heap[b]? = w.heap[b]? := fun b hb => World.putObj_heap_other hb
  have hsz : (w.putObj l o').heap.size = w.heap.size := World.putObj_size
  have hlt : l < w.heap.size := (Array.getElem?_eq_some_iff.1 he).1
  refine ⟨R.below.trans ⟨rfl, rfl, rfl, by rw [hsz]; exact Nat.le_refl _, fun b hb => hne b (by omega)⟩, fun x ob e b c n e' => (R.ob x ob e b c n e').block (hne b (fun e5 => (R.ob x ob e b c n e').not_odd (e5 ▸ he) ho)), fun x b c n e => ⟨by rw [hsz]; exact (R.lt x b c n e).1, (R.lt x b c n e).2⟩, R.dom, R.mine, R.sep, R.par, R.parlt, R.base, fun p hp => ?_⟩
  rcases hs p hp with ⟨h1, h2⟩ | ⟨rfl, h2⟩
  · exact ⟨(hne p.1 h2).trans (R.kp p h1).1, (R.kp p h1).2⟩
  · exact ⟨World.putObj_heap_same hlt, h2⟩
theorem load1'_some (R : Rel ν W ρ h w) {y : BP} {off b c m : Nat} (hy : ρ y = some (b, c, m)) (hv : load1' (V.p y off) h = some v) : ∃ u, w.cell? ⟨b, c + off, none⟩ = some u ∧ VR ν ρ v u := by
  rw [load1'_eq] at hv
  obtain ⟨l, p, wn, e2, hv⟩ := onC_ne (show onC (obj h y) none (fun l _ _ => nth l off) = some v from hv) (by simp)
  rw [nth_eq] at hv
  obtain ⟨cs, e, fz, hb, hsz, _, hl, hg⟩ := R.ob y _ e2 b c m hy
  obtain ⟨u, hu, hr⟩ := hg off v hv
  exact ⟨u, by rw [cell_of hb, hu], hr⟩
theorem backL_some {step : Nat → H → Option H} : ∀ (m : Nat) (h h' : H), backL step m h = some h' → ∃ hs : Nat → H, hs m = h ∧ hs 0 = h' ∧ ∀ i, i < m → step i (hs (i + 1)) = some (hs i)
  | 0, h, h', e => ⟨fun _ => h, rfl, Option.some.inj (show some h = some h' from e), fun i hi => absurd hi (Nat.not_lt_zero i)⟩
  | m + 1, h, h', e => by
    obtain ⟨h1, e1, e2⟩ := ocase_ne (show ocase (step m h) none (backL step m) = some h' from e) (by simp)
    obtain ⟨hs, g1, g2, g3⟩ := backL_some m h1 h' e2
    refine ⟨fun i => if i = m + 1 then h else hs i, by simp, by simp [g2], fun i hi => ?_⟩
    by_cases hc : i = m
    · subst hc; simp [g1, e1]
    · have hi1 : ¬ (i + 1 = m + 1) := by omega
      have hi2 : ¬ (i = m + 1) := by omega
      simp only [hi1, hi2, if_false]; exact g3 i (by omega)
/-- **The iterator, as it is asked here**: in each round the list is looked at anew. -/
def BackIt (P : Program) (bk : Nat) : Prop := (∀ args w, (callFunc bk args).run P w = .ok (.enter bk args) w) ∧
  ∀ (l Bs Co N cap : Nat) (A : Option Addr) (W : World) (J : Nat → World → Prop), N ≤ 1000000 → W.cell? ⟨Bs, Co, none⟩ = some (.slice A N cap) → J N W →
    (∀ i W', i < N → J (i + 1) W' → ∃ (b off M cap' : Nat) (x : Int), i < M ∧ M ≤ cap' ∧ W'.cell? ⟨Bs, Co, none⟩ = some (.slice (some ⟨b, off, none⟩) M cap') ∧ W'.cell? ⟨b, off + i, none⟩ = some (.int .i64 x) ∧
      YieldAt Fence.wide 7 P l #[.int .i64 (i : Int), .int .i64 x] W' fun e W2 => e = .returned (.bool true) ∧ J i W2) →
    CallsIn Fence.wide 8 P bk #[.func (.yield l) #[] #[], .pointer (some ⟨Bs, Co, none⟩)] W fun e W' => (∃ v, e = .returned v) ∧ J 0 W'
theorem badCl_ok : CallOk P ν W badCl := fun _ _ _ _ _ hv => by cases hv
theorem slotIn_some {p : Nat} {o : Option BP} (h : slotIn C nt p = some o) : p < nt ∧ ((o = some (bpOf p) ∧ ∃ u, get (bpOf p) C = some u) ∨ (o = none ∧ get (bpOf p) C = none)) := by
  unfold slotIn at h
  cases hb : Nat.blt p nt with
  | false => rw [hb] at h; cases h
  | true =>
    rw [hb] at h
    refine ⟨blt_iff.1 hb, ?_⟩
    have h' : (match get (bpOf p) C with | some _ => some (some (bpOf p)) | none => some none) = some o := h
    split at h'
    · rename_i u e; exact .inl ⟨(Option.some.inj h').symm, u, e⟩
    · rename_i e; exact .inr ⟨(Option.some.inj h').symm, e⟩
/-- A slot set. -/
theorem FrC.setP {p : Nat} {po : Option BP} {x0 : V} {u : Value} (hnt : nt ≤ 100000) (hp : p < nt) (hpo : (po = some (bpOf p) ∧ ∃ u, get (bpOf p) C = some u) ∨ (po = none ∧ get (bpOf p) C = none)) (F : FrC Df ν C ρ nt t a) (hx : VR ν ρ x0 u) :
    FrC Df ν C ρ nt (Ev.setP po x0 t) { a with tmps := a.tmps.setIfInBounds p u } := by
  have hsz : p < a.tmps.size := Nat.lt_of_lt_of_le hp F.size
  have hgd : ∀ m, (a.tmps.setIfInBounds p u).getD m undef = if m = p then u else a.tmps.getD m undef := by
    intro m
    simp only [Array.getD_eq_getD_getElem?, Array.getElem?_setIfInBounds]
    by_cases e : m = p
    · subst e; simp [hsz]
    · rw [if_neg (fun e' => e e'.symm), if_neg e]
  rcases hpo with ⟨rfl, hC⟩ | ⟨rfl, hCn⟩
  · have hg : ∀ m, m < 100000 → get (bpOf m) (Ev.setP (some (bpOf p)) x0 t) = if m = p then some x0 else get (bpOf m) t := by
      intro m hm
      show get (bpOf m) (Ev.set (bpOf p) (some x0) t) = _
      rw [get_set]
      by_cases e : m = p
      · rw [e, if_pos rfl, if_pos rfl]
      · rw [if_neg (fun e' => e (bpOf_inj (by omega) (by omega) e')), if_neg e]
    refine ⟨⟨fun m hm v hv => ?_, fun g v hv => ?_, F.defers, by simpa using F.size⟩, fun m v hm hv => ?_⟩
    · rw [hg m hm] at hv
      rw [hgd]
      split at hv
      · rename_i e; rw [if_pos e]; obtain rfl := Option.some.inj hv; exact hx
      · rename_i e; rw [if_neg e]; exact F.slot m hm v hv
    · refine F.glob g v ?_
      have : get (bpOf (100000 + g)) (Ev.set (bpOf p) (some x0) t) = some v := hv
      rw [get_set, if_neg (fun e => by
        have e1 := congrArg bpN e
        rw [bpN_of (n := p) (by omega)] at e1
        by_cases hb : 100000 + g < 2 ^ 39
        · rw [bpN_of hb] at e1; omega
        · have := bpOf_big (100000 + g); omega)] at this
      exact this
    · rw [hg m hm] at hv
      split at hv
      · rename_i e; rw [e]; exact hC
      · exact F.ins m v hm hv
  · have hno : get (bpOf p) t = none := by
      cases e : get (bpOf p) t with
      | none => rfl
      | some v => obtain ⟨u, hu⟩ := F.ins p v (by omega) e; rw [hCn] at hu; cases hu
    refine ⟨⟨fun m hm v hv => ?_, F.glob, F.defers, by simpa using F.size⟩, F.ins⟩
    have hv : get (bpOf m) t = some v := hv
    rw [hgd]
    have : m ≠ p := fun e => by rw [e, hno] at hv; cases hv
    rw [if_neg this]; exact F.slot m hm v hv
/-- How a function's code ends, where it may have left a mark. -/
def Post3 (Df : List Deferred) (ν : Nat → Int) (W : Bas) (C : Tr Unit) (nt : Nat) (h : H) (ρ : Pl) (X0 : X) (e : Exit) (a : Act) (w : World) : Prop :=
  Post Df ν W C nt h ρ X0 e a w ∨ ∃ D, (W.w0.heap.size ≤ D ∧ ∀ p ∈ W.kp, p.1 ≠ D) ∧ Post ({ target := .collected D, args := #[] } :: Df) ν (W.keep ((D, .deferred (some [])) :: W.kp)) C nt h ρ X0 e a w
theorem VR.backV {bk : Nat} {v : V} {u : Value} {y : BP} (hv : Ev.backV bk v = some y) (hr : VR ν ρ v u) : ∃ b c n, ρ y = some (b, c, n) ∧ u = .func (.func bk) #[] #[.pointer (some ⟨b, c + 0, none⟩)] := by
  obtain ⟨g, first, caps, e0, hv1⟩ := onF_ne hv (by simp)
  obtain ⟨hg, hv2⟩ := bcase_ne hv1 (by simp)
  have hg := Nat.eq_of_beq_eq_true hg
  subst e0
  clear hv hv1
  cases first with
  | cons x l => cases hv2
  | nil =>
    obtain ⟨c, r, e1, hv3⟩ := lcase_ne (show lcase caps none (fun c r => lcase r (onP c none (fun y o => bcase (Nat.beq o 0) none (some y))) (fun _ _ => none)) = some y from hv2) (by simp)
    subst e1
    clear hv2
    cases r with
    | cons x l => cases hv3
    | nil =>
      obtain ⟨y', o, e2, hv4⟩ := onP_ne (show onP c none (fun y o => bcase (Nat.beq o 0) none (some y)) = some y from hv3) (by simp)
      obtain ⟨ho, hv5⟩ := bcase_ne hv4 (by simp)
      have ho := Nat.eq_of_beq_eq_true ho
      obtain rfl := Option.some.inj hv5
      subst e2; subst ho; subst hg
      simp only [VR] at hr
      obtain ⟨xs, ys, rfl, h1, h2⟩ := hr
      simp only [VRs] at h1 h2
      obtain ⟨u1, us, e1, h3, rfl⟩ := h2
      simp only [VR] at h3
      obtain ⟨b, c, n, h4, rfl⟩ := h3
      refine ⟨b, c, n, h4, ?_⟩
      have ex : xs = #[] := by cases xs; simp_all
      have ey : ys = #[.pointer (some ⟨b, c + 0, none⟩)] := by cases ys; simp_all
      rw [ex, ey]
theorem onNm_some {x : X} {f : Tr V → H → Option H} {r : H} (h : onNm x f = some r) : ∃ t h1, x = .nm t h1 ∧ f t h1 = some r := by
  cases x <;> first | exact ⟨_, _, rfl, h⟩ | cases h
theorem round_vals {y : BP} {i : Nat} {as body : C2} {p q : Option BP} {h' : H} (hv : backRound en n y p q as body t i h = some h') : ∃ sl pv k z, load1' (.p y 0) h = some sl ∧ iaddr 1 sl (V.i .i64 (Z.lit (Int.ofNat i))) = some pv ∧ load1' pv h = some (.i .i64 z) ∧
    ∃ t1 h1 t2, FS en badCl n as (Ev.setP q (.i .i64 z) (Ev.setP p (V.i .i64 (Z.lit (Int.ofNat i))) t)) h = .nm t1 h1 ∧ FS en badCl n body t1 h1 = .nm t2 h' ∧ k = () := by
  obtain ⟨sl, e1, hv⟩ := ocase_ne hv (by simp)
  obtain ⟨pv, e2, hv⟩ := ocase_ne hv (by simp)
  obtain ⟨v0, e3, hv⟩ := ocase_ne hv (by simp)
  obtain ⟨k, z, rfl, hv⟩ := onI_ne hv (by simp)
  obtain ⟨hk, hv⟩ := bcase_ne hv (by simp)
  have hk : k = .i64 := by cases k <;> first | rfl | exact absurd (Nat.eq_of_beq_eq_true hk) (by decide)
  subst hk
  obtain ⟨t1, h1, e4, hv⟩ := onNm_some hv
  obtain ⟨t2, h2, e5, hv⟩ := onNm_some hv
  obtain rfl := Option.some.inj hv
  exact ⟨sl, pv, (), z, e1, e2, e3, t1, h1, t2, e4, e5, rfl⟩
theorem back_sound (hT : TTok P tt) (he : EnOk ν en) (hmo : P.follows .mixedOrders = true) (hm : MtsOk P en.mts) {bk : Nat} (hB : BackIt P bk) (hnt : nt ≤ 100000) {f : Operand} {p q : Nat} {po qo : Option BP} {s : Src} {as body : Code}
    (hs : trSrc [] f = some s) (hp : slotIn C nt p = some po) (hq : slotIn C nt q = some qo) (hpl : plainC as = true) (hpl2 : plainC body = true) {X0 : X} (hX : FS3 en call n bk (.back s po qo (trC tt nt C as) (trC tt nt C body)) t h = X0) (hb : ∀ n, X0 ≠ .bad n) (R : Rel ν W ρ h w) (Fr : FrC Df ν C ρ nt t a) :
    (Code.rangeFunc f #[p, q] as body).wp P (Post3 Df ν W C nt h ρ X0) a w := by
  have hv := Cur.val Fr.toFrR hs
  obtain ⟨y, ey, hX1⟩ := ocase_ne (show ocase (backV bk (src [] t s)) (X.bad 140) _ = X0 from hX) (fun e => hb _ e.symm)
  obtain ⟨N, eN, hX2⟩ := ocase_ne hX1 (fun e => hb _ e.symm)
  obtain ⟨hN, hX3⟩ := bcase_ne hX2 (fun e => hb _ e.symm)
  obtain ⟨h', el, hX4⟩ := ocase_ne hX3 (fun e => hb _ e.symm)
  obtain ⟨b, c, m, hy, hfv⟩ := VR.backV ey hv
  have hN := Nat.le_of_ble_eq_true hN
  obtain ⟨slv, e1, e2⟩ := ocase_ne eN (by simp)
  obtain ⟨us, k1, k2⟩ := load1'_some R hy e1
  obtain ⟨A, cap, rfl, hcap⟩ := lenS_some e2 k2
  obtain ⟨hs', g1, g2, g3⟩ := backL_some N h h' el
  refine (wpIn_wide (n := 9)).1 (wpIn_rangeFunc ?_)
  intro fn hfn
  obtain ⟨rec, hrec⟩ : ∃ rec : LoopState → Option Code → Loop, rec = fun st pe => { state := st, pending := pe, fn, tmps := a.tmps, params := #[p, q], assign := as, body, defers := w.heap.size } := ⟨_, rfl⟩
  obtain ⟨W1, hW1⟩ : ∃ W1, (w.alloc (.deferred (some []))).alloc (.loop (rec .ready none)) = W1 := ⟨_, rfl⟩
  obtain ⟨D, hD⟩ : ∃ D, w.heap.size = D := ⟨_, rfl⟩
  have R1 : Rel ν (W.keep ((D + 1, .loop (rec .ready none)) :: (D, .deferred (some [])) :: W.kp)) ρ h W1 := by
    have r1 := (R.keep_new (ob := .deferred (some [])) rfl).keep_new (ob := .loop (rec .ready none)) rfl
    rw [World.size_alloc, hD, hW1] at r1
    exact r1
  have hwl : W.w0.heap.size ≤ D := by rw [← hD]; exact R.below.size
  have hkl : ∀ p ∈ W.kp, p.1 ≠ D ∧ p.1 ≠ D + 1 := fun p hp => by
    have := (Array.getElem?_eq_some_iff.1 (R.kp p hp).1).1
    omega
  refine ⟨D + 1, [{ target := .collected D, args := #[] }], W1, { target := .fn (.func bk) #[.pointer (some ⟨b, c + 0, none⟩)], args := #[.func (.yield (D + 1)) #[] #[]] }, W1, bk,
    #[.func (.yield (D + 1)) #[] #[]] ++ #[.pointer (some ⟨b, c + 0, none⟩)], W1, ?_, ?_, ?_, ?_, fun e => absurd e (by simp [Fence.wide]), ?_⟩
  · rw [← hW1, hrec, ← hD]; exact run_enterLoop_outer _ _ _ _ _
  · simp only [resolve, hfv]
    simp [go_sem]
  · intro f' hf'; trivial
  · simp [invoke, go_sem, hB.1]
  · have hcell1 : W1.cell? ⟨b, c + 0, none⟩ = some (.slice A N cap) := by
      obtain ⟨u2, k3, k4⟩ := load1'_some R1 hy e1
      have hb1 := (R.lt y b c m hy).1
      have e5 : W1.cell? ⟨b, c + 0, none⟩ = w.cell? ⟨b, c + 0, none⟩ := by
        refine World.cell?_of_block ?_
        rw [← hW1]
        show ((w.heap.push _).push _)[b]? = w.heap[b]?
        rw [Array.getElem?_push_lt (by simp; omega), Array.getElem_push_lt (by omega)]
        exact (Array.getElem?_eq_getElem _).symm
      rw [e5]; exact k1
    refine (hB.2 (D + 1) b (c + 0) N cap A W1 (fun i W' => ∃ ρ', Rel ν (W.keep ((D + 1, .loop (rec .ready none)) :: (D, .deferred (some [])) :: W.kp)) ρ' (hs' i) W' ∧ Ext h ρ (hs' i) ρ') hN hcell1 ⟨ρ, by rw [g1]; exact R1, by rw [g1]; exact Ext.refl _ _⟩ ?_).mono ?_
    · rintro i W' hi ⟨ρ1, R2, E2⟩
      obtain ⟨sl, pv, _, z, f1, f2, f3, t1, h1, t2, f4, f5, _⟩ := round_vals (g3 i hi)
      obtain ⟨x, off, s0, M, f6, f7⟩ := onSl_ne f2 (by simp)
      subst f6
      obtain ⟨kk, f8, f9, f10⟩ := asNat_ne f7 (by simp)
      injection f9 with f9 f9'
      injection f9' with f9'
      have hik : f8 = i := by
        have : (Int.ofNat i) = (f8 : Int) := f9'
        exact (Int.ofNat.inj this).symm
      subst hik
      obtain ⟨f11, f12⟩ := bcase_ne f10 (by simp)
      obtain ⟨f13, f14⟩ := bcase_ne f12 (by simp)
      have hiM := blt_iff.1 f11
      obtain rfl := Nat.eq_of_beq_eq_true f13
      rw [forceN_eq] at f14
      obtain rfl := Option.some.inj f14
      obtain ⟨u1, q1, q2⟩ := load1'_some R2 (E2.le _ _ hy) f1
      simp only [VR] at q2
      obtain ⟨bb, cc, nn, cap', pp, q3, rfl, q4, q5⟩ := q2
      obtain ⟨rfl, _⟩ := q5 (by omega)
      obtain ⟨u2, q6, q7⟩ := load1'_some R2 q3 f3
      simp only [VR] at q7
      subst q7
      refine ⟨bb, cc + off, M, cap', zval ν z, hiM, q4, q1, by rw [← q6]; congr 2; simp; omega, ?_⟩
      have hl2 := (R2.kp _ (List.mem_cons_self ..)).1
      have hy2 := run_yield (P := P) (args := #[.int .i64 (f8 : Int), .int .i64 (zval ν z)]) hl2 (by rw [hrec]; rfl)
      rw [hrec] at hy2
      have hy3 : (Instr.yield (D + 1) #[.int .i64 (f8 : Int), .int .i64 (zval ν z)]).run P W' = .ok (.round (D + 1) fn ((a.tmps.setIfInBounds p (.int .i64 (f8 : Int))).setIfInBounds q (.int .i64 (zval ν z))) as body) W' := by rw [hy2]; simp
      refine ⟨fn, _, as, body, hy3, roundIn_of_wpIn hfn ?_⟩
      obtain ⟨hpn, hpo⟩ := slotIn_some hp
      obtain ⟨hqn, hqo⟩ := slotIn_some hq
      have F0 : FrC [] ν C ρ1 nt t { tmps := a.tmps, defers := [] } := ⟨⟨(Fr.mono E2.le).slot, (Fr.mono E2.le).glob, rfl, Fr.size⟩, Fr.ins⟩
      have F1 := (F0.setP hnt hpn hpo (x0 := .i .i64 (.lit (Int.ofNat f8))) (u := .int .i64 (f8 : Int)) (by simp [VR, zval])).setP hnt hqn hqo (x0 := .i .i64 z) (u := .int .i64 (zval ν z)) (by simp only [VR])
      refine wpIn_mono (fs_in (F := Fence.wide.inRound (D + 1)) (k := 7) (Df := []) hT he hmo badCl_ok hm hnt as hpl _ _ _ ρ1 _ W' f4 (by simp) R2 F1) (fun e a1 w1 hp1 => ?_)
      cases e <;> first | exact hp1.elim | skip
      obtain ⟨ρ2, R3, E3, F3⟩ := hp1
      have hl3 := (R3.kp _ (List.mem_cons_self ..)).1
      refine ⟨_, run_beginRound hl3 (by rw [hrec]), ?_⟩
      have R4 : Rel ν (W.keep ((D + 1, .loop { rec .ready none with state := .busy }) :: (D, .deferred (some [])) :: W.kp)) ρ2 h1 (w1.putObj (D + 1) (.loop { rec .ready none with state := .busy })) :=
        R3.keep_put (by show W.w0.heap.size ≤ D + 1; omega) hl3 rfl _ (fun p0 hp0 => by
          rcases List.mem_cons.1 hp0 with rfl | hp0
          · exact .inr ⟨rfl, rfl⟩
          · rcases List.mem_cons.1 hp0 with rfl | hp0
            · exact .inl ⟨by simp [Bas.keep], by simp⟩
            · exact .inl ⟨by simp [Bas.keep, hp0], (hkl p0 hp0).2⟩)
      have F3' : FrC [] ν C ρ2 nt t1 a1 := F3
      refine wpIn_mono (fs_in (F := Fence.wide.inRound (D + 1)) (k := 7) (Df := []) hT he hmo badCl_ok hm hnt body hpl2 _ _ _ ρ2 _ _ f5 (by simp) R4 F3') (fun e a2 w2 hp2 => ?_)
      cases e <;> first | exact hp2.elim | skip
      obtain ⟨ρ3, R5, E5, F5⟩ := hp2
      have hl5 := (R5.kp _ (List.mem_cons_self ..)).1
      refine ⟨_, _, run_endRound none hl5, rfl, ρ3, ?_, (E2.trans E3).trans E5⟩
      have : ({ ({ rec .ready none with state := .busy } : Loop) with state := if (none : Option Code).isNone then .ready else .done, pending := none } : Loop) = rec .ready none := by rw [hrec]; rfl
      rw [this]
      exact R5.keep_put (by show W.w0.heap.size ≤ D + 1; omega) hl5 rfl _ (fun p0 hp0 => by
          rcases List.mem_cons.1 hp0 with rfl | hp0
          · exact .inr ⟨rfl, rfl⟩
          · rcases List.mem_cons.1 hp0 with rfl | hp0
            · exact .inl ⟨by simp [Bas.keep], by simp⟩
            · exact .inl ⟨by simp [Bas.keep, hp0], (hkl p0 hp0).2⟩)
    · rintro e W2 ⟨⟨v0, rfl⟩, ρ1, R2, E2⟩
      have hl2 := (R2.kp _ (List.mem_cons_self ..)).1
      refine ⟨none, _, by have := run_endLoop (P := P) hl2 (by rw [hrec]; simp); rw [show (rec .ready none).pending = none by rw [hrec]] at this; exact this, ?_⟩
      show Post3 Df ν W C nt h ρ X0 .normal _ _
      refine .inr ⟨D, ⟨hwl, fun p hp => (hkl p hp).1⟩, ?_⟩
      rw [← hX4, ← g2]
      refine ⟨ρ1, ?_, E2, ⟨⟨(Fr.mono E2.le).slot, (Fr.mono E2.le).glob, by show [_] ++ a.defers = _; rw [Fr.defers]; rfl, Fr.size⟩, Fr.ins⟩⟩
      exact R2.keep_put (by show W.w0.heap.size ≤ D + 1; omega) hl2 rfl _ (fun p0 hp0 => by
          rcases List.mem_cons.1 hp0 with rfl | hp0
          · exact .inl ⟨by simp [Bas.keep], by simp⟩
          · exact .inl ⟨by simp [Bas.keep, hp0], (hkl p0 hp0).2⟩)
theorem Post3.mono {h1 : H} {ρ1 : Pl} (E : Ext h ρ h1 ρ1) {X0 : X} : ∀ e a w, Post3 Df ν W C nt h1 ρ1 X0 e a w → Post3 Df ν W C nt h ρ X0 e a w := by
  rintro e a w (hp | ⟨D, hp⟩)
  · exact .inl (Post.mono E e a w hp)
  · exact .inr ⟨D, hp.1, Post.mono E e a w hp.2⟩
theorem fs3_sound (hT : TTok P tt) (he : EnOk ν en) (hmo : P.follows .mixedOrders = true) (hcall : CallOk P ν W call) (hm : MtsOk P en.mts) {bk : Nat} (hB : BackIt P bk) (hnt : nt ≤ 100000) : ∀ (c : Code) (t : Tr V) (h : H) (X0 : X) (ρ : Pl) (a : Act) (w : World),
    FS3 en call n bk (trC3 tt nt C c) t h = X0 → (∀ n, X0 ≠ .bad n) → Rel ν W ρ h w → FrC Df ν C ρ nt t a → c.wp P (Post3 Df ν W C nt h ρ X0) a w := by
  have plain : ∀ (c : Code), trC3 tt nt C c = .pl (trC tt nt C c) → ∀ (t : Tr V) (h : H) (X0 : X) (ρ : Pl) (a : Act) (w : World),
      FS3 en call n bk (trC3 tt nt C c) t h = X0 → (∀ n, X0 ≠ .bad n) → Rel ν W ρ h w → FrC Df ν C ρ nt t a → c.wp P (Post3 Df ν W C nt h ρ X0) a w := by
    intro c hc t h X0 ρ a w hX hb R F
    rw [hc] at hX
    exact wp_mono (fs_sound hT he hmo hcall hm hnt c t h X0 ρ a w hX hb R F) (fun e a w hp => .inl hp)
  intro c
  induction c with
  | rangeFunc f ps as body _ _ =>
    intro t h X0 ρ a w hX hb R F
    unfold trC3 at hX
    split at hX
    · rename_i p q s hps hs
      split at hX
      · rename_i p' q' hp hq
        cases hc : ((plainC as && plainC body) && !(Nat.beq p q)) with
        | false => rw [hc] at hX; exact absurd (show X.bad 145 = X0 from hX).symm (hb _)
        | true =>
          rw [hc] at hX
          simp only [Bool.and_eq_true] at hc
          have eps : ps = #[p, q] := by cases ps; simp_all
          subst eps
          exact back_sound hT he hmo hm hB hnt hs hp hq hc.1.1 hc.1.2 hX hb R F
      · exact absurd (show X.bad 146 = X0 from hX).symm (hb _)
    · exact absurd (show X.bad 147 = X0 from hX).symm (hb _)
  | seq x y ihx ihy =>
    intro t h X0 ρ a w hX hb R F
    refine wp_seq ?_
    cases hr : hasR x with
    | true =>
      rw [show trC3 tt nt C (.seq x y) = (bif hasR x then .sq (trC3 tt nt C x) (trC tt nt C y) else .qs (trC tt nt C x) (trC3 tt nt C y)) from rfl, hr] at hX
      have hX' : again (FS3 en call n bk (trC3 tt nt C x) t h) (FS en badCl n (trC tt nt C y)) = X0 := hX
      cases hx : FS3 en call n bk (trC3 tt nt C x) t h with
      | bad n => rw [hx] at hX'; exact absurd hX'.symm (hb n)
      | nm t1 h1 =>
        rw [hx] at hX'
        refine wp_mono (ihx t h _ ρ a w hx (by simp) R F) (fun e a1 w1 hp => ?_)
        rcases hp with hp | ⟨D, hp⟩
        · cases e <;> first | exact hp.elim | skip
          obtain ⟨ρ1, R1, E1, F1⟩ := hp
          exact wp_mono (fs_sound hT he hmo badCl_ok hm hnt y t1 h1 X0 ρ1 a1 w1 hX' hb R1 F1) (fun e a w hp => .inl (Post.mono E1 e a w hp))
        · obtain ⟨hD, hp⟩ := hp
          cases e <;> first | exact hp.elim | skip
          obtain ⟨ρ1, R1, E1, F1⟩ := hp
          exact wp_mono (fs_sound hT he hmo badCl_ok hm hnt y t1 h1 X0 ρ1 a1 w1 hX' hb R1 F1) (fun e a w hp => .inr ⟨D, hD, Post.mono E1 e a w hp⟩)
      | ex i t1 h1 =>
        rw [hx] at hX'
        refine wp_mono (ihx t h _ ρ a w hx (by simp) R F) (fun e a1 w1 hp => ?_)
        have hX2 : X.ex i t1 h1 = X0 := hX'
        rw [← hX2]
        cases e <;> first | exact hp | (rcases hp with hp | ⟨D, _, hp⟩ <;> exact hp.elim)
      | rt t1 h1 =>
        rw [hx] at hX'
        refine wp_mono (ihx t h _ ρ a w hx (by simp) R F) (fun e a1 w1 hp => ?_)
        have hX2 : X.rt t1 h1 = X0 := hX'
        rw [← hX2]
        cases e <;> first | exact hp | (rcases hp with hp | ⟨D, _, hp⟩ <;> exact hp.elim)
    | false =>
      rw [show trC3 tt nt C (.seq x y) = (bif hasR x then .sq (trC3 tt nt C x) (trC tt nt C y) else .qs (trC tt nt C x) (trC3 tt nt C y)) from rfl, hr] at hX
      have hX' : again (FS en call n (trC tt nt C x) t h) (FS3 en call n bk (trC3 tt nt C y)) = X0 := hX
      cases hx : FS en call n (trC tt nt C x) t h with
      | bad n => rw [hx] at hX'; exact absurd hX'.symm (hb n)
      | nm t1 h1 =>
        rw [hx] at hX'
        refine wp_mono (fs_sound hT he hmo hcall hm hnt x t h _ ρ a w hx (by simp) R F) (fun e a1 w1 hp => ?_)
        cases e <;> first | exact hp.elim | skip
        obtain ⟨ρ1, R1, E1, F1⟩ := hp
        exact wp_mono (ihy t1 h1 X0 ρ1 a1 w1 hX' hb R1 F1) (Post3.mono E1)
      | ex i t1 h1 =>
        rw [hx] at hX'
        refine wp_mono (fs_sound hT he hmo hcall hm hnt x t h _ ρ a w hx (by simp) R F) (fun e a1 w1 hp => ?_)
        have hX2 : X.ex i t1 h1 = X0 := hX'
        rw [← hX2]
        cases e <;> first | exact hp.elim | exact .inl hp
      | rt t1 h1 =>
        rw [hx] at hX'
        refine wp_mono (fs_sound hT he hmo hcall hm hnt x t h _ ρ a w hx (by simp) R F) (fun e a1 w1 hp => ?_)
        have hX2 : X.rt t1 h1 = X0 := hX'
        rw [← hX2]
        cases e <;> first | exact hp.elim | exact .inl hp
  | cond c x y ihx ihy =>
    intro t h X0 ρ a w hX hb R F
    change FS3 en call n bk (match trSrc [] c with | some s => C3.cond s (trC3 tt nt C x) (trC3 tt nt C y) | none => .bad 130) t h = X0 at hX
    cases hs : trSrc [] c with
    | none => rw [hs] at hX; exact absurd (show X.bad 130 = X0 from hX).symm (hb _)
    | some s =>
      rw [hs] at hX
      have hv := Cur.val F.toFrR hs
      have hX' : onB (src [] t s) (X.bad 86) (fun b => bcase b (FS3 en call n bk (trC3 tt nt C y) t h) (FS3 en call n bk (trC3 tt nt C x) t h)) = X0 := hX
      obtain ⟨b, hb1, hX2⟩ := onB_ne hX' (fun e => hb _ e.symm)
      rw [hb1] at hv
      simp only [VR] at hv
      refine wp_cond hv ?_
      cases b with
      | true => exact ihx t h X0 ρ a w hX2 hb R F
      | false => exact ihy t h X0 ρ a w hX2 hb R F
  | block id c ih =>
    intro t h X0 ρ a w hX hb R F
    have hX' : blockK (FS3 en call n bk (trC3 tt nt C c) t h) id = X0 := hX
    refine wp_block ?_
    cases hx : FS3 en call n bk (trC3 tt nt C c) t h with
    | bad n => rw [hx] at hX'; exact absurd hX'.symm (hb n)
    | nm t1 h1 =>
      rw [hx] at hX'
      refine wp_mono (ih t h _ ρ a w hx (by simp) R F) (fun e a1 w1 hp => ?_)
      have hX2 : X.nm t1 h1 = X0 := hX'
      rw [← hX2]
      cases e <;> first | exact hp | (rcases hp with hp | ⟨D, _, hp⟩ <;> exact hp.elim)
    | ex i t1 h1 =>
      rw [hx] at hX'
      refine wp_mono (ih t h _ ρ a w hx (by simp) R F) (fun e a1 w1 hp => ?_)
      cases e <;> first | (rcases hp with hp | ⟨D, _, hp⟩ <;> exact hp.elim) | skip
      rename_i j
      have hij : i = j := by rcases hp with hp | ⟨D, _, hp⟩ <;> exact hp.1
      have hX2 : bcase (Nat.beq i id) (X.ex i t1 h1) (X.nm t1 h1) = X0 := hX'
      simp only [Exit.inBlock]
      split
      · rename_i e
        rw [hij, e, Nat.beq_refl] at hX2
        rw [← show X.nm t1 h1 = X0 from hX2]
        rcases hp with hp | ⟨D, hp⟩
        · exact .inl hp.2
        · exact .inr ⟨D, hp.1, hp.2.2⟩
      · rename_i e
        rw [show Nat.beq i id = false from Bool.eq_false_iff.2 fun h => e (hij ▸ Nat.eq_of_beq_eq_true h)] at hX2
        rw [← show X.ex i t1 h1 = X0 from hX2]; exact hp
    | rt t1 h1 =>
      rw [hx] at hX'
      refine wp_mono (ih t h _ ρ a w hx (by simp) R F) (fun e a1 w1 hp => ?_)
      have hX2 : X.rt t1 h1 = X0 := hX'
      rw [← hX2]
      cases e <;> first | exact hp | (rcases hp with hp | ⟨D, _, hp⟩ <;> exact hp.elim)
  | _ => exact plain _ rfl
theorem trF3_some {fn : Func} {cf : CF3} (h : trF3 tt fn = some cf) : ∃ c rs, fn.body = some c ∧ trRvs tt fn.results.toList = some rs ∧ fn.ntmps ≤ 100000 ∧ fn.params.size + fn.nfree ≤ 1000 ∧ (fn.name == "runtime.NumGoroutine") = false ∧
    cf = .mk (fn.params.size + fn.nfree) (trC3 tt fn.ntmps (slots (fn.params.size + fn.nfree) (useR fn.results.toList (useC3 c .lf))) c) rs := by
  unfold trF3 at h
  split at h
  · rename_i c rs e1 e2
    cases hb : (Nat.ble fn.ntmps 100000 && Nat.ble (fn.params.size + fn.nfree) 1000 && !(fn.name == "runtime.NumGoroutine")) with
    | false => rw [hb] at h; cases h
    | true =>
      rw [hb] at h
      simp only [Bool.and_eq_true, Bool.not_eq_true'] at hb
      exact ⟨c, rs, e1, e2, Nat.le_of_ble_eq_true hb.1.1, Nat.le_of_ble_eq_true hb.1.2, hb.2, (Option.some.inj h).symm⟩
  · cases h
/-- A function that ranges over slices.Backward. -/
theorem func3_run (hT : TTok P tt) (he : EnOk ν en) (hmo : P.follows .mixedOrders = true) (hcall : CallOk P ν W call) (hm : MtsOk P en.mts) {bk : Nat} (hB : BackIt P bk) (hgt : GtOk ν W en.gt)
    {g : Nat} {as : List V} {h h' : H} {v : V} {fn : Func} {cf : CF3} (hf : P.funcs[g]? = some fn) (htf : trF3 tt fn = some cf) (hv2 : run3 cf en call bk as h = .ok v h') : Call1 P ν W g as h v h' := by
  obtain ⟨c, rs, hb, hrs, hnt, hn, hname, rfl⟩ := trF3_some htf
  obtain ⟨hlen, hv3⟩ := bcase_ne (show bcase (Nat.ble (len as) (fn.params.size + fn.nfree)) (R1.bad 85) (finX (FS3 en call 1000000 bk (trC3 tt fn.ntmps (slots (fn.params.size + fn.nfree) (useR fn.results.toList (useC3 c .lf))) c) (init' as BP.one en.gt) h) rs) = R1.ok v h' from hv2) (by simp)
  have hlen := Nat.le_of_ble_eq_true hlen
  rw [len_eq] at hlen
  refine ⟨fun args w => ?_, fun ρ args w R hargs => ?_⟩
  · have hne : fn.name ≠ "runtime.NumGoroutine" := by simpa using hname
    simp [callFunc, hf, hb, hne]
  · have hal := hargs.length
    have hget : ∀ n, n < 100000 → get (bpOf n) (init' as BP.one en.gt) = if n < as.length then as[n]? else none := fun n hn' => by
      rw [show BP.one = bpOf 0 from rfl, init_get n as 0 en.gt (by omega)]
      by_cases e : n < as.length
      · rw [if_pos (by omega), if_pos e]; simp
      · rw [if_neg (by omega), if_neg e]; exact hgt.low n hn'
    have F : FrC [] ν (slots (fn.params.size + fn.nfree) (useR fn.results.toList (useC3 c .lf))) ρ fn.ntmps (init' as BP.one en.gt) { tmps := args.toArray ++ Array.replicate (fn.ntmps - args.toArray.size) undef, defers := [] } := by
      refine ⟨⟨fun n hn' v hv => ?_, fun g v hv => ?_, rfl, by simp; omega⟩, fun n v hn' hv => ?_⟩
      · rw [hget n hn'] at hv
        split at hv
        · obtain ⟨u, hu, hvr⟩ := hargs.get hv
          have hlt : n < args.length := by omega
          have : (args.toArray ++ Array.replicate (fn.ntmps - args.toArray.size) undef).getD n undef = u := by
            rw [Array.getD_eq_getD_getElem?, Array.getElem?_append_left (by simpa using hlt)]
            simp [hu]
          rw [this]; exact hvr
        · cases hv
      · rw [show BP.one = bpOf 0 from rfl, init_get (100000 + g) as 0 en.gt (by omega), if_neg (by omega)] at hv
        exact VR.mono ν R.base _ _ (hgt.glob g v hv)
      · rw [hget n hn'] at hv
        split at hv
        · exact ⟨(), slots_get _ n _ (by omega) hn⟩
        · cases hv
    refine (callsIn_wide (n := 9)).1 (callsIn_of_wp_marks hf hb trivial (wpIn_wide.2 ?_) rfl)
    have key : ∀ t1 h1 e a1 w1, (fin rs t1 h1 = .ok v h') → (∃ ρ1, Rel ν W ρ1 h1 w1 ∧ Ext h ρ h1 ρ1 ∧ FrC [] ν (slots (fn.params.size + fn.nfree) (useR fn.results.toList (useC3 c .lf))) ρ1 fn.ntmps t1 a1) ∨
        (∃ D, (W.w0.heap.size ≤ D ∧ ∀ p ∈ W.kp, p.1 ≠ D) ∧ ∃ ρ1, Rel ν (W.keep ((D, .deferred (some [])) :: W.kp)) ρ1 h1 w1 ∧ Ext h ρ h1 ρ1 ∧ FrC [{ target := .collected D, args := #[] }] ν (slots (fn.params.size + fn.nfree) (useR fn.results.toList (useC3 c .lf))) ρ1 fn.ntmps t1 a1) →
        (e = Exit.normal ∨ e = Exit.ret) → bodyPostM Fence.wide 9 P fn (fun e w' => ∃ u, e = .returned u ∧ After ν W h ρ h' v u w') e a1 w1 := by
      rintro t1 h1 e a1 w1 hfin hcase hee
      have hgoal : LeavesInM Fence.wide 9 P fn a1.tmps (fun e w' => ∃ u, e = .returned u ∧ After ν W h ρ h' v u w') a1.defers .returning w1 := by
        rcases hcase with ⟨ρ1, R1', E1, F1⟩ | ⟨D, hDD, ρ1, R1', E1, F1⟩
        · obtain ⟨rfl, u, hres, hvr⟩ := fin_sound hT hrs R1' F1.toFrR hfin
          rw [F1.defers]
          exact ⟨u, hres, u, rfl, ρ1, R1', hvr, E1⟩
        · rw [F1.defers]
          have hD := R1'.kp _ (List.mem_cons_self ..)
          have R2 : Rel ν W ρ1 h1 (w1.putObj D (.deferred none)) := R1'.keep_put (ks := W.kp) hDD.1 hD.1 rfl (.deferred none) (fun p hp => .inl ⟨List.mem_cons_of_mem _ hp, hDD.2 p hp⟩)
          obtain ⟨rfl, u, hres, hvr⟩ := fin_sound hT hrs R2 F1.toFrR hfin
          exact ⟨by simp, .inl ⟨D, _, rfl, run_takeDeferred hD.1, u, hres, u, rfl, ρ1, R2, hvr, E1⟩⟩
      rcases hee with rfl | rfl <;> exact hgoal
    cases hx : FS3 en call 1000000 bk (trC3 tt fn.ntmps (slots (fn.params.size + fn.nfree) (useR fn.results.toList (useC3 c .lf))) c) (init' as BP.one en.gt) h with
    | bad n => rw [hx] at hv3; cases hv3
    | ex i t1 h1 => rw [hx] at hv3; cases hv3
    | nm t1 h1 =>
      rw [hx] at hv3
      refine wp_mono (fs3_sound hT he hmo hcall hm hB hnt c _ h _ ρ _ w hx (by simp) R F) (fun e a1 w1 hp => ?_)
      rcases hp with hp | ⟨D, hDD, hp⟩ <;> cases e <;> first | exact hp.elim | skip
      · exact key t1 h1 _ a1 w1 hv3 (.inl hp) (.inl rfl)
      · exact key t1 h1 _ a1 w1 hv3 (.inr ⟨D, hDD, hp⟩) (.inl rfl)
    | rt t1 h1 =>
      rw [hx] at hv3
      refine wp_mono (fs3_sound hT he hmo hcall hm hB hnt c _ h _ ρ _ w hx (by simp) R F) (fun e a1 w1 hp => ?_)
      rcases hp with hp | ⟨D, hDD, hp⟩ <;> cases e <;> first | exact hp.elim | skip
      · exact key t1 h1 _ a1 w1 hv3 (.inl hp) (.inr rfl)
      · exact key t1 h1 _ a1 w1 hv3 (.inr ⟨D, hDD, hp⟩) (.inr rfl)
end Ev
end Go.Proofs.Ytlajbngfdbnoiaa
