/- Functions of all three kinds: plain ones, those that range over slices.Backward, those that defer a 'delete'. -/
import Derived.Test.YtlajbngfdbnoiaaEvZe
namespace Go.Proofs.Ytlajbngfdbnoiaa
set_option linter.unusedSimpArgs false
set_option linter.unusedVariables false
set_option linter.constructorNameAsVariable false
open Go Go.RowKit
namespace Ev
noncomputable section
/-- The functions' codes: plain, ranging, deferring; and who is slices.Backward's iterator. -/
structure Fns where
  f3 : Tr CF3
  f4 : Tr CF4
  bk : Nat
def gcall1 (fs : Fns) (en : En) (call : Cl) (g : Nat) (as : List V) (h : H) : R1 := ovOr (en.ov g as h) (ocase (get (bpOf g) fs.f3) (ocase (get (bpOf g) fs.f4)
  (ocase (get (bpOf g) en.fns) (R1.bad (1000 + g)) (fun cf => runFF (ffOf cf) en call as h)) (fun cf => run4 cf en call as h)) (fun cf => run3 cf en call fs.bk as h))
def gcall (fs : Fns) (en : En) : Nat → Cl := Nat.rec (fun _ _ _ => R1.bad 88) (fun _ ih => gcall1 fs en ih)
def fnTa {α : Type} (l : List (Nat × α)) : Tr α := List.rec (motive := fun _ => Tr α) .lf (fun p _ ih => set (bpOf p.1) (some p.2) ih) l
end
variable {P : Program} {tt : TT} {ν : Nat → Int} {W : Bas} {en : En} {fs : Fns}
/-- Each is what its function is translated to. -/
def FnsOk {α : Type} (P : Program) (tr : Func → Option α) (t : Tr α) : Prop := ∀ g cf, get (bpOf g) t = some cf → ∃ fn, P.funcs[g]? = some fn ∧ tr fn = some cf
theorem gcall1_ok (hT : TTok P tt) (he : EnOk ν en) (hmo : P.follows .mixedOrders = true) (hm : MtsOk P en.mts) (hfn : FnsOk P (trF tt) en.fns) (h3 : FnsOk P (trF3 tt) fs.f3) (h4 : FnsOk P (trF4 tt) fs.f4) (hB : BackIt P fs.bk) (hgt : GtOk ν W en.gt) (hov : OvOk P ν W en) {call : Cl} (hcall : CallOk P ν W call) : CallOk P ν W (gcall1 fs en call) := by
  intro g as h v h' hv
  have hv' : ocase (en.ov g as h) (ocase (get (bpOf g) fs.f3) (ocase (get (bpOf g) fs.f4)
    (ocase (get (bpOf g) en.fns) (R1.bad (1000 + g)) (fun cf => runFF (ffOf cf) en call as h)) (fun cf => run4 cf en call as h)) (fun cf => run3 cf en call fs.bk as h)) (fun r => r) = R1.ok v h' := hv
  cases ho : en.ov g as h with
  | some r =>
    rw [ho] at hv'
    exact hov g as h v h' (by rw [ho]; exact congrArg some hv')
  | none =>
    rw [ho] at hv'
    have hv1 : ocase (get (bpOf g) fs.f3) (ocase (get (bpOf g) fs.f4) (ocase (get (bpOf g) en.fns) (R1.bad (1000 + g)) (fun cf => runFF (ffOf cf) en call as h)) (fun cf => run4 cf en call as h)) (fun cf => run3 cf en call fs.bk as h) = R1.ok v h' := hv'
    cases e1 : get (bpOf g) fs.f3 with
    | some cf =>
      rw [e1] at hv1
      obtain ⟨fn, hf, htf⟩ := h3 g cf e1
      exact func3_run hT he hmo hcall hm hB hgt hf htf hv1
    | none =>
      rw [e1] at hv1
      have hv2 : ocase (get (bpOf g) fs.f4) (ocase (get (bpOf g) en.fns) (R1.bad (1000 + g)) (fun cf => runFF (ffOf cf) en call as h)) (fun cf => run4 cf en call as h) = R1.ok v h' := hv1
      cases e2 : get (bpOf g) fs.f4 with
      | some cf =>
        rw [e2] at hv2
        obtain ⟨fn, hf, htf⟩ := h4 g cf e2
        exact func4_run hT he hmo hcall hm hgt hf htf hv2
      | none =>
        rw [e2] at hv2
        obtain ⟨cf, e3, hv3⟩ := ocase_ne (show ocase (get (bpOf g) en.fns) (R1.bad (1000 + g)) (fun cf => runFF (ffOf cf) en call as h) = R1.ok v h' from hv2) (by simp)
        obtain ⟨fn, hf, htf⟩ := hfn g cf e3
        exact func_run hT hgt (run_fs hT he hmo hm hcall) hf htf (runFF_le cf en call as h v h' hv3)
theorem gcall_ok (hT : TTok P tt) (he : EnOk ν en) (hmo : P.follows .mixedOrders = true) (hm : MtsOk P en.mts) (hfn : FnsOk P (trF tt) en.fns) (h3 : FnsOk P (trF3 tt) fs.f3) (h4 : FnsOk P (trF4 tt) fs.f4) (hB : BackIt P fs.bk) (hgt : GtOk ν W en.gt) (hov : OvOk P ν W en) : ∀ d, CallOk P ν W (gcall fs en d)
  | 0 => fun _ _ _ _ _ hv => by cases hv
  | d + 1 => gcall1_ok hT he hmo hm hfn h3 h4 hB hgt hov (gcall_ok hT he hmo hm hfn h3 h4 hB hgt hov d)
theorem fnTa_get {α : Type} : ∀ (l : List (Nat × α)) {x : BP} {cf : α}, get x (fnTa l) = some cf → ∃ p ∈ l, x = bpOf p.1 ∧ cf = p.2
  | [], x, cf, h => by rw [show fnTa [] = Tr.lf (α := α) from rfl, get_lf] at h; cases h
  | p :: l, x, cf, h => by
    rw [show fnTa (p :: l) = Ev.set (bpOf p.1) (some p.2) (fnTa l) from rfl, get_set] at h
    split at h
    · rename_i e; exact ⟨p, List.mem_cons_self .., e, (Option.some.inj h).symm⟩
    · obtain ⟨q, h1, h2⟩ := fnTa_get l h; exact ⟨q, List.mem_cons_of_mem _ h1, h2⟩
theorem fnTa_ok {α : Type} {tr : Func → Option α} {l : List (Nat × α)} (h : ∀ p ∈ l, p.1 < 100000 ∧ ∃ fn, P.funcs[p.1]? = some fn ∧ tr fn = some p.2) : FnsOk P tr (fnTa l) := by
  intro g cf hg
  obtain ⟨p, hp, h1, rfl⟩ := fnTa_get l hg
  obtain ⟨hlt, fn, h2, h3⟩ := h p hp
  have hgp : g = p.1 := by
    by_cases hb : g < 1000000
    · exact bpOf_inj (by omega) (by omega) h1
    · have e := congrArg bpN h1
      rw [bpN_of (n := p.1) (by omega)] at e
      have := bpOf_big g
      omega
  subst hgp
  exact ⟨fn, h2, h3⟩
/-- the environment out of its parts -/
noncomputable def enT (path : List (Cd × Bool)) (norm : List (Z × Int)) (fns : Tr CF) (ov : Nat → List V → H → Option R1) (mts : Nat → String → Option Nat) (gl : List Nat) : En := ⟨path, norm, fns, ov, mts, gl.foldr (fun g t => set (bpOf (100000 + g)) (some (.p (bpOf g) 0)) t) .lf⟩
/-- **The evaluator tells the truth**, by functions of all three kinds. -/
theorem evalg_calls {w : World} (hsz : (Nat.ble P.types.size 100000 && Nat.ble P.funcs.size 100000) = true) (hfo : flatOk P = true) (hmo : P.follows .mixedOrders = true) {path : List (Cd × Bool)} {norm : List (Z × Int)} (hp : PathOk ν path) (hn : NormOk ν norm) {l : List (Nat × List V)} {ov : Nat → List V → H → Option R1} {fns : Tr CF} {mts : Nat → String → Option Nat}
    (hfn : FnsOk P (trF (ttOf P)) fns) (h3 : FnsOk P (trF3 (ttOf P)) fs.f3) (h4 : FnsOk P (trF4 (ttOf P)) fs.f4) (hB : BackIt P fs.bk) (hm : MtsOk P mts) (hl : ∀ p ∈ l, p.1 < 1000 ∧ Listed ν (pl0 w (l.map (·.1))) w p) (hov : OvOk P ν (Bas.of w (pl0 w (l.map (·.1)))) (enT path norm fns ov mts (l.map (·.1)))) {d g : Nat} {as : List V} {v : V} {h' : H} (hv : gcall fs (enT path norm fns ov mts (l.map (·.1))) d g as (H0 l) = .ok v h') {args : List Value} (ha : VRs ν (pl0 w (l.map (·.1))) as args) :
    Calls P g args.toArray w (fun e w' => ∃ u, e = .returned u ∧ ∃ ρ', Rel ν (Bas.of w (pl0 w (l.map (·.1)))) ρ' h' w' ∧ VR ν ρ' v u) := by
  simp only [Bool.and_eq_true] at hsz
  have h1 := Nat.le_of_ble_eq_true hsz.1
  have h2 := Nat.le_of_ble_eq_true hsz.2
  have hlt : ∀ g ∈ l.map (·.1), g < 1000 := fun g hg => by obtain ⟨p, k1, rfl⟩ := List.mem_map.1 hg; exact (hl p k1).1
  have hT : TTok P (ttOf P) := ttOf_ok (by omega) hfo
  have := gcall_ok (P := P) (tt := ttOf P) (ν := ν) (fs := fs) (en := enT path norm fns ov mts (l.map (fun x : Nat × List V => x.1))) (W := (Bas.of w (pl0 w (l.map (fun x : Nat × List V => x.1))))) hT ⟨hp, hn⟩ hmo hm hfn h3 h4 hB (gt_ok (P := P) (path := path) (norm := norm) (ov := ov) hlt) hov d g as (H0 l) v h' hv
  refine Calls.mono (this.2 _ args w (rel_start hl) ha) (fun e w' he => ?_)
  obtain ⟨u, hu, ρ', hR, hvr, _⟩ := he
  exact ⟨u, hu, ρ', hR, hvr⟩
theorem noOvT_ok {W : Bas} {path : List (Cd × Bool)} {norm : List (Z × Int)} {fns : Tr CF} {mts : Nat → String → Option Nat} {gl : List Nat} : OvOk P ν W (enT path norm fns noOv mts gl) := fun _ _ _ _ _ e => by cases e
/-- It answers true. -/
theorem evalg_true {w : World} (hsz : (Nat.ble P.types.size 100000 && Nat.ble P.funcs.size 100000) = true) (hfo : flatOk P = true) (hmo : P.follows .mixedOrders = true) {path : List (Cd × Bool)} {norm : List (Z × Int)} (hp : PathOk ν path) (hn : NormOk ν norm) {l : List (Nat × List V)} {fns : Tr CF} {mts : Nat → String → Option Nat}
    (hfn : FnsOk P (trF (ttOf P)) fns) (h3 : FnsOk P (trF3 (ttOf P)) fs.f3) (h4 : FnsOk P (trF4 (ttOf P)) fs.f4) (hB : BackIt P fs.bk) (hm : MtsOk P mts) (hl : ∀ p ∈ l, p.1 < 1000 ∧ Listed ν (pl0 w (l.map (·.1))) w p) {d g : Nat} {as : List V} (hv : okv (gcall fs (enT path norm fns noOv mts (l.map (·.1))) d g as (H0 l)) = some (.b true)) {args : List Value} (ha : VRs ν (pl0 w (l.map (·.1))) as args) :
    Calls P g args.toArray w (fun e w' => e = .returned (.bool true) ∧ Below w.heap.size w w') := by
  obtain ⟨h', hv⟩ := okv_some hv
  refine Calls.mono (evalg_calls hsz hfo hmo hp hn hfn h3 h4 hB hm hl noOvT_ok hv ha) (fun e w' he => ?_)
  obtain ⟨u, hu, ρ', hR, hvr⟩ := he
  simp only [VR] at hvr
  exact ⟨by rw [hu, hvr], hR.below⟩
/-- A code, as its function is translated. -/
theorem code_of {α : Type} {tr : Func → Option α} {g : Nat} {c : α} (hg : Nat.blt g 100000 = true) (h : (P.funcs[g]?).bind tr = some c) : ∀ p ∈ [(g, c)], p.1 < 100000 ∧ ∃ fn, P.funcs[p.1]? = some fn ∧ tr fn = some p.2 := by
  intro p hp
  obtain rfl := List.mem_singleton.1 hp
  cases e : P.funcs[g]? with
  | none => rw [e] at h; cases h
  | some fn => exact ⟨blt_iff.1 hg, fn, rfl, by rw [e] at h; exact h⟩
theorem codes_cons {α : Type} {tr : Func → Option α} {g : Nat} {c : α} {l : List (Nat × α)} (hg : Nat.blt g 100000 = true) (h : (P.funcs[g]?).bind tr = some c) (k : ∀ p ∈ l, p.1 < 100000 ∧ ∃ fn, P.funcs[p.1]? = some fn ∧ tr fn = some p.2) : ∀ p ∈ (g, c) :: l, p.1 < 100000 ∧ ∃ fn, P.funcs[p.1]? = some fn ∧ tr fn = some p.2 := by
  intro p hp
  rcases List.mem_cons.1 hp with rfl | hp
  · exact code_of hg h _ (List.mem_singleton.2 rfl)
  · exact k p hp
theorem noMts_ok : MtsOk P (fun _ _ => none) := by
  intro t n f h; cases h
end Ev
end Go.Proofs.Ytlajbngfdbnoiaa
