/- The start; all together. -/
import Derived.Test.YtlajbngfdbnoiaaEvI
namespace Go.Proofs.Ytlajbngfdbnoiaa
set_option linter.unusedSimpArgs false
set_option linter.unusedVariables false
set_option linter.constructorNameAsVariable false
open Go Go.RowKit
namespace Ev
variable {P : Program} {tt : TT} {ν : Nat → Int} {ρ : Pl} {a : Act} {en : En} {w : World} {o : Oper} {v : V} {t : Tr V}
theorem bpN_of {n : Nat} (h : n < 2 ^ 39) : bpN (bpOf n) = n + 1 := by unfold bpOf; exact bpOf'_N 40 _ (by omega) (by omega)
theorem ofL_far {α : Type} : ∀ (l : List (Option α)) (i : Nat) (t : Tr α) (n : Nat), i + l.length < 2 ^ 39 → 2 ^ 39 ≤ n → get (bpOf n) (ofL l i t) = get (bpOf n) t
  | [], i, t, n, _, _ => rfl
  | a :: l, i, t, n, h, hn => by
    simp only [List.length_cons] at h
    show get (bpOf n) (ofL l (i + 1) (Ev.set (bpOf i) a t)) = _
    rw [ofL_far l (i + 1) _ n (by omega) hn, get_set, if_neg]
    intro e
    have h1 := congrArg bpN e
    rw [bpN_of (n := i) (by omega)] at h1
    have := bpOf_big n
    omega
theorem ofL_some {α : Type} {l : List (Option α)} (hl : l.length < 2 ^ 39) {n : Nat} {x : α} (h : get (bpOf n) (ofL l 0 .lf) = some x) : l[n]? = some (some x) := by
  by_cases hn : n < 2 ^ 39
  · rw [ofL_get l 0 .lf n (by omega) hn, get_lf] at h
    split at h
    · simp only [Nat.sub_zero] at h
      cases e : l[n]? with
      | none => rw [e] at h; cases h
      | some y => rw [e] at h; exact congrArg some h
    · cases h
  · rw [ofL_far l 0 .lf n (by omega) (by omega), get_lf] at h; cases h
/-- Structs that may be compared cell by cell may be. -/
noncomputable def flatOk (P : Program) : Bool := (List.range P.types.size).all fun t => !(flatT (ttOf P) t) || (!(P.stoodInHeld t) && !(P.eqGuardType P.depth t))
theorem ttOf_info (h : P.types.size < 2 ^ 39) : ∀ t i, ti (ttOf P) t = some i → t < P.types.size ∧ P.info? t = some i := by
  intro t i hi
  have h1 := ofL_some (l := P.types.toList.map some) (by simpa using h) (show get (bpOf t) (ofL (P.types.toList.map some) 0 .lf) = some i from hi)
  rw [List.getElem?_map] at h1
  cases e : P.types.toList[t]? with
  | none => rw [e] at h1; cases h1
  | some y =>
    rw [e] at h1
    obtain rfl := Option.some.inj (Option.some.inj h1)
    rw [Array.getElem?_toList] at e
    have hlt : t < P.types.size := (Array.getElem?_eq_some_iff.1 e).1
    refine ⟨hlt, ?_⟩
    unfold Tables.info?
    rw [if_pos hlt]; exact e
theorem ttOf_ok (h : P.types.size < 2 ^ 39) (hf : flatOk P = true) : TTok P (ttOf P) := by
  refine ⟨fun t i hi => (ttOf_info h t i hi).2, fun t ht => ?_⟩
  have hlt : t < P.types.size := by
    cases e : ti (ttOf P) t with
    | none => unfold flatT und at ht; rw [e] at ht; cases ht
    | some i => exact (ttOf_info h t i e).1
  have := List.all_eq_true.1 hf t (List.mem_range.2 hlt)
  simp only [ht, Bool.not_true, Bool.false_or, Bool.and_eq_true, Bool.not_eq_true'] at this
  exact this
theorem fnsOf_ok (h : P.funcs.size < 2 ^ 39) {g : Nat} {cf : CF} (hg : get (bpOf g) (fnsOf P tt) = some cf) : ∃ fn, P.funcs[g]? = some fn ∧ trF tt fn = some cf := by
  have h1 := ofL_some (l := P.funcs.toList.map (trF tt)) (by simpa using h) hg
  rw [List.getElem?_map] at h1
  cases e : P.funcs.toList[g]? with
  | none => rw [e] at h1; cases h1
  | some y =>
    rw [e] at h1
    exact ⟨y, by rw [← Array.getElem?_toList]; exact e, Option.some.inj h1⟩
theorem mtsOf_ok (hT : TTok P tt) : MtsOk P (mtsOf tt) := by
  intro ty name g hg v w
  unfold mtsOf at hg
  split at hg
  · rename_i i hi
    split at hg
    · rename_i m hm
      have hi' := hT ty i hi
      have hm' : i.methods.find? (fun m => m.name == name) = some m := by rw [← Array.find?_toList]; exact hm
      have hd : ∃ k, P.types.size + Made.depth = k + 1 := ⟨P.types.size + Made.depth - 1, by unfold Made.depth; omega⟩
      obtain ⟨k, hk⟩ := hd
      rw [hk]
      split at hg
      · rename_i f e0 hp hf hu
        obtain rfl := Option.some.inj hg
        simp [method, typeInfo, hi', hm', hp, hf, follow, receiverAt, Place.get, run_underlying (und_ok hT hu)]
      · cases hg
      · rename_i f d hnp hp hf hu
        obtain rfl := Option.some.inj hg
        have hr : ∀ wr, (receiverAt ty (.val v) false wr).run P w = .ok v w := by
          intro wr
          unfold receiverAt
          simp only [Sem.run_bind, run_underlying (und_ok hT hu), Result.andThen_ok]
          cases d <;> first | (exfalso; exact hnp _ rfl) | simp [Place.get] | skip
        simp [method, typeInfo, hi', hm', hp, hf, follow, hr]
      · cases hg
    · cases hg
  · cases hg
-- the start
/-- how many cells a block has -/
def cellsIn (w : World) (b : Nat) : Nat := match w.heap[b]? with
  | some (.cells cs _ _) => cs.size
  | _ => 0
/-- where the listed variables lie -/
noncomputable def pl0 (w : World) (l : List Nat) : Pl := fun x => (l.find? (fun g => bpEq (bpOf g) x)).map (fun g => (g, 0, cellsIn w g))
theorem pl0_some {l : List Nat} {x : BP} {b c n : Nat} (h : pl0 w l x = some (b, c, n)) : b ∈ l ∧ x = bpOf b ∧ c = 0 ∧ n = cellsIn w b := by
  unfold pl0 at h
  cases e : l.find? (fun g => bpEq (bpOf g) x) with
  | none => rw [e] at h; cases h
  | some g =>
    rw [e] at h
    have h1 := List.find?_some e
    have h2 := List.mem_of_find?_eq_some e
    simp only [Option.map_some, Option.some.injEq, Prod.mk.injEq] at h
    obtain ⟨rfl, rfl, rfl⟩ := h
    exact ⟨h2, ((bpEq_iff _ _).1 h1).symm, rfl, rfl⟩
theorem pl0_mem {l : List Nat} (hl : ∀ g ∈ l, g < 1000) {g : Nat} (hg : g ∈ l) : pl0 w l (bpOf g) = some (g, 0, cellsIn w g) := by
  unfold pl0
  cases e : l.find? (fun g' => bpEq (bpOf g') (bpOf g)) with
  | none => have := List.find?_eq_none.1 e g hg; rw [(bpEq_iff _ _).2 rfl] at this; exact absurd rfl this
  | some g' =>
    have h1' := List.find?_some (p := fun g' => bpEq (bpOf g') (bpOf g)) e
    have h1 := (bpEq_iff _ _).1 h1'
    have h2 := List.mem_of_find?_eq_some e
    have := bpOf_inj (by have := hl _ h2; omega) (by have := hl _ hg; omega) h1
    subst this; rfl
theorem H0_obj : ∀ (l : List (Nat × List V)) {x : BP} {o : O}, get x (l.foldr (fun p t => set (bpOf p.1) (some (O.c p.2 none false)) t) .lf) = some o → ∃ p ∈ l, x = bpOf p.1 ∧ o = .c p.2 none false
  | [], x, o, h => by rw [List.foldr_nil, get_lf] at h; cases h
  | p :: l, x, o, h => by
    rw [List.foldr_cons, get_set] at h
    split at h
    · rename_i e; exact ⟨p, List.mem_cons_self .., e, (Option.some.inj h).symm⟩
    · obtain ⟨q, h1, h2⟩ := H0_obj l h; exact ⟨q, List.mem_cons_of_mem _ h1, h2⟩
/-- A listed variable holds what is listed. -/
def Listed (ν : Nat → Int) (ρ : Pl) (w : World) (p : Nat × List V) : Prop := ∃ cs e fz, w.heap[p.1]? = some (.cells cs e fz) ∧ (∀ i, i < cs.size → ¬ (fz.1 ≤ i ∧ i < fz.2)) ∧ VRs ν ρ p.2 cs.toList
theorem rel_start {l : List (Nat × List V)} (hl : ∀ p ∈ l, p.1 < 1000 ∧ Listed ν (pl0 w (l.map (·.1))) w p) : Rel ν (Bas.of w (pl0 w (l.map (·.1)))) (pl0 w (l.map (·.1))) (H0 l) w := by
  have hob : ∀ {x : BP} {o : O}, obj (H0 l) x = some o → ∃ p ∈ l, x = bpOf p.1 ∧ o = .c p.2 none false := fun h => H0_obj l h
  have hlt : ∀ g ∈ l.map (·.1), g < 1000 := fun g hg => by obtain ⟨p, h1, rfl⟩ := List.mem_map.1 hg; exact (hl p h1).1
  have hnx : bpN (nx (H0 l)) = 1001 := by show bpN (bpOf 1000) = 1001; exact bpN_of (by omega)
  refine ⟨Below.refl _ _, ?_, ?_, ?_, ?_, ?_, ?_, ?_, Pl.le_refl _, fun p hp => by cases hp⟩
  · intro x o ho b c n hx
    obtain ⟨p, hp, rfl, rfl⟩ := hob ho
    obtain ⟨h1, h2, rfl, rfl⟩ := pl0_some hx
    have hpb : p.1 = b := bpOf_inj (by have := (hl p hp).1; omega) (by have := hlt b h1; omega) h2
    subst hpb
    obtain ⟨_, cs, e, fz, hc, hf, hv⟩ := hl p hp
    have hci : cellsIn w p.1 = cs.size := by unfold cellsIn; rw [hc]
    refine ⟨cs, e, fz, hc, by rw [hci]; omega, hf, by rw [hci]; have := hv.length; simp at this; omega, fun i v hi => ?_⟩
    obtain ⟨u, hu, hr⟩ := hv.get hi
    exact ⟨u, by rw [Nat.zero_add, ← Array.getElem?_toList]; exact hu, hr⟩
  · intro x b c n hx
    obtain ⟨h1, rfl, rfl, rfl⟩ := pl0_some hx
    obtain ⟨p, hp, rfl⟩ := List.mem_map.1 h1
    obtain ⟨hp1, cs, e, fz, hc, _⟩ := hl p hp
    refine ⟨(Array.getElem?_eq_some_iff.1 hc).1, ?_⟩
    rw [hnx, bpN_of (by omega)]; omega
  · intro x o ho
    obtain ⟨p, hp, rfl, rfl⟩ := hob ho
    have := (hl p hp).1
    rw [hnx, bpN_of (by omega)]; omega
  · intro x o ho hw
    obtain ⟨p, hp, rfl, rfl⟩ := hob ho
    cases hw
  · intro x y ox oy hx hy hne b c n c' n' h1 h2
    obtain ⟨_, e1, _⟩ := pl0_some h1
    obtain ⟨_, e2, _⟩ := pl0_some h2
    exact absurd (e1.trans e2.symm) hne
  · intro x o y ho hp
    obtain ⟨p, _, rfl, rfl⟩ := hob ho
    cases hp
  · intro x o y ho hp
    obtain ⟨p, _, rfl, rfl⟩ := hob ho
    cases hp
theorem gt_get : ∀ (l : List Nat) {x : BP} {v : V}, get x (l.foldr (fun g t => set (bpOf (100000 + g)) (some (V.p (bpOf g) 0)) t) .lf) = some v → ∃ g ∈ l, x = bpOf (100000 + g) ∧ v = .p (bpOf g) 0
  | [], x, o, h => by rw [List.foldr_nil, get_lf] at h; cases h
  | p :: l, x, o, h => by
    rw [List.foldr_cons, get_set] at h
    split at h
    · rename_i e; exact ⟨p, List.mem_cons_self .., e, (Option.some.inj h).symm⟩
    · obtain ⟨q, h1, h2⟩ := gt_get l h; exact ⟨q, List.mem_cons_of_mem _ h1, h2⟩
theorem gt_ok {l : List Nat} (hl : ∀ g ∈ l, g < 1000) {path : List (Cd × Bool)} {norm : List (Z × Int)} {ov : Nat → List V → H → Option R1} : GtOk ν (Bas.of w (pl0 w l)) (enOf P path norm ov l).gt := by
  refine ⟨fun n hn => ?_, fun g v hv => ?_⟩
  · cases e : get (bpOf n) (enOf P path norm ov l).gt with
    | none => rfl
    | some v =>
      obtain ⟨g, hg, h1, _⟩ := gt_get l e
      have := bpOf_inj (by omega) (by have := hl g hg; omega) h1
      omega
  · obtain ⟨g', hg, h1, rfl⟩ := gt_get l hv
    have hg' := hl g' hg
    have hgg : g = g' := by
      by_cases hb : g < 1000000
      · have := bpOf_inj (by omega) (by omega) h1; omega
      · have h2 := congrArg bpN h1
        rw [bpN_of (n := 100000 + g') (by omega)] at h2
        have := bpOf_big (100000 + g)
        omega
    subst hgg
    simp only [VR]
    exact ⟨g, 0, cellsIn w g, pl0_mem hl hg, rfl⟩
/-- **The evaluator tells the truth.** -/
theorem eval_calls (hsz : (Nat.ble P.types.size 100000 && Nat.ble P.funcs.size 100000) = true) (hfo : flatOk P = true) (hmo : P.follows .mixedOrders = true) {path : List (Cd × Bool)} {norm : List (Z × Int)} (hp : PathOk ν path) (hn : NormOk ν norm) {l : List (Nat × List V)} {ov : Nat → List V → H → Option R1}
    (hl : ∀ p ∈ l, p.1 < 1000 ∧ Listed ν (pl0 w (l.map (·.1))) w p) (hov : OvOk P ν (Bas.of w (pl0 w (l.map (·.1)))) (enOf P path norm ov (l.map (·.1)))) {f g : Nat} {as : List V} {v : V} {h' : H} (hv : Ev.call (enOf P path norm ov (l.map (·.1))) f g as (H0 l) = .ok v h') {args : List Value} (ha : VRs ν (pl0 w (l.map (·.1))) as args) :
    Calls P g args.toArray w (fun e w' => ∃ u, e = .returned u ∧ ∃ ρ', Rel ν (Bas.of w (pl0 w (l.map (·.1)))) ρ' h' w' ∧ VR ν ρ' v u) := by
  simp only [Bool.and_eq_true] at hsz
  have h1 := Nat.le_of_ble_eq_true hsz.1
  have h2 := Nat.le_of_ble_eq_true hsz.2
  have hlt : ∀ g ∈ l.map (·.1), g < 1000 := fun g hg => by obtain ⟨p, k1, rfl⟩ := List.mem_map.1 hg; exact (hl p k1).1
  have hT : TTok P (ttOf P) := ttOf_ok (by omega) hfo
  have := call_sound (P := P) (tt := ttOf P) (ν := ν) (en := enOf P path norm ov (l.map (fun x : Nat × List V => x.1))) (W := (Bas.of w (pl0 w (l.map (fun x : Nat × List V => x.1))))) hT ⟨hp, hn⟩ hmo (mtsOf_ok hT) (fun g cf hg => fnsOf_ok (by omega) hg) (gt_ok hlt) hov f g as (H0 l) v h' hv
  refine Calls.mono (this.2 _ args w (rel_start hl) ha) (fun e w' he => ?_)
  obtain ⟨u, hu, ρ', hR, hvr, _⟩ := he
  exact ⟨u, hu, ρ', hR, hvr⟩
/-- what comes out -/
noncomputable def okv (r : R1) : Option V := R1.rec (fun _ => none) (fun v _ => some v) r
theorem okv_some {r : R1} {v : V} (h : okv r = some v) : ∃ h', r = .ok v h' := by
  cases r with
  | bad n => cases h
  | ok u h' => obtain rfl := Option.some.inj (show some u = some v from h); exact ⟨h', rfl⟩
theorem noOv_ok {W : Bas} {path : List (Cd × Bool)} {norm : List (Z × Int)} {gl : List Nat} : OvOk P ν W (enOf P path norm noOv gl) := fun _ _ _ _ _ e => by cases e
/-- It answers true. -/
theorem eval_true (hsz : (Nat.ble P.types.size 100000 && Nat.ble P.funcs.size 100000) = true) (hfo : flatOk P = true) (hmo : P.follows .mixedOrders = true) {path : List (Cd × Bool)} {norm : List (Z × Int)} (hp : PathOk ν path) (hn : NormOk ν norm) {l : List (Nat × List V)}
    (hl : ∀ p ∈ l, p.1 < 1000 ∧ Listed ν (pl0 w (l.map (·.1))) w p) {f g : Nat} {vs : List V} (hv : okv (Ev.call (enOf P path norm noOv (l.map (·.1))) f g vs (H0 l)) = some (.b true)) {args : List Value} (ha : VRs ν (pl0 w (l.map (·.1))) vs args) :
    Calls P g args.toArray w (fun e w' => e = .returned (.bool true) ∧ Below w.heap.size w w') := by
  obtain ⟨h', hv⟩ := okv_some hv
  refine Calls.mono (eval_calls hsz hfo hmo hp hn hl noOv_ok hv ha) (fun e w' he => ?_)
  obtain ⟨u, hu, ρ', hR, hvr⟩ := he
  simp only [VR] at hvr
  exact ⟨by rw [hu, hvr], hR.below⟩
end Ev
end Go.Proofs.Ytlajbngfdbnoiaa
