/- Functions that defer one 'delete'. -/
import Derived.Test.YtlajbngfdbnoiaaEvZd
import Derived.Defers
namespace Go.Proofs.Ytlajbngfdbnoiaa
set_option linter.unusedSimpArgs false
set_option linter.unusedVariables false
set_option linter.constructorNameAsVariable false
open Go Go.RowKit
namespace Ev
section
variable {P : Program}
theorem step_del {fr : Frame} {cs : List Frame} {w w' : World} {d : Deferred} {ds : List Deferred} {b : Builtin} {ts : Array TypeId} {ty : TypeId} {cn : Array Bool} {u : Value}
    (hm : fr.mode = .returning) (hd : fr.defers = d :: ds) (ht : d.target = .builtin b ts ty cn) (hi : (invoke d.target d.args).run P w = .ok (.value u) w') :
    Go.step P (lone fr cs w) = .next (lone { fr with defers := ds } cs w') := by
  obtain ⟨t, a⟩ := d
  simp only at ht hi
  subst ht
  refine step_lone_go ?_
  simp [stepG, unwind, callDeferred, hm, hd, hi, Sem.runT_eq, GStep.bare_after]
/-- How a body may end that may have deferred one builtin. -/
def DelPost (P : Program) (fn : Func) (R : Value → World → Prop) (e : Exit) (a : Act) (w : World) : Prop := (e = .normal ∨ e = .ret) ∧
  ((a.defers = [] ∧ ∃ v, (results fn a.tmps).run P w = .ok v w ∧ R v w) ∨
   ∃ d b ts ty cn u w', a.defers = [d] ∧ d.target = .builtin b ts ty cn ∧ (invoke d.target d.args).run P w = .ok (.value u) w' ∧ ∃ v, (results fn a.tmps).run P w' = .ok v w' ∧ R v w')
theorem calls_of_wp_del {f : FuncId} {fn : Func} {c : Code} {args : Array Value} {w : World} {R : Value → World → Prop} (hf : P.funcs[f]? = some fn) (hb : fn.body = some c)
    (h : c.wp P (DelPost P fn R) { tmps := args ++ Array.replicate (fn.ntmps - args.size) undef, defers := [] } w) : Calls P f args w (fun e w' => ∃ v, e = .returned v ∧ R v w') := by
  intro cs
  let b : Frame := { (default : Frame) with fn := f, kind := .normal }
  have henter : Frame.enter P f args .normal =
      b.at { tmps := args ++ Array.replicate (fn.ntmps - args.size) undef, defers := [] } [.code c] := by
    simp [Frame.enter, Frame.at, hf, hb, b]
  obtain ⟨e, a', w', hq, harr⟩ := h b [] cs
  rw [← henter] at harr
  obtain ⟨he, hq⟩ := hq
  have key : ∀ (fr : Frame) (m : Machine), Steps P m (lone fr cs w') → fr.mode = .returning → fr.defers = a'.defers → fr.tmps = a'.tmps → fr.fn = f → fr.kind = .normal →
      ∃ e w'' fr', (∃ v, e = .returned v ∧ R v w'') ∧ Comes P m (lone fr' cs w'') e ∧ fr'.fn = f ∧ fr'.leaving P w'' e := by
    intro fr m hs h1 h2 h3 h4 h5
    rcases hq with ⟨hd, v, hr, hR⟩ | ⟨d, bb, ts, ty, cn, u, w2, hd, ht, hi, v, hr, hR⟩
    · exact ⟨.returned v, w', fr, ⟨v, rfl, hR⟩, Comes.of_steps hs (Steps.refl P _), h4, h1, h2.trans hd, h5, fn, by rw [h4]; exact hf, h3 ▸ hr⟩
    · exact ⟨.returned v, w2, { fr with defers := [] }, ⟨v, rfl, hR⟩, Comes.of_steps (Steps.trans hs (.one (step_del h1 (h2.trans hd) ht hi))) (Steps.refl P _), h4, h1, rfl, h5, fn, by show P.funcs[fr.fn]? = _; rw [h4]; exact hf, by show (results fn fr.tmps).run P w2 = _; rw [h3]; exact hr⟩
  cases e with
  | normal => exact key { b.at a' [] with mode := .returning } _ (Steps.trans harr (.one step_end)) rfl rfl rfl rfl rfl
  | ret => obtain ⟨todo, hs₀⟩ := harr; exact key { b.at a' todo with mode := .returning } _ hs₀ rfl rfl rfl rfl rfl
  | _ => exact absurd he (by simp)
-- a region's last operation, which waits for all others
/-- Edges go back; no guards; each but the last is waited for by a later one. -/
def lastOk (ops : List Oper) : Bool := ((List.range ops.length).all fun j => match ops[j]? with | some o => o.guard.isNone && (edgesOf o).all fun k => Nat.blt k j | none => true) &&
  (List.range (ops.length - 1)).all fun i => (List.range ops.length).any fun j => match ops[j]? with | some o => (edgesOf o).any (Nat.beq i) | none => false
def QLast (P : Program) (ops : Array Oper) (Q : Exit → Act → World → Prop) (n : Nat) : Exit → Act → World → Prop := fun e a w => match e with
  | .normal => wpOp P ops Q n (fun a w => Q .normal a w) a w
  | e => Q e a w
theorem wp_other {ops : Array Oper} {Q : Exit → Act → World → Prop} {n : Nat} {o : Oper} {a : Act} {w : World} {K : Act → World → Prop} (h : o.wp P a w K (QLast P ops Q n)) : o.wp P a w K Q := by
  unfold Oper.wp at *
  generalize (execOp a.eval o).run P w = r at *
  cases r with
  | ok x w' => cases x <;> exact h
  | halt x w' => cases x <;> exact h
theorem edges_iff {o : Oper} {k : Nat} : k ∈ edgesOf o ↔ ∃ e ∈ o.after, Region.binds .any e = true ∧ e.on = k := by
  unfold edgesOf
  constructor
  · intro h
    obtain ⟨e, he, rfl⟩ := List.mem_map.1 h
    obtain ⟨h1, h2⟩ := List.mem_filter.1 he
    exact ⟨e, by simpa using h1, h2, rfl⟩
  · rintro ⟨e, h1, h2, rfl⟩
    exact List.mem_map.2 ⟨e, List.mem_filter.2 ⟨by simpa using h1, h2⟩, rfl⟩
section
variable {ops : Array Oper} {o : Oper} {Q : Exit → Act → World → Prop}
theorem push_get {i : Nat} : (ops.push o)[i]? = if i = ops.size then some o else ops[i]? := Array.getElem?_push
theorem lastOk_e1 (hl : lastOk (ops.push o).toList = true) {j : Nat} {oj : Oper} (hj : (ops.push o)[j]? = some oj) : oj.guard = none ∧ ∀ k ∈ edgesOf oj, k < j := by
  obtain ⟨h1, _⟩ := Bool.and_eq_true_iff.1 hl
  have hlt : j < (ops.push o).size := (Array.getElem?_eq_some_iff.1 hj).1
  have h2 := List.all_eq_true.1 h1 j (List.mem_range.2 (by simpa using hlt))
  rw [Array.getElem?_toList, hj] at h2
  obtain ⟨h3, h4⟩ := Bool.and_eq_true_iff.1 h2
  exact ⟨Option.isNone_iff_eq_none.1 h3, fun k hk => blt_iff.1 (List.all_eq_true.1 h4 k hk)⟩
theorem lastOk_e2 (hl : lastOk (ops.push o).toList = true) {i : Nat} (hi : i < ops.size) : ∃ (j : Nat) (oj : Oper), (ops.push o)[j]? = some oj ∧ i ∈ edgesOf oj := by
  obtain ⟨_, h1⟩ := Bool.and_eq_true_iff.1 hl
  have h2 := List.all_eq_true.1 h1 i (List.mem_range.2 (by simpa using hi))
  obtain ⟨j, _, h3⟩ := List.any_eq_true.1 h2
  rw [Array.getElem?_toList] at h3
  cases hj : (ops.push o)[j]? with
  | none => rw [hj] at h3; cases h3
  | some oj =>
    rw [hj] at h3
    obtain ⟨k, hk, e⟩ := List.any_eq_true.1 h3
    exact ⟨j, oj, hj, by rw [Nat.eq_of_beq_eq_true e]; exact hk⟩
def Closed (ops : Array Oper) (listed : Array Bool) : Prop := ∀ j oj, ops[j]? = some oj → listed.getD j false = true → ∀ k ∈ edgesOf oj, listed.getD k false = true
theorem getD_tf {listed : Array Bool} {i : Nat} (h : i < listed.size) : listed.getD i true = listed.getD i false := by
  simp [Array.getD, h]
theorem getD_push {listed : Array Bool} {i : Nat} {d : Bool} (h : i < listed.size) : (listed.push false).getD i d = listed.getD i d := by
  simp only [Array.getD_eq_getD_getElem?, Array.getElem?_push]
  rw [if_neg (by omega)]
theorem all_of_ready (hl : lastOk (ops.push o).toList = true) {listed : Array Bool} (hs : listed.size = ops.size) (hr : Region.ready .any ops listed = []) : ∀ i, i < ops.size → listed.getD i false = true := by
  intro i
  induction i using Nat.strongRecOn with
  | _ i ih =>
    intro hi
    cases hb : listed.getD i false with
    | true => rfl
    | false =>
      exfalso
      have : i ∈ Region.ready .any ops listed := by
        refine mem_ready.2 ⟨by rw [getD_tf (by omega)]; exact hb, ops[i], Array.getElem?_eq_getElem hi, fun e he hbi => ?_⟩
        have hlt := (lastOk_e1 hl (j := i) (oj := ops[i]) (by rw [push_get, if_neg (by omega)]; exact Array.getElem?_eq_getElem hi)).2 e.on (edges_iff.2 ⟨e, he, hbi, rfl⟩)
        exact ih e.on hlt (by omega)
      rw [hr] at this; cases this
theorem all_of_last (hl : lastOk (ops.push o).toList = true) {listed : Array Bool} (hs : listed.size = ops.size) (hc : Closed ops listed) (ho : ∀ k ∈ edgesOf o, listed.getD k false = true) : ∀ m i, i + m = ops.size → i < ops.size → listed.getD i false = true := by
  intro m
  induction m using Nat.strongRecOn with
  | _ m ih =>
    intro i him hi
    obtain ⟨j, oj, hj, hij⟩ := lastOk_e2 hl hi
    have hlt := (lastOk_e1 hl hj).2 i hij
    rw [push_get] at hj
    split at hj
    · obtain rfl := Option.some.inj hj; exact ho i hij
    · have hjs := (Array.getElem?_eq_some_iff.1 hj).1
      exact hc j oj hj (ih (ops.size - j) (by omega) j (by omega) hjs) i hij
theorem any_last {P : Program} (hl : lastOk (ops.push o).toList = true) : ∀ (f : Nat) (listed : Array Bool) (a : Act) (w : World), listed.size = ops.size → Closed ops listed →
    wpAny P .any ops (QLast P (ops.push o) Q ops.size) f listed a w → wpAny P .any (ops.push o) Q (f + 1) (listed.push false) a w := by
  -- where all but the last are listed
  have fin : ∀ (f : Nat) (listed : Array Bool) (a : Act) (w : World), listed.size = ops.size → (∀ i, i < ops.size → listed.getD i false = true) → wpOp P (ops.push o) Q ops.size (fun a w => Q .normal a w) a w → wpAny P .any (ops.push o) Q (f + 1) (listed.push false) a w := by
    intro f listed a w hs hall hq
    have hmem : ∀ i, i ∈ Region.ready .any (ops.push o) (listed.push false) → i = ops.size := by
      intro i hi
      obtain ⟨h1, oi, h2, _⟩ := mem_ready.1 hi
      by_cases e : i = ops.size
      · exact e
      · rw [push_get, if_neg e] at h2
        have hlt := (Array.getElem?_eq_some_iff.1 h2).1
        rw [getD_push (by omega), getD_tf (by omega), hall i hlt] at h1; cases h1
    have hin : ops.size ∈ Region.ready .any (ops.push o) (listed.push false) := by
      refine mem_ready.2 ⟨by rw [Array.getD_eq_getD_getElem?, Array.getElem?_push, if_pos hs.symm]; rfl, o, by rw [push_get, if_pos rfl], fun e he hb => ?_⟩
      have hlt := (lastOk_e1 hl (j := ops.size) (oj := o) (by rw [push_get, if_pos rfl])).2 e.on (edges_iff.2 ⟨e, he, hb, rfl⟩)
      rw [getD_push (by omega)]; exact hall e.on hlt
    refine ⟨fun hr => (by rw [hr] at hin; cases hin), fun i hi => ?_⟩
    obtain rfl := hmem i hi
    have hnone : Region.ready .any (ops.push o) ((listed.push false).setIfInBounds ops.size true) = [] := by
      cases hr : Region.ready .any (ops.push o) ((listed.push false).setIfInBounds ops.size true) with
      | nil => rfl
      | cons k ks =>
        exfalso
        have hk : k ∈ Region.ready .any (ops.push o) ((listed.push false).setIfInBounds ops.size true) := by rw [hr]; exact List.mem_cons_self ..
        obtain ⟨h1, ok, h2, _⟩ := mem_ready.1 hk
        by_cases e : k = ops.size
        · subst e
          simp [Array.getD_eq_getD_getElem?, Array.getElem?_setIfInBounds, hs] at h1
        · rw [push_get, if_neg e] at h2
          have hlt := (Array.getElem?_eq_some_iff.1 h2).1
          have : ((listed.push false).setIfInBounds ops.size true).getD k true = listed.getD k true := by
            simp only [Array.getD_eq_getD_getElem?, Array.getElem?_setIfInBounds, Array.getElem?_push]
            rw [if_neg (fun e' => e e'.symm), if_neg (by omega)]
          rw [this, getD_tf (by omega), hall k hlt] at h1; cases h1
    have up : ∀ a w, Q .normal a w → wpAny P .any (ops.push o) Q f ((listed.push false).setIfInBounds ops.size true) a w := by
      intro a w hq
      cases f with
      | zero => exact ⟨hnone, hq⟩
      | succ f => exact ⟨fun _ => hq, fun i hi => (by rw [hnone] at hi; cases hi)⟩
    unfold wpOp at hq ⊢
    rw [push_get, if_pos rfl] at hq ⊢
    simp only [] at hq ⊢
    split at hq
    · rename_i hw
      rw [if_pos hw]
      rcases hq with hq | hq
      · exact .inl (Oper.wp_mono up hq)
      · exact .inr hq
    · rename_i hw
      rw [if_neg hw]; exact up _ _ hq
  intro f
  induction f with
  | zero =>
    intro listed a w hs hc h
    exact fin 0 listed a w hs (all_of_ready hl hs h.1) h.2
  | succ f ih =>
    intro listed a w hs hc h
    cases hr : Region.ready .any ops listed with
    | nil => exact fin (f + 1) listed a w hs (all_of_ready hl hs hr) (h.1 hr)
    | cons i0 is =>
      have hsub : ∀ i, i ∈ Region.ready .any (ops.push o) (listed.push false) → i ∈ Region.ready .any ops listed := by
        intro i hi
        obtain ⟨h1, oi, h2, h3⟩ := mem_ready.1 hi
        have edge : ∀ k ∈ edgesOf oi, listed.getD k false = true := by
          intro k hk
          obtain ⟨e, he, hb, rfl⟩ := edges_iff.1 hk
          have hlt := (lastOk_e1 hl h2).2 e.on hk
          have hi' : i < (ops.push o).size := (Array.getElem?_eq_some_iff.1 h2).1
          have h4 := h3 e he hb
          have hsz : (ops.push o).size = ops.size + 1 := by simp
          rwa [getD_push (by omega)] at h4
        by_cases e : i = ops.size
        · exfalso
          subst e
          rw [push_get, if_pos rfl] at h2
          obtain rfl := Option.some.inj h2
          have hall := all_of_last hl hs hc edge
          have hi0 : i0 ∈ Region.ready .any ops listed := by rw [hr]; exact List.mem_cons_self ..
          obtain ⟨g1, oi0, g2, _⟩ := mem_ready.1 hi0
          have g3 := (Array.getElem?_eq_some_iff.1 g2).1
          rw [getD_tf (by omega), hall (ops.size - i0) i0 (by omega) g3] at g1; cases g1
        · rw [push_get, if_neg e] at h2
          have hlt := (Array.getElem?_eq_some_iff.1 h2).1
          rw [getD_push (by omega)] at h1
          exact mem_ready.2 ⟨h1, oi, h2, fun x hx hb => edge x.on (edges_iff.2 ⟨x, hx, hb, rfl⟩)⟩
      have hback : i0 ∈ Region.ready .any (ops.push o) (listed.push false) := by
        have hi0 : i0 ∈ Region.ready .any ops listed := by rw [hr]; exact List.mem_cons_self ..
        obtain ⟨g1, oi0, g2, g3⟩ := mem_ready.1 hi0
        have g4 := (Array.getElem?_eq_some_iff.1 g2).1
        refine mem_ready.2 ⟨by rw [getD_push (by omega)]; exact g1, oi0, by rw [push_get, if_neg (by omega)]; exact g2, fun x hx hb => ?_⟩
        have hlt := (lastOk_e1 hl (j := i0) (oj := oi0) (by rw [push_get, if_neg (by omega)]; exact g2)).2 x.on (edges_iff.2 ⟨x, hx, hb, rfl⟩)
        rw [getD_push (by omega)]; exact g3 x hx hb
      refine ⟨fun e => (by rw [e] at hback; cases hback), fun i hi => ?_⟩
      have hi' := hsub i hi
      obtain ⟨g1, oi, g2, g3⟩ := mem_ready.1 hi'
      have g4 := (Array.getElem?_eq_some_iff.1 g2).1
      have hop := h.2 i hi'
      have hset : (listed.push false).setIfInBounds i true = (listed.setIfInBounds i true).push false := by
        apply Array.ext_getElem?
        intro k
        simp only [Array.getElem?_setIfInBounds, Array.getElem?_push, Array.size_push, Array.size_setIfInBounds]
        by_cases e1 : i = k
        · subst e1
          have : ¬ i = listed.size := by omega
          have h7 : i < listed.size := by omega
          have h8 : i < listed.size + 1 := by omega
          simp [this, h7, h8]
        · simp [e1]
      rw [hset]
      have hc' : Closed ops (listed.setIfInBounds i true) := by
        intro j oj hj hlj k hk
        have hgd : ∀ m, (listed.setIfInBounds i true).getD m false = if m = i then true else listed.getD m false := by
          intro m
          simp only [Array.getD_eq_getD_getElem?, Array.getElem?_setIfInBounds]
          by_cases e1 : m = i
          · subst e1
            have h7 : m < listed.size := by omega
            simp [h7]
          · rw [if_neg (fun e => e1 e.symm), if_neg e1]
        rw [hgd] at hlj ⊢
        split
        · rfl
        · by_cases e1 : j = i
          · subst e1
            rw [g2] at hj; obtain rfl := Option.some.inj hj
            obtain ⟨x, hx, hb, rfl⟩ := edges_iff.1 hk
            exact g3 x hx hb
          · rw [if_neg e1] at hlj
            exact hc j oj hj hlj k hk
      have hgu := (lastOk_e1 hl (j := i) (oj := oi) (by rw [push_get, if_neg (by omega)]; exact g2)).1
      unfold wpOp at hop ⊢
      rw [push_get, if_neg (by omega)]
      rw [g2] at hop ⊢
      simp only [] at hop ⊢
      have hw1 : Region.wanted oi (yielded ops a.tmps) = true := by unfold Region.wanted; rw [hgu]
      have hw2 : Region.wanted oi (yielded (ops.push o) a.tmps) = true := by unfold Region.wanted; rw [hgu]
      rw [if_pos hw1] at hop
      rw [if_pos hw2]
      rcases hop with hop | hop
      · exact .inl (Oper.wp_mono (fun a w hk => ih _ a w (by simpa using hs) hc' hk) (wp_other hop))
      · refine .inr ⟨hop.1, ?_⟩
        obtain ⟨a', w', h9⟩ := hop.2
        exact ⟨a', w', h9⟩
end
end
/-- A function's code that defers one 'delete'. -/
inductive C4 where | qs (a : C2) (b : C4) | dfr (a : C2) (ks : Nat) (m k : Src) (b : C2) | bad (w : Nat)
inductive CF4 where | mk (n : Nat) (body : C4) (rs : List Rv)
noncomputable section
abbrev Dl := Nat × V × V
abbrev X4 := X × Option Dl
def FS4 (en : En) (call : Cl) (n : Nat) : C4 → Tr V → H → X4 := C4.rec
  (fun a _ ib t h => X.rec (motive := fun _ => X4) (fun t h => ib t h) (fun i t h => (X.ex i t h, none)) (fun t h => (X.rt t h, none)) (fun w => (X.bad w, none)) (FS en call n a t h))
  (fun a ks m k b t h => X.rec (motive := fun _ => X4) (fun t h => (FS en call n b t h, some (ks, src [] t m, src [] t k))) (fun i t h => (X.bad 150, none)) (fun t h => (X.bad 150, none)) (fun w => (X.bad w, none)) (FS en call n a t h))
  (fun w _ _ => (X.bad w, none))
def fin4 (en : En) (rs : List Rv) (t : Tr V) (h : H) (d : Option Dl) : R1 := ocase d (fin rs t h) (fun d => R1.rec (motive := fun _ => R1) R1.bad (fun _ h => fin rs t h) (del d.1 en.path h d.2.1 d.2.2))
def run4 : CF4 → En → Cl → List V → H → R1 := CF4.rec (fun n body rs en call as h => bcase (Nat.ble (len as) n) (R1.bad 85)
  ((fun x => X.rec (motive := fun _ => R1) (fun t h => fin4 en rs t h x.2) (fun _ _ _ => R1.bad 84) (fun t h => fin4 en rs t h x.2) R1.bad x.1) (FS4 en call 1000000 body (init' as BP.one en.gt) h)))
/-- a region whose last operation defers a 'delete': the map, the key, the map's type -/
def delOp (o : Oper) : Option (Operand × Operand × Array TypeId) := match o.dst, o.op with
  | none, .defer c => (match c.callee, c.args.toList with | .builtin .delete, [m, k] => some (m, k, c.argTypes) | _, _ => none)
  | _, _ => none
def delOf (ops : List Oper) : Option (Operand × Operand × Array TypeId) := match ops.getLast? with
  | some o => delOp o
  | none => none
def useC4 : Code → Tr Unit → Tr Unit
  | .seq (.region id ops d) b, C => (match delOf ops.toList with | some (m, k, _) => useO [] m (useO [] k (useC b (useC (.region id ops d) C))) | none => useC4 b (useC (.region id ops d) C))
  | .seq a b, C => useC4 b (useC a C)
  | c, C => useC c C
def ksOf (tt : TT) (ts : Array TypeId) : Option Nat := match ts[0]? with
  | some t => (match und tt t with | some (.map kt _) => keyOk tt kt | _ => none)
  | none => none
def trC4 (tt : TT) (nt : Nat) (C : Tr Unit) : Code → C4
  | .seq a b => match a with
    | .region id ops true => (match delOf ops.toList with
      | some (m, k, ts) => (match ksOf tt ts, trSrc [] m, trSrc [] k with
        | some ks, some sm, some sk => bif lastOk ops.toList then .dfr (trC tt nt C (.region id ops.pop true)) ks sm sk (trC tt nt C b) else .bad 151
        | _, _, _ => .bad 152)
      | none => .qs (trC tt nt C (.region id ops true)) (trC4 tt nt C b))
    | a => .qs (trC tt nt C a) (trC4 tt nt C b)
  | _ => .bad 153
def trF4 (tt : TT) (fn : Func) : Option CF4 := match fn.body, trRvs tt fn.results.toList with
  | some c, some rs => bif Nat.ble fn.ntmps 100000 && Nat.ble (fn.params.size + fn.nfree) 1000 && !(fn.name == "runtime.NumGoroutine") then some (.mk (fn.params.size + fn.nfree) (trC4 tt fn.ntmps (slots (fn.params.size + fn.nfree) (useR fn.results.toList (useC4 c .lf))) c) rs) else none
  | _, _ => none
end
variable {Df : List Deferred}
variable {P : Program} {tt : TT} {ν : Nat → Int} {ρ : Pl} {a : Act} {en : En} {w : World} {o : Oper} {v : V} {t : Tr V} {nt : Nat} {ops : Array Oper} {call : Cl} {h0 : H} {C : Tr Unit} {W : Bas} {rn : Rn} {n : Nat} {h : H}
/-- What has been deferred. -/
def DefR (tt : TT) (ν : Nat → Int) (ρ : Pl) (x : Option Dl) (ds : List Deferred) : Prop := match x with
  | none => ds = []
  | some (ks, m, k) => ∃ ts t kt et ty cn um uk, ds = [{ target := .builtin .delete ts ty cn, args := #[um, uk] }] ∧ ts[0]? = some t ∧ und tt t = some (.map kt et) ∧ keyOk tt kt = some ks ∧ VR ν ρ m um ∧ VR ν ρ k uk
def Post4 (tt : TT) (ν : Nat → Int) (W : Bas) (C : Tr Unit) (nt : Nat) (h : H) (ρ : Pl) (X0 : X4) (e : Exit) (a : Act) (w : World) : Prop := ∃ ds ρ0, ρ.le ρ0 ∧ DefR tt ν ρ0 X0.2 ds ∧ ∃ h1, Ext h ρ h1 ρ0 ∧ Post ds ν W C nt h1 ρ0 X0.1 e a w
theorem delOf_some {ops : Array Oper} {m k : Operand} {ts : Array TypeId} (hd : delOf ops.toList = some (m, k, ts)) : ∃ o : Oper, ops = ops.pop.push o ∧ o.op = .defer { callee := .builtin .delete, args := #[m, k], argTypes := ts } ∧ o.dst = none := by
  unfold delOf at hd
  split at hd
  · rename_i o hlast
    unfold delOp at hd
    split at hd
    · rename_i c hdst hop
      split at hd
      · rename_i m' k' hce hargs
        obtain ⟨rfl, rfl, rfl⟩ : m' = m ∧ k' = k ∧ c.argTypes = ts := by simpa using hd
        obtain ⟨ce, args, ats⟩ := c
        simp only at hce hargs
        subst hce
        have hargs' : args = #[m', k'] := by cases args; simp_all
        subst hargs'
        refine ⟨o, ?_, hop, hdst⟩
        obtain ⟨l, h1⟩ := List.getLast?_eq_some_iff.1 hlast
        apply Array.ext'
        rw [Array.toList_push, Array.toList_pop, h1, List.dropLast_concat]
      · cases hd
    · cases hd
  · cases hd
theorem fs4_sound (hT : TTok P tt) (he : EnOk ν en) (hmo : P.follows .mixedOrders = true) (hcall : CallOk P ν W call) (hm : MtsOk P en.mts) (hnt : nt ≤ 100000) : ∀ (c : Code) (t : Tr V) (h : H) (X0 : X4) (ρ : Pl) (a : Act) (w : World),
    FS4 en call n (trC4 tt nt C c) t h = X0 → (∀ n, X0.1 ≠ .bad n) → Rel ν W ρ h w → FrC [] ν C ρ nt t a → c.wp P (Post4 tt ν W C nt h ρ X0) a w := by
  have base : ∀ (x : Code) (y : Code) (t : Tr V) (h : H) (X0 : X4) (ρ : Pl) (a : Act) (w : World), (∀ (t : Tr V) (h : H) (X0 : X4) (ρ : Pl) (a : Act) (w : World), FS4 en call n (trC4 tt nt C y) t h = X0 → (∀ n, X0.1 ≠ .bad n) → Rel ν W ρ h w → FrC [] ν C ρ nt t a → y.wp P (Post4 tt ν W C nt h ρ X0) a w) →
      FS4 en call n (.qs (trC tt nt C x) (trC4 tt nt C y)) t h = X0 → (∀ n, X0.1 ≠ .bad n) → Rel ν W ρ h w → FrC [] ν C ρ nt t a → (Code.seq x y).wp P (Post4 tt ν W C nt h ρ X0) a w := by
    intro x y t h X0 ρ a w ihy hX hb R F
    refine wp_seq ?_
    have hX' : X.rec (motive := fun _ => X4) (fun t h => FS4 en call n (trC4 tt nt C y) t h) (fun i t h => (X.ex i t h, none)) (fun t h => (X.rt t h, none)) (fun w => (X.bad w, none)) (FS en call n (trC tt nt C x) t h) = X0 := hX
    cases hx : FS en call n (trC tt nt C x) t h with
    | bad n => rw [hx] at hX'; exact absurd (by rw [← hX']) (hb n)
    | nm t1 h1 =>
      rw [hx] at hX'
      refine wp_mono (fs_sound hT he hmo hcall hm hnt x t h _ ρ a w hx (by simp) R F) (fun e a1 w1 hp => ?_)
      cases e <;> first | exact hp.elim | skip
      obtain ⟨ρ1, R1, E1, F1⟩ := hp
      refine wp_mono (ihy t1 h1 X0 ρ1 a1 w1 hX' hb R1 F1) (fun e a w hp => ?_)
      obtain ⟨ds, ρ0, h1', h2, h3, h4, h5⟩ := hp
      exact ⟨ds, ρ0, Pl.le_trans E1.le h1', h2, h3, E1.trans h4, h5⟩
    | ex i t1 h1 =>
      rw [hx] at hX'
      refine wp_mono (fs_sound hT he hmo hcall hm hnt x t h _ ρ a w hx (by simp) R F) (fun e a1 w1 hp => ?_)
      cases e <;> first | exact hp.elim | skip
      rw [← hX']
      exact ⟨[], ρ, Pl.le_refl ρ, rfl, h, Ext.refl _ _, hp⟩
    | rt t1 h1 =>
      rw [hx] at hX'
      refine wp_mono (fs_sound hT he hmo hcall hm hnt x t h _ ρ a w hx (by simp) R F) (fun e a1 w1 hp => ?_)
      cases e <;> first | exact hp.elim | skip
      rw [← hX']
      exact ⟨[], ρ, Pl.le_refl ρ, rfl, h, Ext.refl _ _, hp⟩
  intro c
  induction c with
  | seq x y ihx ihy =>
    intro t h X0 ρ a w hX hb R F
    by_cases hreg : ∃ id ops m k ts, x = .region id ops true ∧ delOf ops.toList = some (m, k, ts)
    · obtain ⟨id, ops, m, k, ts, rfl, hd⟩ := hreg
      simp only [trC4, hd] at hX
      split at hX
      · rename_i ks sm sk hks hsm hsk
        cases hl : lastOk ops.toList with
        | false => rw [hl] at hX; exact absurd (by rw [← hX]; rfl) (hb 151)
        | true =>
          rw [hl] at hX
          obtain ⟨o, hops, hop, hdst⟩ := delOf_some hd
          have hX' : X.rec (motive := fun _ => X4) (fun t h => (FS en call n (trC tt nt C y) t h, some (ks, src [] t sm, src [] t sk))) (fun i t h => (X.bad 150, none)) (fun t h => (X.bad 150, none)) (fun w => (X.bad w, none)) (FS en call n (trC tt nt C (.region id ops.pop true)) t h) = X0 := hX
          cases hx : FS en call n (trC tt nt C (.region id ops.pop true)) t h with
          | bad n => rw [hx] at hX'; exact absurd (by rw [← hX']) (hb n)
          | ex i t1 h1 => rw [hx] at hX'; exact absurd (by rw [← hX']) (hb 150)
          | rt t1 h1 => rw [hx] at hX'; exact absurd (by rw [← hX']) (hb 150)
          | nm t1 h1 =>
            rw [hx] at hX'
            refine wp_seq ?_
            change FS en call n (trReg tt nt C ops.pop.toList true) t h = .nm t1 h1 at hx
            rcases trReg_cases (tt := tt) (nt := nt) (C := C) ops.pop.toList true with htr | ⟨its, cm, htr⟩
            · rw [htr] at hx; cases (show X.bad 132 = X.nm t1 h1 from hx)
            rw [htr] at hx
            obtain ⟨l, h2, g1, g2⟩ := rr_ne (show rr (runIts en call t its [] h) X.bad (fun r h => X.nm (commit r cm t) h) = X.nm t1 h1 from hx) (fun n e => by cases e)
            injection g2 with g2 g3
            subst g3
            rw [hops]
            have hl' : lastOk (ops.pop.push o).toList = true := by rw [← hops]; exact hl
            refine wp_region_any hmo ?_
            have key := region_wps (draw := true) (ops := ops.pop) (Q := QLast P (ops.pop.push o) (Exit.then (fun a w => y.wp P (Post4 tt ν W C nt h ρ X0) a w) (Post4 tt ν W C nt h ρ X0)) ops.pop.size) hT he hcall hm hnt htr g1 R F (fun ρ' a' w' R' E' F' => ?_)
            · have := any_last hl' _ (Array.replicate ops.pop.size false) a _ (by simp) (fun j oj _ hj => by rw [getD_false] at hj; cases hj) key
              have e1 : (Array.replicate ops.pop.size false).push false = Array.replicate (ops.pop.push o).size false := by rw [Array.size_push, Array.replicate_succ]
              rw [e1, show ops.pop.size + 1 = (ops.pop.push o).size by simp] at this
              exact this
            · show wpOp P (ops.pop.push o) _ ops.pop.size _ a' w'
              unfold wpOp
              rw [push_get, if_pos rfl]
              simp only []
              have hgu := (lastOk_e1 hl' (j := ops.pop.size) (oj := o) (by rw [push_get, if_pos rfl])).1
              rw [if_pos (by unfold Region.wanted; rw [hgu])]
              refine .inl ?_
              unfold Oper.wp
              obtain ⟨cn, hrun⟩ : ∃ cn, (execOp a'.eval o).run P w' = .ok (.defer { target := .builtin .delete ts o.type cn, args := #[a'.eval m, a'.eval k] }) w' := by
                refine ⟨(#[m, k].map fun | .const _ => true | _ => false), ?_⟩
                simp only [execOp, hop, resolve, Sem.run_bind, Sem.run_pure, Result.andThen_ok]
                simp
                exact ⟨by cases m <;> rfl, by cases k <;> rfl⟩
              rw [hrun]
              rw [g2] at F'
              have hvm := Cur.val F'.toFrR hsm
              have hvk := Cur.val F'.toFrR hsk
              unfold ksOf at hks
              split at hks
              · rename_i t0 ht0
                split at hks
                · rename_i kt et ht
                  show (({ a' with defers := _ :: a'.defers } : Act).put o.dst undef) |> fun a2 => y.wp P (Post4 tt ν W C nt h ρ X0) a2 w'
                  rw [hdst]
                  show y.wp P (Post4 tt ν W C nt h ρ X0) { a' with defers := _ :: a'.defers } w'
                  have F2 : FrC [{ target := .builtin .delete ts o.type cn, args := #[a'.eval m, a'.eval k] }] ν C ρ' nt t1 { a' with defers := { target := .builtin .delete ts o.type cn, args := #[a'.eval m, a'.eval k] } :: a'.defers } := ⟨⟨F'.slot, F'.glob, by rw [F'.defers], F'.size⟩, F'.ins⟩
                  refine wp_mono (fs_sound hT he hmo hcall hm hnt y t1 h2 _ ρ' _ w' rfl (fun n e => hb n (by rw [← hX']; exact e)) R' F2) (fun e a3 w3 hp => ?_)
                  rw [← hX']
                  exact ⟨_, ρ', E'.le, ⟨ts, t0, kt, et, o.type, _, _, _, rfl, ht0, ht, hks, hvm, hvk⟩, h2, E', hp⟩
                · cases hks
              · cases hks
      · exact absurd (by rw [← hX]; rfl) (hb 152)
    · have htr : trC4 tt nt C (.seq x y) = .qs (trC tt nt C x) (trC4 tt nt C y) := by
        cases x <;> try rfl
        rename_i id ops d
        cases d with
        | false => rfl
        | true =>
          cases hd : delOf ops.toList with
          | none => simp only [trC4, hd]
          | some z => exact absurd ⟨id, ops, z.1, z.2.1, z.2.2, rfl, hd⟩ hreg
      rw [htr] at hX
      exact base x y t h X0 ρ a w ihy hX hb R F
  | _ => intro t h X0 ρ a w hX hb R F; exact absurd (by rw [← hX]; rfl) (hb 153)
theorem trF4_some {fn : Func} {cf : CF4} (h : trF4 tt fn = some cf) : ∃ c rs, fn.body = some c ∧ trRvs tt fn.results.toList = some rs ∧ fn.ntmps ≤ 100000 ∧ fn.params.size + fn.nfree ≤ 1000 ∧ (fn.name == "runtime.NumGoroutine") = false ∧
    cf = .mk (fn.params.size + fn.nfree) (trC4 tt fn.ntmps (slots (fn.params.size + fn.nfree) (useR fn.results.toList (useC4 c .lf))) c) rs := by
  unfold trF4 at h
  split at h
  · rename_i c rs e1 e2
    cases hb : (Nat.ble fn.ntmps 100000 && Nat.ble (fn.params.size + fn.nfree) 1000 && !(fn.name == "runtime.NumGoroutine")) with
    | false => rw [hb] at h; cases h
    | true =>
      rw [hb] at h
      simp only [Bool.and_eq_true, Bool.not_eq_true'] at hb
      exact ⟨c, rs, e1, e2, Nat.le_of_ble_eq_true hb.1.1, Nat.le_of_ble_eq_true hb.1.2, hb.2, (Option.some.inj h).symm⟩
  · cases h
/-- A function that defers one 'delete'. -/
theorem func4_run (hT : TTok P tt) (he : EnOk ν en) (hmo : P.follows .mixedOrders = true) (hcall : CallOk P ν W call) (hm : MtsOk P en.mts) (hgt : GtOk ν W en.gt)
    {g : Nat} {as : List V} {h h' : H} {v : V} {fn : Func} {cf : CF4} (hf : P.funcs[g]? = some fn) (htf : trF4 tt fn = some cf) (hv2 : run4 cf en call as h = .ok v h') : Call1 P ν W g as h v h' := by
  obtain ⟨c, rs, hb, hrs, hnt, hn, hname, rfl⟩ := trF4_some htf
  obtain ⟨hlen, hv3⟩ := bcase_ne (show bcase (Nat.ble (len as) (fn.params.size + fn.nfree)) (R1.bad 85) ((fun x => X.rec (motive := fun _ => R1) (fun t h => fin4 en rs t h x.2) (fun _ _ _ => R1.bad 84) (fun t h => fin4 en rs t h x.2) R1.bad x.1) (FS4 en call 1000000 (trC4 tt fn.ntmps (slots (fn.params.size + fn.nfree) (useR fn.results.toList (useC4 c .lf))) c) (init' as BP.one en.gt) h)) = R1.ok v h' from hv2) (by simp)
  have hlen := Nat.le_of_ble_eq_true hlen
  rw [len_eq] at hlen
  refine ⟨fun args w => ?_, fun ρ args w R hargs => ?_⟩
  · have hne : fn.name ≠ "runtime.NumGoroutine" := by simpa using hname
    simp [callFunc, hf, hb, hne]
  · have hal := hargs.length
    have hget : ∀ n, n < 100000 → get (bpOf n) (init' as BP.one en.gt) = if n < as.length then as[n]? else none := fun n hn' => by
      rw [show BP.one = bpOf 0 from rfl, init_get n as 0 en.gt (by omega)]
      by_cases e : n < as.length
      · rw [if_pos (by omega), if_pos e]; simp
      · rw [if_neg (by omega), if_neg e]; exact hgt.low n hn'
    have F : FrC [] ν (slots (fn.params.size + fn.nfree) (useR fn.results.toList (useC4 c .lf))) ρ fn.ntmps (init' as BP.one en.gt) { tmps := args.toArray ++ Array.replicate (fn.ntmps - args.toArray.size) undef, defers := [] } := by
      refine ⟨⟨fun n hn' v hv => ?_, fun g v hv => ?_, rfl, by simp; omega⟩, fun n v hn' hv => ?_⟩
      · rw [hget n hn'] at hv
        split at hv
        · obtain ⟨u, hu, hvr⟩ := hargs.get hv
          have hlt : n < args.length := by omega
          have : (args.toArray ++ Array.replicate (fn.ntmps - args.toArray.size) undef).getD n undef = u := by
            rw [Array.getD_eq_getD_getElem?, Array.getElem?_append_left (by simpa using hlt)]
            simp [hu]
          rw [this]; exact hvr
        · cases hv
      · rw [show BP.one = bpOf 0 from rfl, init_get (100000 + g) as 0 en.gt (by omega), if_neg (by omega)] at hv
        exact VR.mono ν R.base _ _ (hgt.glob g v hv)
      · rw [hget n hn'] at hv
        split at hv
        · exact ⟨(), slots_get _ n _ (by omega) hn⟩
        · cases hv
    refine calls_of_wp_del hf hb ?_
    generalize hx : FS4 en call 1000000 (trC4 tt fn.ntmps (slots (fn.params.size + fn.nfree) (useR fn.results.toList (useC4 c .lf))) c) (init' as BP.one en.gt) h = X0 at hv3
    have hv3 : X.rec (motive := fun _ => R1) (fun t h => fin4 en rs t h X0.2) (fun _ _ _ => R1.bad 84) (fun t h => fin4 en rs t h X0.2) R1.bad X0.1 = R1.ok v h' := hv3
    have key : ∀ t1 h1 ρ0 e a1 w1 ds, fin4 en rs t1 h1 X0.2 = .ok v h' → (e = Exit.normal ∨ e = Exit.ret) → ρ.le ρ0 → DefR tt ν ρ0 X0.2 ds → (∃ ρ1, Rel ν W ρ1 h1 w1 ∧ Ext h ρ h1 ρ1 ∧ ρ0.le ρ1 ∧ FrC ds ν (slots (fn.params.size + fn.nfree) (useR fn.results.toList (useC4 c .lf))) ρ1 fn.ntmps t1 a1) →
        DelPost P fn (fun u w' => After ν W h ρ h' v u w') e a1 w1 := by
      rintro t1 h1 ρ0 e a1 w1 ds hfin hee hle hD ⟨ρ1, R1', E1, E0, F1⟩
      refine ⟨hee, ?_⟩
      cases hd : X0.2 with
      | none =>
        rw [hd] at hfin hD
        obtain rfl : ds = [] := hD
        obtain ⟨rfl, u, hres, hvr⟩ := fin_sound hT hrs R1' F1.toFrR hfin
        exact .inl ⟨F1.defers, u, hres, ρ1, R1', hvr, E1⟩
      | some z =>
        obtain ⟨ks, vm, vk⟩ := z
        rw [hd] at hfin hD
        obtain ⟨ts, t0, kt, et, ty, cn, um, uk, rfl, ht0, ht, hks, hvm, hvk⟩ := hD
        cases hdel : del ks en.path h1 vm vk with
        | bad n => have : R1.rec (motive := fun _ => R1) R1.bad (fun _ h => fin rs t1 h) (del ks en.path h1 vm vk) = R1.ok v h' := hfin
                   rw [hdel] at this; cases this
        | ok z h2 =>
          have hfin : R1.rec (motive := fun _ => R1) R1.bad (fun _ h => fin rs t1 h) (del ks en.path h1 vm vk) = R1.ok v h' := hfin
          rw [hdel] at hfin
          obtain ⟨-, w2, hrun, R2, E2⟩ := del_run R1' he hT ht0 ht hks (VR.mono ν E0 _ _ hvm) (VR.mono ν E0 _ _ hvk) hdel (ty := ty)
          obtain ⟨rfl, u, hres, hvr⟩ := fin_sound hT hrs R2 F1.toFrR hfin
          refine .inr ⟨_, .delete, ts, ty, cn, .tuple #[], w2, F1.defers, rfl, ?_, u, hres, ρ1, R2, hvr, E1.trans E2⟩
          simp [invoke, builtin, Sem.run_bind, hrun]
    refine wp_mono (fs4_sound hT he hmo hcall hm hnt c _ h X0 ρ _ w hx (fun n e => by rw [e] at hv3; cases hv3) R F) (fun e a1 w1 hp => ?_)
    obtain ⟨ds, ρ0, hle, hD, h0, E0, hp⟩ := hp
    cases hX : X0.1 with
    | bad n => rw [hX] at hv3; cases hv3
    | ex i t1 h1 => rw [hX] at hv3; cases hv3
    | nm t1 h1 =>
      rw [hX] at hv3 hp
      cases e <;> first | exact hp.elim | skip
      obtain ⟨ρ1, R1', E1, F1⟩ := hp
      exact key t1 h1 ρ0 _ a1 w1 ds hv3 (.inl rfl) hle hD ⟨ρ1, R1', E0.trans E1, E1.le, F1⟩
    | rt t1 h1 =>
      rw [hX] at hv3 hp
      cases e <;> first | exact hp.elim | skip
      obtain ⟨ρ1, R1', E1, F1⟩ := hp
      exact key t1 h1 ρ0 _ a1 w1 ds hv3 (.inr rfl) hle hD ⟨ρ1, R1', E0.trans E1, E1.le, F1⟩
end Ev
end Go.Proofs.Ytlajbngfdbnoiaa
