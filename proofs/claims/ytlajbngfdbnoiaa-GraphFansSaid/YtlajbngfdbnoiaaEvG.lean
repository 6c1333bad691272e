/- A region whose operations come in the text's order. -/
import Derived.Test.YtlajbngfdbnoiaaEvY
namespace Go.Proofs.Ytlajbngfdbnoiaa
set_option linter.unusedSimpArgs false
set_option linter.unusedVariables false
set_option linter.constructorNameAsVariable false
open Go Go.RowKit
namespace Ev
variable {Df : List Deferred}
variable {P : Program} {tt : TT} {ν : Nat → Int} {ρ : Pl} {a : Act} {en : En} {w : World} {o : Oper} {v : V} {t : Tr V} {nt : Nat} {ops : Array Oper}
theorem locOf_shift (n : Nat) : ∀ (l : List (Option Tmp)) (i : Nat), locOf n l i = (locOf n l 0).map (· + i)
  | [], i => rfl
  | some d :: l, i => by
    simp only [locOf]
    cases Nat.beq d n with
    | true => simp
    | false => simp only [cond_false]; rw [locOf_shift n l (i + 1), locOf_shift n l (0 + 1)]; cases locOf n l 0 <;> simp; omega
  | none :: l, i => by
    simp only [locOf]
    rw [locOf_shift n l (i + 1), locOf_shift n l (0 + 1)]; cases locOf n l 0 <;> simp; omega
theorem locOf_cons (n : Nat) (d : Option Tmp) (l : List (Option Tmp)) : locOf n (d :: l) 0 = if d = some n then some 0 else (locOf n l 0).map (· + 1) := by
  cases d with
  | none => simp only [locOf]; rw [locOf_shift]; simp
  | some d =>
    simp only [locOf]
    cases hb : Nat.beq d n with
    | true => rw [if_pos (by rw [Nat.eq_of_beq_eq_true hb])]; rfl
    | false => rw [if_neg (fun e => by injection e with e; subst e; rw [Nat.beq_refl] at hb; cases hb), locOf_shift]; rfl
/-- How a frame stands: its slots, the listed variables. -/
structure FrR (Df : List Deferred) (ν : Nat → Int) (ρ : Pl) (nt : Nat) (t : Tr V) (a : Act) : Prop where
  slot : ∀ n, n < 100000 → ∀ v, get (bpOf n) t = some v → VR ν ρ v (a.tmps.getD n undef)
  glob : ∀ g v, get (bpOf (100000 + g)) t = some v → VR ν ρ v (.pointer (some ⟨g, 0, none⟩))
  defers : a.defers = Df
  size : nt ≤ a.tmps.size
theorem FrR.mono {ρ' : Pl} (h : ρ.le ρ') (F : FrR Df ν ρ nt t a) : FrR Df ν ρ' nt t a := ⟨fun n hn v e => VR.mono ν h _ _ (F.slot n hn v e), fun g v e => VR.mono ν h _ _ (F.glob g v e), F.defers, F.size⟩
/-- How it stands within a region: what has been reckoned so far lies in its slots. -/
structure Cur (Df : List Deferred) (ν : Nat → Int) (ρ : Pl) (nt : Nat) (ops : Array Oper) (t : Tr V) (tk : List Tk) (r : List V) (a : Act) : Prop where
  len : r.length = tk.length
  slot : ∀ n, n < 100000 → match locOf n (tk.map (·.dst)) 0 with
    | some i => ∃ v, r[i]? = some v ∧ VR ν ρ v (a.tmps.getD n undef)
    | none => ∀ v, get (bpOf n) t = some v → VR ν ρ v (a.tmps.getD n undef)
  glob : ∀ g v, get (bpOf (100000 + g)) t = some v → VR ν ρ v (.pointer (some ⟨g, 0, none⟩))
  tks : ∀ k ∈ tk, ∃ o, ops[k.i]? = some o ∧ o.dst = k.dst
  defers : a.defers = Df
  size : nt ≤ a.tmps.size
theorem Cur.start (F : FrR Df ν ρ nt t a) : Cur Df ν ρ nt ops t [] [] a := ⟨rfl, fun n hn => by simp only [List.map_nil, locOf]; exact F.slot n hn, F.glob, by simp, F.defers, F.size⟩
theorem Cur.mono {ρ' : Pl} (h : ρ.le ρ') {tk : List Tk} {r : List V} (C : Cur Df ν ρ nt ops t tk r a) : Cur Df ν ρ' nt ops t tk r a := ⟨C.len, fun n hn => by
    have := C.slot n hn
    split
    · rename_i i e; rw [e] at this; obtain ⟨v, h1, h2⟩ := this; exact ⟨v, h1, VR.mono ν h _ _ h2⟩
    · rename_i e; rw [e] at this; exact fun v e => VR.mono ν h _ _ (this v e), fun g v e => VR.mono ν h _ _ (C.glob g v e), C.tks, C.defers, C.size⟩
theorem src_loc {r : List V} {t : Tr V} {i : Nat} : src r t (.loc i) = (r[i]?).getD .x := by
  show ocase (nth r i) V.x (fun v => v) = _
  rw [nth_eq]; cases r[i]? <;> rfl
theorem src_tmp {r : List V} {t : Tr V} {p : BP} : src r t (.tmp p) = (get p t).getD .x := by
  show ocase (get p t) V.x (fun v => v) = _
  cases get p t <;> rfl
theorem VR_x (u : Value) : VR ν ρ .x u := by simp only [VR]
theorem Cur.opR {tk : List Tk} {r : List V} (C : Cur Df ν ρ nt ops t tk r a) (xs : List Operand) : OpR ν ρ (tk.map (·.dst)) (src r t) a xs := by
  intro x hx s hs
  cases x with
  | tmp n =>
    have hs' : (bif Nat.blt n 100000 then (match locOf n (tk.map (·.dst)) 0 with | some i => some (Src.loc i) | none => some (Src.tmp (bpOf n))) else none) = some s := hs
    clear hs
    have hn : n < 100000 := by
      cases hb : Nat.blt n 100000 with
      | true => exact blt_iff.1 hb
      | false => rw [hb] at hs'; cases hs'
    rw [blt_iff.2 hn] at hs'
    have hC := C.slot n hn
    have hs := hs'
    simp only [cond_true] at hs
    split at hs
    · rename_i i e
      obtain rfl := Option.some.inj hs
      rw [e] at hC
      obtain ⟨v, h1, h2⟩ := hC
      rw [src_loc, h1]; exact h2
    · rename_i e
      obtain rfl := Option.some.inj hs
      rw [e] at hC
      rw [src_tmp]
      cases hg : get (bpOf n) t with
      | none => exact VR_x _
      | some v => exact hC v hg
  | const u =>
    simp only [trSrc] at hs
    split at hs
    · rename_i v e
      obtain rfl := Option.some.inj hs
      exact trVal_sound u v e
    · cases hs
  | global g =>
    obtain rfl := Option.some.inj (show some (Src.tmp (bpOf (100000 + g))) = some s from hs)
    rw [src_tmp]
    cases hg : get (bpOf (100000 + g)) t with
    | none => exact VR_x _
    | some v => exact C.glob g v hg
  | func f =>
    obtain rfl := Option.some.inj (show some (Src.val (.f f [] [])) = some s from hs)
    show VR ν ρ (.f f [] []) _
    simp only [VR, VRs]; exact ⟨#[], #[], rfl, rfl, rfl⟩
theorem put_getD (a : Act) (d : Option Tmp) (u : Value) (n : Nat) (hd : ∀ m, d = some m → m < a.tmps.size) : (a.put d u).tmps.getD n undef = if d = some n then u else a.tmps.getD n undef := by
  cases d with
  | none => simp [Act.put]
  | some m =>
    simp only [Act.put, Option.some.injEq]
    have := hd m rfl
    by_cases e : m = n
    · subst e; rw [if_pos rfl]; simp [Array.getD_eq_getD_getElem?, this]
    · rw [if_neg e]; simp [Array.getD_eq_getD_getElem?, Array.getElem?_setIfInBounds, e]
theorem Cur.put {tk : List Tk} {r : List V} (C : Cur Df ν ρ nt ops t tk r a) {k : Tk} {u : Value} (hk : ∃ o, ops[k.i]? = some o ∧ o.dst = k.dst) (hd : ∀ m, k.dst = some m → m < nt) (hv : VR ν ρ v u) : Cur Df ν ρ nt ops t (k :: tk) (v :: r) (a.put k.dst u) := by
  have hd' : ∀ m, k.dst = some m → m < a.tmps.size := fun m e => Nat.lt_of_lt_of_le (hd m e) C.size
  refine ⟨by simp [C.len], fun n hn => ?_, C.glob, fun q hq => ?_, ?_, ?_⟩
  · have hC := C.slot n hn
    rw [List.map_cons, locOf_cons, put_getD a k.dst u n hd']
    by_cases e : k.dst = some n
    · rw [if_pos e, if_pos e]; exact ⟨v, rfl, hv⟩
    · rw [if_neg e, if_neg e]
      cases hl : locOf n (tk.map (·.dst)) 0 with
      | none => rw [hl] at hC; exact hC
      | some i => rw [hl] at hC; obtain ⟨v', h1, h2⟩ := hC; exact ⟨v', by simpa using h1, h2⟩
  · rcases List.mem_cons.1 hq with rfl | hq
    · exact hk
    · exact C.tks q hq
  · cases h : k.dst <;> simp [Act.put, C.defers]
  · cases h : k.dst <;> simp [Act.put] <;> exact C.size
theorem posOf_nth {j : Nat} : ∀ {l : List Nat} {n p : Nat}, posOf j l n = some p → n ≤ p ∧ l[p - n]? = some j
  | [], n, p, h => by cases h
  | i :: l, n, p, h => by
    simp only [posOf] at h
    cases hb : Nat.beq j i with
    | true =>
      rw [hb] at h
      obtain rfl := Option.some.inj (show some n = some p from h)
      rw [Nat.eq_of_beq_eq_true hb]; simp
    | false =>
      rw [hb] at h
      obtain ⟨h1, h2⟩ := posOf_nth (show posOf j l (n + 1) = some p from h)
      refine ⟨by omega, ?_⟩
      rw [show p - n = (p - (n + 1)) + 1 by omega]; simpa using h2
/-- Whether it is wanted. -/
theorem Cur.wanted {tk : List Tk} {r : List V} (C : Cur Df ν ρ nt ops t tk r a) (hnt : nt ≤ 100000) (hd : ∀ k ∈ tk, ∀ m, k.dst = some m → m < nt) {g : Option (Src × Bool)} {b : Bool} (hg : trGuard tk o = some g) (hw : want (src r t) g = some b) : Region.wanted o (yielded ops a.tmps) = b := by
  unfold trGuard at hg
  unfold Region.wanted
  split at hg
  · rename_i e
    obtain rfl := Option.some.inj hg
    rw [e]
    exact (Option.some.inj (show some true = some b from hw))
  · rename_i j wt e
    rw [e]
    split at hg
    · rename_i p hp
      split at hg
      · rename_i k hk
        split at hg
        · rename_i d hdst
          cases hc : Nat.beq k.i j && optEq (locOf d (tk.map (·.dst)) 0) (some p) with
          | false => rw [hc] at hg; cases hg
          | true =>
            rw [hc] at hg
            obtain rfl := Option.some.inj (show some (some (Src.loc p, wt)) = some g from hg)
            simp only [Bool.and_eq_true] at hc
            have hkj := Nat.eq_of_beq_eq_true hc.1
            have hloc : locOf d (tk.map (·.dst)) 0 = some p := by
              have := hc.2
              unfold optEq at this
              split at this
              · rename_i m n e1 e2
                rw [e1, e2, Nat.eq_of_beq_eq_true this]
              · cases this
            rw [nth_eq] at hk
            have hkm : k ∈ tk := List.mem_of_getElem? hk
            obtain ⟨oj, ho1, ho2⟩ := C.tks k hkm
            have hdn := hd k hkm d hdst
            have hC := C.slot d (Nat.lt_of_lt_of_le hdn hnt)
            rw [hloc] at hC
            obtain ⟨v', h1, h2⟩ := hC
            have hds : d < a.tmps.size := Nat.lt_of_lt_of_le hdn C.size
            have hy : yielded ops a.tmps j = match a.tmps.getD d undef with | .bool b => some b | _ => none := by
              unfold yielded
              rw [← hkj, ho1]
              simp only [Option.bind_some, ho2, hdst]
              rw [Array.getElem?_eq_getElem hds]
              simp only [Array.getD_eq_getD_getElem?, Array.getElem?_eq_getElem hds, Option.getD_some]
              cases a.tmps[d] <;> rfl
            show (yielded ops a.tmps j == some wt) = b
            rw [hy]
            have hw' : onB (src r t (.loc p)) (onU (src r t (.loc p)) none (fun _ => some false)) (fun b => some (bcase wt (!b) b)) = some b := hw
            rw [src_loc, h1] at hw'
            simp only [Option.getD_some] at hw'
            cases v' <;> first | (cases hw'; done) | skip
            · simp only [VR] at h2; rw [h2]
              rename_i x
              have := Option.some.inj (show some (bcase wt (!x) x) = some b from hw')
              rw [← this]
              cases wt <;> cases x <;> rfl
            · simp only [VR] at h2
              obtain ⟨cs, h2, _⟩ := h2
              rw [h2]
              exact Option.some.inj (show some false = some b from hw')
        · cases hg
      · cases hg
    · cases hg
theorem okR_ok {x : Option V} {h h' : H} {n : Nat} (hv : okR x h n = .ok v h') : x = some v ∧ h' = h := by
  obtain ⟨u, hu, hv⟩ := ocase_ne hv (by simp)
  injection hv with g1 g2
  exact ⟨by rw [hu, g1], g2.symm⟩
/-- One operation. -/
theorem step_sound (hT : TTok P tt) (he : EnOk ν en) {h h' : H} {W : Bas} (R : Rel ν W ρ h w) {call : Nat → List V → H → R1} (hcall : CallOk P ν W call) (hm : MtsOk P en.mts) {ds : List (Option Tmp)} {sv : Src → V} (hr : OpR ν ρ ds sv a o.op.operands.toList)
    (hv : doK (trK tt ds o.op) en call sv h = .ok v h') : Does P o a w (After ν W h ρ h' v) := by
  cases hk : trK tt ds o.op with
  | pu k =>
    rw [hk] at hv
    obtain ⟨h1, rfl⟩ := okR_ok (show okR (doP k en sv) h 90 = .ok v h' from hv)
    obtain ⟨u, hu, hvr⟩ := doP_sound (w := w) hT he hk hr h1
    exact Does.value hu ⟨ρ, R, hvr, Ext.refl _ _⟩
  | rd k =>
    rw [hk] at hv
    obtain ⟨h1, rfl⟩ := okR_ok (show okR (doR k en sv h) h 91 = .ok v h' from hv)
    obtain ⟨u, hu, hvr⟩ := doR_sound R hT he hk hr h1
    exact Does.value hu ⟨ρ, R, hvr, Ext.refl _ _⟩
  | al k =>
    rw [hk] at hv
    obtain ⟨⟨ob, mk⟩, h1, hv1⟩ := ocase_ne (show ocase (doA k sv) (R1.bad 92) (fun p => fresh h p.1 p.2) = .ok v h' from hv) (by simp)
    obtain ⟨hp, ho, u, w', n, hrun, hg, hob, hvr⟩ := doA_sound (w := w) hT hk hr h1
    rw [fresh_eq] at hv1
    injection hv1 with g1 g2
    subst g1; subst g2
    have R2 : Rel ν W ρ (addO h ob) w := R.add ob (fun y hy => by rw [hp] at hy; cases hy) (fun y hy => by rw [hp] at hy; cases hy)
    refine Does.value hrun ⟨ρ.put (nx h) (w.heap.size, 0, n), R2.place hg (by rw [obj_addO, if_pos rfl]) R.idle hob, hvr _ _ (Pl.put_same _ _), Pl.le_put R.idle, fun k e hk => ?_, by rw [nx_addO]; omega⟩
    rw [Pl.put_ne _ (fun e' => by rw [e'] at hk; exact Nat.lt_irrefl _ hk)]; exact e
  | ef k =>
    rw [hk] at hv
    exact doE_sound hT he R hcall hm hk hr hv
  | no n => rw [hk] at hv; cases hv
theorem trSeq_dst (tt : TT) : ∀ (l : List Oper) (i : Nat) (tk : List Tk), (∀ o ∈ l, dstOk nt o = true) → (∀ k ∈ tk, ∀ m, k.dst = some m → m < nt) → ∀ k ∈ (trSeq tt l i tk).2, ∀ m, k.dst = some m → m < nt
  | [], i, tk, _, h => h
  | o :: l, i, tk, hd, h => by
    refine trSeq_dst tt l (i + 1) _ (fun o' ho' => hd o' (List.mem_cons_of_mem _ ho')) (fun k hk m hm => ?_)
    rcases List.mem_cons.1 hk with rfl | hk
    · have := hd o (List.mem_cons_self ..)
      unfold dstOk at this
      have hm' : o.dst = some m := hm
      rw [hm'] at this
      exact blt_iff.1 this
    · exact h k hk m hm
theorem seq_sound (hT : TTok P tt) (he : EnOk ν en) {W : Bas} {call : Nat → List V → H → R1} (hcall : CallOk P ν W call) (hm : MtsOk P en.mts) (hnt : nt ≤ 100000) {Q : Exit → Act → World → Prop} :
    ∀ (l : List Oper) (i : Nat) (tk : List Tk) (r : List V) (h : H) (ρ : Pl) (a : Act) (w : World) (r' : List V) (h' : H), ops.toList.drop i = l → (∀ o ∈ l, dstOk nt o = true) → (∀ k ∈ tk, ∀ m, k.dst = some m → m < nt) →
      runIts en call t (trSeq tt l i tk).1 r h = .ok r' h' → Rel ν W ρ h w → Cur Df ν ρ nt ops t tk r a →
      (∀ ρ' a' w', Rel ν W ρ' h' w' → Ext h ρ h' ρ' → Cur Df ν ρ' nt ops t (trSeq tt l i tk).2 r' a' → Q .normal a' w') → wpOps P ops Q (List.range' i l.length) a w
  | [], i, tk, r, h, ρ, a, w, r', h', _, _, _, hv, R, C, hQ => by
    have hv' : RR.ok r h = .ok r' h' := hv
    injection hv' with g1 g2; subst g1; subst g2
    exact hQ ρ a w R (Ext.refl _ _) C
  | o :: l, i, tk, r, h, ρ, a, w, r', h', hl, hd, hdt, hv, R, C, hQ => by
    have hoi : ops[i]? = some o := by
      have := congrArg (fun x => x[0]?) hl
      simpa using this
    have hl' : ops.toList.drop (i + 1) = l := by
      have := congrArg List.tail hl
      simpa using this
    rw [List.length_cons, List.range'_succ, wpOps_cons]
    unfold wpOp
    simp only [hoi]
    -- the item
    cases hg : trGuard tk o with
    | none =>
      exfalso
      have hv' : runIts en call t ((takeOp tt false tk i o).2 :: (trSeq tt l (i + 1) ((takeOp tt false tk i o).1 :: tk)).1) r h = .ok r' h' := hv
      have hk : (takeOp tt false tk i o).2 = .mk none (no 128) [] := by simp [takeOp, hg]
      rw [hk] at hv'
      have : RR.bad 128 = RR.ok r' h' := hv'
      cases this
    | some g =>
      have hk : (takeOp tt false tk i o).2 = .mk g (trK tt (tk.map (·.dst)) o.op) [] := by simp [takeOp, hg]
      have hv' : runIts en call t ((takeOp tt false tk i o).2 :: (trSeq tt l (i + 1) ((takeOp tt false tk i o).1 :: tk)).1) r h = .ok r' h' := hv
      rw [hk] at hv'
      have hv2 : r1 (doG en call (src r t) h g (trK tt (tk.map (·.dst)) o.op)) RR.bad (fun v h1 => runIts en call t (trSeq tt l (i + 1) ((takeOp tt false tk i o).1 :: tk)).1 (v :: r) h1) = .ok r' h' := hv'
      have hopR := C.opR o.op.operands.toList
      have hdo : ∀ m, o.dst = some m → m < nt := fun m e => by
        have := hd o (List.mem_cons_self ..)
        unfold dstOk at this
        rw [e] at this
        exact blt_iff.1 this
      have hdt' : ∀ k ∈ (takeOp tt false tk i o).1 :: tk, ∀ m, k.dst = some m → m < nt := fun k hk m hm => by
        rcases List.mem_cons.1 hk with rfl | hk
        · exact hdo m hm
        · exact hdt k hk m hm
      have next : ∀ (v : V) (h1 : H) (ρ1 : Pl) (u : Value) (w1 : World), runIts en call t (trSeq tt l (i + 1) ((takeOp tt false tk i o).1 :: tk)).1 (v :: r) h1 = .ok r' h' → Rel ν W ρ1 h1 w1 → VR ν ρ1 v u → Ext h ρ h1 ρ1 →
          wpOps P ops Q (List.range' (i + 1) l.length) (a.put o.dst u) w1 := by
        intro v h1 ρ1 u w1 hrun R1' hvr hE
        have C1 : Cur Df ν ρ1 nt ops t ((takeOp tt false tk i o).1 :: tk) (v :: r) (a.put o.dst u) := (C.mono hE.le).put (k := (takeOp tt false tk i o).1) ⟨o, hoi, rfl⟩ hdo hvr
        exact seq_sound hT he hcall hm hnt l (i + 1) _ (v :: r) h1 ρ1 _ w1 r' h' hl' (fun o' ho' => hd o' (List.mem_cons_of_mem _ ho')) hdt' hrun R1' C1 (fun ρ' a' w' R' E' C' => hQ ρ' a' w' R' (hE.trans E') C')
      cases hw : want (src r t) g with
      | none =>
        have : doG en call (src r t) h g (trK tt (tk.map (·.dst)) o.op) = R1.bad 81 := by unfold doG; rw [hw]; rfl
        rw [this] at hv2; cases hv2
      | some b =>
        have hwant := C.wanted hnt hdt hg hw
        cases b with
        | false =>
          have hdg : doG en call (src r t) h g (trK tt (tk.map (·.dst)) o.op) = R1.ok (V.u []) h := by unfold doG; rw [hw]; rfl
          rw [hdg] at hv2
          rw [hwant]
          simp only [Bool.false_eq_true, if_false]
          exact next (V.u []) h ρ undef w hv2 R (undef_iff.2 rfl) (Ext.refl _ _)
        | true =>
          have hdg : doG en call (src r t) h g (trK tt (tk.map (·.dst)) o.op) = doK (trK tt (tk.map (·.dst)) o.op) en call (src r t) h := by unfold doG; rw [hw]; rfl
          rw [hdg] at hv2
          rw [hwant]
          simp only [if_true]
          left
          cases hdk : doK (trK tt (tk.map (·.dst)) o.op) en call (src r t) h with
          | bad n => rw [hdk] at hv2; cases hv2
          | ok v h1 =>
            rw [hdk] at hv2
            refine step_sound hT he R hcall hm hopR hdk _ Q (fun u w1 ha => ?_)
            obtain ⟨ρ1, R1', hvr, hE⟩ := ha
            exact next v h1 ρ1 u w1 hv2 R1' hvr hE
end Ev
end Go.Proofs.Ytlajbngfdbnoiaa
