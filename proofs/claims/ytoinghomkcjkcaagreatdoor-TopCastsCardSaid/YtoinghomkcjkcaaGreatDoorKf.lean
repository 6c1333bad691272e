/- Functions whose answers are told by contracts: what an override of the evaluator must show. -/
import Derived.Test.YtoinghomkcjkcaaGreatDoorKd
import Derived.Test.YtoinghomkcjkcaaGreatDoorKe
namespace Go.Proofs.YtoinghomkcjkcaaGreatDoor
set_option linter.unusedSimpArgs false
set_option linter.unusedVariables false
set_option linter.constructorNameAsVariable false
open Go Go.RowKit
namespace Ev
variable {P : Program} {ν : Nat → Int} {ρ : Pl} {w w' : World}
theorem ObjR.stays {b c n : Nat} {ob : O} (h : ObjR ν ρ w b c n ob) (hb : Below w.heap.size w w') (hlt : b < w.heap.size) : ObjR ν ρ w' b c n ob := by
  have e := hb.block b hlt
  cases ob with
  | c l p wn => obtain ⟨cs, e0, fz, h1, h2⟩ := h; exact ⟨cs, e0, fz, e.trans h1, h2⟩
  | m es => obtain ⟨ms, ck, h1, h2⟩ := h; exact ⟨ms, ck, e.trans h1, h2⟩
/-- What only adds to memory, and names nothing of what it adds, leaves all as it is. -/
theorem Rel.stays {W : Bas} {h : H} (R : Rel ν W ρ h w) (hb : Below w.heap.size w w') : Rel ν W ρ h w' where
  below := R.below.trans (hb.mono R.below.size)
  ob x o ho b c n hx := (R.ob x o ho b c n hx).stays hb (R.lt x b c n hx).1
  lt x b c n hx := ⟨Nat.lt_of_lt_of_le (R.lt x b c n hx).1 hb.size, (R.lt x b c n hx).2⟩
  dom := R.dom
  mine := R.mine
  sep := R.sep
  par := R.par
  parlt := R.parlt
  base := R.base
  kp p hp := ⟨(hb.block p.1 (Array.getElem?_eq_some_iff.1 (R.kp p hp).1).1).trans (R.kp p hp).1, (R.kp p hp).2⟩
/-- A function that answers, and leaves all that was there as it was. -/
theorem call1_pure {W : Bas} {g : Nat} {as : List V} {h : H} {v : V} (he : ∀ args w, (callFunc g args).run P w = .ok (.enter g args) w)
    (hc : ∀ (ρ : Pl) (args : List Value) (w : World), Rel ν W ρ h w → VRs ν ρ as args → Calls P g args.toArray w (fun e w' => ∃ u, e = .returned u ∧ VR ν ρ v u ∧ Below w.heap.size w w')) : Call1 P ν W g as h v h :=
  ⟨he, fun ρ args w R ha => (hc ρ args w R ha).mono fun e w' k => by
    obtain ⟨u, h1, h2, h3⟩ := k
    exact ⟨u, h1, ρ, R.stays h3, h2, Ext.refl h ρ⟩⟩
end Ev
end Go.Proofs.YtoinghomkcjkcaaGreatDoor
/- What an evaluation made, laid into another memory: a call that is told once for all. -/
namespace Go.Proofs.YtoinghomkcjkcaaGreatDoor
set_option linter.unusedSimpArgs false
set_option linter.unusedVariables false
set_option linter.constructorNameAsVariable false
open Go Go.RowKit
namespace Ev
variable {P : Program} {ν : Nat → Int} {ρ : Pl} {w w' : World}
noncomputable section
/-- names turned -/
def renV (f : BP → Option BP) : V → V := V.rec (motive_1 := fun _ => V) (motive_2 := fun _ => List V) V.x (fun b => V.b b) (fun k z => V.i k z) (fun l => V.s l) V.p0 (fun x o => ocase (f x) V.x (fun y => V.p y o)) V.s0 (fun x o => V.e x o) (fun x o s n => ocase (f x) V.x (fun y => V.sl y o s n)) V.f0 (fun g _ _ a c => V.f g a c) V.n0 (fun t _ v => V.n t v) (fun _ l => V.g l) (fun _ l => V.u l) V.m0 (fun x => ocase (f x) V.x (fun y => V.m y)) (fun _ _ _ => V.x) [] (fun _ _ a l => a :: l)
def renVs (f : BP → Option BP) : List V → List V := V.rec_1 (motive_1 := fun _ => V) (motive_2 := fun _ => List V) V.x (fun b => V.b b) (fun k z => V.i k z) (fun l => V.s l) V.p0 (fun x o => ocase (f x) V.x (fun y => V.p y o)) V.s0 (fun x o => V.e x o) (fun x o s n => ocase (f x) V.x (fun y => V.sl y o s n)) V.f0 (fun g _ _ a c => V.f g a c) V.n0 (fun t _ v => V.n t v) (fun _ l => V.g l) (fun _ l => V.u l) V.m0 (fun x => ocase (f x) V.x (fun y => V.m y)) (fun _ _ _ => V.x) [] (fun _ _ a l => a :: l)
def asc : List (BP × BP) → BP → Option BP := List.rec (motive := fun _ => BP → Option BP) (fun _ => none) (fun p _ ih x => bcase (bpEq p.1 x) (ih x) (some p.2))
def numb : List BP → BP → List (BP × BP) := List.rec (motive := fun _ => BP → List (BP × BP)) (fun _ => []) (fun x _ ih b => (x, b) :: ih (succ b))
def cellIs (f : BP → Option BP) (c lit : V) : Bool := bcase (isT 0 lit) (vBeq (renV f c) lit) true
def cellsIs (f : BP → Option BP) : List V → List V → Bool := List.rec (motive := fun _ => List V → Bool) (fun m => lcase m true (fun _ _ => false)) (fun a _ ih m => lcase m false (fun b t => bcase (cellIs f a b) false (ih t)))
def blkIs (f : BP → Option BP) (o : Option O) (lit : List V) : Bool := onC o false (fun l p wn => bcase wn false (bcase (ocase p true (fun y => ocase (f y) true (fun _ => false))) false (cellsIs f l lit)))
def blksIs (f : BP → Option BP) (h : H) : List BP → BP → List (List V) → Bool := List.rec (motive := fun _ => BP → List (List V) → Bool) (fun _ os => lcase os true (fun _ _ => false))
  (fun x _ ih b os => lcase os false (fun l t => bcase (ocase (f x) false (fun y => bpEq y b)) false (bcase (blkIs f (obj h x) l) false (ih (succ b) t))))
/-- blocks that lie there as told: their names, and what they hold -/
abbrev Ins := List (BP × List V)
def isIn (x : BP) : Ins → Bool := List.rec (motive := fun _ => Bool) false (fun p _ ih => bcase (bpEq p.1 x) ih true)
def idf (x : BP) : Option BP := some x
def insA (h : H) (L : Ins) (p : BP × List V) : Bool := onC (obj h p.1) false (fun l' q _ => bcase (cellsIs idf l' p.2) false (ocase q true (fun y => bcase (isIn y L) true false)))
def insB' (h : H) (L : Ins) : Ins → Bool := List.rec (motive := fun _ => Bool) true (fun p _ ih => bcase (insA h L p) false ih)
def insB (h : H) (L : Ins) : Bool := insB' h L L
def hIn (base : BP) (L : Ins) : H := H.mk base (List.rec (motive := fun _ => Tr O) .lf (fun p _ ih => set p.1 (some (O.c p.2 none false)) ih) L)
def asc2 (L : Ins) (ns : List BP) (base x : BP) : Option BP := bcase (isIn x L) (asc (numb ns base) x) (some x)
/-- These blocks, so named, are what was made; the answer is this. -/
def memoB (L : Ins) (ns : List BP) (base : BP) (v : V) (os : List (List V)) (r : R1) : Bool := R1.rec (motive := fun _ => Bool) (fun _ => false) (fun v1 h1 => bcase (cellIs (asc2 L ns base) v1 v) false (blksIs (asc2 L ns base) h1 ns base os)) r
def pushL : List (List V) → H → H := List.rec (motive := fun _ => H → H) (fun h => h) (fun l _ ih h => ih (addO h (O.c l none true)))
end
section
variable {ρ ρ' : Pl} {f : BP → Option BP}
mutual
theorem VR.ren (hf : ∀ x y p, f x = some y → ρ x = some p → ρ' y = some p) : ∀ (v : V) (u : Value), VR ν ρ v u → VR ν ρ' (renV f v) u
  | .x, _, _ => by show VR ν ρ' .x _; simp only [VR]
  | .b x, u, k => by show VR ν ρ' (.b x) u; simpa only [VR] using k
  | .i a z, u, k => by show VR ν ρ' (.i a z) u; simpa only [VR] using k
  | .s l, u, k => by show VR ν ρ' (.s l) u; simpa only [VR] using k
  | .p0, u, k => by show VR ν ρ' .p0 u; simpa only [VR] using k
  | .p x o, u, k => by
    show VR ν ρ' (ocase (f x) V.x (fun y => V.p y o)) u
    cases e : f x with
    | none => show VR ν ρ' V.x u; simp only [VR]
    | some y => show VR ν ρ' (V.p y o) u; simp only [VR] at k ⊢; obtain ⟨b, c, n, e1, k⟩ := k; exact ⟨b, c, n, hf _ _ _ e e1, k⟩
  | .s0, u, k => by show VR ν ρ' .s0 u; simpa only [VR] using k
  | .e x o, u, k => by show VR ν ρ' (.e x o) u; simpa only [VR] using k
  | .sl x o sz len, u, k => by
    show VR ν ρ' (ocase (f x) V.x (fun y => V.sl y o sz len)) u
    cases e : f x with
    | none => show VR ν ρ' V.x u; simp only [VR]
    | some y => show VR ν ρ' (V.sl y o sz len) u; simp only [VR] at k ⊢; obtain ⟨b, c, n, cap, p, e1, k⟩ := k; exact ⟨b, c, n, cap, p, hf _ _ _ e e1, k⟩
  | .f0, u, k => by show VR ν ρ' .f0 u; simpa only [VR] using k
  | .f g a c, u, k => by show VR ν ρ' (.f g (renVs f a) (renVs f c)) u; simp only [VR] at k ⊢; obtain ⟨xs, ys, e, k1, k2⟩ := k; exact ⟨xs, ys, e, VRs.ren hf _ _ k1, VRs.ren hf _ _ k2⟩
  | .n0, u, k => by show VR ν ρ' .n0 u; simpa only [VR] using k
  | .n t v, u, k => by show VR ν ρ' (.n t (renV f v)) u; simp only [VR] at k ⊢; obtain ⟨w, e, k⟩ := k; exact ⟨w, e, VR.ren hf _ _ k⟩
  | .g l, u, k => by show VR ν ρ' (.g (renVs f l)) u; simp only [VR] at k ⊢; obtain ⟨w, e, k⟩ := k; exact ⟨w, e, VRs.ren hf _ _ k⟩
  | .u l, u, k => by show VR ν ρ' (.u (renVs f l)) u; simp only [VR] at k ⊢; obtain ⟨w, e, k⟩ := k; exact ⟨w, e, VRs.ren hf _ _ k⟩
  | .m0, u, k => by show VR ν ρ' .m0 u; simpa only [VR] using k
  | .m x, u, k => by
    show VR ν ρ' (ocase (f x) V.x (fun y => V.m y)) u
    cases e : f x with
    | none => show VR ν ρ' V.x u; simp only [VR]
    | some y => show VR ν ρ' (V.m y) u; simp only [VR] at k ⊢; obtain ⟨b, n, e1, k⟩ := k; exact ⟨b, n, hf _ _ _ e e1, k⟩
  | .sy x z l, u, k => by show VR ν ρ' .x u; simp only [VR]
theorem VRs.ren (hf : ∀ x y p, f x = some y → ρ x = some p → ρ' y = some p) : ∀ (v : List V) (u : List Value), VRs ν ρ v u → VRs ν ρ' (renVs f v) u
  | [], u, k => by show VRs ν ρ' [] u; simpa only [VRs] using k
  | v :: vs, u, k => by show VRs ν ρ' (renV f v :: renVs f vs) u; simp only [VRs] at k ⊢; obtain ⟨u, us, e, k1, k2⟩ := k; exact ⟨u, us, e, VR.ren hf _ _ k1, VRs.ren hf _ _ k2⟩
end
theorem cellIs_ok (hf : ∀ x y p, f x = some y → ρ x = some p → ρ' y = some p) {c lit : V} (h : cellIs f c lit = true) {u : Value} (k : VR ν ρ c u) : VR ν ρ' lit u := by
  cases e : isT 0 lit with
  | true => cases lit <;> first | (cases e; done) | simp only [VR]
  | false =>
    have h' : bcase (isT 0 lit) (vBeq (renV f c) lit) true = true := h
    rw [e] at h'
    have := vBeq_eq _ _ h'
    rw [← this]; exact VR.ren hf c u k
theorem cellsIs_get : ∀ {l lit : List V}, cellsIs f l lit = true → l.length = lit.length ∧ ∀ (i : Nat) (b : V), lit[i]? = some b → ∃ a, l[i]? = some a ∧ cellIs f a b = true
  | [], lit, h => by
    cases lit with
    | nil => exact ⟨rfl, fun i b e => by simp at e⟩
    | cons b t => exact absurd (show false = true from h) (by simp)
  | a :: l, lit, h => by
    obtain ⟨b, t, rfl, h⟩ := lcase_ne (show lcase lit false (fun b t => bcase (cellIs f a b) false (cellsIs f l t)) = true from h) (by simp)
    obtain ⟨h1, h2⟩ := bcase_ne h (by simp)
    obtain ⟨e, k⟩ := cellsIs_get h2
    refine ⟨by simp [e], fun i c ec => ?_⟩
    cases i with
    | zero => obtain rfl : b = c := by simpa using ec
              exact ⟨a, rfl, h1⟩
    | succ i => simpa using k i c (by simpa using ec)
theorem blksIs_get {h : H} : ∀ {ns : List BP} {b : BP} {os : List (List V)}, blksIs f h ns b os = true → os.length = ns.length ∧ ∀ (i : Nat) (l : List V), os[i]? = some l → ∃ x y, ns[i]? = some x ∧ f x = some y ∧ bpN y = bpN b + i ∧ blkIs f (obj h x) l = true
  | [], b, os, hh => by
    cases os with
    | nil => exact ⟨rfl, fun i b e => by simp at e⟩
    | cons b t => exact absurd (show false = true from hh) (by simp)
  | x :: ns, b, os, hh => by
    obtain ⟨l, t, rfl, h1⟩ := lcase_ne (show lcase os false (fun l t => bcase (ocase (f x) false (fun y => bpEq y b)) false (bcase (blkIs f (obj h x) l) false (blksIs f h ns (succ b) t))) = true from hh) (by simp)
    obtain ⟨h2, h1⟩ := bcase_ne h1 (by simp)
    obtain ⟨h3, h1⟩ := bcase_ne h1 (by simp)
    obtain ⟨y, e1, e2⟩ := ocase_ne h2 (by simp)
    obtain ⟨e, k⟩ := blksIs_get h1
    refine ⟨by simp [e], fun i c ec => ?_⟩
    cases i with
    | zero =>
      obtain rfl : l = c := by simpa using ec
      exact ⟨x, y, rfl, e1, by rw [(bpEq_iff _ _).1 e2]; rfl, h3⟩
    | succ i =>
      obtain ⟨x', y', k1, k2, k3, k4⟩ := k i c (by simpa using ec)
      exact ⟨x', y', by simpa using k1, k2, by rw [k3, bpN_succ]; omega, k4⟩
theorem asc_numb : ∀ {ns : List BP} {b x y : BP}, asc (numb ns b) x = some y → ∃ i, ns[i]? = some x ∧ bpN y = bpN b + i
  | [], b, x, y, h => by cases h
  | n :: ns, b, x, y, h => by
    have h' : bcase (bpEq n x) (asc (numb ns (succ b)) x) (some b) = some y := h
    cases e : bpEq n x with
    | true =>
      rw [e] at h'
      obtain rfl : b = y := Option.some.inj h'
      obtain rfl := (bpEq_iff _ _).1 e
      exact ⟨0, rfl, rfl⟩
    | false =>
      rw [e] at h'
      obtain ⟨i, h1, h2⟩ := asc_numb (show asc (numb ns (succ b)) x = some y from h')
      exact ⟨i + 1, by simpa using h1, by rw [h2, bpN_succ]; omega⟩
theorem nx_pushL : ∀ (os : List (List V)) (h : H), bpN (nx (pushL os h)) = bpN (nx h) + os.length
  | [], h => rfl
  | l :: os, h => by show bpN (nx (pushL os (addO h _))) = _; rw [nx_pushL os, nx_addO]; simp; omega
theorem obj_pushL : ∀ {os : List (List V)} {h : H} {y : BP} {o : O}, obj (pushL os h) y = some o → obj h y = some o ∨ ∃ i l, os[i]? = some l ∧ bpN y = bpN (nx h) + i ∧ o = .c l none true
  | [], h, y, o, e => .inl e
  | l :: os, h, y, o, e => by
    rcases obj_pushL (show obj (pushL os (addO h (O.c l none true))) y = some o from e) with e0 | ⟨i, l', e1, e2, e3⟩
    · rw [obj_addO] at e0
      split at e0
      · rename_i hy; exact .inr ⟨0, l, rfl, by rw [hy]; rfl, (Option.some.inj e0).symm⟩
      · exact .inl e0
    · exact .inr ⟨i + 1, l', by simpa using e1, by rw [e2, nx_addO]; omega, e3⟩
end
theorem isIn_mem : ∀ {L : Ins} {x : BP}, isIn x L = true → ∃ l, (x, l) ∈ L
  | [], x, h => by cases h
  | p :: L, x, h => by
    have h' : bcase (bpEq p.1 x) (isIn x L) true = true := h
    cases e : bpEq p.1 x with
    | true => obtain rfl := (bpEq_iff _ _).1 e; exact ⟨p.2, List.mem_cons_self ..⟩
    | false => rw [e] at h'; obtain ⟨l, hl⟩ := isIn_mem (show isIn x L = true from h'); exact ⟨l, List.mem_cons_of_mem _ hl⟩
theorem mem_isIn : ∀ {L : Ins} {p : BP × List V}, p ∈ L → isIn p.1 L = true
  | [], p, h => by cases h
  | q :: L, p, h => by
    show bcase (bpEq q.1 p.1) (isIn p.1 L) true = true
    rcases List.mem_cons.1 h with rfl | h
    · rw [(bpEq_iff _ _).2 rfl]; rfl
    · rw [mem_isIn h]; cases bpEq q.1 p.1 <;> rfl
theorem insB'_get {h : H} {L : Ins} : ∀ {M : Ins}, insB' h L M = true → ∀ p ∈ M, insA h L p = true
  | [], _, p, hp => by cases hp
  | q :: M, e, p, hp => by
    obtain ⟨h1, h2⟩ := bcase_ne (show bcase (insA h L q) false (insB' h L M) = true from e) (by simp)
    rcases List.mem_cons.1 hp with rfl | hp
    · exact h1
    · exact insB'_get h2 p hp
theorem insB_get {h : H} {L : Ins} (e : insB h L = true) {p : BP × List V} (hp : p ∈ L) : ∃ l' q wn, obj h p.1 = some (.c l' q wn) ∧ cellsIs idf l' p.2 = true ∧ ∀ y, q = some y → isIn y L = false := by
  obtain ⟨l', q, wn, h1, h2⟩ := onC_ne (show onC (obj h p.1) false (fun l' q _ => bcase (cellsIs idf l' p.2) false (ocase q true (fun y => bcase (isIn y L) true false))) = true from insB'_get e p hp) (by simp)
  obtain ⟨h3, h4⟩ := bcase_ne h2 (by simp)
  refine ⟨l', q, wn, h1, h3, fun y hy => ?_⟩
  subst hy
  have h5 : bcase (isIn y L) true false = true := h4
  cases e : isIn y L with
  | false => rfl
  | true => rw [e] at h5; cases h5
theorem hIn_obj {base : BP} : ∀ {L : Ins} {x : BP} {o : O}, obj (hIn base L) x = some o → ∃ p ∈ L, x = p.1 ∧ o = .c p.2 none false
  | [], x, o, h => by rw [show obj (hIn base []) x = get x .lf from rfl, get_lf] at h; cases h
  | p :: L, x, o, h => by
    rw [show obj (hIn base (p :: L)) x = get x (set p.1 (some (O.c p.2 none false)) (mem (hIn base L))) from rfl, get_set] at h
    split at h
    · rename_i e; exact ⟨p, List.mem_cons_self .., e, (Option.some.inj h).symm⟩
    · obtain ⟨q, h1, h2⟩ := hIn_obj (base := base) (L := L) h; exact ⟨q, List.mem_cons_of_mem _ h1, h2⟩
/-- Of what lies there some is looked at alone, and kept. -/
theorem Rel.ins {W : Bas} {h : H} (R : Rel ν W ρ h w) {L : Ins} (hi : insB h L = true) : Rel ν (Bas.of w ρ) ρ (hIn (nx h) L) w := by
  refine ⟨Below.refl _ _, ?_, R.lt, ?_, ?_, ?_, ?_, ?_, Pl.le_refl _, fun p hp => by cases hp⟩
  · intro x o ho b c n hx
    obtain ⟨p, hp, rfl, rfl⟩ := hIn_obj ho
    obtain ⟨l', q, wn, h1, h2, h3⟩ := insB_get hi hp
    obtain ⟨cs, e, fz, q1, q2, q3, q4, q5⟩ := R.ob p.1 _ h1 b c n hx
    obtain ⟨r1, r2⟩ := cellsIs_get h2
    refine ⟨cs, e, fz, q1, q2, fun e => (by cases e), by omega, fun j vv hj => ?_⟩
    obtain ⟨a, s1, s2⟩ := r2 j vv hj
    obtain ⟨uu, s3, s4⟩ := q5 j a s1
    exact ⟨uu, s3, cellIs_ok (fun x y p e e1 => by obtain rfl := Option.some.inj (show some x = some y from e); exact e1) s2 s4⟩
  · intro x o ho
    obtain ⟨p, hp, rfl, rfl⟩ := hIn_obj ho
    obtain ⟨l', q, wn, h1, h2, h3⟩ := insB_get hi hp
    exact R.dom p.1 _ h1
  · intro x o ho hw
    obtain ⟨p, hp, rfl, rfl⟩ := hIn_obj ho
    cases hw
  · intro x y ox oy hx hy hne b c n c' n' e1 e2
    obtain ⟨p, hp, rfl, rfl⟩ := hIn_obj hx
    obtain ⟨p', hp', rfl, rfl⟩ := hIn_obj hy
    obtain ⟨l1, q1, w1, a1, _, a3⟩ := insB_get hi hp
    obtain ⟨l2, q2, w2, b1, _, b3⟩ := insB_get hi hp'
    exfalso
    rcases R.sep p.1 p'.1 _ _ a1 b1 hne b c n c' n' e1 e2 with g | g
    · have := a3 _ g; rw [mem_isIn hp'] at this; cases this
    · have := b3 _ g; rw [mem_isIn hp] at this; cases this
  · intro x o z ho hp'
    obtain ⟨p, hp, rfl, rfl⟩ := hIn_obj ho
    cases hp'
  · intro x o z ho hp'
    obtain ⟨p, hp, rfl, rfl⟩ := hIn_obj ho
    cases hp'
/-- The laying itself. -/
theorem Rel.memo {W : Bas} {h : H} (R : Rel ν W ρ h w) {ρ1 : Pl} {h1 : H} {L : Ins} (hi : insB h L = true) (S : Rel ν (Bas.of w ρ) ρ1 h1 w') (X : Ext (hIn (nx h) L) ρ h1 ρ1) {ns : List BP} {v v1 : V} {os : List (List V)} (hb : memoB L ns (nx h) v os (.ok v1 h1) = true) {u : Value} (hv : VR ν ρ1 v1 u) :
    After ν W h ρ (pushL os h) v u w' := by
  have hbel : Below w.heap.size w w' := S.below
  obtain ⟨k1, k2⟩ := bcase_ne (show bcase (cellIs (asc2 L ns (nx h)) v1 v) false (blksIs (asc2 L ns (nx h)) h1 ns (nx h) os) = true from hb) (by simp)
  obtain ⟨hlen, hget⟩ := blksIs_get k2
  have hasc : ∀ {x y : BP}, asc2 L ns (nx h) x = some y → (bpN x < bpN (nx h) ∧ y = x) ∨ ∃ i, ns[i]? = some x ∧ bpN y = bpN (nx h) + i := by
    intro x y e
    have e' : bcase (isIn x L) (asc (numb ns (nx h)) x) (some x) = some y := e
    cases e0 : isIn x L with
    | true =>
      rw [e0] at e'
      obtain ⟨l, hl⟩ := isIn_mem e0
      obtain ⟨l', q, wn, g1, _⟩ := insB_get hi hl
      exact .inl ⟨R.dom _ _ g1, (Option.some.inj (show some x = some y from e')).symm⟩
    | false => rw [e0] at e'; exact .inr (asc_numb (show asc (numb ns (nx h)) x = some y from e'))
  let ρ' : Pl := fun y => if bpN y < bpN (nx h) then ρ y else (ns[bpN y - bpN (nx h)]?).bind ρ1
  have hold : ∀ y, bpN y < bpN (nx h) → ρ' y = ρ y := fun y hy => if_pos hy
  have hnew : ∀ y i x, bpN y = bpN (nx h) + i → ns[i]? = some x → ρ' y = ρ1 x := by
    intro y i x hy hx
    show (if bpN y < bpN (nx h) then ρ y else (ns[bpN y - bpN (nx h)]?).bind ρ1) = ρ1 x
    rw [if_neg (by omega), show bpN y - bpN (nx h) = i by omega, hx]; rfl
  have hle : ρ.le ρ' := fun x p e => by obtain ⟨b, c, n⟩ := p; rw [hold x (R.lt x b c n e).2]; exact e
  have hren : ∀ x y p, asc2 L ns (nx h) x = some y → ρ1 x = some p → ρ' y = some p := by
    intro x y p e e1
    rcases hasc e with ⟨e2, rfl⟩ | ⟨i, e2, e3⟩
    · rw [hold _ e2]
      cases e4 : ρ y with
      | none => rw [X.idle y e4 e2] at e1; cases e1
      | some q => rw [X.le y q e4] at e1; exact e1
    · rw [hnew y i x e3 e2]; exact e1
  -- what a new name is
  have new : ∀ i l y, os[i]? = some l → bpN y = bpN (nx h) + i → ∃ x l1 p1, ns[i]? = some x ∧ ρ' y = ρ1 x ∧ asc2 L ns (nx h) x = some y ∧ obj h1 x = some (.c l1 p1 true) ∧ (∀ z, p1 = some z → asc2 L ns (nx h) z = none) ∧ cellsIs (asc2 L ns (nx h)) l1 l = true := by
    intro i l y hl hy
    obtain ⟨x, y', e1, e2, e3, e4⟩ := hget i l hl
    obtain ⟨l1, p1, w1, e5, e6⟩ := onC_ne e4 (by simp)
    obtain ⟨rfl, e6b⟩ := bcase_ne e6 (by simp)
    obtain ⟨e7, e8⟩ := bcase_ne e6b (by simp)
    obtain rfl : y = y' := bpN_inj _ _ (by omega)
    refine ⟨x, l1, p1, e1, hnew y i x hy e1, e2, e5, fun z hz => ?_, e8⟩
    subst hz
    have e7' : ocase (asc2 L ns (nx h) z) true (fun _ => false) = true := e7
    cases e : asc2 L ns (nx h) z with
    | none => rfl
    | some q => rw [e] at e7'; cases e7'
  have bpne : ∀ {y y' : BP} {i i' : Nat}, bpN y = bpN (nx h) + i → bpN y' = bpN (nx h) + i' → y ≠ y' → i ≠ i' := fun e1 e2 hn hi => hn (bpN_inj _ _ (by omega))
  refine ⟨ρ', ⟨R.below.trans (hbel.mono R.below.size), ?_, ?_, ?_, ?_, ?_, ?_, ?_, Pl.le_trans R.base hle, fun p hp => ⟨(hbel.block p.1 (Array.getElem?_eq_some_iff.1 (R.kp p hp).1).1).trans (R.kp p hp).1, (R.kp p hp).2⟩⟩, cellIs_ok hren k1 hv, hle, fun x e hx => (hold x hx).trans e, by rw [nx_pushL]; omega⟩
  · intro y o ho b c n hy
    rcases obj_pushL ho with ho | ⟨i, l, e1, e2, rfl⟩
    · rw [hold y (R.dom y o ho)] at hy
      exact ((R.ob y o ho b c n hy).stays hbel (R.lt y b c n hy).1).mono hle
    · obtain ⟨x, l1, p1, g1, g2, g3, g4, g5, g6⟩ := new i l y e1 e2
      rw [g2] at hy
      obtain ⟨cs, e, fz, q1, q2, q3, q4, q5⟩ := S.ob x _ g4 b c n hy
      obtain ⟨r1, r2⟩ := cellsIs_get g6
      refine ⟨cs, e, fz, q1, q2, q3, by omega, fun j vv hj => ?_⟩
      obtain ⟨a, s1, s2⟩ := r2 j vv hj
      obtain ⟨uu, s3, s4⟩ := q5 j a s1
      exact ⟨uu, s3, cellIs_ok hren s2 s4⟩
  · intro y b c n hy
    by_cases hlt : bpN y < bpN (nx h)
    · rw [hold y hlt] at hy
      exact ⟨Nat.lt_of_lt_of_le (R.lt y b c n hy).1 hbel.size, by rw [nx_pushL]; omega⟩
    · have hy' : (ns[bpN y - bpN (nx h)]?).bind ρ1 = some (b, c, n) := by rw [← hy]; exact (if_neg hlt).symm
      cases e : ns[bpN y - bpN (nx h)]? with
      | none => rw [e] at hy'; cases hy'
      | some x =>
        rw [e] at hy'
        have := (List.getElem?_eq_some_iff.1 e).1
        exact ⟨(S.lt x b c n hy').1, by rw [nx_pushL, hlen]; omega⟩
  · intro y o ho
    rw [nx_pushL]
    rcases obj_pushL ho with ho | ⟨i, l, e1, e2, rfl⟩
    · have := R.dom y o ho; omega
    · have := (List.getElem?_eq_some_iff.1 e1).1; omega
  · intro y o ho hw b c n hy
    rcases obj_pushL ho with ho | ⟨i, l, e1, e2, rfl⟩
    · rw [hold y (R.dom y o ho)] at hy
      exact R.mine y o ho hw b c n hy
    · obtain ⟨x, l1, p1, g1, g2, g3, g4, g5, g6⟩ := new i l y e1 e2
      rw [g2] at hy
      have := S.mine x _ g4 rfl b c n hy
      exact Nat.le_trans R.below.size this
  · intro y z oy oz hy hz hne b c n c' n' e1 e2
    rcases obj_pushL hy with hy | ⟨i, l, a1, a2, rfl⟩ <;> rcases obj_pushL hz with hz | ⟨i', l', b1, b2, rfl⟩
    · rw [hold y (R.dom y _ hy)] at e1
      rw [hold z (R.dom z _ hz)] at e2
      exact R.sep y z oy oz hy hz hne b c n c' n' e1 e2
    · rw [hold y (R.dom y _ hy)] at e1
      obtain ⟨x, l1, p1, g1, g2, g3, g4, g5, g6⟩ := new i' l' z b1 b2
      rw [g2] at e2
      have h1' := S.mine x _ g4 rfl b c' n' e2
      have h2' := (R.lt y b c n e1).1
      exact absurd (show w.heap.size ≤ b from h1') (by omega)
    · rw [hold z (R.dom z _ hz)] at e2
      obtain ⟨x, l1, p1, g1, g2, g3, g4, g5, g6⟩ := new i l y a1 a2
      rw [g2] at e1
      have h1' := S.mine x _ g4 rfl b c n e1
      have h2' := (R.lt z b c' n' e2).1
      exact absurd (show w.heap.size ≤ b from h1') (by omega)
    · obtain ⟨x, l1, p1, g1, g2, g3, g4, g5, g6⟩ := new i l y a1 a2
      obtain ⟨x', l1', p1', g1', g2', g3', g4', g5', g6'⟩ := new i' l' z b1 b2
      rw [g2] at e1
      rw [g2'] at e2
      have hxx : x ≠ x' := by
        rintro rfl
        rw [g3] at g3'
        exact hne (Option.some.inj g3')
      rcases S.sep x x' _ _ g4 g4' hxx b c n c' n' e1 e2 with q | q
      · have := g5 x' q; rw [g3'] at this; cases this
      · have := g5' x q; rw [g3] at this; cases this
  · intro y o z hy hp oz hz
    rcases obj_pushL hy with hy | ⟨i, l, a1, a2, rfl⟩
    · rcases obj_pushL hz with hz | ⟨i', l', b1, b2, rfl⟩
      · exact R.par y o z hy hp oz hz
      · have := R.parlt y o z hy hp; omega
    · cases hp
  · intro y o z hy hp
    rw [nx_pushL]
    rcases obj_pushL hy with hy | ⟨i, l, a1, a2, rfl⟩
    · have := R.parlt y o z hy hp; omega
    · cases hp
/-- A call that is told once: what it makes is laid behind what there is. -/
theorem sub_call1 {W : Bas} {g : Nat} {as : List V} {h : H} {L : Ins} {ns : List BP} {v v1 : V} {os : List (List V)} {h1 : H} (he : ∀ args w, (callFunc g args).run P w = .ok (.enter g args) w) (hi : insB h L = true) (hb : memoB L ns (nx h) v os (.ok v1 h1) = true)
    (hc : ∀ (ρ : Pl) (w : World), Rel ν W ρ h w → Call1 P ν (Bas.of w ρ) g as (hIn (nx h) L) v1 h1) : Call1 P ν W g as h v (pushL os h) :=
  ⟨he, fun ρ args w R ha => ((hc ρ w R).2 ρ args w (R.ins hi) ha).mono fun e w' k => by
    obtain ⟨u, k1, ρ1, k2, k3, k4⟩ := k
    exact ⟨u, k1, R.memo hi k2 k4 hb k3⟩⟩
/-- Any call, by functions of all three kinds, at any base. -/
theorem gcallT_ok {tt : TT} {fs : Fns} {W : Bas} (hT : TTok P tt) (hmo : P.follows .mixedOrders = true) {path : List (Cd × Bool)} {norm : List (Z × Z)} (hp : PathOk ν path) (hn : NormOk ν norm) {ov : Nat → List V → H → Option R1} {fns : Tr CF} {mts : Nat → String → Option Nat} {gl : List Nat}
    (hfn : FnsOk P (trF tt) fns) (h3 : FnsOk P (trF3 tt) fs.f3) (h4 : FnsOk P (trF4 tt) fs.f4) (hB : BackIt P fs.bk) (hm : MtsOk P mts) (hgt : GtOk ν W (enT path norm fns ov mts gl).gt) (hov : OvOk P ν W (enT path norm fns ov mts gl)) {d g : Nat} {as : List V} {h h' : H} {v : V} (hv : gcall fs (enT path norm fns ov mts gl) d g as h = .ok v h') : Call1 P ν W g as h v h' :=
  gcall_ok (P := P) (tt := tt) (ν := ν) (fs := fs) (en := enT path norm fns ov mts gl) (W := W) hT ⟨hp, hn⟩ hmo hm hfn h3 h4 hB hgt hov d g as h v h' hv
end Ev
end Go.Proofs.YtoinghomkcjkcaaGreatDoor
