/- Functions made of the small machine's codes: they do what the codes do. -/
import Derived.Test.YtlajbngfdbnoiaaEvZ
namespace Go.Proofs.Ytlajbngfdbnoiaa
set_option linter.unusedSimpArgs false
set_option linter.unusedVariables false
set_option linter.constructorNameAsVariable false
open Go Go.RowKit
namespace Ev
noncomputable section
abbrev Kr := List V → H → R1
abbrev Kn := Tr V → H → R1
inductive LA where | mk (f : List V → V)
inductive SA where | mk (f : List V → Tr V → V)
inductive AA where | mk (f : List V → Tr V → List V)
inductive PL where | mk (f : List V → Tr V → List (Nat × Nat × V))
inductive PA where | mk (f : Tr V → V)
inductive TA where | mk (f : V → Tr V → (Tr V → R1) → R1)
inductive IA where | mk (f : En → Cl → List V → Tr V → H → Kr → R1)
inductive MA where | mk (f : List V → Tr V → (Tr V → R1) → R1)
inductive CA where | mk (f : En → Cl → Nat → Tr V → H → Kn → (Nat → Tr V → H → R1) → Kn → R1)
inductive FF where | mk (n : Nat) (body : CA) (rs : List Rv)
-- operands
def onLA {β : Type} (f : (List V → V) → β) (x : LA) : β := LA.rec (motive := fun _ => β) f x
def onPA {β : Type} (f : (Tr V → V) → β) (x : PA) : β := PA.rec (motive := fun _ => β) f x
def onSA {β : Type} (f : (List V → Tr V → V) → β) (x : SA) : β := SA.rec (motive := fun _ => β) f x
def onAA {β : Type} (f : (List V → Tr V → List V) → β) (x : AA) : β := AA.rec (motive := fun _ => β) f x
def onPL {β : Type} (f : (List V → Tr V → List (Nat × Nat × V)) → β) (x : PL) : β := PL.rec (motive := fun _ => β) f x
def onTA {β : Type} (f : (V → Tr V → (Tr V → R1) → R1) → β) (x : TA) : β := TA.rec (motive := fun _ => β) f x
def onIA {β : Type} (f : (En → Cl → List V → Tr V → H → Kr → R1) → β) (x : IA) : β := IA.rec (motive := fun _ => β) f x
def onMA {β : Type} (f : (List V → Tr V → (Tr V → R1) → R1) → β) (x : MA) : β := MA.rec (motive := fun _ => β) f x
def onCA {β : Type} (f : (En → Cl → Nat → Tr V → H → Kn → (Nat → Tr V → H → R1) → Kn → R1) → β) (x : CA) : β := CA.rec (motive := fun _ => β) f x
def locS (g : List V → V) : LA := LA.mk (fun r => List.rec (motive := fun _ => V) V.x (fun _ l _ => g l) r)
def cLoc : Nat → LA := Nat.rec (LA.mk (fun r => List.rec (motive := fun _ => V) V.x (fun a _ _ => a) r)) (fun _ ih => onLA locS ih)
def pathE (g : Tr V → V) : PA := PA.mk (fun t => Tr.rec (motive := fun _ => V) V.x (fun l _ _ _ _ => g l) t)
def pathO (g : Tr V → V) : PA := PA.mk (fun t => Tr.rec (motive := fun _ => V) V.x (fun _ _ r _ _ => g r) t)
def cPath : BP → PA := BP.rec (PA.mk (fun t => Tr.rec (motive := fun _ => V) V.x (fun _ v _ _ _ => Option.rec (motive := fun _ => V) V.x (fun v => v) v) t)) (fun _ ih => onPA pathE ih) (fun _ ih => onPA pathO ih)
def saL (g : List V → V) : SA := SA.mk (fun r _ => g r)
def saP (g : Tr V → V) : SA := SA.mk (fun _ t => g t)
def cS : Src → SA := Src.rec (fun i => onLA saL (cLoc i)) (fun p => onPA saP (cPath p)) (fun v => SA.mk (fun _ _ => v))
def aaC (f : List V → Tr V → V) (g : List V → Tr V → List V) : AA := AA.mk (fun r t => f r t :: g r t)
def cSs : List Src → AA := List.rec (AA.mk (fun _ _ => [])) (fun s _ ih => onSA (fun f => onAA (aaC f) ih) (cS s))
def plC (a b : Nat) (f : List V → Tr V → V) (g : List V → Tr V → List (Nat × Nat × V)) : PL := PL.mk (fun r t => (a, b, f r t) :: g r t)
def cPs : List (Nat × Nat × Src) → PL := List.rec (PL.mk (fun _ _ => [])) (fun s _ ih => onSA (fun f => onPL (plC s.1 s.2.1 f) ih) (cS s.2.2))
-- what is laid into the frame
def setE (g : V → Tr V → (Tr V → R1) → R1) : TA := TA.mk (fun x t k => Tr.rec (motive := fun _ => R1) (g x Tr.lf (fun l => k (Tr.nd l none Tr.lf))) (fun l v r _ _ => g x l (fun l => k (Tr.nd l v r))) t)
def setO (g : V → Tr V → (Tr V → R1) → R1) : TA := TA.mk (fun x t k => Tr.rec (motive := fun _ => R1) (g x Tr.lf (fun r => k (Tr.nd Tr.lf none r))) (fun l v r _ _ => g x r (fun r => k (Tr.nd l v r))) t)
def cSet : BP → TA := BP.rec (TA.mk (fun x t k => Tr.rec (motive := fun _ => R1) (k (Tr.nd Tr.lf (some x) Tr.lf)) (fun l _ r _ _ => k (Tr.nd l (some x) r)) t)) (fun _ ih => onTA setE ih) (fun _ ih => onTA setO ih)
def maC (g : V → Tr V → (Tr V → R1) → R1) (a : List V → V) (m : List V → Tr V → (Tr V → R1) → R1) : MA := MA.mk (fun r t k => g (a r) t (fun t => m r t k))
def cCm : List (BP × Nat) → MA := List.rec (MA.mk (fun _ t k => k t)) (fun c _ ih => onTA (fun g => onLA (fun a => onMA (maC g a) ih) (cLoc c.2)) (cSet c.1))
def inB (n : Nat) : List (BP × Nat) → Bool := List.rec true (fun c _ ih => bcase (Nat.blt c.2 n) false ih)
-- lists
def nth' {α : Type} : Nat → List α → Option α := Nat.rec (fun l => List.rec none (fun a _ _ => some a) l) (fun _ ih l => List.rec none (fun _ t _ => ih t) l)
/-- a text as a tree (made once) -/
def trOf' : List Z → BP → Tr Z → Tr Z := List.rec (fun _ t => t) (fun z _ ih p t => ih (succ p) (set p (some z) t))
inductive TZ where | mk (t : Tr Z)
def tzOf (t : Tr Z) : TZ := Tr.rec (TZ.mk Tr.lf) (fun l v r _ _ => TZ.mk (Tr.nd l v r)) t
def txtTr (l : List Z) : TZ := tzOf (trOf' l BP.one Tr.lf)
def onTZ {β : Type} (f : Tr Z → β) (x : TZ) : β := TZ.rec (motive := fun _ => β) f x
def istr' (v i : V) : Option V := onS v none (fun l => bcase (Nat.ble (len l) 90000) none (asNat i none (fun k => bcase (Nat.blt k 90000) none (onTZ (fun t => ocase (get (bpOf k) t) none (fun z => some (V.i .u8 z))) (txtTr l)))))
-- results
def okK (o : Option V) (h : H) (r : List V) (k : Kr) : R1 := Option.rec (motive := fun _ => R1) (R1.bad 90) (fun v => k (v :: r) h) o
def okE (x : R1) (r : List V) (k : Kr) : R1 := R1.rec (motive := fun _ => R1) R1.bad (fun v h => k (v :: r) h) x
/-- any -/
def cGen (g : Option (Src × Bool)) (k : K) (ag : List Ag) : IA := IA.mk (fun en call r t h kk => r1 (doG en call (src r t) h g k) R1.bad (fun v h' => (fun r' => bcase (stills en t r' h' ag) (R1.bad 82) (kk r' h')) (v :: r)))
def iMv (s : List V → Tr V → V) : IA := IA.mk (fun _ _ r t h k => k (s r t :: r) h)
def i1 (f : En → V → Option V) (s : List V → Tr V → V) : IA := IA.mk (fun en _ r t h k => okK (f en (s r t)) h r k)
def i2 (f : En → V → V → Option V) (a b : List V → Tr V → V) : IA := IA.mk (fun en _ r t h k => okK (f en (a r t) (b r t)) h r k)
def i3 (f : En → V → V → V → Option V) (a b c : List V → Tr V → V) : IA := IA.mk (fun en _ r t h k => okK (f en (a r t) (b r t) (c r t)) h r k)
def iP (f : En → List (Nat × Nat × V) → Option V) (p : List V → Tr V → List (Nat × Nat × V)) : IA := IA.mk (fun en _ r t h k => okK (f en (p r t)) h r k)
def p1 (f : En → V → Option V) (s : Src) : Option IA := some (onSA (i1 f) (cS s))
def p2 (f : En → V → V → Option V) (a b : Src) : Option IA := some (onSA (fun a => onSA (i2 f a) (cS b)) (cS a))
def p3 (f : En → V → V → V → Option V) (a b c : Src) : Option IA := some (onSA (fun a => onSA (fun b => onSA (i3 f a b) (cS c)) (cS b)) (cS a))
def h1 (f : En → V → H → Option V) (s : List V → Tr V → V) : IA := IA.mk (fun en _ r t h k => okK (f en (s r t) h) h r k)
def h2 (f : En → V → V → H → Option V) (a b : List V → Tr V → V) : IA := IA.mk (fun en _ r t h k => okK (f en (a r t) (b r t) h) h r k)
def e0 (f : H → R1) : IA := IA.mk (fun _ _ r _ h k => okE (f h) r k)
def e1 (f : En → V → H → R1) (s : List V → Tr V → V) : IA := IA.mk (fun en _ r t h k => okE (f en (s r t) h) r k)
def e2 (f : En → V → V → H → R1) (a b : List V → Tr V → V) : IA := IA.mk (fun en _ r t h k => okE (f en (a r t) (b r t) h) r k)
def eP (f : En → List (Nat × Nat × V) → H → R1) (p : List V → Tr V → List (Nat × Nat × V)) : IA := IA.mk (fun en _ r t h k => okE (f en (p r t) h) r k)
def eC (g : Nat) (f : List V → Tr V → List V) : IA := IA.mk (fun _ call r t h k => okE (call g (f r t) h) r k)
def eV (s : List V → Tr V → V) (f : List V → Tr V → List V) : IA := IA.mk (fun _ call r t h k => okE (onF (s r t) (R1.bad 75) (fun g a b => call g (app a (app (f r t) b)) h)) r k)
def eI (m : String) (s : List V → Tr V → V) (f : List V → Tr V → List V) : IA := IA.mk (fun en call r t h k => okE (onN (s r t) (R1.bad 77) (fun ty v => ocase (en.mts ty m) (R1.bad 76) (fun g => call g (v :: f r t) h))) r k)
def load1' (v : V) (h : H) : Option V := onP v none (fun x off => onC (obj h x) none (fun l _ _ => nth' off l))
def loadn' (n : Nat) (v : V) (h : H) : Option V := onP v none (fun x off => ocase (cellsAt h x off n) none (fun l => some (V.g l)))
def storeR (n : Nat) (p v : V) (h : H) : R1 := onP p (R1.bad 33) (fun x off => (fun vs => bcase (lenIs n vs) (R1.bad 34) (write h x off vs)) (cellsV v))
def boxR (n : Nat) (v : V) (h : H) : R1 := ocase (bcase (isT 0 v) (bcase (lenIs n (cellsV v)) none (some (O.c (cellsV v) none true, fun x => V.p x 0))) none) (R1.bad 92) (fun p => fresh h p.1 p.2)
def bsR (sz n : Nat) (z : List V) (ps : List (Nat × Nat × V)) (h : H) : R1 := ocase (ocase (place ps z) none (fun l => some (O.c l none true, fun x => V.sl x 0 sz n))) (R1.bad 92) (fun p => fresh h p.1 p.2)
/-- the functions of what only reckons -/
def cP : KP → Option IA := KP.rec
  (fun s => some (onSA iMv (cS s)))
  (fun c a b => p3 (fun _ c a b => onB c none (fun x => bcase x (some b) (some a))) c a b)
  (fun z ps => some (onPL (iP (fun _ p => ocase (place p z) none (fun l => some (V.g l)))) (cPs ps)))
  (p1 (fun _ => nilck))
  (fun op => p2 (fun en a b => binV en op a b))
  (fun cls neg => p2 (fun _ a b => eqK cls neg a b))
  (p1 (fun _ v => onB v none (fun b => okB (!b))))
  (fun _ => none) (fun _ => none)
  (fun k => p1 (fun en v => convK en k v))
  (fun _ => none)
  (fun t => p1 (fun _ v => some (V.n t v)))
  (fun _ _ _ => none)
  (fun _ _ _ _ _ => none) (fun _ _ _ => none)
  (fun off => p1 (fun _ v => faddr off v))
  (fun off => p1 (fun _ v => part1 off v))
  (fun off n => p1 (fun _ v => partn off n v))
  (fun sz => p2 (fun _ v i => iaddr sz v i))
  (fun sz n => p2 (fun _ v i => aaddr sz n v i))
  (p2 (fun _ v i => istr' v i))
  (fun n => p2 (fun _ v i => ipart1 n v i))
  (fun n sz => p2 (fun _ v i => ipartn n sz v i))
  (fun i => p1 (fun _ v => onU v none (fun l => nth l i)))
  (p1 (fun _ v => ocase (lenS v) none okN))
  (p1 (fun _ v => onS v none (fun l => okN (len l))))
  (fun n => some (IA.mk (fun _ _ r t h k => okK (okN n) h r k)))
  (fun _ => none) (fun mx => p2 (fun en a b => mm en.path mx a b)) (fun _ _ _ _ => none) (fun _ _ => none) (fun t ok z => p1 (fun _ v => tas t ok z v))
def cR : KR → Option IA := KR.rec (fun s => some (onSA (h1 (fun _ => load1')) (cS s))) (fun n s => some (onSA (h1 (fun _ => loadn' n)) (cS s))) (fun _ => none)
  (fun ks z ok m i => some (onSA (fun m => onSA (h2 (fun en m i h => lookup ks en.path h z ok m i) m) (cS i)) (cS m))) (fun _ => none)
def cA : KA → Option IA := KA.rec (fun z => some (e0 (fun h => fresh h (O.c z none true) (fun x => V.p x 0)))) (fun n s => some (onSA (e1 (fun _ => boxR n)) (cS s))) (fun sz n z ps => some (onPL (eP (fun _ => bsR sz n z)) (cPs ps)))
  (fun _ _ _ _ => none) none (fun _ => none)
def cCall : Cb → List Src → IA := Cb.rec (fun g as => onAA (eC g) (cSs as)) (fun s as => onSA (fun s => onAA (eV s) (cSs as)) (cS s)) (fun s m as => onSA (fun s => onAA (eI m s) (cSs as)) (cS s))
def cE : KE → Option IA := KE.rec (fun n s v => some (onSA (fun s => onSA (e2 (fun _ => storeR n) s) (cS v)) (cS s))) (fun _ _ _ _ => none) (fun c as => some (cCall c as))
  (fun sz b s x => some (onSA (fun s => onSA (e2 (fun _ s x h => append h sz b s x) s) (cS x)) (cS s))) (fun _ _ _ _ _ => none) (fun _ _ _ => none) (fun _ _ _ => none) (fun _ _ _ => none)
def cK : K → Option IA := K.rec cP cR cA cE (fun _ => none)
/-- without a guard, nothing to be looked at again -/
def plainI (g : Option (Src × Bool)) (ag : List Ag) : Bool := Option.rec (List.rec true (fun _ _ _ => false) ag) (fun _ => false) g
def cIt : It → IA := It.rec (fun g k ag => bcase (plainI g ag) (cGen g k ag) (ocase (cK k) (cGen g k ag) (fun a => a)))
def itC (f g : En → Cl → List V → Tr V → H → Kr → R1) : IA := IA.mk (fun en call r t h k => f en call r t h (fun r h => g en call r t h k))
def cIts : List It → IA := List.rec (IA.mk (fun _ _ r _ h k => k r h)) (fun i _ ih => onIA (fun g => onIA (fun f => itC f g) (cIt i)) ih)
def cCommit (n : Nat) (cm : List (BP × Nat)) : MA := bcase (inB n cm) (MA.mk (fun r t k => k (commit r cm t))) (cCm cm)
def caReg (g : En → Cl → List V → Tr V → H → Kr → R1) (m : List V → Tr V → (Tr V → R1) → R1) : CA := CA.mk (fun en call n t h kn ke kr => g en call [] t h (fun r h => m r t (fun t => kn t h)))
def caSeq (b : CA) (f : En → Cl → Nat → Tr V → H → Kn → (Nat → Tr V → H → R1) → Kn → R1) : CA := CA.mk (fun en call n t h kn ke kr => f en call n t h (fun t h => CA.rec (motive := fun _ => R1) (fun g => g en call n t h kn ke kr) b) ke kr)
def caCond (a b : CA) (s : List V → Tr V → V) : CA := CA.mk (fun en call n t h kn ke kr => onB (s [] t) (R1.bad 86) (fun x => bcase x (CA.rec (motive := fun _ => R1) (fun g => g en call n t h kn ke kr) b) (CA.rec (motive := fun _ => R1) (fun f => f en call n t h kn ke kr) a)))
def caBlock (id : Nat) (f : En → Cl → Nat → Tr V → H → Kn → (Nat → Tr V → H → R1) → Kn → R1) : CA := CA.mk (fun en call n t h kn ke kr => f en call n t h kn (fun j t h => bcase (Nat.beq j id) (ke j t h) (kn t h)) kr)
def caLoop (f : En → Cl → Nat → Tr V → H → Kn → (Nat → Tr V → H → R1) → Kn → R1) : CA := CA.mk (fun en call n t h kn ke kr => Nat.rec (motive := fun _ => Tr V → H → R1) (fun _ _ => R1.bad 87) (fun _ ih t h => f en call n t h ih ke kr) n t h)
def cC : C2 → CA := C2.rec (CA.mk (fun _ _ _ t h kn _ _ => kn t h))
  (fun its cm => onIA (fun g => onMA (caReg g) (cCommit (len its) cm)) (cIts its))
  (fun _ _ iha ihb => onCA (caSeq ihb) iha)
  (fun s _ _ iha ihb => onSA (caCond iha ihb) (cS s))
  (fun id _ ih => onCA (caBlock id) ih)
  (fun _ ih => onCA caLoop ih)
  (fun id => CA.mk (fun _ _ _ t h _ ke _ => ke id t h)) (CA.mk (fun _ _ _ t h _ _ kr => kr t h)) (fun w => CA.mk (fun _ _ _ _ _ _ _ _ => R1.bad w))
def ffOf : CF → FF := CF.rec (fun n body rs => FF.mk n (cC body) rs)
/-- a call: loops of at most a million turns -/
def runFF : FF → En → Cl → List V → H → R1 := FF.rec (fun n body rs en call as h => bcase (Nat.ble (len as) n) (R1.bad 85) (CA.rec (fun f => f en call 1000000 (init' as BP.one en.gt) h (fin rs) (fun _ _ _ => R1.bad 84) (fin rs)) body))
def fcall1 (en : En) (call : Cl) (g : Nat) (as : List V) (h : H) : R1 := ovOr (en.ov g as h) (ocase (get (bpOf g) en.fns) (R1.bad (1000 + g)) (fun cf => runFF (ffOf cf) en call as h))
def fcall (en : En) : Nat → Cl := Nat.rec (fun _ _ _ => R1.bad 88) (fun _ ih => fcall1 en ih)
end

/-- what one answers the other answers too -/
def R1.le (r s : R1) : Prop := ∀ v h, r = .ok v h → s = .ok v h
theorem R1.le_refl (r : R1) : R1.le r r := fun _ _ h => h
theorem R1.le_bad (w : Nat) (s : R1) : R1.le (.bad w) s := fun _ _ h => by cases h
theorem R1.le_of_eq {r s : R1} (h : r = s) : R1.le r s := h ▸ R1.le_refl r
variable {en : En} {call : Cl} {r : List V} {t : Tr V} {h : H}
theorem cLoc_ok : ∀ i, ∃ g, cLoc i = .mk g ∧ ∀ r, g r = ocase (nth r i) V.x (fun v => v)
  | 0 => ⟨_, rfl, fun r => by cases r <;> rfl⟩
  | i + 1 => by
    obtain ⟨g, e, hg⟩ := cLoc_ok i
    refine ⟨_, (by rw [show cLoc (i + 1) = onLA locS (cLoc i) from rfl, e]), fun r => ?_⟩
    cases r with
    | nil => rfl
    | cons a l => exact hg l
theorem cPath_ok : ∀ p, ∃ g, cPath p = .mk g ∧ ∀ t, g t = ocase (get p t) V.x (fun v => v)
  | .one => ⟨_, rfl, fun t => by cases t with | lf => rfl | nd l v r => cases v <;> rfl⟩
  | .e p => by
    obtain ⟨g, e, hg⟩ := cPath_ok p
    refine ⟨_, (by rw [show cPath (.e p) = onPA pathE (cPath p) from rfl, e]), fun t => ?_⟩
    cases t with
    | lf => rfl
    | nd l v r => exact hg l
  | .o p => by
    obtain ⟨g, e, hg⟩ := cPath_ok p
    refine ⟨_, (by rw [show cPath (.o p) = onPA pathO (cPath p) from rfl, e]), fun t => ?_⟩
    cases t with
    | lf => rfl
    | nd l v r => exact hg r
theorem cS_ok (s : Src) : ∃ f, cS s = .mk f ∧ ∀ r t, f r t = src r t s := by
  cases s with
  | loc i => obtain ⟨g, e, hg⟩ := cLoc_ok i; exact ⟨_, (by rw [show cS (.loc i) = onLA saL (cLoc i) from rfl, e]; rfl), fun r t => hg r⟩
  | tmp p => obtain ⟨g, e, hg⟩ := cPath_ok p; exact ⟨_, (by rw [show cS (.tmp p) = onPA saP (cPath p) from rfl, e]; rfl), fun r t => hg t⟩
  | val v => exact ⟨fun _ _ => v, rfl, fun _ _ => rfl⟩
theorem cSs_ok : ∀ l : List Src, ∃ f, cSs l = .mk f ∧ ∀ r t, f r t = srcs (src r t) l
  | [] => ⟨_, rfl, fun _ _ => rfl⟩
  | s :: l => by
    obtain ⟨f, e, hf⟩ := cS_ok s
    obtain ⟨g, e', hg⟩ := cSs_ok l
    refine ⟨_, (by rw [show cSs (s :: l) = onSA (fun f => onAA (aaC f) (cSs l)) (cS s) from rfl, e, e']), fun r t => ?_⟩
    show f r t :: g r t = _; rw [hf, hg]; rfl
theorem cPs_ok : ∀ l : List (Nat × Nat × Src), ∃ f, cPs l = .mk f ∧ ∀ r t, f r t = srcP (src r t) l
  | [] => ⟨_, rfl, fun _ _ => rfl⟩
  | s :: l => by
    obtain ⟨f, e, hf⟩ := cS_ok s.2.2
    obtain ⟨g, e', hg⟩ := cPs_ok l
    refine ⟨_, (by rw [show cPs (s :: l) = onSA (fun f => onPL (plC s.1 s.2.1 f) (cPs l)) (cS s.2.2) from rfl, e, e']), fun r t => ?_⟩
    show (s.1, s.2.1, f r t) :: g r t = _; rw [hf, hg]; rfl
theorem mkL_eq' (l : Tr V) (v : Option V) (r : Tr V) : mkL l v r = .nd l v r := by cases l <;> rfl
theorem mkR_eq' (l : Tr V) (v : Option V) (r : Tr V) : mkR r l v = .nd l v r := by cases r <;> rfl
theorem cSet_ok : ∀ p, ∃ g, cSet p = .mk g ∧ ∀ x t k, g x t k = k (Ev.set p (some x) t)
  | .one => ⟨_, rfl, fun x t k => by cases t <;> rfl⟩
  | .e p => by
    obtain ⟨g, e, hg⟩ := cSet_ok p
    refine ⟨_, (by rw [show cSet (.e p) = onTA setE (cSet p) from rfl, e]), fun x t k => ?_⟩
    cases t with
    | lf => show g x .lf _ = k (mkL (Ev.set p (some x) .lf) none .lf); rw [hg, mkL_eq']
    | nd l v r => show g x l _ = k (mkL (Ev.set p (some x) l) v r); rw [hg, mkL_eq']
  | .o p => by
    obtain ⟨g, e, hg⟩ := cSet_ok p
    refine ⟨_, (by rw [show cSet (.o p) = onTA setO (cSet p) from rfl, e]), fun x t k => ?_⟩
    cases t with
    | lf => show g x .lf _ = k (mkR (Ev.set p (some x) .lf) .lf none); rw [hg, mkR_eq']
    | nd l v r => show g x r _ = k (mkR (Ev.set p (some x) r) l v); rw [hg, mkR_eq']
theorem cCm_ok : ∀ (cm : List (BP × Nat)) (n : Nat), inB n cm = true → ∃ m, cCm cm = .mk m ∧ ∀ r t k, r.length = n → m r t k = k (commit r cm t)
  | [], _, _ => ⟨_, rfl, fun _ _ _ _ => rfl⟩
  | c :: cm, n, hb => by
    obtain ⟨h1, h2⟩ := bcase_ne (show bcase (Nat.blt c.2 n) false (inB n cm) = true from hb) (by simp)
    obtain ⟨g, e, hg⟩ := cSet_ok c.1
    obtain ⟨a, e', ha⟩ := cLoc_ok c.2
    obtain ⟨m, e'', hm⟩ := cCm_ok cm n h2
    refine ⟨_, (by rw [show cCm (c :: cm) = onTA (fun g => onLA (fun a => onMA (maC g a) (cCm cm)) (cLoc c.2)) (cSet c.1) from rfl, e, e', e'']), fun r t k hr => ?_⟩
    show g (a r) t (fun t => m r t k) = _
    rw [hg, hm r _ k hr]
    show k (commit r cm _) = k (commit r cm (Ev.set c.1 (nth r c.2) t))
    have hlt : c.2 < r.length := by rw [hr]; exact blt_iff.1 h1
    rw [ha, nth_eq, List.getElem?_eq_getElem hlt]; rfl
theorem cCommit_ok (cm : List (BP × Nat)) (n : Nat) : ∃ m, cCommit n cm = .mk m ∧ ∀ r t k, r.length = n → m r t k = k (commit r cm t) := by
  unfold cCommit
  cases hb : inB n cm with
  | false => exact ⟨_, rfl, fun _ _ _ _ => rfl⟩
  | true => exact cCm_ok cm n hb
theorem nth'_eq {α : Type} : ∀ (i : Nat) (l : List α), nth' i l = nth l i
  | 0, [] => rfl
  | 0, _ :: _ => rfl
  | i + 1, [] => rfl
  | i + 1, _ :: l => nth'_eq i l
theorem trOf'_get : ∀ (l : List Z) (k : Nat) (t : Tr Z) (n : Nat), k + l.length ≤ 99000 → n < 100000 → get (bpOf n) (trOf' l (bpOf k) t) = if k ≤ n ∧ n < k + l.length then l[n - k]? else get (bpOf n) t
  | [], k, t, n, _, _ => by rw [if_neg (by simp only [List.length_nil]; omega)]; rfl
  | x0 :: as, k, t, n, h, hn => by
    simp only [List.length_cons] at h ⊢
    show get (bpOf n) (trOf' as (succ (bpOf k)) (set (bpOf k) (some x0) t)) = _
    rw [succ_bpOf (by omega), trOf'_get as (k + 1) _ n (by omega) hn, get_set]
    by_cases e : n = k
    · subst e; rw [if_neg (by omega), if_pos rfl, if_pos (by omega)]; simp
    · rw [if_neg (fun e' => e (bpOf_inj (by omega) (by omega) e'))]
      by_cases c : k + 1 ≤ n ∧ n < k + 1 + as.length
      · rw [if_pos c, if_pos (by omega), show n - k = (n - (k + 1)) + 1 by omega]; simp
      · rw [if_neg c, if_neg (by omega)]
theorem tzOf_eq (t : Tr Z) : tzOf t = .mk t := by cases t <;> rfl
theorem istr'_some {v i u : V} (hv : istr' v i = some u) : istr v i = some u := by
  obtain ⟨l, rfl, hv⟩ := onS_ne hv (by simp)
  obtain ⟨h1, hv⟩ := bcase_ne hv (by simp)
  obtain ⟨kk, k, rfl, hv⟩ := asNat_ne hv (by simp)
  obtain ⟨h2, hv⟩ := bcase_ne hv (by simp)
  have h1 := Nat.le_of_ble_eq_true h1
  have h2 := blt_iff.1 h2
  rw [len_eq] at h1
  unfold txtTr at hv
  rw [tzOf_eq] at hv
  obtain ⟨z, h3, hv⟩ := ocase_ne (show ocase (get (bpOf k) (trOf' l BP.one Tr.lf)) none (fun z => some (V.i .u8 z)) = some u from hv) (by simp)
  rw [show BP.one = bpOf 0 from rfl, trOf'_get l 0 .lf k (by omega) (by omega), get_lf] at h3
  split at h3
  · obtain rfl := Option.some.inj hv
    rw [Nat.sub_zero] at h3
    have h4 : asNat (.i kk (.lit (k : Int))) none (fun k => ocase (nth l k) none (fun z => some (V.i .u8 z))) = ocase (nth l k) none (fun z => some (V.i .u8 z)) := rfl
    show asNat (.i kk (.lit (k : Int))) none (fun k => ocase (nth l k) none (fun z => some (V.i .u8 z))) = _
    rw [h4, nth_eq, h3]; rfl
  · cases h3
/-- what an item does, then what comes behind -/
noncomputable def itK (en : En) (call : Cl) (i : It) (r : List V) (t : Tr V) (h : H) (k : Kr) : R1 := it i (fun g kk ag => r1 (doG en call (src r t) h g kk) R1.bad (fun v h' => bcase (stills en t (v :: r) h' ag) (R1.bad 82) (k (v :: r) h')))
/-- a function does an operation, at least -/
def IOk (i : It) (a : IA) : Prop := ∃ f, a = .mk f ∧ ∀ en call r t h k, R1.le (f en call r t h k) (itK en call i r t h k)
theorem okK_le {k0 : K} {o : Option V} {r : List V} {t : Tr V} {h : H} {k : Kr} (hv : ∀ v, o = some v → doK k0 en call (src r t) h = .ok v h) : R1.le (okK o h r k) (itK en call (.mk none k0 []) r t h k) := by
  intro v h' e
  cases o with
  | none => cases e
  | some u =>
    have e : k (u :: r) h = .ok v h' := e
    have h2 : itK en call (.mk none k0 []) r t h k = r1 (doK k0 en call (src r t) h) R1.bad (fun v h' => k (v :: r) h') := rfl
    rw [h2, hv u rfl]; exact e
theorem okE_le {k0 : K} {o : R1} {r : List V} {t : Tr V} {h : H} {k : Kr} (hv : ∀ v h1, o = .ok v h1 → doK k0 en call (src r t) h = .ok v h1) : R1.le (okE o r k) (itK en call (.mk none k0 []) r t h k) := by
  intro v h' e
  cases o with
  | bad n => cases e
  | ok u h1 =>
    have e : k (u :: r) h1 = .ok v h' := e
    have h2 : itK en call (.mk none k0 []) r t h k = r1 (doK k0 en call (src r t) h) R1.bad (fun v h' => k (v :: r) h') := rfl
    rw [h2, hv u h1 rfl]; exact e
theorem okR_some {o : Option V} {v : V} {h : H} {n : Nat} (h1 : o = some v) : okR o h n = .ok v h := by rw [h1]; rfl
theorem load1'_eq (v : V) (h : H) : load1' v h = onP v none (fun x off => onC (obj h x) none (fun l _ _ => nth l off)) := by
  unfold load1'
  have : ∀ (l : List V) (off : Nat), nth' off l = nth l off := fun l off => nth'_eq off l
  simp only [this]
theorem p1_ok {k0 : KP} {f : En → V → Option V} {s : Src} {a : IA} (h : p1 f s = some a) (hd : ∀ en r t v, f en (src r t s) = some v → doP k0 en (src r t) = some v) : IOk (.mk none (.pu k0) []) a := by
  obtain ⟨g, e, hg⟩ := cS_ok s
  unfold p1 at h
  rw [e] at h
  obtain rfl := Option.some.inj h
  exact ⟨_, rfl, fun en call r t h k => okK_le (fun v hv => okR_some (hd en r t v (by rw [← hg]; exact hv)))⟩
theorem p2_ok {k0 : KP} {f : En → V → V → Option V} {s s' : Src} {a : IA} (h : p2 f s s' = some a) (hd : ∀ en r t v, f en (src r t s) (src r t s') = some v → doP k0 en (src r t) = some v) : IOk (.mk none (.pu k0) []) a := by
  obtain ⟨g, e, hg⟩ := cS_ok s
  obtain ⟨g', e', hg'⟩ := cS_ok s'
  unfold p2 at h
  rw [e, e'] at h
  obtain rfl := Option.some.inj h
  exact ⟨_, rfl, fun en call r t h k => okK_le (fun v hv => okR_some (hd en r t v (by rw [← hg, ← hg']; exact hv)))⟩
theorem p3_ok {k0 : KP} {f : En → V → V → V → Option V} {s s' s'' : Src} {a : IA} (h : p3 f s s' s'' = some a) (hd : ∀ en r t v, f en (src r t s) (src r t s') (src r t s'') = some v → doP k0 en (src r t) = some v) : IOk (.mk none (.pu k0) []) a := by
  obtain ⟨g, e, hg⟩ := cS_ok s
  obtain ⟨g', e', hg'⟩ := cS_ok s'
  obtain ⟨g'', e'', hg''⟩ := cS_ok s''
  unfold p3 at h
  rw [e, e', e''] at h
  obtain rfl := Option.some.inj h
  exact ⟨_, rfl, fun en call r t h k => okK_le (fun v hv => okR_some (hd en r t v (by rw [← hg, ← hg', ← hg'']; exact hv)))⟩
theorem cP_ok (k0 : KP) {a : IA} (h : cP k0 = some a) : IOk (.mk none (.pu k0) []) a := by
  cases k0 with
  | mv s =>
    obtain ⟨g, e, hg⟩ := cS_ok s
    have h' : some (onSA iMv (cS s)) = some a := h
    rw [e] at h'
    obtain rfl := Option.some.inj h'
    refine ⟨_, rfl, fun en call r t h k => ?_⟩
    intro v h' e
    have e : k (g r t :: r) h = .ok v h' := e
    rw [hg] at e; exact e
  | build z ps =>
    obtain ⟨g, e, hg⟩ := cPs_ok ps
    have h' : some (onPL (iP (fun _ p => ocase (place p z) none (fun l => some (V.g l)))) (cPs ps)) = some a := h
    rw [e] at h'
    obtain rfl := Option.some.inj h'
    exact ⟨_, rfl, fun en call r t h k => okK_le (fun v hv => okR_some (by rw [hg] at hv; exact hv))⟩
  | alen n =>
    have h' : some (IA.mk (fun _ _ r t h k => okK (okN n) h r k)) = some a := h
    obtain rfl := Option.some.inj h'
    exact ⟨_, rfl, fun en call r t h k => okK_le (fun v hv => okR_some hv)⟩
  | istr s i => exact p2_ok h (fun en r t v hv => istr'_some hv)
  | _ => first
    | (cases h; done)
    | exact p1_ok h (fun en r t v hv => hv)
    | exact p2_ok h (fun en r t v hv => hv)
    | exact p3_ok h (fun en r t v hv => hv)
theorem cR_ok (k0 : KR) {a : IA} (h : cR k0 = some a) : IOk (.mk none (.rd k0) []) a := by
  cases k0 with
  | load1 s =>
    obtain ⟨g, e, hg⟩ := cS_ok s
    have h' : some (onSA (h1 (fun _ => load1')) (cS s)) = some a := h
    rw [e] at h'
    obtain rfl := Option.some.inj h'
    exact ⟨_, rfl, fun en call r t h k => okK_le (fun v hv => okR_some (by rw [hg] at hv; exact (load1'_eq _ _).symm.trans hv))⟩
  | loadn n s =>
    obtain ⟨g, e, hg⟩ := cS_ok s
    have h' : some (onSA (h1 (fun _ => loadn' n)) (cS s)) = some a := h
    rw [e] at h'
    obtain rfl := Option.some.inj h'
    exact ⟨_, rfl, fun en call r t h k => okK_le (fun v hv => okR_some (by rw [hg] at hv; exact hv))⟩
  | lookup ks z ok m i =>
    obtain ⟨g, e, hg⟩ := cS_ok m
    obtain ⟨g', e', hg'⟩ := cS_ok i
    have h' : some (onSA (fun m => onSA (h2 (fun en m i h => lookup ks en.path h z ok m i) m) (cS i)) (cS m)) = some a := h
    rw [e, e'] at h'
    obtain rfl := Option.some.inj h'
    exact ⟨_, rfl, fun en call r t h k => okK_le (fun v hv => okR_some (by rw [hg, hg'] at hv; exact hv))⟩
  | _ => cases h
theorem cA_ok (k0 : KA) {a : IA} (h : cA k0 = some a) : IOk (.mk none (.al k0) []) a := by
  cases k0 with
  | alloc z =>
    have h' : some (e0 (fun h => fresh h (O.c z none true) (fun x => V.p x 0))) = some a := h
    obtain rfl := Option.some.inj h'
    exact ⟨_, rfl, fun en call r t h k => okE_le (fun v h1 hv => hv)⟩
  | box n s =>
    obtain ⟨g, e, hg⟩ := cS_ok s
    have h' : some (onSA (e1 (fun _ => boxR n)) (cS s)) = some a := h
    rw [e] at h'
    obtain rfl := Option.some.inj h'
    exact ⟨_, rfl, fun en call r t h k => okE_le (fun v h1 hv => by rw [hg] at hv; exact hv)⟩
  | bslice sz n z ps =>
    obtain ⟨g, e, hg⟩ := cPs_ok ps
    have h' : some (onPL (eP (fun _ => bsR sz n z)) (cPs ps)) = some a := h
    rw [e] at h'
    obtain rfl := Option.some.inj h'
    exact ⟨_, rfl, fun en call r t h k => okE_le (fun v h1 hv => by rw [hg] at hv; exact hv)⟩
  | _ => cases h
theorem cCall_ok (c : Cb) (as : List Src) : IOk (.mk none (.ef (.call c as)) []) (cCall c as) := by
  obtain ⟨f, ef, hf⟩ := cSs_ok as
  cases c with
  | fn g =>
    rw [show cCall (.fn g) as = onAA (eC g) (cSs as) from rfl, ef]
    exact ⟨_, rfl, fun en call r t h k => okE_le (fun v h1 hv => by rw [hf] at hv; exact hv)⟩
  | val s =>
    obtain ⟨g, e, hg⟩ := cS_ok s
    rw [show cCall (.val s) as = onSA (fun s => onAA (eV s) (cSs as)) (cS s) from rfl, e, ef]
    exact ⟨_, rfl, fun en call r t h k => okE_le (fun v h1 hv => by rw [hf, hg] at hv; exact hv)⟩
  | inv s m =>
    obtain ⟨g, e, hg⟩ := cS_ok s
    rw [show cCall (.inv s m) as = onSA (fun s => onAA (eI m s) (cSs as)) (cS s) from rfl, e, ef]
    exact ⟨_, rfl, fun en call r t h k => okE_le (fun v h1 hv => by rw [hf, hg] at hv; exact hv)⟩
theorem cE_ok (k0 : KE) {a : IA} (h : cE k0 = some a) : IOk (.mk none (.ef k0) []) a := by
  cases k0 with
  | store n s v =>
    obtain ⟨g, e, hg⟩ := cS_ok s
    obtain ⟨g', e', hg'⟩ := cS_ok v
    have h' : some (onSA (fun s => onSA (e2 (fun _ => storeR n) s) (cS v)) (cS s)) = some a := h
    rw [e, e'] at h'
    obtain rfl := Option.some.inj h'
    exact ⟨_, rfl, fun en call r t h k => okE_le (fun v h1 hv => by rw [hg, hg'] at hv; exact hv)⟩
  | call c as =>
    obtain rfl := Option.some.inj (show some (cCall c as) = some a from h)
    exact cCall_ok c as
  | app sz b s x =>
    obtain ⟨g, e, hg⟩ := cS_ok s
    obtain ⟨g', e', hg'⟩ := cS_ok x
    have h' : some (onSA (fun s => onSA (e2 (fun _ s x h => append h sz b s x) s) (cS x)) (cS s)) = some a := h
    rw [e, e'] at h'
    obtain rfl := Option.some.inj h'
    exact ⟨_, rfl, fun en call r t h k => okE_le (fun v h1 hv => by rw [hg, hg'] at hv; exact hv)⟩
  | _ => cases h
theorem cIt_ok (i : It) : IOk i (cIt i) := by
  obtain ⟨g, k0, ag⟩ := i
  have gen : IOk (.mk g k0 ag) (cGen g k0 ag) := ⟨_, rfl, fun _ _ _ _ _ _ => R1.le_refl _⟩
  cases hp : plainI g ag with
  | false => rw [show cIt (.mk g k0 ag) = bcase (plainI g ag) (cGen g k0 ag) (ocase (cK k0) (cGen g k0 ag) (fun a => a)) from rfl, hp]; exact gen
  | true =>
    rw [show cIt (.mk g k0 ag) = bcase (plainI g ag) (cGen g k0 ag) (ocase (cK k0) (cGen g k0 ag) (fun a => a)) from rfl, hp]
    have hg : g = none ∧ ag = [] := by
      cases g with
      | some x => cases hp
      | none => cases ag with
        | nil => exact ⟨rfl, rfl⟩
        | cons x l => cases hp
    obtain ⟨rfl, rfl⟩ := hg
    show IOk _ (ocase (cK k0) (cGen none k0 []) (fun a => a))
    cases hk : cK k0 with
    | none => exact gen
    | some a =>
      show IOk _ a
      cases k0 with
      | pu k => exact cP_ok k hk
      | rd k => exact cR_ok k hk
      | al k => exact cA_ok k hk
      | ef k => exact cE_ok k hk
      | no w => cases hk
theorem cIts_ok : ∀ its : List It, ∃ g, cIts its = .mk g ∧ ∀ en call r t h k, R1.le (g en call r t h k) (rr (runIts en call t its r h) R1.bad k)
  | [] => ⟨_, rfl, fun _ _ _ _ _ _ => R1.le_refl _⟩
  | i :: its => by
    obtain ⟨g, e, hg⟩ := cIts_ok its
    obtain ⟨f, e', hf⟩ := cIt_ok i
    refine ⟨_, (by rw [show cIts (i :: its) = onIA (fun g => onIA (fun f => itC f g) (cIt i)) (cIts its) from rfl, e, e']), fun en call r t h k => ?_⟩
    intro v h' hv
    have hv := hf en call r t h _ v h' hv
    obtain ⟨g0, k0, ag⟩ := i
    have hv : r1 (doG en call (src r t) h g0 k0) R1.bad (fun v h' => bcase (stills en t (v :: r) h' ag) (R1.bad 82) (g en call (v :: r) t h' k)) = .ok v h' := hv
    show rr (r1 (doG en call (src r t) h g0 k0) RR.bad (fun v h' => bcase (stills en t (v :: r) h' ag) (RR.bad 82) (runIts en call t its (v :: r) h'))) R1.bad k = .ok v h'
    cases hd : doG en call (src r t) h g0 k0 with
    | bad n => rw [hd] at hv; cases hv
    | ok u h1 =>
      rw [hd] at hv
      obtain ⟨hs, hv⟩ := bcase_ne (show bcase (stills en t (u :: r) h1 ag) (R1.bad 82) (g en call (u :: r) t h1 k) = .ok v h' from hv) (by simp)
      show rr (bcase (stills en t (u :: r) h1 ag) (RR.bad 82) (runIts en call t its (u :: r) h1)) R1.bad k = .ok v h'
      rw [hs]
      exact hg en call (u :: r) t h1 k v h' hv
theorem runIts_len : ∀ (its : List It) (r : List V) (h : H) (r' : List V) (h' : H), runIts en call t its r h = .ok r' h' → r'.length = r.length + its.length
  | [], r, h, r', h', e => by injection (show RR.ok r h = .ok r' h' from e) with e1 e2; subst e1; simp
  | i :: its, r, h, r', h', e => by
    obtain ⟨g0, k0, ag⟩ := i
    have e : r1 (doG en call (src r t) h g0 k0) RR.bad (fun v h' => bcase (stills en t (v :: r) h' ag) (RR.bad 82) (runIts en call t its (v :: r) h')) = .ok r' h' := e
    cases hd : doG en call (src r t) h g0 k0 with
    | bad n => rw [hd] at e; cases e
    | ok u h1 =>
      rw [hd] at e
      obtain ⟨_, e⟩ := bcase_ne (show bcase (stills en t (u :: r) h1 ag) (RR.bad 82) (runIts en call t its (u :: r) h1) = .ok r' h' from e) (by simp)
      have := runIts_len its (u :: r) h1 r' h' e
      simp only [List.length_cons] at this ⊢; omega
/-- what comes behind a code -/
noncomputable def finK (x : X) (kn : Kn) (ke : Nat → Tr V → H → R1) (kr : Kn) : R1 := X.rec (motive := fun _ => R1) (fun t h => kn t h) (fun i t h => ke i t h) (fun t h => kr t h) R1.bad x
theorem cC_ok : ∀ c : C2, ∃ f, cC c = .mk f ∧ ∀ en call n t h kn ke kr, R1.le (f en call n t h kn ke kr) (finK (FS en call n c t h) kn ke kr) := by
  intro c
  induction c with
  | skip => exact ⟨_, rfl, fun _ _ _ _ _ _ _ _ => R1.le_refl _⟩
  | exit id => exact ⟨_, rfl, fun _ _ _ _ _ _ _ _ => R1.le_refl _⟩
  | ret => exact ⟨_, rfl, fun _ _ _ _ _ _ _ _ => R1.le_refl _⟩
  | bad w => exact ⟨_, rfl, fun _ _ _ _ _ _ _ _ => R1.le_refl _⟩
  | reg its cm =>
    obtain ⟨g, e, hg⟩ := cIts_ok its
    obtain ⟨m, e', hm⟩ := cCommit_ok cm (len its)
    refine ⟨_, (by rw [show cC (.reg its cm) = onIA (fun g => onMA (caReg g) (cCommit (len its) cm)) (cIts its) from rfl, e, e']), fun en call n t h kn ke kr => ?_⟩
    intro v h' hv
    have hv := hg en call [] t h _ v h' hv
    show finK (rr (runIts en call t its [] h) X.bad (fun r h => X.nm (commit r cm t) h)) kn ke kr = .ok v h'
    cases hr : runIts en call t its [] h with
    | bad n => rw [hr] at hv; cases hv
    | ok r h1 =>
      rw [hr] at hv
      have hl := runIts_len its [] h r h1 hr
      have hv : m r t (fun t => kn t h1) = .ok v h' := hv
      rw [hm r t _ (by rw [len_eq]; simpa using hl)] at hv
      exact hv
  | seq x y ihx ihy =>
    obtain ⟨f, e, hf⟩ := ihx
    obtain ⟨g, e', hg⟩ := ihy
    refine ⟨_, (by rw [show cC (.seq x y) = onCA (caSeq (cC y)) (cC x) from rfl, e]), fun en call n t h kn ke kr => ?_⟩
    intro v h' hv
    have hv := hf en call n t h _ _ _ v h' hv
    show finK (again (FS en call n x t h) (FS en call n y)) kn ke kr = .ok v h'
    cases hx : FS en call n x t h with
    | bad n => rw [hx] at hv; cases hv
    | ex i t1 h1 => rw [hx] at hv; exact hv
    | rt t1 h1 => rw [hx] at hv; exact hv
    | nm t1 h1 =>
      rw [hx] at hv
      have hv : CA.rec (motive := fun _ => R1) (fun g => g en call n t1 h1 kn ke kr) (cC y) = .ok v h' := hv
      rw [e'] at hv
      exact hg en call n t1 h1 kn ke kr v h' hv
  | cond s x y ihx ihy =>
    obtain ⟨g, es, hs⟩ := cS_ok s
    obtain ⟨fx, ex, hfx⟩ := ihx
    obtain ⟨fy, ey, hfy⟩ := ihy
    refine ⟨_, (by rw [show cC (.cond s x y) = onSA (caCond (cC x) (cC y)) (cS s) from rfl, es]), fun en call n t h kn ke kr => ?_⟩
    intro v h' hv
    obtain ⟨b, hb, hv⟩ := onB_ne (show onB (g [] t) (R1.bad 86) (fun b => bcase b (CA.rec (motive := fun _ => R1) (fun g => g en call n t h kn ke kr) (cC y)) (CA.rec (motive := fun _ => R1) (fun f => f en call n t h kn ke kr) (cC x))) = .ok v h' from hv) (by simp)
    rw [hs] at hb
    show finK (onB (src [] t s) (X.bad 86) (fun b => bcase b (FS en call n y t h) (FS en call n x t h))) kn ke kr = .ok v h'
    rw [hb]
    cases b with
    | true =>
      have hv : CA.rec (motive := fun _ => R1) (fun f => f en call n t h kn ke kr) (cC x) = .ok v h' := hv
      rw [ex] at hv
      exact hfx en call n t h kn ke kr v h' hv
    | false =>
      have hv : CA.rec (motive := fun _ => R1) (fun f => f en call n t h kn ke kr) (cC y) = .ok v h' := hv
      rw [ey] at hv
      exact hfy en call n t h kn ke kr v h' hv
  | block id c ih =>
    obtain ⟨f, e, hf⟩ := ih
    refine ⟨_, (by rw [show cC (.block id c) = onCA (caBlock id) (cC c) from rfl, e]), fun en call n t h kn ke kr => ?_⟩
    intro v h' hv
    have hv := hf en call n t h _ _ _ v h' hv
    show finK (blockK (FS en call n c t h) id) kn ke kr = .ok v h'
    cases hx : FS en call n c t h with
    | bad n => rw [hx] at hv; cases hv
    | nm t1 h1 => rw [hx] at hv; exact hv
    | rt t1 h1 => rw [hx] at hv; exact hv
    | ex i t1 h1 =>
      rw [hx] at hv
      have hv : bcase (Nat.beq i id) (ke i t1 h1) (kn t1 h1) = .ok v h' := hv
      show finK (bcase (Nat.beq i id) (X.ex i t1 h1) (X.nm t1 h1)) kn ke kr = .ok v h'
      cases hb : Nat.beq i id with
      | true => rw [hb] at hv; exact hv
      | false => rw [hb] at hv; exact hv
  | loop c ih =>
    obtain ⟨f, e, hf⟩ := ih
    refine ⟨_, (by rw [show cC (.loop c) = onCA caLoop (cC c) from rfl, e]), fun en call n t h kn ke kr => ?_⟩
    have main : ∀ m t h, R1.le (Nat.rec (motive := fun _ => Tr V → H → R1) (fun _ _ => R1.bad 87) (fun _ ih t h => f en call n t h ih ke kr) m t h) (finK (fsLoop (FS en call n c) m t h) kn ke kr) := by
      intro m
      induction m with
      | zero => intro t h; exact R1.le_bad _ _
      | succ m ihm =>
        intro t h v h' hv
        have hv := hf en call n t h _ _ _ v h' hv
        show finK (again (FS en call n c t h) (fsLoop (FS en call n c) m)) kn ke kr = .ok v h'
        cases hx : FS en call n c t h with
        | bad n => rw [hx] at hv; cases hv
        | ex i t1 h1 => rw [hx] at hv; exact hv
        | rt t1 h1 => rw [hx] at hv; exact hv
        | nm t1 h1 =>
          rw [hx] at hv
          exact ihm t1 h1 v h' hv
    exact main n t h
noncomputable def fsRn (en : En) (call : Cl) : Rn := fun c t h => FS en call 1000000 c t h
theorem runFF_le (cf : CF) (en : En) (call : Cl) (as : List V) (h : H) : R1.le (runFF (ffOf cf) en call as h) (runF cf en.gt (fsRn en call) as h) := by
  obtain ⟨n, body, rs⟩ := cf
  obtain ⟨f, e, hf⟩ := cC_ok body
  intro v h' hv
  obtain ⟨h1, hv⟩ := bcase_ne (show bcase (Nat.ble (len as) n) (R1.bad 85) (CA.rec (motive := fun _ => R1) (fun f => f en call 1000000 (init' as BP.one en.gt) h (fin rs) (fun _ _ _ => R1.bad 84) (fin rs)) (cC body)) = .ok v h' from hv) (by simp)
  rw [e] at hv
  have hv := hf en call 1000000 _ h _ _ _ v h' hv
  show bcase (Nat.ble (len as) n) (R1.bad 85) (finX (FS en call 1000000 body (init' as BP.one en.gt) h) rs) = .ok v h'
  rw [h1]
  show finX (FS en call 1000000 body (init' as BP.one en.gt) h) rs = .ok v h'
  cases hx : FS en call 1000000 body (init' as BP.one en.gt) h with
  | bad n => rw [hx] at hv; cases hv
  | ex i t1 h1 => rw [hx] at hv; cases hv
  | nm t1 h1 => rw [hx] at hv; exact hv
  | rt t1 h1 => rw [hx] at hv; exact hv
/-- the law of a call, where the codes run as 'FS' has them -/
noncomputable def callFS (en : En) (call : Cl) (g : Nat) (as : List V) (h : H) : R1 := ovOr (en.ov g as h) (ocase (get (bpOf g) en.fns) (R1.bad (1000 + g)) (fun cf => runF cf en.gt (fsRn en call) as h))
theorem fcall1_le (en : En) (call : Cl) (g : Nat) (as : List V) (h : H) : R1.le (fcall1 en call g as h) (callFS en call g as h) := by
  intro v h' hv
  have hv : ocase (en.ov g as h) (ocase (get (bpOf g) en.fns) (R1.bad (1000 + g)) (fun cf => runFF (ffOf cf) en call as h)) (fun r => r) = .ok v h' := hv
  show ocase (en.ov g as h) (ocase (get (bpOf g) en.fns) (R1.bad (1000 + g)) (fun cf => runF cf en.gt (fsRn en call) as h)) (fun r => r) = .ok v h'
  cases ho : en.ov g as h with
  | some r => rw [ho] at hv; exact hv
  | none =>
    rw [ho] at hv
    obtain ⟨cf, h1, hv⟩ := ocase_ne (show ocase (get (bpOf g) en.fns) (R1.bad (1000 + g)) (fun cf => runFF (ffOf cf) en call as h) = .ok v h' from hv) (by simp)
    show ocase (get (bpOf g) en.fns) (R1.bad (1000 + g)) (fun cf => runF cf en.gt (fsRn en call) as h) = .ok v h'
    rw [h1]
    exact runFF_le cf en call as h v h' hv
variable {P : Program} {tt : TT} {ν : Nat → Int} {W : Bas}
theorem CallOk.le {call call' : Cl} (h : ∀ g as h, R1.le (call' g as h) (call g as h)) (k : CallOk P ν W call) : CallOk P ν W call' := fun g as h0 v h' hv => k g as h0 v h' (h g as h0 v h' hv)
theorem run_fs (hT : TTok P tt) (he : EnOk ν en) (hmo : P.follows .mixedOrders = true) (hm : MtsOk P en.mts) (hcall : CallOk P ν W call) : ∀ (C : Tr Unit) (nt : Nat), nt ≤ 100000 → ∀ (c : Code) (t : Tr V) (h : H) (X0 : X) (ρ : Pl) (a : Act) (w : World), fsRn en call (trC tt nt C c) t h = X0 → (∀ n, X0 ≠ .bad n) → Rel ν W ρ h w → FrC [] ν C ρ nt t a → c.wp P (Post [] ν W C nt h ρ X0) a w :=
  fun C nt hnt c t h X0 ρ a w hX hb R F => fs_sound hT he hmo hcall hm hnt c t h X0 ρ a w hX hb R F
theorem callFS_ok (hT : TTok P tt) (he : EnOk ν en) (hmo : P.follows .mixedOrders = true) (hm : MtsOk P en.mts) (hfn : ∀ g cf, get (bpOf g) en.fns = some cf → ∃ fn, P.funcs[g]? = some fn ∧ trF tt fn = some cf) (hgt : GtOk ν W en.gt) (hov : OvOk P ν W en) (hcall : CallOk P ν W call) : CallOk P ν W (callFS en call) := by
  intro g as h v h' hv
  have hv' : ocase (en.ov g as h) (ocase (get (bpOf g) en.fns) (R1.bad (1000 + g)) (fun cf => runF cf en.gt (fsRn en call) as h)) (fun r => r) = R1.ok v h' := hv
  cases ho : en.ov g as h with
  | some r =>
    rw [ho] at hv'
    exact hov g as h v h' (by rw [ho]; exact congrArg some hv')
  | none =>
    rw [ho] at hv'
    obtain ⟨cf, h1, hv2⟩ := ocase_ne (show ocase (get (bpOf g) en.fns) (R1.bad (1000 + g)) (fun cf => runF cf en.gt (fsRn en call) as h) = R1.ok v h' from hv') (by simp)
    obtain ⟨fn, hf, htf⟩ := hfn g cf h1
    exact func_run hT hgt (run_fs hT he hmo hm hcall) hf htf hv2
theorem fcall_ok (hT : TTok P tt) (he : EnOk ν en) (hmo : P.follows .mixedOrders = true) (hm : MtsOk P en.mts) (hfn : ∀ g cf, get (bpOf g) en.fns = some cf → ∃ fn, P.funcs[g]? = some fn ∧ trF tt fn = some cf) (hgt : GtOk ν W en.gt) (hov : OvOk P ν W en) : ∀ d, CallOk P ν W (fcall en d)
  | 0 => fun _ _ _ _ _ hv => by cases hv
  | d + 1 => CallOk.le (fun g as h => fcall1_le en (fcall en d) g as h) (callFS_ok hT he hmo hm hfn hgt hov (fcall_ok hT he hmo hm hfn hgt hov d))
-- codes that are written out
noncomputable def fnT (l : List (Nat × CF)) : Tr CF := List.rec (motive := fun _ => Tr CF) .lf (fun p _ ih => set (bpOf p.1) (some p.2) ih) l
theorem fnT_get : ∀ (l : List (Nat × CF)) {x : BP} {cf : CF}, get x (fnT l) = some cf → ∃ p ∈ l, x = bpOf p.1 ∧ cf = p.2
  | [], x, cf, h => by rw [show fnT [] = Tr.lf from rfl, get_lf] at h; cases h
  | p :: l, x, cf, h => by
    rw [show fnT (p :: l) = Ev.set (bpOf p.1) (some p.2) (fnT l) from rfl, get_set] at h
    split at h
    · rename_i e; exact ⟨p, List.mem_cons_self .., e, (Option.some.inj h).symm⟩
    · obtain ⟨q, h1, h2⟩ := fnT_get l h; exact ⟨q, List.mem_cons_of_mem _ h1, h2⟩
/-- each of these is what its function is translated to -/
def CodesOk (P : Program) : List (Nat × CF) → Prop
  | [] => True
  | p :: l => (p.1 < 100000 ∧ ∃ fn, P.funcs[p.1]? = some fn ∧ trF (ttOf P) fn = some p.2) ∧ CodesOk P l
theorem CodesOk.mem : ∀ {l : List (Nat × CF)}, CodesOk P l → ∀ p ∈ l, p.1 < 100000 ∧ ∃ fn, P.funcs[p.1]? = some fn ∧ trF (ttOf P) fn = some p.2
  | [], _, p, hp => by cases hp
  | q :: l, h, p, hp => by
    rcases List.mem_cons.1 hp with rfl | hp
    · exact h.1
    · exact CodesOk.mem h.2 p hp
theorem CodesOk.app : ∀ {l m : List (Nat × CF)}, CodesOk P l → CodesOk P m → CodesOk P (l ++ m)
  | [], _, _, k => k
  | _ :: _, _, h, k => ⟨h.1, CodesOk.app h.2 k⟩
theorem CodesOk.fns (hsz : P.funcs.size ≤ 100000) {l : List (Nat × CF)} (h : CodesOk P l) : ∀ g cf, get (bpOf g) (fnT l) = some cf → ∃ fn, P.funcs[g]? = some fn ∧ trF (ttOf P) fn = some cf := by
  intro g cf hg
  obtain ⟨p, hp, h1, rfl⟩ := fnT_get l hg
  obtain ⟨hlt, fn, h2, h3⟩ := h.mem p hp
  have hgp : g = p.1 := by
    by_cases hb : g < 1000000
    · exact bpOf_inj (by omega) (by omega) h1
    · have e := congrArg bpN h1
      rw [bpN_of (n := p.1) (by omega)] at e
      have := bpOf_big g
      omega
  subst hgp
  exact ⟨fn, h2, h3⟩
noncomputable def enF (path : List (Cd × Bool)) (norm : List (Z × Int)) (fns : List (Nat × CF)) (ov : Nat → List V → H → Option R1) (mts : Nat → String → Option Nat) (gl : List Nat) : En := ⟨path, norm, fnT fns, ov, mts, gl.foldr (fun g t => set (bpOf (100000 + g)) (some (.p (bpOf g) 0)) t) .lf⟩
/-- **The evaluator tells the truth**, by functions made of codes that are written out. -/
theorem evalf_calls {w : World} (hsz : (Nat.ble P.types.size 100000 && Nat.ble P.funcs.size 100000) = true) (hfo : flatOk P = true) (hmo : P.follows .mixedOrders = true) {path : List (Cd × Bool)} {norm : List (Z × Int)} (hp : PathOk ν path) (hn : NormOk ν norm) {l : List (Nat × List V)} {ov : Nat → List V → H → Option R1} {fns : List (Nat × CF)} {mts : Nat → String → Option Nat}
    (hfn : CodesOk P fns) (hm : MtsOk P mts) (hl : ∀ p ∈ l, p.1 < 1000 ∧ Listed ν (pl0 w (l.map (·.1))) w p) (hov : OvOk P ν (Bas.of w (pl0 w (l.map (·.1)))) (enF path norm fns ov mts (l.map (·.1)))) {d g : Nat} {as : List V} {v : V} {h' : H} (hv : fcall (enF path norm fns ov mts (l.map (·.1))) d g as (H0 l) = .ok v h') {args : List Value} (ha : VRs ν (pl0 w (l.map (·.1))) as args) :
    Calls P g args.toArray w (fun e w' => ∃ u, e = .returned u ∧ ∃ ρ', Rel ν (Bas.of w (pl0 w (l.map (·.1)))) ρ' h' w' ∧ VR ν ρ' v u) := by
  simp only [Bool.and_eq_true] at hsz
  have h1 := Nat.le_of_ble_eq_true hsz.1
  have h2 := Nat.le_of_ble_eq_true hsz.2
  have hlt : ∀ g ∈ l.map (·.1), g < 1000 := fun g hg => by obtain ⟨p, k1, rfl⟩ := List.mem_map.1 hg; exact (hl p k1).1
  have hT : TTok P (ttOf P) := ttOf_ok (by omega) hfo
  have := fcall_ok (P := P) (tt := ttOf P) (ν := ν) (en := enF path norm fns ov mts (l.map (fun x : Nat × List V => x.1))) (W := (Bas.of w (pl0 w (l.map (fun x : Nat × List V => x.1))))) hT ⟨hp, hn⟩ hmo hm (hfn.fns h2) (gt_ok (P := P) (path := path) (norm := norm) (ov := ov) hlt) hov d g as (H0 l) v h' hv
  refine Calls.mono (this.2 _ args w (rel_start hl) ha) (fun e w' he => ?_)
  obtain ⟨u, hu, ρ', hR, hvr, _⟩ := he
  exact ⟨u, hu, ρ', hR, hvr⟩
end Ev
end Go.Proofs.Ytlajbngfdbnoiaa
