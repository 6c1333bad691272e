/- Functions made of the small machine's codes: they do what the codes do. -/
import Derived.Test.YtoinghomkcjkcaaGreatDoorKd
import Derived.OrdersIn
import Derived.LoopNIn
import Derived.TacticsIn
import Derived.RangeFuncLeaves
import Derived.RangeFuncSeq
import Derived.RangeFuncOwn
import Derived.RangeFuncFrom
import Derived.Defers
namespace Go.Proofs.YtoinghomkcjkcaaGreatDoor
set_option linter.unusedSimpArgs false
set_option linter.unusedVariables false
set_option linter.constructorNameAsVariable false
open Go Go.RowKit
namespace Ev
noncomputable section
abbrev Kr := List V → H → R1
abbrev Kn := Tr V → H → R1
inductive LA where | mk (f : List V → V)
inductive SA where | mk (f : List V → Tr V → V)
inductive AA where | mk (f : List V → Tr V → List V)
inductive PL where | mk (f : List V → Tr V → List (Nat × Nat × V))
inductive PA where | mk (f : Tr V → V)
inductive TA where | mk (f : V → Tr V → (Tr V → R1) → R1)
inductive IA where | mk (f : En → Cl → List V → Tr V → H → Kr → R1)
inductive MA where | mk (f : List V → Tr V → (Tr V → R1) → R1)
inductive CA where | mk (f : En → Cl → Nat → Tr V → H → Kn → (Nat → Tr V → H → R1) → Kn → R1)
inductive FF where | mk (n : Nat) (body : CA) (rs : List Rv)
-- operands
def onLA {β : Type} (f : (List V → V) → β) (x : LA) : β := LA.rec (motive := fun _ => β) f x
def onPA {β : Type} (f : (Tr V → V) → β) (x : PA) : β := PA.rec (motive := fun _ => β) f x
def onSA {β : Type} (f : (List V → Tr V → V) → β) (x : SA) : β := SA.rec (motive := fun _ => β) f x
def onAA {β : Type} (f : (List V → Tr V → List V) → β) (x : AA) : β := AA.rec (motive := fun _ => β) f x
def onPL {β : Type} (f : (List V → Tr V → List (Nat × Nat × V)) → β) (x : PL) : β := PL.rec (motive := fun _ => β) f x
def onTA {β : Type} (f : (V → Tr V → (Tr V → R1) → R1) → β) (x : TA) : β := TA.rec (motive := fun _ => β) f x
def onIA {β : Type} (f : (En → Cl → List V → Tr V → H → Kr → R1) → β) (x : IA) : β := IA.rec (motive := fun _ => β) f x
def onMA {β : Type} (f : (List V → Tr V → (Tr V → R1) → R1) → β) (x : MA) : β := MA.rec (motive := fun _ => β) f x
def onCA {β : Type} (f : (En → Cl → Nat → Tr V → H → Kn → (Nat → Tr V → H → R1) → Kn → R1) → β) (x : CA) : β := CA.rec (motive := fun _ => β) f x
def locS (g : List V → V) : LA := LA.mk (fun r => List.rec (motive := fun _ => V) V.x (fun _ l _ => g l) r)
def cLoc : Nat → LA := Nat.rec (LA.mk (fun r => List.rec (motive := fun _ => V) V.x (fun a _ _ => a) r)) (fun _ ih => onLA locS ih)
def pathE (g : Tr V → V) : PA := PA.mk (fun t => Tr.rec (motive := fun _ => V) V.x (fun l _ _ _ _ => g l) t)
def pathO (g : Tr V → V) : PA := PA.mk (fun t => Tr.rec (motive := fun _ => V) V.x (fun _ _ r _ _ => g r) t)
def cPath : BP → PA := BP.rec (PA.mk (fun t => Tr.rec (motive := fun _ => V) V.x (fun _ v _ _ _ => Option.rec (motive := fun _ => V) V.x (fun v => v) v) t)) (fun _ ih => onPA pathE ih) (fun _ ih => onPA pathO ih)
def saL (g : List V → V) : SA := SA.mk (fun r _ => g r)
def saP (g : Tr V → V) : SA := SA.mk (fun _ t => g t)
def cS : Src → SA := Src.rec (fun i => onLA saL (cLoc i)) (fun p => onPA saP (cPath p)) (fun v => SA.mk (fun _ _ => v))
def aaC (f : List V → Tr V → V) (g : List V → Tr V → List V) : AA := AA.mk (fun r t => f r t :: g r t)
def cSs : List Src → AA := List.rec (AA.mk (fun _ _ => [])) (fun s _ ih => onSA (fun f => onAA (aaC f) ih) (cS s))
def plC (a b : Nat) (f : List V → Tr V → V) (g : List V → Tr V → List (Nat × Nat × V)) : PL := PL.mk (fun r t => (a, b, f r t) :: g r t)
def cPs : List (Nat × Nat × Src) → PL := List.rec (PL.mk (fun _ _ => [])) (fun s _ ih => onSA (fun f => onPL (plC s.1 s.2.1 f) ih) (cS s.2.2))
-- what is laid into the frame
def setE (g : V → Tr V → (Tr V → R1) → R1) : TA := TA.mk (fun x t k => Tr.rec (motive := fun _ => R1) (g x Tr.lf (fun l => k (Tr.nd l none Tr.lf))) (fun l v r _ _ => g x l (fun l => k (Tr.nd l v r))) t)
def setO (g : V → Tr V → (Tr V → R1) → R1) : TA := TA.mk (fun x t k => Tr.rec (motive := fun _ => R1) (g x Tr.lf (fun r => k (Tr.nd Tr.lf none r))) (fun l v r _ _ => g x r (fun r => k (Tr.nd l v r))) t)
def cSet : BP → TA := BP.rec (TA.mk (fun x t k => Tr.rec (motive := fun _ => R1) (k (Tr.nd Tr.lf (some x) Tr.lf)) (fun l _ r _ _ => k (Tr.nd l (some x) r)) t)) (fun _ ih => onTA setE ih) (fun _ ih => onTA setO ih)
def maC (g : V → Tr V → (Tr V → R1) → R1) (a : List V → V) (m : List V → Tr V → (Tr V → R1) → R1) : MA := MA.mk (fun r t k => g (a r) t (fun t => m r t k))
def cCm : List (BP × Nat) → MA := List.rec (MA.mk (fun _ t k => k t)) (fun c _ ih => onTA (fun g => onLA (fun a => onMA (maC g a) ih) (cLoc c.2)) (cSet c.1))
def inB (n : Nat) : List (BP × Nat) → Bool := List.rec true (fun c _ ih => bcase (Nat.blt c.2 n) false ih)
-- lists
def nth' {α : Type} : Nat → List α → Option α := Nat.rec (fun l => List.rec none (fun a _ _ => some a) l) (fun _ ih l => List.rec none (fun _ t _ => ih t) l)
/-- a text as a tree (made once) -/
def trOf' : List Z → BP → Tr Z → Tr Z := List.rec (fun _ t => t) (fun z _ ih p t => ih (succ p) (set p (some z) t))
inductive TZ where | mk (t : Tr Z)
def tzOf (t : Tr Z) : TZ := Tr.rec (TZ.mk Tr.lf) (fun l v r _ _ => TZ.mk (Tr.nd l v r)) t
def txtTr (l : List Z) : TZ := tzOf (trOf' l BP.one Tr.lf)
def onTZ {β : Type} (f : Tr Z → β) (x : TZ) : β := TZ.rec (motive := fun _ => β) f x
def istr' (v i : V) : Option V := onS v none (fun l => bcase (Nat.ble (len l) 90000) none (asNat i none (fun k => bcase (Nat.blt k 90000) none (onTZ (fun t => ocase (get (bpOf k) t) none (fun z => some (V.i .u8 z))) (txtTr l)))))
-- results
def okK (o : Option V) (h : H) (r : List V) (k : Kr) : R1 := Option.rec (motive := fun _ => R1) (R1.bad 90) (fun v => k (v :: r) h) o
def okE (x : R1) (r : List V) (k : Kr) : R1 := R1.rec (motive := fun _ => R1) R1.bad (fun v h => k (v :: r) h) x
/-- any -/
def cGen (g : Option (Src × Bool)) (k : K) (ag : List Ag) : IA := IA.mk (fun en call r t h kk => r1 (doG en call (src r t) h g k) R1.bad (fun v h' => (fun r' => bcase (stills en t r' h' ag) (R1.bad 82) (kk r' h')) (v :: r)))
def iMv (s : List V → Tr V → V) : IA := IA.mk (fun _ _ r t h k => k (s r t :: r) h)
def i1 (f : En → V → Option V) (s : List V → Tr V → V) : IA := IA.mk (fun en _ r t h k => okK (f en (s r t)) h r k)
def i2 (f : En → V → V → Option V) (a b : List V → Tr V → V) : IA := IA.mk (fun en _ r t h k => okK (f en (a r t) (b r t)) h r k)
def i3 (f : En → V → V → V → Option V) (a b c : List V → Tr V → V) : IA := IA.mk (fun en _ r t h k => okK (f en (a r t) (b r t) (c r t)) h r k)
def iP (f : En → List (Nat × Nat × V) → Option V) (p : List V → Tr V → List (Nat × Nat × V)) : IA := IA.mk (fun en _ r t h k => okK (f en (p r t)) h r k)
def p1 (f : En → V → Option V) (s : Src) : Option IA := some (onSA (i1 f) (cS s))
def p2 (f : En → V → V → Option V) (a b : Src) : Option IA := some (onSA (fun a => onSA (i2 f a) (cS b)) (cS a))
def p3 (f : En → V → V → V → Option V) (a b c : Src) : Option IA := some (onSA (fun a => onSA (fun b => onSA (i3 f a b) (cS c)) (cS b)) (cS a))
def h1 (f : En → V → H → Option V) (s : List V → Tr V → V) : IA := IA.mk (fun en _ r t h k => okK (f en (s r t) h) h r k)
def h2 (f : En → V → V → H → Option V) (a b : List V → Tr V → V) : IA := IA.mk (fun en _ r t h k => okK (f en (a r t) (b r t) h) h r k)
def e0 (f : H → R1) : IA := IA.mk (fun _ _ r _ h k => okE (f h) r k)
def e1 (f : En → V → H → R1) (s : List V → Tr V → V) : IA := IA.mk (fun en _ r t h k => okE (f en (s r t) h) r k)
def e2 (f : En → V → V → H → R1) (a b : List V → Tr V → V) : IA := IA.mk (fun en _ r t h k => okE (f en (a r t) (b r t) h) r k)
def eP (f : En → List (Nat × Nat × V) → H → R1) (p : List V → Tr V → List (Nat × Nat × V)) : IA := IA.mk (fun en _ r t h k => okE (f en (p r t) h) r k)
def eC (g : Nat) (f : List V → Tr V → List V) : IA := IA.mk (fun _ call r t h k => okE (call g (f r t) h) r k)
def eV (s : List V → Tr V → V) (f : List V → Tr V → List V) : IA := IA.mk (fun _ call r t h k => okE (onF (s r t) (R1.bad 75) (fun g a b => call g (app a (app (f r t) b)) h)) r k)
def eI (m : String) (s : List V → Tr V → V) (f : List V → Tr V → List V) : IA := IA.mk (fun en call r t h k => okE (onN (s r t) (R1.bad 77) (fun ty v => ocase (en.mts ty m) (R1.bad 76) (fun g => call g (v :: f r t) h))) r k)
def load1' (v : V) (h : H) : Option V := onP v none (fun x off => onC (obj h x) none (fun l _ _ => nth' off l))
def loadn' (n : Nat) (v : V) (h : H) : Option V := onP v none (fun x off => ocase (cellsAt h x off n) none (fun l => some (V.g l)))
def storeR (n : Nat) (p v : V) (h : H) : R1 := onP p (R1.bad 33) (fun x off => (fun vs => bcase (lenIs n vs) (R1.bad 34) (write h x off vs)) (cellsV v))
def boxR (n : Nat) (v : V) (h : H) : R1 := ocase (bcase (isT 0 v) (bcase (lenIs n (cellsV v)) none (some (O.c (cellsV v) none true, fun x => V.p x 0))) none) (R1.bad 92) (fun p => fresh h p.1 p.2)
def bsR (sz n : Nat) (z : List V) (ps : List (Nat × Nat × V)) (h : H) : R1 := ocase (ocase (place ps z) none (fun l => some (O.c l none true, fun x => V.sl x 0 sz n))) (R1.bad 92) (fun p => fresh h p.1 p.2)
/-- the functions of what only reckons -/
def cP : KP → Option IA := KP.rec
  (fun s => some (onSA iMv (cS s)))
  (fun c a b => p3 (fun _ c a b => onB c none (fun x => bcase x (some b) (some a))) c a b)
  (fun z ps => some (onPL (iP (fun _ p => ocase (place p z) none (fun l => some (V.g l)))) (cPs ps)))
  (p1 (fun _ => nilck))
  (fun op => p2 (fun en a b => binV en op a b))
  (fun cls neg => p2 (fun _ a b => eqK cls neg a b))
  (p1 (fun _ v => onB v none (fun b => okB (!b))))
  (fun _ => none) (fun _ => none)
  (fun k => p1 (fun en v => convK en k v))
  (fun _ => none)
  (fun t => p1 (fun _ v => some (V.n t v)))
  (fun _ _ _ => none)
  (fun _ _ _ _ _ => none) (fun _ _ _ => none)
  (fun off => p1 (fun _ v => faddr off v))
  (fun off => p1 (fun _ v => part1 off v))
  (fun off n => p1 (fun _ v => partn off n v))
  (fun sz => p2 (fun en v i => iaddr en.path sz v i))
  (fun sz n => p2 (fun _ v i => aaddr sz n v i))
  (p2 (fun _ v i => istr' v i))
  (fun n => p2 (fun _ v i => ipart1 n v i))
  (fun n sz => p2 (fun _ v i => ipartn n sz v i))
  (fun i => p1 (fun _ v => onU v none (fun l => nth l i)))
  (p1 (fun _ v => lenV v))
  (p1 (fun _ v => onS v none (fun l => okN (len l))))
  (fun n => some (IA.mk (fun _ _ r t h k => okK (okN n) h r k)))
  (fun _ => none) (fun mx => p2 (fun en a b => mm en.path mx a b)) (fun _ _ _ _ => none) (fun _ _ => none) (fun t ok z => p1 (fun _ v => tas t ok z v))
def cR : KR → Option IA := KR.rec (fun s => some (onSA (h1 (fun _ => load1')) (cS s))) (fun n s => some (onSA (h1 (fun _ => loadn' n)) (cS s))) (fun _ => none)
  (fun ks z ok m i => some (onSA (fun m => onSA (h2 (fun en m i h => lookup ks en.path h z ok m i) m) (cS i)) (cS m))) (fun _ => none)
def cA : KA → Option IA := KA.rec (fun z => some (e0 (fun h => fresh h (O.c z none true) (fun x => V.p x 0)))) (fun n s => some (onSA (e1 (fun _ => boxR n)) (cS s))) (fun sz n z ps => some (onPL (eP (fun _ => bsR sz n z)) (cPs ps)))
  (fun _ _ _ _ => none) none (fun _ => none)
def cCall : Cb → List Src → IA := Cb.rec (fun g as => onAA (eC g) (cSs as)) (fun s as => onSA (fun s => onAA (eV s) (cSs as)) (cS s)) (fun s m as => onSA (fun s => onAA (eI m s) (cSs as)) (cS s))
def cE : KE → Option IA := KE.rec (fun n s v => some (onSA (fun s => onSA (e2 (fun _ => storeR n) s) (cS v)) (cS s))) (fun _ _ _ _ => none) (fun c as => some (cCall c as))
  (fun sz b s x => some (onSA (fun s => onSA (e2 (fun _ s x h => append h sz b s x) s) (cS x)) (cS s))) (fun _ _ _ _ _ => none) (fun _ _ _ => none) (fun _ _ _ => none) (fun _ _ _ => none)
def cK : K → Option IA := K.rec cP cR cA cE (fun _ => none)
/-- without a guard, nothing to be looked at again -/
def plainI (g : Option (Src × Bool)) (ag : List Ag) : Bool := Option.rec (List.rec true (fun _ _ _ => false) ag) (fun _ => false) g
def cIt : It → IA := It.rec (fun g k ag => bcase (plainI g ag) (cGen g k ag) (ocase (cK k) (cGen g k ag) (fun a => a)))
def itC (f g : En → Cl → List V → Tr V → H → Kr → R1) : IA := IA.mk (fun en call r t h k => f en call r t h (fun r h => g en call r t h k))
def cIts : List It → IA := List.rec (IA.mk (fun _ _ r _ h k => k r h)) (fun i _ ih => onIA (fun g => onIA (fun f => itC f g) (cIt i)) ih)
def cCommit (n : Nat) (cm : List (BP × Nat)) : MA := bcase (inB n cm) (MA.mk (fun r t k => k (commit r cm t))) (cCm cm)
def caReg (g : En → Cl → List V → Tr V → H → Kr → R1) (m : List V → Tr V → (Tr V → R1) → R1) : CA := CA.mk (fun en call n t h kn ke kr => g en call [] t h (fun r h => m r t (fun t => kn t h)))
def caSeq (b : CA) (f : En → Cl → Nat → Tr V → H → Kn → (Nat → Tr V → H → R1) → Kn → R1) : CA := CA.mk (fun en call n t h kn ke kr => f en call n t h (fun t h => CA.rec (motive := fun _ => R1) (fun g => g en call n t h kn ke kr) b) ke kr)
def caCond (a b : CA) (s : List V → Tr V → V) : CA := CA.mk (fun en call n t h kn ke kr => onB (s [] t) (R1.bad 86) (fun x => bcase x (CA.rec (motive := fun _ => R1) (fun g => g en call n t h kn ke kr) b) (CA.rec (motive := fun _ => R1) (fun f => f en call n t h kn ke kr) a)))
def caBlock (id : Nat) (f : En → Cl → Nat → Tr V → H → Kn → (Nat → Tr V → H → R1) → Kn → R1) : CA := CA.mk (fun en call n t h kn ke kr => f en call n t h kn (fun j t h => bcase (Nat.beq j id) (ke j t h) (kn t h)) kr)
def caLoop (f : En → Cl → Nat → Tr V → H → Kn → (Nat → Tr V → H → R1) → Kn → R1) : CA := CA.mk (fun en call n t h kn ke kr => Nat.rec (motive := fun _ => Tr V → H → R1) (fun _ _ => R1.bad 87) (fun _ ih t h => f en call n t h ih ke kr) n t h)
def cC : C2 → CA := C2.rec (CA.mk (fun _ _ _ t h kn _ _ => kn t h))
  (fun its cm => onIA (fun g => onMA (caReg g) (cCommit (len its) cm)) (cIts its))
  (fun _ _ iha ihb => onCA (caSeq ihb) iha)
  (fun s _ _ iha ihb => onSA (caCond iha ihb) (cS s))
  (fun id _ ih => onCA (caBlock id) ih)
  (fun _ ih => onCA caLoop ih)
  (fun id => CA.mk (fun _ _ _ t h _ ke _ => ke id t h)) (CA.mk (fun _ _ _ t h _ _ kr => kr t h)) (fun w => CA.mk (fun _ _ _ _ _ _ _ _ => R1.bad w))
def ffOf : CF → FF := CF.rec (fun n body rs => FF.mk n (cC body) rs)
/-- a call: loops of at most a million turns -/
def runFF : FF → En → Cl → List V → H → R1 := FF.rec (fun n body rs en call as h => bcase (Nat.ble (len as) n) (R1.bad 85) (CA.rec (fun f => f en call 1000000 (init' as BP.one en.gt) h (fin rs) (fun _ _ _ => R1.bad 84) (fin rs)) body))
def fcall1 (en : En) (call : Cl) (g : Nat) (as : List V) (h : H) : R1 := ovOr (en.ov g as h) (ocase (get (bpOf g) en.fns) (R1.bad (1000 + g)) (fun cf => runFF (ffOf cf) en call as h))
def fcall (en : En) : Nat → Cl := Nat.rec (fun _ _ _ => R1.bad 88) (fun _ ih => fcall1 en ih)
end

/-- what one answers the other answers too -/
def R1.le (r s : R1) : Prop := ∀ v h, r = .ok v h → s = .ok v h
theorem R1.le_refl (r : R1) : R1.le r r := fun _ _ h => h
theorem R1.le_bad (w : Nat) (s : R1) : R1.le (.bad w) s := fun _ _ h => by cases h
theorem R1.le_of_eq {r s : R1} (h : r = s) : R1.le r s := h ▸ R1.le_refl r
variable {en : En} {call : Cl} {r : List V} {t : Tr V} {h : H}
theorem cLoc_ok : ∀ i, ∃ g, cLoc i = .mk g ∧ ∀ r, g r = ocase (nth r i) V.x (fun v => v)
  | 0 => ⟨_, rfl, fun r => by cases r <;> rfl⟩
  | i + 1 => by
    obtain ⟨g, e, hg⟩ := cLoc_ok i
    refine ⟨_, (by rw [show cLoc (i + 1) = onLA locS (cLoc i) from rfl, e]), fun r => ?_⟩
    cases r with
    | nil => rfl
    | cons a l => exact hg l
theorem cPath_ok : ∀ p, ∃ g, cPath p = .mk g ∧ ∀ t, g t = ocase (get p t) V.x (fun v => v)
  | .one => ⟨_, rfl, fun t => by cases t with | lf => rfl | nd l v r => cases v <;> rfl⟩
  | .e p => by
    obtain ⟨g, e, hg⟩ := cPath_ok p
    refine ⟨_, (by rw [show cPath (.e p) = onPA pathE (cPath p) from rfl, e]), fun t => ?_⟩
    cases t with
    | lf => rfl
    | nd l v r => exact hg l
  | .o p => by
    obtain ⟨g, e, hg⟩ := cPath_ok p
    refine ⟨_, (by rw [show cPath (.o p) = onPA pathO (cPath p) from rfl, e]), fun t => ?_⟩
    cases t with
    | lf => rfl
    | nd l v r => exact hg r
theorem cS_ok (s : Src) : ∃ f, cS s = .mk f ∧ ∀ r t, f r t = src r t s := by
  cases s with
  | loc i => obtain ⟨g, e, hg⟩ := cLoc_ok i; exact ⟨_, (by rw [show cS (.loc i) = onLA saL (cLoc i) from rfl, e]; rfl), fun r t => hg r⟩
  | tmp p => obtain ⟨g, e, hg⟩ := cPath_ok p; exact ⟨_, (by rw [show cS (.tmp p) = onPA saP (cPath p) from rfl, e]; rfl), fun r t => hg t⟩
  | val v => exact ⟨fun _ _ => v, rfl, fun _ _ => rfl⟩
theorem cSs_ok : ∀ l : List Src, ∃ f, cSs l = .mk f ∧ ∀ r t, f r t = srcs (src r t) l
  | [] => ⟨_, rfl, fun _ _ => rfl⟩
  | s :: l => by
    obtain ⟨f, e, hf⟩ := cS_ok s
    obtain ⟨g, e', hg⟩ := cSs_ok l
    refine ⟨_, (by rw [show cSs (s :: l) = onSA (fun f => onAA (aaC f) (cSs l)) (cS s) from rfl, e, e']), fun r t => ?_⟩
    show f r t :: g r t = _; rw [hf, hg]; rfl
theorem cPs_ok : ∀ l : List (Nat × Nat × Src), ∃ f, cPs l = .mk f ∧ ∀ r t, f r t = srcP (src r t) l
  | [] => ⟨_, rfl, fun _ _ => rfl⟩
  | s :: l => by
    obtain ⟨f, e, hf⟩ := cS_ok s.2.2
    obtain ⟨g, e', hg⟩ := cPs_ok l
    refine ⟨_, (by rw [show cPs (s :: l) = onSA (fun f => onPL (plC s.1 s.2.1 f) (cPs l)) (cS s.2.2) from rfl, e, e']), fun r t => ?_⟩
    show (s.1, s.2.1, f r t) :: g r t = _; rw [hf, hg]; rfl
theorem mkL_eq' (l : Tr V) (v : Option V) (r : Tr V) : mkL l v r = .nd l v r := by cases l <;> rfl
theorem mkR_eq' (l : Tr V) (v : Option V) (r : Tr V) : mkR r l v = .nd l v r := by cases r <;> rfl
theorem cSet_ok : ∀ p, ∃ g, cSet p = .mk g ∧ ∀ x t k, g x t k = k (Ev.set p (some x) t)
  | .one => ⟨_, rfl, fun x t k => by cases t <;> rfl⟩
  | .e p => by
    obtain ⟨g, e, hg⟩ := cSet_ok p
    refine ⟨_, (by rw [show cSet (.e p) = onTA setE (cSet p) from rfl, e]), fun x t k => ?_⟩
    cases t with
    | lf => show g x .lf _ = k (mkL (Ev.set p (some x) .lf) none .lf); rw [hg, mkL_eq']
    | nd l v r => show g x l _ = k (mkL (Ev.set p (some x) l) v r); rw [hg, mkL_eq']
  | .o p => by
    obtain ⟨g, e, hg⟩ := cSet_ok p
    refine ⟨_, (by rw [show cSet (.o p) = onTA setO (cSet p) from rfl, e]), fun x t k => ?_⟩
    cases t with
    | lf => show g x .lf _ = k (mkR (Ev.set p (some x) .lf) .lf none); rw [hg, mkR_eq']
    | nd l v r => show g x r _ = k (mkR (Ev.set p (some x) r) l v); rw [hg, mkR_eq']
theorem cCm_ok : ∀ (cm : List (BP × Nat)) (n : Nat), inB n cm = true → ∃ m, cCm cm = .mk m ∧ ∀ r t k, r.length = n → m r t k = k (commit r cm t)
  | [], _, _ => ⟨_, rfl, fun _ _ _ _ => rfl⟩
  | c :: cm, n, hb => by
    obtain ⟨h1, h2⟩ := bcase_ne (show bcase (Nat.blt c.2 n) false (inB n cm) = true from hb) (by simp)
    obtain ⟨g, e, hg⟩ := cSet_ok c.1
    obtain ⟨a, e', ha⟩ := cLoc_ok c.2
    obtain ⟨m, e'', hm⟩ := cCm_ok cm n h2
    refine ⟨_, (by rw [show cCm (c :: cm) = onTA (fun g => onLA (fun a => onMA (maC g a) (cCm cm)) (cLoc c.2)) (cSet c.1) from rfl, e, e', e'']), fun r t k hr => ?_⟩
    show g (a r) t (fun t => m r t k) = _
    rw [hg, hm r _ k hr]
    show k (commit r cm _) = k (commit r cm (Ev.set c.1 (nth r c.2) t))
    have hlt : c.2 < r.length := by rw [hr]; exact blt_iff.1 h1
    rw [ha, nth_eq, List.getElem?_eq_getElem hlt]; rfl
theorem cCommit_ok (cm : List (BP × Nat)) (n : Nat) : ∃ m, cCommit n cm = .mk m ∧ ∀ r t k, r.length = n → m r t k = k (commit r cm t) := by
  unfold cCommit
  cases hb : inB n cm with
  | false => exact ⟨_, rfl, fun _ _ _ _ => rfl⟩
  | true => exact cCm_ok cm n hb
theorem nth'_eq {α : Type} : ∀ (i : Nat) (l : List α), nth' i l = nth l i
  | 0, [] => rfl
  | 0, _ :: _ => rfl
  | i + 1, [] => rfl
  | i + 1, _ :: l => nth'_eq i l
theorem trOf'_get : ∀ (l : List Z) (k : Nat) (t : Tr Z) (n : Nat), k + l.length ≤ 99000 → n < 100000 → get (bpOf n) (trOf' l (bpOf k) t) = if k ≤ n ∧ n < k + l.length then l[n - k]? else get (bpOf n) t
  | [], k, t, n, _, _ => by rw [if_neg (by simp only [List.length_nil]; omega)]; rfl
  | x0 :: as, k, t, n, h, hn => by
    simp only [List.length_cons] at h ⊢
    show get (bpOf n) (trOf' as (succ (bpOf k)) (set (bpOf k) (some x0) t)) = _
    rw [succ_bpOf (by omega), trOf'_get as (k + 1) _ n (by omega) hn, get_set]
    by_cases e : n = k
    · subst e; rw [if_neg (by omega), if_pos rfl, if_pos (by omega)]; simp
    · rw [if_neg (fun e' => e (bpOf_inj (by omega) (by omega) e'))]
      by_cases c : k + 1 ≤ n ∧ n < k + 1 + as.length
      · rw [if_pos c, if_pos (by omega), show n - k = (n - (k + 1)) + 1 by omega]; simp
      · rw [if_neg c, if_neg (by omega)]
theorem tzOf_eq (t : Tr Z) : tzOf t = .mk t := by cases t <;> rfl
theorem istr'_some {v i u : V} (hv : istr' v i = some u) : istr v i = some u := by
  obtain ⟨l, rfl, hv⟩ := onS_ne hv (by simp)
  obtain ⟨h1, hv⟩ := bcase_ne hv (by simp)
  obtain ⟨kk, k, rfl, hv⟩ := asNat_ne hv (by simp)
  obtain ⟨h2, hv⟩ := bcase_ne hv (by simp)
  have h1 := Nat.le_of_ble_eq_true h1
  have h2 := blt_iff.1 h2
  rw [len_eq] at h1
  unfold txtTr at hv
  rw [tzOf_eq] at hv
  obtain ⟨z, h3, hv⟩ := ocase_ne (show ocase (get (bpOf k) (trOf' l BP.one Tr.lf)) none (fun z => some (V.i .u8 z)) = some u from hv) (by simp)
  rw [show BP.one = bpOf 0 from rfl, trOf'_get l 0 .lf k (by omega) (by omega), get_lf] at h3
  split at h3
  · obtain rfl := Option.some.inj hv
    rw [Nat.sub_zero] at h3
    have h4 : asNat (.i kk (.lit (k : Int))) none (fun k => ocase (nth l k) none (fun z => some (V.i .u8 z))) = ocase (nth l k) none (fun z => some (V.i .u8 z)) := rfl
    show asNat (.i kk (.lit (k : Int))) none (fun k => ocase (nth l k) none (fun z => some (V.i .u8 z))) = _
    rw [h4, nth_eq, h3]; rfl
  · cases h3
/-- what an item does, then what comes behind -/
noncomputable def itK (en : En) (call : Cl) (i : It) (r : List V) (t : Tr V) (h : H) (k : Kr) : R1 := it i (fun g kk ag => r1 (doG en call (src r t) h g kk) R1.bad (fun v h' => bcase (stills en t (v :: r) h' ag) (R1.bad 82) (k (v :: r) h')))
/-- a function does an operation, at least -/
def IOk (i : It) (a : IA) : Prop := ∃ f, a = .mk f ∧ ∀ en call r t h k, R1.le (f en call r t h k) (itK en call i r t h k)
theorem okK_le {k0 : K} {o : Option V} {r : List V} {t : Tr V} {h : H} {k : Kr} (hv : ∀ v, o = some v → doK k0 en call (src r t) h = .ok v h) : R1.le (okK o h r k) (itK en call (.mk none k0 []) r t h k) := by
  intro v h' e
  cases o with
  | none => cases e
  | some u =>
    have e : k (u :: r) h = .ok v h' := e
    have h2 : itK en call (.mk none k0 []) r t h k = r1 (doK k0 en call (src r t) h) R1.bad (fun v h' => k (v :: r) h') := rfl
    rw [h2, hv u rfl]; exact e
theorem okE_le {k0 : K} {o : R1} {r : List V} {t : Tr V} {h : H} {k : Kr} (hv : ∀ v h1, o = .ok v h1 → doK k0 en call (src r t) h = .ok v h1) : R1.le (okE o r k) (itK en call (.mk none k0 []) r t h k) := by
  intro v h' e
  cases o with
  | bad n => cases e
  | ok u h1 =>
    have e : k (u :: r) h1 = .ok v h' := e
    have h2 : itK en call (.mk none k0 []) r t h k = r1 (doK k0 en call (src r t) h) R1.bad (fun v h' => k (v :: r) h') := rfl
    rw [h2, hv u h1 rfl]; exact e
theorem okR_some {o : Option V} {v : V} {h : H} {n : Nat} (h1 : o = some v) : okR o h n = .ok v h := by rw [h1]; rfl
theorem load1'_eq (v : V) (h : H) : load1' v h = onP v none (fun x off => onC (obj h x) none (fun l _ _ => nth l off)) := by
  unfold load1'
  have : ∀ (l : List V) (off : Nat), nth' off l = nth l off := fun l off => nth'_eq off l
  simp only [this]
theorem p1_ok {k0 : KP} {f : En → V → Option V} {s : Src} {a : IA} (h : p1 f s = some a) (hd : ∀ en r t v, f en (src r t s) = some v → doP k0 en (src r t) = some v) : IOk (.mk none (.pu k0) []) a := by
  obtain ⟨g, e, hg⟩ := cS_ok s
  unfold p1 at h
  rw [e] at h
  obtain rfl := Option.some.inj h
  exact ⟨_, rfl, fun en call r t h k => okK_le (fun v hv => okR_some (hd en r t v (by rw [← hg]; exact hv)))⟩
theorem p2_ok {k0 : KP} {f : En → V → V → Option V} {s s' : Src} {a : IA} (h : p2 f s s' = some a) (hd : ∀ en r t v, f en (src r t s) (src r t s') = some v → doP k0 en (src r t) = some v) : IOk (.mk none (.pu k0) []) a := by
  obtain ⟨g, e, hg⟩ := cS_ok s
  obtain ⟨g', e', hg'⟩ := cS_ok s'
  unfold p2 at h
  rw [e, e'] at h
  obtain rfl := Option.some.inj h
  exact ⟨_, rfl, fun en call r t h k => okK_le (fun v hv => okR_some (hd en r t v (by rw [← hg, ← hg']; exact hv)))⟩
theorem p3_ok {k0 : KP} {f : En → V → V → V → Option V} {s s' s'' : Src} {a : IA} (h : p3 f s s' s'' = some a) (hd : ∀ en r t v, f en (src r t s) (src r t s') (src r t s'') = some v → doP k0 en (src r t) = some v) : IOk (.mk none (.pu k0) []) a := by
  obtain ⟨g, e, hg⟩ := cS_ok s
  obtain ⟨g', e', hg'⟩ := cS_ok s'
  obtain ⟨g'', e'', hg''⟩ := cS_ok s''
  unfold p3 at h
  rw [e, e', e''] at h
  obtain rfl := Option.some.inj h
  exact ⟨_, rfl, fun en call r t h k => okK_le (fun v hv => okR_some (hd en r t v (by rw [← hg, ← hg', ← hg'']; exact hv)))⟩
theorem cP_ok (k0 : KP) {a : IA} (h : cP k0 = some a) : IOk (.mk none (.pu k0) []) a := by
  cases k0 with
  | mv s =>
    obtain ⟨g, e, hg⟩ := cS_ok s
    have h' : some (onSA iMv (cS s)) = some a := h
    rw [e] at h'
    obtain rfl := Option.some.inj h'
    refine ⟨_, rfl, fun en call r t h k => ?_⟩
    intro v h' e
    have e : k (g r t :: r) h = .ok v h' := e
    rw [hg] at e; exact e
  | build z ps =>
    obtain ⟨g, e, hg⟩ := cPs_ok ps
    have h' : some (onPL (iP (fun _ p => ocase (place p z) none (fun l => some (V.g l)))) (cPs ps)) = some a := h
    rw [e] at h'
    obtain rfl := Option.some.inj h'
    exact ⟨_, rfl, fun en call r t h k => okK_le (fun v hv => okR_some (by rw [hg] at hv; exact hv))⟩
  | alen n =>
    have h' : some (IA.mk (fun _ _ r t h k => okK (okN n) h r k)) = some a := h
    obtain rfl := Option.some.inj h'
    exact ⟨_, rfl, fun en call r t h k => okK_le (fun v hv => okR_some hv)⟩
  | istr s i => exact p2_ok h (fun en r t v hv => istr'_some hv)
  | _ => first
    | (cases h; done)
    | exact p1_ok h (fun en r t v hv => hv)
    | exact p2_ok h (fun en r t v hv => hv)
    | exact p3_ok h (fun en r t v hv => hv)
theorem cR_ok (k0 : KR) {a : IA} (h : cR k0 = some a) : IOk (.mk none (.rd k0) []) a := by
  cases k0 with
  | load1 s =>
    obtain ⟨g, e, hg⟩ := cS_ok s
    have h' : some (onSA (h1 (fun _ => load1')) (cS s)) = some a := h
    rw [e] at h'
    obtain rfl := Option.some.inj h'
    exact ⟨_, rfl, fun en call r t h k => okK_le (fun v hv => okR_some (by rw [hg] at hv; exact (load1'_eq _ _).symm.trans hv))⟩
  | loadn n s =>
    obtain ⟨g, e, hg⟩ := cS_ok s
    have h' : some (onSA (h1 (fun _ => loadn' n)) (cS s)) = some a := h
    rw [e] at h'
    obtain rfl := Option.some.inj h'
    exact ⟨_, rfl, fun en call r t h k => okK_le (fun v hv => okR_some (by rw [hg] at hv; exact hv))⟩
  | lookup ks z ok m i =>
    obtain ⟨g, e, hg⟩ := cS_ok m
    obtain ⟨g', e', hg'⟩ := cS_ok i
    have h' : some (onSA (fun m => onSA (h2 (fun en m i h => lookup ks en.path h z ok m i) m) (cS i)) (cS m)) = some a := h
    rw [e, e'] at h'
    obtain rfl := Option.some.inj h'
    exact ⟨_, rfl, fun en call r t h k => okK_le (fun v hv => okR_some (by rw [hg, hg'] at hv; exact hv))⟩
  | _ => cases h
theorem cA_ok (k0 : KA) {a : IA} (h : cA k0 = some a) : IOk (.mk none (.al k0) []) a := by
  cases k0 with
  | alloc z =>
    have h' : some (e0 (fun h => fresh h (O.c z none true) (fun x => V.p x 0))) = some a := h
    obtain rfl := Option.some.inj h'
    exact ⟨_, rfl, fun en call r t h k => okE_le (fun v h1 hv => hv)⟩
  | box n s =>
    obtain ⟨g, e, hg⟩ := cS_ok s
    have h' : some (onSA (e1 (fun _ => boxR n)) (cS s)) = some a := h
    rw [e] at h'
    obtain rfl := Option.some.inj h'
    exact ⟨_, rfl, fun en call r t h k => okE_le (fun v h1 hv => by rw [hg] at hv; exact hv)⟩
  | bslice sz n z ps =>
    obtain ⟨g, e, hg⟩ := cPs_ok ps
    have h' : some (onPL (eP (fun _ => bsR sz n z)) (cPs ps)) = some a := h
    rw [e] at h'
    obtain rfl := Option.some.inj h'
    exact ⟨_, rfl, fun en call r t h k => okE_le (fun v h1 hv => by rw [hg] at hv; exact hv)⟩
  | _ => cases h
theorem cCall_ok (c : Cb) (as : List Src) : IOk (.mk none (.ef (.call c as)) []) (cCall c as) := by
  obtain ⟨f, ef, hf⟩ := cSs_ok as
  cases c with
  | fn g =>
    rw [show cCall (.fn g) as = onAA (eC g) (cSs as) from rfl, ef]
    exact ⟨_, rfl, fun en call r t h k => okE_le (fun v h1 hv => by rw [hf] at hv; exact hv)⟩
  | val s =>
    obtain ⟨g, e, hg⟩ := cS_ok s
    rw [show cCall (.val s) as = onSA (fun s => onAA (eV s) (cSs as)) (cS s) from rfl, e, ef]
    exact ⟨_, rfl, fun en call r t h k => okE_le (fun v h1 hv => by rw [hf, hg] at hv; exact hv)⟩
  | inv s m =>
    obtain ⟨g, e, hg⟩ := cS_ok s
    rw [show cCall (.inv s m) as = onSA (fun s => onAA (eI m s) (cSs as)) (cS s) from rfl, e, ef]
    exact ⟨_, rfl, fun en call r t h k => okE_le (fun v h1 hv => by rw [hf, hg] at hv; exact hv)⟩
theorem cE_ok (k0 : KE) {a : IA} (h : cE k0 = some a) : IOk (.mk none (.ef k0) []) a := by
  cases k0 with
  | store n s v =>
    obtain ⟨g, e, hg⟩ := cS_ok s
    obtain ⟨g', e', hg'⟩ := cS_ok v
    have h' : some (onSA (fun s => onSA (e2 (fun _ => storeR n) s) (cS v)) (cS s)) = some a := h
    rw [e, e'] at h'
    obtain rfl := Option.some.inj h'
    exact ⟨_, rfl, fun en call r t h k => okE_le (fun v h1 hv => by rw [hg, hg'] at hv; exact hv)⟩
  | call c as =>
    obtain rfl := Option.some.inj (show some (cCall c as) = some a from h)
    exact cCall_ok c as
  | app sz b s x =>
    obtain ⟨g, e, hg⟩ := cS_ok s
    obtain ⟨g', e', hg'⟩ := cS_ok x
    have h' : some (onSA (fun s => onSA (e2 (fun _ s x h => append h sz b s x) s) (cS x)) (cS s)) = some a := h
    rw [e, e'] at h'
    obtain rfl := Option.some.inj h'
    exact ⟨_, rfl, fun en call r t h k => okE_le (fun v h1 hv => by rw [hg, hg'] at hv; exact hv)⟩
  | _ => cases h
theorem cIt_ok (i : It) : IOk i (cIt i) := by
  obtain ⟨g, k0, ag⟩ := i
  have gen : IOk (.mk g k0 ag) (cGen g k0 ag) := ⟨_, rfl, fun _ _ _ _ _ _ => R1.le_refl _⟩
  cases hp : plainI g ag with
  | false => rw [show cIt (.mk g k0 ag) = bcase (plainI g ag) (cGen g k0 ag) (ocase (cK k0) (cGen g k0 ag) (fun a => a)) from rfl, hp]; exact gen
  | true =>
    rw [show cIt (.mk g k0 ag) = bcase (plainI g ag) (cGen g k0 ag) (ocase (cK k0) (cGen g k0 ag) (fun a => a)) from rfl, hp]
    have hg : g = none ∧ ag = [] := by
      cases g with
      | some x => cases hp
      | none => cases ag with
        | nil => exact ⟨rfl, rfl⟩
        | cons x l => cases hp
    obtain ⟨rfl, rfl⟩ := hg
    show IOk _ (ocase (cK k0) (cGen none k0 []) (fun a => a))
    cases hk : cK k0 with
    | none => exact gen
    | some a =>
      show IOk _ a
      cases k0 with
      | pu k => exact cP_ok k hk
      | rd k => exact cR_ok k hk
      | al k => exact cA_ok k hk
      | ef k => exact cE_ok k hk
      | no w => cases hk
theorem cIts_ok : ∀ its : List It, ∃ g, cIts its = .mk g ∧ ∀ en call r t h k, R1.le (g en call r t h k) (rr (runIts en call t its r h) R1.bad k)
  | [] => ⟨_, rfl, fun _ _ _ _ _ _ => R1.le_refl _⟩
  | i :: its => by
    obtain ⟨g, e, hg⟩ := cIts_ok its
    obtain ⟨f, e', hf⟩ := cIt_ok i
    refine ⟨_, (by rw [show cIts (i :: its) = onIA (fun g => onIA (fun f => itC f g) (cIt i)) (cIts its) from rfl, e, e']), fun en call r t h k => ?_⟩
    intro v h' hv
    have hv := hf en call r t h _ v h' hv
    obtain ⟨g0, k0, ag⟩ := i
    have hv : r1 (doG en call (src r t) h g0 k0) R1.bad (fun v h' => bcase (stills en t (v :: r) h' ag) (R1.bad 82) (g en call (v :: r) t h' k)) = .ok v h' := hv
    show rr (r1 (doG en call (src r t) h g0 k0) RR.bad (fun v h' => bcase (stills en t (v :: r) h' ag) (RR.bad 82) (runIts en call t its (v :: r) h'))) R1.bad k = .ok v h'
    cases hd : doG en call (src r t) h g0 k0 with
    | bad n => rw [hd] at hv; cases hv
    | ok u h1 =>
      rw [hd] at hv
      obtain ⟨hs, hv⟩ := bcase_ne (show bcase (stills en t (u :: r) h1 ag) (R1.bad 82) (g en call (u :: r) t h1 k) = .ok v h' from hv) (by simp)
      show rr (bcase (stills en t (u :: r) h1 ag) (RR.bad 82) (runIts en call t its (u :: r) h1)) R1.bad k = .ok v h'
      rw [hs]
      exact hg en call (u :: r) t h1 k v h' hv
theorem runIts_len : ∀ (its : List It) (r : List V) (h : H) (r' : List V) (h' : H), runIts en call t its r h = .ok r' h' → r'.length = r.length + its.length
  | [], r, h, r', h', e => by injection (show RR.ok r h = .ok r' h' from e) with e1 e2; subst e1; simp
  | i :: its, r, h, r', h', e => by
    obtain ⟨g0, k0, ag⟩ := i
    have e : r1 (doG en call (src r t) h g0 k0) RR.bad (fun v h' => bcase (stills en t (v :: r) h' ag) (RR.bad 82) (runIts en call t its (v :: r) h')) = .ok r' h' := e
    cases hd : doG en call (src r t) h g0 k0 with
    | bad n => rw [hd] at e; cases e
    | ok u h1 =>
      rw [hd] at e
      obtain ⟨_, e⟩ := bcase_ne (show bcase (stills en t (u :: r) h1 ag) (RR.bad 82) (runIts en call t its (u :: r) h1) = .ok r' h' from e) (by simp)
      have := runIts_len its (u :: r) h1 r' h' e
      simp only [List.length_cons] at this ⊢; omega
/-- what comes behind a code -/
noncomputable def finK (x : X) (kn : Kn) (ke : Nat → Tr V → H → R1) (kr : Kn) : R1 := X.rec (motive := fun _ => R1) (fun t h => kn t h) (fun i t h => ke i t h) (fun t h => kr t h) R1.bad x
theorem cC_ok : ∀ c : C2, ∃ f, cC c = .mk f ∧ ∀ en call n t h kn ke kr, R1.le (f en call n t h kn ke kr) (finK (FS en call n c t h) kn ke kr) := by
  intro c
  induction c with
  | skip => exact ⟨_, rfl, fun _ _ _ _ _ _ _ _ => R1.le_refl _⟩
  | exit id => exact ⟨_, rfl, fun _ _ _ _ _ _ _ _ => R1.le_refl _⟩
  | ret => exact ⟨_, rfl, fun _ _ _ _ _ _ _ _ => R1.le_refl _⟩
  | bad w => exact ⟨_, rfl, fun _ _ _ _ _ _ _ _ => R1.le_refl _⟩
  | reg its cm =>
    obtain ⟨g, e, hg⟩ := cIts_ok its
    obtain ⟨m, e', hm⟩ := cCommit_ok cm (len its)
    refine ⟨_, (by rw [show cC (.reg its cm) = onIA (fun g => onMA (caReg g) (cCommit (len its) cm)) (cIts its) from rfl, e, e']), fun en call n t h kn ke kr => ?_⟩
    intro v h' hv
    have hv := hg en call [] t h _ v h' hv
    show finK (rr (runIts en call t its [] h) X.bad (fun r h => X.nm (commit r cm t) h)) kn ke kr = .ok v h'
    cases hr : runIts en call t its [] h with
    | bad n => rw [hr] at hv; cases hv
    | ok r h1 =>
      rw [hr] at hv
      have hl := runIts_len its [] h r h1 hr
      have hv : m r t (fun t => kn t h1) = .ok v h' := hv
      rw [hm r t _ (by rw [len_eq]; simpa using hl)] at hv
      exact hv
  | seq x y ihx ihy =>
    obtain ⟨f, e, hf⟩ := ihx
    obtain ⟨g, e', hg⟩ := ihy
    refine ⟨_, (by rw [show cC (.seq x y) = onCA (caSeq (cC y)) (cC x) from rfl, e]), fun en call n t h kn ke kr => ?_⟩
    intro v h' hv
    have hv := hf en call n t h _ _ _ v h' hv
    show finK (again (FS en call n x t h) (FS en call n y)) kn ke kr = .ok v h'
    cases hx : FS en call n x t h with
    | bad n => rw [hx] at hv; cases hv
    | ex i t1 h1 => rw [hx] at hv; exact hv
    | rt t1 h1 => rw [hx] at hv; exact hv
    | nm t1 h1 =>
      rw [hx] at hv
      have hv : CA.rec (motive := fun _ => R1) (fun g => g en call n t1 h1 kn ke kr) (cC y) = .ok v h' := hv
      rw [e'] at hv
      exact hg en call n t1 h1 kn ke kr v h' hv
  | cond s x y ihx ihy =>
    obtain ⟨g, es, hs⟩ := cS_ok s
    obtain ⟨fx, ex, hfx⟩ := ihx
    obtain ⟨fy, ey, hfy⟩ := ihy
    refine ⟨_, (by rw [show cC (.cond s x y) = onSA (caCond (cC x) (cC y)) (cS s) from rfl, es]), fun en call n t h kn ke kr => ?_⟩
    intro v h' hv
    obtain ⟨b, hb, hv⟩ := onB_ne (show onB (g [] t) (R1.bad 86) (fun b => bcase b (CA.rec (motive := fun _ => R1) (fun g => g en call n t h kn ke kr) (cC y)) (CA.rec (motive := fun _ => R1) (fun f => f en call n t h kn ke kr) (cC x))) = .ok v h' from hv) (by simp)
    rw [hs] at hb
    show finK (onB (src [] t s) (X.bad 86) (fun b => bcase b (FS en call n y t h) (FS en call n x t h))) kn ke kr = .ok v h'
    rw [hb]
    cases b with
    | true =>
      have hv : CA.rec (motive := fun _ => R1) (fun f => f en call n t h kn ke kr) (cC x) = .ok v h' := hv
      rw [ex] at hv
      exact hfx en call n t h kn ke kr v h' hv
    | false =>
      have hv : CA.rec (motive := fun _ => R1) (fun f => f en call n t h kn ke kr) (cC y) = .ok v h' := hv
      rw [ey] at hv
      exact hfy en call n t h kn ke kr v h' hv
  | block id c ih =>
    obtain ⟨f, e, hf⟩ := ih
    refine ⟨_, (by rw [show cC (.block id c) = onCA (caBlock id) (cC c) from rfl, e]), fun en call n t h kn ke kr => ?_⟩
    intro v h' hv
    have hv := hf en call n t h _ _ _ v h' hv
    show finK (blockK (FS en call n c t h) id) kn ke kr = .ok v h'
    cases hx : FS en call n c t h with
    | bad n => rw [hx] at hv; cases hv
    | nm t1 h1 => rw [hx] at hv; exact hv
    | rt t1 h1 => rw [hx] at hv; exact hv
    | ex i t1 h1 =>
      rw [hx] at hv
      have hv : bcase (Nat.beq i id) (ke i t1 h1) (kn t1 h1) = .ok v h' := hv
      show finK (bcase (Nat.beq i id) (X.ex i t1 h1) (X.nm t1 h1)) kn ke kr = .ok v h'
      cases hb : Nat.beq i id with
      | true => rw [hb] at hv; exact hv
      | false => rw [hb] at hv; exact hv
  | loop c ih =>
    obtain ⟨f, e, hf⟩ := ih
    refine ⟨_, (by rw [show cC (.loop c) = onCA caLoop (cC c) from rfl, e]), fun en call n t h kn ke kr => ?_⟩
    have main : ∀ m t h, R1.le (Nat.rec (motive := fun _ => Tr V → H → R1) (fun _ _ => R1.bad 87) (fun _ ih t h => f en call n t h ih ke kr) m t h) (finK (fsLoop (FS en call n c) m t h) kn ke kr) := by
      intro m
      induction m with
      | zero => intro t h; exact R1.le_bad _ _
      | succ m ihm =>
        intro t h v h' hv
        have hv := hf en call n t h _ _ _ v h' hv
        show finK (again (FS en call n c t h) (fsLoop (FS en call n c) m)) kn ke kr = .ok v h'
        cases hx : FS en call n c t h with
        | bad n => rw [hx] at hv; cases hv
        | ex i t1 h1 => rw [hx] at hv; exact hv
        | rt t1 h1 => rw [hx] at hv; exact hv
        | nm t1 h1 =>
          rw [hx] at hv
          exact ihm t1 h1 v h' hv
    exact main n t h
noncomputable def fsRn (en : En) (call : Cl) : Rn := fun c t h => FS en call 1000000 c t h
theorem runFF_le (cf : CF) (en : En) (call : Cl) (as : List V) (h : H) : R1.le (runFF (ffOf cf) en call as h) (runF cf en.gt (fsRn en call) as h) := by
  obtain ⟨n, body, rs⟩ := cf
  obtain ⟨f, e, hf⟩ := cC_ok body
  intro v h' hv
  obtain ⟨h1, hv⟩ := bcase_ne (show bcase (Nat.ble (len as) n) (R1.bad 85) (CA.rec (motive := fun _ => R1) (fun f => f en call 1000000 (init' as BP.one en.gt) h (fin rs) (fun _ _ _ => R1.bad 84) (fin rs)) (cC body)) = .ok v h' from hv) (by simp)
  rw [e] at hv
  have hv := hf en call 1000000 _ h _ _ _ v h' hv
  show bcase (Nat.ble (len as) n) (R1.bad 85) (finX (FS en call 1000000 body (init' as BP.one en.gt) h) rs) = .ok v h'
  rw [h1]
  show finX (FS en call 1000000 body (init' as BP.one en.gt) h) rs = .ok v h'
  cases hx : FS en call 1000000 body (init' as BP.one en.gt) h with
  | bad n => rw [hx] at hv; cases hv
  | ex i t1 h1 => rw [hx] at hv; cases hv
  | nm t1 h1 => rw [hx] at hv; exact hv
  | rt t1 h1 => rw [hx] at hv; exact hv
/-- the law of a call, where the codes run as 'FS' has them -/
noncomputable def callFS (en : En) (call : Cl) (g : Nat) (as : List V) (h : H) : R1 := ovOr (en.ov g as h) (ocase (get (bpOf g) en.fns) (R1.bad (1000 + g)) (fun cf => runF cf en.gt (fsRn en call) as h))
theorem fcall1_le (en : En) (call : Cl) (g : Nat) (as : List V) (h : H) : R1.le (fcall1 en call g as h) (callFS en call g as h) := by
  intro v h' hv
  have hv : ocase (en.ov g as h) (ocase (get (bpOf g) en.fns) (R1.bad (1000 + g)) (fun cf => runFF (ffOf cf) en call as h)) (fun r => r) = .ok v h' := hv
  show ocase (en.ov g as h) (ocase (get (bpOf g) en.fns) (R1.bad (1000 + g)) (fun cf => runF cf en.gt (fsRn en call) as h)) (fun r => r) = .ok v h'
  cases ho : en.ov g as h with
  | some r => rw [ho] at hv; exact hv
  | none =>
    rw [ho] at hv
    obtain ⟨cf, h1, hv⟩ := ocase_ne (show ocase (get (bpOf g) en.fns) (R1.bad (1000 + g)) (fun cf => runFF (ffOf cf) en call as h) = .ok v h' from hv) (by simp)
    show ocase (get (bpOf g) en.fns) (R1.bad (1000 + g)) (fun cf => runF cf en.gt (fsRn en call) as h) = .ok v h'
    rw [h1]
    exact runFF_le cf en call as h v h' hv
variable {P : Program} {tt : TT} {ν : Nat → Int} {W : Bas}
theorem CallOk.le {call call' : Cl} (h : ∀ g as h, R1.le (call' g as h) (call g as h)) (k : CallOk P ν W call) : CallOk P ν W call' := fun g as h0 v h' hv => k g as h0 v h' (h g as h0 v h' hv)
theorem run_fs (hT : TTok P tt) (he : EnOk ν en) (hmo : P.follows .mixedOrders = true) (hm : MtsOk P en.mts) (hcall : CallOk P ν W call) : ∀ (C : Tr Unit) (nt : Nat), nt ≤ 100000 → ∀ (c : Code) (t : Tr V) (h : H) (X0 : X) (ρ : Pl) (a : Act) (w : World), fsRn en call (trC tt nt C c) t h = X0 → (∀ n, X0 ≠ .bad n) → Rel ν W ρ h w → FrC [] ν C ρ nt t a → c.wp P (Post [] ν W C nt h ρ X0) a w :=
  fun C nt hnt c t h X0 ρ a w hX hb R F => fs_sound hT he hmo hcall hm hnt c t h X0 ρ a w hX hb R F
theorem callFS_ok (hT : TTok P tt) (he : EnOk ν en) (hmo : P.follows .mixedOrders = true) (hm : MtsOk P en.mts) (hfn : ∀ g cf, get (bpOf g) en.fns = some cf → ∃ fn, P.funcs[g]? = some fn ∧ trF tt fn = some cf) (hgt : GtOk ν W en.gt) (hov : OvOk P ν W en) (hcall : CallOk P ν W call) : CallOk P ν W (callFS en call) := by
  intro g as h v h' hv
  have hv' : ocase (en.ov g as h) (ocase (get (bpOf g) en.fns) (R1.bad (1000 + g)) (fun cf => runF cf en.gt (fsRn en call) as h)) (fun r => r) = R1.ok v h' := hv
  cases ho : en.ov g as h with
  | some r =>
    rw [ho] at hv'
    exact hov g as h v h' (by rw [ho]; exact congrArg some hv')
  | none =>
    rw [ho] at hv'
    obtain ⟨cf, h1, hv2⟩ := ocase_ne (show ocase (get (bpOf g) en.fns) (R1.bad (1000 + g)) (fun cf => runF cf en.gt (fsRn en call) as h) = R1.ok v h' from hv') (by simp)
    obtain ⟨fn, hf, htf⟩ := hfn g cf h1
    exact func_run hT hgt (run_fs hT he hmo hm hcall) hf htf hv2
theorem fcall_ok (hT : TTok P tt) (he : EnOk ν en) (hmo : P.follows .mixedOrders = true) (hm : MtsOk P en.mts) (hfn : ∀ g cf, get (bpOf g) en.fns = some cf → ∃ fn, P.funcs[g]? = some fn ∧ trF tt fn = some cf) (hgt : GtOk ν W en.gt) (hov : OvOk P ν W en) : ∀ d, CallOk P ν W (fcall en d)
  | 0 => fun _ _ _ _ _ hv => by cases hv
  | d + 1 => CallOk.le (fun g as h => fcall1_le en (fcall en d) g as h) (callFS_ok hT he hmo hm hfn hgt hov (fcall_ok hT he hmo hm hfn hgt hov d))
-- codes that are written out
noncomputable def fnT (l : List (Nat × CF)) : Tr CF := List.rec (motive := fun _ => Tr CF) .lf (fun p _ ih => set (bpOf p.1) (some p.2) ih) l
theorem fnT_get : ∀ (l : List (Nat × CF)) {x : BP} {cf : CF}, get x (fnT l) = some cf → ∃ p ∈ l, x = bpOf p.1 ∧ cf = p.2
  | [], x, cf, h => by rw [show fnT [] = Tr.lf from rfl, get_lf] at h; cases h
  | p :: l, x, cf, h => by
    rw [show fnT (p :: l) = Ev.set (bpOf p.1) (some p.2) (fnT l) from rfl, get_set] at h
    split at h
    · rename_i e; exact ⟨p, List.mem_cons_self .., e, (Option.some.inj h).symm⟩
    · obtain ⟨q, h1, h2⟩ := fnT_get l h; exact ⟨q, List.mem_cons_of_mem _ h1, h2⟩
/-- each of these is what its function is translated to -/
def CodesOk (P : Program) : List (Nat × CF) → Prop
  | [] => True
  | p :: l => (p.1 < 100000 ∧ ∃ fn, P.funcs[p.1]? = some fn ∧ trF (ttOf P) fn = some p.2) ∧ CodesOk P l
theorem CodesOk.mem : ∀ {l : List (Nat × CF)}, CodesOk P l → ∀ p ∈ l, p.1 < 100000 ∧ ∃ fn, P.funcs[p.1]? = some fn ∧ trF (ttOf P) fn = some p.2
  | [], _, p, hp => by cases hp
  | q :: l, h, p, hp => by
    rcases List.mem_cons.1 hp with rfl | hp
    · exact h.1
    · exact CodesOk.mem h.2 p hp
theorem CodesOk.app : ∀ {l m : List (Nat × CF)}, CodesOk P l → CodesOk P m → CodesOk P (l ++ m)
  | [], _, _, k => k
  | _ :: _, _, h, k => ⟨h.1, CodesOk.app h.2 k⟩
theorem CodesOk.fns (hsz : P.funcs.size ≤ 100000) {l : List (Nat × CF)} (h : CodesOk P l) : ∀ g cf, get (bpOf g) (fnT l) = some cf → ∃ fn, P.funcs[g]? = some fn ∧ trF (ttOf P) fn = some cf := by
  intro g cf hg
  obtain ⟨p, hp, h1, rfl⟩ := fnT_get l hg
  obtain ⟨hlt, fn, h2, h3⟩ := h.mem p hp
  have hgp : g = p.1 := by
    by_cases hb : g < 1000000
    · exact bpOf_inj (by omega) (by omega) h1
    · have e := congrArg bpN h1
      rw [bpN_of (n := p.1) (by omega)] at e
      have := bpOf_big g
      omega
  subst hgp
  exact ⟨fn, h2, h3⟩
noncomputable def enF (path : List (Cd × Bool)) (norm : List (Z × Z)) (fns : List (Nat × CF)) (ov : Nat → List V → H → Option R1) (mts : Nat → String → Option Nat) (gl : List Nat) : En := ⟨path, norm, fnT fns, ov, mts, gl.foldr (fun g t => set (bpOf (100000 + g)) (some (.p (bpOf g) 0)) t) .lf⟩
/-- **The evaluator tells the truth**, by functions made of codes that are written out. -/
theorem evalf_calls {w : World} (hsz : (Nat.ble P.types.size 100000 && Nat.ble P.funcs.size 100000) = true) (hfo : flatOk P = true) (hmo : P.follows .mixedOrders = true) {path : List (Cd × Bool)} {norm : List (Z × Z)} (hp : PathOk ν path) (hn : NormOk ν norm) {l : List (Nat × List V)} {ov : Nat → List V → H → Option R1} {fns : List (Nat × CF)} {mts : Nat → String → Option Nat}
    (hfn : CodesOk P fns) (hm : MtsOk P mts) (hl : ∀ p ∈ l, p.1 < 1000 ∧ Listed ν (pl0 w (l.map (·.1))) w p) (hov : OvOk P ν (Bas.of w (pl0 w (l.map (·.1)))) (enF path norm fns ov mts (l.map (·.1)))) {d g : Nat} {as : List V} {v : V} {h' : H} (hv : fcall (enF path norm fns ov mts (l.map (·.1))) d g as (H0 l) = .ok v h') {args : List Value} (ha : VRs ν (pl0 w (l.map (·.1))) as args) :
    Calls P g args.toArray w (fun e w' => ∃ u, e = .returned u ∧ ∃ ρ', Rel ν (Bas.of w (pl0 w (l.map (·.1)))) ρ' h' w' ∧ VR ν ρ' v u) := by
  simp only [Bool.and_eq_true] at hsz
  have h1 := Nat.le_of_ble_eq_true hsz.1
  have h2 := Nat.le_of_ble_eq_true hsz.2
  have hlt : ∀ g ∈ l.map (·.1), g < 1000 := fun g hg => by obtain ⟨p, k1, rfl⟩ := List.mem_map.1 hg; exact (hl p k1).1
  have hT : TTok P (ttOf P) := ttOf_ok (by omega) hfo
  have := fcall_ok (P := P) (tt := ttOf P) (ν := ν) (en := enF path norm fns ov mts (l.map (fun x : Nat × List V => x.1))) (W := (Bas.of w (pl0 w (l.map (fun x : Nat × List V => x.1))))) hT ⟨hp, hn⟩ hmo hm (hfn.fns h2) (gt_ok (P := P) (path := path) (norm := norm) (ov := ov) hlt) hov d g as (H0 l) v h' hv
  refine Calls.mono (this.2 _ args w (rel_start hl) ha) (fun e w' he => ?_)
  obtain ⟨u, hu, ρ', hR, hvr, _⟩ := he
  exact ⟨u, hu, ρ', hR, hvr⟩
end Ev
end Go.Proofs.YtoinghomkcjkcaaGreatDoor
/- Codes that call nothing, in a round of a range over a function. -/
namespace Go.Proofs.YtoinghomkcjkcaaGreatDoor
set_option linter.unusedSimpArgs false
set_option linter.unusedVariables false
set_option linter.constructorNameAsVariable false
open Go Go.RowKit
namespace Ev
/-- What comes of an operation that enters no function. -/
def Quits : Result Next → Prop
  | .ok (.enter _ _) _ => False
  | .ok (.row _ _) _ => False
  | .ok (.round ..) _ => False
  | _ => True
/-- Operations that enter no function. -/
def plainB (o : Oper) : Bool := match o.op with
  | .move _ | .assign _ | .load .. | .store .. | .fieldAddr .. | .indexAddr .. | .binOp .. | .pick .. | .buildSlice .. | .build .. | .alloc _ | .field .. | .index .. | .unOp .. => true
  | .call c => match c.callee with | .builtin .append => true | .builtin .len => true | _ => false
  | _ => false
section
variable {P : Program} {ops : Array Oper} {Q : Exit → Act → World → Prop} {F : Fence} {k : Nat}
theorem quits_v (m : Sem Value) (w : World) : Quits ((do let x ← m; pure (Next.value x) : Sem Next).run P w) := by
  simp only [Sem.run_bind]
  cases m.run P w <;> simp [Result.andThen, Quits, Sem.run_pure]
theorem quits_u (m : Sem Unit) (w : World) : Quits ((do m; pure Next.skip : Sem Next).run P w) := by
  simp only [Sem.run_bind]
  cases m.run P w <;> simp [Result.andThen, Quits, Sem.run_pure]
theorem quits_pick (m : Sem Bool) (f : Bool → Value) (w : World) : Quits ((do let x ← m; pure (Next.value (f x)) : Sem Next).run P w) := by
  simp only [Sem.run_bind]
  cases m.run P w <;> simp [Result.andThen, Quits, Sem.run_pure]
theorem quits_uv (m : Sem Unit) (m' : Sem Value) (w : World) : Quits ((do m; let x ← m'; pure (Next.value x) : Sem Next).run P w) := by
  simp only [Sem.run_bind]
  cases m.run P w with
  | ok x w' => simp only [Result.andThen]; cases m'.run P w' <;> simp [Quits, Sem.run_pure]
  | halt x w' => simp [Result.andThen, Quits]
theorem about_plain {o : Oper} (h : plainB o = true) (w : World) (ρ : Operand → Value) : o.about P w ρ = none := by
  unfold Oper.about
  unfold plainB at h
  cases ho : o.op <;> rw [ho] at h <;> first | rfl | (cases h; done) | skip
  rename_i c
  obtain ⟨callee, args, argTypes⟩ := c
  cases callee <;> first | (cases h; done) | skip
  simp [resolve, Sem.run_pure, Target.leads]
theorem quits_plain {o : Oper} (h : plainB o = true) (ρ : Operand → Value) (w : World) : Quits ((execOp ρ o).run P w) := by
  unfold plainB at h
  unfold execOp
  cases ho : o.op <;> rw [ho] at h <;> first | (cases h; done) | exact quits_v _ _ | exact quits_u _ _ | exact quits_pick _ _ _ | exact quits_uv _ _ _ | (simp [Sem.run_pure, Quits]; done) | skip
  rename_i c
  obtain ⟨callee, args, argTypes⟩ := c
  cases callee <;> first | (cases h; done) | skip
  simp only [resolve, invoke, Sem.run_bind, Sem.run_pure, Result.andThen_ok]
  rename_i b
  cases b <;> first | (cases h; done) | exact quits_v _ _ | skip
theorem no_defer {o : Oper} (h : plainB o = true) : ∀ c, o.op ≠ .defer c := fun c hc => by unfold plainB at h; rw [hc] at h; cases h
theorem in_of_plain {o : Oper} {a : Act} {w : World} {K : Act → World → Prop} (h : plainB o = true) (hw : o.wp P a w K Q) : o.wpIn F k P a w K Q := by
  unfold Oper.wpIn
  refine ⟨fun f hf => (by rw [about_plain h] at hf; cases hf), ?_⟩
  rw [Oper.semAt_eq _ _ _ (no_defer h)]
  unfold Oper.wp at hw
  have hq := quits_plain (P := P) h a.eval w
  generalize (execOp a.eval o).run P w = r at hw hq
  cases r with
  | ok x w' => cases x <;> first | exact hw | exact hq.elim
  | halt x w' => cases x <;> first | exact hw
theorem anyIn_of_any {md : Region.Mode} (hp : ∀ (i : Nat) (o : Oper), ops[i]? = some o → plainB o = true) (hQ : ¬ LetsOut Q) : ∀ (f : Nat) (listed : Array Bool) (a : Act) (w : World),
    wpAny P md ops Q f listed a w → wpAnyIn F k P md ops Q f listed a w
  | 0, _, _, _, h => h
  | f + 1, listed, a, w, h => by
    refine ⟨h.1, fun i hi => ?_⟩
    have h2 := h.2 i hi
    unfold wpOp at h2
    unfold wpOpIn
    cases ho : ops[i]? with
    | none => rw [ho] at h2; exact anyIn_of_any hp hQ f _ a w h2
    | some o =>
      rw [ho] at h2
      simp only [] at h2 ⊢
      split at h2
      · rename_i hw
        rw [if_pos hw]
        rcases h2 with h2 | ⟨_, h2⟩
        · exact in_of_plain (hp i o ho) (Oper.wp_mono (fun a w h3 => anyIn_of_any hp hQ f _ a w h3) h2)
        · exact (hQ h2).elim
      · rename_i hw
        rw [if_neg hw]
        exact ⟨fun f hf => (by rw [about_plain (hp i o ho)] at hf; cases hf), anyIn_of_any hp hQ f _ _ w h2⟩
theorem opsIn_of_ops (hp : ∀ (i : Nat) (o : Oper), ops[i]? = some o → plainB o = true) (hQ : ¬ LetsOut Q) : ∀ (l : List Nat) (a : Act) (w : World), wpOps P ops Q l a w → wpOpsIn F k P ops Q l a w
  | [], _, _, h => h
  | i :: l, a, w, h => by
    unfold wpOps at h
    unfold wpOpsIn
    cases ho : ops[i]? with
    | none => rw [ho] at h; exact opsIn_of_ops hp hQ l a w h
    | some o =>
      rw [ho] at h
      simp only [] at h ⊢
      split at h
      · rename_i hw
        rw [if_pos hw]
        rcases h with h2 | ⟨_, h2⟩
        · exact in_of_plain (hp i o ho) (Oper.wp_mono (fun a w h3 => opsIn_of_ops hp hQ l a w h3) h2)
        · exact (hQ h2).elim
      · rename_i hw
        rw [if_neg hw]
        exact ⟨fun f hf => (by rw [about_plain (hp i o ho)] at hf; cases hf), opsIn_of_ops hp hQ l _ w h⟩
theorem region_in {id : Nat} {draw : Bool} {a : Act} {w : World} (hm : P.follows .mixedOrders = true) (hp : ops.toList.all plainB = true) (hQ : ¬ LetsOut Q) (h : RegWp P ops draw Q a w) : (Code.region id ops draw).wpIn F k P Q a w := by
  have hp' : ∀ (i : Nat) (o : Oper), ops[i]? = some o → plainB o = true := fun i o ho => List.all_eq_true.1 hp o (List.mem_of_getElem? (by simpa using ho))
  cases draw with
  | false => exact wpIn_region (opsIn_of_ops hp' hQ _ _ _ h)
  | true => exact wpIn_region_any hm (anyIn_of_any hp' hQ _ _ _ _ h)
end
/-- codes that call nothing -/
def plainC : Code → Bool
  | .skip => true
  | .label _ => true
  | .region _ ops _ => ops.toList.all plainB
  | .seq a b => plainC a && plainC b
  | .cond _ a b => plainC a && plainC b
  | .block _ c => plainC c
  | .loop c => plainC c
  | .exit _ => true
  | .ret => true
  | _ => false
variable {Df : List Deferred}
variable {P : Program} {tt : TT} {ν : Nat → Int} {ρ : Pl} {a : Act} {en : En} {w : World} {o : Oper} {v : V} {t : Tr V} {nt : Nat} {ops : Array Oper} {call : Cl} {h0 : H} {C : Tr Unit} {W : Bas} {rn : Rn} {n : Nat} {F : Fence} {k : Nat}
theorem post_noOut {h : H} {X0 : X} : ¬ LetsOut (Post Df ν W C nt h ρ X0) := by
  rintro ⟨a, w, hp⟩
  cases X0 <;> exact hp
theorem fs_in (hT : TTok P tt) (he : EnOk ν en) (hmo : P.follows .mixedOrders = true) (hcall : CallOk P ν W call) (hm : MtsOk P en.mts) {C : Tr Unit} {nt : Nat} (hnt : nt ≤ 100000) : ∀ (c : Code), plainC c = true → ∀ (t : Tr V) (h : H) (X0 : X) (ρ : Pl) (a : Act) (w : World),
    FS en call n (trC tt nt C c) t h = X0 → (∀ n, X0 ≠ .bad n) → Rel ν W ρ h w → FrC Df ν C ρ nt t a → c.wpIn F k P (Post Df ν W C nt h ρ X0) a w := by
  intro c
  induction c with
  | skip => intro hpl t h X0 ρ a w hX hb R F; rw [← show X.nm t h = X0 from hX]; exact wpIn_skip ⟨ρ, R, Ext.refl _ _, F⟩
  | label l => intro hpl t h X0 ρ a w hX hb R F; rw [← show X.nm t h = X0 from hX]; exact wpIn_label ⟨ρ, R, Ext.refl _ _, F⟩
  | exit id => intro hpl t h X0 ρ a w hX hb R F; rw [← show X.ex id t h = X0 from hX]; exact wpIn_exit ⟨rfl, ρ, R, Ext.refl _ _, F⟩
  | ret => intro hpl t h X0 ρ a w hX hb R F; rw [← show X.rt t h = X0 from hX]; exact wpIn_ret ⟨ρ, R, Ext.refl _ _, F⟩
  | region id ops draw =>
    intro hpl t h X0 ρ a w hX hb R F
    change FS en call n (trReg tt nt C ops.toList draw) t h = X0 at hX
    rcases trReg_cases (tt := tt) (nt := nt) (C := C) ops.toList draw with htr | ⟨its, cm, htr⟩
    · rw [htr] at hX
      exact absurd (show X.bad 132 = X0 from hX).symm (hb _)
    · rw [htr] at hX
      obtain ⟨l, h', h1, h2⟩ := rr_ne (show rr (runIts en call t its [] h) X.bad (fun r h => X.nm (commit r cm t) h) = X0 from hX) (fun n e => hb n e.symm)
      refine region_in hmo hpl post_noOut (region_wps hT he hcall hm hnt htr h1 R F (fun ρ' a' w' R' E' F' => ?_))
      rw [← h2]
      exact ⟨ρ', R', E', F'⟩
  | seq x y ihx ihy =>
    intro hpl t h X0 ρ a w hX hb R F
    obtain ⟨hpx, hpy⟩ := Bool.and_eq_true_iff.1 (show (plainC x && plainC y) = true from hpl)
    have hX' : again (FS en call n (trC tt nt C x) t h) (FS en call n (trC tt nt C y)) = X0 := hX
    refine wpIn_seq ?_
    cases hx : FS en call n (trC tt nt C x) t h with
    | bad n => rw [hx] at hX'; exact absurd hX'.symm (hb n)
    | nm t1 h1 =>
      rw [hx] at hX'
      refine wpIn_mono (ihx hpx t h _ ρ a w hx (by simp) R F) (fun e a1 w1 hp => ?_)
      cases e <;> first | exact hp.elim | skip
      obtain ⟨ρ1, R1, E1, F1⟩ := hp
      exact wpIn_mono (ihy hpy t1 h1 X0 ρ1 a1 w1 hX' hb R1 F1) (Post.mono E1)
    | ex i t1 h1 =>
      rw [hx] at hX'
      refine wpIn_mono (ihx hpx t h _ ρ a w hx (by simp) R F) (fun e a1 w1 hp => ?_)
      cases e <;> first | exact hp.elim | skip
      rw [← show X.ex i t1 h1 = X0 from hX']; exact hp
    | rt t1 h1 =>
      rw [hx] at hX'
      refine wpIn_mono (ihx hpx t h _ ρ a w hx (by simp) R F) (fun e a1 w1 hp => ?_)
      cases e <;> first | exact hp.elim | skip
      rw [← show X.rt t1 h1 = X0 from hX']; exact hp
  | cond c x y ihx ihy =>
    intro hpl t h X0 ρ a w hX hb R F
    obtain ⟨hpx, hpy⟩ := Bool.and_eq_true_iff.1 (show (plainC x && plainC y) = true from hpl)
    change FS en call n (match trSrc [] c with | some s => C2.cond s (trC tt nt C x) (trC tt nt C y) | none => .bad 130) t h = X0 at hX
    cases hs : trSrc [] c with
    | none => rw [hs] at hX; exact absurd (show X.bad 130 = X0 from hX).symm (hb _)
    | some s =>
      rw [hs] at hX
      have hv := Cur.val F.toFrR hs
      have hX' : onB (src [] t s) (X.bad 86) (fun b => bcase b (FS en call n (trC tt nt C y) t h) (FS en call n (trC tt nt C x) t h)) = X0 := hX
      obtain ⟨b, hb1, hX2⟩ := onB_ne hX' (fun e => hb _ e.symm)
      rw [hb1] at hv
      simp only [VR] at hv
      refine wpIn_cond hv ?_
      cases b with
      | true => exact ihx hpx t h X0 ρ a w hX2 hb R F
      | false => exact ihy hpy t h X0 ρ a w hX2 hb R F
  | block id c ih =>
    intro hpl t h X0 ρ a w hX hb R F
    have hX' : blockK (FS en call n (trC tt nt C c) t h) id = X0 := hX
    refine wpIn_block ?_
    cases hx : FS en call n (trC tt nt C c) t h with
    | bad n => rw [hx] at hX'; exact absurd hX'.symm (hb n)
    | nm t1 h1 =>
      rw [hx] at hX'
      refine wpIn_mono (ih hpl t h _ ρ a w hx (by simp) R F) (fun e a1 w1 hp => ?_)
      cases e <;> first | exact hp.elim | skip
      rw [← show X.nm t1 h1 = X0 from hX']; exact hp
    | ex i t1 h1 =>
      rw [hx] at hX'
      refine wpIn_mono (ih hpl t h _ ρ a w hx (by simp) R F) (fun e a1 w1 hp => ?_)
      cases e <;> first | exact hp.elim | skip
      rename_i j
      obtain ⟨hij, hp⟩ := hp
      have hX2 : bcase (Nat.beq i id) (X.ex i t1 h1) (X.nm t1 h1) = X0 := hX'
      simp only [Exit.inBlock]
      split
      · rename_i e
        rw [hij, e, Nat.beq_refl] at hX2
        rw [← show X.nm t1 h1 = X0 from hX2]; exact hp
      · rename_i e
        rw [show Nat.beq i id = false from Bool.eq_false_iff.2 fun h => e (hij ▸ Nat.eq_of_beq_eq_true h)] at hX2
        rw [← show X.ex i t1 h1 = X0 from hX2]; exact ⟨hij, hp⟩
    | rt t1 h1 =>
      rw [hx] at hX'
      refine wpIn_mono (ih hpl t h _ ρ a w hx (by simp) R F) (fun e a1 w1 hp => ?_)
      cases e <;> first | exact hp.elim | skip
      rw [← show X.rt t1 h1 = X0 from hX']; exact hp
  | loop c ih =>
    intro hpl
    have main : ∀ (m : Nat) (t : Tr V) (h : H) (X0 : X) (ρ : Pl) (a : Act) (w : World), fsLoop (FS en call n (trC tt nt C c)) m t h = X0 → (∀ n, X0 ≠ .bad n) → Rel ν W ρ h w → FrC Df ν C ρ nt t a → ∀ (Q : Exit → Act → World → Prop), (∀ e a w, Post Df ν W C nt h ρ X0 e a w → Q e a w) → Code.roundsIn F k P c Q m a w := by
      intro m
      induction m with
      | zero => intro t h X0 ρ a w hX hb R F Q hQ; exact absurd (show X.bad 87 = X0 from hX).symm (hb _)
      | succ m ihm =>
        intro t h X0 ρ a w hX hb R F Q hQ
        have hX' : again (FS en call n (trC tt nt C c) t h) (fsLoop (FS en call n (trC tt nt C c)) m) = X0 := hX
        rw [roundsIn_succ]
        cases hx : FS en call n (trC tt nt C c) t h with
        | bad n => rw [hx] at hX'; exact absurd hX'.symm (hb n)
        | nm t1 h1 =>
          rw [hx] at hX'
          refine wpIn_mono (ih hpl t h _ ρ a w hx (by simp) R F) (fun e a1 w1 hp => ?_)
          cases e <;> first | exact hp.elim | skip
          obtain ⟨ρ1, R1, E1, F1⟩ := hp
          exact ihm t1 h1 X0 ρ1 a1 w1 hX' hb R1 F1 Q (fun e a w hp => hQ e a w (Post.mono E1 e a w hp))
        | ex i t1 h1 =>
          rw [hx] at hX'
          refine wpIn_mono (ih hpl t h _ ρ a w hx (by simp) R F) (fun e a1 w1 hp => ?_)
          cases e <;> first | exact hp.elim | skip
          refine hQ _ _ _ ?_
          rw [← show X.ex i t1 h1 = X0 from hX']; exact hp
        | rt t1 h1 =>
          rw [hx] at hX'
          refine wpIn_mono (ih hpl t h _ ρ a w hx (by simp) R F) (fun e a1 w1 hp => ?_)
          cases e <;> first | exact hp.elim | skip
          refine hQ _ _ _ ?_
          rw [← show X.rt t1 h1 = X0 from hX']; exact hp
    intro t h X0 ρ a w hX hb R F
    exact wpIn_loop_rounds n (main n t h X0 ρ a w hX hb R F _ (fun _ _ _ h => h))
  | _ => intro hpl; cases hpl
end Ev
end Go.Proofs.YtoinghomkcjkcaaGreatDoor
/- Functions that range over slices.Backward of numbers. -/
namespace Go.Proofs.YtoinghomkcjkcaaGreatDoor
set_option linter.unusedSimpArgs false
set_option linter.unusedVariables false
set_option linter.constructorNameAsVariable false
open Go Go.RowKit
namespace Ev
/-- A function's code, where it ranges over a function once. -/
inductive C3 where | pl (c : C2) | sq (a : C3) (b : C2) | qs (a : C2) (b : C3) | cond (s : Src) (a b : C3) | block (id : Nat) (c : C3) | back (s : Src) (p q : Option BP) (as body : C2) | bad (w : Nat)
inductive CF3 where | mk (n : Nat) (body : C3) (rs : List Rv)
noncomputable section
def badCl : Cl := fun _ _ _ => R1.bad 89
def backV (bk : Nat) (v : V) : Option BP := onF v none (fun g first caps => bcase (Nat.beq g bk) none (lcase first (lcase caps none (fun c r => lcase r (onP c none (fun y o => bcase (Nat.beq o 0) none (some y))) (fun _ _ => none))) (fun _ _ => none)))
def setP (p : Option BP) (v : V) (t : Tr V) : Tr V := ocase p t (fun p => set p (some v) t)
def onNm (x : X) (f : Tr V → H → Option H) : Option H := X.rec (motive := fun _ => Option H) f (fun _ _ _ => none) (fun _ _ => none) (fun _ => none) x
def backRound (en : En) (n : Nat) (y : BP) (p q : Option BP) (as body : C2) (t : Tr V) (i : Nat) (h : H) : Option H :=
  ocase (load1' (V.p y 0) h) none (fun sl => ocase (iaddr0 1 sl (V.i .i64 (Z.lit (Int.ofNat i)))) none (fun pv => ocase (load1' pv h) none (fun v => onI v none (fun k z => bcase (Nat.beq (kN k) 3) none
    (onNm (FS en badCl n as (setP q v (setP p (V.i .i64 (Z.lit (Int.ofNat i))) t)) h) (fun t h => onNm (FS en badCl n body t h) (fun _ h => some h)))))))
def backL (step : Nat → H → Option H) : Nat → H → Option H := Nat.rec (fun h => some h) (fun i ih h => ocase (step i h) none ih)
def boxLen (y : BP) (h : H) : Option Nat := ocase (load1' (V.p y 0) h) none lenS
def FS3 (en : En) (call : Cl) (n bk : Nat) : C3 → Tr V → H → X := C3.rec (fun c => FS en call n c) (fun _ b ia t h => again (ia t h) (FS en badCl n b)) (fun a _ ib t h => again (FS en call n a t h) ib)
  (fun s _ _ ia ib t h => onB (src [] t s) (X.bad 86) (fun x => bcase x (ib t h) (ia t h))) (fun id _ ic t h => blockK (ic t h) id)
  (fun s p q as body t h => ocase (backV bk (src [] t s)) (X.bad 140) (fun y => ocase (boxLen y h) (X.bad 141) (fun m => bcase (Nat.ble m 1000000) (X.bad 143) (ocase (backL (backRound en n y p q as body t) m h) (X.bad 142) (fun h' => X.nm t h')))))
  (fun w _ _ => X.bad w)
def run3 : CF3 → En → Cl → Nat → List V → H → R1 := CF3.rec (fun n body rs en call bk as h => bcase (Nat.ble (len as) n) (R1.bad 85) (finX (FS3 en call 1000000 bk body (init' as BP.one en.gt) h) rs))
-- from the program's code
def hasR : Code → Bool
  | .rangeFunc .. => true
  | .seq a b => hasR a || hasR b
  | .cond _ a b => hasR a || hasR b
  | .block _ c => hasR c
  | _ => false
def useC3 : Code → Tr Unit → Tr Unit
  | .seq a b, C => useC3 b (useC3 a C)
  | .cond c a b, C => useC3 b (useC3 a (useO [] c C))
  | .block _ c, C => useC3 c C
  | .rangeFunc f _ a c, C => useC c (useC a (useO [] f C))
  | c, C => useC c C
def slotIn (C : Tr Unit) (nt p : Nat) : Option (Option BP) := bif Nat.blt p nt then (match get (bpOf p) C with | some _ => some (some (bpOf p)) | none => some none) else none
def trC3 (tt : TT) (nt : Nat) (C : Tr Unit) : Code → C3
  | .rangeFunc f ps a c => match ps.toList, trSrc [] f with
    | [p, q], some s => (match slotIn C nt p, slotIn C nt q with
      | some p', some q' => bif (plainC a && plainC c) && !(Nat.beq p q) then .back s p' q' (trC tt nt C a) (trC tt nt C c) else .bad 145
      | _, _ => .bad 146)
    | _, _ => .bad 147
  | .seq a b => bif hasR a then .sq (trC3 tt nt C a) (trC tt nt C b) else .qs (trC tt nt C a) (trC3 tt nt C b)
  | .cond c a b => match trSrc [] c with | some s => .cond s (trC3 tt nt C a) (trC3 tt nt C b) | none => .bad 130
  | .block id c => .block id (trC3 tt nt C c)
  | c => .pl (trC tt nt C c)
def trF3 (tt : TT) (fn : Func) : Option CF3 := match fn.body, trRvs tt fn.results.toList with
  | some c, some rs => bif Nat.ble fn.ntmps 100000 && Nat.ble (fn.params.size + fn.nfree) 1000 && !(fn.name == "runtime.NumGoroutine") then some (.mk (fn.params.size + fn.nfree) (trC3 tt fn.ntmps (slots (fn.params.size + fn.nfree) (useR fn.results.toList (useC3 c .lf))) c) rs) else none
  | _, _ => none
end
variable {Df : List Deferred}
variable {P : Program} {tt : TT} {ν : Nat → Int} {ρ : Pl} {a : Act} {en : En} {w : World} {o : Oper} {v : V} {t : Tr V} {nt : Nat} {ops : Array Oper} {call : Cl} {h0 : H} {C : Tr Unit} {W : Bas} {rn : Rn} {n : Nat} {F : Fence} {k : Nat} {h : H}
/-- the base with these kept -/
def Bas.keep (W : Bas) (ks : List (Nat × Obj)) : Bas := ⟨W.w0, W.pl, ks⟩
theorem Rel.keep_sub (R : Rel ν W ρ h w) {ks : List (Nat × Obj)} (hs : ∀ p ∈ ks, p ∈ W.kp) : Rel ν (W.keep ks) ρ h w := ⟨R.below, R.ob, R.lt, R.dom, R.mine, R.sep, R.par, R.parlt, R.base, fun p hp => R.kp p (hs p hp)⟩
theorem Rel.keep_new (R : Rel ν W ρ h w) {ob : Obj} (ho : oddO ob = true) : Rel ν (W.keep ((w.heap.size, ob) :: W.kp)) ρ h (w.alloc ob) := by
  have R' := R.grown (grows_alloc w ob)
  refine ⟨R'.below, R'.ob, R'.lt, R'.dom, R'.mine, R'.sep, R'.par, R'.parlt, R'.base, fun p hp => ?_⟩
  rcases List.mem_cons.1 hp with rfl | hp
  · exact ⟨new_block w ob, ho⟩
  · exact R'.kp p hp
/-- One that is kept is turned. -/
theorem Rel.keep_put {l : Nat} {o : Obj} (R : Rel ν W ρ h w) (hl : W.w0.heap.size ≤ l) (he : w.heap[l]? = some o) (ho : oddO o = true) (o' : Obj) {ks : List (Nat × Obj)} (hs : ∀ p ∈ ks, (p ∈ W.kp ∧ p.1 ≠ l) ∨ (p = (l, o') ∧ oddO o' = true)) : Rel ν (W.keep ks) ρ h (w.putObj l o') := by
  have hne : ∀ b, b ≠ l → (w.putObj l o').heap[b]? = w.heap[b]? := fun b hb => World.putObj_heap_other hb
  have hsz : (w.putObj l o').heap.size = w.heap.size := World.putObj_size
  have hlt : l < w.heap.size := (Array.getElem?_eq_some_iff.1 he).1
  refine ⟨R.below.trans ⟨rfl, rfl, rfl, by rw [hsz]; exact Nat.le_refl _, fun b hb => hne b (by omega)⟩, fun x ob e b c n e' => (R.ob x ob e b c n e').block (hne b (fun e5 => (R.ob x ob e b c n e').not_odd (e5 ▸ he) ho)), fun x b c n e => ⟨by rw [hsz]; exact (R.lt x b c n e).1, (R.lt x b c n e).2⟩, R.dom, R.mine, R.sep, R.par, R.parlt, R.base, fun p hp => ?_⟩
  rcases hs p hp with ⟨h1, h2⟩ | ⟨rfl, h2⟩
  · exact ⟨(hne p.1 h2).trans (R.kp p h1).1, (R.kp p h1).2⟩
  · exact ⟨World.putObj_heap_same hlt, h2⟩
theorem load1'_some (R : Rel ν W ρ h w) {y : BP} {off b c m : Nat} (hy : ρ y = some (b, c, m)) (hv : load1' (V.p y off) h = some v) : ∃ u, w.cell? ⟨b, c + off, none⟩ = some u ∧ VR ν ρ v u := by
  rw [load1'_eq] at hv
  obtain ⟨l, p, wn, e2, hv⟩ := onC_ne (show onC (obj h y) none (fun l _ _ => nth l off) = some v from hv) (by simp)
  rw [nth_eq] at hv
  obtain ⟨cs, e, fz, hb, hsz, _, hl, hg⟩ := R.ob y _ e2 b c m hy
  obtain ⟨u, hu, hr⟩ := hg off v hv
  exact ⟨u, by rw [cell_of hb, hu], hr⟩
theorem backL_some {step : Nat → H → Option H} : ∀ (m : Nat) (h h' : H), backL step m h = some h' → ∃ hs : Nat → H, hs m = h ∧ hs 0 = h' ∧ ∀ i, i < m → step i (hs (i + 1)) = some (hs i)
  | 0, h, h', e => ⟨fun _ => h, rfl, Option.some.inj (show some h = some h' from e), fun i hi => absurd hi (Nat.not_lt_zero i)⟩
  | m + 1, h, h', e => by
    obtain ⟨h1, e1, e2⟩ := ocase_ne (show ocase (step m h) none (backL step m) = some h' from e) (by simp)
    obtain ⟨hs, g1, g2, g3⟩ := backL_some m h1 h' e2
    refine ⟨fun i => if i = m + 1 then h else hs i, by simp, by simp [g2], fun i hi => ?_⟩
    by_cases hc : i = m
    · subst hc; simp [g1, e1]
    · have hi1 : ¬ (i + 1 = m + 1) := by omega
      have hi2 : ¬ (i = m + 1) := by omega
      simp only [hi1, hi2, if_false]; exact g3 i (by omega)
/-- **The iterator, as it is asked here**: in each round the list is looked at anew. -/
def BackIt (P : Program) (bk : Nat) : Prop := (∀ args w, (callFunc bk args).run P w = .ok (.enter bk args) w) ∧
  ∀ (l Bs Co N cap : Nat) (A : Option Addr) (W : World) (J : Nat → World → Prop), N ≤ 1000000 → W.cell? ⟨Bs, Co, none⟩ = some (.slice A N cap) → J N W →
    (∀ i W', i < N → J (i + 1) W' → ∃ (b off M cap' : Nat) (x : Int), i < M ∧ M ≤ cap' ∧ W'.cell? ⟨Bs, Co, none⟩ = some (.slice (some ⟨b, off, none⟩) M cap') ∧ W'.cell? ⟨b, off + i, none⟩ = some (.int .i64 x) ∧
      YieldAt Fence.wide 7 P l #[.int .i64 (i : Int), .int .i64 x] W' fun e W2 => e = .returned (.bool true) ∧ J i W2) →
    CallsIn Fence.wide 8 P bk #[.func (.yield l) #[] #[], .pointer (some ⟨Bs, Co, none⟩)] W fun e W' => (∃ v, e = .returned v) ∧ J 0 W'
theorem badCl_ok : CallOk P ν W badCl := fun _ _ _ _ _ hv => by cases hv
theorem slotIn_some {p : Nat} {o : Option BP} (h : slotIn C nt p = some o) : p < nt ∧ ((o = some (bpOf p) ∧ ∃ u, get (bpOf p) C = some u) ∨ (o = none ∧ get (bpOf p) C = none)) := by
  unfold slotIn at h
  cases hb : Nat.blt p nt with
  | false => rw [hb] at h; cases h
  | true =>
    rw [hb] at h
    refine ⟨blt_iff.1 hb, ?_⟩
    have h' : (match get (bpOf p) C with | some _ => some (some (bpOf p)) | none => some none) = some o := h
    split at h'
    · rename_i u e; exact .inl ⟨(Option.some.inj h').symm, u, e⟩
    · rename_i e; exact .inr ⟨(Option.some.inj h').symm, e⟩
/-- A slot set. -/
theorem FrC.setP {p : Nat} {po : Option BP} {x0 : V} {u : Value} (hnt : nt ≤ 100000) (hp : p < nt) (hpo : (po = some (bpOf p) ∧ ∃ u, get (bpOf p) C = some u) ∨ (po = none ∧ get (bpOf p) C = none)) (F : FrC Df ν C ρ nt t a) (hx : VR ν ρ x0 u) :
    FrC Df ν C ρ nt (Ev.setP po x0 t) { a with tmps := a.tmps.setIfInBounds p u } := by
  have hsz : p < a.tmps.size := Nat.lt_of_lt_of_le hp F.size
  have hgd : ∀ m, (a.tmps.setIfInBounds p u).getD m undef = if m = p then u else a.tmps.getD m undef := by
    intro m
    simp only [Array.getD_eq_getD_getElem?, Array.getElem?_setIfInBounds]
    by_cases e : m = p
    · subst e; simp [hsz]
    · rw [if_neg (fun e' => e e'.symm), if_neg e]
  rcases hpo with ⟨rfl, hC⟩ | ⟨rfl, hCn⟩
  · have hg : ∀ m, m < 100000 → get (bpOf m) (Ev.setP (some (bpOf p)) x0 t) = if m = p then some x0 else get (bpOf m) t := by
      intro m hm
      show get (bpOf m) (Ev.set (bpOf p) (some x0) t) = _
      rw [get_set]
      by_cases e : m = p
      · rw [e, if_pos rfl, if_pos rfl]
      · rw [if_neg (fun e' => e (bpOf_inj (by omega) (by omega) e')), if_neg e]
    refine ⟨⟨fun m hm v hv => ?_, fun g v hv => ?_, F.defers, by simpa using F.size⟩, fun m v hm hv => ?_⟩
    · rw [hg m hm] at hv
      rw [hgd]
      split at hv
      · rename_i e; rw [if_pos e]; obtain rfl := Option.some.inj hv; exact hx
      · rename_i e; rw [if_neg e]; exact F.slot m hm v hv
    · refine F.glob g v ?_
      have : get (bpOf (100000 + g)) (Ev.set (bpOf p) (some x0) t) = some v := hv
      rw [get_set, if_neg (fun e => by
        have e1 := congrArg bpN e
        rw [bpN_of (n := p) (by omega)] at e1
        by_cases hb : 100000 + g < 2 ^ 39
        · rw [bpN_of hb] at e1; omega
        · have := bpOf_big (100000 + g); omega)] at this
      exact this
    · rw [hg m hm] at hv
      split at hv
      · rename_i e; rw [e]; exact hC
      · exact F.ins m v hm hv
  · have hno : get (bpOf p) t = none := by
      cases e : get (bpOf p) t with
      | none => rfl
      | some v => obtain ⟨u, hu⟩ := F.ins p v (by omega) e; rw [hCn] at hu; cases hu
    refine ⟨⟨fun m hm v hv => ?_, F.glob, F.defers, by simpa using F.size⟩, F.ins⟩
    have hv : get (bpOf m) t = some v := hv
    rw [hgd]
    have : m ≠ p := fun e => by rw [e, hno] at hv; cases hv
    rw [if_neg this]; exact F.slot m hm v hv
/-- How a function's code ends, where it may have left a mark. -/
def Post3 (Df : List Deferred) (ν : Nat → Int) (W : Bas) (C : Tr Unit) (nt : Nat) (h : H) (ρ : Pl) (X0 : X) (e : Exit) (a : Act) (w : World) : Prop :=
  Post Df ν W C nt h ρ X0 e a w ∨ ∃ D, (W.w0.heap.size ≤ D ∧ ∀ p ∈ W.kp, p.1 ≠ D) ∧ Post ({ target := .collected D, args := #[] } :: Df) ν (W.keep ((D, .deferred (some [])) :: W.kp)) C nt h ρ X0 e a w
theorem VR.backV {bk : Nat} {v : V} {u : Value} {y : BP} (hv : Ev.backV bk v = some y) (hr : VR ν ρ v u) : ∃ b c n, ρ y = some (b, c, n) ∧ u = .func (.func bk) #[] #[.pointer (some ⟨b, c + 0, none⟩)] := by
  obtain ⟨g, first, caps, e0, hv1⟩ := onF_ne hv (by simp)
  obtain ⟨hg, hv2⟩ := bcase_ne hv1 (by simp)
  have hg := Nat.eq_of_beq_eq_true hg
  subst e0
  clear hv hv1
  cases first with
  | cons x l => cases hv2
  | nil =>
    obtain ⟨c, r, e1, hv3⟩ := lcase_ne (show lcase caps none (fun c r => lcase r (onP c none (fun y o => bcase (Nat.beq o 0) none (some y))) (fun _ _ => none)) = some y from hv2) (by simp)
    subst e1
    clear hv2
    cases r with
    | cons x l => cases hv3
    | nil =>
      obtain ⟨y', o, e2, hv4⟩ := onP_ne (show onP c none (fun y o => bcase (Nat.beq o 0) none (some y)) = some y from hv3) (by simp)
      obtain ⟨ho, hv5⟩ := bcase_ne hv4 (by simp)
      have ho := Nat.eq_of_beq_eq_true ho
      obtain rfl := Option.some.inj hv5
      subst e2; subst ho; subst hg
      simp only [VR] at hr
      obtain ⟨xs, ys, rfl, h1, h2⟩ := hr
      simp only [VRs] at h1 h2
      obtain ⟨u1, us, e1, h3, rfl⟩ := h2
      simp only [VR] at h3
      obtain ⟨b, c, n, h4, rfl⟩ := h3
      refine ⟨b, c, n, h4, ?_⟩
      have ex : xs = #[] := by cases xs; simp_all
      have ey : ys = #[.pointer (some ⟨b, c + 0, none⟩)] := by cases ys; simp_all
      rw [ex, ey]
theorem onNm_some {x : X} {f : Tr V → H → Option H} {r : H} (h : onNm x f = some r) : ∃ t h1, x = .nm t h1 ∧ f t h1 = some r := by
  cases x <;> first | exact ⟨_, _, rfl, h⟩ | cases h
theorem round_vals {y : BP} {i : Nat} {as body : C2} {p q : Option BP} {h' : H} (hv : backRound en n y p q as body t i h = some h') : ∃ sl pv k z, load1' (.p y 0) h = some sl ∧ iaddr0 1 sl (V.i .i64 (Z.lit (Int.ofNat i))) = some pv ∧ load1' pv h = some (.i .i64 z) ∧
    ∃ t1 h1 t2, FS en badCl n as (Ev.setP q (.i .i64 z) (Ev.setP p (V.i .i64 (Z.lit (Int.ofNat i))) t)) h = .nm t1 h1 ∧ FS en badCl n body t1 h1 = .nm t2 h' ∧ k = () := by
  obtain ⟨sl, e1, hv⟩ := ocase_ne hv (by simp)
  obtain ⟨pv, e2, hv⟩ := ocase_ne hv (by simp)
  obtain ⟨v0, e3, hv⟩ := ocase_ne hv (by simp)
  obtain ⟨k, z, rfl, hv⟩ := onI_ne hv (by simp)
  obtain ⟨hk, hv⟩ := bcase_ne hv (by simp)
  have hk : k = .i64 := by cases k <;> first | rfl | exact absurd (Nat.eq_of_beq_eq_true hk) (by decide)
  subst hk
  obtain ⟨t1, h1, e4, hv⟩ := onNm_some hv
  obtain ⟨t2, h2, e5, hv⟩ := onNm_some hv
  obtain rfl := Option.some.inj hv
  exact ⟨sl, pv, (), z, e1, e2, e3, t1, h1, t2, e4, e5, rfl⟩
theorem back_sound (hT : TTok P tt) (he : EnOk ν en) (hmo : P.follows .mixedOrders = true) (hm : MtsOk P en.mts) {bk : Nat} (hB : BackIt P bk) (hnt : nt ≤ 100000) {f : Operand} {p q : Nat} {po qo : Option BP} {s : Src} {as body : Code}
    (hs : trSrc [] f = some s) (hp : slotIn C nt p = some po) (hq : slotIn C nt q = some qo) (hpl : plainC as = true) (hpl2 : plainC body = true) {X0 : X} (hX : FS3 en call n bk (.back s po qo (trC tt nt C as) (trC tt nt C body)) t h = X0) (hb : ∀ n, X0 ≠ .bad n) (R : Rel ν W ρ h w) (Fr : FrC Df ν C ρ nt t a) :
    (Code.rangeFunc f #[p, q] as body).wp P (Post3 Df ν W C nt h ρ X0) a w := by
  have hv := Cur.val Fr.toFrR hs
  obtain ⟨y, ey, hX1⟩ := ocase_ne (show ocase (backV bk (src [] t s)) (X.bad 140) _ = X0 from hX) (fun e => hb _ e.symm)
  obtain ⟨N, eN, hX2⟩ := ocase_ne hX1 (fun e => hb _ e.symm)
  obtain ⟨hN, hX3⟩ := bcase_ne hX2 (fun e => hb _ e.symm)
  obtain ⟨h', el, hX4⟩ := ocase_ne hX3 (fun e => hb _ e.symm)
  obtain ⟨b, c, m, hy, hfv⟩ := VR.backV ey hv
  have hN := Nat.le_of_ble_eq_true hN
  obtain ⟨slv, e1, e2⟩ := ocase_ne eN (by simp)
  obtain ⟨us, k1, k2⟩ := load1'_some R hy e1
  obtain ⟨A, cap, rfl, hcap⟩ := lenS_some e2 k2
  obtain ⟨hs', g1, g2, g3⟩ := backL_some N h h' el
  refine (wpIn_wide (n := 9)).1 (wpIn_rangeFunc ?_)
  intro fn hfn
  obtain ⟨rec, hrec⟩ : ∃ rec : LoopState → Option Code → Loop, rec = fun st pe => { state := st, pending := pe, fn, tmps := a.tmps, params := #[p, q], assign := as, body, defers := w.heap.size } := ⟨_, rfl⟩
  obtain ⟨W1, hW1⟩ : ∃ W1, (w.alloc (.deferred (some []))).alloc (.loop (rec .ready none)) = W1 := ⟨_, rfl⟩
  obtain ⟨D, hD⟩ : ∃ D, w.heap.size = D := ⟨_, rfl⟩
  have R1 : Rel ν (W.keep ((D + 1, .loop (rec .ready none)) :: (D, .deferred (some [])) :: W.kp)) ρ h W1 := by
    have r1 := (R.keep_new (ob := .deferred (some [])) rfl).keep_new (ob := .loop (rec .ready none)) rfl
    rw [World.size_alloc, hD, hW1] at r1
    exact r1
  have hwl : W.w0.heap.size ≤ D := by rw [← hD]; exact R.below.size
  have hkl : ∀ p ∈ W.kp, p.1 ≠ D ∧ p.1 ≠ D + 1 := fun p hp => by
    have := (Array.getElem?_eq_some_iff.1 (R.kp p hp).1).1
    omega
  refine ⟨D + 1, [{ target := .collected D, args := #[] }], W1, { target := .fn (.func bk) #[.pointer (some ⟨b, c + 0, none⟩)], args := #[.func (.yield (D + 1)) #[] #[]] }, W1, bk,
    #[.func (.yield (D + 1)) #[] #[]] ++ #[.pointer (some ⟨b, c + 0, none⟩)], W1, ?_, ?_, ?_, ?_, fun e => absurd e (by simp [Fence.wide]), ?_⟩
  · rw [← hW1, hrec, ← hD]; exact run_enterLoop_outer _ _ _ _ _
  · simp only [resolve, hfv]
    simp [go_sem]
  · intro f' hf'; trivial
  · simp [invoke, go_sem, hB.1]
  · have hcell1 : W1.cell? ⟨b, c + 0, none⟩ = some (.slice A N cap) := by
      obtain ⟨u2, k3, k4⟩ := load1'_some R1 hy e1
      have hb1 := (R.lt y b c m hy).1
      have e5 : W1.cell? ⟨b, c + 0, none⟩ = w.cell? ⟨b, c + 0, none⟩ := by
        refine World.cell?_of_block ?_
        rw [← hW1]
        show ((w.heap.push _).push _)[b]? = w.heap[b]?
        rw [Array.getElem?_push_lt (by simp; omega), Array.getElem_push_lt (by omega)]
        exact (Array.getElem?_eq_getElem _).symm
      rw [e5]; exact k1
    refine (hB.2 (D + 1) b (c + 0) N cap A W1 (fun i W' => ∃ ρ', Rel ν (W.keep ((D + 1, .loop (rec .ready none)) :: (D, .deferred (some [])) :: W.kp)) ρ' (hs' i) W' ∧ Ext h ρ (hs' i) ρ') hN hcell1 ⟨ρ, by rw [g1]; exact R1, by rw [g1]; exact Ext.refl _ _⟩ ?_).mono ?_
    · rintro i W' hi ⟨ρ1, R2, E2⟩
      obtain ⟨sl, pv, _, z, f1, f2, f3, t1, h1, t2, f4, f5, _⟩ := round_vals (g3 i hi)
      obtain ⟨x, off, s0, M, f6, f7⟩ := onSl_ne f2 (by simp)
      subst f6
      obtain ⟨kk, f8, f9, f10⟩ := asNat_ne f7 (by simp)
      injection f9 with f9 f9'
      injection f9' with f9'
      have hik : f8 = i := by
        have : (Int.ofNat i) = (f8 : Int) := f9'
        exact (Int.ofNat.inj this).symm
      subst hik
      obtain ⟨f11, f12⟩ := bcase_ne f10 (by simp)
      obtain ⟨f13, f14⟩ := bcase_ne f12 (by simp)
      have hiM := blt_iff.1 f11
      obtain rfl := Nat.eq_of_beq_eq_true f13
      rw [forceN_eq] at f14
      obtain rfl := Option.some.inj f14
      obtain ⟨u1, q1, q2⟩ := load1'_some R2 (E2.le _ _ hy) f1
      simp only [VR] at q2
      obtain ⟨bb, cc, nn, cap', pp, q3, rfl, q4, q5⟩ := q2
      obtain ⟨rfl, _⟩ := q5 (by omega)
      obtain ⟨u2, q6, q7⟩ := load1'_some R2 q3 f3
      simp only [VR] at q7
      subst q7
      refine ⟨bb, cc + off, M, cap', zval ν z, hiM, q4, q1, by rw [← q6]; congr 2; simp; omega, ?_⟩
      have hl2 := (R2.kp _ (List.mem_cons_self ..)).1
      have hy2 := run_yield (P := P) (args := #[.int .i64 (f8 : Int), .int .i64 (zval ν z)]) hl2 (by rw [hrec]; rfl)
      rw [hrec] at hy2
      have hy3 : (Instr.yield (D + 1) #[.int .i64 (f8 : Int), .int .i64 (zval ν z)]).run P W' = .ok (.round (D + 1) fn ((a.tmps.setIfInBounds p (.int .i64 (f8 : Int))).setIfInBounds q (.int .i64 (zval ν z))) as body) W' := by rw [hy2]; simp
      refine ⟨fn, _, as, body, hy3, roundIn_of_wpIn hfn ?_⟩
      obtain ⟨hpn, hpo⟩ := slotIn_some hp
      obtain ⟨hqn, hqo⟩ := slotIn_some hq
      have F0 : FrC [] ν C ρ1 nt t { tmps := a.tmps, defers := [] } := ⟨⟨(Fr.mono E2.le).slot, (Fr.mono E2.le).glob, rfl, Fr.size⟩, Fr.ins⟩
      have F1 := (F0.setP hnt hpn hpo (x0 := .i .i64 (.lit (Int.ofNat f8))) (u := .int .i64 (f8 : Int)) (by simp [VR, zval])).setP hnt hqn hqo (x0 := .i .i64 z) (u := .int .i64 (zval ν z)) (by simp only [VR])
      refine wpIn_mono (fs_in (F := Fence.wide.inRound (D + 1)) (k := 7) (Df := []) hT he hmo badCl_ok hm hnt as hpl _ _ _ ρ1 _ W' f4 (by simp) R2 F1) (fun e a1 w1 hp1 => ?_)
      cases e <;> first | exact hp1.elim | skip
      obtain ⟨ρ2, R3, E3, F3⟩ := hp1
      have hl3 := (R3.kp _ (List.mem_cons_self ..)).1
      refine ⟨_, run_beginRound hl3 (by rw [hrec]), ?_⟩
      have R4 : Rel ν (W.keep ((D + 1, .loop { rec .ready none with state := .busy }) :: (D, .deferred (some [])) :: W.kp)) ρ2 h1 (w1.putObj (D + 1) (.loop { rec .ready none with state := .busy })) :=
        R3.keep_put (by show W.w0.heap.size ≤ D + 1; omega) hl3 rfl _ (fun p0 hp0 => by
          rcases List.mem_cons.1 hp0 with rfl | hp0
          · exact .inr ⟨rfl, rfl⟩
          · rcases List.mem_cons.1 hp0 with rfl | hp0
            · exact .inl ⟨by simp [Bas.keep], by simp⟩
            · exact .inl ⟨by simp [Bas.keep, hp0], (hkl p0 hp0).2⟩)
      have F3' : FrC [] ν C ρ2 nt t1 a1 := F3
      refine wpIn_mono (fs_in (F := Fence.wide.inRound (D + 1)) (k := 7) (Df := []) hT he hmo badCl_ok hm hnt body hpl2 _ _ _ ρ2 _ _ f5 (by simp) R4 F3') (fun e a2 w2 hp2 => ?_)
      cases e <;> first | exact hp2.elim | skip
      obtain ⟨ρ3, R5, E5, F5⟩ := hp2
      have hl5 := (R5.kp _ (List.mem_cons_self ..)).1
      refine ⟨_, _, run_endRound none hl5, rfl, ρ3, ?_, (E2.trans E3).trans E5⟩
      have : ({ ({ rec .ready none with state := .busy } : Loop) with state := if (none : Option Code).isNone then .ready else .done, pending := none } : Loop) = rec .ready none := by rw [hrec]; rfl
      rw [this]
      exact R5.keep_put (by show W.w0.heap.size ≤ D + 1; omega) hl5 rfl _ (fun p0 hp0 => by
          rcases List.mem_cons.1 hp0 with rfl | hp0
          · exact .inr ⟨rfl, rfl⟩
          · rcases List.mem_cons.1 hp0 with rfl | hp0
            · exact .inl ⟨by simp [Bas.keep], by simp⟩
            · exact .inl ⟨by simp [Bas.keep, hp0], (hkl p0 hp0).2⟩)
    · rintro e W2 ⟨⟨v0, rfl⟩, ρ1, R2, E2⟩
      have hl2 := (R2.kp _ (List.mem_cons_self ..)).1
      refine ⟨none, _, by have := run_endLoop (P := P) hl2 (by rw [hrec]; simp); rw [show (rec .ready none).pending = none by rw [hrec]] at this; exact this, ?_⟩
      show Post3 Df ν W C nt h ρ X0 .normal _ _
      refine .inr ⟨D, ⟨hwl, fun p hp => (hkl p hp).1⟩, ?_⟩
      rw [← hX4, ← g2]
      refine ⟨ρ1, ?_, E2, ⟨⟨(Fr.mono E2.le).slot, (Fr.mono E2.le).glob, by show [_] ++ a.defers = _; rw [Fr.defers]; rfl, Fr.size⟩, Fr.ins⟩⟩
      exact R2.keep_put (by show W.w0.heap.size ≤ D + 1; omega) hl2 rfl _ (fun p0 hp0 => by
          rcases List.mem_cons.1 hp0 with rfl | hp0
          · exact .inl ⟨by simp [Bas.keep], by simp⟩
          · exact .inl ⟨by simp [Bas.keep, hp0], (hkl p0 hp0).2⟩)
theorem Post3.mono {h1 : H} {ρ1 : Pl} (E : Ext h ρ h1 ρ1) {X0 : X} : ∀ e a w, Post3 Df ν W C nt h1 ρ1 X0 e a w → Post3 Df ν W C nt h ρ X0 e a w := by
  rintro e a w (hp | ⟨D, hp⟩)
  · exact .inl (Post.mono E e a w hp)
  · exact .inr ⟨D, hp.1, Post.mono E e a w hp.2⟩
theorem fs3_sound (hT : TTok P tt) (he : EnOk ν en) (hmo : P.follows .mixedOrders = true) (hcall : CallOk P ν W call) (hm : MtsOk P en.mts) {bk : Nat} (hB : BackIt P bk) (hnt : nt ≤ 100000) : ∀ (c : Code) (t : Tr V) (h : H) (X0 : X) (ρ : Pl) (a : Act) (w : World),
    FS3 en call n bk (trC3 tt nt C c) t h = X0 → (∀ n, X0 ≠ .bad n) → Rel ν W ρ h w → FrC Df ν C ρ nt t a → c.wp P (Post3 Df ν W C nt h ρ X0) a w := by
  have plain : ∀ (c : Code), trC3 tt nt C c = .pl (trC tt nt C c) → ∀ (t : Tr V) (h : H) (X0 : X) (ρ : Pl) (a : Act) (w : World),
      FS3 en call n bk (trC3 tt nt C c) t h = X0 → (∀ n, X0 ≠ .bad n) → Rel ν W ρ h w → FrC Df ν C ρ nt t a → c.wp P (Post3 Df ν W C nt h ρ X0) a w := by
    intro c hc t h X0 ρ a w hX hb R F
    rw [hc] at hX
    exact wp_mono (fs_sound hT he hmo hcall hm hnt c t h X0 ρ a w hX hb R F) (fun e a w hp => .inl hp)
  intro c
  induction c with
  | rangeFunc f ps as body _ _ =>
    intro t h X0 ρ a w hX hb R F
    unfold trC3 at hX
    split at hX
    · rename_i p q s hps hs
      split at hX
      · rename_i p' q' hp hq
        cases hc : ((plainC as && plainC body) && !(Nat.beq p q)) with
        | false => rw [hc] at hX; exact absurd (show X.bad 145 = X0 from hX).symm (hb _)
        | true =>
          rw [hc] at hX
          simp only [Bool.and_eq_true] at hc
          have eps : ps = #[p, q] := by cases ps; simp_all
          subst eps
          exact back_sound hT he hmo hm hB hnt hs hp hq hc.1.1 hc.1.2 hX hb R F
      · exact absurd (show X.bad 146 = X0 from hX).symm (hb _)
    · exact absurd (show X.bad 147 = X0 from hX).symm (hb _)
  | seq x y ihx ihy =>
    intro t h X0 ρ a w hX hb R F
    refine wp_seq ?_
    cases hr : hasR x with
    | true =>
      rw [show trC3 tt nt C (.seq x y) = (bif hasR x then .sq (trC3 tt nt C x) (trC tt nt C y) else .qs (trC tt nt C x) (trC3 tt nt C y)) from rfl, hr] at hX
      have hX' : again (FS3 en call n bk (trC3 tt nt C x) t h) (FS en badCl n (trC tt nt C y)) = X0 := hX
      cases hx : FS3 en call n bk (trC3 tt nt C x) t h with
      | bad n => rw [hx] at hX'; exact absurd hX'.symm (hb n)
      | nm t1 h1 =>
        rw [hx] at hX'
        refine wp_mono (ihx t h _ ρ a w hx (by simp) R F) (fun e a1 w1 hp => ?_)
        rcases hp with hp | ⟨D, hp⟩
        · cases e <;> first | exact hp.elim | skip
          obtain ⟨ρ1, R1, E1, F1⟩ := hp
          exact wp_mono (fs_sound hT he hmo badCl_ok hm hnt y t1 h1 X0 ρ1 a1 w1 hX' hb R1 F1) (fun e a w hp => .inl (Post.mono E1 e a w hp))
        · obtain ⟨hD, hp⟩ := hp
          cases e <;> first | exact hp.elim | skip
          obtain ⟨ρ1, R1, E1, F1⟩ := hp
          exact wp_mono (fs_sound hT he hmo badCl_ok hm hnt y t1 h1 X0 ρ1 a1 w1 hX' hb R1 F1) (fun e a w hp => .inr ⟨D, hD, Post.mono E1 e a w hp⟩)
      | ex i t1 h1 =>
        rw [hx] at hX'
        refine wp_mono (ihx t h _ ρ a w hx (by simp) R F) (fun e a1 w1 hp => ?_)
        have hX2 : X.ex i t1 h1 = X0 := hX'
        rw [← hX2]
        cases e <;> first | exact hp | (rcases hp with hp | ⟨D, _, hp⟩ <;> exact hp.elim)
      | rt t1 h1 =>
        rw [hx] at hX'
        refine wp_mono (ihx t h _ ρ a w hx (by simp) R F) (fun e a1 w1 hp => ?_)
        have hX2 : X.rt t1 h1 = X0 := hX'
        rw [← hX2]
        cases e <;> first | exact hp | (rcases hp with hp | ⟨D, _, hp⟩ <;> exact hp.elim)
    | false =>
      rw [show trC3 tt nt C (.seq x y) = (bif hasR x then .sq (trC3 tt nt C x) (trC tt nt C y) else .qs (trC tt nt C x) (trC3 tt nt C y)) from rfl, hr] at hX
      have hX' : again (FS en call n (trC tt nt C x) t h) (FS3 en call n bk (trC3 tt nt C y)) = X0 := hX
      cases hx : FS en call n (trC tt nt C x) t h with
      | bad n => rw [hx] at hX'; exact absurd hX'.symm (hb n)
      | nm t1 h1 =>
        rw [hx] at hX'
        refine wp_mono (fs_sound hT he hmo hcall hm hnt x t h _ ρ a w hx (by simp) R F) (fun e a1 w1 hp => ?_)
        cases e <;> first | exact hp.elim | skip
        obtain ⟨ρ1, R1, E1, F1⟩ := hp
        exact wp_mono (ihy t1 h1 X0 ρ1 a1 w1 hX' hb R1 F1) (Post3.mono E1)
      | ex i t1 h1 =>
        rw [hx] at hX'
        refine wp_mono (fs_sound hT he hmo hcall hm hnt x t h _ ρ a w hx (by simp) R F) (fun e a1 w1 hp => ?_)
        have hX2 : X.ex i t1 h1 = X0 := hX'
        rw [← hX2]
        cases e <;> first | exact hp.elim | exact .inl hp
      | rt t1 h1 =>
        rw [hx] at hX'
        refine wp_mono (fs_sound hT he hmo hcall hm hnt x t h _ ρ a w hx (by simp) R F) (fun e a1 w1 hp => ?_)
        have hX2 : X.rt t1 h1 = X0 := hX'
        rw [← hX2]
        cases e <;> first | exact hp.elim | exact .inl hp
  | cond c x y ihx ihy =>
    intro t h X0 ρ a w hX hb R F
    change FS3 en call n bk (match trSrc [] c with | some s => C3.cond s (trC3 tt nt C x) (trC3 tt nt C y) | none => .bad 130) t h = X0 at hX
    cases hs : trSrc [] c with
    | none => rw [hs] at hX; exact absurd (show X.bad 130 = X0 from hX).symm (hb _)
    | some s =>
      rw [hs] at hX
      have hv := Cur.val F.toFrR hs
      have hX' : onB (src [] t s) (X.bad 86) (fun b => bcase b (FS3 en call n bk (trC3 tt nt C y) t h) (FS3 en call n bk (trC3 tt nt C x) t h)) = X0 := hX
      obtain ⟨b, hb1, hX2⟩ := onB_ne hX' (fun e => hb _ e.symm)
      rw [hb1] at hv
      simp only [VR] at hv
      refine wp_cond hv ?_
      cases b with
      | true => exact ihx t h X0 ρ a w hX2 hb R F
      | false => exact ihy t h X0 ρ a w hX2 hb R F
  | block id c ih =>
    intro t h X0 ρ a w hX hb R F
    have hX' : blockK (FS3 en call n bk (trC3 tt nt C c) t h) id = X0 := hX
    refine wp_block ?_
    cases hx : FS3 en call n bk (trC3 tt nt C c) t h with
    | bad n => rw [hx] at hX'; exact absurd hX'.symm (hb n)
    | nm t1 h1 =>
      rw [hx] at hX'
      refine wp_mono (ih t h _ ρ a w hx (by simp) R F) (fun e a1 w1 hp => ?_)
      have hX2 : X.nm t1 h1 = X0 := hX'
      rw [← hX2]
      cases e <;> first | exact hp | (rcases hp with hp | ⟨D, _, hp⟩ <;> exact hp.elim)
    | ex i t1 h1 =>
      rw [hx] at hX'
      refine wp_mono (ih t h _ ρ a w hx (by simp) R F) (fun e a1 w1 hp => ?_)
      cases e <;> first | (rcases hp with hp | ⟨D, _, hp⟩ <;> exact hp.elim) | skip
      rename_i j
      have hij : i = j := by rcases hp with hp | ⟨D, _, hp⟩ <;> exact hp.1
      have hX2 : bcase (Nat.beq i id) (X.ex i t1 h1) (X.nm t1 h1) = X0 := hX'
      simp only [Exit.inBlock]
      split
      · rename_i e
        rw [hij, e, Nat.beq_refl] at hX2
        rw [← show X.nm t1 h1 = X0 from hX2]
        rcases hp with hp | ⟨D, hp⟩
        · exact .inl hp.2
        · exact .inr ⟨D, hp.1, hp.2.2⟩
      · rename_i e
        rw [show Nat.beq i id = false from Bool.eq_false_iff.2 fun h => e (hij ▸ Nat.eq_of_beq_eq_true h)] at hX2
        rw [← show X.ex i t1 h1 = X0 from hX2]; exact hp
    | rt t1 h1 =>
      rw [hx] at hX'
      refine wp_mono (ih t h _ ρ a w hx (by simp) R F) (fun e a1 w1 hp => ?_)
      have hX2 : X.rt t1 h1 = X0 := hX'
      rw [← hX2]
      cases e <;> first | exact hp | (rcases hp with hp | ⟨D, _, hp⟩ <;> exact hp.elim)
  | _ => exact plain _ rfl
theorem trF3_some {fn : Func} {cf : CF3} (h : trF3 tt fn = some cf) : ∃ c rs, fn.body = some c ∧ trRvs tt fn.results.toList = some rs ∧ fn.ntmps ≤ 100000 ∧ fn.params.size + fn.nfree ≤ 1000 ∧ (fn.name == "runtime.NumGoroutine") = false ∧
    cf = .mk (fn.params.size + fn.nfree) (trC3 tt fn.ntmps (slots (fn.params.size + fn.nfree) (useR fn.results.toList (useC3 c .lf))) c) rs := by
  unfold trF3 at h
  split at h
  · rename_i c rs e1 e2
    cases hb : (Nat.ble fn.ntmps 100000 && Nat.ble (fn.params.size + fn.nfree) 1000 && !(fn.name == "runtime.NumGoroutine")) with
    | false => rw [hb] at h; cases h
    | true =>
      rw [hb] at h
      simp only [Bool.and_eq_true, Bool.not_eq_true'] at hb
      exact ⟨c, rs, e1, e2, Nat.le_of_ble_eq_true hb.1.1, Nat.le_of_ble_eq_true hb.1.2, hb.2, (Option.some.inj h).symm⟩
  · cases h
/-- A function that ranges over slices.Backward. -/
theorem func3_run (hT : TTok P tt) (he : EnOk ν en) (hmo : P.follows .mixedOrders = true) (hcall : CallOk P ν W call) (hm : MtsOk P en.mts) {bk : Nat} (hB : BackIt P bk) (hgt : GtOk ν W en.gt)
    {g : Nat} {as : List V} {h h' : H} {v : V} {fn : Func} {cf : CF3} (hf : P.funcs[g]? = some fn) (htf : trF3 tt fn = some cf) (hv2 : run3 cf en call bk as h = .ok v h') : Call1 P ν W g as h v h' := by
  obtain ⟨c, rs, hb, hrs, hnt, hn, hname, rfl⟩ := trF3_some htf
  obtain ⟨hlen, hv3⟩ := bcase_ne (show bcase (Nat.ble (len as) (fn.params.size + fn.nfree)) (R1.bad 85) (finX (FS3 en call 1000000 bk (trC3 tt fn.ntmps (slots (fn.params.size + fn.nfree) (useR fn.results.toList (useC3 c .lf))) c) (init' as BP.one en.gt) h) rs) = R1.ok v h' from hv2) (by simp)
  have hlen := Nat.le_of_ble_eq_true hlen
  rw [len_eq] at hlen
  refine ⟨fun args w => ?_, fun ρ args w R hargs => ?_⟩
  · have hne : fn.name ≠ "runtime.NumGoroutine" := by simpa using hname
    simp [callFunc, hf, hb, hne]
  · have hal := hargs.length
    have hget : ∀ n, n < 100000 → get (bpOf n) (init' as BP.one en.gt) = if n < as.length then as[n]? else none := fun n hn' => by
      rw [show BP.one = bpOf 0 from rfl, init_get n as 0 en.gt (by omega)]
      by_cases e : n < as.length
      · rw [if_pos (by omega), if_pos e]; simp
      · rw [if_neg (by omega), if_neg e]; exact hgt.low n hn'
    have F : FrC [] ν (slots (fn.params.size + fn.nfree) (useR fn.results.toList (useC3 c .lf))) ρ fn.ntmps (init' as BP.one en.gt) { tmps := args.toArray ++ Array.replicate (fn.ntmps - args.toArray.size) undef, defers := [] } := by
      refine ⟨⟨fun n hn' v hv => ?_, fun g v hv => ?_, rfl, by simp; omega⟩, fun n v hn' hv => ?_⟩
      · rw [hget n hn'] at hv
        split at hv
        · obtain ⟨u, hu, hvr⟩ := hargs.get hv
          have hlt : n < args.length := by omega
          have : (args.toArray ++ Array.replicate (fn.ntmps - args.toArray.size) undef).getD n undef = u := by
            rw [Array.getD_eq_getD_getElem?, Array.getElem?_append_left (by simpa using hlt)]
            simp [hu]
          rw [this]; exact hvr
        · cases hv
      · rw [show BP.one = bpOf 0 from rfl, init_get (100000 + g) as 0 en.gt (by omega), if_neg (by omega)] at hv
        exact VR.mono ν R.base _ _ (hgt.glob g v hv)
      · rw [hget n hn'] at hv
        split at hv
        · exact ⟨(), slots_get _ n _ (by omega) hn⟩
        · cases hv
    refine (callsIn_wide (n := 9)).1 (callsIn_of_wp_marks hf hb trivial (wpIn_wide.2 ?_) rfl)
    have key : ∀ t1 h1 e a1 w1, (fin rs t1 h1 = .ok v h') → (∃ ρ1, Rel ν W ρ1 h1 w1 ∧ Ext h ρ h1 ρ1 ∧ FrC [] ν (slots (fn.params.size + fn.nfree) (useR fn.results.toList (useC3 c .lf))) ρ1 fn.ntmps t1 a1) ∨
        (∃ D, (W.w0.heap.size ≤ D ∧ ∀ p ∈ W.kp, p.1 ≠ D) ∧ ∃ ρ1, Rel ν (W.keep ((D, .deferred (some [])) :: W.kp)) ρ1 h1 w1 ∧ Ext h ρ h1 ρ1 ∧ FrC [{ target := .collected D, args := #[] }] ν (slots (fn.params.size + fn.nfree) (useR fn.results.toList (useC3 c .lf))) ρ1 fn.ntmps t1 a1) →
        (e = Exit.normal ∨ e = Exit.ret) → bodyPostM Fence.wide 9 P fn (fun e w' => ∃ u, e = .returned u ∧ After ν W h ρ h' v u w') e a1 w1 := by
      rintro t1 h1 e a1 w1 hfin hcase hee
      have hgoal : LeavesInM Fence.wide 9 P fn a1.tmps (fun e w' => ∃ u, e = .returned u ∧ After ν W h ρ h' v u w') a1.defers .returning w1 := by
        rcases hcase with ⟨ρ1, R1', E1, F1⟩ | ⟨D, hDD, ρ1, R1', E1, F1⟩
        · obtain ⟨rfl, u, hres, hvr⟩ := fin_sound hT hrs R1' F1.toFrR hfin
          rw [F1.defers]
          exact ⟨u, hres, u, rfl, ρ1, R1', hvr, E1⟩
        · rw [F1.defers]
          have hD := R1'.kp _ (List.mem_cons_self ..)
          have R2 : Rel ν W ρ1 h1 (w1.putObj D (.deferred none)) := R1'.keep_put (ks := W.kp) hDD.1 hD.1 rfl (.deferred none) (fun p hp => .inl ⟨List.mem_cons_of_mem _ hp, hDD.2 p hp⟩)
          obtain ⟨rfl, u, hres, hvr⟩ := fin_sound hT hrs R2 F1.toFrR hfin
          exact ⟨by simp, .inl ⟨D, _, rfl, run_takeDeferred hD.1, u, hres, u, rfl, ρ1, R2, hvr, E1⟩⟩
      rcases hee with rfl | rfl <;> exact hgoal
    cases hx : FS3 en call 1000000 bk (trC3 tt fn.ntmps (slots (fn.params.size + fn.nfree) (useR fn.results.toList (useC3 c .lf))) c) (init' as BP.one en.gt) h with
    | bad n => rw [hx] at hv3; cases hv3
    | ex i t1 h1 => rw [hx] at hv3; cases hv3
    | nm t1 h1 =>
      rw [hx] at hv3
      refine wp_mono (fs3_sound hT he hmo hcall hm hB hnt c _ h _ ρ _ w hx (by simp) R F) (fun e a1 w1 hp => ?_)
      rcases hp with hp | ⟨D, hDD, hp⟩ <;> cases e <;> first | exact hp.elim | skip
      · exact key t1 h1 _ a1 w1 hv3 (.inl hp) (.inl rfl)
      · exact key t1 h1 _ a1 w1 hv3 (.inr ⟨D, hDD, hp⟩) (.inl rfl)
    | rt t1 h1 =>
      rw [hx] at hv3
      refine wp_mono (fs3_sound hT he hmo hcall hm hB hnt c _ h _ ρ _ w hx (by simp) R F) (fun e a1 w1 hp => ?_)
      rcases hp with hp | ⟨D, hDD, hp⟩ <;> cases e <;> first | exact hp.elim | skip
      · exact key t1 h1 _ a1 w1 hv3 (.inl hp) (.inr rfl)
      · exact key t1 h1 _ a1 w1 hv3 (.inr ⟨D, hDD, hp⟩) (.inr rfl)
end Ev
end Go.Proofs.YtoinghomkcjkcaaGreatDoor
/- Functions that defer one 'delete'. -/
namespace Go.Proofs.YtoinghomkcjkcaaGreatDoor
set_option linter.unusedSimpArgs false
set_option linter.unusedVariables false
set_option linter.constructorNameAsVariable false
open Go Go.RowKit
namespace Ev
section
variable {P : Program}
theorem step_del {fr : Frame} {cs : List Frame} {w w' : World} {d : Deferred} {ds : List Deferred} {b : Builtin} {ts : Array TypeId} {ty : TypeId} {cn : Array Bool} {u : Value}
    (hm : fr.mode = .returning) (hd : fr.defers = d :: ds) (ht : d.target = .builtin b ts ty cn) (hi : (invoke d.target d.args).run P w = .ok (.value u) w') :
    Go.step P (lone fr cs w) = .next (lone { fr with defers := ds } cs w') := by
  obtain ⟨t, a⟩ := d
  simp only at ht hi
  subst ht
  refine step_lone_go ?_
  simp [stepG, unwind, callDeferred, hm, hd, hi, Sem.runT_eq, GStep.bare_after]
/-- How a body may end that may have deferred one builtin. -/
def DelPost (P : Program) (fn : Func) (R : Value → World → Prop) (e : Exit) (a : Act) (w : World) : Prop := (e = .normal ∨ e = .ret) ∧
  ((a.defers = [] ∧ ∃ v, (results fn a.tmps).run P w = .ok v w ∧ R v w) ∨
   ∃ d b ts ty cn u w', a.defers = [d] ∧ d.target = .builtin b ts ty cn ∧ (invoke d.target d.args).run P w = .ok (.value u) w' ∧ ∃ v, (results fn a.tmps).run P w' = .ok v w' ∧ R v w')
theorem calls_of_wp_del {f : FuncId} {fn : Func} {c : Code} {args : Array Value} {w : World} {R : Value → World → Prop} (hf : P.funcs[f]? = some fn) (hb : fn.body = some c)
    (h : c.wp P (DelPost P fn R) { tmps := args ++ Array.replicate (fn.ntmps - args.size) undef, defers := [] } w) : Calls P f args w (fun e w' => ∃ v, e = .returned v ∧ R v w') := by
  intro cs
  let b : Frame := { (default : Frame) with fn := f, kind := .normal }
  have henter : Frame.enter P f args .normal =
      b.at { tmps := args ++ Array.replicate (fn.ntmps - args.size) undef, defers := [] } [.code c] := by
    simp [Frame.enter, Frame.at, hf, hb, b]
  obtain ⟨e, a', w', hq, harr⟩ := h b [] cs
  rw [← henter] at harr
  obtain ⟨he, hq⟩ := hq
  have key : ∀ (fr : Frame) (m : Machine), Steps P m (lone fr cs w') → fr.mode = .returning → fr.defers = a'.defers → fr.tmps = a'.tmps → fr.fn = f → fr.kind = .normal →
      ∃ e w'' fr', (∃ v, e = .returned v ∧ R v w'') ∧ Comes P m (lone fr' cs w'') e ∧ fr'.fn = f ∧ fr'.leaving P w'' e := by
    intro fr m hs h1 h2 h3 h4 h5
    rcases hq with ⟨hd, v, hr, hR⟩ | ⟨d, bb, ts, ty, cn, u, w2, hd, ht, hi, v, hr, hR⟩
    · exact ⟨.returned v, w', fr, ⟨v, rfl, hR⟩, Comes.of_steps hs (Steps.refl P _), h4, h1, h2.trans hd, h5, fn, by rw [h4]; exact hf, h3 ▸ hr⟩
    · exact ⟨.returned v, w2, { fr with defers := [] }, ⟨v, rfl, hR⟩, Comes.of_steps (Steps.trans hs (.one (step_del h1 (h2.trans hd) ht hi))) (Steps.refl P _), h4, h1, rfl, h5, fn, by show P.funcs[fr.fn]? = _; rw [h4]; exact hf, by show (results fn fr.tmps).run P w2 = _; rw [h3]; exact hr⟩
  cases e with
  | normal => exact key { b.at a' [] with mode := .returning } _ (Steps.trans harr (.one step_end)) rfl rfl rfl rfl rfl
  | ret => obtain ⟨todo, hs₀⟩ := harr; exact key { b.at a' todo with mode := .returning } _ hs₀ rfl rfl rfl rfl rfl
  | _ => exact absurd he (by simp)
-- a region's last operation, which waits for all others
/-- Edges go back; no guards; each but the last is waited for by a later one. -/
def lastOk (ops : List Oper) : Bool := ((List.range ops.length).all fun j => match ops[j]? with | some o => o.guard.isNone && (edgesOf o).all fun k => Nat.blt k j | none => true) &&
  (List.range (ops.length - 1)).all fun i => (List.range ops.length).any fun j => match ops[j]? with | some o => (edgesOf o).any (Nat.beq i) | none => false
def QLast (P : Program) (ops : Array Oper) (Q : Exit → Act → World → Prop) (n : Nat) : Exit → Act → World → Prop := fun e a w => match e with
  | .normal => wpOp P ops Q n (fun a w => Q .normal a w) a w
  | e => Q e a w
theorem wp_other {ops : Array Oper} {Q : Exit → Act → World → Prop} {n : Nat} {o : Oper} {a : Act} {w : World} {K : Act → World → Prop} (h : o.wp P a w K (QLast P ops Q n)) : o.wp P a w K Q := by
  unfold Oper.wp at *
  generalize (execOp a.eval o).run P w = r at *
  cases r with
  | ok x w' => cases x <;> exact h
  | halt x w' => cases x <;> exact h
theorem edges_iff {o : Oper} {k : Nat} : k ∈ edgesOf o ↔ ∃ e ∈ o.after, Region.binds .any e = true ∧ e.on = k := by
  unfold edgesOf
  constructor
  · intro h
    obtain ⟨e, he, rfl⟩ := List.mem_map.1 h
    obtain ⟨h1, h2⟩ := List.mem_filter.1 he
    exact ⟨e, by simpa using h1, h2, rfl⟩
  · rintro ⟨e, h1, h2, rfl⟩
    exact List.mem_map.2 ⟨e, List.mem_filter.2 ⟨by simpa using h1, h2⟩, rfl⟩
section
variable {ops : Array Oper} {o : Oper} {Q : Exit → Act → World → Prop}
theorem push_get {i : Nat} : (ops.push o)[i]? = if i = ops.size then some o else ops[i]? := Array.getElem?_push
theorem lastOk_e1 (hl : lastOk (ops.push o).toList = true) {j : Nat} {oj : Oper} (hj : (ops.push o)[j]? = some oj) : oj.guard = none ∧ ∀ k ∈ edgesOf oj, k < j := by
  obtain ⟨h1, _⟩ := Bool.and_eq_true_iff.1 hl
  have hlt : j < (ops.push o).size := (Array.getElem?_eq_some_iff.1 hj).1
  have h2 := List.all_eq_true.1 h1 j (List.mem_range.2 (by simpa using hlt))
  rw [Array.getElem?_toList, hj] at h2
  obtain ⟨h3, h4⟩ := Bool.and_eq_true_iff.1 h2
  exact ⟨Option.isNone_iff_eq_none.1 h3, fun k hk => blt_iff.1 (List.all_eq_true.1 h4 k hk)⟩
theorem lastOk_e2 (hl : lastOk (ops.push o).toList = true) {i : Nat} (hi : i < ops.size) : ∃ (j : Nat) (oj : Oper), (ops.push o)[j]? = some oj ∧ i ∈ edgesOf oj := by
  obtain ⟨_, h1⟩ := Bool.and_eq_true_iff.1 hl
  have h2 := List.all_eq_true.1 h1 i (List.mem_range.2 (by simpa using hi))
  obtain ⟨j, _, h3⟩ := List.any_eq_true.1 h2
  rw [Array.getElem?_toList] at h3
  cases hj : (ops.push o)[j]? with
  | none => rw [hj] at h3; cases h3
  | some oj =>
    rw [hj] at h3
    obtain ⟨k, hk, e⟩ := List.any_eq_true.1 h3
    exact ⟨j, oj, hj, by rw [Nat.eq_of_beq_eq_true e]; exact hk⟩
def Closed (ops : Array Oper) (listed : Array Bool) : Prop := ∀ j oj, ops[j]? = some oj → listed.getD j false = true → ∀ k ∈ edgesOf oj, listed.getD k false = true
theorem getD_tf {listed : Array Bool} {i : Nat} (h : i < listed.size) : listed.getD i true = listed.getD i false := by
  simp [Array.getD, h]
theorem getD_push {listed : Array Bool} {i : Nat} {d : Bool} (h : i < listed.size) : (listed.push false).getD i d = listed.getD i d := by
  simp only [Array.getD_eq_getD_getElem?, Array.getElem?_push]
  rw [if_neg (by omega)]
theorem all_of_ready (hl : lastOk (ops.push o).toList = true) {listed : Array Bool} (hs : listed.size = ops.size) (hr : Region.ready .any ops listed = []) : ∀ i, i < ops.size → listed.getD i false = true := by
  intro i
  induction i using Nat.strongRecOn with
  | _ i ih =>
    intro hi
    cases hb : listed.getD i false with
    | true => rfl
    | false =>
      exfalso
      have : i ∈ Region.ready .any ops listed := by
        refine mem_ready.2 ⟨by rw [getD_tf (by omega)]; exact hb, ops[i], Array.getElem?_eq_getElem hi, fun e he hbi => ?_⟩
        have hlt := (lastOk_e1 hl (j := i) (oj := ops[i]) (by rw [push_get, if_neg (by omega)]; exact Array.getElem?_eq_getElem hi)).2 e.on (edges_iff.2 ⟨e, he, hbi, rfl⟩)
        exact ih e.on hlt (by omega)
      rw [hr] at this; cases this
theorem all_of_last (hl : lastOk (ops.push o).toList = true) {listed : Array Bool} (hs : listed.size = ops.size) (hc : Closed ops listed) (ho : ∀ k ∈ edgesOf o, listed.getD k false = true) : ∀ m i, i + m = ops.size → i < ops.size → listed.getD i false = true := by
  intro m
  induction m using Nat.strongRecOn with
  | _ m ih =>
    intro i him hi
    obtain ⟨j, oj, hj, hij⟩ := lastOk_e2 hl hi
    have hlt := (lastOk_e1 hl hj).2 i hij
    rw [push_get] at hj
    split at hj
    · obtain rfl := Option.some.inj hj; exact ho i hij
    · have hjs := (Array.getElem?_eq_some_iff.1 hj).1
      exact hc j oj hj (ih (ops.size - j) (by omega) j (by omega) hjs) i hij
theorem any_last {P : Program} (hl : lastOk (ops.push o).toList = true) : ∀ (f : Nat) (listed : Array Bool) (a : Act) (w : World), listed.size = ops.size → Closed ops listed →
    wpAny P .any ops (QLast P (ops.push o) Q ops.size) f listed a w → wpAny P .any (ops.push o) Q (f + 1) (listed.push false) a w := by
  -- where all but the last are listed
  have fin : ∀ (f : Nat) (listed : Array Bool) (a : Act) (w : World), listed.size = ops.size → (∀ i, i < ops.size → listed.getD i false = true) → wpOp P (ops.push o) Q ops.size (fun a w => Q .normal a w) a w → wpAny P .any (ops.push o) Q (f + 1) (listed.push false) a w := by
    intro f listed a w hs hall hq
    have hmem : ∀ i, i ∈ Region.ready .any (ops.push o) (listed.push false) → i = ops.size := by
      intro i hi
      obtain ⟨h1, oi, h2, _⟩ := mem_ready.1 hi
      by_cases e : i = ops.size
      · exact e
      · rw [push_get, if_neg e] at h2
        have hlt := (Array.getElem?_eq_some_iff.1 h2).1
        rw [getD_push (by omega), getD_tf (by omega), hall i hlt] at h1; cases h1
    have hin : ops.size ∈ Region.ready .any (ops.push o) (listed.push false) := by
      refine mem_ready.2 ⟨by rw [Array.getD_eq_getD_getElem?, Array.getElem?_push, if_pos hs.symm]; rfl, o, by rw [push_get, if_pos rfl], fun e he hb => ?_⟩
      have hlt := (lastOk_e1 hl (j := ops.size) (oj := o) (by rw [push_get, if_pos rfl])).2 e.on (edges_iff.2 ⟨e, he, hb, rfl⟩)
      rw [getD_push (by omega)]; exact hall e.on hlt
    refine ⟨fun hr => (by rw [hr] at hin; cases hin), fun i hi => ?_⟩
    obtain rfl := hmem i hi
    have hnone : Region.ready .any (ops.push o) ((listed.push false).setIfInBounds ops.size true) = [] := by
      cases hr : Region.ready .any (ops.push o) ((listed.push false).setIfInBounds ops.size true) with
      | nil => rfl
      | cons k ks =>
        exfalso
        have hk : k ∈ Region.ready .any (ops.push o) ((listed.push false).setIfInBounds ops.size true) := by rw [hr]; exact List.mem_cons_self ..
        obtain ⟨h1, ok, h2, _⟩ := mem_ready.1 hk
        by_cases e : k = ops.size
        · subst e
          simp [Array.getD_eq_getD_getElem?, Array.getElem?_setIfInBounds, hs] at h1
        · rw [push_get, if_neg e] at h2
          have hlt := (Array.getElem?_eq_some_iff.1 h2).1
          have : ((listed.push false).setIfInBounds ops.size true).getD k true = listed.getD k true := by
            simp only [Array.getD_eq_getD_getElem?, Array.getElem?_setIfInBounds, Array.getElem?_push]
            rw [if_neg (fun e' => e e'.symm), if_neg (by omega)]
          rw [this, getD_tf (by omega), hall k hlt] at h1; cases h1
    have up : ∀ a w, Q .normal a w → wpAny P .any (ops.push o) Q f ((listed.push false).setIfInBounds ops.size true) a w := by
      intro a w hq
      cases f with
      | zero => exact ⟨hnone, hq⟩
      | succ f => exact ⟨fun _ => hq, fun i hi => (by rw [hnone] at hi; cases hi)⟩
    unfold wpOp at hq ⊢
    rw [push_get, if_pos rfl] at hq ⊢
    simp only [] at hq ⊢
    split at hq
    · rename_i hw
      rw [if_pos hw]
      rcases hq with hq | hq
      · exact .inl (Oper.wp_mono up hq)
      · exact .inr hq
    · rename_i hw
      rw [if_neg hw]; exact up _ _ hq
  intro f
  induction f with
  | zero =>
    intro listed a w hs hc h
    exact fin 0 listed a w hs (all_of_ready hl hs h.1) h.2
  | succ f ih =>
    intro listed a w hs hc h
    cases hr : Region.ready .any ops listed with
    | nil => exact fin (f + 1) listed a w hs (all_of_ready hl hs hr) (h.1 hr)
    | cons i0 is =>
      have hsub : ∀ i, i ∈ Region.ready .any (ops.push o) (listed.push false) → i ∈ Region.ready .any ops listed := by
        intro i hi
        obtain ⟨h1, oi, h2, h3⟩ := mem_ready.1 hi
        have edge : ∀ k ∈ edgesOf oi, listed.getD k false = true := by
          intro k hk
          obtain ⟨e, he, hb, rfl⟩ := edges_iff.1 hk
          have hlt := (lastOk_e1 hl h2).2 e.on hk
          have hi' : i < (ops.push o).size := (Array.getElem?_eq_some_iff.1 h2).1
          have h4 := h3 e he hb
          have hsz : (ops.push o).size = ops.size + 1 := by simp
          rwa [getD_push (by omega)] at h4
        by_cases e : i = ops.size
        · exfalso
          subst e
          rw [push_get, if_pos rfl] at h2
          obtain rfl := Option.some.inj h2
          have hall := all_of_last hl hs hc edge
          have hi0 : i0 ∈ Region.ready .any ops listed := by rw [hr]; exact List.mem_cons_self ..
          obtain ⟨g1, oi0, g2, _⟩ := mem_ready.1 hi0
          have g3 := (Array.getElem?_eq_some_iff.1 g2).1
          rw [getD_tf (by omega), hall (ops.size - i0) i0 (by omega) g3] at g1; cases g1
        · rw [push_get, if_neg e] at h2
          have hlt := (Array.getElem?_eq_some_iff.1 h2).1
          rw [getD_push (by omega)] at h1
          exact mem_ready.2 ⟨h1, oi, h2, fun x hx hb => edge x.on (edges_iff.2 ⟨x, hx, hb, rfl⟩)⟩
      have hback : i0 ∈ Region.ready .any (ops.push o) (listed.push false) := by
        have hi0 : i0 ∈ Region.ready .any ops listed := by rw [hr]; exact List.mem_cons_self ..
        obtain ⟨g1, oi0, g2, g3⟩ := mem_ready.1 hi0
        have g4 := (Array.getElem?_eq_some_iff.1 g2).1
        refine mem_ready.2 ⟨by rw [getD_push (by omega)]; exact g1, oi0, by rw [push_get, if_neg (by omega)]; exact g2, fun x hx hb => ?_⟩
        have hlt := (lastOk_e1 hl (j := i0) (oj := oi0) (by rw [push_get, if_neg (by omega)]; exact g2)).2 x.on (edges_iff.2 ⟨x, hx, hb, rfl⟩)
        rw [getD_push (by omega)]; exact g3 x hx hb
      refine ⟨fun e => (by rw [e] at hback; cases hback), fun i hi => ?_⟩
      have hi' := hsub i hi
      obtain ⟨g1, oi, g2, g3⟩ := mem_ready.1 hi'
      have g4 := (Array.getElem?_eq_some_iff.1 g2).1
      have hop := h.2 i hi'
      have hset : (listed.push false).setIfInBounds i true = (listed.setIfInBounds i true).push false := by
        apply Array.ext_getElem?
        intro k
        simp only [Array.getElem?_setIfInBounds, Array.getElem?_push, Array.size_push, Array.size_setIfInBounds]
        by_cases e1 : i = k
        · subst e1
          have : ¬ i = listed.size := by omega
          have h7 : i < listed.size := by omega
          have h8 : i < listed.size + 1 := by omega
          simp [this, h7, h8]
        · simp [e1]
      rw [hset]
      have hc' : Closed ops (listed.setIfInBounds i true) := by
        intro j oj hj hlj k hk
        have hgd : ∀ m, (listed.setIfInBounds i true).getD m false = if m = i then true else listed.getD m false := by
          intro m
          simp only [Array.getD_eq_getD_getElem?, Array.getElem?_setIfInBounds]
          by_cases e1 : m = i
          · subst e1
            have h7 : m < listed.size := by omega
            simp [h7]
          · rw [if_neg (fun e => e1 e.symm), if_neg e1]
        rw [hgd] at hlj ⊢
        split
        · rfl
        · by_cases e1 : j = i
          · subst e1
            rw [g2] at hj; obtain rfl := Option.some.inj hj
            obtain ⟨x, hx, hb, rfl⟩ := edges_iff.1 hk
            exact g3 x hx hb
          · rw [if_neg e1] at hlj
            exact hc j oj hj hlj k hk
      have hgu := (lastOk_e1 hl (j := i) (oj := oi) (by rw [push_get, if_neg (by omega)]; exact g2)).1
      unfold wpOp at hop ⊢
      rw [push_get, if_neg (by omega)]
      rw [g2] at hop ⊢
      simp only [] at hop ⊢
      have hw1 : Region.wanted oi (yielded ops a.tmps) = true := by unfold Region.wanted; rw [hgu]
      have hw2 : Region.wanted oi (yielded (ops.push o) a.tmps) = true := by unfold Region.wanted; rw [hgu]
      rw [if_pos hw1] at hop
      rw [if_pos hw2]
      rcases hop with hop | hop
      · exact .inl (Oper.wp_mono (fun a w hk => ih _ a w (by simpa using hs) hc' hk) (wp_other hop))
      · refine .inr ⟨hop.1, ?_⟩
        obtain ⟨a', w', h9⟩ := hop.2
        exact ⟨a', w', h9⟩
end
end
/-- A function's code that defers one 'delete'. -/
inductive C4 where | qs (a : C2) (b : C4) | dfr (a : C2) (ks : Nat) (m k : Src) (b : C2) | bad (w : Nat)
inductive CF4 where | mk (n : Nat) (body : C4) (rs : List Rv)
noncomputable section
abbrev Dl := Nat × V × V
abbrev X4 := X × Option Dl
def FS4 (en : En) (call : Cl) (n : Nat) : C4 → Tr V → H → X4 := C4.rec
  (fun a _ ib t h => X.rec (motive := fun _ => X4) (fun t h => ib t h) (fun i t h => (X.ex i t h, none)) (fun t h => (X.rt t h, none)) (fun w => (X.bad w, none)) (FS en call n a t h))
  (fun a ks m k b t h => X.rec (motive := fun _ => X4) (fun t h => (FS en call n b t h, some (ks, src [] t m, src [] t k))) (fun i t h => (X.bad 150, none)) (fun t h => (X.bad 150, none)) (fun w => (X.bad w, none)) (FS en call n a t h))
  (fun w _ _ => (X.bad w, none))
def fin4 (en : En) (rs : List Rv) (t : Tr V) (h : H) (d : Option Dl) : R1 := ocase d (fin rs t h) (fun d => R1.rec (motive := fun _ => R1) R1.bad (fun _ h => fin rs t h) (del d.1 en.path h d.2.1 d.2.2))
def run4 : CF4 → En → Cl → List V → H → R1 := CF4.rec (fun n body rs en call as h => bcase (Nat.ble (len as) n) (R1.bad 85)
  ((fun x => X.rec (motive := fun _ => R1) (fun t h => fin4 en rs t h x.2) (fun _ _ _ => R1.bad 84) (fun t h => fin4 en rs t h x.2) R1.bad x.1) (FS4 en call 1000000 body (init' as BP.one en.gt) h)))
/-- a region whose last operation defers a 'delete': the map, the key, the map's type -/
def delOp (o : Oper) : Option (Operand × Operand × Array TypeId) := match o.dst, o.op with
  | none, .defer c => (match c.callee, c.args.toList with | .builtin .delete, [m, k] => some (m, k, c.argTypes) | _, _ => none)
  | _, _ => none
def delOf (ops : List Oper) : Option (Operand × Operand × Array TypeId) := match ops.getLast? with
  | some o => delOp o
  | none => none
def useC4 : Code → Tr Unit → Tr Unit
  | .seq (.region id ops d) b, C => (match delOf ops.toList with | some (m, k, _) => useO [] m (useO [] k (useC b (useC (.region id ops d) C))) | none => useC4 b (useC (.region id ops d) C))
  | .seq a b, C => useC4 b (useC a C)
  | c, C => useC c C
def ksOf (tt : TT) (ts : Array TypeId) : Option Nat := match ts[0]? with
  | some t => (match und tt t with | some (.map kt _) => keyOk tt kt | _ => none)
  | none => none
def trC4 (tt : TT) (nt : Nat) (C : Tr Unit) : Code → C4
  | .seq a b => match a with
    | .region id ops true => (match delOf ops.toList with
      | some (m, k, ts) => (match ksOf tt ts, trSrc [] m, trSrc [] k with
        | some ks, some sm, some sk => bif lastOk ops.toList then .dfr (trC tt nt C (.region id ops.pop true)) ks sm sk (trC tt nt C b) else .bad 151
        | _, _, _ => .bad 152)
      | none => .qs (trC tt nt C (.region id ops true)) (trC4 tt nt C b))
    | a => .qs (trC tt nt C a) (trC4 tt nt C b)
  | _ => .bad 153
def trF4 (tt : TT) (fn : Func) : Option CF4 := match fn.body, trRvs tt fn.results.toList with
  | some c, some rs => bif Nat.ble fn.ntmps 100000 && Nat.ble (fn.params.size + fn.nfree) 1000 && !(fn.name == "runtime.NumGoroutine") then some (.mk (fn.params.size + fn.nfree) (trC4 tt fn.ntmps (slots (fn.params.size + fn.nfree) (useR fn.results.toList (useC4 c .lf))) c) rs) else none
  | _, _ => none
end
variable {Df : List Deferred}
variable {P : Program} {tt : TT} {ν : Nat → Int} {ρ : Pl} {a : Act} {en : En} {w : World} {o : Oper} {v : V} {t : Tr V} {nt : Nat} {ops : Array Oper} {call : Cl} {h0 : H} {C : Tr Unit} {W : Bas} {rn : Rn} {n : Nat} {h : H}
/-- What has been deferred. -/
def DefR (tt : TT) (ν : Nat → Int) (ρ : Pl) (x : Option Dl) (ds : List Deferred) : Prop := match x with
  | none => ds = []
  | some (ks, m, k) => ∃ ts t kt et ty cn um uk, ds = [{ target := .builtin .delete ts ty cn, args := #[um, uk] }] ∧ ts[0]? = some t ∧ und tt t = some (.map kt et) ∧ keyOk tt kt = some ks ∧ VR ν ρ m um ∧ VR ν ρ k uk
def Post4 (tt : TT) (ν : Nat → Int) (W : Bas) (C : Tr Unit) (nt : Nat) (h : H) (ρ : Pl) (X0 : X4) (e : Exit) (a : Act) (w : World) : Prop := ∃ ds ρ0, ρ.le ρ0 ∧ DefR tt ν ρ0 X0.2 ds ∧ ∃ h1, Ext h ρ h1 ρ0 ∧ Post ds ν W C nt h1 ρ0 X0.1 e a w
theorem delOf_some {ops : Array Oper} {m k : Operand} {ts : Array TypeId} (hd : delOf ops.toList = some (m, k, ts)) : ∃ o : Oper, ops = ops.pop.push o ∧ o.op = .defer { callee := .builtin .delete, args := #[m, k], argTypes := ts } ∧ o.dst = none := by
  unfold delOf at hd
  split at hd
  · rename_i o hlast
    unfold delOp at hd
    split at hd
    · rename_i c hdst hop
      split at hd
      · rename_i m' k' hce hargs
        obtain ⟨rfl, rfl, rfl⟩ : m' = m ∧ k' = k ∧ c.argTypes = ts := by simpa using hd
        obtain ⟨ce, args, ats⟩ := c
        simp only at hce hargs
        subst hce
        have hargs' : args = #[m', k'] := by cases args; simp_all
        subst hargs'
        refine ⟨o, ?_, hop, hdst⟩
        obtain ⟨l, h1⟩ := List.getLast?_eq_some_iff.1 hlast
        apply Array.ext'
        rw [Array.toList_push, Array.toList_pop, h1, List.dropLast_concat]
      · cases hd
    · cases hd
  · cases hd
theorem fs4_sound (hT : TTok P tt) (he : EnOk ν en) (hmo : P.follows .mixedOrders = true) (hcall : CallOk P ν W call) (hm : MtsOk P en.mts) (hnt : nt ≤ 100000) : ∀ (c : Code) (t : Tr V) (h : H) (X0 : X4) (ρ : Pl) (a : Act) (w : World),
    FS4 en call n (trC4 tt nt C c) t h = X0 → (∀ n, X0.1 ≠ .bad n) → Rel ν W ρ h w → FrC [] ν C ρ nt t a → c.wp P (Post4 tt ν W C nt h ρ X0) a w := by
  have base : ∀ (x : Code) (y : Code) (t : Tr V) (h : H) (X0 : X4) (ρ : Pl) (a : Act) (w : World), (∀ (t : Tr V) (h : H) (X0 : X4) (ρ : Pl) (a : Act) (w : World), FS4 en call n (trC4 tt nt C y) t h = X0 → (∀ n, X0.1 ≠ .bad n) → Rel ν W ρ h w → FrC [] ν C ρ nt t a → y.wp P (Post4 tt ν W C nt h ρ X0) a w) →
      FS4 en call n (.qs (trC tt nt C x) (trC4 tt nt C y)) t h = X0 → (∀ n, X0.1 ≠ .bad n) → Rel ν W ρ h w → FrC [] ν C ρ nt t a → (Code.seq x y).wp P (Post4 tt ν W C nt h ρ X0) a w := by
    intro x y t h X0 ρ a w ihy hX hb R F
    refine wp_seq ?_
    have hX' : X.rec (motive := fun _ => X4) (fun t h => FS4 en call n (trC4 tt nt C y) t h) (fun i t h => (X.ex i t h, none)) (fun t h => (X.rt t h, none)) (fun w => (X.bad w, none)) (FS en call n (trC tt nt C x) t h) = X0 := hX
    cases hx : FS en call n (trC tt nt C x) t h with
    | bad n => rw [hx] at hX'; exact absurd (by rw [← hX']) (hb n)
    | nm t1 h1 =>
      rw [hx] at hX'
      refine wp_mono (fs_sound hT he hmo hcall hm hnt x t h _ ρ a w hx (by simp) R F) (fun e a1 w1 hp => ?_)
      cases e <;> first | exact hp.elim | skip
      obtain ⟨ρ1, R1, E1, F1⟩ := hp
      refine wp_mono (ihy t1 h1 X0 ρ1 a1 w1 hX' hb R1 F1) (fun e a w hp => ?_)
      obtain ⟨ds, ρ0, h1', h2, h3, h4, h5⟩ := hp
      exact ⟨ds, ρ0, Pl.le_trans E1.le h1', h2, h3, E1.trans h4, h5⟩
    | ex i t1 h1 =>
      rw [hx] at hX'
      refine wp_mono (fs_sound hT he hmo hcall hm hnt x t h _ ρ a w hx (by simp) R F) (fun e a1 w1 hp => ?_)
      cases e <;> first | exact hp.elim | skip
      rw [← hX']
      exact ⟨[], ρ, Pl.le_refl ρ, rfl, h, Ext.refl _ _, hp⟩
    | rt t1 h1 =>
      rw [hx] at hX'
      refine wp_mono (fs_sound hT he hmo hcall hm hnt x t h _ ρ a w hx (by simp) R F) (fun e a1 w1 hp => ?_)
      cases e <;> first | exact hp.elim | skip
      rw [← hX']
      exact ⟨[], ρ, Pl.le_refl ρ, rfl, h, Ext.refl _ _, hp⟩
  intro c
  induction c with
  | seq x y ihx ihy =>
    intro t h X0 ρ a w hX hb R F
    by_cases hreg : ∃ id ops m k ts, x = .region id ops true ∧ delOf ops.toList = some (m, k, ts)
    · obtain ⟨id, ops, m, k, ts, rfl, hd⟩ := hreg
      simp only [trC4, hd] at hX
      split at hX
      · rename_i ks sm sk hks hsm hsk
        cases hl : lastOk ops.toList with
        | false => rw [hl] at hX; exact absurd (by rw [← hX]; rfl) (hb 151)
        | true =>
          rw [hl] at hX
          obtain ⟨o, hops, hop, hdst⟩ := delOf_some hd
          have hX' : X.rec (motive := fun _ => X4) (fun t h => (FS en call n (trC tt nt C y) t h, some (ks, src [] t sm, src [] t sk))) (fun i t h => (X.bad 150, none)) (fun t h => (X.bad 150, none)) (fun w => (X.bad w, none)) (FS en call n (trC tt nt C (.region id ops.pop true)) t h) = X0 := hX
          cases hx : FS en call n (trC tt nt C (.region id ops.pop true)) t h with
          | bad n => rw [hx] at hX'; exact absurd (by rw [← hX']) (hb n)
          | ex i t1 h1 => rw [hx] at hX'; exact absurd (by rw [← hX']) (hb 150)
          | rt t1 h1 => rw [hx] at hX'; exact absurd (by rw [← hX']) (hb 150)
          | nm t1 h1 =>
            rw [hx] at hX'
            refine wp_seq ?_
            change FS en call n (trReg tt nt C ops.pop.toList true) t h = .nm t1 h1 at hx
            rcases trReg_cases (tt := tt) (nt := nt) (C := C) ops.pop.toList true with htr | ⟨its, cm, htr⟩
            · rw [htr] at hx; cases (show X.bad 132 = X.nm t1 h1 from hx)
            rw [htr] at hx
            obtain ⟨l, h2, g1, g2⟩ := rr_ne (show rr (runIts en call t its [] h) X.bad (fun r h => X.nm (commit r cm t) h) = X.nm t1 h1 from hx) (fun n e => by cases e)
            injection g2 with g2 g3
            subst g3
            rw [hops]
            have hl' : lastOk (ops.pop.push o).toList = true := by rw [← hops]; exact hl
            refine wp_region_any hmo ?_
            have key := region_wps (draw := true) (ops := ops.pop) (Q := QLast P (ops.pop.push o) (Exit.then (fun a w => y.wp P (Post4 tt ν W C nt h ρ X0) a w) (Post4 tt ν W C nt h ρ X0)) ops.pop.size) hT he hcall hm hnt htr g1 R F (fun ρ' a' w' R' E' F' => ?_)
            · have := any_last hl' _ (Array.replicate ops.pop.size false) a _ (by simp) (fun j oj _ hj => by rw [getD_false] at hj; cases hj) key
              have e1 : (Array.replicate ops.pop.size false).push false = Array.replicate (ops.pop.push o).size false := by rw [Array.size_push, Array.replicate_succ]
              rw [e1, show ops.pop.size + 1 = (ops.pop.push o).size by simp] at this
              exact this
            · show wpOp P (ops.pop.push o) _ ops.pop.size _ a' w'
              unfold wpOp
              rw [push_get, if_pos rfl]
              simp only []
              have hgu := (lastOk_e1 hl' (j := ops.pop.size) (oj := o) (by rw [push_get, if_pos rfl])).1
              rw [if_pos (by unfold Region.wanted; rw [hgu])]
              refine .inl ?_
              unfold Oper.wp
              obtain ⟨cn, hrun⟩ : ∃ cn, (execOp a'.eval o).run P w' = .ok (.defer { target := .builtin .delete ts o.type cn, args := #[a'.eval m, a'.eval k] }) w' := by
                refine ⟨(#[m, k].map fun | .const _ => true | _ => false), ?_⟩
                simp only [execOp, hop, resolve, Sem.run_bind, Sem.run_pure, Result.andThen_ok]
                simp
                exact ⟨by cases m <;> rfl, by cases k <;> rfl⟩
              rw [hrun]
              rw [g2] at F'
              have hvm := Cur.val F'.toFrR hsm
              have hvk := Cur.val F'.toFrR hsk
              unfold ksOf at hks
              split at hks
              · rename_i t0 ht0
                split at hks
                · rename_i kt et ht
                  show (({ a' with defers := _ :: a'.defers } : Act).put o.dst undef) |> fun a2 => y.wp P (Post4 tt ν W C nt h ρ X0) a2 w'
                  rw [hdst]
                  show y.wp P (Post4 tt ν W C nt h ρ X0) { a' with defers := _ :: a'.defers } w'
                  have F2 : FrC [{ target := .builtin .delete ts o.type cn, args := #[a'.eval m, a'.eval k] }] ν C ρ' nt t1 { a' with defers := { target := .builtin .delete ts o.type cn, args := #[a'.eval m, a'.eval k] } :: a'.defers } := ⟨⟨F'.slot, F'.glob, by rw [F'.defers], F'.size⟩, F'.ins⟩
                  refine wp_mono (fs_sound hT he hmo hcall hm hnt y t1 h2 _ ρ' _ w' rfl (fun n e => hb n (by rw [← hX']; exact e)) R' F2) (fun e a3 w3 hp => ?_)
                  rw [← hX']
                  exact ⟨_, ρ', E'.le, ⟨ts, t0, kt, et, o.type, _, _, _, rfl, ht0, ht, hks, hvm, hvk⟩, h2, E', hp⟩
                · cases hks
              · cases hks
      · exact absurd (by rw [← hX]; rfl) (hb 152)
    · have htr : trC4 tt nt C (.seq x y) = .qs (trC tt nt C x) (trC4 tt nt C y) := by
        cases x <;> try rfl
        rename_i id ops d
        cases d with
        | false => rfl
        | true =>
          cases hd : delOf ops.toList with
          | none => simp only [trC4, hd]
          | some z => exact absurd ⟨id, ops, z.1, z.2.1, z.2.2, rfl, hd⟩ hreg
      rw [htr] at hX
      exact base x y t h X0 ρ a w ihy hX hb R F
  | _ => intro t h X0 ρ a w hX hb R F; exact absurd (by rw [← hX]; rfl) (hb 153)
theorem trF4_some {fn : Func} {cf : CF4} (h : trF4 tt fn = some cf) : ∃ c rs, fn.body = some c ∧ trRvs tt fn.results.toList = some rs ∧ fn.ntmps ≤ 100000 ∧ fn.params.size + fn.nfree ≤ 1000 ∧ (fn.name == "runtime.NumGoroutine") = false ∧
    cf = .mk (fn.params.size + fn.nfree) (trC4 tt fn.ntmps (slots (fn.params.size + fn.nfree) (useR fn.results.toList (useC4 c .lf))) c) rs := by
  unfold trF4 at h
  split at h
  · rename_i c rs e1 e2
    cases hb : (Nat.ble fn.ntmps 100000 && Nat.ble (fn.params.size + fn.nfree) 1000 && !(fn.name == "runtime.NumGoroutine")) with
    | false => rw [hb] at h; cases h
    | true =>
      rw [hb] at h
      simp only [Bool.and_eq_true, Bool.not_eq_true'] at hb
      exact ⟨c, rs, e1, e2, Nat.le_of_ble_eq_true hb.1.1, Nat.le_of_ble_eq_true hb.1.2, hb.2, (Option.some.inj h).symm⟩
  · cases h
/-- A function that defers one 'delete'. -/
theorem func4_run (hT : TTok P tt) (he : EnOk ν en) (hmo : P.follows .mixedOrders = true) (hcall : CallOk P ν W call) (hm : MtsOk P en.mts) (hgt : GtOk ν W en.gt)
    {g : Nat} {as : List V} {h h' : H} {v : V} {fn : Func} {cf : CF4} (hf : P.funcs[g]? = some fn) (htf : trF4 tt fn = some cf) (hv2 : run4 cf en call as h = .ok v h') : Call1 P ν W g as h v h' := by
  obtain ⟨c, rs, hb, hrs, hnt, hn, hname, rfl⟩ := trF4_some htf
  obtain ⟨hlen, hv3⟩ := bcase_ne (show bcase (Nat.ble (len as) (fn.params.size + fn.nfree)) (R1.bad 85) ((fun x => X.rec (motive := fun _ => R1) (fun t h => fin4 en rs t h x.2) (fun _ _ _ => R1.bad 84) (fun t h => fin4 en rs t h x.2) R1.bad x.1) (FS4 en call 1000000 (trC4 tt fn.ntmps (slots (fn.params.size + fn.nfree) (useR fn.results.toList (useC4 c .lf))) c) (init' as BP.one en.gt) h)) = R1.ok v h' from hv2) (by simp)
  have hlen := Nat.le_of_ble_eq_true hlen
  rw [len_eq] at hlen
  refine ⟨fun args w => ?_, fun ρ args w R hargs => ?_⟩
  · have hne : fn.name ≠ "runtime.NumGoroutine" := by simpa using hname
    simp [callFunc, hf, hb, hne]
  · have hal := hargs.length
    have hget : ∀ n, n < 100000 → get (bpOf n) (init' as BP.one en.gt) = if n < as.length then as[n]? else none := fun n hn' => by
      rw [show BP.one = bpOf 0 from rfl, init_get n as 0 en.gt (by omega)]
      by_cases e : n < as.length
      · rw [if_pos (by omega), if_pos e]; simp
      · rw [if_neg (by omega), if_neg e]; exact hgt.low n hn'
    have F : FrC [] ν (slots (fn.params.size + fn.nfree) (useR fn.results.toList (useC4 c .lf))) ρ fn.ntmps (init' as BP.one en.gt) { tmps := args.toArray ++ Array.replicate (fn.ntmps - args.toArray.size) undef, defers := [] } := by
      refine ⟨⟨fun n hn' v hv => ?_, fun g v hv => ?_, rfl, by simp; omega⟩, fun n v hn' hv => ?_⟩
      · rw [hget n hn'] at hv
        split at hv
        · obtain ⟨u, hu, hvr⟩ := hargs.get hv
          have hlt : n < args.length := by omega
          have : (args.toArray ++ Array.replicate (fn.ntmps - args.toArray.size) undef).getD n undef = u := by
            rw [Array.getD_eq_getD_getElem?, Array.getElem?_append_left (by simpa using hlt)]
            simp [hu]
          rw [this]; exact hvr
        · cases hv
      · rw [show BP.one = bpOf 0 from rfl, init_get (100000 + g) as 0 en.gt (by omega), if_neg (by omega)] at hv
        exact VR.mono ν R.base _ _ (hgt.glob g v hv)
      · rw [hget n hn'] at hv
        split at hv
        · exact ⟨(), slots_get _ n _ (by omega) hn⟩
        · cases hv
    refine calls_of_wp_del hf hb ?_
    generalize hx : FS4 en call 1000000 (trC4 tt fn.ntmps (slots (fn.params.size + fn.nfree) (useR fn.results.toList (useC4 c .lf))) c) (init' as BP.one en.gt) h = X0 at hv3
    have hv3 : X.rec (motive := fun _ => R1) (fun t h => fin4 en rs t h X0.2) (fun _ _ _ => R1.bad 84) (fun t h => fin4 en rs t h X0.2) R1.bad X0.1 = R1.ok v h' := hv3
    have key : ∀ t1 h1 ρ0 e a1 w1 ds, fin4 en rs t1 h1 X0.2 = .ok v h' → (e = Exit.normal ∨ e = Exit.ret) → ρ.le ρ0 → DefR tt ν ρ0 X0.2 ds → (∃ ρ1, Rel ν W ρ1 h1 w1 ∧ Ext h ρ h1 ρ1 ∧ ρ0.le ρ1 ∧ FrC ds ν (slots (fn.params.size + fn.nfree) (useR fn.results.toList (useC4 c .lf))) ρ1 fn.ntmps t1 a1) →
        DelPost P fn (fun u w' => After ν W h ρ h' v u w') e a1 w1 := by
      rintro t1 h1 ρ0 e a1 w1 ds hfin hee hle hD ⟨ρ1, R1', E1, E0, F1⟩
      refine ⟨hee, ?_⟩
      cases hd : X0.2 with
      | none =>
        rw [hd] at hfin hD
        obtain rfl : ds = [] := hD
        obtain ⟨rfl, u, hres, hvr⟩ := fin_sound hT hrs R1' F1.toFrR hfin
        exact .inl ⟨F1.defers, u, hres, ρ1, R1', hvr, E1⟩
      | some z =>
        obtain ⟨ks, vm, vk⟩ := z
        rw [hd] at hfin hD
        obtain ⟨ts, t0, kt, et, ty, cn, um, uk, rfl, ht0, ht, hks, hvm, hvk⟩ := hD
        cases hdel : del ks en.path h1 vm vk with
        | bad n => have : R1.rec (motive := fun _ => R1) R1.bad (fun _ h => fin rs t1 h) (del ks en.path h1 vm vk) = R1.ok v h' := hfin
                   rw [hdel] at this; cases this
        | ok z h2 =>
          have hfin : R1.rec (motive := fun _ => R1) R1.bad (fun _ h => fin rs t1 h) (del ks en.path h1 vm vk) = R1.ok v h' := hfin
          rw [hdel] at hfin
          obtain ⟨-, w2, hrun, R2, E2⟩ := del_run R1' he hT ht0 ht hks (VR.mono ν E0 _ _ hvm) (VR.mono ν E0 _ _ hvk) hdel (ty := ty)
          obtain ⟨rfl, u, hres, hvr⟩ := fin_sound hT hrs R2 F1.toFrR hfin
          refine .inr ⟨_, .delete, ts, ty, cn, .tuple #[], w2, F1.defers, rfl, ?_, u, hres, ρ1, R2, hvr, E1.trans E2⟩
          simp [invoke, builtin, Sem.run_bind, hrun]
    refine wp_mono (fs4_sound hT he hmo hcall hm hnt c _ h X0 ρ _ w hx (fun n e => by rw [e] at hv3; cases hv3) R F) (fun e a1 w1 hp => ?_)
    obtain ⟨ds, ρ0, hle, hD, h0, E0, hp⟩ := hp
    cases hX : X0.1 with
    | bad n => rw [hX] at hv3; cases hv3
    | ex i t1 h1 => rw [hX] at hv3; cases hv3
    | nm t1 h1 =>
      rw [hX] at hv3 hp
      cases e <;> first | exact hp.elim | skip
      obtain ⟨ρ1, R1', E1, F1⟩ := hp
      exact key t1 h1 ρ0 _ a1 w1 ds hv3 (.inl rfl) hle hD ⟨ρ1, R1', E0.trans E1, E1.le, F1⟩
    | rt t1 h1 =>
      rw [hX] at hv3 hp
      cases e <;> first | exact hp.elim | skip
      obtain ⟨ρ1, R1', E1, F1⟩ := hp
      exact key t1 h1 ρ0 _ a1 w1 ds hv3 (.inr rfl) hle hD ⟨ρ1, R1', E0.trans E1, E1.le, F1⟩
end Ev
end Go.Proofs.YtoinghomkcjkcaaGreatDoor
/- Functions of all three kinds: plain ones, those that range over slices.Backward, those that defer a 'delete'. -/
namespace Go.Proofs.YtoinghomkcjkcaaGreatDoor
set_option linter.unusedSimpArgs false
set_option linter.unusedVariables false
set_option linter.constructorNameAsVariable false
open Go Go.RowKit
namespace Ev
noncomputable section
/-- The functions' codes: plain, ranging, deferring; and who is slices.Backward's iterator. -/
structure Fns where
  f3 : Tr CF3
  f4 : Tr CF4
  bk : Nat
def gcall1 (fs : Fns) (en : En) (call : Cl) (g : Nat) (as : List V) (h : H) : R1 := ovOr (en.ov g as h) (ocase (get (bpOf g) fs.f3) (ocase (get (bpOf g) fs.f4)
  (ocase (get (bpOf g) en.fns) (R1.bad (1000 + g)) (fun cf => runFF (ffOf cf) en call as h)) (fun cf => run4 cf en call as h)) (fun cf => run3 cf en call fs.bk as h))
def gcall (fs : Fns) (en : En) : Nat → Cl := Nat.rec (fun _ _ _ => R1.bad 88) (fun _ ih => gcall1 fs en ih)
def fnTa {α : Type} (l : List (Nat × α)) : Tr α := List.rec (motive := fun _ => Tr α) .lf (fun p _ ih => set (bpOf p.1) (some p.2) ih) l
end
variable {P : Program} {tt : TT} {ν : Nat → Int} {W : Bas} {en : En} {fs : Fns}
/-- Each is what its function is translated to. -/
def FnsOk {α : Type} (P : Program) (tr : Func → Option α) (t : Tr α) : Prop := ∀ g cf, get (bpOf g) t = some cf → ∃ fn, P.funcs[g]? = some fn ∧ tr fn = some cf
theorem gcall1_ok (hT : TTok P tt) (he : EnOk ν en) (hmo : P.follows .mixedOrders = true) (hm : MtsOk P en.mts) (hfn : FnsOk P (trF tt) en.fns) (h3 : FnsOk P (trF3 tt) fs.f3) (h4 : FnsOk P (trF4 tt) fs.f4) (hB : BackIt P fs.bk) (hgt : GtOk ν W en.gt) (hov : OvOk P ν W en) {call : Cl} (hcall : CallOk P ν W call) : CallOk P ν W (gcall1 fs en call) := by
  intro g as h v h' hv
  have hv' : ocase (en.ov g as h) (ocase (get (bpOf g) fs.f3) (ocase (get (bpOf g) fs.f4)
    (ocase (get (bpOf g) en.fns) (R1.bad (1000 + g)) (fun cf => runFF (ffOf cf) en call as h)) (fun cf => run4 cf en call as h)) (fun cf => run3 cf en call fs.bk as h)) (fun r => r) = R1.ok v h' := hv
  cases ho : en.ov g as h with
  | some r =>
    rw [ho] at hv'
    exact hov g as h v h' (by rw [ho]; exact congrArg some hv')
  | none =>
    rw [ho] at hv'
    have hv1 : ocase (get (bpOf g) fs.f3) (ocase (get (bpOf g) fs.f4) (ocase (get (bpOf g) en.fns) (R1.bad (1000 + g)) (fun cf => runFF (ffOf cf) en call as h)) (fun cf => run4 cf en call as h)) (fun cf => run3 cf en call fs.bk as h) = R1.ok v h' := hv'
    cases e1 : get (bpOf g) fs.f3 with
    | some cf =>
      rw [e1] at hv1
      obtain ⟨fn, hf, htf⟩ := h3 g cf e1
      exact func3_run hT he hmo hcall hm hB hgt hf htf hv1
    | none =>
      rw [e1] at hv1
      have hv2 : ocase (get (bpOf g) fs.f4) (ocase (get (bpOf g) en.fns) (R1.bad (1000 + g)) (fun cf => runFF (ffOf cf) en call as h)) (fun cf => run4 cf en call as h) = R1.ok v h' := hv1
      cases e2 : get (bpOf g) fs.f4 with
      | some cf =>
        rw [e2] at hv2
        obtain ⟨fn, hf, htf⟩ := h4 g cf e2
        exact func4_run hT he hmo hcall hm hgt hf htf hv2
      | none =>
        rw [e2] at hv2
        obtain ⟨cf, e3, hv3⟩ := ocase_ne (show ocase (get (bpOf g) en.fns) (R1.bad (1000 + g)) (fun cf => runFF (ffOf cf) en call as h) = R1.ok v h' from hv2) (by simp)
        obtain ⟨fn, hf, htf⟩ := hfn g cf e3
        exact func_run hT hgt (run_fs hT he hmo hm hcall) hf htf (runFF_le cf en call as h v h' hv3)
theorem gcall_ok (hT : TTok P tt) (he : EnOk ν en) (hmo : P.follows .mixedOrders = true) (hm : MtsOk P en.mts) (hfn : FnsOk P (trF tt) en.fns) (h3 : FnsOk P (trF3 tt) fs.f3) (h4 : FnsOk P (trF4 tt) fs.f4) (hB : BackIt P fs.bk) (hgt : GtOk ν W en.gt) (hov : OvOk P ν W en) : ∀ d, CallOk P ν W (gcall fs en d)
  | 0 => fun _ _ _ _ _ hv => by cases hv
  | d + 1 => gcall1_ok hT he hmo hm hfn h3 h4 hB hgt hov (gcall_ok hT he hmo hm hfn h3 h4 hB hgt hov d)
theorem fnTa_get {α : Type} : ∀ (l : List (Nat × α)) {x : BP} {cf : α}, get x (fnTa l) = some cf → ∃ p ∈ l, x = bpOf p.1 ∧ cf = p.2
  | [], x, cf, h => by rw [show fnTa [] = Tr.lf (α := α) from rfl, get_lf] at h; cases h
  | p :: l, x, cf, h => by
    rw [show fnTa (p :: l) = Ev.set (bpOf p.1) (some p.2) (fnTa l) from rfl, get_set] at h
    split at h
    · rename_i e; exact ⟨p, List.mem_cons_self .., e, (Option.some.inj h).symm⟩
    · obtain ⟨q, h1, h2⟩ := fnTa_get l h; exact ⟨q, List.mem_cons_of_mem _ h1, h2⟩
theorem fnTa_ok {α : Type} {tr : Func → Option α} {l : List (Nat × α)} (h : ∀ p ∈ l, p.1 < 100000 ∧ ∃ fn, P.funcs[p.1]? = some fn ∧ tr fn = some p.2) : FnsOk P tr (fnTa l) := by
  intro g cf hg
  obtain ⟨p, hp, h1, rfl⟩ := fnTa_get l hg
  obtain ⟨hlt, fn, h2, h3⟩ := h p hp
  have hgp : g = p.1 := by
    by_cases hb : g < 1000000
    · exact bpOf_inj (by omega) (by omega) h1
    · have e := congrArg bpN h1
      rw [bpN_of (n := p.1) (by omega)] at e
      have := bpOf_big g
      omega
  subst hgp
  exact ⟨fn, h2, h3⟩
/-- the environment out of its parts -/
noncomputable def enT (path : List (Cd × Bool)) (norm : List (Z × Z)) (fns : Tr CF) (ov : Nat → List V → H → Option R1) (mts : Nat → String → Option Nat) (gl : List Nat) : En := ⟨path, norm, fns, ov, mts, gl.foldr (fun g t => set (bpOf (100000 + g)) (some (.p (bpOf g) 0)) t) .lf⟩
/-- **The evaluator tells the truth**, by functions of all three kinds. -/
theorem evalg_calls {w : World} (hsz : (Nat.ble P.types.size 100000 && Nat.ble P.funcs.size 100000) = true) (hfo : flatOk P = true) (hmo : P.follows .mixedOrders = true) {path : List (Cd × Bool)} {norm : List (Z × Z)} (hp : PathOk ν path) (hn : NormOk ν norm) {l : List (Nat × List V)} {ov : Nat → List V → H → Option R1} {fns : Tr CF} {mts : Nat → String → Option Nat}
    (hfn : FnsOk P (trF (ttOf P)) fns) (h3 : FnsOk P (trF3 (ttOf P)) fs.f3) (h4 : FnsOk P (trF4 (ttOf P)) fs.f4) (hB : BackIt P fs.bk) (hm : MtsOk P mts) (hl : ∀ p ∈ l, p.1 < 1000 ∧ Listed ν (pl0 w (l.map (·.1))) w p) (hov : OvOk P ν (Bas.of w (pl0 w (l.map (·.1)))) (enT path norm fns ov mts (l.map (·.1)))) {d g : Nat} {as : List V} {v : V} {h' : H} (hv : gcall fs (enT path norm fns ov mts (l.map (·.1))) d g as (H0 l) = .ok v h') {args : List Value} (ha : VRs ν (pl0 w (l.map (·.1))) as args) :
    Calls P g args.toArray w (fun e w' => ∃ u, e = .returned u ∧ ∃ ρ', Rel ν (Bas.of w (pl0 w (l.map (·.1)))) ρ' h' w' ∧ VR ν ρ' v u) := by
  simp only [Bool.and_eq_true] at hsz
  have h1 := Nat.le_of_ble_eq_true hsz.1
  have h2 := Nat.le_of_ble_eq_true hsz.2
  have hlt : ∀ g ∈ l.map (·.1), g < 1000 := fun g hg => by obtain ⟨p, k1, rfl⟩ := List.mem_map.1 hg; exact (hl p k1).1
  have hT : TTok P (ttOf P) := ttOf_ok (by omega) hfo
  have := gcall_ok (P := P) (tt := ttOf P) (ν := ν) (fs := fs) (en := enT path norm fns ov mts (l.map (fun x : Nat × List V => x.1))) (W := (Bas.of w (pl0 w (l.map (fun x : Nat × List V => x.1))))) hT ⟨hp, hn⟩ hmo hm hfn h3 h4 hB (gt_ok (P := P) (path := path) (norm := norm) (ov := ov) hlt) hov d g as (H0 l) v h' hv
  refine Calls.mono (this.2 _ args w (rel_start hl) ha) (fun e w' he => ?_)
  obtain ⟨u, hu, ρ', hR, hvr, _⟩ := he
  exact ⟨u, hu, ρ', hR, hvr⟩
theorem noOvT_ok {W : Bas} {path : List (Cd × Bool)} {norm : List (Z × Z)} {fns : Tr CF} {mts : Nat → String → Option Nat} {gl : List Nat} : OvOk P ν W (enT path norm fns noOv mts gl) := fun _ _ _ _ _ e => by cases e
/-- It answers true. -/
theorem evalg_true {w : World} (hsz : (Nat.ble P.types.size 100000 && Nat.ble P.funcs.size 100000) = true) (hfo : flatOk P = true) (hmo : P.follows .mixedOrders = true) {path : List (Cd × Bool)} {norm : List (Z × Z)} (hp : PathOk ν path) (hn : NormOk ν norm) {l : List (Nat × List V)} {fns : Tr CF} {mts : Nat → String → Option Nat}
    (hfn : FnsOk P (trF (ttOf P)) fns) (h3 : FnsOk P (trF3 (ttOf P)) fs.f3) (h4 : FnsOk P (trF4 (ttOf P)) fs.f4) (hB : BackIt P fs.bk) (hm : MtsOk P mts) (hl : ∀ p ∈ l, p.1 < 1000 ∧ Listed ν (pl0 w (l.map (·.1))) w p) {d g : Nat} {as : List V} (hv : okv (gcall fs (enT path norm fns noOv mts (l.map (·.1))) d g as (H0 l)) = some (.b true)) {args : List Value} (ha : VRs ν (pl0 w (l.map (·.1))) as args) :
    Calls P g args.toArray w (fun e w' => e = .returned (.bool true) ∧ Below w.heap.size w w') := by
  obtain ⟨h', hv⟩ := okv_some hv
  refine Calls.mono (evalg_calls hsz hfo hmo hp hn hfn h3 h4 hB hm hl noOvT_ok hv ha) (fun e w' he => ?_)
  obtain ⟨u, hu, ρ', hR, hvr⟩ := he
  simp only [VR] at hvr
  exact ⟨by rw [hu, hvr], hR.below⟩
/-- A code, as its function is translated. -/
theorem code_of {α : Type} {tr : Func → Option α} {g : Nat} {c : α} (hg : Nat.blt g 100000 = true) (h : (P.funcs[g]?).bind tr = some c) : ∀ p ∈ [(g, c)], p.1 < 100000 ∧ ∃ fn, P.funcs[p.1]? = some fn ∧ tr fn = some p.2 := by
  intro p hp
  obtain rfl := List.mem_singleton.1 hp
  cases e : P.funcs[g]? with
  | none => rw [e] at h; cases h
  | some fn => exact ⟨blt_iff.1 hg, fn, rfl, by rw [e] at h; exact h⟩
theorem codes_cons {α : Type} {tr : Func → Option α} {g : Nat} {c : α} {l : List (Nat × α)} (hg : Nat.blt g 100000 = true) (h : (P.funcs[g]?).bind tr = some c) (k : ∀ p ∈ l, p.1 < 100000 ∧ ∃ fn, P.funcs[p.1]? = some fn ∧ tr fn = some p.2) : ∀ p ∈ (g, c) :: l, p.1 < 100000 ∧ ∃ fn, P.funcs[p.1]? = some fn ∧ tr fn = some p.2 := by
  intro p hp
  rcases List.mem_cons.1 hp with rfl | hp
  · exact code_of hg h _ (List.mem_singleton.2 rfl)
  · exact k p hp
theorem noMts_ok : MtsOk P (fun _ _ => none) := by
  intro t n f h; cases h
end Ev
end Go.Proofs.YtoinghomkcjkcaaGreatDoor
/- Tables of types with some struck out: structs that may not be compared cell by cell are not met. -/
namespace Go.Proofs.YtoinghomkcjkcaaGreatDoor
set_option linter.unusedSimpArgs false
set_option linter.unusedVariables false
set_option linter.constructorNameAsVariable false
open Go Go.RowKit
namespace Ev
variable {P : Program} {tt : TT} {ν : Nat → Int} {W : Bas} {fs : Fns}
/-- the table without these types -/
noncomputable def ttX (P : Program) (l : List Nat) : TT := l.foldr (fun g t => set (bpOf g) none t) (ttOf P)
noncomputable def flatOkX (P : Program) (l : List Nat) : Bool := (List.range P.types.size).all fun t => !(flatT (ttX P l) t) || (!(P.stoodInHeld t) && !(P.eqGuardType P.depth t))
theorem ttX_le : ∀ (l : List Nat) (t : Nat) (i : TypeInfo), ti (ttX P l) t = some i → ti (ttOf P) t = some i
  | [], t, i, h => h
  | g :: l, t, i, h => by
    have h' : get (bpOf t) (set (bpOf g) none (ttX P l)) = some i := h
    rw [get_set] at h'
    split at h'
    · cases h'
    · exact ttX_le l t i h'
theorem ttX_ok (h : P.types.size < 2 ^ 39) {l : List Nat} (hf : flatOkX P l = true) : TTok P (ttX P l) := by
  refine ⟨fun t i hi => (ttOf_info h t i (ttX_le l t i hi)).2, fun t ht => ?_⟩
  have hlt : t < P.types.size := by
    cases e : ti (ttX P l) t with
    | none => unfold flatT und at ht; rw [e] at ht; cases ht
    | some i => exact (ttOf_info h t i (ttX_le l t i e)).1
  have := List.all_eq_true.1 hf t (List.mem_range.2 hlt)
  simp only [ht, Bool.not_true, Bool.false_or, Bool.and_eq_true, Bool.not_eq_true'] at this
  exact this
noncomputable def enX (P : Program) (tt : TT) (path : List (Cd × Bool)) (norm : List (Z × Z)) (ov : Nat → List V → H → Option R1) (gl : List Nat) : En := enT path norm (fnsOf P tt) ov (mtsOf tt) gl
/-- **The evaluator tells the truth**, by any table that fits. -/
theorem evalx_calls {w : World} (hT : TTok P tt) (hsz : Nat.ble P.funcs.size 100000 = true) (hmo : P.follows .mixedOrders = true) {path : List (Cd × Bool)} {norm : List (Z × Z)} (hp : PathOk ν path) (hn : NormOk ν norm) {l : List (Nat × List V)} {ov : Nat → List V → H → Option R1}
    (hl : ∀ p ∈ l, p.1 < 1000 ∧ Listed ν (pl0 w (l.map (·.1))) w p) (hov : OvOk P ν (Bas.of w (pl0 w (l.map (·.1)))) (enX P tt path norm ov (l.map (·.1)))) {f g : Nat} {as : List V} {v : V} {h' : H} (hv : Ev.call (enX P tt path norm ov (l.map (·.1))) f g as (H0 l) = .ok v h') {args : List Value} (ha : VRs ν (pl0 w (l.map (·.1))) as args) :
    Calls P g args.toArray w (fun e w' => ∃ u, e = .returned u ∧ ∃ ρ', Rel ν (Bas.of w (pl0 w (l.map (·.1)))) ρ' h' w' ∧ VR ν ρ' v u) := by
  have h2 := Nat.le_of_ble_eq_true hsz
  have hlt : ∀ g ∈ l.map (·.1), g < 1000 := fun g hg => by obtain ⟨p, k1, rfl⟩ := List.mem_map.1 hg; exact (hl p k1).1
  have := call_sound (P := P) (tt := tt) (ν := ν) (en := enX P tt path norm ov (l.map (fun x : Nat × List V => x.1))) (W := (Bas.of w (pl0 w (l.map (fun x : Nat × List V => x.1))))) hT ⟨hp, hn⟩ hmo (mtsOf_ok hT) (fun g cf hg => fnsOf_ok (by omega) hg) (gt_ok (P := P) (path := path) (norm := norm) (ov := ov) hlt) hov f g as (H0 l) v h' hv
  refine Calls.mono (this.2 _ args w (rel_start hl) ha) (fun e w' he => ?_)
  obtain ⟨u, hu, ρ', hR, hvr, _⟩ := he
  exact ⟨u, hu, ρ', hR, hvr⟩
/-- .. by functions of all three kinds. -/
theorem evalgx_calls {w : World} (hT : TTok P tt) (hmo : P.follows .mixedOrders = true) {path : List (Cd × Bool)} {norm : List (Z × Z)} (hp : PathOk ν path) (hn : NormOk ν norm) {l : List (Nat × List V)} {ov : Nat → List V → H → Option R1} {fns : Tr CF} {mts : Nat → String → Option Nat}
    (hfn : FnsOk P (trF tt) fns) (h3 : FnsOk P (trF3 tt) fs.f3) (h4 : FnsOk P (trF4 tt) fs.f4) (hB : BackIt P fs.bk) (hm : MtsOk P mts) (hl : ∀ p ∈ l, p.1 < 1000 ∧ Listed ν (pl0 w (l.map (·.1))) w p) (hov : OvOk P ν (Bas.of w (pl0 w (l.map (·.1)))) (enT path norm fns ov mts (l.map (·.1)))) {d g : Nat} {as : List V} {v : V} {h' : H} (hv : gcall fs (enT path norm fns ov mts (l.map (·.1))) d g as (H0 l) = .ok v h') {args : List Value} (ha : VRs ν (pl0 w (l.map (·.1))) as args) :
    Calls P g args.toArray w (fun e w' => ∃ u, e = .returned u ∧ ∃ ρ', Rel ν (Bas.of w (pl0 w (l.map (·.1)))) ρ' h' w' ∧ VR ν ρ' v u) := by
  have hlt : ∀ g ∈ l.map (·.1), g < 1000 := fun g hg => by obtain ⟨p, k1, rfl⟩ := List.mem_map.1 hg; exact (hl p k1).1
  have := gcall_ok (P := P) (tt := tt) (ν := ν) (fs := fs) (en := enT path norm fns ov mts (l.map (fun x : Nat × List V => x.1))) (W := (Bas.of w (pl0 w (l.map (fun x : Nat × List V => x.1))))) hT ⟨hp, hn⟩ hmo hm hfn h3 h4 hB (gt_ok (P := P) (path := path) (norm := norm) (ov := ov) hlt) hov d g as (H0 l) v h' hv
  refine Calls.mono (this.2 _ args w (rel_start hl) ha) (fun e w' he => ?_)
  obtain ⟨u, hu, ρ', hR, hvr, _⟩ := he
  exact ⟨u, hu, ρ', hR, hvr⟩
theorem noOvX_ok {W : Bas} {path : List (Cd × Bool)} {norm : List (Z × Z)} {gl : List Nat} : OvOk P ν W (enX P tt path norm noOv gl) := fun _ _ _ _ _ e => by cases e
end Ev
end Go.Proofs.YtoinghomkcjkcaaGreatDoor
