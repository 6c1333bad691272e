/- A small machine for programs, run by the kernel: its values, its memory, its code. Nothing is claimed here. -/
import Derived.WalkKit
namespace Go.Proofs.Ytlajbngfdbnoiaa
set_option linter.unusedSimpArgs false
set_option linter.unusedVariables false
set_option linter.constructorNameAsVariable false
open Go Go.RowKit

/-- Numbers from one on, in twos. -/
inductive BP where | one | e (p : BP) | o (p : BP)
  deriving DecidableEq
inductive Tr (α : Type) where | lf | nd (l : Tr α) (v : Option α) (r : Tr α)
/-- A number: told, or a named one, or reckoned from such. -/
inductive Z where | lit (n : Int) | var (i : Nat) | bin (op : BinOp) (k : IntKind) (a b : Z) | conv (k : IntKind) (a : Z)
inductive V where
  | x | b (x : Bool) | i (k : IntKind) (n : Z) | s (l : List Z) | p0 | p (x : BP) (off : Nat) | s0 | e (x : BP) (off : Nat) | sl (x : BP) (off sz len : Nat)
  | f0 | f (g : Nat) (first caps : List V) | n0 | n (t : Nat) (v : V) | g (l : List V) | u (l : List V) | m0 | m (x : BP)
/-- A block: cells (whose eldest part may be another's too), or a map. -/
inductive O where | c (l : List V) (par : Option BP) (own : Bool) | m (es : List (V × V))
inductive H where | mk (nx : BP) (mem : Tr O)
inductive R1 where | bad (why : Nat) | ok (v : V) (h : H)
/-- Where an operand comes from: the region's own results (the last is 0), a slot, or it is told. -/
inductive Src where | loc (i : Nat) | tmp (t : BP) | val (v : V)
inductive Cb where | fn (g : Nat) | val (s : Src) | inv (s : Src) (m : String)
/-- What only reckons. -/
inductive KP where
  | mv (s : Src) | pick (c a b : Src) | build (z : List V) (ps : List (Nat × Nat × Src)) | nilck (s : Src) | bin (op : BinOp) (a b : Src) | eq (cls : Nat) (neg : Bool) (a b : Src) | not (s : Src) | neg (s : Src) | inv (s : Src) | conv (k : IntKind) (s : Src) | txt (s : Src)
  | mkif (t : Nat) (s : Src) | mkfn (g : Nat) (a b : List Src) | slice (sz : Nat) (s : Src) (lo hi mx : Option Src) | sstr (s : Src) (lo hi : Option Src)
  | faddr (off : Nat) (s : Src) | part1 (off : Nat) (s : Src) | partn (off n : Nat) (s : Src) | iaddr (sz : Nat) (s i : Src) | aaddr (sz len : Nat) (s i : Src)
  | istr (s i : Src) | ipart1 (len : Nat) (s i : Src) | ipartn (len sz : Nat) (s i : Src) | ext (i : Nat) (s : Src) | len (s : Src) | lens (s : Src) | alen (n : Nat) | cap (s : Src) | mm (mx : Bool) (a b : Src) | mm3 (mx : Bool) (a b c : Src) | mmn (mx : Bool) (l : List Src) | tas (t : Nat) (ok : Bool) (z : V) (s : Src)
/-- What reads. -/
inductive KR where | load1 (s : Src) | loadn (n : Nat) (s : Src) | mlen (s : Src) | lookup (ks : Nat) (z : V) (ok : Bool) (m i : Src) | str (s : Src)
/-- What makes memory. -/
inductive KA where | alloc (z : List V) | box (n : Nat) (s : Src) | bslice (sz len : Nat) (z : List V) (ps : List (Nat × Nat × Src)) | mkslice (sz : Nat) (z : List V) (l c : Src) | mkmap | s2b (s : Src)
/-- What acts. -/
inductive KE where
  | store (n : Nat) (s v : Src) | mapup (ks : Nat) (m i v : Src) | call (c : Cb) (as : List Src) | app (sz bytes : Nat) (s x : Src) | appz (sz bytes : Nat) (z : List V) (s x : Src)
  | copy (sz : Nat) (d s : Src) | clear (sz : Nat) (z : List V) (s : Src) | del (ks : Nat) (m i : Src)
inductive K where | pu (k : KP) | rd (k : KR) | al (k : KA) | ef (k : KE) | no (why : Nat)
/-- What is looked at again behind one that acts: so far back; its guard; what it was. -/
inductive Ag where | mk (back : Nat) (g : Option (Src × Bool)) (k : K)
inductive It where | mk (g : Option (Src × Bool)) (k : K) (again : List Ag)
inductive C2 where
  | skip | reg (its : List It) (cm : List (BP × Nat)) | seq (a b : C2) | cond (c : Src) (a b : C2) | block (id : Nat) (c : C2) | loop (c : C2) | exit (id : Nat) | ret | bad (why : Nat)
inductive Rv where | tmp (t : BP) | cell1 (t : BP) | celln (n : Nat) (t : BP)
inductive CF where | mk (n : Nat) (body : C2) (rs : List Rv)
inductive X where | nm (t : Tr V) (h : H) | ex (id : Nat) (t : Tr V) (h : H) | rt (t : Tr V) (h : H) | bad (why : Nat)
abbrev Cd := BinOp × Z × Z
/-- What is known of the named numbers (comparisons, and what some come to); the functions; what is known of some; the methods. -/
structure En where
  path : List (Cd × Bool)
  norm : List (Z × Int)
  fns : Tr CF
  ov : Nat → List V → H → Option R1
  mts : Nat → String → Option Nat
  gt : Tr V

namespace Ev
noncomputable section
def bpOf' : Nat → Nat → BP := Nat.rec (fun _ => BP.one) (fun _ ih m => Bool.rec (Bool.rec (BP.e (ih (Nat.shiftRight m 1))) (BP.o (ih (Nat.shiftRight m 1))) (Nat.beq (Nat.land m 1) 1)) BP.one (Nat.ble m 1))
def bpOf (n : Nat) : BP := bpOf' 40 (n + 1)
def succ : BP → BP := BP.rec (BP.e BP.one) (fun p _ => BP.o p) (fun _ q => BP.e q)
def bpO : BP → Bool := BP.rec true (fun _ _ => false) (fun _ _ => false)
def bpE1 : BP → (BP → Bool) → Bool := BP.rec (fun _ => false) (fun p _ k => k p) (fun _ _ _ => false)
def bpE2 : BP → (BP → Bool) → Bool := BP.rec (fun _ => false) (fun _ _ _ => false) (fun p _ k => k p)
def bpEq : BP → BP → Bool := BP.rec bpO (fun _ ih q => bpE1 q ih) (fun _ ih q => bpE2 q ih)
-- trees
variable {α : Type}
def trV : Tr α → Option α := Tr.rec none (fun _ v _ _ _ => v)
def onL : Tr α → (Tr α → Option α) → Option α := Tr.rec (fun _ => none) (fun l _ _ _ _ k => k l)
def onR : Tr α → (Tr α → Option α) → Option α := Tr.rec (fun _ => none) (fun _ _ r _ _ k => k r)
def get : BP → Tr α → Option α := BP.rec trV (fun _ ih t => onL t ih) (fun _ ih t => onR t ih)
def mkL : Tr α → Option α → Tr α → Tr α := Tr.rec (fun v r => Tr.nd Tr.lf v r) (fun a b c _ _ v r => Tr.nd (Tr.nd a b c) v r)
def mkR : Tr α → Tr α → Option α → Tr α := Tr.rec (fun l v => Tr.nd l v Tr.lf) (fun a b c _ _ l v => Tr.nd l v (Tr.nd a b c))
def setV : Tr α → Option α → Tr α := Tr.rec (fun x => Tr.nd Tr.lf x Tr.lf) (fun l _ r _ _ x => Tr.nd l x r)
def setL : Tr α → (Option α → Tr α → Tr α) → Option α → Tr α := Tr.rec (fun ih x => mkL (ih x Tr.lf) none Tr.lf) (fun l v r _ _ ih x => mkL (ih x l) v r)
def setR : Tr α → (Option α → Tr α → Tr α) → Option α → Tr α := Tr.rec (fun ih x => mkR (ih x Tr.lf) Tr.lf none) (fun l v r _ _ ih x => mkR (ih x r) l v)
def set : BP → Option α → Tr α → Tr α := BP.rec (fun x t => setV t x) (fun _ ih x t => setL t ih x) (fun _ ih x t => setR t ih x)
-- cases with closed minors
def ncase {β : Type} : Nat → β → (Nat → β) → β := Nat.rec (fun z _ => z) (fun m _ _ s => s m)
def bcase {β : Type} : Bool → β → β → β := Bool.rec (fun f _ => f) (fun _ t => t)
def ocase {β : Type} : Option α → β → (α → β) → β := Option.rec (fun z _ => z) (fun a _ s => s a)
def lcase {β : Type} : List α → β → (α → List α → β) → β := List.rec (fun z _ => z) (fun a l _ _ s => s a l)
-- lists
def nth : List α → Nat → Option α := List.rec (fun _ => none) (fun a _ ih i => ncase i (some a) ih)
def drop : Nat → List α → List α := Nat.rec (fun l => l) (fun _ ih l => lcase l [] (fun _ t => ih t))
def consS : List α → α → List α := List.rec (fun a => [a]) (fun b t _ a => a :: b :: t)
def take : Nat → List α → List α := Nat.rec (fun _ => []) (fun _ ih l => lcase l [] (fun a t => consS (ih t) a))
def app : List α → List α → List α := List.rec (fun m => m) (fun a _ ih m => consS (ih m) a)
def len : List α → Nat := List.rec 0 (fun _ _ n => Nat.succ n)
/-- these laid over it from the front -/
def over : List α → List α → List α := List.rec (fun l => l) (fun v _ ih l => lcase l [] (fun _ t => consS (ih t) v))
def splice : Nat → List α → List α → List α := Nat.rec (fun vs l => over vs l) (fun _ ih vs l => lcase l [] (fun a t => consS (ih vs t) a))
def rep (z : List α) : Nat → List α := Nat.rec [] (fun _ ih => app z ih)
-- numbers
def ipos {β : Type} : Int → (Nat → β) → (Nat → β) → β := Int.rec (fun m f _ => f m) (fun m _ g => g m)
def ltI (a b : Int) : Bool := ipos a (fun m => ipos b (fun n => Nat.blt m n) (fun _ => false)) (fun m => ipos b (fun _ => true) (fun n => Nat.blt n m))
def eqI (a b : Int) : Bool := ipos a (fun m => ipos b (fun n => Nat.beq m n) (fun _ => false)) (fun m => ipos b (fun _ => false) (fun n => Nat.beq m n))
def ltN (c : Nat) : Nat → Bool := fun m => Nat.blt m c
def noN : Nat → Bool := fun _ => false
def inR : IntKind → Int → Bool := IntKind.rec
  (fun n => ipos n (ltN 128) (ltN 128)) (fun n => ipos n (ltN 32768) (ltN 32768)) (fun n => ipos n (ltN 2147483648) (ltN 2147483648)) (fun n => ipos n (ltN 9223372036854775808) (ltN 9223372036854775808))
  (fun n => ipos n (ltN 256) noN) (fun n => ipos n (ltN 65536) noN) (fun n => ipos n (ltN 4294967296) noN) (fun n => ipos n (ltN 18446744073709551616) noN)
def wrapF (k : IntKind) (n : Int) : Int := bcase (inR k n) (k.wrap n) n
def onLit {β : Type} : Z → β → (Int → β) → β := Z.rec (fun n _ f => f n) (fun _ g _ => g) (fun _ _ _ _ _ _ g _ => g) (fun _ _ _ g _ => g)
def onVar {β : Type} : Z → β → (Nat → β) → β := Z.rec (fun _ g _ => g) (fun i _ f => f i) (fun _ _ _ _ _ _ g _ => g) (fun _ _ _ g _ => g)
def onBin {β : Type} : Z → β → (BinOp → IntKind → Z → Z → β) → β := Z.rec (fun _ g _ => g) (fun _ g _ => g) (fun op k a b _ _ _ f => f op k a b) (fun _ _ _ g _ => g)
def onConv {β : Type} : Z → β → (IntKind → Z → β) → β := Z.rec (fun _ g _ => g) (fun _ g _ => g) (fun _ _ _ _ _ _ g _ => g) (fun k a _ _ f => f k a)
def kN : IntKind → Nat := IntKind.rec 0 1 2 3 4 5 6 7
def bN : BinOp → Nat := fun op => BinOp.ctorIdx op
def zBeq : Z → Z → Bool := Z.rec (fun m b => onLit b false (eqI m)) (fun i b => onVar b false (Nat.beq i))
  (fun op k _ _ iha ihb b => onBin b false (fun op' k' a' b' => bcase (Nat.beq (bN op) (bN op')) false (bcase (Nat.beq (kN k) (kN k')) false (bcase (iha a') false (ihb b')))))
  (fun k _ ih b => onConv b false (fun k' a' => bcase (Nat.beq (kN k) (kN k')) false (ih a')))
/-- A told comparison. -/
def cmpI : BinOp → Int → Int → Bool := BinOp.rec (fun _ _ => false) (fun _ _ => false) (fun _ _ => false) (fun _ _ => false) (fun _ _ => false) (fun _ _ => false) (fun _ _ => false) (fun _ _ => false) (fun _ _ => false) (fun _ _ => false) (fun _ _ => false)
  eqI (fun a b => !eqI a b) ltI (fun a b => !ltI b a) (fun a b => ltI b a) (fun a b => !ltI a b)
def cdBeq (c d : Cd) : Bool := bcase (Nat.beq (bN c.1) (bN d.1)) false (bcase (zBeq c.2.1 d.2.1) false (zBeq c.2.2 d.2.2))
def look (c : Cd) : List (Cd × Bool) → Option Bool := List.rec none (fun p _ ih => bcase (cdBeq c p.1) ih (some p.2))
/-- How a comparison comes out. -/
def cmpZ (path : List (Cd × Bool)) (op : BinOp) (a b : Z) : Option Bool :=
  onLit a (look (op, a, b) path) (fun m => onLit b (look (op, a, b) path) (fun n => some (cmpI op m n)))
def lookN (z : Z) : List (Z × Int) → Option Int := List.rec none (fun p _ ih => bcase (zBeq z p.1) ih (some p.2))
/-- A told number with its parts laid open. -/
def forceI {β : Type} (n : Int) (g : β) (f : Int → β) : β := ipos n (fun m => bcase (Nat.beq m m) g (f (Int.ofNat m))) (fun m => bcase (Nat.beq m m) g (f (Int.negSucc m)))
def okI (k : IntKind) (n : Int) : Option V := forceI n none (fun n => some (V.i k (Z.lit n)))
def okB (b : Bool) : Option V := bcase b (some (V.b false)) (some (V.b true))
def okOB (o : Option Bool) : Option V := ocase o none okB
/-- One that is reckoned from named ones. -/
def okZ (norm : List (Z × Int)) (k : IntKind) (z : Z) : Option V := ocase (lookN z norm) (some (V.i k z)) (fun n => okI k n)
def divI : BinOp → IntKind → Int → Int → Int := BinOp.rec (fun _ _ _ => 0) (fun _ _ _ => 0) (fun _ _ _ => 0) (fun k a b => k.wrap (a.tdiv b)) (fun _ a b => a.tmod b) (fun _ _ _ => 0) (fun _ _ _ => 0) (fun _ _ _ => 0) (fun _ _ _ => 0) (fun _ _ _ => 0) (fun _ _ _ => 0) (fun _ _ _ => 0) (fun _ _ _ => 0) (fun _ _ _ => 0) (fun _ _ _ => 0) (fun _ _ _ => 0) (fun _ _ _ => 0)
def arI : BinOp → Int → Int → Int := BinOp.rec Int.add Int.sub Int.mul (fun _ _ => 0) (fun _ _ => 0) (fun _ _ => 0) (fun _ _ => 0) (fun _ _ => 0) (fun _ _ => 0) (fun _ _ => 0) (fun _ _ => 0) (fun _ _ => 0) (fun _ _ => 0) (fun _ _ => 0) (fun _ _ => 0) (fun _ _ => 0) (fun _ _ => 0)
def bitI : BinOp → IntKind → Int → Int → Int := BinOp.rec (fun _ _ _ => 0) (fun _ _ _ => 0) (fun _ _ _ => 0) (fun _ _ _ => 0) (fun _ _ _ => 0)
  (fun k a b => k.wrap (BitVec.ofInt k.bits a &&& BitVec.ofInt k.bits b).toNat) (fun k a b => k.wrap (BitVec.ofInt k.bits a ||| BitVec.ofInt k.bits b).toNat) (fun k a b => k.wrap (BitVec.ofInt k.bits a ^^^ BitVec.ofInt k.bits b).toNat) (fun _ _ _ => 0) (fun _ _ _ => 0)
  (fun k a b => k.wrap (BitVec.ofInt k.bits a &&& ~~~(BitVec.ofInt k.bits b)).toNat) (fun _ _ _ => 0) (fun _ _ _ => 0) (fun _ _ _ => 0) (fun _ _ _ => 0) (fun _ _ _ => 0) (fun _ _ _ => 0)
def maskI : IntKind → Int := IntKind.rec (-1) (-1) (-1) (-1) 255 65535 4294967295 18446744073709551615
def shI : BinOp → IntKind → Int → Int → Int := BinOp.rec (fun _ _ _ => 0) (fun _ _ _ => 0) (fun _ _ _ => 0) (fun _ _ _ => 0) (fun _ _ _ => 0) (fun _ _ _ => 0) (fun _ _ _ => 0) (fun _ _ _ => 0)
  (fun k x y => k.wrap (x * 2 ^ (min y.toNat k.bits))) (fun k x y => x.fdiv (2 ^ (min y.toNat k.bits))) (fun _ _ _ => 0) (fun _ _ _ => 0) (fun _ _ _ => 0) (fun _ _ _ => 0) (fun _ _ _ => 0) (fun _ _ _ => 0) (fun _ _ _ => 0)
/-- both told -/
def lit2 {β : Type} (a b : Z) (g : β) (f : Int → Int → β) : β := onLit a g (fun m => onLit b g (fun n => f m n))
def binAr (en : En) (op : BinOp) (k : IntKind) (a b : Z) : Option V := lit2 a b (okZ en.norm k (Z.bin op k a b)) (fun m n => okI k (wrapF k (arI op m n)))
def binDiv (en : En) (op : BinOp) (k : IntKind) (a b : Z) : Option V := ocase (cmpZ en.path .eql b (Z.lit 0)) none (fun z => bcase z (lit2 a b (okZ en.norm k (Z.bin op k a b)) (fun m n => okI k (divI op k m n))) none)
def binBit (en : En) (op : BinOp) (k : IntKind) (a b : Z) : Option V := lit2 a b (okZ en.norm k (Z.bin op k a b)) (fun m n => okI k (bitI op k m n))
def binSh (en : En) (op : BinOp) (k : IntKind) (a b : Z) : Option V := ocase (cmpZ en.path .lss b (Z.lit 0)) none (fun z => bcase z (lit2 a b (okZ en.norm k (Z.bin op k a b)) (fun m n => okI k (shI op k m n))) none)
def cmpK (en : En) (op : BinOp) (a b : Z) : Option V := okOB (cmpZ en.path op a b)
/-- Two numbers of a kind. -/
def binI : BinOp → En → IntKind → Z → Z → Option V := BinOp.rec
  (fun en k a b => binAr en .add k a b) (fun en k a b => binAr en .sub k a b) (fun en k a b => binAr en .mul k a b) (fun en k a b => binDiv en .quo k a b) (fun en k a b => binDiv en .rem k a b)
  (fun en k a b => binBit en .and k a b) (fun en k a b => binBit en .or k a b) (fun en k a b => binBit en .xor k a b) (fun en k a b => binSh en .shl k a b) (fun en k a b => binSh en .shr k a b) (fun en k a b => binBit en .andNot k a b)
  (fun en _ a b => cmpK en .eql a b) (fun en _ a b => cmpK en .neq a b) (fun en _ a b => cmpK en .lss a b) (fun en _ a b => cmpK en .leq a b) (fun en _ a b => cmpK en .gtr a b) (fun en _ a b => cmpK en .geq a b)
/-- Two texts: equal? lesser? -/
def sNil : List Z → Option Bool := List.rec (some true) (fun _ _ _ => some false)
def sLtNil : List Z → Option Bool := List.rec (some false) (fun _ _ _ => some true)
def sEq (path : List (Cd × Bool)) : List Z → List Z → Option Bool :=
  List.rec sNil (fun x _ ih b => lcase b (some false) (fun y t => ocase (cmpZ path .eql x y) none (fun e => bcase e (some false) (ih t))))
def sLt (path : List (Cd × Bool)) : List Z → List Z → Option Bool :=
  List.rec sLtNil (fun x _ ih b => lcase b (some false) (fun y t => ocase (cmpZ path .lss x y) none (fun l => bcase l (ocase (cmpZ path .eql x y) none (fun e => bcase e (some false) (ih t))) (some true))))
def oNot (o : Option Bool) : Option Bool := ocase o none (fun b => some (!b))
def binS : BinOp → List (Cd × Bool) → List Z → List Z → Option V := BinOp.rec
  (fun _ a b => bcase (Nat.ble (len a) 8000000) none (bcase (Nat.ble (len b) 8000000) none (some (V.s (app a b))))) (fun _ _ _ => none) (fun _ _ _ => none) (fun _ _ _ => none) (fun _ _ _ => none) (fun _ _ _ => none) (fun _ _ _ => none) (fun _ _ _ => none) (fun _ _ _ => none) (fun _ _ _ => none) (fun _ _ _ => none)
  (fun p a b => okOB (sEq p a b)) (fun p a b => okOB (oNot (sEq p a b))) (fun p a b => okOB (sLt p a b)) (fun _ _ _ => none) (fun _ _ _ => none) (fun _ _ _ => none)
def onI {β : Type} : V → β → (IntKind → Z → β) → β := V.rec (motive_1 := fun _ => β → (IntKind → Z → β) → β) (motive_2 := fun _ => β → (IntKind → Z → β) → β)
  (fun g _ => g) (fun _ g _ => g) (fun k z _ f => f k z) (fun _ g _ => g) (fun g _ => g) (fun _ _ g _ => g) (fun g _ => g) (fun _ _ g _ => g) (fun _ _ _ _ g _ => g) (fun g _ => g) (fun _ _ _ _ _ g _ => g) (fun g _ => g) (fun _ _ _ g _ => g) (fun _ _ g _ => g) (fun _ _ g _ => g) (fun g _ => g) (fun _ g _ => g) (fun g _ => g) (fun _ _ _ _ g _ => g)
def onB {β : Type} : V → β → (Bool → β) → β := V.rec (motive_1 := fun _ => β → (Bool → β) → β) (motive_2 := fun _ => β → (Bool → β) → β)
  (fun g _ => g) (fun x _ f => f x) (fun _ _ g _ => g) (fun _ g _ => g) (fun g _ => g) (fun _ _ g _ => g) (fun g _ => g) (fun _ _ g _ => g) (fun _ _ _ _ g _ => g) (fun g _ => g) (fun _ _ _ _ _ g _ => g) (fun g _ => g) (fun _ _ _ g _ => g) (fun _ _ g _ => g) (fun _ _ g _ => g) (fun g _ => g) (fun _ g _ => g) (fun g _ => g) (fun _ _ _ _ g _ => g)
def onS {β : Type} : V → β → (List Z → β) → β := V.rec (motive_1 := fun _ => β → (List Z → β) → β) (motive_2 := fun _ => β → (List Z → β) → β)
  (fun g _ => g) (fun _ g _ => g) (fun _ _ g _ => g) (fun l _ f => f l) (fun g _ => g) (fun _ _ g _ => g) (fun g _ => g) (fun _ _ g _ => g) (fun _ _ _ _ g _ => g) (fun g _ => g) (fun _ _ _ _ _ g _ => g) (fun g _ => g) (fun _ _ _ g _ => g) (fun _ _ g _ => g) (fun _ _ g _ => g) (fun g _ => g) (fun _ g _ => g) (fun g _ => g) (fun _ _ _ _ g _ => g)
def onP {β : Type} : V → β → (BP → Nat → β) → β := V.rec (motive_1 := fun _ => β → (BP → Nat → β) → β) (motive_2 := fun _ => β → (BP → Nat → β) → β)
  (fun g _ => g) (fun _ g _ => g) (fun _ _ g _ => g) (fun _ g _ => g) (fun g _ => g) (fun x o _ f => f x o) (fun g _ => g) (fun _ _ g _ => g) (fun _ _ _ _ g _ => g) (fun g _ => g) (fun _ _ _ _ _ g _ => g) (fun g _ => g) (fun _ _ _ g _ => g) (fun _ _ g _ => g) (fun _ _ g _ => g) (fun g _ => g) (fun _ g _ => g) (fun g _ => g) (fun _ _ _ _ g _ => g)
def onSl {β : Type} : V → β → (BP → Nat → Nat → Nat → β) → β := V.rec (motive_1 := fun _ => β → (BP → Nat → Nat → Nat → β) → β) (motive_2 := fun _ => β → (BP → Nat → Nat → Nat → β) → β)
  (fun g _ => g) (fun _ g _ => g) (fun _ _ g _ => g) (fun _ g _ => g) (fun g _ => g) (fun _ _ g _ => g) (fun g _ => g) (fun _ _ g _ => g) (fun x o s n _ f => f x o s n) (fun g _ => g) (fun _ _ _ _ _ g _ => g) (fun g _ => g) (fun _ _ _ g _ => g) (fun _ _ g _ => g) (fun _ _ g _ => g) (fun g _ => g) (fun _ g _ => g) (fun g _ => g) (fun _ _ _ _ g _ => g)
def onE {β : Type} : V → β → (BP → Nat → β) → β := V.rec (motive_1 := fun _ => β → (BP → Nat → β) → β) (motive_2 := fun _ => β → (BP → Nat → β) → β)
  (fun g _ => g) (fun _ g _ => g) (fun _ _ g _ => g) (fun _ g _ => g) (fun g _ => g) (fun _ _ g _ => g) (fun g _ => g) (fun x o _ f => f x o) (fun _ _ _ _ g _ => g) (fun g _ => g) (fun _ _ _ _ _ g _ => g) (fun g _ => g) (fun _ _ _ g _ => g) (fun _ _ g _ => g) (fun _ _ g _ => g) (fun g _ => g) (fun _ g _ => g) (fun g _ => g) (fun _ _ _ _ g _ => g)
def onF {β : Type} : V → β → (Nat → List V → List V → β) → β := V.rec (motive_1 := fun _ => β → (Nat → List V → List V → β) → β) (motive_2 := fun _ => β → (Nat → List V → List V → β) → β)
  (fun g _ => g) (fun _ g _ => g) (fun _ _ g _ => g) (fun _ g _ => g) (fun g _ => g) (fun _ _ g _ => g) (fun g _ => g) (fun _ _ g _ => g) (fun _ _ _ _ g _ => g) (fun g _ => g) (fun g a c _ _ _ f => f g a c) (fun g _ => g) (fun _ _ _ g _ => g) (fun _ _ g _ => g) (fun _ _ g _ => g) (fun g _ => g) (fun _ g _ => g) (fun g _ => g) (fun _ _ _ _ g _ => g)
def onN {β : Type} : V → β → (Nat → V → β) → β := V.rec (motive_1 := fun _ => β → (Nat → V → β) → β) (motive_2 := fun _ => β → (Nat → V → β) → β)
  (fun g _ => g) (fun _ g _ => g) (fun _ _ g _ => g) (fun _ g _ => g) (fun g _ => g) (fun _ _ g _ => g) (fun g _ => g) (fun _ _ g _ => g) (fun _ _ _ _ g _ => g) (fun g _ => g) (fun _ _ _ _ _ g _ => g) (fun g _ => g) (fun t v _ _ f => f t v) (fun _ _ g _ => g) (fun _ _ g _ => g) (fun g _ => g) (fun _ g _ => g) (fun g _ => g) (fun _ _ _ _ g _ => g)
def onG {β : Type} : V → β → (List V → β) → β := V.rec (motive_1 := fun _ => β → (List V → β) → β) (motive_2 := fun _ => β → (List V → β) → β)
  (fun g _ => g) (fun _ g _ => g) (fun _ _ g _ => g) (fun _ g _ => g) (fun g _ => g) (fun _ _ g _ => g) (fun g _ => g) (fun _ _ g _ => g) (fun _ _ _ _ g _ => g) (fun g _ => g) (fun _ _ _ _ _ g _ => g) (fun g _ => g) (fun _ _ _ g _ => g) (fun l _ _ f => f l) (fun _ _ g _ => g) (fun g _ => g) (fun _ g _ => g) (fun g _ => g) (fun _ _ _ _ g _ => g)
def onU {β : Type} : V → β → (List V → β) → β := V.rec (motive_1 := fun _ => β → (List V → β) → β) (motive_2 := fun _ => β → (List V → β) → β)
  (fun g _ => g) (fun _ g _ => g) (fun _ _ g _ => g) (fun _ g _ => g) (fun g _ => g) (fun _ _ g _ => g) (fun g _ => g) (fun _ _ g _ => g) (fun _ _ _ _ g _ => g) (fun g _ => g) (fun _ _ _ _ _ g _ => g) (fun g _ => g) (fun _ _ _ g _ => g) (fun _ _ g _ => g) (fun l _ _ f => f l) (fun g _ => g) (fun _ g _ => g) (fun g _ => g) (fun _ _ _ _ g _ => g)
def onM {β : Type} : V → β → (BP → β) → β := V.rec (motive_1 := fun _ => β → (BP → β) → β) (motive_2 := fun _ => β → (BP → β) → β)
  (fun g _ => g) (fun _ g _ => g) (fun _ _ g _ => g) (fun _ g _ => g) (fun g _ => g) (fun _ _ g _ => g) (fun g _ => g) (fun _ _ g _ => g) (fun _ _ _ _ g _ => g) (fun g _ => g) (fun _ _ _ _ _ g _ => g) (fun g _ => g) (fun _ _ _ g _ => g) (fun _ _ g _ => g) (fun _ _ g _ => g) (fun g _ => g) (fun x _ f => f x) (fun g _ => g) (fun _ _ _ _ g _ => g)
/-- which kind of value -/
def tag : V → Nat := V.rec (motive_1 := fun _ => Nat) (motive_2 := fun _ => Nat) 0 (fun _ => 1) (fun _ _ => 2) (fun _ => 3) 4 (fun _ _ => 5) 6 (fun _ _ => 7) (fun _ _ _ _ => 8) 9 (fun _ _ _ _ _ => 10) 11 (fun _ _ _ => 12) (fun _ _ => 13) (fun _ _ => 14) 15 (fun _ => 16) 0 (fun _ _ _ _ => 0)
/-- a value of one cell -/
def oneV : V → Bool := V.rec (motive_1 := fun _ => Bool) (motive_2 := fun _ => Bool) false (fun _ => true) (fun _ _ => true) (fun _ => true) true (fun _ _ => true) true (fun _ _ => true) (fun _ _ _ _ => true) true (fun _ _ _ _ _ => true) true (fun _ _ _ => true) (fun _ _ => false) (fun _ _ => false) true (fun _ => true) true (fun _ _ _ _ => true)
/-- the cells of a value -/
def cellsV : V → List V := fun v => onG v [v] (fun l => l)
def isT (n : Nat) (v : V) : Bool := Nat.beq (tag v) n
/-- two of a type that is no number, text: equal? (0 truths, 1 pointers, 2 slices, 3 maps, 4 functions, 5 interfaces, one of them told as none) -/
def eqB' (a b : V) : Option Bool := onB a none (fun x => onB b none (fun y => some (bcase x (!y) y)))
def eqP (a b : V) : Option Bool := onP a (bcase (isT 4 a) none (bcase (isT 4 b) (onP b none (fun _ _ => some false)) (some true)))
  (fun x o => bcase (isT 4 b) (onP b none (fun y q => bcase (bpEq x y) none (some (Nat.beq o q)))) (some false))
def isNil (n : Nat) (v : V) : Option Bool := bcase (isT n v) (bcase (isT 0 v) (bcase (isT 14 v) (some false) none) none) (some true)
def nilS (v : V) : Option Bool := onSl v (onE v (bcase (isT 6 v) none (some true)) (fun _ _ => some false)) (fun _ _ _ _ => some false)
def nilM (v : V) : Option Bool := onM v (bcase (isT 15 v) none (some true)) (fun _ => some false)
def nilF (v : V) : Option Bool := onF v (bcase (isT 9 v) none (some true)) (fun _ _ _ => some false)
def nilI (v : V) : Option Bool := onN v (bcase (isT 11 v) none (some true)) (fun _ _ => some false)
/-- one of the two is none: is the other? -/
def eqNil (f : V → Option Bool) (a b : V) : Option Bool := ocase (f a) none (fun x => bcase x (ocase (f b) none (fun y => bcase y none (some false))) (f b))
/-- scalars (1 bool, 2 number, 3 text), structs of scalars: equal? -/
def eqS (c : Nat) (a b : V) : Option Bool := bcase (Nat.beq c 1) (bcase (Nat.beq c 2) (bcase (Nat.beq c 3) none (onS a none (fun s => onS b none (fun t => sEq [] s t)))) (onI a none (fun k m => onI b none (fun j n => bcase (Nat.beq (kN k) (kN j)) none (cmpZ [] .eql m n))))) (onB a none (fun x => onB b none (fun y => some (bcase x (!y) y))))
def eqSs : List V → Nat → List V → Option Bool := List.rec (fun c m => bcase (Nat.beq c 0) none (lcase m (some true) (fun _ _ => none))) (fun a _ ih c m => lcase m none (fun b t => ocase (eqS (Nat.mod c 4) a b) none (fun x => bcase x (some false) (ih (Nat.div c 4) t))))
def eqGl (c : Nat) (a b : V) : Option Bool := onG a none (fun l => onG b none (fun m => eqSs l c m))
/-- just one of the two is none -/
def eqXor (f : V → Option Bool) (a b : V) : Option Bool := ocase (f a) none (fun x => ocase (f b) none (fun y => bcase x (bcase y none (some false)) (bcase y (some false) none)))
def eqC : Nat → V → V → Option Bool := Nat.rec eqB' (fun n _ => Nat.rec eqP (fun n _ => Nat.rec (eqNil nilS) (fun n _ => Nat.rec (eqNil nilM) (fun n _ => Nat.rec (eqNil nilF) (fun n _ => Nat.rec (eqNil nilI) (fun n _ => Nat.rec (eqXor nilI) (fun n _ => eqGl n) n) n) n) n) n) n)
def eqK (cls : Nat) (neg : Bool) (a b : V) : Option V := ocase (eqC cls a b) none (fun e => bcase neg (okB e) (okB (!e)))
def tas (t : Nat) (ok : Bool) (z v : V) : Option V := onN v (bcase (isT 11 v) none (bcase ok none (some (V.u [z, V.b false])))) (fun t' w => bcase (Nat.beq t' t) (bcase ok none (some (V.u [z, V.b false]))) (bcase ok (some w) (some (V.u [w, V.b true]))))
def bin (en : En) (op : BinOp) (a b : V) : Option V :=
  onI a (onS a none (fun s => onS b none (fun t => binS op en.path s t))) (fun k m => onI b none (fun j n => bcase (Nat.beq (kN k) (kN j)) none (binI op en k m n)))
/-- shifts: the kinds may differ -/
def binV (en : En) (op : BinOp) (a b : V) : Option V := bcase (Nat.beq (bN op) 8) (bcase (Nat.beq (bN op) 9) (bin en op a b) (onI a none (fun k m => onI b none (fun _ n => binSh en .shr k m n)))) (onI a none (fun k m => onI b none (fun _ n => binSh en .shl k m n)))
def allOne : List V → Bool := List.rec true (fun a _ ih => bcase (oneV a) false ih)
-- memory
def nx : H → BP := H.rec (fun n _ => n)
def mem : H → Tr O := H.rec (fun _ m => m)
def obj (h : H) (x : BP) : Option O := get x (mem h)
def onH {β : Type} : H → (BP → Tr O → β) → β := H.rec (fun n m f => f n m)
def put (h : H) (x : BP) (o : Option O) : H := onH h (fun n m => H.mk n (set x o m))
def ocs {β : Type} : O → β → (List V → Option BP → Bool → β) → β := O.rec (fun l p w _ f => f l p w) (fun _ g _ => g)
def oms {β : Type} : O → β → (List (V × V) → β) → β := O.rec (fun _ _ _ g _ => g) (fun es _ f => f es)
def onC {β : Type} (o : Option O) (g : β) (f : List V → Option BP → Bool → β) : β := ocase o g (fun o => ocs o g f)
def onMp {β : Type} (o : Option O) (g : β) (f : List (V × V) → β) : β := ocase o g (fun o => oms o g f)
/-- a new block, and what names it -/
def fresh (h : H) (o : O) (k : BP → V) : R1 := onH h (fun n m => R1.ok (k n) (H.mk (succ n) (set n (some o) m)))
def lenIs (n : Nat) (l : List V) : Bool := Nat.beq (len l) n
def kill (h : H) (p : Option BP) : H := ocase p h (fun x => put h x none)
/-- cells laid at a place -/
def write (h : H) (x : BP) (off : Nat) (vs : List V) : R1 :=
  onC (obj h x) (R1.bad 21) (fun l par own => bcase own (R1.bad 19) (bcase (allOne vs) (R1.bad 19) (bcase (Nat.ble (Nat.add off (len vs)) (len l)) (R1.bad 20) (R1.ok (V.u []) (put (kill h par) x (some (O.c (splice off vs l) none true)))))))
def asNat {β : Type} (v : V) (g : β) (f : Nat → β) : β := onI v g (fun _ z => onLit z g (fun n => ipos n f (fun _ => g)))
/-- the cells of a slice -/
def cellsAt (h : H) (x : BP) (off n : Nat) : Option (List V) := onC (obj h x) none (fun l _ _ => (fun r => bcase (lenIs n r) none (some r)) (take n (drop off l)))
def cellsOf (h : H) (sz : Nat) (v : V) : Option (List V) := onSl v (onE v (bcase (isT 6 v) none (some [])) (fun _ _ => some [])) (fun x off s n => bcase (Nat.beq s sz) none (cellsAt h x off (Nat.mul n sz)))
def small (n : Nat) : Bool := Nat.ble n 1000000
/-- n things (of so many cells and bytes) behind a slice -/
def appTo (h : H) (sz bytes : Nat) (s : V) (n : Nat) (new : List V) : R1 :=
  bcase (Nat.beq n 0)
    (bcase (Nat.ble bytes 1000) (R1.bad 23) (bcase (small n) (R1.bad 23) (bcase (lenIs (Nat.mul n sz) new) (R1.bad 23) (bcase (allOne new) (R1.bad 23)
    (onSl s (onE s (bcase (isT 6 s) (R1.bad 28) (fresh h (O.c new none true) (fun y => V.sl y 0 sz n))) (fun _ _ => fresh h (O.c new none true) (fun y => V.sl y 0 sz n)))
      (fun x off s m => bcase (Nat.beq s sz) (R1.bad 24)
        (onC (obj h x) (R1.bad 27) (fun l par own => bcase own (R1.bad 25) (bcase (small m) (R1.bad 22)
          ((fun old => bcase (lenIs (Nat.mul m sz) old) (R1.bad 26)
            (fresh (put (kill h par) x (some (O.c (take (Nat.add off (Nat.mul m sz)) l) none false))) (O.c (app old new) (some x) true) (fun y => V.sl y 0 sz (Nat.add m n)))) (take (Nat.mul m sz) (drop off l))))))))))))
    (onSl s (onE s (bcase (isT 6 s) (R1.bad 29) (R1.ok s h)) (fun _ _ => R1.ok s h)) (fun _ _ _ _ => R1.ok s h))
def zs : List Z → List V := List.rec [] (fun a _ ih => V.i .u8 a :: ih)
def lenS (v : V) : Option Nat := onSl v (onE v (bcase (isT 6 v) none (some 0)) (fun _ _ => some 0)) (fun _ _ _ n => some n)
def append (h : H) (sz bytes : Nat) (s x0 : V) : R1 :=
  onS x0 (ocase (lenS x0) (R1.bad 31) (fun n => ocase (cellsOf h sz x0) (R1.bad 30) (fun new => appTo h sz bytes s n new))) (fun l => bcase (Nat.beq sz 1) (R1.bad 32) (appTo h sz bytes s (len l) (zs l)))
def forceN {β : Type} (n : Nat) (g : β) (f : Nat → β) : β := bcase (Nat.beq n n) g (f n)
def okN (n : Nat) : Option V := forceN n none (fun n => some (V.i .i64 (Z.lit (Int.ofNat n))))
def capV (v : V) : Option V := bcase (isT 6 v) (onE v none (fun _ _ => okN 0)) (okN 0)
def optN {β : Type} (o : Option V) (d : Nat) (g : β) (f : Nat → β) : β := ocase o (f d) (fun v => asNat v g f)
def z3 (a b c : Nat) (r : V) : Option V := bcase (Nat.beq a 0) none (bcase (Nat.beq b 0) none (bcase (Nat.beq c 0) none (some r)))
def slice3 (lo hi : Option V) (c : V) (r : V) : Option V := ocase hi none (fun hv => asNat hv none (fun b => optN lo 0 none (fun a => asNat c none (fun c => z3 a b c r))))
def slice (sz : Nat) (v : V) (lo hi mx : Option V) : Option V :=
  onSl v (bcase (isT 6 v) none (ocase mx (optN hi 0 none (fun b => optN lo 0 none (fun a => z3 a b 0 V.s0))) (fun c => slice3 lo hi c V.s0)))
    (fun x off s n => bcase (Nat.beq s sz) none (ocase mx
      (optN hi n none (fun b => optN lo 0 none (fun a => bcase (Nat.ble a b) none (bcase (Nat.ble b n) none (forceN (Nat.add off (Nat.mul a sz)) none (fun o => forceN (Nat.sub b a) none (fun m => some (V.sl x o sz m))))))))
      (fun c => slice3 lo hi c (V.e x off))))
def sstr (v : V) (lo hi : Option V) : Option V :=
  onS v none (fun l => (fun n => optN hi n none (fun b => optN lo 0 none (fun a => bcase (Nat.ble a b) none (bcase (Nat.ble b n) none (some (V.s (take (Nat.sub b a) (drop a l)))))))) (len l))
def faddr (off : Nat) (v : V) : Option V := onP v none (fun x o => forceN (Nat.add o off) none (fun o => some (V.p x o)))
def partn (off n : Nat) (v : V) : Option V := onG v none (fun l => (fun r => bcase (lenIs n r) none (some (V.g r))) (take n (drop off l)))
def part1 (off : Nat) (v : V) : Option V := onG v none (fun l => nth l off)
def iaddr (sz : Nat) (v i : V) : Option V := onSl v none (fun x off s n => asNat i none (fun k => bcase (Nat.blt k n) none (bcase (Nat.beq s sz) none (forceN (Nat.add off (Nat.mul k sz)) none (fun o => some (V.p x o))))))
def aaddr (sz len : Nat) (v i : V) : Option V := onP v none (fun x off => asNat i none (fun k => bcase (Nat.blt k len) none (forceN (Nat.add off (Nat.mul k sz)) none (fun o => some (V.p x o)))))
def istr (v i : V) : Option V := onS v none (fun l => asNat i none (fun k => ocase (nth l k) none (fun z => some (V.i .u8 z))))
def ipart1 (len : Nat) (v i : V) : Option V := asNat i none (fun k => bcase (Nat.blt k len) none (part1 k v))
def ipartn (len sz : Nat) (v i : V) : Option V := asNat i none (fun k => bcase (Nat.blt k len) none (partn (Nat.mul k sz) sz v))
/-- two keys (texts, or numbers): equal? -/
def keyEq (ks : Nat) (path : List (Cd × Bool)) (a b : V) : Option Bool := ncase ks (onI a none (fun k m => onI b none (fun j n => bcase (Nat.beq (kN k) (kN j)) none (cmpZ path .eql m n)))) (fun c => ncase c (onS a none (fun s => onS b none (fun t => sEq path s t))) (fun c => eqGl c a b))
/-- as many cells, at least, as a code has digits -/
def digits : List V → Nat → Bool := List.rec (fun c => Nat.beq c 0) (fun _ _ ih c => ih (Nat.div c 4))
def isKey (ks : Nat) (a : V) : Bool := ncase ks (onI a false (fun _ _ => true)) (fun c => ncase c (onS a false (fun _ => true)) (fun c => onG a false (fun l => digits l c)))
def findK (ks : Nat) (path : List (Cd × Bool)) (k : V) : List (V × V) → Option (Option V) := List.rec (some none) (fun e _ ih => ocase (keyEq ks path k e.1) none (fun b => bcase b ih (some (some e.2))))
def okV (ok : Bool) (v : V) (b : Bool) : Option V := bcase ok (some v) (some (V.u [v, V.b b]))
def lookup (ks : Nat) (path : List (Cd × Bool)) (h : H) (z : V) (ok : Bool) (m k : V) : Option V :=
  bcase (isKey ks k) none (onM m (bcase (isT 15 m) none (okV ok z false)) (fun x => onMp (obj h x) none (fun es => ocase (findK ks path k es) none (fun r => ocase r (okV ok z false) (fun v => okV ok v true)))))
def upd (ks : Nat) (path : List (Cd × Bool)) (k v : V) : List (V × V) → Option (List (V × V)) :=
  List.rec (some [(k, v)]) (fun e t ih => ocase (keyEq ks path k e.1) none (fun b => bcase b (ocase ih none (fun r => some (e :: r))) (some ((k, v) :: t))))
def mapup (ks : Nat) (path : List (Cd × Bool)) (h : H) (m k v : V) : R1 :=
  bcase (isKey ks k) (R1.bad 66) (onM m (R1.bad 63) (fun x => onMp (obj h x) (R1.bad 65) (fun es => ocase (upd ks path k v es) (R1.bad 64) (fun r => R1.ok (V.u []) (put h x (some (O.m r)))))))
def delK (ks : Nat) (path : List (Cd × Bool)) (k : V) : List (V × V) → Option (List (V × V)) :=
  List.rec (some []) (fun e t ih => ocase (keyEq ks path k e.1) none (fun b => bcase b (ocase ih none (fun r => some (e :: r))) (some t)))
def del (ks : Nat) (path : List (Cd × Bool)) (h : H) (m k : V) : R1 :=
  bcase (isKey ks k) (R1.bad 66) (onM m (R1.bad 63) (fun x => onMp (obj h x) (R1.bad 65) (fun es => ocase (delK ks path k es) (R1.bad 64) (fun r => R1.ok (V.u []) (put h x (some (O.m r)))))))
def minN (a b : Nat) : Nat := bcase (Nat.ble a b) b a
/-- so many things laid over a slice's first -/
def copyTo (h : H) (sz : Nat) (d : V) (k : Nat) (cs : List V) : R1 := bcase (Nat.beq k 0)
  (bcase (lenIs (Nat.mul k sz) cs) (R1.bad 35) (onSl d (R1.bad 36) (fun x off s n => bcase (Nat.beq s sz) (R1.bad 36) (bcase (Nat.ble k n) (R1.bad 36) ((fun r => R1.rec (fun w => R1.bad w) (fun _ h' => ocase (okN k) (R1.bad 37) (fun v => R1.ok v h')) r) (write h x off cs))))))
  (ocase (okN 0) (R1.bad 37) (fun v => R1.ok v h))
def copy (h : H) (sz : Nat) (d s : V) : R1 := ocase (lenS d) (R1.bad 38) (fun n => onS s
  (ocase (lenS s) (R1.bad 38) (fun m => ocase (cellsOf h sz s) (R1.bad 38) (fun l => copyTo h sz d (minN n m) (take (Nat.mul (minN n m) sz) l))))
  (fun t => bcase (Nat.beq sz 1) (R1.bad 38) (copyTo h sz d (minN n (len t)) (take (minN n (len t)) (zs t)))))
def clear (h : H) (sz : Nat) (z : List V) (s : V) : R1 := ocase (lenS s) (R1.bad 39) (fun n => bcase (Nat.beq n 0)
  (bcase (small n) (R1.bad 39) (onSl s (R1.bad 39) (fun x off s n => bcase (Nat.beq s sz) (R1.bad 39) (write h x off (rep z n))))) (R1.ok (V.u []) h))
/-- Parts laid into cells: each at its place, of its size. -/
def place : List (Nat × Nat × V) → List V → Option (List V) := List.rec (fun z => some z) (fun p _ ih z => bcase (isT 0 p.2.2) (bcase (lenIs p.2.1 (cellsV p.2.2)) none (ih (splice p.1 (cellsV p.2.2) z))) none)
def mm (path : List (Cd × Bool)) (mx : Bool) (a b : V) : Option V :=
  onI a none (fun k m => onI b none (fun _ n => ocase (bcase mx (cmpZ path .lss n m) (cmpZ path .gtr n m)) none (fun c => bcase c (some a) (some (V.i k n)))))
def mmf (path : List (Cd × Bool)) (mx : Bool) : List V → V → Option V := List.rec (fun a => some a) (fun b _ ih a => ocase (mm path mx a b) none ih)
def nilck (v : V) : Option V := onP v (onF v (onN v none (fun _ _ => some v)) (fun _ _ _ => some v)) (fun _ _ => some v)
def convK (en : En) (k : IntKind) (v : V) : Option V := onI v (bcase (isT 3 v) none none) (fun _ z => onLit z (okZ en.norm k (Z.conv k z)) (fun n => okI k (wrapF k n)))
def byteOk (path : List (Cd × Bool)) (z : Z) : Bool := bcase (ocase (cmpZ path .leq (Z.lit 0) z) false (fun b => b)) false (ocase (cmpZ path .lss z (Z.lit 256)) false (fun b => b))
def bytesZ (path : List (Cd × Bool)) : List V → Option (List Z) := List.rec (some []) (fun a _ ih => onI a none (fun k z => bcase (Nat.beq (kN k) 4) none (bcase (byteOk path z) none (ocase ih none (fun r => some (z :: r))))))
-- operands
def src (r : List V) (t : Tr V) : Src → V := Src.rec (fun i => ocase (nth r i) V.x (fun v => v)) (fun p => ocase (get p t) V.x (fun v => v)) (fun v => v)
def srcs (sv : Src → V) : List Src → List V := List.rec [] (fun s _ ih => sv s :: ih)
def srcO (sv : Src → V) (o : Option Src) : Option V := ocase o none (fun s => some (sv s))
def srcP (sv : Src → V) : List (Nat × Nat × Src) → List (Nat × Nat × V) := List.rec [] (fun s _ ih => (s.1, s.2.1, sv s.2.2) :: ih)
def doP : KP → En → (Src → V) → Option V := KP.rec
  (fun s _ sv => some (sv s)) (fun c a b _ sv => onB (sv c) none (fun x => bcase x (some (sv b)) (some (sv a)))) (fun z ps _ sv => ocase (place (srcP sv ps) z) none (fun l => some (V.g l))) (fun s _ sv => nilck (sv s)) (fun op a b en sv => binV en op (sv a) (sv b)) (fun cls neg a b _ sv => eqK cls neg (sv a) (sv b))
  (fun s _ sv => onB (sv s) none (fun b => okB (!b))) (fun s en sv => onI (sv s) none (fun k z => binAr en .sub k (Z.lit 0) z)) (fun s en sv => onI (sv s) none (fun k z => binBit en .xor k (Z.lit (maskI k)) z)) (fun k s en sv => convK en k (sv s)) (fun s _ sv => onS (sv s) none (fun l => some (V.s l)))
  (fun t s _ sv => some (V.n t (sv s))) (fun g a b _ sv => some (V.f g (srcs sv a) (srcs sv b))) (fun sz s lo hi mx _ sv => slice sz (sv s) (srcO sv lo) (srcO sv hi) (srcO sv mx)) (fun s lo hi _ sv => sstr (sv s) (srcO sv lo) (srcO sv hi))
  (fun off s _ sv => faddr off (sv s)) (fun off s _ sv => part1 off (sv s)) (fun off n s _ sv => partn off n (sv s)) (fun sz s i _ sv => iaddr sz (sv s) (sv i)) (fun sz n s i _ sv => aaddr sz n (sv s) (sv i))
  (fun s i _ sv => istr (sv s) (sv i)) (fun n s i _ sv => ipart1 n (sv s) (sv i)) (fun n sz s i _ sv => ipartn n sz (sv s) (sv i)) (fun i s _ sv => onU (sv s) none (fun l => nth l i)) (fun s _ sv => ocase (lenS (sv s)) none okN) (fun s _ sv => onS (sv s) none (fun l => okN (len l))) (fun n _ _ => okN n) (fun s _ sv => capV (sv s))
  (fun mx a b en sv => mm en.path mx (sv a) (sv b)) (fun mx a b c en sv => ocase (mm en.path mx (sv a) (sv b)) none (fun r => mm en.path mx r (sv c))) (fun mx l en sv => lcase (srcs sv l) none (fun a r => mmf en.path mx r a)) (fun t ok z s _ sv => tas t ok z (sv s))
def doR : KR → En → (Src → V) → H → Option V := KR.rec
  (fun s _ sv h => onP (sv s) none (fun x off => onC (obj h x) none (fun l _ _ => nth l off))) (fun n s _ sv h => onP (sv s) none (fun x off => ocase (cellsAt h x off n) none (fun l => some (V.g l))))
  (fun s _ sv h => onM (sv s) (bcase (isT 15 (sv s)) none (okN 0)) (fun x => onMp (obj h x) none (fun es => okN (len es)))) (fun ks z ok m i en sv h => lookup ks en.path h z ok (sv m) (sv i))
  (fun s en sv h => ocase (cellsOf h 1 (sv s)) none (fun l => ocase (bytesZ en.path l) none (fun z => some (V.s z))))
/-- what a new block holds, and what names it -/
def doA : KA → (Src → V) → Option (O × (BP → V)) := KA.rec
  (fun z _ => some (O.c z none true, fun x => V.p x 0)) (fun n s sv => bcase (isT 0 (sv s)) (bcase (lenIs n (cellsV (sv s))) none (some (O.c (cellsV (sv s)) none true, fun x => V.p x 0))) none)
  (fun sz n z ps sv => ocase (place (srcP sv ps) z) none (fun l => some (O.c l none true, fun x => V.sl x 0 sz n)))
  (fun sz z l c sv => asNat (sv l) none (fun l => asNat (sv c) none (fun c => bcase (Nat.ble l c) none (bcase (small c) none (bcase (small l) none (some (O.c (rep z c) none true, fun x => V.sl x 0 sz l)))))))
  (fun _ => some (O.m [], fun x => V.m x))
  (fun s sv => onS (sv s) none (fun l => bcase (small (len l)) none (some (O.c (zs l) none true, fun x => V.sl x 0 1 (len l)))))
section
def ovOr (o : Option R1) (r : R1) : R1 := ocase o r (fun r => r)
def doCall : Cb → En → (Nat → List V → H → R1) → (Src → V) → List Src → H → R1 := Cb.rec (fun g _ call sv as h => call g (srcs sv as) h)
  (fun s _ call sv as h => onF (sv s) (R1.bad 75) (fun g a b => call g (app a (app (srcs sv as) b)) h)) (fun s m en call sv as h => onN (sv s) (R1.bad 77) (fun ty v => ocase (en.mts ty m) (R1.bad 76) (fun g => call g (v :: srcs sv as) h)))
def doE : KE → En → (Nat → List V → H → R1) → (Src → V) → H → R1 := KE.rec
  (fun n s v _ _ sv h => onP (sv s) (R1.bad 33) (fun x off => (fun vs => bcase (lenIs n vs) (R1.bad 34) (write h x off vs)) (cellsV (sv v)))) (fun ks m i v en _ sv h => mapup ks en.path h (sv m) (sv i) (sv v)) (fun c as en call sv h => doCall c en call sv as h)
  (fun sz by_ s x _ _ sv h => append h sz by_ (sv s) (sv x)) (fun sz by_ z s x _ _ sv h => asNat (sv x) (R1.bad 80) (fun n => bcase (small n) (R1.bad 80) (appTo h sz by_ (sv s) n (rep z n))))
  (fun sz d s _ _ sv h => copy h sz (sv d) (sv s)) (fun sz z s _ _ sv h => clear h sz z (sv s)) (fun ks m i en _ sv h => del ks en.path h (sv m) (sv i))
def okR (o : Option V) (h : H) (w : Nat) : R1 := ocase o (R1.bad w) (fun v => R1.ok v h)
def doK : K → En → (Nat → List V → H → R1) → (Src → V) → H → R1 := K.rec (fun k en _ sv h => okR (doP k en sv) h 90) (fun k en _ sv h => okR (doR k en sv h) h 91) (fun k _ _ sv h => ocase (doA k sv) (R1.bad 92) (fun p => fresh h p.1 p.2)) (fun k en call sv h => doE k en call sv h) (fun w _ _ _ _ => R1.bad w)
/-- Is it wanted? (none: not told) -/
def want (sv : Src → V) (g : Option (Src × Bool)) : Option Bool := ocase g (some true) (fun p => (fun v => onB v (onU v none (fun _ => some false)) (fun b => some (bcase p.2 (!b) b))) (sv p.1))
def doG (en : En) (call : Nat → List V → H → R1) (sv : Src → V) (h : H) (g : Option (Src × Bool)) (k : K) : R1 := ocase (want sv g) (R1.bad 81) (fun b => bcase b (R1.ok (V.u []) h) (doK k en call sv h))
end
-- equal values
def l0 : List Z → Bool := List.rec true (fun _ _ _ => false)
def zsBeq : List Z → List Z → Bool := List.rec l0 (fun a _ ih m => lcase m false (fun b t => bcase (zBeq a b) false (ih t)))
def v0 : List V → Bool := List.rec true (fun _ _ _ => false)
def vBeq : V → V → Bool := V.rec (motive_1 := fun _ => V → Bool) (motive_2 := fun _ => List V → Bool)
  (fun _ => false) (fun x v => onB v false (fun y => bcase x (!y) y)) (fun k n v => onI v false (fun j m => bcase (Nat.beq (kN k) (kN j)) false (zBeq n m))) (fun l v => onS v false (fun m => zsBeq l m))
  (isT 4) (fun x o v => onP v false (fun y q => bcase (bpEq x y) false (Nat.beq o q))) (isT 6) (fun x o v => onE v false (fun y q => bcase (bpEq x y) false (Nat.beq o q)))
  (fun x o s n v => onSl v false (fun y q s' m => bcase (bpEq x y) false (bcase (Nat.beq o q) false (bcase (Nat.beq s s') false (Nat.beq n m)))))
  (isT 9) (fun g _ _ iha ihb v => onF v false (fun g' a b => bcase (Nat.beq g g') false (bcase (iha a) false (ihb b)))) (isT 11) (fun t _ ih v => onN v false (fun t' w => bcase (Nat.beq t t') false (ih w)))
  (fun _ ih v => onG v false ih) (fun _ ih v => onU v false ih) (isT 15) (fun x v => onM v false (fun y => bpEq x y)) v0 (fun _ _ iha ihl m => lcase m false (fun b t => bcase (iha b) false (ihl t)))

def vsBeq' : List V → List V → Bool := V.rec_1 (motive_1 := fun _ => V → Bool) (motive_2 := fun _ => List V → Bool)

  (fun _ => false) (fun x v => onB v false (fun y => bcase x (!y) y)) (fun k n v => onI v false (fun j m => bcase (Nat.beq (kN k) (kN j)) false (zBeq n m))) (fun l v => onS v false (fun m => zsBeq l m))
  (isT 4) (fun x o v => onP v false (fun y q => bcase (bpEq x y) false (Nat.beq o q))) (isT 6) (fun x o v => onE v false (fun y q => bcase (bpEq x y) false (Nat.beq o q)))
  (fun x o s n v => onSl v false (fun y q s' m => bcase (bpEq x y) false (bcase (Nat.beq o q) false (bcase (Nat.beq s s') false (Nat.beq n m)))))
  (isT 9) (fun g _ _ iha ihb v => onF v false (fun g' a b => bcase (Nat.beq g g') false (bcase (iha a) false (ihb b)))) (isT 11) (fun t _ ih v => onN v false (fun t' w => bcase (Nat.beq t t') false (ih w)))
  (fun _ ih v => onG v false ih) (fun _ ih v => onU v false ih) (isT 15) (fun x v => onM v false (fun y => bpEq x y)) v0 (fun _ _ iha ihl m => lcase m false (fun b t => bcase (iha b) false (ihl t)))

def vsBeq : List V → List V → Bool := List.rec v0 (fun a _ ih m => lcase m false (fun b t => bcase (vBeq a b) false (ih t)))
def isEmp : List (V × V) → Bool := List.rec true (fun _ _ _ => false)
/-- the block that v names holds just this, and is nobody's part -/
def holds (h : H) (o : O) (v : V) : Bool :=
  (fun ox => ocs o (oms o false (fun es => bcase (isEmp es) false (onMp ox false isEmp))) (fun l _ _ => onC ox false (fun l' p w => bcase w false (ocase p (vsBeq l l') (fun _ => false)))))
    (ocase (onP v (onSl v (onM v none (fun x => some x)) (fun x _ _ _ => some x)) (fun x _ => some x)) none (fun x => obj h x))
/-- looked at again: it gives what it gave -/
def stillK : K → En → (Src → V) → H → V → Bool := K.rec (fun _ _ _ _ _ => true) (fun k en sv h v => ocase (doR k en sv h) false (fun u => vBeq u v)) (fun k _ sv h v => ocase (doA k sv) false (fun p => holds h p.1 v)) (fun _ _ _ _ _ => false) (fun _ _ _ _ _ => false)
def still (en : En) (sv : Src → V) (h : H) (g : Option (Src × Bool)) (k : K) (v : V) : Bool := ocase (want sv g) false (fun b => bcase b true (stillK k en sv h v))
def stillA : Ag → En → Tr V → List V → H → Bool := Ag.rec (fun n g k en t r h => lcase (drop n r) false (fun v r' => still en (src r' t) h g k v))
def stills (en : En) (t : Tr V) (r : List V) (h : H) : List Ag → Bool := List.rec true (fun a _ ih => bcase (stillA a en t r h) false ih)
/-- the results of a region, and the memory behind it -/
inductive RR where | bad (why : Nat) | ok (r : List V) (h : H)
def r1 {β : Type} : R1 → (Nat → β) → (V → H → β) → β := R1.rec (fun w g _ => g w) (fun v h _ f => f v h)
def rr {β : Type} : RR → (Nat → β) → (List V → H → β) → β := RR.rec (fun w g _ => g w) (fun r h _ f => f r h)
def it {β : Type} : It → (Option (Src × Bool) → K → List Ag → β) → β := It.rec (fun g k a f => f g k a)
def runIts (en : En) (call : Nat → List V → H → R1) (t : Tr V) : List It → List V → H → RR :=
  List.rec (fun r h => RR.ok r h) (fun i _ ih r h => it i (fun g k ag => r1 (doG en call (src r t) h g k) RR.bad (fun v h' => (fun r' => bcase (stills en t r' h' ag) (RR.bad 82) (ih r' h')) (v :: r))))
def commit (r : List V) : List (BP × Nat) → Tr V → Tr V := List.rec (fun t => t) (fun c _ ih t => ih (set c.1 (nth r c.2) t))
def rv1 : Rv → Tr V → H → Option V := Rv.rec (fun p t _ => get p t)
  (fun p t h => ocase (get p t) none (fun v => onP v none (fun x off => onC (obj h x) none (fun l _ _ => nth l off)))) (fun n p t h => ocase (get p t) none (fun v => onP v none (fun x off => ocase (cellsAt h x off n) none (fun l => some (V.g l)))))
def rvs (t : Tr V) (h : H) : List Rv → Option (List V) := List.rec (some []) (fun r _ ih => ocase (rv1 r t h) none (fun v => ocase ih none (fun vs => some (v :: vs))))
def fin (rs : List Rv) (t : Tr V) (h : H) : R1 := ocase (rvs t h rs) (R1.bad 83) (fun vs => lcase vs (R1.ok (V.u []) h) (fun v l => lcase l (R1.ok v h) (fun _ _ => R1.ok (V.u vs) h)))
def finX : X → List Rv → R1 := X.rec (fun t h rs => fin rs t h) (fun _ _ _ _ => R1.bad 84) (fun t h rs => fin rs t h) (fun w _ => R1.bad w)
def init' : List V → BP → Tr V → Tr V := List.rec (fun _ t => t) (fun a _ ih p t => ih (succ p) (set p (some a) t))
abbrev Rn := C2 → Tr V → H → X
def runF : CF → Tr V → Rn → List V → H → R1 := CF.rec (fun n body rs g rn as h => bcase (Nat.ble (len as) n) (R1.bad 85) (finX (rn body (init' as BP.one g) h) rs))
def callBy (en : En) (rn : Rn) (g : Nat) (as : List V) (h : H) : R1 := ovOr (en.ov g as h) (ocase (get (bpOf g) en.fns) (R1.bad (1000 + g)) (fun cf => runF cf en.gt rn as h))
def doReg (its : List It) (cm : List (BP × Nat)) (en : En) (rn : Rn) (t : Tr V) (h : H) : X := rr (runIts en (callBy en rn) t its [] h) X.bad (fun r h => X.nm (commit r cm t) h)
def seqK : X → C2 → Rn → X := X.rec (fun t h b rn => rn b t h) (fun i t h _ _ => X.ex i t h) (fun t h _ _ => X.rt t h) (fun w _ _ => X.bad w)
def blockK : X → Nat → X := X.rec (fun t h _ => X.nm t h) (fun j t h id => bcase (Nat.beq j id) (X.ex j t h) (X.nm t h)) (fun t h _ => X.rt t h) (fun w _ => X.bad w)
def step : C2 → En → Rn → Tr V → H → X := C2.rec (fun _ _ t h => X.nm t h) (fun its cm en rn t h => doReg its cm en rn t h) (fun a b _ _ _ rn t h => seqK (rn a t h) b rn)
  (fun s a b _ _ _ rn t h => onB (src [] t s) (X.bad 86) (fun x => bcase x (rn b t h) (rn a t h))) (fun id c _ _ rn t h => blockK (rn c t h) id) (fun b _ _ rn t h => seqK (rn b t h) (C2.loop b) rn) (fun id _ _ t h => X.ex id t h) (fun _ _ t h => X.rt t h) (fun w _ _ _ _ => X.bad w)
def run (en : En) : Nat → Rn := Nat.rec (fun _ _ _ => X.bad 87) (fun _ rn c => step c en rn)
def call (en : En) (f : Nat) (g : Nat) (as : List V) (h : H) : R1 := callBy en (run en f) g as h
end
end Ev
end Go.Proofs.Ytlajbngfdbnoiaa
