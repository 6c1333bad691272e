/- A small machine for programs, run by the kernel: its values, its memory, its code. Nothing is claimed here. -/
import Derived.WalkKit
import Derived.Below
import Derived.Laws.Slices
import Derived.Laws.Entries
namespace Go.Proofs.YtoinghomkcjkcaaGreatDoor
set_option linter.unusedSimpArgs false
set_option linter.unusedVariables false
set_option linter.constructorNameAsVariable false
open Go Go.RowKit

/-- Numbers from one on, in twos. -/
inductive BP where | one | e (p : BP) | o (p : BP)
  deriving DecidableEq
inductive Tr (α : Type) where | lf | nd (l : Tr α) (v : Option α) (r : Tr α)
/-- A number: told, or a named one, or reckoned from such. -/
inductive Z where | lit (n : Int) | var (i : Nat) | bin (op : BinOp) (k : IntKind) (a b : Z) | conv (k : IntKind) (a : Z)
/-- a number told -/
instance (n : Nat) : OfNat Z n := ⟨Z.lit (Int.ofNat n)⟩
inductive V where
  | x | b (x : Bool) | i (k : IntKind) (n : Z) | s (l : List Z) | p0 | p (x : BP) (off : Nat) | s0 | e (x : BP) (off : Nat) | sl (x : BP) (off sz len : Nat)
  | f0 | f (g : Nat) (first caps : List V) | n0 | n (t : Nat) (v : V) | g (l : List V) | u (l : List V) | m0 | m (x : BP) | sy (x : BP) (z l : Z)
/-- A block: cells (whose eldest part may be another's too), or a map. -/
inductive O where | c (l : List V) (par : Option BP) (own : Bool) | m (es : List (V × V))
inductive H where | mk (nx : BP) (mem : Tr O)
inductive R1 where | bad (why : Nat) | ok (v : V) (h : H)
/-- Where an operand comes from: the region's own results (the last is 0), a slot, or it is told. -/
inductive Src where | loc (i : Nat) | tmp (t : BP) | val (v : V)
inductive Cb where | fn (g : Nat) | val (s : Src) | inv (s : Src) (m : String)
/-- What only reckons. -/
inductive KP where
  | mv (s : Src) | pick (c a b : Src) | build (z : List V) (ps : List (Nat × Nat × Src)) | nilck (s : Src) | bin (op : BinOp) (a b : Src) | eq (cls : Nat) (neg : Bool) (a b : Src) | not (s : Src) | neg (s : Src) | inv (s : Src) | conv (k : IntKind) (s : Src) | txt (s : Src)
  | mkif (t : Nat) (s : Src) | mkfn (g : Nat) (a b : List Src) | slice (sz : Nat) (s : Src) (lo hi mx : Option Src) | sstr (s : Src) (lo hi : Option Src)
  | faddr (off : Nat) (s : Src) | part1 (off : Nat) (s : Src) | partn (off n : Nat) (s : Src) | iaddr (sz : Nat) (s i : Src) | aaddr (sz len : Nat) (s i : Src)
  | istr (s i : Src) | ipart1 (len : Nat) (s i : Src) | ipartn (len sz : Nat) (s i : Src) | ext (i : Nat) (s : Src) | len (s : Src) | lens (s : Src) | alen (n : Nat) | cap (s : Src) | mm (mx : Bool) (a b : Src) | mm3 (mx : Bool) (a b c : Src) | mmn (mx : Bool) (l : List Src) | tas (t : Nat) (ok : Bool) (z : V) (s : Src)
/-- What reads. -/
inductive KR where | load1 (s : Src) | loadn (n : Nat) (s : Src) | mlen (s : Src) | lookup (ks : Nat) (z : V) (ok : Bool) (m i : Src) | str (s : Src)
/-- What makes memory. -/
inductive KA where | alloc (z : List V) | box (n : Nat) (s : Src) | bslice (sz len : Nat) (z : List V) (ps : List (Nat × Nat × Src)) | mkslice (sz : Nat) (z : List V) (l c : Src) | mkmap | s2b (s : Src)
/-- What acts. -/
inductive KE where
  | store (n : Nat) (s v : Src) | mapup (ks : Nat) (m i v : Src) | call (c : Cb) (as : List Src) | app (sz bytes : Nat) (s x : Src) | appz (sz bytes : Nat) (z : List V) (s x : Src)
  | copy (sz : Nat) (d s : Src) | clear (sz : Nat) (z : List V) (s : Src) | del (ks : Nat) (m i : Src)
inductive K where | pu (k : KP) | rd (k : KR) | al (k : KA) | ef (k : KE) | no (why : Nat)
/-- What is looked at again behind one that acts: so far back; its guard; what it was. -/
inductive Ag where | mk (back : Nat) (g : Option (Src × Bool)) (k : K)
inductive It where | mk (g : Option (Src × Bool)) (k : K) (again : List Ag)
inductive C2 where
  | skip | reg (its : List It) (cm : List (BP × Nat)) | seq (a b : C2) | cond (c : Src) (a b : C2) | block (id : Nat) (c : C2) | loop (c : C2) | exit (id : Nat) | ret | bad (why : Nat)
inductive Rv where | tmp (t : BP) | cell1 (t : BP) | celln (n : Nat) (t : BP)
inductive CF where | mk (n : Nat) (body : C2) (rs : List Rv)
inductive X where | nm (t : Tr V) (h : H) | ex (id : Nat) (t : Tr V) (h : H) | rt (t : Tr V) (h : H) | bad (why : Nat)
abbrev Cd := BinOp × Z × Z
/-- What is known of the named numbers (comparisons, and what some come to); the functions; what is known of some; the methods. -/
structure En where
  path : List (Cd × Bool)
  norm : List (Z × Z)
  fns : Tr CF
  ov : Nat → List V → H → Option R1
  mts : Nat → String → Option Nat
  gt : Tr V

namespace Ev
noncomputable section
def bpOf' : Nat → Nat → BP := Nat.rec (fun _ => BP.one) (fun _ ih m => Bool.rec (Bool.rec (BP.e (ih (Nat.shiftRight m 1))) (BP.o (ih (Nat.shiftRight m 1))) (Nat.beq (Nat.land m 1) 1)) BP.one (Nat.ble m 1))
def bpOf (n : Nat) : BP := bpOf' 40 (n + 1)
def succ : BP → BP := BP.rec (BP.e BP.one) (fun p _ => BP.o p) (fun _ q => BP.e q)
def bpO : BP → Bool := BP.rec true (fun _ _ => false) (fun _ _ => false)
def bpE1 : BP → (BP → Bool) → Bool := BP.rec (fun _ => false) (fun p _ k => k p) (fun _ _ _ => false)
def bpE2 : BP → (BP → Bool) → Bool := BP.rec (fun _ => false) (fun _ _ _ => false) (fun p _ k => k p)
def bpEq : BP → BP → Bool := BP.rec bpO (fun _ ih q => bpE1 q ih) (fun _ ih q => bpE2 q ih)
-- trees
variable {α : Type}
def trV : Tr α → Option α := Tr.rec none (fun _ v _ _ _ => v)
def onL : Tr α → (Tr α → Option α) → Option α := Tr.rec (fun _ => none) (fun l _ _ _ _ k => k l)
def onR : Tr α → (Tr α → Option α) → Option α := Tr.rec (fun _ => none) (fun _ _ r _ _ k => k r)
def get : BP → Tr α → Option α := BP.rec trV (fun _ ih t => onL t ih) (fun _ ih t => onR t ih)
def mkL : Tr α → Option α → Tr α → Tr α := Tr.rec (fun v r => Tr.nd Tr.lf v r) (fun a b c _ _ v r => Tr.nd (Tr.nd a b c) v r)
def mkR : Tr α → Tr α → Option α → Tr α := Tr.rec (fun l v => Tr.nd l v Tr.lf) (fun a b c _ _ l v => Tr.nd l v (Tr.nd a b c))
def setV : Tr α → Option α → Tr α := Tr.rec (fun x => Tr.nd Tr.lf x Tr.lf) (fun l _ r _ _ x => Tr.nd l x r)
def setL : Tr α → (Option α → Tr α → Tr α) → Option α → Tr α := Tr.rec (fun ih x => mkL (ih x Tr.lf) none Tr.lf) (fun l v r _ _ ih x => mkL (ih x l) v r)
def setR : Tr α → (Option α → Tr α → Tr α) → Option α → Tr α := Tr.rec (fun ih x => mkR (ih x Tr.lf) Tr.lf none) (fun l v r _ _ ih x => mkR (ih x r) l v)
def set : BP → Option α → Tr α → Tr α := BP.rec (fun x t => setV t x) (fun _ ih x t => setL t ih x) (fun _ ih x t => setR t ih x)
-- cases with closed minors
def ncase {β : Type} : Nat → β → (Nat → β) → β := Nat.rec (fun z _ => z) (fun m _ _ s => s m)
def bcase {β : Type} : Bool → β → β → β := Bool.rec (fun f _ => f) (fun _ t => t)
def ocase {β : Type} : Option α → β → (α → β) → β := Option.rec (fun z _ => z) (fun a _ s => s a)
def lcase {β : Type} : List α → β → (α → List α → β) → β := List.rec (fun z _ => z) (fun a l _ _ s => s a l)
-- lists
def nth : List α → Nat → Option α := List.rec (fun _ => none) (fun a _ ih i => ncase i (some a) ih)
def drop : Nat → List α → List α := Nat.rec (fun l => l) (fun _ ih l => lcase l [] (fun _ t => ih t))
def consS : List α → α → List α := List.rec (fun a => [a]) (fun b t _ a => a :: b :: t)
def take : Nat → List α → List α := Nat.rec (fun _ => []) (fun _ ih l => lcase l [] (fun a t => consS (ih t) a))
def app : List α → List α → List α := List.rec (fun m => m) (fun a _ ih m => consS (ih m) a)
def len : List α → Nat := List.rec 0 (fun _ _ n => Nat.succ n)
/-- these laid over it from the front -/
def over : List α → List α → List α := List.rec (fun l => l) (fun v _ ih l => lcase l [] (fun _ t => consS (ih t) v))
def splice : Nat → List α → List α → List α := Nat.rec (fun vs l => over vs l) (fun _ ih vs l => lcase l [] (fun a t => consS (ih vs t) a))
def rep (z : List α) : Nat → List α := Nat.rec [] (fun _ ih => app z ih)
-- numbers
def ipos {β : Type} : Int → (Nat → β) → (Nat → β) → β := Int.rec (fun m f _ => f m) (fun m _ g => g m)
def ltI (a b : Int) : Bool := ipos a (fun m => ipos b (fun n => Nat.blt m n) (fun _ => false)) (fun m => ipos b (fun _ => true) (fun n => Nat.blt n m))
def eqI (a b : Int) : Bool := ipos a (fun m => ipos b (fun n => Nat.beq m n) (fun _ => false)) (fun m => ipos b (fun _ => false) (fun n => Nat.beq m n))
def ltN (c : Nat) : Nat → Bool := fun m => Nat.blt m c
def noN : Nat → Bool := fun _ => false
def inR : IntKind → Int → Bool := IntKind.rec
  (fun n => ipos n (ltN 128) (ltN 128)) (fun n => ipos n (ltN 32768) (ltN 32768)) (fun n => ipos n (ltN 2147483648) (ltN 2147483648)) (fun n => ipos n (ltN 9223372036854775808) (ltN 9223372036854775808))
  (fun n => ipos n (ltN 256) noN) (fun n => ipos n (ltN 65536) noN) (fun n => ipos n (ltN 4294967296) noN) (fun n => ipos n (ltN 18446744073709551616) noN)
def wrapF (k : IntKind) (n : Int) : Int := bcase (inR k n) (k.wrap n) n
def onLit {β : Type} : Z → β → (Int → β) → β := Z.rec (fun n _ f => f n) (fun _ g _ => g) (fun _ _ _ _ _ _ g _ => g) (fun _ _ _ g _ => g)
def onVar {β : Type} : Z → β → (Nat → β) → β := Z.rec (fun _ g _ => g) (fun i _ f => f i) (fun _ _ _ _ _ _ g _ => g) (fun _ _ _ g _ => g)
def onBin {β : Type} : Z → β → (BinOp → IntKind → Z → Z → β) → β := Z.rec (fun _ g _ => g) (fun _ g _ => g) (fun op k a b _ _ _ f => f op k a b) (fun _ _ _ g _ => g)
def onConv {β : Type} : Z → β → (IntKind → Z → β) → β := Z.rec (fun _ g _ => g) (fun _ g _ => g) (fun _ _ _ _ _ _ g _ => g) (fun k a _ _ f => f k a)
def kN : IntKind → Nat := IntKind.rec 0 1 2 3 4 5 6 7
def bN : BinOp → Nat := fun op => BinOp.ctorIdx op
def zBeq : Z → Z → Bool := Z.rec (fun m b => onLit b false (eqI m)) (fun i b => onVar b false (Nat.beq i))
  (fun op k _ _ iha ihb b => onBin b false (fun op' k' a' b' => bcase (Nat.beq (bN op) (bN op')) false (bcase (Nat.beq (kN k) (kN k')) false (bcase (iha a') false (ihb b')))))
  (fun k _ ih b => onConv b false (fun k' a' => bcase (Nat.beq (kN k) (kN k')) false (ih a')))
/-- A told comparison. -/
def cmpI : BinOp → Int → Int → Bool := BinOp.rec (fun _ _ => false) (fun _ _ => false) (fun _ _ => false) (fun _ _ => false) (fun _ _ => false) (fun _ _ => false) (fun _ _ => false) (fun _ _ => false) (fun _ _ => false) (fun _ _ => false) (fun _ _ => false)
  eqI (fun a b => !eqI a b) ltI (fun a b => !ltI b a) (fun a b => ltI b a) (fun a b => !ltI a b)
def cdBeq (c d : Cd) : Bool := bcase (Nat.beq (bN c.1) (bN d.1)) false (bcase (zBeq c.2.1 d.2.1) false (zBeq c.2.2 d.2.2))
def look (c : Cd) : List (Cd × Bool) → Option Bool := List.rec none (fun p _ ih => bcase (cdBeq c p.1) ih (some p.2))
/-- How a comparison comes out. -/
def cmpZ (path : List (Cd × Bool)) (op : BinOp) (a b : Z) : Option Bool :=
  onLit a (look (op, a, b) path) (fun m => onLit b (look (op, a, b) path) (fun n => some (cmpI op m n)))
def lookN (z : Z) : List (Z × Z) → Option Z := List.rec none (fun p _ ih => bcase (zBeq z p.1) ih (some p.2))
/-- A told number with its parts laid open. -/
def forceI {β : Type} (n : Int) (g : β) (f : Int → β) : β := ipos n (fun m => bcase (Nat.beq m m) g (f (Int.ofNat m))) (fun m => bcase (Nat.beq m m) g (f (Int.negSucc m)))
def okI (k : IntKind) (n : Int) : Option V := forceI n none (fun n => some (V.i k (Z.lit n)))
def okB (b : Bool) : Option V := bcase b (some (V.b false)) (some (V.b true))
def okOB (o : Option Bool) : Option V := ocase o none okB
/-- One that is reckoned from named ones. -/
def okZ (norm : List (Z × Z)) (k : IntKind) (z : Z) : Option V := ocase (lookN z norm) (some (V.i k z)) (fun y => onLit y (some (V.i k y)) (fun n => okI k n))
def divI : BinOp → IntKind → Int → Int → Int := BinOp.rec (fun _ _ _ => 0) (fun _ _ _ => 0) (fun _ _ _ => 0) (fun k a b => k.wrap (a.tdiv b)) (fun _ a b => a.tmod b) (fun _ _ _ => 0) (fun _ _ _ => 0) (fun _ _ _ => 0) (fun _ _ _ => 0) (fun _ _ _ => 0) (fun _ _ _ => 0) (fun _ _ _ => 0) (fun _ _ _ => 0) (fun _ _ _ => 0) (fun _ _ _ => 0) (fun _ _ _ => 0) (fun _ _ _ => 0)
def arI : BinOp → Int → Int → Int := BinOp.rec Int.add Int.sub Int.mul (fun _ _ => 0) (fun _ _ => 0) (fun _ _ => 0) (fun _ _ => 0) (fun _ _ => 0) (fun _ _ => 0) (fun _ _ => 0) (fun _ _ => 0) (fun _ _ => 0) (fun _ _ => 0) (fun _ _ => 0) (fun _ _ => 0) (fun _ _ => 0) (fun _ _ => 0)
def bitI : BinOp → IntKind → Int → Int → Int := BinOp.rec (fun _ _ _ => 0) (fun _ _ _ => 0) (fun _ _ _ => 0) (fun _ _ _ => 0) (fun _ _ _ => 0)
  (fun k a b => k.wrap (BitVec.ofInt k.bits a &&& BitVec.ofInt k.bits b).toNat) (fun k a b => k.wrap (BitVec.ofInt k.bits a ||| BitVec.ofInt k.bits b).toNat) (fun k a b => k.wrap (BitVec.ofInt k.bits a ^^^ BitVec.ofInt k.bits b).toNat) (fun _ _ _ => 0) (fun _ _ _ => 0)
  (fun k a b => k.wrap (BitVec.ofInt k.bits a &&& ~~~(BitVec.ofInt k.bits b)).toNat) (fun _ _ _ => 0) (fun _ _ _ => 0) (fun _ _ _ => 0) (fun _ _ _ => 0) (fun _ _ _ => 0) (fun _ _ _ => 0)
def maskI : IntKind → Int := IntKind.rec (-1) (-1) (-1) (-1) 255 65535 4294967295 18446744073709551615
def shI : BinOp → IntKind → Int → Int → Int := BinOp.rec (fun _ _ _ => 0) (fun _ _ _ => 0) (fun _ _ _ => 0) (fun _ _ _ => 0) (fun _ _ _ => 0) (fun _ _ _ => 0) (fun _ _ _ => 0) (fun _ _ _ => 0)
  (fun k x y => k.wrap (x * 2 ^ (min y.toNat k.bits))) (fun k x y => x.fdiv (2 ^ (min y.toNat k.bits))) (fun _ _ _ => 0) (fun _ _ _ => 0) (fun _ _ _ => 0) (fun _ _ _ => 0) (fun _ _ _ => 0) (fun _ _ _ => 0) (fun _ _ _ => 0)
/-- both told -/
def lit2 {β : Type} (a b : Z) (g : β) (f : Int → Int → β) : β := onLit a g (fun m => onLit b g (fun n => f m n))
def binAr (en : En) (op : BinOp) (k : IntKind) (a b : Z) : Option V := lit2 a b (okZ en.norm k (Z.bin op k a b)) (fun m n => okI k (wrapF k (arI op m n)))
def binDiv (en : En) (op : BinOp) (k : IntKind) (a b : Z) : Option V := ocase (cmpZ en.path .eql b (Z.lit 0)) none (fun z => bcase z (lit2 a b (okZ en.norm k (Z.bin op k a b)) (fun m n => okI k (divI op k m n))) none)
def binBit (en : En) (op : BinOp) (k : IntKind) (a b : Z) : Option V := lit2 a b (okZ en.norm k (Z.bin op k a b)) (fun m n => okI k (bitI op k m n))
def binSh (en : En) (op : BinOp) (k : IntKind) (a b : Z) : Option V := ocase (cmpZ en.path .lss b (Z.lit 0)) none (fun z => bcase z (lit2 a b (okZ en.norm k (Z.bin op k a b)) (fun m n => okI k (shI op k m n))) none)
def cmpK (en : En) (op : BinOp) (a b : Z) : Option V := okOB (cmpZ en.path op a b)
/-- Two numbers of a kind. -/
def binI : BinOp → En → IntKind → Z → Z → Option V := BinOp.rec
  (fun en k a b => binAr en .add k a b) (fun en k a b => binAr en .sub k a b) (fun en k a b => binAr en .mul k a b) (fun en k a b => binDiv en .quo k a b) (fun en k a b => binDiv en .rem k a b)
  (fun en k a b => binBit en .and k a b) (fun en k a b => binBit en .or k a b) (fun en k a b => binBit en .xor k a b) (fun en k a b => binSh en .shl k a b) (fun en k a b => binSh en .shr k a b) (fun en k a b => binBit en .andNot k a b)
  (fun en _ a b => cmpK en .eql a b) (fun en _ a b => cmpK en .neq a b) (fun en _ a b => cmpK en .lss a b) (fun en _ a b => cmpK en .leq a b) (fun en _ a b => cmpK en .gtr a b) (fun en _ a b => cmpK en .geq a b)
/-- Two texts: equal? lesser? -/
def sNil : List Z → Option Bool := List.rec (some true) (fun _ _ _ => some false)
def sLtNil : List Z → Option Bool := List.rec (some false) (fun _ _ _ => some true)
def sEq (path : List (Cd × Bool)) : List Z → List Z → Option Bool :=
  List.rec sNil (fun x _ ih b => lcase b (some false) (fun y t => ocase (cmpZ path .eql x y) none (fun e => bcase e (some false) (ih t))))
def sLt (path : List (Cd × Bool)) : List Z → List Z → Option Bool :=
  List.rec sLtNil (fun x _ ih b => lcase b (some false) (fun y t => ocase (cmpZ path .lss x y) none (fun l => bcase l (ocase (cmpZ path .eql x y) none (fun e => bcase e (some false) (ih t))) (some true))))
def oNot (o : Option Bool) : Option Bool := ocase o none (fun b => some (!b))
def binS : BinOp → List (Cd × Bool) → List Z → List Z → Option V := BinOp.rec
  (fun _ a b => bcase (Nat.ble (len a) 8000000) none (bcase (Nat.ble (len b) 8000000) none (some (V.s (app a b))))) (fun _ _ _ => none) (fun _ _ _ => none) (fun _ _ _ => none) (fun _ _ _ => none) (fun _ _ _ => none) (fun _ _ _ => none) (fun _ _ _ => none) (fun _ _ _ => none) (fun _ _ _ => none) (fun _ _ _ => none)
  (fun p a b => okOB (sEq p a b)) (fun p a b => okOB (oNot (sEq p a b))) (fun p a b => okOB (sLt p a b)) (fun _ _ _ => none) (fun _ _ _ => none) (fun _ _ _ => none)
def onI {β : Type} : V → β → (IntKind → Z → β) → β := V.rec (motive_1 := fun _ => β → (IntKind → Z → β) → β) (motive_2 := fun _ => β → (IntKind → Z → β) → β)
  (fun g _ => g) (fun _ g _ => g) (fun k z _ f => f k z) (fun _ g _ => g) (fun g _ => g) (fun _ _ g _ => g) (fun g _ => g) (fun _ _ g _ => g) (fun _ _ _ _ g _ => g) (fun g _ => g) (fun _ _ _ _ _ g _ => g) (fun g _ => g) (fun _ _ _ g _ => g) (fun _ _ g _ => g) (fun _ _ g _ => g) (fun g _ => g) (fun _ g _ => g) (fun _ _ _ g _ => g) (fun g _ => g) (fun _ _ _ _ g _ => g)
def onB {β : Type} : V → β → (Bool → β) → β := V.rec (motive_1 := fun _ => β → (Bool → β) → β) (motive_2 := fun _ => β → (Bool → β) → β)
  (fun g _ => g) (fun x _ f => f x) (fun _ _ g _ => g) (fun _ g _ => g) (fun g _ => g) (fun _ _ g _ => g) (fun g _ => g) (fun _ _ g _ => g) (fun _ _ _ _ g _ => g) (fun g _ => g) (fun _ _ _ _ _ g _ => g) (fun g _ => g) (fun _ _ _ g _ => g) (fun _ _ g _ => g) (fun _ _ g _ => g) (fun g _ => g) (fun _ g _ => g) (fun _ _ _ g _ => g) (fun g _ => g) (fun _ _ _ _ g _ => g)
def onS {β : Type} : V → β → (List Z → β) → β := V.rec (motive_1 := fun _ => β → (List Z → β) → β) (motive_2 := fun _ => β → (List Z → β) → β)
  (fun g _ => g) (fun _ g _ => g) (fun _ _ g _ => g) (fun l _ f => f l) (fun g _ => g) (fun _ _ g _ => g) (fun g _ => g) (fun _ _ g _ => g) (fun _ _ _ _ g _ => g) (fun g _ => g) (fun _ _ _ _ _ g _ => g) (fun g _ => g) (fun _ _ _ g _ => g) (fun _ _ g _ => g) (fun _ _ g _ => g) (fun g _ => g) (fun _ g _ => g) (fun _ _ _ g _ => g) (fun g _ => g) (fun _ _ _ _ g _ => g)
def onP {β : Type} : V → β → (BP → Nat → β) → β := V.rec (motive_1 := fun _ => β → (BP → Nat → β) → β) (motive_2 := fun _ => β → (BP → Nat → β) → β)
  (fun g _ => g) (fun _ g _ => g) (fun _ _ g _ => g) (fun _ g _ => g) (fun g _ => g) (fun x o _ f => f x o) (fun g _ => g) (fun _ _ g _ => g) (fun _ _ _ _ g _ => g) (fun g _ => g) (fun _ _ _ _ _ g _ => g) (fun g _ => g) (fun _ _ _ g _ => g) (fun _ _ g _ => g) (fun _ _ g _ => g) (fun g _ => g) (fun _ g _ => g) (fun _ _ _ g _ => g) (fun g _ => g) (fun _ _ _ _ g _ => g)
def onSl {β : Type} : V → β → (BP → Nat → Nat → Nat → β) → β := V.rec (motive_1 := fun _ => β → (BP → Nat → Nat → Nat → β) → β) (motive_2 := fun _ => β → (BP → Nat → Nat → Nat → β) → β)
  (fun g _ => g) (fun _ g _ => g) (fun _ _ g _ => g) (fun _ g _ => g) (fun g _ => g) (fun _ _ g _ => g) (fun g _ => g) (fun _ _ g _ => g) (fun x o s n _ f => f x o s n) (fun g _ => g) (fun _ _ _ _ _ g _ => g) (fun g _ => g) (fun _ _ _ g _ => g) (fun _ _ g _ => g) (fun _ _ g _ => g) (fun g _ => g) (fun _ g _ => g) (fun _ _ _ g _ => g) (fun g _ => g) (fun _ _ _ _ g _ => g)
def onE {β : Type} : V → β → (BP → Nat → β) → β := V.rec (motive_1 := fun _ => β → (BP → Nat → β) → β) (motive_2 := fun _ => β → (BP → Nat → β) → β)
  (fun g _ => g) (fun _ g _ => g) (fun _ _ g _ => g) (fun _ g _ => g) (fun g _ => g) (fun _ _ g _ => g) (fun g _ => g) (fun x o _ f => f x o) (fun _ _ _ _ g _ => g) (fun g _ => g) (fun _ _ _ _ _ g _ => g) (fun g _ => g) (fun _ _ _ g _ => g) (fun _ _ g _ => g) (fun _ _ g _ => g) (fun g _ => g) (fun _ g _ => g) (fun _ _ _ g _ => g) (fun g _ => g) (fun _ _ _ _ g _ => g)
def onF {β : Type} : V → β → (Nat → List V → List V → β) → β := V.rec (motive_1 := fun _ => β → (Nat → List V → List V → β) → β) (motive_2 := fun _ => β → (Nat → List V → List V → β) → β)
  (fun g _ => g) (fun _ g _ => g) (fun _ _ g _ => g) (fun _ g _ => g) (fun g _ => g) (fun _ _ g _ => g) (fun g _ => g) (fun _ _ g _ => g) (fun _ _ _ _ g _ => g) (fun g _ => g) (fun g a c _ _ _ f => f g a c) (fun g _ => g) (fun _ _ _ g _ => g) (fun _ _ g _ => g) (fun _ _ g _ => g) (fun g _ => g) (fun _ g _ => g) (fun _ _ _ g _ => g) (fun g _ => g) (fun _ _ _ _ g _ => g)
def onN {β : Type} : V → β → (Nat → V → β) → β := V.rec (motive_1 := fun _ => β → (Nat → V → β) → β) (motive_2 := fun _ => β → (Nat → V → β) → β)
  (fun g _ => g) (fun _ g _ => g) (fun _ _ g _ => g) (fun _ g _ => g) (fun g _ => g) (fun _ _ g _ => g) (fun g _ => g) (fun _ _ g _ => g) (fun _ _ _ _ g _ => g) (fun g _ => g) (fun _ _ _ _ _ g _ => g) (fun g _ => g) (fun t v _ _ f => f t v) (fun _ _ g _ => g) (fun _ _ g _ => g) (fun g _ => g) (fun _ g _ => g) (fun _ _ _ g _ => g) (fun g _ => g) (fun _ _ _ _ g _ => g)
def onG {β : Type} : V → β → (List V → β) → β := V.rec (motive_1 := fun _ => β → (List V → β) → β) (motive_2 := fun _ => β → (List V → β) → β)
  (fun g _ => g) (fun _ g _ => g) (fun _ _ g _ => g) (fun _ g _ => g) (fun g _ => g) (fun _ _ g _ => g) (fun g _ => g) (fun _ _ g _ => g) (fun _ _ _ _ g _ => g) (fun g _ => g) (fun _ _ _ _ _ g _ => g) (fun g _ => g) (fun _ _ _ g _ => g) (fun l _ _ f => f l) (fun _ _ g _ => g) (fun g _ => g) (fun _ g _ => g) (fun _ _ _ g _ => g) (fun g _ => g) (fun _ _ _ _ g _ => g)
def onU {β : Type} : V → β → (List V → β) → β := V.rec (motive_1 := fun _ => β → (List V → β) → β) (motive_2 := fun _ => β → (List V → β) → β)
  (fun g _ => g) (fun _ g _ => g) (fun _ _ g _ => g) (fun _ g _ => g) (fun g _ => g) (fun _ _ g _ => g) (fun g _ => g) (fun _ _ g _ => g) (fun _ _ _ _ g _ => g) (fun g _ => g) (fun _ _ _ _ _ g _ => g) (fun g _ => g) (fun _ _ _ g _ => g) (fun _ _ g _ => g) (fun l _ _ f => f l) (fun g _ => g) (fun _ g _ => g) (fun _ _ _ g _ => g) (fun g _ => g) (fun _ _ _ _ g _ => g)
def onM {β : Type} : V → β → (BP → β) → β := V.rec (motive_1 := fun _ => β → (BP → β) → β) (motive_2 := fun _ => β → (BP → β) → β)
  (fun g _ => g) (fun _ g _ => g) (fun _ _ g _ => g) (fun _ g _ => g) (fun g _ => g) (fun _ _ g _ => g) (fun g _ => g) (fun _ _ g _ => g) (fun _ _ _ _ g _ => g) (fun g _ => g) (fun _ _ _ _ _ g _ => g) (fun g _ => g) (fun _ _ _ g _ => g) (fun _ _ g _ => g) (fun _ _ g _ => g) (fun g _ => g) (fun x _ f => f x) (fun _ _ _ g _ => g) (fun g _ => g) (fun _ _ _ _ g _ => g)
def onSy {β : Type} : V → β → (BP → Z → Z → β) → β := V.rec (motive_1 := fun _ => β → (BP → Z → Z → β) → β) (motive_2 := fun _ => β → (BP → Z → Z → β) → β)
  (fun g _ => g) (fun _ g _ => g) (fun _ _ g _ => g) (fun _ g _ => g) (fun g _ => g) (fun _ _ g _ => g) (fun g _ => g) (fun _ _ g _ => g) (fun _ _ _ _ g _ => g) (fun g _ => g) (fun _ _ _ _ _ g _ => g) (fun g _ => g) (fun _ _ _ g _ => g) (fun _ _ g _ => g) (fun _ _ g _ => g) (fun g _ => g) (fun _ g _ => g) (fun x z l _ f => f x z l) (fun g _ => g) (fun _ _ _ _ g _ => g)
/-- which kind of value -/
def tag : V → Nat := V.rec (motive_1 := fun _ => Nat) (motive_2 := fun _ => Nat) 0 (fun _ => 1) (fun _ _ => 2) (fun _ => 3) 4 (fun _ _ => 5) 6 (fun _ _ => 7) (fun _ _ _ _ => 8) 9 (fun _ _ _ _ _ => 10) 11 (fun _ _ _ => 12) (fun _ _ => 13) (fun _ _ => 14) 15 (fun _ => 16) (fun _ _ _ => 17) 0 (fun _ _ _ _ => 0)
/-- a value of one cell -/
def oneV : V → Bool := V.rec (motive_1 := fun _ => Bool) (motive_2 := fun _ => Bool) false (fun _ => true) (fun _ _ => true) (fun _ => true) true (fun _ _ => true) true (fun _ _ => true) (fun _ _ _ _ => true) true (fun _ _ _ _ _ => true) true (fun _ _ _ => true) (fun _ _ => false) (fun _ _ => false) true (fun _ => true) (fun _ _ _ => false) true (fun _ _ _ _ => true)
/-- the cells of a value -/
def cellsV : V → List V := fun v => onG v [v] (fun l => l)
def isT (n : Nat) (v : V) : Bool := Nat.beq (tag v) n
/-- two of a type that is no number, text: equal? (0 truths, 1 pointers, 2 slices, 3 maps, 4 functions, 5 interfaces, one of them told as none) -/
def eqB' (a b : V) : Option Bool := onB a none (fun x => onB b none (fun y => some (bcase x (!y) y)))
def eqP (a b : V) : Option Bool := onP a (bcase (isT 4 a) none (bcase (isT 4 b) (onP b none (fun _ _ => some false)) (some true)))
  (fun x o => bcase (isT 4 b) (onP b none (fun y q => bcase (bpEq x y) none (some (Nat.beq o q)))) (some false))
def isNil (n : Nat) (v : V) : Option Bool := bcase (isT n v) (bcase (isT 0 v) (bcase (isT 14 v) (some false) none) none) (some true)
def nilS (v : V) : Option Bool := onSl v (onE v (bcase (isT 6 v) none (some true)) (fun _ _ => some false)) (fun _ _ _ _ => some false)
def nilM (v : V) : Option Bool := onM v (bcase (isT 15 v) none (some true)) (fun _ => some false)
def nilF (v : V) : Option Bool := onF v (bcase (isT 9 v) none (some true)) (fun _ _ _ => some false)
def nilI (v : V) : Option Bool := onN v (bcase (isT 11 v) none (some true)) (fun _ _ => some false)
/-- one of the two is none: is the other? -/
def eqNil (f : V → Option Bool) (a b : V) : Option Bool := ocase (f a) none (fun x => bcase x (ocase (f b) none (fun y => bcase y none (some false))) (f b))
/-- scalars (1 bool, 2 number, 3 text), structs of scalars: equal? -/
def eqS (c : Nat) (a b : V) : Option Bool := bcase (Nat.beq c 1) (bcase (Nat.beq c 2) (bcase (Nat.beq c 3) none (onS a none (fun s => onS b none (fun t => sEq [] s t)))) (onI a none (fun k m => onI b none (fun j n => bcase (Nat.beq (kN k) (kN j)) none (cmpZ [] .eql m n))))) (onB a none (fun x => onB b none (fun y => some (bcase x (!y) y))))
def eqSs : List V → Nat → List V → Option Bool := List.rec (fun c m => bcase (Nat.beq c 0) none (lcase m (some true) (fun _ _ => none))) (fun a _ ih c m => lcase m none (fun b t => ocase (eqS (Nat.mod c 4) a b) none (fun x => bcase x (some false) (ih (Nat.div c 4) t))))
def eqGl (c : Nat) (a b : V) : Option Bool := onG a none (fun l => onG b none (fun m => eqSs l c m))
/-- just one of the two is none -/
def eqXor (f : V → Option Bool) (a b : V) : Option Bool := ocase (f a) none (fun x => ocase (f b) none (fun y => bcase x (bcase y none (some false)) (bcase y (some false) none)))
def eqC : Nat → V → V → Option Bool := Nat.rec eqB' (fun n _ => Nat.rec eqP (fun n _ => Nat.rec (eqNil nilS) (fun n _ => Nat.rec (eqNil nilM) (fun n _ => Nat.rec (eqNil nilF) (fun n _ => Nat.rec (eqNil nilI) (fun n _ => Nat.rec (eqXor nilI) (fun n _ => eqGl n) n) n) n) n) n) n)
def eqK (cls : Nat) (neg : Bool) (a b : V) : Option V := ocase (eqC cls a b) none (fun e => bcase neg (okB e) (okB (!e)))
def tas (t : Nat) (ok : Bool) (z v : V) : Option V := onN v (bcase (isT 11 v) none (bcase ok none (some (V.u [z, V.b false])))) (fun t' w => bcase (Nat.beq t' t) (bcase ok none (some (V.u [z, V.b false]))) (bcase ok (some w) (some (V.u [w, V.b true]))))
def bin (en : En) (op : BinOp) (a b : V) : Option V :=
  onI a (onS a none (fun s => onS b none (fun t => binS op en.path s t))) (fun k m => onI b none (fun j n => bcase (Nat.beq (kN k) (kN j)) none (binI op en k m n)))
/-- shifts: the kinds may differ -/
def binV (en : En) (op : BinOp) (a b : V) : Option V := bcase (Nat.beq (bN op) 8) (bcase (Nat.beq (bN op) 9) (bin en op a b) (onI a none (fun k m => onI b none (fun _ n => binSh en .shr k m n)))) (onI a none (fun k m => onI b none (fun _ n => binSh en .shl k m n)))
def allOne : List V → Bool := List.rec true (fun a _ ih => bcase (oneV a) false ih)
-- memory
def nx : H → BP := H.rec (fun n _ => n)
def mem : H → Tr O := H.rec (fun _ m => m)
def obj (h : H) (x : BP) : Option O := get x (mem h)
def onH {β : Type} : H → (BP → Tr O → β) → β := H.rec (fun n m f => f n m)
def put (h : H) (x : BP) (o : Option O) : H := onH h (fun n m => H.mk n (set x o m))
def ocs {β : Type} : O → β → (List V → Option BP → Bool → β) → β := O.rec (fun l p w _ f => f l p w) (fun _ g _ => g)
def oms {β : Type} : O → β → (List (V × V) → β) → β := O.rec (fun _ _ _ g _ => g) (fun es _ f => f es)
def onC {β : Type} (o : Option O) (g : β) (f : List V → Option BP → Bool → β) : β := ocase o g (fun o => ocs o g f)
def onMp {β : Type} (o : Option O) (g : β) (f : List (V × V) → β) : β := ocase o g (fun o => oms o g f)
/-- a new block, and what names it -/
def fresh (h : H) (o : O) (k : BP → V) : R1 := onH h (fun n m => R1.ok (k n) (H.mk (succ n) (set n (some o) m)))
def lenIs (n : Nat) (l : List V) : Bool := Nat.beq (len l) n
def kill (h : H) (p : Option BP) : H := ocase p h (fun x => put h x none)
/-- cells laid at a place -/
def write (h : H) (x : BP) (off : Nat) (vs : List V) : R1 :=
  onC (obj h x) (R1.bad 21) (fun l par own => bcase own (R1.bad 19) (bcase (allOne vs) (R1.bad 19) (bcase (Nat.ble (Nat.add off (len vs)) (len l)) (R1.bad 20) (R1.ok (V.u []) (put (kill h par) x (some (O.c (splice off vs l) none true)))))))
def asNat {β : Type} (v : V) (g : β) (f : Nat → β) : β := onI v g (fun _ z => onLit z g (fun n => ipos n f (fun _ => g)))
/-- the cells of a slice -/
def cellsAt (h : H) (x : BP) (off n : Nat) : Option (List V) := onC (obj h x) none (fun l _ _ => (fun r => bcase (lenIs n r) none (some r)) (take n (drop off l)))
def cellsOf (h : H) (sz : Nat) (v : V) : Option (List V) := onSl v (onE v (bcase (isT 6 v) none (some [])) (fun _ _ => some [])) (fun x off s n => bcase (Nat.beq s sz) none (cellsAt h x off (Nat.mul n sz)))
def small (n : Nat) : Bool := Nat.ble n 1000000
/-- n things (of so many cells and bytes) behind a slice -/
def appTo (h : H) (sz bytes : Nat) (s : V) (n : Nat) (new : List V) : R1 :=
  bcase (Nat.beq n 0)
    (bcase (Nat.ble bytes 1000) (R1.bad 23) (bcase (small n) (R1.bad 23) (bcase (lenIs (Nat.mul n sz) new) (R1.bad 23) (bcase (allOne new) (R1.bad 23)
    (onSl s (onE s (bcase (isT 6 s) (R1.bad 28) (fresh h (O.c new none true) (fun y => V.sl y 0 sz n))) (fun _ _ => fresh h (O.c new none true) (fun y => V.sl y 0 sz n)))
      (fun x off s m => bcase (Nat.beq s sz) (R1.bad 24)
        (onC (obj h x) (R1.bad 27) (fun l par own => bcase own (R1.bad 25) (bcase (small m) (R1.bad 22)
          ((fun old => bcase (lenIs (Nat.mul m sz) old) (R1.bad 26)
            (fresh (put (kill h par) x (some (O.c (take (Nat.add off (Nat.mul m sz)) l) none false))) (O.c (app old new) (some x) true) (fun y => V.sl y 0 sz (Nat.add m n)))) (take (Nat.mul m sz) (drop off l))))))))))))
    (onSl s (onE s (bcase (isT 6 s) (R1.bad 29) (R1.ok s h)) (fun _ _ => R1.ok s h)) (fun _ _ _ _ => R1.ok s h))
def zs : List Z → List V := List.rec [] (fun a _ ih => V.i .u8 a :: ih)
def lenS (v : V) : Option Nat := onSl v (onE v (bcase (isT 6 v) none (some 0)) (fun _ _ => some 0)) (fun _ _ _ n => some n)
def append (h : H) (sz bytes : Nat) (s x0 : V) : R1 :=
  onS x0 (ocase (lenS x0) (R1.bad 31) (fun n => ocase (cellsOf h sz x0) (R1.bad 30) (fun new => appTo h sz bytes s n new))) (fun l => bcase (Nat.beq sz 1) (R1.bad 32) (appTo h sz bytes s (len l) (zs l)))
def forceN {β : Type} (n : Nat) (g : β) (f : Nat → β) : β := bcase (Nat.beq n n) g (f n)
def okN (n : Nat) : Option V := forceN n none (fun n => some (V.i .i64 (Z.lit (Int.ofNat n))))
def capV (v : V) : Option V := bcase (isT 6 v) (onE v none (fun _ _ => okN 0)) (okN 0)
def optN {β : Type} (o : Option V) (d : Nat) (g : β) (f : Nat → β) : β := ocase o (f d) (fun v => asNat v g f)
def z3 (a b c : Nat) (r : V) : Option V := bcase (Nat.beq a 0) none (bcase (Nat.beq b 0) none (bcase (Nat.beq c 0) none (some r)))
def slice3 (lo hi : Option V) (c : V) (r : V) : Option V := ocase hi none (fun hv => asNat hv none (fun b => optN lo 0 none (fun a => asNat c none (fun c => z3 a b c r))))
def slice (sz : Nat) (v : V) (lo hi mx : Option V) : Option V :=
  onSl v (bcase (isT 6 v) none (ocase mx (optN hi 0 none (fun b => optN lo 0 none (fun a => z3 a b 0 V.s0))) (fun c => slice3 lo hi c V.s0)))
    (fun x off s n => bcase (Nat.beq s sz) none (ocase mx
      (optN hi n none (fun b => optN lo 0 none (fun a => bcase (Nat.ble a b) none (bcase (Nat.ble b n) none (forceN (Nat.add off (Nat.mul a sz)) none (fun o => forceN (Nat.sub b a) none (fun m => some (V.sl x o sz m))))))))
      (fun c => slice3 lo hi c (V.e x off))))
def sstr (v : V) (lo hi : Option V) : Option V :=
  onS v none (fun l => (fun n => optN hi n none (fun b => optN lo 0 none (fun a => bcase (Nat.ble a b) none (bcase (Nat.ble b n) none (some (V.s (take (Nat.sub b a) (drop a l)))))))) (len l))
def faddr (off : Nat) (v : V) : Option V := onP v none (fun x o => forceN (Nat.add o off) none (fun o => some (V.p x o)))
def partn (off n : Nat) (v : V) : Option V := onG v none (fun l => (fun r => bcase (lenIs n r) none (some (V.g r))) (take n (drop off l)))
def part1 (off : Nat) (v : V) : Option V := onG v none (fun l => nth l off)
def iaddr0 (sz : Nat) (v i : V) : Option V := onSl v none (fun x off s n => asNat i none (fun k => bcase (Nat.blt k n) none (bcase (Nat.beq s sz) none (forceN (Nat.add off (Nat.mul k sz)) none (fun o => some (V.p x o))))))
/-- a place of a slice of named length, told by one of its elements -/
def iaddrY (path : List (Cd × Bool)) (sz : Nat) (v i : V) : Option V := onSy v none (fun x z l => onI i none (fun _ y => bcase (Nat.beq sz 1) none (bcase (zBeq z y) none (ocase (cmpZ path .lss y l) none (fun b => bcase b none (some (V.p x 0)))))))
def iaddr (path : List (Cd × Bool)) (sz : Nat) (v i : V) : Option V := onSl v (iaddrY path sz v i) (fun _ _ _ _ => iaddr0 sz v i)
def lenV (v : V) : Option V := onSy v (ocase (lenS v) none okN) (fun _ _ l => some (V.i .i64 l))
def aaddr (sz len : Nat) (v i : V) : Option V := onP v none (fun x off => asNat i none (fun k => bcase (Nat.blt k len) none (forceN (Nat.add off (Nat.mul k sz)) none (fun o => some (V.p x o)))))
def istr (v i : V) : Option V := onS v none (fun l => asNat i none (fun k => ocase (nth l k) none (fun z => some (V.i .u8 z))))
def ipart1 (len : Nat) (v i : V) : Option V := asNat i none (fun k => bcase (Nat.blt k len) none (part1 k v))
def ipartn (len sz : Nat) (v i : V) : Option V := asNat i none (fun k => bcase (Nat.blt k len) none (partn (Nat.mul k sz) sz v))
/-- two keys (texts, or numbers): equal? -/
def keyEq (ks : Nat) (path : List (Cd × Bool)) (a b : V) : Option Bool := ncase ks (onI a none (fun k m => onI b none (fun j n => bcase (Nat.beq (kN k) (kN j)) none (cmpZ path .eql m n)))) (fun c => ncase c (onS a none (fun s => onS b none (fun t => sEq path s t))) (fun c => eqGl c a b))
/-- as many cells, at least, as a code has digits -/
def digits : List V → Nat → Bool := List.rec (fun c => Nat.beq c 0) (fun _ _ ih c => ih (Nat.div c 4))
def isKey (ks : Nat) (a : V) : Bool := ncase ks (onI a false (fun _ _ => true)) (fun c => ncase c (onS a false (fun _ => true)) (fun c => onG a false (fun l => digits l c)))
def findK (ks : Nat) (path : List (Cd × Bool)) (k : V) : List (V × V) → Option (Option V) := List.rec (some none) (fun e _ ih => ocase (keyEq ks path k e.1) none (fun b => bcase b ih (some (some e.2))))
def okV (ok : Bool) (v : V) (b : Bool) : Option V := bcase ok (some v) (some (V.u [v, V.b b]))
def lookup (ks : Nat) (path : List (Cd × Bool)) (h : H) (z : V) (ok : Bool) (m k : V) : Option V :=
  bcase (isKey ks k) none (onM m (bcase (isT 15 m) none (okV ok z false)) (fun x => onMp (obj h x) none (fun es => ocase (findK ks path k es) none (fun r => ocase r (okV ok z false) (fun v => okV ok v true)))))
def upd (ks : Nat) (path : List (Cd × Bool)) (k v : V) : List (V × V) → Option (List (V × V)) :=
  List.rec (some [(k, v)]) (fun e t ih => ocase (keyEq ks path k e.1) none (fun b => bcase b (ocase ih none (fun r => some (e :: r))) (some ((k, v) :: t))))
def mapup (ks : Nat) (path : List (Cd × Bool)) (h : H) (m k v : V) : R1 :=
  bcase (isKey ks k) (R1.bad 66) (onM m (R1.bad 63) (fun x => onMp (obj h x) (R1.bad 65) (fun es => ocase (upd ks path k v es) (R1.bad 64) (fun r => R1.ok (V.u []) (put h x (some (O.m r)))))))
def delK (ks : Nat) (path : List (Cd × Bool)) (k : V) : List (V × V) → Option (List (V × V)) :=
  List.rec (some []) (fun e t ih => ocase (keyEq ks path k e.1) none (fun b => bcase b (ocase ih none (fun r => some (e :: r))) (some t)))
def del (ks : Nat) (path : List (Cd × Bool)) (h : H) (m k : V) : R1 :=
  bcase (isKey ks k) (R1.bad 66) (onM m (R1.bad 63) (fun x => onMp (obj h x) (R1.bad 65) (fun es => ocase (delK ks path k es) (R1.bad 64) (fun r => R1.ok (V.u []) (put h x (some (O.m r)))))))
def minN (a b : Nat) : Nat := bcase (Nat.ble a b) b a
/-- so many things laid over a slice's first -/
def copyTo (h : H) (sz : Nat) (d : V) (k : Nat) (cs : List V) : R1 := bcase (Nat.beq k 0)
  (bcase (lenIs (Nat.mul k sz) cs) (R1.bad 35) (onSl d (R1.bad 36) (fun x off s n => bcase (Nat.beq s sz) (R1.bad 36) (bcase (Nat.ble k n) (R1.bad 36) ((fun r => R1.rec (fun w => R1.bad w) (fun _ h' => ocase (okN k) (R1.bad 37) (fun v => R1.ok v h')) r) (write h x off cs))))))
  (ocase (okN 0) (R1.bad 37) (fun v => R1.ok v h))
def copy (h : H) (sz : Nat) (d s : V) : R1 := ocase (lenS d) (R1.bad 38) (fun n => onS s
  (ocase (lenS s) (R1.bad 38) (fun m => ocase (cellsOf h sz s) (R1.bad 38) (fun l => copyTo h sz d (minN n m) (take (Nat.mul (minN n m) sz) l))))
  (fun t => bcase (Nat.beq sz 1) (R1.bad 38) (copyTo h sz d (minN n (len t)) (take (minN n (len t)) (zs t)))))
def clear (h : H) (sz : Nat) (z : List V) (s : V) : R1 := ocase (lenS s) (R1.bad 39) (fun n => bcase (Nat.beq n 0)
  (bcase (small n) (R1.bad 39) (onSl s (R1.bad 39) (fun x off s n => bcase (Nat.beq s sz) (R1.bad 39) (write h x off (rep z n))))) (R1.ok (V.u []) h))
/-- Parts laid into cells: each at its place, of its size. -/
def place : List (Nat × Nat × V) → List V → Option (List V) := List.rec (fun z => some z) (fun p _ ih z => bcase (isT 0 p.2.2) (bcase (lenIs p.2.1 (cellsV p.2.2)) none (ih (splice p.1 (cellsV p.2.2) z))) none)
def mm (path : List (Cd × Bool)) (mx : Bool) (a b : V) : Option V :=
  onI a none (fun k m => onI b none (fun _ n => ocase (bcase mx (cmpZ path .lss n m) (cmpZ path .gtr n m)) none (fun c => bcase c (some a) (some (V.i k n)))))
def mmf (path : List (Cd × Bool)) (mx : Bool) : List V → V → Option V := List.rec (fun a => some a) (fun b _ ih a => ocase (mm path mx a b) none ih)
def nilck (v : V) : Option V := onP v (onF v (onN v none (fun _ _ => some v)) (fun _ _ _ => some v)) (fun _ _ => some v)
def convK (en : En) (k : IntKind) (v : V) : Option V := onI v (bcase (isT 3 v) none none) (fun _ z => onLit z (okZ en.norm k (Z.conv k z)) (fun n => okI k (wrapF k n)))
def byteOk (path : List (Cd × Bool)) (z : Z) : Bool := bcase (ocase (cmpZ path .leq (Z.lit 0) z) false (fun b => b)) false (ocase (cmpZ path .lss z (Z.lit 256)) false (fun b => b))
def bytesZ (path : List (Cd × Bool)) : List V → Option (List Z) := List.rec (some []) (fun a _ ih => onI a none (fun k z => bcase (Nat.beq (kN k) 4) none (bcase (byteOk path z) none (ocase ih none (fun r => some (z :: r))))))
-- operands
def src (r : List V) (t : Tr V) : Src → V := Src.rec (fun i => ocase (nth r i) V.x (fun v => v)) (fun p => ocase (get p t) V.x (fun v => v)) (fun v => v)
def srcs (sv : Src → V) : List Src → List V := List.rec [] (fun s _ ih => sv s :: ih)
def srcO (sv : Src → V) (o : Option Src) : Option V := ocase o none (fun s => some (sv s))
def srcP (sv : Src → V) : List (Nat × Nat × Src) → List (Nat × Nat × V) := List.rec [] (fun s _ ih => (s.1, s.2.1, sv s.2.2) :: ih)
def doP : KP → En → (Src → V) → Option V := KP.rec
  (fun s _ sv => some (sv s)) (fun c a b _ sv => onB (sv c) none (fun x => bcase x (some (sv b)) (some (sv a)))) (fun z ps _ sv => ocase (place (srcP sv ps) z) none (fun l => some (V.g l))) (fun s _ sv => nilck (sv s)) (fun op a b en sv => binV en op (sv a) (sv b)) (fun cls neg a b _ sv => eqK cls neg (sv a) (sv b))
  (fun s _ sv => onB (sv s) none (fun b => okB (!b))) (fun s en sv => onI (sv s) none (fun k z => binAr en .sub k (Z.lit 0) z)) (fun s en sv => onI (sv s) none (fun k z => binBit en .xor k (Z.lit (maskI k)) z)) (fun k s en sv => convK en k (sv s)) (fun s _ sv => onS (sv s) none (fun l => some (V.s l)))
  (fun t s _ sv => some (V.n t (sv s))) (fun g a b _ sv => some (V.f g (srcs sv a) (srcs sv b))) (fun sz s lo hi mx _ sv => slice sz (sv s) (srcO sv lo) (srcO sv hi) (srcO sv mx)) (fun s lo hi _ sv => sstr (sv s) (srcO sv lo) (srcO sv hi))
  (fun off s _ sv => faddr off (sv s)) (fun off s _ sv => part1 off (sv s)) (fun off n s _ sv => partn off n (sv s)) (fun sz s i en sv => iaddr en.path sz (sv s) (sv i)) (fun sz n s i _ sv => aaddr sz n (sv s) (sv i))
  (fun s i _ sv => istr (sv s) (sv i)) (fun n s i _ sv => ipart1 n (sv s) (sv i)) (fun n sz s i _ sv => ipartn n sz (sv s) (sv i)) (fun i s _ sv => onU (sv s) none (fun l => nth l i)) (fun s _ sv => lenV (sv s)) (fun s _ sv => onS (sv s) none (fun l => okN (len l))) (fun n _ _ => okN n) (fun s _ sv => capV (sv s))
  (fun mx a b en sv => mm en.path mx (sv a) (sv b)) (fun mx a b c en sv => ocase (mm en.path mx (sv a) (sv b)) none (fun r => mm en.path mx r (sv c))) (fun mx l en sv => lcase (srcs sv l) none (fun a r => mmf en.path mx r a)) (fun t ok z s _ sv => tas t ok z (sv s))
def doR : KR → En → (Src → V) → H → Option V := KR.rec
  (fun s _ sv h => onP (sv s) none (fun x off => onC (obj h x) none (fun l _ _ => nth l off))) (fun n s _ sv h => onP (sv s) none (fun x off => ocase (cellsAt h x off n) none (fun l => some (V.g l))))
  (fun s _ sv h => onM (sv s) (bcase (isT 15 (sv s)) none (okN 0)) (fun x => onMp (obj h x) none (fun es => okN (len es)))) (fun ks z ok m i en sv h => lookup ks en.path h z ok (sv m) (sv i))
  (fun s en sv h => ocase (cellsOf h 1 (sv s)) none (fun l => ocase (bytesZ en.path l) none (fun z => some (V.s z))))
/-- what a new block holds, and what names it -/
def doA : KA → (Src → V) → Option (O × (BP → V)) := KA.rec
  (fun z _ => some (O.c z none true, fun x => V.p x 0)) (fun n s sv => bcase (isT 0 (sv s)) (bcase (lenIs n (cellsV (sv s))) none (some (O.c (cellsV (sv s)) none true, fun x => V.p x 0))) none)
  (fun sz n z ps sv => ocase (place (srcP sv ps) z) none (fun l => some (O.c l none true, fun x => V.sl x 0 sz n)))
  (fun sz z l c sv => asNat (sv l) none (fun l => asNat (sv c) none (fun c => bcase (Nat.ble l c) none (bcase (small c) none (bcase (small l) none (some (O.c (rep z c) none true, fun x => V.sl x 0 sz l)))))))
  (fun _ => some (O.m [], fun x => V.m x))
  (fun s sv => onS (sv s) none (fun l => bcase (small (len l)) none (some (O.c (zs l) none true, fun x => V.sl x 0 1 (len l)))))
section
def ovOr (o : Option R1) (r : R1) : R1 := ocase o r (fun r => r)
def doCall : Cb → En → (Nat → List V → H → R1) → (Src → V) → List Src → H → R1 := Cb.rec (fun g _ call sv as h => call g (srcs sv as) h)
  (fun s _ call sv as h => onF (sv s) (R1.bad 75) (fun g a b => call g (app a (app (srcs sv as) b)) h)) (fun s m en call sv as h => onN (sv s) (R1.bad 77) (fun ty v => ocase (en.mts ty m) (R1.bad 76) (fun g => call g (v :: srcs sv as) h)))
def doE : KE → En → (Nat → List V → H → R1) → (Src → V) → H → R1 := KE.rec
  (fun n s v _ _ sv h => onP (sv s) (R1.bad 33) (fun x off => (fun vs => bcase (lenIs n vs) (R1.bad 34) (write h x off vs)) (cellsV (sv v)))) (fun ks m i v en _ sv h => mapup ks en.path h (sv m) (sv i) (sv v)) (fun c as en call sv h => doCall c en call sv as h)
  (fun sz by_ s x _ _ sv h => append h sz by_ (sv s) (sv x)) (fun sz by_ z s x _ _ sv h => asNat (sv x) (R1.bad 80) (fun n => bcase (small n) (R1.bad 80) (appTo h sz by_ (sv s) n (rep z n))))
  (fun sz d s _ _ sv h => copy h sz (sv d) (sv s)) (fun sz z s _ _ sv h => clear h sz z (sv s)) (fun ks m i en _ sv h => del ks en.path h (sv m) (sv i))
def okR (o : Option V) (h : H) (w : Nat) : R1 := ocase o (R1.bad w) (fun v => R1.ok v h)
def doK : K → En → (Nat → List V → H → R1) → (Src → V) → H → R1 := K.rec (fun k en _ sv h => okR (doP k en sv) h 90) (fun k en _ sv h => okR (doR k en sv h) h 91) (fun k _ _ sv h => ocase (doA k sv) (R1.bad 92) (fun p => fresh h p.1 p.2)) (fun k en call sv h => doE k en call sv h) (fun w _ _ _ _ => R1.bad w)
/-- Is it wanted? (none: not told) -/
def want (sv : Src → V) (g : Option (Src × Bool)) : Option Bool := ocase g (some true) (fun p => (fun v => onB v (onU v none (fun _ => some false)) (fun b => some (bcase p.2 (!b) b))) (sv p.1))
def doG (en : En) (call : Nat → List V → H → R1) (sv : Src → V) (h : H) (g : Option (Src × Bool)) (k : K) : R1 := ocase (want sv g) (R1.bad 81) (fun b => bcase b (R1.ok (V.u []) h) (doK k en call sv h))
end
-- equal values
def l0 : List Z → Bool := List.rec true (fun _ _ _ => false)
def zsBeq : List Z → List Z → Bool := List.rec l0 (fun a _ ih m => lcase m false (fun b t => bcase (zBeq a b) false (ih t)))
def v0 : List V → Bool := List.rec true (fun _ _ _ => false)
def vBeq : V → V → Bool := V.rec (motive_1 := fun _ => V → Bool) (motive_2 := fun _ => List V → Bool)
  (fun _ => false) (fun x v => onB v false (fun y => bcase x (!y) y)) (fun k n v => onI v false (fun j m => bcase (Nat.beq (kN k) (kN j)) false (zBeq n m))) (fun l v => onS v false (fun m => zsBeq l m))
  (isT 4) (fun x o v => onP v false (fun y q => bcase (bpEq x y) false (Nat.beq o q))) (isT 6) (fun x o v => onE v false (fun y q => bcase (bpEq x y) false (Nat.beq o q)))
  (fun x o s n v => onSl v false (fun y q s' m => bcase (bpEq x y) false (bcase (Nat.beq o q) false (bcase (Nat.beq s s') false (Nat.beq n m)))))
  (isT 9) (fun g _ _ iha ihb v => onF v false (fun g' a b => bcase (Nat.beq g g') false (bcase (iha a) false (ihb b)))) (isT 11) (fun t _ ih v => onN v false (fun t' w => bcase (Nat.beq t t') false (ih w)))
  (fun _ ih v => onG v false ih) (fun _ ih v => onU v false ih) (isT 15) (fun x v => onM v false (fun y => bpEq x y)) (fun _ _ _ _ => false) v0 (fun _ _ iha ihl m => lcase m false (fun b t => bcase (iha b) false (ihl t)))

def vsBeq' : List V → List V → Bool := V.rec_1 (motive_1 := fun _ => V → Bool) (motive_2 := fun _ => List V → Bool)

  (fun _ => false) (fun x v => onB v false (fun y => bcase x (!y) y)) (fun k n v => onI v false (fun j m => bcase (Nat.beq (kN k) (kN j)) false (zBeq n m))) (fun l v => onS v false (fun m => zsBeq l m))
  (isT 4) (fun x o v => onP v false (fun y q => bcase (bpEq x y) false (Nat.beq o q))) (isT 6) (fun x o v => onE v false (fun y q => bcase (bpEq x y) false (Nat.beq o q)))
  (fun x o s n v => onSl v false (fun y q s' m => bcase (bpEq x y) false (bcase (Nat.beq o q) false (bcase (Nat.beq s s') false (Nat.beq n m)))))
  (isT 9) (fun g _ _ iha ihb v => onF v false (fun g' a b => bcase (Nat.beq g g') false (bcase (iha a) false (ihb b)))) (isT 11) (fun t _ ih v => onN v false (fun t' w => bcase (Nat.beq t t') false (ih w)))
  (fun _ ih v => onG v false ih) (fun _ ih v => onU v false ih) (isT 15) (fun x v => onM v false (fun y => bpEq x y)) (fun _ _ _ _ => false) v0 (fun _ _ iha ihl m => lcase m false (fun b t => bcase (iha b) false (ihl t)))

def vsBeq : List V → List V → Bool := List.rec v0 (fun a _ ih m => lcase m false (fun b t => bcase (vBeq a b) false (ih t)))
def isEmp : List (V × V) → Bool := List.rec true (fun _ _ _ => false)
/-- the block that v names holds just this, and is nobody's part -/
def holds (h : H) (o : O) (v : V) : Bool :=
  (fun ox => ocs o (oms o false (fun es => bcase (isEmp es) false (onMp ox false isEmp))) (fun l _ _ => onC ox false (fun l' p w => bcase w false (ocase p (vsBeq l l') (fun _ => false)))))
    (ocase (onP v (onSl v (onM v none (fun x => some x)) (fun x _ _ _ => some x)) (fun x _ => some x)) none (fun x => obj h x))
/-- looked at again: it gives what it gave -/
def stillK : K → En → (Src → V) → H → V → Bool := K.rec (fun _ _ _ _ _ => true) (fun k en sv h v => ocase (doR k en sv h) false (fun u => vBeq u v)) (fun k _ sv h v => ocase (doA k sv) false (fun p => holds h p.1 v)) (fun _ _ _ _ _ => false) (fun _ _ _ _ _ => false)
def still (en : En) (sv : Src → V) (h : H) (g : Option (Src × Bool)) (k : K) (v : V) : Bool := ocase (want sv g) false (fun b => bcase b true (stillK k en sv h v))
def stillA : Ag → En → Tr V → List V → H → Bool := Ag.rec (fun n g k en t r h => lcase (drop n r) false (fun v r' => still en (src r' t) h g k v))
def stills (en : En) (t : Tr V) (r : List V) (h : H) : List Ag → Bool := List.rec true (fun a _ ih => bcase (stillA a en t r h) false ih)
/-- the results of a region, and the memory behind it -/
inductive RR where | bad (why : Nat) | ok (r : List V) (h : H)
def r1 {β : Type} : R1 → (Nat → β) → (V → H → β) → β := R1.rec (fun w g _ => g w) (fun v h _ f => f v h)
def rr {β : Type} : RR → (Nat → β) → (List V → H → β) → β := RR.rec (fun w g _ => g w) (fun r h _ f => f r h)
def it {β : Type} : It → (Option (Src × Bool) → K → List Ag → β) → β := It.rec (fun g k a f => f g k a)
def runIts (en : En) (call : Nat → List V → H → R1) (t : Tr V) : List It → List V → H → RR :=
  List.rec (fun r h => RR.ok r h) (fun i _ ih r h => it i (fun g k ag => r1 (doG en call (src r t) h g k) RR.bad (fun v h' => (fun r' => bcase (stills en t r' h' ag) (RR.bad 82) (ih r' h')) (v :: r))))
def commit (r : List V) : List (BP × Nat) → Tr V → Tr V := List.rec (fun t => t) (fun c _ ih t => ih (set c.1 (nth r c.2) t))
def rv1 : Rv → Tr V → H → Option V := Rv.rec (fun p t _ => get p t)
  (fun p t h => ocase (get p t) none (fun v => onP v none (fun x off => onC (obj h x) none (fun l _ _ => nth l off)))) (fun n p t h => ocase (get p t) none (fun v => onP v none (fun x off => ocase (cellsAt h x off n) none (fun l => some (V.g l)))))
def rvs (t : Tr V) (h : H) : List Rv → Option (List V) := List.rec (some []) (fun r _ ih => ocase (rv1 r t h) none (fun v => ocase ih none (fun vs => some (v :: vs))))
def fin (rs : List Rv) (t : Tr V) (h : H) : R1 := ocase (rvs t h rs) (R1.bad 83) (fun vs => lcase vs (R1.ok (V.u []) h) (fun v l => lcase l (R1.ok v h) (fun _ _ => R1.ok (V.u vs) h)))
def finX : X → List Rv → R1 := X.rec (fun t h rs => fin rs t h) (fun _ _ _ _ => R1.bad 84) (fun t h rs => fin rs t h) (fun w _ => R1.bad w)
def init' : List V → BP → Tr V → Tr V := List.rec (fun _ t => t) (fun a _ ih p t => ih (succ p) (set p (some a) t))
abbrev Rn := C2 → Tr V → H → X
def runF : CF → Tr V → Rn → List V → H → R1 := CF.rec (fun n body rs g rn as h => bcase (Nat.ble (len as) n) (R1.bad 85) (finX (rn body (init' as BP.one g) h) rs))
def callBy (en : En) (rn : Rn) (g : Nat) (as : List V) (h : H) : R1 := ovOr (en.ov g as h) (ocase (get (bpOf g) en.fns) (R1.bad (1000 + g)) (fun cf => runF cf en.gt rn as h))
def doReg (its : List It) (cm : List (BP × Nat)) (en : En) (rn : Rn) (t : Tr V) (h : H) : X := rr (runIts en (callBy en rn) t its [] h) X.bad (fun r h => X.nm (commit r cm t) h)
def seqK : X → C2 → Rn → X := X.rec (fun t h b rn => rn b t h) (fun i t h _ _ => X.ex i t h) (fun t h _ _ => X.rt t h) (fun w _ _ => X.bad w)
def blockK : X → Nat → X := X.rec (fun t h _ => X.nm t h) (fun j t h id => bcase (Nat.beq j id) (X.ex j t h) (X.nm t h)) (fun t h _ => X.rt t h) (fun w _ => X.bad w)
def step : C2 → En → Rn → Tr V → H → X := C2.rec (fun _ _ t h => X.nm t h) (fun its cm en rn t h => doReg its cm en rn t h) (fun a b _ _ _ rn t h => seqK (rn a t h) b rn)
  (fun s a b _ _ _ rn t h => onB (src [] t s) (X.bad 86) (fun x => bcase x (rn b t h) (rn a t h))) (fun id c _ _ rn t h => blockK (rn c t h) id) (fun b _ _ rn t h => seqK (rn b t h) (C2.loop b) rn) (fun id _ _ t h => X.ex id t h) (fun _ _ t h => X.rt t h) (fun w _ _ _ _ => X.bad w)
def run (en : En) : Nat → Rn := Nat.rec (fun _ _ _ => X.bad 87) (fun _ rn c => step c en rn)
def call (en : En) (f : Nat) (g : Nat) (as : List V) (h : H) : R1 := callBy en (run en f) g as h
end
end Ev
end Go.Proofs.YtoinghomkcjkcaaGreatDoor
/- From the program's code to the small machine's. Nothing is claimed here. -/
namespace Go.Proofs.YtoinghomkcjkcaaGreatDoor
set_option linter.unusedSimpArgs false
set_option linter.unusedVariables false
set_option linter.constructorNameAsVariable false
open Go Go.RowKit
namespace Ev
noncomputable section
abbrev TT := Tr TypeInfo
def ti (tt : TT) (t : Nat) : Option TypeInfo := get (bpOf t) tt
def und (tt : TT) (t : Nat) : Option TypeDesc := match ti tt t with
  | some { desc := .named _ u, .. } => (ti tt u).map (·.desc)
  | some i => some i.desc
  | none => none
/-- A constant. -/
def zsOf : List UInt8 → List Z
  | [] => []
  | b :: l => .lit (Int.ofNat b.toNat) :: zsOf l
mutual
def trVal : Value → Option V
  | .bool b => some (.b b)
  | .int k n => some (.i k (.lit n))
  | .string s => some (.s (zsOf s.data.toList))
  | .pointer none => some .p0
  | .slice none 0 0 => some .s0
  | .map none => some .m0
  | .func (.func f) ⟨[]⟩ ⟨[]⟩ => some (.f f [] [])
  | .nilFunc => some .f0
  | .nilIface => some .n0
  | .iface t v => match trVal v with | some v => some (.n t v) | none => none
  | .agg ⟨l⟩ => match trVals l with | some l => some (.g l) | none => none
  | .tuple ⟨l⟩ => match trVals l with | some l => some (.u l) | none => none
  | _ => none
def trVals : List Value → Option (List V)
  | [] => some []
  | v :: l => match trVal v, trVals l with | some v, some l => some (v :: l) | _, _ => none
end
def zeroV (tt : TT) (t : Nat) : Option V := match ti tt t with | some i => (match i.zero with | some z => trVal z | none => none) | none => none
def zeroC (tt : TT) (t : Nat) : Option (List V) := (zeroV tt t).map cellsV
def sizeT (tt : TT) (t : Nat) : Option Nat := (ti tt t).map (·.size)
def aggT (tt : TT) (t : Nat) : Option Bool := match und tt t with | some (.struct _) => some true | some (.array _ _) => some true | some _ => some false | none => none
/-- where a slot is written last in the region (the last item is 0) -/
def locOf (t : Nat) : List (Option Tmp) → Nat → Option Nat
  | [], _ => none
  | some d :: l, i => bif Nat.beq d t then some i else locOf t l (i + 1)
  | none :: l, i => locOf t l (i + 1)
def trSrc (ds : List (Option Tmp)) : Operand → Option Src
  | .tmp t => bif Nat.blt t 100000 then (match locOf t ds 0 with | some i => some (.loc i) | none => some (.tmp (bpOf t))) else none
  | .const v => match trVal v with | some v => some (.val v) | none => none
  | .global g => some (.tmp (bpOf (100000 + g)))
  | .func f => some (.val (.f f [] []))
def trSrcs (ds : List (Option Tmp)) : List Operand → Option (List Src)
  | [] => some []
  | o :: l => match trSrc ds o, trSrcs ds l with | some s, some l => some (s :: l) | _, _ => none
def trOpt (ds : List (Option Tmp)) : Option Operand → Option (Option Src)
  | none => some none
  | some o => (trSrc ds o).map some
def no (w : Nat) : K := .no w
def s1 (ds : List (Option Tmp)) (o : Operand) (f : Src → K) : K := match trSrc ds o with | some s => f s | none => no 101
def s2 (ds : List (Option Tmp)) (a b : Operand) (f : Src → Src → K) : K := match trSrc ds a with | some s => (match trSrc ds b with | some t => f s t | none => no 101) | none => no 101
/-- the places of a struct's fields, of a row's elements -/
def fieldPl (tt : TT) (fs : List Field) (i : Nat) : Option (Nat × Nat) := match nth fs i with | some f => (match sizeT tt f.type with | some n => some (f.offset, n) | none => none) | none => none
def trParts (ds : List (Option Tmp)) (len : Nat) (pl : Nat → Option (Nat × Nat)) : List (Nat × Operand) → Option (List (Nat × Nat × Src))
  | [] => some []
  | p :: l => match pl p.1, trSrc ds p.2, trParts ds len pl l with
    | some (o, n), some s, some l => bif Nat.ble (o + n) len then some ((o, n, s) :: l) else none
    | _, _, _ => none
def rep' (n : Nat) (z : List V) : List V := rep z n
def allSz (tt : TT) (fs : List Field) : Bool := fs.all fun f => (sizeT tt f.type).isSome
def trBuild (tt : TT) (ds : List (Option Tmp)) (t : Nat) (ps : List (Nat × Operand)) : K := match zeroC tt t with
  | some z => (match und tt t with
    | some (.struct fs) => (match trParts ds z.length (fieldPl tt fs.toList) ps with | some l => bif allSz tt fs.toList then .pu (.build z l) else no 102 | none => no 102)
    | some (.array _ e) => (match sizeT tt e with | some n => (match trParts ds z.length (fun i => some (i * n, n)) ps with | some l => .pu (.build z l) | none => no 102) | none => no 102)
    | _ => no 102)
  | none => no 102
def trBSlice (tt : TT) (ds : List (Option Tmp)) (t len : Nat) (ps : List (Nat × Operand)) : K := match und tt t with
  | some (.slice e) => (match sizeT tt e with
    | some n => (match zeroC tt e with
      | some z => (match trParts ds (len * n) (fun i => some (i * n, n)) ps with
        | some l => bif (Nat.ble (len * n) 100000 && Nat.beq (List.length z) n) && Nat.ble 1 n then .al (.bslice n len (rep' len z) l) else no 103
        | none => no 103)
      | none => no 103)
    | none => no 103)
  | _ => no 103
def trLoad (tt : TT) (t : Nat) (s : Src) : K := match aggT tt t with
  | some true => (match sizeT tt t with | some n => .rd (.loadn n s) | none => no 104)
  | some false => .rd (.load1 s)
  | none => no 104
def isNilC : Operand → Bool
  | .const .nilIface => true
  | _ => false
def isCmp : BinOp → Bool
  | .eql => true
  | .neq => true
  | _ => false
def isNeq : BinOp → Bool
  | .neq => true
  | _ => false
def kindT (tt : TT) (t : Nat) : Nat := match und tt t with
  | some .bool => 1
  | some (.int .u64) => 0
  | some (.int _) => 2
  | some .string => 3
  | _ => 0
def scalT (tt : TT) (t : Nat) : Bool := Nat.blt 0 (kindT tt t)
def codeF (tt : TT) : List Field → Nat
  | [] => 0
  | f :: l => Nat.add (kindT tt f.type) (Nat.mul 4 (codeF tt l))
/-- fields that are scalars, one behind the other -/
def flatF (tt : TT) : List Field → Nat → Bool
  | [], _ => true
  | f :: l, i => ((f.name != "_" && Nat.beq f.offset i) && scalT tt f.type) && flatF tt l (i + 1)
def flatT (tt : TT) (t : Nat) : Bool := match und tt t with
  | some (.struct fs) => flatF tt fs.toList 0
  | _ => false
def trEq (tt : TT) (op : BinOp) (t : Nat) (x y : Operand) (a b : Src) : K := match und tt t with
  | some .bool => .pu (.eq 0 (isNeq op) a b)
  | some (.int _) => .pu (.bin op a b)
  | some .string => .pu (.bin op a b)
  | some (.pointer e) => (match sizeT tt e with | some (_ + 1) => .pu (.eq 1 (isNeq op) a b) | _ => no 105)
  | some (.slice _) => .pu (.eq 2 (isNeq op) a b)
  | some (.map _ _) => .pu (.eq 3 (isNeq op) a b)
  | some (.func _ _ _) => .pu (.eq 4 (isNeq op) a b)
  | some (.interface _) => bif isNilC x || isNilC y then .pu (.eq 5 (isNeq op) a b) else .pu (.eq 6 (isNeq op) a b)
  | some (.struct fs) => bif flatT tt t then .pu (.eq (7 + codeF tt fs.toList) (isNeq op) a b) else no 105
  | _ => no 105
def trBin (tt : TT) (op : BinOp) (t : Nat) (x y : Operand) (a b : Src) : K := bif isCmp op then trEq tt op t x y a b else .pu (.bin op a b)
def trConv (tt : TT) (src dst : Nat) (s : Src) : K := match und tt src, und tt dst with
  | some (.int _), some (.int k) => .pu (.conv k s)
  | some .string, some .string => .pu (.txt s)
  | some (.slice e), some .string => (match und tt e with | some (.int .u8) => .rd (.str s) | _ => no 106)
  | some .string, some (.slice e) => (match und tt e with | some (.int .u8) => .al (.s2b s) | _ => no 106)
  | _, _ => no 106
def trSlice (tt : TT) (t : Nat) (s : Src) (lo hi mx : Option Src) : K := match und tt t with
  | some .string => (match mx with | none => .pu (.sstr s lo hi) | some _ => no 107)
  | some (.slice e) => (match sizeT tt e with | some n => .pu (.slice n s lo hi mx) | none => no 107)
  | _ => no 107
def trFAddr (tt : TT) (t f : Nat) (s : Src) : K := match und tt t with
  | some (.struct fs) => (match fieldPl tt fs.toList f with | some (o, _ + 1) => .pu (.faddr o s) | _ => no 108)
  | _ => no 108
def trPart (tt : TT) (t off : Nat) (s : Src) : K := match aggT tt t with
  | some true => (match sizeT tt t with | some n => .pu (.partn off n s) | none => no 109)
  | some false => .pu (.part1 off s)
  | none => no 109
def trField (tt : TT) (t f : Nat) (s : Src) : K := match und tt t with
  | some (.struct fs) => (match nth fs.toList f with | some fd => trPart tt fd.type fd.offset s | none => no 109)
  | _ => no 109
def trIAddr (tt : TT) (t : Nat) (s i : Src) : K := match und tt t with
  | some (.slice e) => (match sizeT tt e with | some n => .pu (.iaddr n s i) | none => no 110)
  | some (.array l e) => (match sizeT tt e with | some n => .pu (.aaddr n l s i) | none => no 110)
  | _ => no 110
def trIndex (tt : TT) (t : Nat) (s i : Src) : K := match und tt t with
  | some .string => .pu (.istr s i)
  | some (.array l e) => (match aggT tt e, sizeT tt e with
    | some true, some n => .pu (.ipartn l n s i)
    | some false, some n => bif Nat.beq n 1 then .pu (.ipart1 l s i) else no 111
    | _, _ => no 111)
  | _ => no 111
def keyOk (tt : TT) (t : Nat) : Option Nat := match und tt t with
  | some (.int _) => some 0
  | some .string => some 1
  | some (.struct fs) => bif flatT tt t then some (2 + codeF tt fs.toList) else none
  | _ => none
def trLookup (tt : TT) (t : Nat) (m i : Src) (ok : Bool) : K := match und tt t with
  | some (.map k e) => (match zeroV tt e, keyOk tt k with | some z, some ks => .rd (.lookup ks z ok m i) | _, _ => no 112)
  | _ => no 112
def trUpd (tt : TT) (t : Nat) (m i v : Src) : K := match und tt t with
  | some (.map k _) => (match keyOk tt k with | some ks => .ef (.mapup ks m i v) | none => no 113)
  | _ => no 113
def trTas (tt : TT) (t : Nat) (ok : Bool) (s : Src) : K := match und tt t with
  | some (.interface _) => no 114
  | some _ => (match zeroV tt t with | some z => .pu (.tas t ok z s) | none => no 114)
  | none => no 114
def trMkS (tt : TT) (t : Nat) (l c : Src) : K := match und tt t with
  | some (.slice e) => (match ti tt e, zeroC tt e with
    | some i, some z => bif Nat.ble i.bytes 1000 && Nat.beq (List.length z) i.size then .al (.mkslice i.size z l c) else no 115
    | _, _ => no 115)
  | _ => no 115
def trLen (tt : TT) (t : Nat) (s : Src) : K := match und tt t with
  | some .string => .pu (.lens s)
  | some (.slice _) => .pu (.len s)
  | some (.map _ _) => .rd (.mlen s)
  | some (.array n _) => .pu (.alen n)
  | some (.pointer a) => (match und tt a with | some (.array n _) => .pu (.alen n) | _ => no 116)
  | _ => no 116
def trCap (tt : TT) (t : Nat) (s : Src) : K := match und tt t with
  | some (.slice _) => .pu (.cap s)
  | _ => no 117
def isIntT (tt : TT) (t : Nat) : Bool := match und tt t with | some (.int _) => true | _ => false
def trApp (tt : TT) (t u : Nat) (s x : Src) : K := match und tt t with
  | some (.slice e) => (match ti tt e, zeroC tt e with
    | some i, some z => bif Nat.beq (List.length z) i.size && Nat.ble i.bytes 1000 then (match und tt u with | some (.int _) => .ef (.appz i.size i.bytes z s x) | some _ => .ef (.app i.size i.bytes s x) | none => no 118) else no 118
    | _, _ => no 118)
  | _ => no 118
def trCopy (tt : TT) (t : Nat) (d s : Src) : K := match und tt t with
  | some (.slice e) => (match sizeT tt e with | some n => .ef (.copy n d s) | none => no 118)
  | _ => no 118
def trClear (tt : TT) (t : Nat) (s : Src) : K := match und tt t with
  | some (.slice e) => (match sizeT tt e, zeroC tt e with | some n, some z => bif Nat.beq (List.length z) n then .ef (.clear n z s) else no 118 | _, _ => no 118)
  | _ => no 118
def trDel (tt : TT) (t : Nat) (m k : Src) : K := match und tt t with
  | some (.map kt _) => (match keyOk tt kt with | some ks => .ef (.del ks m k) | none => no 113)
  | _ => no 113
def trBuiltin (tt : TT) (b : Builtin) (ts : List Nat) (ss : List Src) : K := match b, ts, ss with
  | .len, [t], [s] => trLen tt t s
  | .cap, [t], [s] => trCap tt t s
  | .min, _, [a, b] => .pu (.mm false a b)
  | .max, _, [a, b] => .pu (.mm true a b)
  | .min, _, [a, b, c] => .pu (.mm3 false a b c)
  | .max, _, [a, b, c] => .pu (.mm3 true a b c)
  | .append, [t, u], [s, x] => trApp tt t u s x
  | .copy, [t, _], [d, s] => trCopy tt t d s
  | .clear, [t], [s] => trClear tt t s
  | .delete, t :: _, [m, k] => trDel tt t m k
  | .min, _, ss => .pu (.mmn false ss)
  | .max, _, ss => .pu (.mmn true ss)
  | _, _, _ => no 119
def trCall (tt : TT) (ds : List (Option Tmp)) (c : Call) : K := match trSrcs ds c.args.toList with
  | some as => (match c.callee with
    | .builtin b => trBuiltin tt b c.argTypes.toList as
    | .value (.func g) => .ef (.call (.fn g) as)
    | .value f => s1 ds f (fun s => .ef (.call (.val s) as))
    | .invoke r m => s1 ds r (fun s => .ef (.call (.inv s m) as)))
  | none => no 120
def ifaceT (tt : TT) (t : Nat) : Bool := match und tt t with | some (.interface _) => true | some _ => false | none => true
def trK (tt : TT) (ds : List (Option Tmp)) : Op → K
  | .move x => s1 ds x (fun s => .pu (.mv s))
  | .assign x => s1 ds x (fun s => .pu (.mv s))
  | .pick c a b => match trSrc ds c with | some c => s2 ds a b (fun a b => .pu (.pick c a b)) | none => no 121
  | .alloc t => match zeroC tt t with | some z => .al (.alloc z) | none => no 122
  | .box t x => match sizeT tt t with | some n => s1 ds x (fun s => .al (.box n s)) | none => no 122
  | .build t ps => trBuild tt ds t ps.toList
  | .buildSlice t n ps => trBSlice tt ds t n ps.toList
  | .load t a => s1 ds a (fun s => trLoad tt t s)
  | .store t a x => match sizeT tt t with | some n => s2 ds a x (fun a x => .ef (.store n a x)) | none => no 123
  | .nilCheck x => s1 ds x (fun s => .pu (.nilck s))
  | .binOp op t x y _ => s2 ds x y (fun a b => trBin tt op t x y a b)
  | .unOp .not _ x => s1 ds x (fun s => .pu (.not s))
  | .unOp .neg _ x => s1 ds x (fun s => .pu (.neg s))
  | .unOp .xor _ x => s1 ds x (fun s => .pu (.inv s))
  | .convert a b x => s1 ds x (fun s => trConv tt a b s)
  | .makeInterface t x => bif ifaceT tt t then no 124 else s1 ds x (fun s => .pu (.mkif t s))
  | .makeFunc (.func g) a b => match trSrcs ds a.toList, trSrcs ds b.toList with | some a, some b => .pu (.mkfn g a b) | _, _ => no 125
  | .makeMap _ none => .al .mkmap
  | .makeSlice t l c => s2 ds l c (fun l c => trMkS tt t l c)
  | .slice t x lo hi mx => match trOpt ds lo, trOpt ds hi, trOpt ds mx with | some lo, some hi, some mx => s1 ds x (fun s => trSlice tt t s lo hi mx) | _, _, _ => no 126
  | .fieldAddr t x f => s1 ds x (fun s => trFAddr tt t f s)
  | .field t x f => s1 ds x (fun s => trField tt t f s)
  | .indexAddr t x i => s2 ds x i (fun s i => trIAddr tt t s i)
  | .index t x i => s2 ds x i (fun s i => trIndex tt t s i)
  | .lookup t m i ok => s2 ds m i (fun m i => trLookup tt t m i ok)
  | .mapUpdate t m i v => s2 ds m i (fun m i => s1 ds v (fun v => trUpd tt t m i v))
  | .insert t m i v => s2 ds m i (fun m i => s1 ds v (fun v => trUpd tt t m i v))
  | .typeAssert x _ t ok => s1 ds x (fun s => trTas tt t ok s)
  | .extract x i => s1 ds x (fun s => .pu (.ext i s))
  | .call c => trCall tt ds c
  | _ => no 127
def heavyK : K → Bool
  | .ef _ => true
  | .no _ => true
  | _ => false
def looksK : K → Bool
  | .rd _ => true
  | .al _ => true
  | _ => false
/-- an operation's number in the order of evaluation, counted from the last (0) -/
def posOf (i : Nat) : List Nat → Nat → Option Nat
  | [], _ => none
  | j :: l, n => bif Nat.beq i j then some n else posOf i l (n + 1)
/-- One that has been taken: its number, its slot, its guard and what it is, all that are ahead of it by edges (as bits). -/
structure Tk where
  i : Nat
  dst : Option Tmp
  g : Option (Src × Bool)
  k : K
  anc : Nat
  looks : List Nat
def optEq (a b : Option Nat) : Bool := match a, b with | some m, some n => Nat.beq m n | _, _ => false
def trGuard (tk : List Tk) (o : Oper) : Option (Option (Src × Bool)) := match o.guard with
  | none => some none
  | some (j, w) => match posOf j (tk.map (·.i)) 0 with
    | some p => (match nth tk p with
      | some k => (match k.dst with | some d => bif Nat.beq k.i j && optEq (locOf d (tk.map (·.dst)) 0) (some p) then some (some (.loc p, w)) else none | none => none)
      | none => none)
    | none => none
def edgesOf (o : Oper) : List Nat := (o.after.toList.filter (Region.binds .any)).map (·.on)
def ancOf (tk : List Tk) (j : Nat) : Nat := match tk with
  | [] => 0
  | t :: l => bif Nat.beq t.i j then t.anc else ancOf l j
def ancs (tk : List Tk) : List Nat → Nat
  | [] => 0
  | j :: l => Nat.lor (Nat.lor (Nat.shiftLeft 1 j) (ancOf tk j)) (ancs tk l)
def bit (m i : Nat) : Bool := Nat.beq (Nat.land (Nat.shiftRight m i) 1) 1
/-- what is looked at again behind a heavy one -/
def agains (anc : Nat) : List Tk → Nat → List Ag
  | [], _ => []
  | t :: l, n => bif looksK t.k && !(bit anc t.i) then .mk n t.g t.k :: agains anc l (n + 1) else agains anc l (n + 1)
def tmpsOf : List Operand → List Nat
  | [] => []
  | .tmp t :: l => t :: tmpsOf l
  | _ :: l => tmpsOf l
def looksOf (tk : List Tk) (o : Oper) : List Nat := (match o.guard with | some (j, _) => (match posOf j (tk.map (·.i)) 0 with | some p => (match nth tk p with | some k => k.dst.toList | none => []) | none => []) | none => []) ++ tmpsOf o.op.operands.toList
def takeOp (tt : TT) (draw : Bool) (tk : List Tk) (i : Nat) (o : Oper) : Tk × It :=
  let k := match trGuard tk o with | some _ => trK tt (tk.map (·.dst)) o.op | none => no 128
  let g := match trGuard tk o with | some g => g | none => none
  let anc := bif draw then ancs tk (edgesOf o) else 0
  (⟨i, o.dst, g, k, anc, bif draw then looksOf tk o else []⟩, .mk g k (bif draw && heavyK k then agains anc tk 1 else []))
/-- in the text's order -/
def trSeq (tt : TT) : List Oper → Nat → List Tk → List It × List Tk
  | [], _, tk => ([], tk)
  | o :: l, i, tk => let p := takeOp tt false tk i o
    let r := trSeq tt l (i + 1) (p.1 :: tk)
    (p.2 :: r.1, r.2)
def heavyOp : Op → Bool
  | .call { callee := .builtin .len, .. } | .call { callee := .builtin .cap, .. } | .call { callee := .builtin .min, .. } | .call { callee := .builtin .max, .. } => false
  | .call _ | .store .. | .mapUpdate .. | .insert .. => true
  | .move _ | .assign _ | .pick .. | .alloc _ | .box .. | .build .. | .buildSlice .. | .load .. | .nilCheck _ | .binOp .. | .unOp .. | .convert .. | .makeInterface .. | .makeFunc .. | .makeMap .. | .makeSlice .. | .slice .. | .fieldAddr .. | .field ..
  | .indexAddr .. | .index .. | .lookup .. | .typeAssert .. | .extract .. => false
  | _ => true
/-- the light ones that may come up, ahead of the heavy -/
def pickOp (ops : List Oper) (done : Nat) : List Oper → Nat → Option (Nat × Oper) → Option (Nat × Oper)
  | [], _, h => h
  | o :: l, i, h => bif !(bit done i) && (edgesOf o).all (bit done) then (bif heavyOp o.op then pickOp ops done l (i + 1) (match h with | some h => some h | none => some (i, o)) else some (i, o)) else pickOp ops done l (i + 1) h
def trDraw (tt : TT) (ops : List Oper) : Nat → Nat → List Tk → List It × List Tk
  | 0, _, tk => ([], tk)
  | f + 1, done, tk => match pickOp ops done ops 0 none with
    | some (i, o) => let p := takeOp tt true tk i o
      let r := trDraw tt ops f (Nat.lor done (Nat.shiftLeft 1 i)) (p.1 :: tk)
      (p.2 :: r.1, r.2)
    | none => ([], tk)
/-- what is kept of a region: of each slot the last one -/
def commits (C : Tr Unit) (seen : List Nat) : List Tk → Nat → List (BP × Nat)
  | [], _ => []
  | t :: l, n => match t.dst with
    | some d => bif seen.any (Nat.beq d) then commits C seen l (n + 1) else (match get (bpOf d) C with | some _ => (bpOf d, n) :: commits C (d :: seen) l (n + 1) | none => commits C seen l (n + 1))
    | none => commits C seen l (n + 1)
/-- two in the order of evaluation, the later one first: the one that writes what the other looks at, or writes too, waits; behind a heavy one all wait -/
def clash (q p : Tk) : Bool := (match p.dst with | some d => q.looks.any (Nat.beq d) | none => false) || (match q.dst with | some d => p.looks.any (Nat.beq d) | none => false)
def sameDst (q p : Tk) : Bool := match p.dst, q.dst with | some d, some e => Nat.beq d e | _, _ => false
def pairOk (q p : Tk) : Bool := !(sameDst q p) && (bif clash q p || heavyK p.k then bit q.anc p.i else true)
def drawOk : List Tk → Bool
  | [] => true
  | q :: l => (l.all (pairOk q) && !(l.any fun p => Nat.beq p.i q.i)) && drawOk l
def allIn (n : Nat) (tk : List Tk) : Bool := (List.range n).all fun i => tk.any fun k => Nat.beq k.i i
/-- slots that are read from outside a region -/
def useO (ds : List (Option Tmp)) (o : Operand) (C : Tr Unit) : Tr Unit := match o with
  | .tmp t => (match locOf t ds 0 with | some _ => C | none => set (bpOf t) (some ()) C)
  | _ => C
def useOs (ds : List (Option Tmp)) : List Operand → Tr Unit → Tr Unit
  | [], C => C
  | o :: l, C => useOs ds l (useO ds o C)
def useOps : List Oper → List (Option Tmp) → Tr Unit → Tr Unit
  | [], _, C => C
  | o :: l, ds, C => useOps l (o.dst :: ds) (useOs ds o.op.operands.toList C)
def useC : Code → Tr Unit → Tr Unit
  | .region _ ops _, C => useOps ops.toList [] C
  | .seq a b, C => useC b (useC a C)
  | .cond c a b, C => useC b (useC a (useO [] c C))
  | .block _ c, C => useC c C
  | .loop c, C => useC c C
  | _, C => C
def useR : List ResultVar → Tr Unit → Tr Unit
  | [], C => C
  | .tmp t :: l, C => useR l (set (bpOf t) (some ()) C)
  | .cell t _ :: l, C => useR l (set (bpOf t) (some ()) C)
def dstOk (nt : Nat) (o : Oper) : Bool := match o.dst with | some d => Nat.blt d nt | none => true
def trReg (tt : TT) (nt : Nat) (C : Tr Unit) (ops : List Oper) (draw : Bool) : C2 :=
  let r := bif draw then trDraw tt ops ops.length 0 [] else trSeq tt ops 0 []
  bif ops.all (dstOk nt) && (bif draw then drawOk r.2 && allIn ops.length r.2 else true) then .reg r.1 (commits C [] r.2 0) else .bad 132
def trC (tt : TT) (nt : Nat) (C : Tr Unit) : Code → C2
  | .skip => .skip
  | .label _ => .skip
  | .region _ ops draw => trReg tt nt C ops.toList draw
  | .seq a b => .seq (trC tt nt C a) (trC tt nt C b)
  | .cond c a b => match trSrc [] c with | some s => .cond s (trC tt nt C a) (trC tt nt C b) | none => .bad 130
  | .block id c => .block id (trC tt nt C c)
  | .loop c => .loop (trC tt nt C c)
  | .exit id => .exit id
  | .ret => .ret
  | _ => .bad 131
def trRv (tt : TT) : ResultVar → Option Rv
  | .tmp t => bif Nat.blt t 100000 then some (.tmp (bpOf t)) else none
  | .cell a t => bif !(Nat.blt a 100000) then none else match aggT tt t, sizeT tt t with
    | some true, some n => some (.celln n (bpOf a))
    | some false, some _ => some (.cell1 (bpOf a))
    | _, _ => none
def trRvs (tt : TT) : List ResultVar → Option (List Rv)
  | [] => some []
  | r :: l => match trRv tt r, trRvs tt l with | some r, some l => some (r :: l) | _, _ => none
def slots : Nat → Tr Unit → Tr Unit
  | 0, C => C
  | n + 1, C => set (bpOf n) (some ()) (slots n C)
def trF (tt : TT) (fn : Func) : Option CF := match fn.body, trRvs tt fn.results.toList with
  | some c, some rs => bif Nat.ble fn.ntmps 100000 && Nat.ble (fn.params.size + fn.nfree) 1000 && !(fn.name == "runtime.NumGoroutine") then some (.mk (fn.params.size + fn.nfree) (trC tt fn.ntmps (slots (fn.params.size + fn.nfree) (useR fn.results.toList (useC c .lf))) c) rs) else none
  | _, _ => none
def ofL {α : Type} : List (Option α) → Nat → Tr α → Tr α
  | [], _, t => t
  | a :: l, i, t => ofL l (i + 1) (set (bpOf i) a t)
def ttOf (P : Program) : TT := ofL (P.types.toList.map some) 0 .lf
def fnsOf (P : Program) (tt : TT) : Tr CF := ofL (P.funcs.toList.map (trF tt)) 0 .lf
def mtsOf (tt : TT) (t : Nat) (name : String) : Option Nat := match ti tt t with
  | some i => (match i.methods.toList.find? (fun m => m.name == name) with
    | some m => (match m.path.toList, m.func, und tt t with
      | [], some (f, true), some (.pointer _) => some f
      | [], some (_, false), some (.pointer _) => none
      | [], some (f, false), some _ => some f
      | _, _, _ => none)
    | none => none)
  | none => none
def noOv (_ : Nat) (_ : List V) (_ : H) : Option R1 := none
def enOf (P : Program) (path : List (Cd × Bool)) (norm : List (Z × Z)) (ov : Nat → List V → H → Option R1) (gl : List Nat) : En := ⟨path, norm, fnsOf P (ttOf P), ov, mtsOf (ttOf P), gl.foldr (fun g t => set (bpOf (100000 + g)) (some (.p (bpOf g) 0)) t) .lf⟩
/-- the memory at first: the listed variables -/
def H0 (l : List (Nat × List V)) : H := .mk (bpOf 1000) (l.foldr (fun p t => set (bpOf p.1) (some (.c p.2 none false)) t) .lf)
end
end Ev
end Go.Proofs.YtoinghomkcjkcaaGreatDoor
/- What the small machine's parts come to: laws by which an answer is taken apart. -/
namespace Go.Proofs.YtoinghomkcjkcaaGreatDoor
set_option linter.unusedSimpArgs false
set_option linter.unusedVariables false
set_option linter.constructorNameAsVariable false
open Go Go.RowKit
namespace Ev
variable {α β : Type}
theorem ocase_ne {o : Option α} {g r : β} {f : α → β} (h : ocase o g f = r) (hg : g ≠ r) : ∃ a, o = some a ∧ f a = r := by
  cases o with
  | none => exact absurd h hg
  | some a => exact ⟨a, rfl, h⟩
theorem bcase_or (c : Bool) (g t : β) : bcase c g t = g ∨ bcase c g t = t := by cases c; exact .inl rfl; exact .inr rfl
theorem bcase_ne {c : Bool} {g r t : β} (h : bcase c g t = r) (hg : g ≠ r) : c = true ∧ t = r := by
  cases c with
  | false => exact absurd h hg
  | true => exact ⟨rfl, h⟩
theorem bcase_ne' {c : Bool} {g r t : β} (h : bcase c g t = r) (hg : t ≠ r) : c = false ∧ g = r := by
  cases c with
  | true => exact absurd h hg
  | false => exact ⟨rfl, h⟩
theorem lcase_ne {l : List α} {g r : β} {f : α → List α → β} (h : lcase l g f = r) (hg : g ≠ r) : ∃ a m, l = a :: m ∧ f a m = r := by
  cases l with
  | nil => exact absurd h hg
  | cons a m => exact ⟨a, m, rfl, h⟩
@[simp] theorem ocase_none {g : β} {f : α → β} : ocase none g f = g := rfl
@[simp] theorem ocase_some {a : α} {g : β} {f : α → β} : ocase (some a) g f = f a := rfl
@[simp] theorem bcase_f {g t : β} : bcase false g t = g := rfl
@[simp] theorem bcase_t {g t : β} : bcase true g t = t := rfl
@[simp] theorem lcase_nil {g : β} {f : α → List α → β} : lcase [] g f = g := rfl
@[simp] theorem lcase_cons {a : α} {m : List α} {g : β} {f : α → List α → β} : lcase (a :: m) g f = f a m := rfl
@[simp] theorem ncase_zero {g : β} {f : Nat → β} : ncase 0 g f = g := rfl
@[simp] theorem ncase_succ {n : Nat} {g : β} {f : Nat → β} : ncase (n + 1) g f = f n := rfl
theorem bcase_eq (c : Bool) (g t : β) : bcase c g t = bif c then t else g := by cases c <;> rfl
section
variable {v : V} {g r : β}
theorem onI_ne {f} (h : onI v g f = r) (hg : g ≠ r) : ∃ k z, v = .i k z ∧ f k z = r := by
  cases v <;> first | exact absurd h hg | exact ⟨_, _, rfl, h⟩
theorem onB_ne {f} (h : onB v g f = r) (hg : g ≠ r) : ∃ x, v = .b x ∧ f x = r := by
  cases v <;> first | exact absurd h hg | exact ⟨_, rfl, h⟩
theorem onS_ne {f} (h : onS v g f = r) (hg : g ≠ r) : ∃ x, v = .s x ∧ f x = r := by
  cases v <;> first | exact absurd h hg | exact ⟨_, rfl, h⟩
theorem onP_ne {f} (h : onP v g f = r) (hg : g ≠ r) : ∃ x o, v = .p x o ∧ f x o = r := by
  cases v <;> first | exact absurd h hg | exact ⟨_, _, rfl, h⟩
theorem onE_ne {f} (h : onE v g f = r) (hg : g ≠ r) : ∃ x o, v = .e x o ∧ f x o = r := by
  cases v <;> first | exact absurd h hg | exact ⟨_, _, rfl, h⟩
theorem onSl_ne {f} (h : onSl v g f = r) (hg : g ≠ r) : ∃ x o s n, v = .sl x o s n ∧ f x o s n = r := by
  cases v <;> first | exact absurd h hg | exact ⟨_, _, _, _, rfl, h⟩
theorem onF_ne {f} (h : onF v g f = r) (hg : g ≠ r) : ∃ x a b, v = .f x a b ∧ f x a b = r := by
  cases v <;> first | exact absurd h hg | exact ⟨_, _, _, rfl, h⟩
theorem onN_ne {f} (h : onN v g f = r) (hg : g ≠ r) : ∃ t w, v = .n t w ∧ f t w = r := by
  cases v <;> first | exact absurd h hg | exact ⟨_, _, rfl, h⟩
theorem onG_ne {f} (h : onG v g f = r) (hg : g ≠ r) : ∃ l, v = .g l ∧ f l = r := by
  cases v <;> first | exact absurd h hg | exact ⟨_, rfl, h⟩
theorem onU_ne {f} (h : onU v g f = r) (hg : g ≠ r) : ∃ l, v = .u l ∧ f l = r := by
  cases v <;> first | exact absurd h hg | exact ⟨_, rfl, h⟩
theorem onSy_or {f} (h : onSy v g f = r) : (∃ x z l, v = .sy x z l ∧ f x z l = r) ∨ g = r := by
  cases v <;> first | exact .inl ⟨_, _, _, rfl, h⟩ | exact .inr h
theorem onSl_or {f} (h : onSl v g f = r) : (∃ x o s n, v = .sl x o s n ∧ f x o s n = r) ∨ g = r := by
  cases v <;> first | exact .inl ⟨_, _, _, _, rfl, h⟩ | exact .inr h
theorem onM_ne {f} (h : onM v g f = r) (hg : g ≠ r) : ∃ x, v = .m x ∧ f x = r := by
  cases v <;> first | exact absurd h hg | exact ⟨_, rfl, h⟩
end
theorem onLit_ne {z : Z} {g r : β} {f : Int → β} (h : onLit z g f = r) (hg : g ≠ r) : ∃ n, z = .lit n ∧ f n = r := by
  cases z <;> first | exact absurd h hg | exact ⟨_, rfl, h⟩
theorem ipos_ne {n : Int} {r c : β} {f : Nat → β} (h : ipos n f (fun _ => c) = r) (hg : c ≠ r) : ∃ m : Nat, n = (m : Int) ∧ f m = r := by
  cases n with
  | ofNat m => exact ⟨m, rfl, h⟩
  | negSucc m => exact absurd h hg
theorem asNat_ne {v : V} {g r : β} {f : Nat → β} (h : asNat v g f = r) (hg : g ≠ r) : ∃ (k : IntKind) (n : Nat), v = .i k (.lit (n : Int)) ∧ f n = r := by
  obtain ⟨k, z, rfl, h⟩ := onI_ne h hg
  obtain ⟨n, rfl, h⟩ := onLit_ne h hg
  obtain ⟨m, rfl, h⟩ := ipos_ne h hg
  exact ⟨k, m, rfl, h⟩
theorem forceN_eq {n : Nat} {g : β} {f : Nat → β} : forceN n g f = f n := by unfold forceN; rw [Nat.beq_refl]; rfl
theorem forceI_eq {n : Int} {g : β} {f : Int → β} : forceI n g f = f n := by unfold forceI; cases n <;> simp [ipos]
theorem okI_eq {k : IntKind} {n : Int} : okI k n = some (.i k (.lit n)) := by unfold okI; rw [forceI_eq]
theorem okB_eq {b : Bool} : okB b = some (.b b) := by cases b <;> rfl
theorem okN_eq {n : Nat} : okN n = some (.i .i64 (.lit (n : Int))) := by unfold okN; rw [forceN_eq]; rfl
theorem okOB_some {o : Option Bool} {v : V} (h : okOB o = some v) : ∃ b, o = some b ∧ v = .b b := by
  obtain ⟨b, e, h2⟩ := ocase_ne h (by simp)
  rw [okB_eq] at h2; exact ⟨b, e, (Option.some.inj h2).symm⟩
-- lists
theorem nth_eq (l : List α) : ∀ i, nth l i = l[i]? := by
  induction l with
  | nil => intro i; rfl
  | cons a l ih => intro i; cases i with
    | zero => rfl
    | succ i => simp only [List.getElem?_cons_succ]; exact ih i
theorem drop_eq (n : Nat) : ∀ l : List α, Ev.drop n l = l.drop n := by
  induction n with
  | zero => intro l; rfl
  | succ n ih => intro l; cases l with
    | nil => rfl
    | cons a l => exact ih l
theorem consS_eq (a : α) (l : List α) : consS l a = a :: l := by cases l <;> rfl
theorem take_eq (n : Nat) : ∀ l : List α, Ev.take n l = l.take n := by
  induction n with
  | zero => intro l; rfl
  | succ n ih => intro l; cases l with
    | nil => rfl
    | cons a l => show consS (Ev.take n l) a = _; rw [consS_eq, ih]; rfl
theorem app_eq (l : List α) : ∀ m, app l m = l ++ m := by
  induction l with
  | nil => intro m; rfl
  | cons a l ih => intro m; show consS (app l m) a = _; rw [consS_eq, ih]; rfl
theorem len_eq (l : List α) : Ev.len l = l.length := by
  induction l with
  | nil => rfl
  | cons a l ih => show Nat.succ (Ev.len l) = _; rw [ih]; rfl
theorem lenIs_iff {n : Nat} {l : List V} : lenIs n l = true ↔ l.length = n := by unfold lenIs; rw [len_eq, Nat.beq_eq]
theorem over_eq (vs : List α) : ∀ l : List α, over vs l = (vs.take l.length) ++ l.drop vs.length := by
  induction vs with
  | nil => intro l; show l = _; simp
  | cons v vs ih => intro l; cases l with
    | nil => rfl
    | cons a l => show consS (over vs l) v = _; rw [consS_eq, ih]; simp
theorem splice_eq (off : Nat) (vs : List α) : ∀ l : List α, off + vs.length ≤ l.length → splice off vs l = l.take off ++ vs ++ l.drop (off + vs.length) := by
  induction off with
  | zero => intro l h; show over vs l = _; rw [over_eq]; simp; exact List.take_of_length_le (by omega)
  | succ n ih => intro l h; cases l with
    | nil => simp at h
    | cons a l => show consS (splice n vs l) a = _; rw [consS_eq, ih l (by simp at h; omega)]; simp [Nat.succ_add]
theorem splice_get {off : Nat} {vs l : List α} (h : off + vs.length ≤ l.length) (i : Nat) : (splice off vs l)[i]? = if off ≤ i ∧ i < off + vs.length then vs[i - off]? else l[i]? := by
  rw [splice_eq off vs l h, List.append_assoc]
  by_cases h1 : i < off
  · rw [List.getElem?_append_left (by simp; omega), List.getElem?_take]; simp [h1]; omega
  · by_cases h2 : i < off + vs.length
    · rw [List.getElem?_append_right (by simp; omega), List.getElem?_append_left (by simp; omega)]
      simp [show off ≤ i by omega, h2, show min off l.length = off by omega]
    · rw [List.getElem?_append_right (by simp; omega), List.getElem?_append_right (by simp; omega)]
      simp only [List.length_take, List.getElem?_drop, show min off l.length = off by omega]
      rw [if_neg (by omega)]; congr 1; omega
theorem splice_len {off : Nat} {vs l : List α} (h : off + vs.length ≤ l.length) : (splice off vs l).length = l.length := by
  rw [splice_eq off vs l h]; simp; omega
theorem over_len (vs : List α) : ∀ l : List α, (over vs l).length = l.length := by
  induction vs with
  | nil => intro l; rfl
  | cons v vs ih => intro l; cases l with
    | nil => rfl
    | cons a l => show (consS (over vs l) v).length = _; rw [consS_eq]; simp [ih]
theorem splice_len' (off : Nat) (vs : List α) : ∀ l : List α, (splice off vs l).length = l.length := by
  induction off with
  | zero => intro l; exact over_len vs l
  | succ n ih => intro l; cases l with
    | nil => rfl
    | cons a l => show (consS (splice n vs l) a).length = _; rw [consS_eq]; simp [ih]
theorem rep_len (z : List α) (n : Nat) : (rep z n).length = n * z.length := by
  induction n with
  | zero => show ([] : List α).length = _; simp
  | succ n ih => show (app z (rep z n)).length = _; rw [app_eq, List.length_append, ih, Nat.succ_mul]; omega
-- trees
variable {t : Tr α} {p q : BP} {x : Option α}
theorem mkL_eq (l : Tr α) (v : Option α) (r : Tr α) : mkL l v r = .nd l v r := by cases l <;> rfl
theorem mkR_eq (l : Tr α) (v : Option α) (r : Tr α) : mkR r l v = .nd l v r := by cases r <;> rfl
theorem get_lf (p : BP) : get p (Tr.lf : Tr α) = none := by cases p <;> rfl
theorem get_set_same (p : BP) : ∀ t : Tr α, get p (Ev.set p x t) = x := by
  induction p with
  | one => intro t; cases t <;> rfl
  | e p ih => intro t; cases t with
    | lf => show get (.e p) (mkL (Ev.set p x .lf) none .lf) = x; rw [mkL_eq]; exact ih _
    | nd l v r => show get (.e p) (mkL (Ev.set p x l) v r) = x; rw [mkL_eq]; exact ih _
  | o p ih => intro t; cases t with
    | lf => show get (.o p) (mkR (Ev.set p x .lf) .lf none) = x; rw [mkR_eq]; exact ih _
    | nd l v r => show get (.o p) (mkR (Ev.set p x r) l v) = x; rw [mkR_eq]; exact ih _
theorem get_set_ne (p : BP) : ∀ (q : BP) (t : Tr α), q ≠ p → get q (Ev.set p x t) = get q t := by
  induction p with
  | one => intro q t h; cases q with
    | one => exact absurd rfl h
    | e q => cases t with
      | lf => exact get_lf q
      | nd l v r => rfl
    | o q => cases t with
      | lf => exact get_lf q
      | nd l v r => rfl
  | e p ih => intro q t h; cases t with
    | lf => show get q (mkL (Ev.set p x .lf) none .lf) = _; rw [mkL_eq]; cases q with
      | one => rfl
      | e q => exact (ih q .lf (fun e => h (by rw [e]))).trans (get_lf q)
      | o q => exact get_lf q
    | nd l v r => show get q (mkL (Ev.set p x l) v r) = _; rw [mkL_eq]; cases q with
      | one => rfl
      | e q => exact ih q l (fun e => h (by rw [e]))
      | o q => rfl
  | o p ih => intro q t h; cases t with
    | lf => show get q (mkR (Ev.set p x .lf) .lf none) = _; rw [mkR_eq]; cases q with
      | one => rfl
      | e q => exact get_lf q
      | o q => exact (ih q .lf (fun e => h (by rw [e]))).trans (get_lf q)
    | nd l v r => show get q (mkR (Ev.set p x r) l v) = _; rw [mkR_eq]; cases q with
      | one => rfl
      | e q => rfl
      | o q => exact ih q r (fun e => h (by rw [e]))
theorem get_set (p q : BP) (t : Tr α) (x : Option α) : get q (Ev.set p x t) = if q = p then x else get q t := by
  split
  · rename_i h; subst h; exact get_set_same q t
  · rename_i h; exact get_set_ne p q t h
-- numbers in twos
def bpN : BP → Nat
  | .one => 1
  | .e p => 2 * bpN p
  | .o p => 2 * bpN p + 1
theorem bpN_pos : ∀ p, 0 < bpN p
  | .one => by simp [bpN]
  | .e p => by have := bpN_pos p; simp [bpN]; omega
  | .o p => by simp [bpN]
theorem bpN_inj : ∀ p q, bpN p = bpN q → p = q
  | .one, .one, _ => rfl
  | .one, .e q, h => by have := bpN_pos q; simp [bpN] at h; omega
  | .one, .o q, h => by have := bpN_pos q; simp [bpN] at h; omega
  | .e p, .one, h => by have := bpN_pos p; simp [bpN] at h; omega
  | .e p, .e q, h => by rw [bpN_inj p q (by simp [bpN] at h; omega)]
  | .e p, .o q, h => by simp [bpN] at h; omega
  | .o p, .one, h => by have := bpN_pos p; simp [bpN] at h; omega
  | .o p, .e q, h => by simp [bpN] at h; omega
  | .o p, .o q, h => by rw [bpN_inj p q (by simp [bpN] at h; omega)]
theorem bpN_succ : ∀ p, bpN (succ p) = bpN p + 1
  | .one => rfl
  | .e p => by show bpN (.o p) = _; simp [bpN]
  | .o p => by show bpN (.e (succ p)) = _; simp [bpN, bpN_succ p]; omega
theorem bpOf'_N : ∀ (f m : Nat), 0 < m → m < 2 ^ f → bpN (bpOf' f m) = m := by
  intro f
  induction f with
  | zero => intro m h h'; omega
  | succ f ih =>
    intro m h h'
    show bpN (Bool.rec (Bool.rec (BP.e (bpOf' f (Nat.shiftRight m 1))) (BP.o (bpOf' f (Nat.shiftRight m 1))) (Nat.beq (Nat.land m 1) 1)) BP.one (Nat.ble m 1)) = m
    have hs : Nat.shiftRight m 1 = m / 2 := rfl
    have hl : Nat.land m 1 = m % 2 := by show m &&& 1 = m % 2; exact Nat.and_one_is_mod m
    have hp : 2 ^ (f + 1) = 2 ^ f * 2 := Nat.pow_succ ..
    rw [hs, hl]
    by_cases h1 : m ≤ 1
    · rw [Nat.ble_eq_true_of_le h1]; show (1 : Nat) = m; omega
    · have hb : Nat.ble m 1 = false := by cases hb : Nat.ble m 1 with
        | true => exact absurd (Nat.le_of_ble_eq_true hb) h1
        | false => rfl
      rw [hb]
      have ih' := ih (m / 2) (by omega) (by omega)
      by_cases h2 : m % 2 = 1
      · rw [h2]; show 2 * bpN (bpOf' f (m / 2)) + 1 = m; omega
      · have : Nat.beq (m % 2) 1 = false := by cases hb : Nat.beq (m % 2) 1 with
          | true => exact absurd (Nat.eq_of_beq_eq_true hb) h2
          | false => rfl
        rw [this]; show 2 * bpN (bpOf' f (m / 2)) = m; omega
theorem bpOf_inj {m n : Nat} (hm : m + 1 < 2 ^ 40) (hn : n + 1 < 2 ^ 40) (h : bpOf m = bpOf n) : m = n := by
  have := congrArg bpN h
  unfold bpOf at this
  rw [bpOf'_N 40 _ (by omega) hm, bpOf'_N 40 _ (by omega) hn] at this
  omega
theorem bpEq_iff : ∀ p q, bpEq p q = true ↔ p = q
  | .one, .one => ⟨fun _ => rfl, fun _ => rfl⟩
  | .one, .e q => ⟨fun h => (by cases h), fun h => (by cases h)⟩
  | .one, .o q => ⟨fun h => (by cases h), fun h => (by cases h)⟩
  | .e p, .one => ⟨fun h => (by cases h), fun h => (by cases h)⟩
  | .e p, .e q => (bpEq_iff p q).trans ⟨fun h => (by rw [h]), fun h => (by cases h; rfl)⟩
  | .e p, .o q => ⟨fun h => (by cases h), fun h => (by cases h)⟩
  | .o p, .one => ⟨fun h => (by cases h), fun h => (by cases h)⟩
  | .o p, .e q => ⟨fun h => (by cases h), fun h => (by cases h)⟩
  | .o p, .o q => (bpEq_iff p q).trans ⟨fun h => (by rw [h]), fun h => (by cases h; rfl)⟩
theorem ofL_get : ∀ (l : List (Option α)) (i : Nat) (t : Tr α) (n : Nat), i + l.length < 2 ^ 39 → n < 2 ^ 39 → get (bpOf n) (ofL l i t) = if i ≤ n ∧ n < i + l.length then (l[n - i]?).join else get (bpOf n) t
  | [], i, t, n, _, _ => by simp [ofL]; intro h h'; omega
  | a :: l, i, t, n, h, hn => by
    simp only [List.length_cons] at h ⊢
    show get (bpOf n) (ofL l (i + 1) (Ev.set (bpOf i) a t)) = _
    rw [ofL_get l (i + 1) _ n (by omega) hn, get_set]
    by_cases e : n = i
    · subst e; rw [if_neg (by omega), if_pos rfl, if_pos (by omega)]; simp
    · have : bpOf n ≠ bpOf i := fun e' => e (bpOf_inj (by omega) (by omega) e')
      rw [if_neg this]
      by_cases h1 : i + 1 ≤ n ∧ n < i + 1 + l.length
      · rw [if_pos h1, if_pos (by omega), show n - i = (n - (i + 1)) + 1 by omega]; rfl
      · rw [if_neg h1, if_neg (by omega)]
end Ev
end Go.Proofs.YtoinghomkcjkcaaGreatDoor
/- How the small machine's values stand to the model's. -/
namespace Go.Proofs.YtoinghomkcjkcaaGreatDoor
set_option linter.unusedSimpArgs false
set_option linter.unusedVariables false
set_option linter.constructorNameAsVariable false
open Go Go.RowKit
namespace Ev
def binVal (op : BinOp) (k : IntKind) (x y : Int) : Int := match op with
  | .add => k.wrap (x + y) | .sub => k.wrap (x - y) | .mul => k.wrap (x * y)
  | .quo => k.wrap (x.tdiv y) | .rem => x.tmod y
  | .and => k.wrap (BitVec.ofInt k.bits x &&& BitVec.ofInt k.bits y).toNat | .or => k.wrap (BitVec.ofInt k.bits x ||| BitVec.ofInt k.bits y).toNat
  | .xor => k.wrap (BitVec.ofInt k.bits x ^^^ BitVec.ofInt k.bits y).toNat | .andNot => k.wrap (BitVec.ofInt k.bits x &&& ~~~(BitVec.ofInt k.bits y)).toNat
  | .shl => k.wrap (x * 2 ^ (min y.toNat k.bits)) | .shr => x.fdiv (2 ^ (min y.toNat k.bits))
  | _ => 0
def zval (ν : Nat → Int) : Z → Int
  | .lit n => n
  | .var i => ν i
  | .bin op k a b => binVal op k (zval ν a) (zval ν b)
  | .conv k a => k.wrap (zval ν a)
/-- where a block of the small machine lies: block, place, how many cells there are from there -/
abbrev Pl := BP → Option (Nat × Nat × Nat)
def Pl.le (ρ ρ' : Pl) : Prop := ∀ x p, ρ x = some p → ρ' x = some p
theorem Pl.le_refl (ρ : Pl) : ρ.le ρ := fun _ _ h => h
theorem Pl.le_trans {a b c : Pl} (h : a.le b) (k : b.le c) : a.le c := fun x p e => k x p (h x p e)
variable (ν : Nat → Int)
def SR : List Z → List UInt8 → Prop
  | [], [] => True
  | z :: l, b :: m => zval ν z = (b.toNat : Int) ∧ SR l m
  | _, _ => False
section
variable (ρ : Pl)
mutual
def VR : V → Value → Prop
  | .x, _ => True
  | .b x, u => u = .bool x
  | .i k z, u => u = .int k (zval ν z)
  | .s l, u => ∃ s : ByteArray, u = .string s ∧ SR ν l s.data.toList
  | .p0, u => u = .pointer none
  | .p x o, u => ∃ b c n, ρ x = some (b, c, n) ∧ u = .pointer (some ⟨b, c + o, none⟩)
  | .s0, u => u = .slice none 0 0
  | .e _ _, u => ∃ p, u = .slice (some p) 0 0
  | .sl x o sz len, u => ∃ b c n cap p, ρ x = some (b, c, n) ∧ u = .slice (some p) len cap ∧ len ≤ cap ∧ (cap ≠ 0 → p = ⟨b, c + o, none⟩ ∧ o + cap * sz ≤ n)
  | .f0, u => u = .nilFunc
  | .f g a c, u => ∃ xs ys, u = .func (.func g) xs ys ∧ VRs a xs.toList ∧ VRs c ys.toList
  | .n0, u => u = .nilIface
  | .n t v, u => ∃ w, u = .iface t w ∧ VR v w
  | .g l, u => ∃ cs, u = .agg cs ∧ VRs l cs.toList
  | .u l, u => ∃ cs, u = .tuple cs ∧ VRs l cs.toList
  | .m0, u => u = .map none
  | .m x, u => ∃ b n, ρ x = some (b, 0, n) ∧ u = .map (some b)
  | .sy x z l, u => ∃ b c n len cap p, ρ x = some (b, c, n) ∧ u = .slice p len cap ∧ (len : Int) = zval ν l ∧ 0 ≤ zval ν z ∧ (zval ν z < zval ν l → ∃ c0, p = some ⟨b, c0, none⟩ ∧ c = c0 + (zval ν z).toNat)
def VRs : List V → List Value → Prop
  | [], l => l = []
  | v :: vs, l => ∃ u us, l = u :: us ∧ VR v u ∧ VRs vs us
end
end
mutual
theorem VR.mono {ρ ρ' : Pl} (h : ρ.le ρ') : ∀ (v : V) (u : Value), VR ν ρ v u → VR ν ρ' v u
  | .x, _, _ => by simp only [VR]
  | .b x, u, k => by simpa only [VR] using k
  | .i _ z, u, k => by simpa only [VR] using k
  | .s l, u, k => by simpa only [VR] using k
  | .p0, u, k => by simpa only [VR] using k
  | .p x o, u, k => by simp only [VR] at k ⊢; obtain ⟨b, c, n, e, k⟩ := k; exact ⟨b, c, n, h _ _ e, k⟩
  | .s0, u, k => by simpa only [VR] using k
  | .e x o, u, k => by simpa only [VR] using k
  | .sl x o sz len, u, k => by simp only [VR] at k ⊢; obtain ⟨b, c, n, cap, p, e, k⟩ := k; exact ⟨b, c, n, cap, p, h _ _ e, k⟩
  | .f0, u, k => by simpa only [VR] using k
  | .f g a c, u, k => by simp only [VR] at k ⊢; obtain ⟨xs, ys, e, k1, k2⟩ := k; exact ⟨xs, ys, e, VRs.mono h _ _ k1, VRs.mono h _ _ k2⟩
  | .n0, u, k => by simpa only [VR] using k
  | .n t v, u, k => by simp only [VR] at k ⊢; obtain ⟨w, e, k⟩ := k; exact ⟨w, e, VR.mono h _ _ k⟩
  | .g l, u, k => by simp only [VR] at k ⊢; obtain ⟨w, e, k⟩ := k; exact ⟨w, e, VRs.mono h _ _ k⟩
  | .u l, u, k => by simp only [VR] at k ⊢; obtain ⟨w, e, k⟩ := k; exact ⟨w, e, VRs.mono h _ _ k⟩
  | .m0, u, k => by simpa only [VR] using k
  | .m x, u, k => by simp only [VR] at k ⊢; obtain ⟨b, n, e, k⟩ := k; exact ⟨b, n, h _ _ e, k⟩
  | .sy x z l, u, k => by simp only [VR] at k ⊢; obtain ⟨b, c, n, len, cap, p, e, k⟩ := k; exact ⟨b, c, n, len, cap, p, h _ _ e, k⟩
theorem VRs.mono {ρ ρ' : Pl} (h : ρ.le ρ') : ∀ (v : List V) (u : List Value), VRs ν ρ v u → VRs ν ρ' v u
  | [], _, k => by simpa only [VRs] using k
  | v :: vs, u, k => by simp only [VRs] at k ⊢; obtain ⟨u, us, e, k1, k2⟩ := k; exact ⟨u, us, e, VR.mono h _ _ k1, VRs.mono h _ _ k2⟩
end
variable {ν} {ρ : Pl}
theorem VRs.get : ∀ {l : List V} {m : List Value}, VRs ν ρ l m → ∀ {i : Nat} {v : V}, l[i]? = some v → ∃ u, m[i]? = some u ∧ VR ν ρ v u
  | [], m, h, i, v, e => by simp at e
  | a :: l, m, h, i, v, e => by
    simp only [VRs] at h
    obtain ⟨u, us, rfl, h1, h2⟩ := h
    cases i with
    | zero => obtain rfl : a = v := by simpa using e
              exact ⟨u, rfl, h1⟩
    | succ i => simpa using VRs.get h2 (by simpa using e)
theorem VRs.length : ∀ {l : List V} {m : List Value}, VRs ν ρ l m → m.length = l.length
  | [], m, h => by simp only [VRs] at h; subst h; rfl
  | a :: l, m, h => by
    simp only [VRs] at h
    obtain ⟨u, us, rfl, h1, h2⟩ := h
    simp [VRs.length h2]
theorem VRs.of_get : ∀ {l : List V} {m : List Value}, m.length = l.length → (∀ (i : Nat) (v : V), l[i]? = some v → ∃ u, m[i]? = some u ∧ VR ν ρ v u) → VRs ν ρ l m
  | [], m, h, _ => by simp only [VRs]; exact List.eq_nil_of_length_eq_zero h
  | a :: l, [], h, _ => by simp at h
  | a :: l, u :: m, h, k => by
    simp only [VRs]
    refine ⟨u, m, rfl, ?_, VRs.of_get (by simpa using h) (fun i v e => by simpa using k (i + 1) v (by simpa using e))⟩
    obtain ⟨u', e, k⟩ := k 0 a rfl
    obtain rfl : u = u' := by simpa using e
    exact k
theorem VRs.app {l l' : List V} {m m' : List Value} (h : VRs ν ρ l m) (h' : VRs ν ρ l' m') : VRs ν ρ (l ++ l') (m ++ m') := by
  induction l generalizing m with
  | nil => simp only [VRs] at h; subst h; simpa using h'
  | cons a l ih =>
    simp only [VRs] at h
    obtain ⟨u, us, rfl, h1, h2⟩ := h
    simp only [List.cons_append, VRs]
    exact ⟨u, us ++ m', rfl, h1, ih h2⟩
theorem VRs.drop {l : List V} {m : List Value} (h : VRs ν ρ l m) (n : Nat) : VRs ν ρ (l.drop n) (m.drop n) :=
  VRs.of_get (by simp [h.length]) (fun i v e => by rw [List.getElem?_drop] at e ⊢; exact h.get e)
theorem VRs.take {l : List V} {m : List Value} (h : VRs ν ρ l m) (n : Nat) : VRs ν ρ (l.take n) (m.take n) :=
  VRs.of_get (by simp [h.length]) (fun i v e => by
    rw [List.getElem?_take] at e ⊢
    split at e
    · rename_i hi; simp only [hi, if_true]; exact h.get e
    · simp at e)
theorem SR.length : ∀ {l : List Z} {m : List UInt8}, SR ν l m → m.length = l.length
  | [], [], _ => rfl
  | [], _ :: _, h => h.elim
  | _ :: _, [], h => h.elim
  | _ :: l, _ :: m, h => by simp [SR.length h.2]
theorem SR.get : ∀ {l : List Z} {m : List UInt8}, SR ν l m → ∀ {i : Nat} {z : Z}, l[i]? = some z → ∃ b, m[i]? = some b ∧ zval ν z = (b.toNat : Int)
  | [], [], _, i, z, e => by simp at e
  | [], _ :: _, h, _, _, _ => h.elim
  | _ :: _, [], h, _, _, _ => h.elim
  | a :: l, b :: m, h, i, z, e => by
    cases i with
    | zero => obtain rfl : a = z := by simpa using e
              exact ⟨b, rfl, h.1⟩
    | succ i => simpa using SR.get h.2 (by simpa using e)
theorem SR.app : ∀ {l l' : List Z} {m m' : List UInt8}, SR ν l m → SR ν l' m' → SR ν (l ++ l') (m ++ m')
  | [], _, [], _, _, h' => h'
  | [], _, _ :: _, _, h, _ => h.elim
  | _ :: _, _, [], _, h, _ => h.elim
  | _ :: l, _, _ :: m, _, h, h' => ⟨h.1, SR.app h.2 h'⟩
theorem SR.drop : ∀ (n : Nat) {l : List Z} {m : List UInt8}, SR ν l m → SR ν (l.drop n) (m.drop n)
  | 0, _, _, h => h
  | n + 1, [], [], h => h
  | n + 1, [], _ :: _, h => h.elim
  | n + 1, _ :: _, [], h => h.elim
  | n + 1, _ :: l, _ :: m, h => SR.drop n h.2
theorem SR.take : ∀ (n : Nat) {l : List Z} {m : List UInt8}, SR ν l m → SR ν (l.take n) (m.take n)
  | 0, _, _, _ => trivial
  | n + 1, [], [], h => h
  | n + 1, [], _ :: _, h => h.elim
  | n + 1, _ :: _, [], h => h.elim
  | n + 1, _ :: l, _ :: m, h => ⟨h.1, SR.take n h.2⟩
theorem SR.zs : ∀ {l : List Z} {m : List UInt8}, SR ν l m → VRs ν ρ (zs l) (m.map fun b => Value.int .u8 b.toNat)
  | [], [], _ => by simp [Ev.zs, VRs]
  | [], _ :: _, h => h.elim
  | _ :: _, [], h => h.elim
  | z :: l, b :: m, h => by
    show VRs ν ρ (V.i .u8 z :: Ev.zs l) _
    simp only [VRs, List.map_cons]
    exact ⟨_, _, rfl, by simp only [VR]; rw [h.1], SR.zs h.2⟩
theorem SR.ofBytes : ∀ (m : List UInt8), SR ν (zsOf m) m
  | [] => trivial
  | b :: m => ⟨rfl, SR.ofBytes m⟩
mutual
theorem trVal_sound : ∀ (u : Value) (v : V), trVal u = some v → VR ν ρ v u
  | .bool b, v, h => by simp only [trVal, Option.some.injEq] at h; subst h; simp [VR]
  | .int k n, v, h => by simp only [trVal, Option.some.injEq] at h; subst h; simp [VR, zval]
  | .string s, v, h => by simp only [trVal, Option.some.injEq] at h; subst h; simp only [VR]; exact ⟨s, rfl, SR.ofBytes _⟩
  | .pointer none, v, h => by simp only [trVal, Option.some.injEq] at h; subst h; simp [VR]
  | .pointer (some _), v, h => by simp [trVal] at h
  | .slice a n c, v, h => by
    unfold trVal at h
    split at h <;> simp_all
    all_goals (subst h; simp [VR])
  | .map a, v, h => by
    unfold trVal at h
    split at h <;> simp_all
    all_goals (subst h; simp [VR])
  | .func f a c, v, h => by
    unfold trVal at h
    split at h <;> simp_all
    all_goals (subst h; simp [VR, VRs])
  | .nilFunc, v, h => by simp only [trVal, Option.some.injEq] at h; subst h; simp [VR]
  | .nilIface, v, h => by simp only [trVal, Option.some.injEq] at h; subst h; simp [VR]
  | .iface t w, v, h => by
    simp only [trVal] at h
    split at h
    · rename_i v' e
      obtain rfl := Option.some.inj h
      simp only [VR]
      exact ⟨w, rfl, trVal_sound w v' e⟩
    · cases h
  | .agg ⟨l⟩, v, h => by
    simp only [trVal] at h
    split at h
    · rename_i v' e
      obtain rfl := Option.some.inj h
      simp only [VR]
      exact ⟨⟨l⟩, rfl, trVals_sound l v' e⟩
    · cases h
  | .tuple ⟨l⟩, v, h => by
    simp only [trVal] at h
    split at h
    · rename_i v' e
      obtain rfl := Option.some.inj h
      simp only [VR]
      exact ⟨⟨l⟩, rfl, trVals_sound l v' e⟩
    · cases h
  | .float _ _, v, h => by simp [trVal] at h
  | .complex _ _ _, v, h => by simp [trVal] at h
  | .chan _, v, h => by simp [trVal] at h
theorem trVals_sound : ∀ (u : List Value) (v : List V), trVals u = some v → VRs ν ρ v u
  | [], v, h => by simp only [trVals, Option.some.injEq] at h; subst h; simp [VRs]
  | u :: us, v, h => by
    simp only [trVals] at h
    split at h
    · rename_i a b e1 e2
      obtain rfl := Option.some.inj h
      simp only [VRs]
      exact ⟨u, us, rfl, trVal_sound u a e1, trVals_sound us b e2⟩
    · cases h
end
theorem cells_one {v : V} {u : Value} (hx : v ≠ .x) (hg : ∀ l, v ≠ .g l) (h : VR ν ρ v u) : u.cells = #[u] := by
  cases u with
  | agg cs => cases v <;> simp_all [VR]
  | _ => rfl
theorem cellsV_sound {v : V} {u : Value} (hx : v ≠ .x) (h : VR ν ρ v u) : VRs ν ρ (cellsV v) u.cells.toList := by
  by_cases hg : ∃ l, v = .g l
  · obtain ⟨l, rfl⟩ := hg
    simp only [VR] at h
    obtain ⟨cs, rfl, k⟩ := h; exact k
  · rw [cells_one hx (fun l e => hg ⟨l, e⟩) h]
    have : cellsV v = [v] := by cases v <;> first | rfl | exact absurd ⟨_, rfl⟩ hg
    rw [this]; simp only [VRs]; exact ⟨u, [], rfl, h, rfl⟩
/-- one cell -/
theorem VR.one {v : V} {u : Value} (h : VR ν ρ v u) (h1 : oneV v = true) : u.oneCell' = true := by
  cases v <;> first
    | exact absurd h1 (by decide)
    | (simp only [VR] at h; subst h; rfl)
    | (simp only [VR] at h; obtain ⟨_, h⟩ := h; subst h; rfl)
    | (simp only [VR] at h; obtain ⟨_, h, _⟩ := h; subst h; rfl)
    | (simp only [VR] at h; obtain ⟨_, _, h, _⟩ := h; subst h; rfl)
    | (simp only [VR] at h; obtain ⟨_, _, _, h⟩ := h; subst h; rfl)
    | (simp only [VR] at h; obtain ⟨_, _, _, _, h⟩ := h; subst h; rfl)
    | (simp only [VR] at h; obtain ⟨_, _, _, _, _, _, h, _⟩ := h; subst h; rfl)
    | (exact absurd h1 (by simp [oneV]))
theorem undef_iff {u : Value} : VR ν ρ (.u []) u ↔ u = undef := by
  simp only [VR, VRs]
  constructor
  · rintro ⟨cs, rfl, h⟩
    have : cs = #[] := by cases cs; simp_all
    rw [this]; rfl
  · rintro rfl; exact ⟨#[], rfl, rfl⟩
end Ev
end Go.Proofs.YtoinghomkcjkcaaGreatDoor
/- What only reckons does in the model what it does in the small machine. -/
namespace Go.Proofs.YtoinghomkcjkcaaGreatDoor
set_option linter.unusedSimpArgs false
set_option linter.unusedVariables false
set_option linter.constructorNameAsVariable false
open Go Go.RowKit
namespace Ev
variable {path : List (Cd × Bool)} {norm : List (Z × Z)}
variable {P : Program} {tt : TT} {ν : Nat → Int} {ρ : Pl} {ds : List (Option Tmp)} {sv : Src → V} {a : Act} {en : En} {w : World}
structure TTok (P : Program) (tt : TT) : Prop where
  info : ∀ t i, ti tt t = some i → P.info? t = some i
  flat : ∀ t, flatT tt t = true → P.stoodInHeld t = false ∧ P.eqGuardType P.depth t = false
instance : CoeFun (TTok P tt) (fun _ => ∀ t i, ti tt t = some i → P.info? t = some i) := ⟨TTok.info⟩
theorem und_ok (h : TTok P tt) {t : Nat} {d : TypeDesc} (k : und tt t = some d) : P.underlying t = some d := by
  unfold und at k
  unfold Program.underlying
  split at k
  · rename_i n u _ _ _ _ _ _ _ _ _ e
    rw [h _ _ e]
    cases e2 : ti tt u with
    | none => rw [e2] at k; simp at k
    | some i => rw [e2] at k; simp only [h _ _ e2]; simpa using k
  · rename_i i hn e
    rw [h _ _ e]
    obtain rfl := Option.some.inj k
    split
    · rename_i n u _ _ _ _ _ _ _ _ _ e3
      obtain rfl := Option.some.inj e3
      exact absurd rfl (hn _ _ _ _ _ _ _ _ _ _ _)
    · rename_i i' _ e3
      obtain rfl := Option.some.inj e3
      rfl
    · rename_i e3; cases e3
  · cases k
theorem size_ok (h : TTok P tt) {t n : Nat} (k : sizeT tt t = some n) : (Go.sizeOf t).run P w = .ok n w := by
  unfold sizeT at k
  cases e : ti tt t with
  | none => rw [e] at k; cases k
  | some i => rw [e] at k; obtain rfl := Option.some.inj k; simp [Go.sizeOf, typeInfo, h _ _ e]
theorem agg_ok (h : TTok P tt) {t : Nat} {b : Bool} (k : aggT tt t = some b) : (isAgg t).run P w = .ok b w := by
  unfold aggT at k
  cases e : und tt t with
  | none => rw [e] at k; cases k
  | some d =>
    rw [e] at k
    simp only [isAgg, Sem.run_bind, run_underlying (und_ok h e), Result.andThen_ok]
    cases d <;> simp_all
/-- The operands that are named stand as they should. -/
def OpR (ν : Nat → Int) (ρ : Pl) (ds : List (Option Tmp)) (sv : Src → V) (a : Act) (xs : List Operand) : Prop := ∀ x ∈ xs, ∀ s, trSrc ds x = some s → VR ν ρ (sv s) (a.eval x)
def PathOk (ν : Nat → Int) (path : List (Cd × Bool)) : Prop := ∀ c ∈ path, cmpI c.1.1 (zval ν c.1.2.1) (zval ν c.1.2.2) = c.2
def NormOk (ν : Nat → Int) (norm : List (Z × Z)) : Prop := ∀ c ∈ norm, zval ν c.1 = zval ν c.2
structure EnOk (ν : Nat → Int) (en : En) : Prop where
  path : PathOk ν en.path
  norm : NormOk ν en.norm
-- numbers
theorem eqI_eq : ∀ a b : Int, eqI a b = decide (a = b)
  | .ofNat m, .ofNat n => by
    show Nat.beq m n = _
    rw [Bool.eq_iff_iff, Nat.beq_eq, decide_eq_true_eq]; exact ⟨fun h => (by rw [h]), fun h => (by cases h; rfl)⟩
  | .ofNat m, .negSucc n => (decide_eq_false (by intro h; cases h)).symm
  | .negSucc m, .ofNat n => (decide_eq_false (by intro h; cases h)).symm
  | .negSucc m, .negSucc n => by
    show Nat.beq m n = _
    rw [Bool.eq_iff_iff, Nat.beq_eq, decide_eq_true_eq]; exact ⟨fun h => (by rw [h]), fun h => (by cases h; rfl)⟩
theorem blt_iff {m n : Nat} : Nat.blt m n = true ↔ m < n := by show Nat.ble (m + 1) n = true ↔ _; rw [Nat.ble_eq]; omega
theorem ltI_eq : ∀ a b : Int, ltI a b = decide (a < b)
  | .ofNat m, .ofNat n => by
    show Nat.blt m n = _
    rw [Bool.eq_iff_iff, blt_iff, decide_eq_true_eq, Int.ofNat_eq_natCast, Int.ofNat_eq_natCast]; omega
  | .ofNat m, .negSucc n => by
    show false = _
    rw [Int.ofNat_eq_natCast, Int.negSucc_eq]; symm; rw [decide_eq_false_iff_not]; omega
  | .negSucc m, .ofNat n => by
    show true = _
    rw [Int.ofNat_eq_natCast, Int.negSucc_eq]; symm; rw [decide_eq_true_eq]; omega
  | .negSucc m, .negSucc n => by
    show Nat.blt n m = _
    rw [Bool.eq_iff_iff, blt_iff, decide_eq_true_eq, Int.negSucc_eq, Int.negSucc_eq]; omega
theorem kN_inj {j k : IntKind} (h : kN j = kN k) : j = k := by cases j <;> cases k <;> first | rfl | exact absurd h (by decide)
theorem bN_inj {j k : BinOp} (h : bN j = bN k) : j = k := by cases j <;> cases k <;> first | rfl | exact absurd h (by decide)
theorem zBeq_eq : ∀ a b : Z, zBeq a b = true → a = b
  | .lit n, b, h => by
    cases b <;> first | exact absurd h Bool.false_ne_true | skip
    rename_i m
    have h' : eqI n m = true := h
    rw [eqI_eq] at h'; rw [of_decide_eq_true h']
  | .var i, b, h => by
    cases b <;> first | exact absurd h Bool.false_ne_true | skip
    rename_i j
    rw [Nat.eq_of_beq_eq_true (show Nat.beq i j = true from h)]
  | .bin op k a b, c, h => by
    cases c <;> first | exact absurd h Bool.false_ne_true | skip
    rename_i op' k' a' b'
    have h' : bcase (Nat.beq (bN op) (bN op')) false (bcase (Nat.beq (kN k) (kN k')) false (bcase (zBeq a a') false (zBeq b b'))) = true := h
    obtain ⟨h1, h'⟩ := bcase_ne h' (by simp)
    obtain ⟨h2, h'⟩ := bcase_ne h' (by simp)
    obtain ⟨h3, h4⟩ := bcase_ne h' (by simp)
    rw [bN_inj (Nat.eq_of_beq_eq_true h1), kN_inj (Nat.eq_of_beq_eq_true h2), zBeq_eq a a' h3, zBeq_eq b b' h4]
  | .conv k a, c, h => by
    cases c <;> first | exact absurd h Bool.false_ne_true | skip
    rename_i k' a'
    have h' : bcase (Nat.beq (kN k) (kN k')) false (zBeq a a') = true := h
    obtain ⟨h1, h'⟩ := bcase_ne h' (by simp)
    rw [kN_inj (Nat.eq_of_beq_eq_true h1), zBeq_eq a a' h']
theorem look_sound (hp : PathOk ν path) {op : BinOp} {x y : Z} {b : Bool} (h : look (op, x, y) path = some b) : cmpI op (zval ν x) (zval ν y) = b := by
  induction path with
  | nil => cases h
  | cons p l ih =>
    have h' : bcase (cdBeq (op, x, y) p.1) (look (op, x, y) l) (some p.2) = some b := h
    cases hc : cdBeq (op, x, y) p.1 with
    | false => rw [hc] at h'; exact ih (fun c hc => hp c (List.mem_cons_of_mem _ hc)) h'
    | true =>
      rw [hc] at h'
      obtain rfl := Option.some.inj h'
      have hc' : bcase (Nat.beq (bN op) (bN p.1.1)) false (bcase (zBeq x p.1.2.1) false (zBeq y p.1.2.2)) = true := hc
      obtain ⟨h1, hc'⟩ := bcase_ne hc' (by simp)
      obtain ⟨h2, h3⟩ := bcase_ne hc' (by simp)
      rw [bN_inj (Nat.eq_of_beq_eq_true h1), zBeq_eq _ _ h2, zBeq_eq _ _ h3]
      exact hp p (List.mem_cons_self ..)
theorem cmpZ_sound (hp : PathOk ν path) {op : BinOp} {x y : Z} {b : Bool} (h : cmpZ path op x y = some b) : cmpI op (zval ν x) (zval ν y) = b := by
  cases x <;> first
    | exact look_sound hp h
    | (cases y <;> first | exact look_sound hp h | exact Option.some.inj h)
theorem lookN_sound (hp : NormOk ν norm) {z y : Z} (h : lookN z norm = some y) : zval ν z = zval ν y := by
  induction norm with
  | nil => cases h
  | cons p l ih =>
    have h' : bcase (zBeq z p.1) (lookN z l) (some p.2) = some y := h
    cases hc : zBeq z p.1 with
    | false => rw [hc] at h'; exact ih (fun c hc => hp c (List.mem_cons_of_mem _ hc)) h'
    | true =>
      rw [hc] at h'
      obtain rfl := Option.some.inj h'
      rw [zBeq_eq _ _ hc]
      exact hp p (List.mem_cons_self ..)
theorem okZ_sound (hn : NormOk ν norm) {k : IntKind} {z : Z} {v : V} (h : okZ norm k z = some v) : ∃ z', v = .i k z' ∧ zval ν z' = zval ν z := by
  unfold okZ at h
  cases e : lookN z norm with
  | none => rw [e] at h; obtain rfl := Option.some.inj h; exact ⟨z, rfl, rfl⟩
  | some y =>
    rw [e] at h
    have e' := lookN_sound hn e
    cases y with
    | lit n => have h' : okI k n = some v := h; simp only [okI_eq, Option.some.injEq] at h'; subst h'; exact ⟨_, rfl, e'.symm⟩
    | _ => obtain rfl := Option.some.inj h; exact ⟨_, rfl, e'.symm⟩
theorem inR_wrap (k : IntKind) (n : Int) (h : inR k n = true) : k.wrap n = n := by
  have hk : ∀ c m, ltN c m = true → m < c := fun c m h => by simp only [ltN, Nat.blt, Nat.ble_eq] at h; omega
  cases k <;> cases n <;> simp only [inR, ipos] at h <;> first
    | (have := hk _ _ h; simp only [IntKind.wrap, IntKind.bits, IntKind.signed]; simp; omega)
    | exact absurd h (by simp [noN])
theorem wrapF_eq (k : IntKind) (n : Int) : wrapF k n = k.wrap n := by
  unfold wrapF
  cases h : inR k n with
  | true => exact (inR_wrap k n h).symm
  | false => rfl
theorem lit2_or {β : Type} {a b : Z} {g : β} {f : Int → Int → β} : (∃ m n, a = .lit m ∧ b = .lit n ∧ lit2 a b g f = f m n) ∨ lit2 a b g f = g := by
  cases a <;> first
    | exact .inr rfl
    | (cases b <;> first | exact .inr rfl | exact .inl ⟨_, _, rfl, rfl, rfl⟩)
theorem binI_sound (he : EnOk ν en) {op : BinOp} {k : IntKind} {x y : Z} {v : V} (h : binI op en k x y = some v) (t : TypeId) (p q : Operand) :
    ∃ u, (do eqGuard op t p q (.int k (zval ν x)) (.int k (zval ν y)); binOp op t (.int k (zval ν x)) (.int k (zval ν y)) : Sem Value).run P w = .ok u w ∧ VR ν ρ v u := by
  have hg : (eqGuard op t p q (.int k (zval ν x)) (.int k (zval ν y))).run P w = .ok () w := by cases op <;> simp [eqGuard]
  simp only [Sem.run_bind, hg, Result.andThen_ok]
  have ar : ∀ op', op' = .add ∨ op' = .sub ∨ op' = .mul → binAr en op' k x y = some v → ∃ z', v = .i k z' ∧ zval ν z' = binVal op' k (zval ν x) (zval ν y) := by
    intro op' ho h
    unfold binAr at h
    rcases lit2_or (a := x) (b := y) (g := okZ en.norm k (Z.bin op' k x y)) (f := fun m n => okI k (wrapF k (arI op' m n))) with ⟨m, n, rfl, rfl, e⟩ | e
    · rw [e, okI_eq] at h
      obtain rfl := Option.some.inj h
      refine ⟨_, rfl, ?_⟩
      simp only [zval, wrapF_eq]
      rcases ho with rfl | rfl | rfl <;> rfl
    · rw [e] at h; obtain ⟨z', rfl, e'⟩ := okZ_sound he.norm h; exact ⟨z', rfl, e'⟩
  have bi : ∀ op', op' = .and ∨ op' = .or ∨ op' = .xor ∨ op' = .andNot → binBit en op' k x y = some v → ∃ z', v = .i k z' ∧ zval ν z' = binVal op' k (zval ν x) (zval ν y) := by
    intro op' ho h
    unfold binBit at h
    rcases lit2_or (a := x) (b := y) (g := okZ en.norm k (Z.bin op' k x y)) (f := fun m n => okI k (bitI op' k m n)) with ⟨m, n, rfl, rfl, e⟩ | e
    · rw [e, okI_eq] at h
      obtain rfl := Option.some.inj h
      refine ⟨_, rfl, ?_⟩
      simp only [zval]
      rcases ho with rfl | rfl | rfl | rfl <;> rfl
    · rw [e] at h; obtain ⟨z', rfl, e'⟩ := okZ_sound he.norm h; exact ⟨z', rfl, e'⟩
  have di : ∀ op', op' = .quo ∨ op' = .rem → binDiv en op' k x y = some v → zval ν y ≠ 0 ∧ ∃ z', v = .i k z' ∧ zval ν z' = binVal op' k (zval ν x) (zval ν y) := by
    intro op' ho h
    unfold binDiv at h
    obtain ⟨b, hb, h⟩ := ocase_ne h (by simp)
    obtain ⟨rfl, h⟩ := bcase_ne' h (by simp)
    have h0 := cmpZ_sound he.path hb
    simp only [cmpI, eqI_eq, zval, decide_eq_false_iff_not] at h0
    refine ⟨h0, ?_⟩
    rcases lit2_or (a := x) (b := y) (g := okZ en.norm k (Z.bin op' k x y)) (f := fun m n => okI k (divI op' k m n)) with ⟨m, n, rfl, rfl, e⟩ | e
    · rw [e, okI_eq] at h
      obtain rfl := Option.some.inj h
      refine ⟨_, rfl, ?_⟩
      simp only [zval]
      rcases ho with rfl | rfl <;> rfl
    · rw [e] at h; obtain ⟨z', rfl, e'⟩ := okZ_sound he.norm h; exact ⟨z', rfl, e'⟩
  have sh : ∀ op', op' = .shl ∨ op' = .shr → binSh en op' k x y = some v → ¬ zval ν y < 0 ∧ ∃ z', v = .i k z' ∧ zval ν z' = binVal op' k (zval ν x) (zval ν y) := by
    intro op' ho h
    unfold binSh at h
    obtain ⟨b, hb, h⟩ := ocase_ne h (by simp)
    obtain ⟨rfl, h⟩ := bcase_ne' h (by simp)
    have h0 := cmpZ_sound he.path hb
    simp only [cmpI, ltI_eq, zval, decide_eq_false_iff_not] at h0
    refine ⟨h0, ?_⟩
    rcases lit2_or (a := x) (b := y) (g := okZ en.norm k (Z.bin op' k x y)) (f := fun m n => okI k (shI op' k m n)) with ⟨m, n, rfl, rfl, e⟩ | e
    · rw [e, okI_eq] at h
      obtain rfl := Option.some.inj h
      refine ⟨_, rfl, ?_⟩
      simp only [zval]
      rcases ho with rfl | rfl <;> rfl
    · rw [e] at h; obtain ⟨z', rfl, e'⟩ := okZ_sound he.norm h; exact ⟨z', rfl, e'⟩
  have cm : ∀ op', cmpK en op' x y = some v → v = .b (cmpI op' (zval ν x) (zval ν y)) := by
    intro op' h
    obtain ⟨b, hb, rfl⟩ := okOB_some h
    rw [cmpZ_sound he.path hb]
  cases op with
  | add => obtain ⟨z', rfl, e⟩ := ar .add (by simp) h; exact ⟨.int k (k.wrap (zval ν x + zval ν y)), by simp [binOp, Op.intArith], by simp only [VR]; rw [e]; rfl⟩
  | sub => obtain ⟨z', rfl, e⟩ := ar .sub (by simp) h; exact ⟨.int k (k.wrap (zval ν x - zval ν y)), by simp [binOp, Op.intArith], by simp only [VR]; rw [e]; rfl⟩
  | mul => obtain ⟨z', rfl, e⟩ := ar .mul (by simp) h; exact ⟨.int k (k.wrap (zval ν x * zval ν y)), by simp [binOp, Op.intArith], by simp only [VR]; rw [e]; rfl⟩
  | quo => obtain ⟨h0, z', rfl, e⟩ := di .quo (by simp) h; exact ⟨_, by simp [binOp, Op.intDiv, h0]; rfl, by simp only [VR]; rw [e]; rfl⟩
  | rem => obtain ⟨h0, z', rfl, e⟩ := di .rem (by simp) h; exact ⟨_, by simp [binOp, Op.intDiv, h0]; rfl, by simp only [VR]; rw [e]; rfl⟩
  | and => obtain ⟨z', rfl, e⟩ := bi .and (by simp) h; exact ⟨_, by simp [binOp, Op.intBits]; rfl, by simp only [VR]; rw [e]; rfl⟩
  | or => obtain ⟨z', rfl, e⟩ := bi .or (by simp) h; exact ⟨_, by simp [binOp, Op.intBits]; rfl, by simp only [VR]; rw [e]; rfl⟩
  | xor => obtain ⟨z', rfl, e⟩ := bi .xor (by simp) h; exact ⟨_, by simp [binOp, Op.intBits]; rfl, by simp only [VR]; rw [e]; rfl⟩
  | andNot => obtain ⟨z', rfl, e⟩ := bi .andNot (by simp) h; exact ⟨_, by simp only [binOp, ne_eq, not_true_eq_false, if_false]; rfl, by simp only [VR]; rw [e]; rfl⟩
  | shl => obtain ⟨h0, z', rfl, e⟩ := sh .shl (by simp) h; exact ⟨_, by simp [binOp, Op.shift, h0]; rfl, by simp only [VR]; rw [e]; rfl⟩
  | shr => obtain ⟨h0, z', rfl, e⟩ := sh .shr (by simp) h; exact ⟨_, by simp [binOp, Op.shift, h0]; rfl, by simp only [VR]; rw [e]; rfl⟩
  | eql => obtain rfl := cm .eql h; exact ⟨_, by simp [binOp, Op.intCmp]; rfl, by simp only [VR, cmpI, eqI_eq]; rfl⟩
  | neq => obtain rfl := cm .neq h; exact ⟨_, by simp [binOp, Op.intCmp]; rfl, by simp only [VR, cmpI, eqI_eq]; rfl⟩
  | lss => obtain rfl := cm .lss h; exact ⟨_, by simp [binOp, Op.intCmp]; rfl, by simp only [VR, cmpI, ltI_eq]⟩
  | leq => obtain rfl := cm .leq h; exact ⟨_, by simp [binOp, Op.intCmp]; rfl, by simp only [VR, cmpI, ltI_eq]; refine congrArg Value.bool ?_; rw [Bool.eq_iff_iff]; simp⟩
  | gtr => obtain rfl := cm .gtr h; exact ⟨_, by simp [binOp, Op.intCmp]; rfl, by simp only [VR, cmpI, ltI_eq]⟩
  | geq => obtain rfl := cm .geq h; exact ⟨_, by simp [binOp, Op.intCmp]; rfl, by simp only [VR, cmpI, ltI_eq]; refine congrArg Value.bool ?_; rw [Bool.eq_iff_iff]; simp⟩
end Ev
end Go.Proofs.YtoinghomkcjkcaaGreatDoor
/- What only reckons, operation by operation. -/
namespace Go.Proofs.YtoinghomkcjkcaaGreatDoor
set_option linter.unusedSimpArgs false
set_option linter.unusedVariables false
set_option linter.constructorNameAsVariable false
open Go Go.RowKit
namespace Ev
variable {P : Program} {tt : TT} {ν : Nat → Int} {ρ : Pl} {ds : List (Option Tmp)} {sv : Src → V} {a : Act} {en : En} {w : World} {o : Oper} {v : V}
/-- The operation gives a value, as the small machine does, and turns nothing. -/
def Gives (P : Program) (ν : Nat → Int) (ρ : Pl) (a : Act) (o : Oper) (w : World) (v : V) : Prop := ∃ u, (execOp a.eval o).run P w = .ok (.value u) w ∧ VR ν ρ v u
theorem s1_ne {x : Operand} {f : Src → K} {k : K} (h : s1 ds x f = k) (hk : ∀ w, K.no w ≠ k) : ∃ s, trSrc ds x = some s ∧ f s = k := by
  unfold s1 at h
  split at h
  · rename_i s e; exact ⟨s, e, h⟩
  · exact absurd h (hk _)
theorem s2_ne {x y : Operand} {f : Src → Src → K} {k : K} (h : s2 ds x y f = k) (hk : ∀ w, K.no w ≠ k) : ∃ s t, trSrc ds x = some s ∧ trSrc ds y = some t ∧ f s t = k := by
  unfold s2 at h
  split at h
  · rename_i s e
    split at h
    · rename_i t e'; exact ⟨s, t, e, e', h⟩
    · exact absurd h (hk _)
  · exact absurd h (hk _)
theorem trSrcs_sound : ∀ {l : List Operand} {ss : List Src}, trSrcs ds l = some ss → OpR ν ρ ds sv a l → VRs ν ρ (srcs sv ss) (l.map a.eval)
  | [], ss, h, _ => by simp only [trSrcs, Option.some.injEq] at h; subst h; simp [srcs, VRs]
  | x :: l, ss, h, hr => by
    simp only [trSrcs] at h
    split at h
    · rename_i s t e1 e2
      obtain rfl := Option.some.inj h
      show VRs ν ρ (sv s :: srcs sv t) _
      simp only [VRs, List.map_cons]
      exact ⟨_, _, rfl, hr x (by simp) s e1, trSrcs_sound e2 (fun y hy => hr y (by simp [hy]))⟩
    · cases h
theorem size_eq (s : ByteArray) : s.size = s.data.toList.length := by cases s; simp [ByteArray.size]
-- one by one
theorem p_move {x : Operand} {s : Src} (ho : o.op = .move x ∨ o.op = .assign x) (h : VR ν ρ (sv s) (a.eval x)) : Gives P ν ρ a o w (sv s) := by
  rcases ho with ho | ho <;> exact ⟨a.eval x, by simp [execOp, ho], h⟩
theorem p_pick {c x y : Operand} {p q r : Src} (ho : o.op = .pick c x y) (hc : VR ν ρ (sv p) (a.eval c)) (hx : VR ν ρ (sv q) (a.eval x)) (hy : VR ν ρ (sv r) (a.eval y))
    (hv : doP (.pick p q r) en sv = some v) : Gives P ν ρ a o w v := by
  obtain ⟨b, e, hv⟩ := onB_ne (show onB (sv p) none (fun x => bcase x (some (sv r)) (some (sv q))) = some v from hv) (by simp)
  rw [e] at hc; simp only [VR] at hc
  cases b with
  | true => obtain rfl := Option.some.inj hv; exact ⟨a.eval x, by simp [execOp, ho, hc, asBool], hx⟩
  | false => obtain rfl := Option.some.inj hv; exact ⟨a.eval y, by simp [execOp, ho, hc, asBool], hy⟩
theorem p_nilck {x : Operand} {s : Src} (ho : o.op = .nilCheck x) (hx : VR ν ρ (sv s) (a.eval x)) (hv : nilck (sv s) = some v) : Gives P ν ρ a o w v := by
  generalize hs : sv s = z at *
  cases z <;> simp only [nilck, onP, onF, onN] at hv <;> first | (cases hv; done) | skip
  all_goals (obtain rfl := Option.some.inj hv; refine ⟨a.eval x, ?_, hx⟩; simp only [VR] at hx)
  · obtain ⟨b, c, n, _, e⟩ := hx; simp [execOp, ho, e]
  · obtain ⟨xs, ys, e, _, _⟩ := hx; simp [execOp, ho, e]
  · obtain ⟨u, e, _⟩ := hx; simp [execOp, ho, e]
theorem p_not {t : TypeId} {x : Operand} {s : Src} (ho : o.op = .unOp .not t x) (hx : VR ν ρ (sv s) (a.eval x)) (hv : onB (sv s) none (fun b => okB (!b)) = some v) : Gives P ν ρ a o w v := by
  obtain ⟨b, e, hv⟩ := onB_ne hv (by simp)
  rw [e] at hx; simp only [VR] at hx
  rw [okB_eq] at hv; obtain rfl := Option.some.inj hv
  exact ⟨.bool (!b), by simp [execOp, ho, hx, Op.unary], by simp only [VR]⟩
theorem p_neg (he : EnOk ν en) {t : TypeId} {x : Operand} {s : Src} (ho : o.op = .unOp .neg t x) (hx : VR ν ρ (sv s) (a.eval x)) (hv : onI (sv s) none (fun k z => binAr en .sub k (Z.lit 0) z) = some v) : Gives P ν ρ a o w v := by
  obtain ⟨k, z, e, hv⟩ := onI_ne hv (by simp)
  rw [e] at hx; simp only [VR] at hx
  obtain ⟨u, hu, hr⟩ := binI_sound (P := P) (w := w) (ρ := ρ) he (op := .sub) (k := k) (x := .lit 0) (y := z) hv 0 (.const .nilIface) (.const .nilIface)
  refine ⟨u, ?_, hr⟩
  simp [eqGuard, binOp, zval] at hu
  simp [execOp, ho, hx, Op.unary, hu]
theorem p_inv (he : EnOk ν en) {t : TypeId} {x : Operand} {s : Src} (ho : o.op = .unOp .xor t x) (hx : VR ν ρ (sv s) (a.eval x)) (hv : onI (sv s) none (fun k z => binBit en .xor k (Z.lit (maskI k)) z) = some v) : Gives P ν ρ a o w v := by
  obtain ⟨k, z, e, hv⟩ := onI_ne hv (by simp)
  rw [e] at hx; simp only [VR] at hx
  obtain ⟨u, hu, hr⟩ := binI_sound (P := P) (w := w) (ρ := ρ) he (op := .xor) (k := k) (x := .lit (maskI k)) (y := z) hv 0 (.const .nilIface) (.const .nilIface)
  refine ⟨u, ?_, hr⟩
  have hm : (if k.signed = true then (-1 : Int) else k.max) = maskI k := by cases k <;> rfl
  simp [eqGuard, binOp, zval] at hu
  simp [execOp, ho, hx, Op.unary, hm, hu]
theorem p_conv (hT : TTok P tt) (he : EnOk ν en) {t t' : TypeId} {x : Operand} {s : Src} {d : TypeDesc} {k : IntKind} (ho : o.op = .convert t t' x) (ht : und tt t = some d) (ht' : und tt t' = some (.int k)) (hx : VR ν ρ (sv s) (a.eval x)) (hv : convK en k (sv s) = some v) : Gives P ν ρ a o w v := by
  obtain ⟨j, z, e, hv⟩ := onI_ne hv (by cases isT 3 (sv s) <;> simp)
  rw [e] at hx; simp only [VR] at hx
  refine ⟨.int k (k.wrap (zval ν z)), ?_, ?_⟩
  · simp [execOp, ho, hx, convert, run_underlying (und_ok hT ht), run_underlying (und_ok hT ht'), Conv.intToInt]
  · cases z <;> first
      | (obtain ⟨z', rfl, e'⟩ := okZ_sound he.norm hv; simp only [VR]; rw [e']; rfl)
      | (simp only [onLit, okI_eq, Option.some.injEq] at hv; subst hv; simp only [VR, zval, wrapF_eq])
theorem p_convS (hT : TTok P tt) {t t' : TypeId} {x : Operand} {s : Src} (ho : o.op = .convert t t' x) (ht : und tt t = some .string) (ht' : und tt t' = some .string) (hx : VR ν ρ (sv s) (a.eval x)) (hs : ∃ l, sv s = .s l) : Gives P ν ρ a o w (sv s) := by
  obtain ⟨l, e⟩ := hs
  refine ⟨a.eval x, ?_, hx⟩
  rw [e] at hx; simp only [VR] at hx
  obtain ⟨s', e', _⟩ := hx
  simp [execOp, ho, e', convert, run_underlying (und_ok hT ht), run_underlying (und_ok hT ht')]
theorem p_mkif (hT : TTok P tt) {t : TypeId} {x : Operand} {s : Src} (ho : o.op = .makeInterface t x) (ht : ifaceT tt t = false) (hx : VR ν ρ (sv s) (a.eval x)) : Gives P ν ρ a o w (.n t (sv s)) := by
  refine ⟨.iface t (a.eval x), ?_, by simp only [VR]; exact ⟨_, rfl, hx⟩⟩
  unfold ifaceT at ht
  cases e : und tt t with
  | none => rw [e] at ht; cases ht
  | some d =>
    rw [e] at ht
    simp only [execOp, ho, Instr.makeInterface, Sem.run_bind, run_underlying (und_ok hT e), Result.andThen_ok]
    cases d <;> simp_all
theorem p_mkfn {g : Nat} {x y : Array Operand} {p q : List Src} (ho : o.op = .makeFunc (.func g) x y) (hx : VRs ν ρ (srcs sv p) (x.toList.map a.eval)) (hy : VRs ν ρ (srcs sv q) (y.toList.map a.eval)) : Gives P ν ρ a o w (.f g (srcs sv p) (srcs sv q)) :=
  ⟨.func (.func g) (x.map a.eval) (y.map a.eval), by simp [execOp, ho, Instr.makeFunc], by simp only [VR]; exact ⟨_, _, rfl, by simpa using hx, by simpa using hy⟩⟩
theorem p_ext {x : Operand} {i : Nat} {s : Src} (ho : o.op = .extract x i) (hx : VR ν ρ (sv s) (a.eval x)) (hv : onU (sv s) none (fun l => nth l i) = some v) : Gives P ν ρ a o w v := by
  obtain ⟨l, e, hv⟩ := onU_ne hv (by simp)
  rw [e] at hx; simp only [VR] at hx
  obtain ⟨cs, e', hl⟩ := hx
  rw [nth_eq] at hv
  obtain ⟨u, hu, hr⟩ := hl.get hv
  exact ⟨u, by simp [execOp, ho, e', Instr.extract, show cs[i]? = some u by simpa using hu], hr⟩
theorem p_eqC0 {t : TypeId} {x y : Operand} {op : BinOp} {ty : TypeId} {e : Bool} (hc : isCmp op = true) (ho : o.op = .binOp op t x y ty)
    (hg : (eqGuard op t x y (a.eval x) (a.eval y)).run P w = .ok () w) (hn : ∀ k n, a.eval x ≠ .int k n) (hn' : ∀ s, a.eval x ≠ .string s) (hn'' : ∀ k n, a.eval x ≠ .float k n) (hn3 : ∀ k n m, a.eval x ≠ .complex k n m)
    (hq : (Op.equal t (a.eval x) (a.eval y)).run P w = .ok e w) (hv : bcase (isNeq op) (okB e) (okB (!e)) = some v) : Gives P ν ρ a o w v := by
  have hb : (binOp op t (a.eval x) (a.eval y)).run P w = .ok (.bool (bif isNeq op then !e else e)) w := by
    cases op <;> first | exact absurd hc (by decide) | skip
    all_goals
      cases hx : a.eval x <;> first
        | exact absurd hx (hn _ _) | exact absurd hx (hn' _) | exact absurd hx (hn'' _ _) | exact absurd hx (hn3 _ _ _)
        | (rw [hx] at hq; simp [binOp, hq, isNeq])
  refine ⟨_, by simp [execOp, ho, hg, hb]; rfl, ?_⟩
  cases hne : isNeq op <;> rw [hne] at hv <;> simp only [bcase_f, bcase_t, okB_eq, Option.some.injEq] at hv <;> subst hv <;> simp only [VR, cond_true, cond_false]
end Ev
end Go.Proofs.YtoinghomkcjkcaaGreatDoor
