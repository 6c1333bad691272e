/- From the program's code to the small machine's. Nothing is claimed here. -/
import Derived.Test.YtlajbngfdbnoiaaEvA
namespace Go.Proofs.Ytlajbngfdbnoiaa
set_option linter.unusedSimpArgs false
set_option linter.unusedVariables false
set_option linter.constructorNameAsVariable false
open Go Go.RowKit
namespace Ev
noncomputable section
abbrev TT := Tr TypeInfo
def ti (tt : TT) (t : Nat) : Option TypeInfo := get (bpOf t) tt
def und (tt : TT) (t : Nat) : Option TypeDesc := match ti tt t with
  | some { desc := .named _ u, .. } => (ti tt u).map (·.desc)
  | some i => some i.desc
  | none => none
/-- A constant. -/
def zsOf : List UInt8 → List Z
  | [] => []
  | b :: l => .lit (Int.ofNat b.toNat) :: zsOf l
mutual
def trVal : Value → Option V
  | .bool b => some (.b b)
  | .int k n => some (.i k (.lit n))
  | .string s => some (.s (zsOf s.data.toList))
  | .pointer none => some .p0
  | .slice none 0 0 => some .s0
  | .map none => some .m0
  | .func (.func f) ⟨[]⟩ ⟨[]⟩ => some (.f f [] [])
  | .nilFunc => some .f0
  | .nilIface => some .n0
  | .iface t v => match trVal v with | some v => some (.n t v) | none => none
  | .agg ⟨l⟩ => match trVals l with | some l => some (.g l) | none => none
  | .tuple ⟨l⟩ => match trVals l with | some l => some (.u l) | none => none
  | _ => none
def trVals : List Value → Option (List V)
  | [] => some []
  | v :: l => match trVal v, trVals l with | some v, some l => some (v :: l) | _, _ => none
end
def zeroV (tt : TT) (t : Nat) : Option V := match ti tt t with | some i => (match i.zero with | some z => trVal z | none => none) | none => none
def zeroC (tt : TT) (t : Nat) : Option (List V) := (zeroV tt t).map cellsV
def sizeT (tt : TT) (t : Nat) : Option Nat := (ti tt t).map (·.size)
def aggT (tt : TT) (t : Nat) : Option Bool := match und tt t with | some (.struct _) => some true | some (.array _ _) => some true | some _ => some false | none => none
/-- where a slot is written last in the region (the last item is 0) -/
def locOf (t : Nat) : List (Option Tmp) → Nat → Option Nat
  | [], _ => none
  | some d :: l, i => bif Nat.beq d t then some i else locOf t l (i + 1)
  | none :: l, i => locOf t l (i + 1)
def trSrc (ds : List (Option Tmp)) : Operand → Option Src
  | .tmp t => bif Nat.blt t 100000 then (match locOf t ds 0 with | some i => some (.loc i) | none => some (.tmp (bpOf t))) else none
  | .const v => match trVal v with | some v => some (.val v) | none => none
  | .global g => some (.tmp (bpOf (100000 + g)))
  | .func f => some (.val (.f f [] []))
def trSrcs (ds : List (Option Tmp)) : List Operand → Option (List Src)
  | [] => some []
  | o :: l => match trSrc ds o, trSrcs ds l with | some s, some l => some (s :: l) | _, _ => none
def trOpt (ds : List (Option Tmp)) : Option Operand → Option (Option Src)
  | none => some none
  | some o => (trSrc ds o).map some
def no (w : Nat) : K := .no w
def s1 (ds : List (Option Tmp)) (o : Operand) (f : Src → K) : K := match trSrc ds o with | some s => f s | none => no 101
def s2 (ds : List (Option Tmp)) (a b : Operand) (f : Src → Src → K) : K := match trSrc ds a with | some s => (match trSrc ds b with | some t => f s t | none => no 101) | none => no 101
/-- the places of a struct's fields, of a row's elements -/
def fieldPl (tt : TT) (fs : List Field) (i : Nat) : Option (Nat × Nat) := match nth fs i with | some f => (match sizeT tt f.type with | some n => some (f.offset, n) | none => none) | none => none
def trParts (ds : List (Option Tmp)) (len : Nat) (pl : Nat → Option (Nat × Nat)) : List (Nat × Operand) → Option (List (Nat × Nat × Src))
  | [] => some []
  | p :: l => match pl p.1, trSrc ds p.2, trParts ds len pl l with
    | some (o, n), some s, some l => bif Nat.ble (o + n) len then some ((o, n, s) :: l) else none
    | _, _, _ => none
def rep' (n : Nat) (z : List V) : List V := rep z n
def allSz (tt : TT) (fs : List Field) : Bool := fs.all fun f => (sizeT tt f.type).isSome
def trBuild (tt : TT) (ds : List (Option Tmp)) (t : Nat) (ps : List (Nat × Operand)) : K := match zeroC tt t with
  | some z => (match und tt t with
    | some (.struct fs) => (match trParts ds z.length (fieldPl tt fs.toList) ps with | some l => bif allSz tt fs.toList then .pu (.build z l) else no 102 | none => no 102)
    | some (.array _ e) => (match sizeT tt e with | some n => (match trParts ds z.length (fun i => some (i * n, n)) ps with | some l => .pu (.build z l) | none => no 102) | none => no 102)
    | _ => no 102)
  | none => no 102
def trBSlice (tt : TT) (ds : List (Option Tmp)) (t len : Nat) (ps : List (Nat × Operand)) : K := match und tt t with
  | some (.slice e) => (match sizeT tt e with
    | some n => (match zeroC tt e with
      | some z => (match trParts ds (len * n) (fun i => some (i * n, n)) ps with
        | some l => bif (Nat.ble (len * n) 100000 && Nat.beq (List.length z) n) && Nat.ble 1 n then .al (.bslice n len (rep' len z) l) else no 103
        | none => no 103)
      | none => no 103)
    | none => no 103)
  | _ => no 103
def trLoad (tt : TT) (t : Nat) (s : Src) : K := match aggT tt t with
  | some true => (match sizeT tt t with | some n => .rd (.loadn n s) | none => no 104)
  | some false => .rd (.load1 s)
  | none => no 104
def isNilC : Operand → Bool
  | .const .nilIface => true
  | _ => false
def isCmp : BinOp → Bool
  | .eql => true
  | .neq => true
  | _ => false
def isNeq : BinOp → Bool
  | .neq => true
  | _ => false
def kindT (tt : TT) (t : Nat) : Nat := match und tt t with
  | some .bool => 1
  | some (.int .u64) => 0
  | some (.int _) => 2
  | some .string => 3
  | _ => 0
def scalT (tt : TT) (t : Nat) : Bool := Nat.blt 0 (kindT tt t)
def codeF (tt : TT) : List Field → Nat
  | [] => 0
  | f :: l => Nat.add (kindT tt f.type) (Nat.mul 4 (codeF tt l))
/-- fields that are scalars, one behind the other -/
def flatF (tt : TT) : List Field → Nat → Bool
  | [], _ => true
  | f :: l, i => ((f.name != "_" && Nat.beq f.offset i) && scalT tt f.type) && flatF tt l (i + 1)
def flatT (tt : TT) (t : Nat) : Bool := match und tt t with
  | some (.struct fs) => flatF tt fs.toList 0
  | _ => false
def trEq (tt : TT) (op : BinOp) (t : Nat) (x y : Operand) (a b : Src) : K := match und tt t with
  | some .bool => .pu (.eq 0 (isNeq op) a b)
  | some (.int _) => .pu (.bin op a b)
  | some .string => .pu (.bin op a b)
  | some (.pointer e) => (match sizeT tt e with | some (_ + 1) => .pu (.eq 1 (isNeq op) a b) | _ => no 105)
  | some (.slice _) => .pu (.eq 2 (isNeq op) a b)
  | some (.map _ _) => .pu (.eq 3 (isNeq op) a b)
  | some (.func _ _ _) => .pu (.eq 4 (isNeq op) a b)
  | some (.interface _) => bif isNilC x || isNilC y then .pu (.eq 5 (isNeq op) a b) else .pu (.eq 6 (isNeq op) a b)
  | some (.struct fs) => bif flatT tt t then .pu (.eq (7 + codeF tt fs.toList) (isNeq op) a b) else no 105
  | _ => no 105
def trBin (tt : TT) (op : BinOp) (t : Nat) (x y : Operand) (a b : Src) : K := bif isCmp op then trEq tt op t x y a b else .pu (.bin op a b)
def trConv (tt : TT) (src dst : Nat) (s : Src) : K := match und tt src, und tt dst with
  | some (.int _), some (.int k) => .pu (.conv k s)
  | some .string, some .string => .pu (.txt s)
  | some (.slice e), some .string => (match und tt e with | some (.int .u8) => .rd (.str s) | _ => no 106)
  | some .string, some (.slice e) => (match und tt e with | some (.int .u8) => .al (.s2b s) | _ => no 106)
  | _, _ => no 106
def trSlice (tt : TT) (t : Nat) (s : Src) (lo hi mx : Option Src) : K := match und tt t with
  | some .string => (match mx with | none => .pu (.sstr s lo hi) | some _ => no 107)
  | some (.slice e) => (match sizeT tt e with | some n => .pu (.slice n s lo hi mx) | none => no 107)
  | _ => no 107
def trFAddr (tt : TT) (t f : Nat) (s : Src) : K := match und tt t with
  | some (.struct fs) => (match fieldPl tt fs.toList f with | some (o, _ + 1) => .pu (.faddr o s) | _ => no 108)
  | _ => no 108
def trPart (tt : TT) (t off : Nat) (s : Src) : K := match aggT tt t with
  | some true => (match sizeT tt t with | some n => .pu (.partn off n s) | none => no 109)
  | some false => .pu (.part1 off s)
  | none => no 109
def trField (tt : TT) (t f : Nat) (s : Src) : K := match und tt t with
  | some (.struct fs) => (match nth fs.toList f with | some fd => trPart tt fd.type fd.offset s | none => no 109)
  | _ => no 109
def trIAddr (tt : TT) (t : Nat) (s i : Src) : K := match und tt t with
  | some (.slice e) => (match sizeT tt e with | some n => .pu (.iaddr n s i) | none => no 110)
  | some (.array l e) => (match sizeT tt e with | some n => .pu (.aaddr n l s i) | none => no 110)
  | _ => no 110
def trIndex (tt : TT) (t : Nat) (s i : Src) : K := match und tt t with
  | some .string => .pu (.istr s i)
  | some (.array l e) => (match aggT tt e, sizeT tt e with
    | some true, some n => .pu (.ipartn l n s i)
    | some false, some n => bif Nat.beq n 1 then .pu (.ipart1 l s i) else no 111
    | _, _ => no 111)
  | _ => no 111
def keyOk (tt : TT) (t : Nat) : Option Nat := match und tt t with
  | some (.int _) => some 0
  | some .string => some 1
  | some (.struct fs) => bif flatT tt t then some (2 + codeF tt fs.toList) else none
  | _ => none
def trLookup (tt : TT) (t : Nat) (m i : Src) (ok : Bool) : K := match und tt t with
  | some (.map k e) => (match zeroV tt e, keyOk tt k with | some z, some ks => .rd (.lookup ks z ok m i) | _, _ => no 112)
  | _ => no 112
def trUpd (tt : TT) (t : Nat) (m i v : Src) : K := match und tt t with
  | some (.map k _) => (match keyOk tt k with | some ks => .ef (.mapup ks m i v) | none => no 113)
  | _ => no 113
def trTas (tt : TT) (t : Nat) (ok : Bool) (s : Src) : K := match und tt t with
  | some (.interface _) => no 114
  | some _ => (match zeroV tt t with | some z => .pu (.tas t ok z s) | none => no 114)
  | none => no 114
def trMkS (tt : TT) (t : Nat) (l c : Src) : K := match und tt t with
  | some (.slice e) => (match ti tt e, zeroC tt e with
    | some i, some z => bif Nat.ble i.bytes 1000 && Nat.beq (List.length z) i.size then .al (.mkslice i.size z l c) else no 115
    | _, _ => no 115)
  | _ => no 115
def trLen (tt : TT) (t : Nat) (s : Src) : K := match und tt t with
  | some .string => .pu (.lens s)
  | some (.slice _) => .pu (.len s)
  | some (.map _ _) => .rd (.mlen s)
  | some (.array n _) => .pu (.alen n)
  | some (.pointer a) => (match und tt a with | some (.array n _) => .pu (.alen n) | _ => no 116)
  | _ => no 116
def trCap (tt : TT) (t : Nat) (s : Src) : K := match und tt t with
  | some (.slice _) => .pu (.cap s)
  | _ => no 117
def isIntT (tt : TT) (t : Nat) : Bool := match und tt t with | some (.int _) => true | _ => false
def trApp (tt : TT) (t u : Nat) (s x : Src) : K := match und tt t with
  | some (.slice e) => (match ti tt e, zeroC tt e with
    | some i, some z => bif Nat.beq (List.length z) i.size && Nat.ble i.bytes 1000 then (match und tt u with | some (.int _) => .ef (.appz i.size i.bytes z s x) | some _ => .ef (.app i.size i.bytes s x) | none => no 118) else no 118
    | _, _ => no 118)
  | _ => no 118
def trCopy (tt : TT) (t : Nat) (d s : Src) : K := match und tt t with
  | some (.slice e) => (match sizeT tt e with | some n => .ef (.copy n d s) | none => no 118)
  | _ => no 118
def trClear (tt : TT) (t : Nat) (s : Src) : K := match und tt t with
  | some (.slice e) => (match sizeT tt e, zeroC tt e with | some n, some z => bif Nat.beq (List.length z) n then .ef (.clear n z s) else no 118 | _, _ => no 118)
  | _ => no 118
def trDel (tt : TT) (t : Nat) (m k : Src) : K := match und tt t with
  | some (.map kt _) => (match keyOk tt kt with | some ks => .ef (.del ks m k) | none => no 113)
  | _ => no 113
def trBuiltin (tt : TT) (b : Builtin) (ts : List Nat) (ss : List Src) : K := match b, ts, ss with
  | .len, [t], [s] => trLen tt t s
  | .cap, [t], [s] => trCap tt t s
  | .min, _, [a, b] => .pu (.mm false a b)
  | .max, _, [a, b] => .pu (.mm true a b)
  | .min, _, [a, b, c] => .pu (.mm3 false a b c)
  | .max, _, [a, b, c] => .pu (.mm3 true a b c)
  | .append, [t, u], [s, x] => trApp tt t u s x
  | .copy, [t, _], [d, s] => trCopy tt t d s
  | .clear, [t], [s] => trClear tt t s
  | .delete, t :: _, [m, k] => trDel tt t m k
  | .min, _, ss => .pu (.mmn false ss)
  | .max, _, ss => .pu (.mmn true ss)
  | _, _, _ => no 119
def trCall (tt : TT) (ds : List (Option Tmp)) (c : Call) : K := match trSrcs ds c.args.toList with
  | some as => (match c.callee with
    | .builtin b => trBuiltin tt b c.argTypes.toList as
    | .value (.func g) => .ef (.call (.fn g) as)
    | .value f => s1 ds f (fun s => .ef (.call (.val s) as))
    | .invoke r m => s1 ds r (fun s => .ef (.call (.inv s m) as)))
  | none => no 120
def ifaceT (tt : TT) (t : Nat) : Bool := match und tt t with | some (.interface _) => true | some _ => false | none => true
def trK (tt : TT) (ds : List (Option Tmp)) : Op → K
  | .move x => s1 ds x (fun s => .pu (.mv s))
  | .assign x => s1 ds x (fun s => .pu (.mv s))
  | .pick c a b => match trSrc ds c with | some c => s2 ds a b (fun a b => .pu (.pick c a b)) | none => no 121
  | .alloc t => match zeroC tt t with | some z => .al (.alloc z) | none => no 122
  | .box t x => match sizeT tt t with | some n => s1 ds x (fun s => .al (.box n s)) | none => no 122
  | .build t ps => trBuild tt ds t ps.toList
  | .buildSlice t n ps => trBSlice tt ds t n ps.toList
  | .load t a => s1 ds a (fun s => trLoad tt t s)
  | .store t a x => match sizeT tt t with | some n => s2 ds a x (fun a x => .ef (.store n a x)) | none => no 123
  | .nilCheck x => s1 ds x (fun s => .pu (.nilck s))
  | .binOp op t x y _ => s2 ds x y (fun a b => trBin tt op t x y a b)
  | .unOp .not _ x => s1 ds x (fun s => .pu (.not s))
  | .unOp .neg _ x => s1 ds x (fun s => .pu (.neg s))
  | .unOp .xor _ x => s1 ds x (fun s => .pu (.inv s))
  | .convert a b x => s1 ds x (fun s => trConv tt a b s)
  | .makeInterface t x => bif ifaceT tt t then no 124 else s1 ds x (fun s => .pu (.mkif t s))
  | .makeFunc (.func g) a b => match trSrcs ds a.toList, trSrcs ds b.toList with | some a, some b => .pu (.mkfn g a b) | _, _ => no 125
  | .makeMap _ none => .al .mkmap
  | .makeSlice t l c => s2 ds l c (fun l c => trMkS tt t l c)
  | .slice t x lo hi mx => match trOpt ds lo, trOpt ds hi, trOpt ds mx with | some lo, some hi, some mx => s1 ds x (fun s => trSlice tt t s lo hi mx) | _, _, _ => no 126
  | .fieldAddr t x f => s1 ds x (fun s => trFAddr tt t f s)
  | .field t x f => s1 ds x (fun s => trField tt t f s)
  | .indexAddr t x i => s2 ds x i (fun s i => trIAddr tt t s i)
  | .index t x i => s2 ds x i (fun s i => trIndex tt t s i)
  | .lookup t m i ok => s2 ds m i (fun m i => trLookup tt t m i ok)
  | .mapUpdate t m i v => s2 ds m i (fun m i => s1 ds v (fun v => trUpd tt t m i v))
  | .insert t m i v => s2 ds m i (fun m i => s1 ds v (fun v => trUpd tt t m i v))
  | .typeAssert x _ t ok => s1 ds x (fun s => trTas tt t ok s)
  | .extract x i => s1 ds x (fun s => .pu (.ext i s))
  | .call c => trCall tt ds c
  | _ => no 127
def heavyK : K → Bool
  | .ef _ => true
  | .no _ => true
  | _ => false
def looksK : K → Bool
  | .rd _ => true
  | .al _ => true
  | _ => false
/-- an operation's number in the order of evaluation, counted from the last (0) -/
def posOf (i : Nat) : List Nat → Nat → Option Nat
  | [], _ => none
  | j :: l, n => bif Nat.beq i j then some n else posOf i l (n + 1)
/-- One that has been taken: its number, its slot, its guard and what it is, all that are ahead of it by edges (as bits). -/
structure Tk where
  i : Nat
  dst : Option Tmp
  g : Option (Src × Bool)
  k : K
  anc : Nat
  looks : List Nat
def optEq (a b : Option Nat) : Bool := match a, b with | some m, some n => Nat.beq m n | _, _ => false
def trGuard (tk : List Tk) (o : Oper) : Option (Option (Src × Bool)) := match o.guard with
  | none => some none
  | some (j, w) => match posOf j (tk.map (·.i)) 0 with
    | some p => (match nth tk p with
      | some k => (match k.dst with | some d => bif Nat.beq k.i j && optEq (locOf d (tk.map (·.dst)) 0) (some p) then some (some (.loc p, w)) else none | none => none)
      | none => none)
    | none => none
def edgesOf (o : Oper) : List Nat := (o.after.toList.filter (Region.binds .any)).map (·.on)
def ancOf (tk : List Tk) (j : Nat) : Nat := match tk with
  | [] => 0
  | t :: l => bif Nat.beq t.i j then t.anc else ancOf l j
def ancs (tk : List Tk) : List Nat → Nat
  | [] => 0
  | j :: l => Nat.lor (Nat.lor (Nat.shiftLeft 1 j) (ancOf tk j)) (ancs tk l)
def bit (m i : Nat) : Bool := Nat.beq (Nat.land (Nat.shiftRight m i) 1) 1
/-- what is looked at again behind a heavy one -/
def agains (anc : Nat) : List Tk → Nat → List Ag
  | [], _ => []
  | t :: l, n => bif looksK t.k && !(bit anc t.i) then .mk n t.g t.k :: agains anc l (n + 1) else agains anc l (n + 1)
def tmpsOf : List Operand → List Nat
  | [] => []
  | .tmp t :: l => t :: tmpsOf l
  | _ :: l => tmpsOf l
def looksOf (tk : List Tk) (o : Oper) : List Nat := (match o.guard with | some (j, _) => (match posOf j (tk.map (·.i)) 0 with | some p => (match nth tk p with | some k => k.dst.toList | none => []) | none => []) | none => []) ++ tmpsOf o.op.operands.toList
def takeOp (tt : TT) (draw : Bool) (tk : List Tk) (i : Nat) (o : Oper) : Tk × It :=
  let k := match trGuard tk o with | some _ => trK tt (tk.map (·.dst)) o.op | none => no 128
  let g := match trGuard tk o with | some g => g | none => none
  let anc := bif draw then ancs tk (edgesOf o) else 0
  (⟨i, o.dst, g, k, anc, bif draw then looksOf tk o else []⟩, .mk g k (bif draw && heavyK k then agains anc tk 1 else []))
/-- in the text's order -/
def trSeq (tt : TT) : List Oper → Nat → List Tk → List It × List Tk
  | [], _, tk => ([], tk)
  | o :: l, i, tk => let p := takeOp tt false tk i o
    let r := trSeq tt l (i + 1) (p.1 :: tk)
    (p.2 :: r.1, r.2)
def heavyOp : Op → Bool
  | .call { callee := .builtin .len, .. } | .call { callee := .builtin .cap, .. } | .call { callee := .builtin .min, .. } | .call { callee := .builtin .max, .. } => false
  | .call _ | .store .. | .mapUpdate .. | .insert .. => true
  | .move _ | .assign _ | .pick .. | .alloc _ | .box .. | .build .. | .buildSlice .. | .load .. | .nilCheck _ | .binOp .. | .unOp .. | .convert .. | .makeInterface .. | .makeFunc .. | .makeMap .. | .makeSlice .. | .slice .. | .fieldAddr .. | .field ..
  | .indexAddr .. | .index .. | .lookup .. | .typeAssert .. | .extract .. => false
  | _ => true
/-- the light ones that may come up, ahead of the heavy -/
def pickOp (ops : List Oper) (done : Nat) : List Oper → Nat → Option (Nat × Oper) → Option (Nat × Oper)
  | [], _, h => h
  | o :: l, i, h => bif !(bit done i) && (edgesOf o).all (bit done) then (bif heavyOp o.op then pickOp ops done l (i + 1) (match h with | some h => some h | none => some (i, o)) else some (i, o)) else pickOp ops done l (i + 1) h
def trDraw (tt : TT) (ops : List Oper) : Nat → Nat → List Tk → List It × List Tk
  | 0, _, tk => ([], tk)
  | f + 1, done, tk => match pickOp ops done ops 0 none with
    | some (i, o) => let p := takeOp tt true tk i o
      let r := trDraw tt ops f (Nat.lor done (Nat.shiftLeft 1 i)) (p.1 :: tk)
      (p.2 :: r.1, r.2)
    | none => ([], tk)
/-- what is kept of a region: of each slot the last one -/
def commits (C : Tr Unit) (seen : List Nat) : List Tk → Nat → List (BP × Nat)
  | [], _ => []
  | t :: l, n => match t.dst with
    | some d => bif seen.any (Nat.beq d) then commits C seen l (n + 1) else (match get (bpOf d) C with | some _ => (bpOf d, n) :: commits C (d :: seen) l (n + 1) | none => commits C seen l (n + 1))
    | none => commits C seen l (n + 1)
/-- two in the order of evaluation, the later one first: the one that writes what the other looks at, or writes too, waits; behind a heavy one all wait -/
def clash (q p : Tk) : Bool := (match p.dst with | some d => q.looks.any (Nat.beq d) | none => false) || (match q.dst with | some d => p.looks.any (Nat.beq d) | none => false)
def sameDst (q p : Tk) : Bool := match p.dst, q.dst with | some d, some e => Nat.beq d e | _, _ => false
def pairOk (q p : Tk) : Bool := !(sameDst q p) && (bif clash q p || heavyK p.k then bit q.anc p.i else true)
def drawOk : List Tk → Bool
  | [] => true
  | q :: l => (l.all (pairOk q) && !(l.any fun p => Nat.beq p.i q.i)) && drawOk l
def allIn (n : Nat) (tk : List Tk) : Bool := (List.range n).all fun i => tk.any fun k => Nat.beq k.i i
/-- slots that are read from outside a region -/
def useO (ds : List (Option Tmp)) (o : Operand) (C : Tr Unit) : Tr Unit := match o with
  | .tmp t => (match locOf t ds 0 with | some _ => C | none => set (bpOf t) (some ()) C)
  | _ => C
def useOs (ds : List (Option Tmp)) : List Operand → Tr Unit → Tr Unit
  | [], C => C
  | o :: l, C => useOs ds l (useO ds o C)
def useOps : List Oper → List (Option Tmp) → Tr Unit → Tr Unit
  | [], _, C => C
  | o :: l, ds, C => useOps l (o.dst :: ds) (useOs ds o.op.operands.toList C)
def useC : Code → Tr Unit → Tr Unit
  | .region _ ops _, C => useOps ops.toList [] C
  | .seq a b, C => useC b (useC a C)
  | .cond c a b, C => useC b (useC a (useO [] c C))
  | .block _ c, C => useC c C
  | .loop c, C => useC c C
  | _, C => C
def useR : List ResultVar → Tr Unit → Tr Unit
  | [], C => C
  | .tmp t :: l, C => useR l (set (bpOf t) (some ()) C)
  | .cell t _ :: l, C => useR l (set (bpOf t) (some ()) C)
def dstOk (nt : Nat) (o : Oper) : Bool := match o.dst with | some d => Nat.blt d nt | none => true
def trReg (tt : TT) (nt : Nat) (C : Tr Unit) (ops : List Oper) (draw : Bool) : C2 :=
  let r := bif draw then trDraw tt ops ops.length 0 [] else trSeq tt ops 0 []
  bif ops.all (dstOk nt) && (bif draw then drawOk r.2 && allIn ops.length r.2 else true) then .reg r.1 (commits C [] r.2 0) else .bad 132
def trC (tt : TT) (nt : Nat) (C : Tr Unit) : Code → C2
  | .skip => .skip
  | .label _ => .skip
  | .region _ ops draw => trReg tt nt C ops.toList draw
  | .seq a b => .seq (trC tt nt C a) (trC tt nt C b)
  | .cond c a b => match trSrc [] c with | some s => .cond s (trC tt nt C a) (trC tt nt C b) | none => .bad 130
  | .block id c => .block id (trC tt nt C c)
  | .loop c => .loop (trC tt nt C c)
  | .exit id => .exit id
  | .ret => .ret
  | _ => .bad 131
def trRv (tt : TT) : ResultVar → Option Rv
  | .tmp t => bif Nat.blt t 100000 then some (.tmp (bpOf t)) else none
  | .cell a t => bif !(Nat.blt a 100000) then none else match aggT tt t, sizeT tt t with
    | some true, some n => some (.celln n (bpOf a))
    | some false, some _ => some (.cell1 (bpOf a))
    | _, _ => none
def trRvs (tt : TT) : List ResultVar → Option (List Rv)
  | [] => some []
  | r :: l => match trRv tt r, trRvs tt l with | some r, some l => some (r :: l) | _, _ => none
def slots : Nat → Tr Unit → Tr Unit
  | 0, C => C
  | n + 1, C => set (bpOf n) (some ()) (slots n C)
def trF (tt : TT) (fn : Func) : Option CF := match fn.body, trRvs tt fn.results.toList with
  | some c, some rs => bif Nat.ble fn.ntmps 100000 && Nat.ble (fn.params.size + fn.nfree) 1000 && !(fn.name == "runtime.NumGoroutine") then some (.mk (fn.params.size + fn.nfree) (trC tt fn.ntmps (slots (fn.params.size + fn.nfree) (useR fn.results.toList (useC c .lf))) c) rs) else none
  | _, _ => none
def ofL {α : Type} : List (Option α) → Nat → Tr α → Tr α
  | [], _, t => t
  | a :: l, i, t => ofL l (i + 1) (set (bpOf i) a t)
def ttOf (P : Program) : TT := ofL (P.types.toList.map some) 0 .lf
def fnsOf (P : Program) (tt : TT) : Tr CF := ofL (P.funcs.toList.map (trF tt)) 0 .lf
def mtsOf (tt : TT) (t : Nat) (name : String) : Option Nat := match ti tt t with
  | some i => (match i.methods.toList.find? (fun m => m.name == name) with
    | some m => (match m.path.toList, m.func, und tt t with
      | [], some (f, true), some (.pointer _) => some f
      | [], some (_, false), some (.pointer _) => none
      | [], some (f, false), some _ => some f
      | _, _, _ => none)
    | none => none)
  | none => none
def noOv (_ : Nat) (_ : List V) (_ : H) : Option R1 := none
def enOf (P : Program) (path : List (Cd × Bool)) (norm : List (Z × Int)) (ov : Nat → List V → H → Option R1) (gl : List Nat) : En := ⟨path, norm, fnsOf P (ttOf P), ov, mtsOf (ttOf P), gl.foldr (fun g t => set (bpOf (100000 + g)) (some (.p (bpOf g) 0)) t) .lf⟩
/-- the memory at first: the listed variables -/
def H0 (l : List (Nat × List V)) : H := .mk (bpOf 1000) (l.foldr (fun p t => set (bpOf p.1) (some (.c p.2 none false)) t) .lf)
end
end Ev
end Go.Proofs.Ytlajbngfdbnoiaa
