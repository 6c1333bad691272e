/- What expressions and statements are, in plain Lean. -/
import Derived.Test.YtejifefgmlpclaaGreatTabG
import Derived.Test.YtejifefgmlpclaaGreatTabE
import Derived.Test.YtejifefgmlpclaaGreatTabFieldsSpec
import Derived.WalkKit
import Derived.WalkSpells
import Derived.WalkLawsBesides
import Derived.LoopTactic
import Derived.Deep.QuietTactic
import Derived.BigQuiet
import Derived.Below
import Derived.Laws.ResultCell
import Derived.Laws.Tables
import Derived.Laws.Rows
import Derived.Deep.Cut
import Derived.KernelRfl
set_option linter.unusedSimpArgs false
set_option linter.unusedVariables false
namespace Go.Proofs.YtejifefgmlpclaaGreat

/-- No type. -/
def Ty.none_ : Ty := ⟨0, 0, 0, ⟨#[]⟩⟩
def Ty.of (k : Int) : Ty := ⟨k, 0, 0, ⟨#[]⟩⟩
/-- As the program hands it on. -/
def Ty.v (t : Ty) : Go.Value := .agg #[.int .i64 t.k, .int .i64 t.lo, .int .i64 t.hi, .string t.name]
/-- A type, and a code. -/
abbrev Rs := Ty × Int
/-- Where expressions stand. -/
structure Pl where
  u : List Dk
  d : Int
  me : Option Md
  vs : List Vd
def Pl.of (u : List Dk) (wd wm : Int) : Option Pl :=
  if Tb.kind u wd = 3 ∧ wm = -1 then some ⟨u, -1, none, Tb.varsOf u wd⟩
  else if Tb.kind u wd = 2 ∧ 0 ≤ wm then (match (Tb.msOf u wd)[wm.toNat]? with | some m => some ⟨u, wd, some m, m.ps ++ m.vs ++ Tb.fields u wd⟩ | none => none)
  else none
/-- The first variable of a name. -/
def Pl.var (p : Pl) (s : ByteArray) : Option Vd := p.vs.find? fun v => v.name.toList == s.toList
def Tb.typed (u : List Dk) (s : ByteArray) : Bool := Tb.kind u (Tb.find u s) == 2 || Tb.kind u (Tb.find u s) == 1
def Ty.fits (u : List Dk) (to fr : Ty) : Bool :=
  if to.k = 1 ∨ to.k = 3 then fr.k == 1 else if to.k = 2 then fr.k == 2
  else if to.k = 5 then fr.k == 5 && (fr.name.toList.isEmpty || (fr.name.toList == to.name.toList || Tb.is u fr.name to.name)) else false
def Ty.args (k : Int) : Int := if k = 9 then 2 else if k = 6 ∨ k = 7 ∨ k = 8 ∨ k = 14 then 1 else if k = 1 ∨ k = 2 ∨ k = 3 ∨ k = 4 ∨ k = 5 ∨ k = 10 ∨ k = 11 ∨ k = 12 ∨ k = 13 then 0 else -1
def Ty.same (r : Rs) (k : Int) : Rs := if r.2 ≠ 0 then (Ty.none_, r.2) else if r.1.k ≠ k then (Ty.none_, 14) else (r.1, 0)
def Ty.opk (n : Int) (a : Ty) : Int :=
  if n = 1 ∨ n = 2 ∨ n = 3 ∨ n = 4 ∨ n = 5 ∨ n = 8 ∨ n = 9 ∨ n = 10 ∨ n = 11 then 1 else if n = 12 ∨ n = 13 ∨ n = 14 then 2
  else if (n = 6 ∨ n = 7) ∧ (a.k = 1 ∨ a.k = 2 ∨ a.k = 5) then a.k else 0
def Ty.bin (n : Int) (a b : Rs) : Rs :=
  if a.2 ≠ 0 then (Ty.none_, a.2) else if b.2 ≠ 0 then (Ty.none_, b.2)
  else if Ty.opk n a.1 = 0 ∨ a.1.k ≠ Ty.opk n a.1 ∨ b.1.k ≠ Ty.opk n a.1 then (Ty.none_, 14)
  else (Ty.of (if n = 1 ∨ n = 2 ∨ n = 3 ∨ n = 4 ∨ n = 5 then 1 else 2), 0)
def Ty.named (k : Int) (v : Option Vd) (a : Rs) : Rs :=
  match v with
  | none => (Ty.none_, 13)
  | some v =>
    if k = 5 ∧ (v.ty.k = 1 ∨ v.ty.k = 3) then (Ty.of 1, 0)
    else if k = 5 ∧ v.ty.k = 2 ∨ k = 11 ∧ v.ty.k = 7 then (Ty.of 2, 0)
    else if k = 5 ∧ v.ty.k = 5 then (v.ty, 0)
    else if k = 10 ∧ v.ty.k = 6 then (⟨5, 0, 0, v.ty.name⟩, 0)
    else if k = 12 ∧ v.ty.k = 7 then (Ty.of 1, 0)
    else if k = 6 ∧ v.ty.k = 4 then (if (Ty.same a 1).2 ≠ 0 then (Ty.none_, (Ty.same a 1).2) else (Ty.of 1, 0))
    else (Ty.none_, 14)
/-- Whose method an Invoke asks for. -/
def Ty.whose (p : Pl) (n : Int) (s : ByteArray) : Int × Int :=
  if n = 0 then
    (match p.var s with
    | none => (-1, 13)
    | some v => if v.ty.k ≠ 6 ∧ (v.ty.k ≠ 5 ∨ v.ty.name.toList.isEmpty = true) then (-1, 14) else if Tb.typed p.u v.ty.name = false then (-1, 13) else (Tb.find p.u v.ty.name, 0))
  else if n = 1 then (if p.me.isNone = true then (-1, 15) else (p.d, 0))
  else if n = 2 then (if p.me.isNone = true ∨ (Tb.chain p.u p.d).length < 2 then (-1, 15) else ((Tb.chain p.u p.d)[1]?.getD 0, 0))
  else (-1, 14)
def Ty.bad : List Rs → Option Int
  | [] => none
  | r :: l => if r.2 ≠ 0 then some r.2 else Ty.bad l
def Ty.fitsAll (u : List Dk) : List Vd → List Ty → Bool
  | [], [] => true
  | v :: vs, t :: ts => Ty.fits u v.ty t && Ty.fitsAll u vs ts
  | _, _ => false
def Tb.meth (u : List Dk) (d m : Int) : Option Md := (Tb.msOf u d)[m.toNat]?
def Ty.call (p : Pl) (n : Int) (m : Md) (rs : List Rs) : Rs :=
  if n = 2 ∧ m.abs = true then (Ty.none_, 15) else
    match Ty.bad rs with
    | some c => (Ty.none_, c)
    | none => if Ty.fitsAll p.u m.ps (rs.map (·.1)) = true then (m.res, 0) else (Ty.none_, 15)
def Ty.invoke (p : Pl) (n : Int) (name what : ByteArray) (rs : List Rs) : Rs :=
  if (Ty.whose p n name).2 ≠ 0 then (Ty.none_, (Ty.whose p n name).2) else
    let at_ := Tb.method p.u (Ty.whose p n name).1 what
    if at_.2.2 = false then (Ty.none_, 15) else
      match Tb.meth p.u at_.1 at_.2.1 with
      | none => (Ty.none_, 15)
      | some m => Ty.call p n m rs
def Ty.hd (rs : List Rs) : Rs := rs.headD (Ty.none_, 0)
def Ty.hd2 (rs : List Rs) : Rs := rs.tail.headD (Ty.none_, 0)
def Ty.cast (u : List Dk) (name : ByteArray) (a : Rs) : Rs :=
  if Tb.typed u name = false then (Ty.none_, 13) else if (Ty.same a 5).2 ≠ 0 then (Ty.none_, (Ty.same a 5).2) else (⟨5, 0, 0, name⟩, 0)
def Ty.some_ (r : Rs) : Rs := if r.2 = 0 ∧ r.1.k = 0 then (r.1, 14) else r
def Ty.exprG (p : Pl) (k n : Int) (name what : ByteArray) (rs : List Rs) : Rs :=
  if Ty.args k < 0 ∨ ((rs.length : Int) ≠ Ty.args k ∧ k ≠ 13) then (Ty.none_, 14)
  else if k = 1 then (Ty.of 1, 0)
  else if k = 2 ∨ k = 3 then (Ty.of 2, 0)
  else if k = 4 then (Ty.of 5, 0)
  else if k = 7 ∨ k = 8 then Ty.same (Ty.hd rs) (if k = 7 then 1 else 2)
  else if k = 9 then Ty.bin n (Ty.hd rs) (Ty.hd2 rs)
  else if k = 14 then Ty.cast p.u name (Ty.hd rs)
  else if k = 13 then Ty.some_ (Ty.invoke p n name what rs)
  else Ty.named k (p.var name) (Ty.hd rs)
mutual
/-- The program's answer of an expression. -/
def Ty.expr (p : Pl) : Ex → Rs
  | .mk k n name what _ args _ => Ty.exprG p k n name what (Ty.exprs p args)
def Ty.exprs (p : Pl) : List Ex → List Rs
  | [] => []
  | e :: es => Ty.expr p e :: Ty.exprs p es
end
theorem Ty.exprs_eq (p : Pl) : ∀ l : List Ex, Ty.exprs p l = l.map (Ty.expr p)
  | [] => rfl
  | e :: es => by rw [Ty.exprs, Ty.exprs_eq p es]; rfl
theorem Ty.expr_eq (p : Pl) (e : Ex) : Ty.expr p e = Ty.exprG p e.k e.n e.name e.what (e.args.map (Ty.expr p)) := by
  cases e; rw [Ty.expr, Ty.exprs_eq]; rfl
/-- An Invoke's answer, which may be none. -/
def Ty.inv (p : Pl) (e : Ex) : Rs := Ty.invoke p e.n e.name e.what (e.args.map (Ty.expr p))
/-- Has a statement what its form has? -/
def Ty.formed (k : Int) (es : Nat) (bs : Nat) (ls : List Lb) : Bool :=
  if k = 2 ∨ k = 11 then decide (es = 2) && (decide (bs = 0) && decide (ls.length = 0))
  else if k = 8 then decide (es = 2) && (decide (bs = 1) && decide (ls.length = 0))
  else if k = 7 then decide (es = 1) && (decide (bs = 1) && decide (ls.length = 0))
  else if k = 1 ∨ k = 3 ∨ k = 4 then decide (es = 1) && (decide (bs = 0) && decide (ls.length = 0))
  else if k = 5 then decide (1 ≤ es) && (decide (bs = es + 1) && decide (ls.length = 0))
  else if k = 6 then !(ls.any fun l => decide (l.xs.length = 0)) && (decide (es = 1) && decide (bs = ls.length + 1))
  else if k = 9 then decide (es ≤ 1) && (decide (bs = 0) && decide (ls.length = 0))
  else if k = 10 then decide (es = 0) && (decide (bs = 0) && decide (ls.length = 0))
  else false
/-- Expressions that must be of some kinds. -/
def Ty.kindsGo : List Rs → List Int → Bool → Int
  | a :: rs, k :: ks, bad => if a.2 ≠ 0 then a.2 else Ty.kindsGo rs ks (bad || decide (a.1.k ≠ k))
  | _, _, bad => if bad = true then 14 else 0
def Ty.changed (p : Pl) (k n : Int) (name : ByteArray) (rs : List Rs) (bt : List Int) : Int :=
  match p.var name with
  | none => 13
  | some v =>
    if k = 1 then (if v.dir = 1 then 14 else if (Ty.hd rs).2 = 0 ∧ Ty.fits p.u v.ty (Ty.hd rs).1 = false then 14 else (Ty.hd rs).2)
    else if k = 2 ∧ v.ty.k = 4 then Ty.kindsGo rs [1, 1] false
    else if k = 3 ∧ v.ty.k = 5 then Ty.kindsGo rs [5] false
    else if k = 11 ∧ v.ty.k = 7 then Ty.kindsGo rs [2, 1] false
    else if k = 8 ∧ v.ty.k = 1 ∧ v.dir ≠ 1 ∧ n ≠ 0 then (if Ty.kindsGo rs [1, 1] false ≠ 0 then Ty.kindsGo rs [1, 1] false else bt.headD 0)
    else 14
def Ty.firstOf : List Int → Int
  | [] => 0
  | c :: l => if c ≠ 0 then c else Ty.firstOf l
def Ty.choice : List Rs → List Int → Int
  | [], b :: _ => b
  | a :: rs, b :: bs => if (Ty.same a 2).2 ≠ 0 then (Ty.same a 2).2 else if b ≠ 0 then b else Ty.choice rs bs
  | _, [] => 0
def Ty.labels : List Int → List Int → Bool
  | _, [] => false
  | seen, n :: l => decide (n ∈ seen) || (decide (n < -32768) || decide (32767 < n)) || Ty.labels (n :: seen) l
def Ty.cases (a : Rs) (ls : List Lb) (bl : List Int) : Int :=
  if (Ty.same a 1).2 ≠ 0 then (Ty.same a 1).2 else if Ty.labels [] (ls.map (·.xs)).flatten = true then 6 else Ty.firstOf bl
def Pl.answers (p : Pl) : Bool := match p.me with | some m => decide (m.res.k ≠ 0) | none => false
def Pl.res (p : Pl) : Ty := match p.me with | some m => m.res | none => Ty.none_
def Ty.returned (p : Pl) (rs : List Rs) : Int :=
  match rs with
  | [] => if p.answers = true then 14 else 0
  | a :: _ => if a.2 = 0 ∧ (p.answers = false ∨ Ty.fits p.u p.res a.1 = false) then 14 else a.2
def Ty.stmtG (p : Pl) (looped : Bool) (k n : Int) (name : ByteArray) (es : List Ex) (ls : List Lb) (bl bt : List Int) : Int :=
  if Ty.formed k es.length bl.length ls = false then 14
  else if k = 1 ∨ k = 2 ∨ k = 3 ∨ k = 8 ∨ k = 11 then Ty.changed p k n name (es.map (Ty.expr p)) bt
  else if k = 4 then (match es with | e :: _ => if e.k ≠ 13 then 14 else (Ty.inv p e).2 | [] => 14)
  else if k = 5 then Ty.choice (es.map (Ty.expr p)) bl
  else if k = 6 then Ty.cases (Ty.hd (es.map (Ty.expr p))) ls bl
  else if k = 7 then (if (Ty.same (Ty.hd (es.map (Ty.expr p))) 2).2 ≠ 0 then (Ty.same (Ty.hd (es.map (Ty.expr p))) 2).2 else bt.headD 0)
  else if k = 9 then Ty.returned p (es.map (Ty.expr p))
  else if looped = false then 14 else 0
mutual
/-- What is wrong with a statement. -/
def Ty.stmt (p : Pl) (looped : Bool) : St → Int
  | .mk k n name _ es _ _ ls _ _ bs _ => Ty.stmtG p looped k n name es ls (Ty.blocks p looped bs) (Ty.blocks p true bs)
def Ty.blocks (p : Pl) (looped : Bool) : List Bk → List Int
  | [] => []
  | b :: bs => Ty.block p looped b :: Ty.blocks p looped bs
def Ty.block (p : Pl) (looped : Bool) : Bk → Int
  | .mk _ l _ => Ty.stmts p looped l
def Ty.stmts (p : Pl) (looped : Bool) : List St → Int
  | [] => 0
  | s :: l => if Ty.stmt p looped s ≠ 0 then Ty.stmt p looped s else Ty.stmts p looped l
end
theorem Ty.blocks_eq (p : Pl) (looped : Bool) : ∀ l : List Bk, Ty.blocks p looped l = l.map fun b => Ty.stmts p looped b.l
  | [] => by rw [Ty.blocks]; rfl
  | b :: bs => by rw [Ty.blocks, Ty.blocks_eq p looped bs]; cases b; rw [Ty.block]; rfl
theorem Ty.stmt_eq (p : Pl) (looped : Bool) (s : St) : Ty.stmt p looped s = Ty.stmtG p looped s.k s.n s.name s.es s.ls (s.bs.map fun b => Ty.stmts p looped b.l) (s.bs.map fun b => Ty.stmts p true b.l) := by
  cases s; rw [Ty.stmt, Ty.blocks_eq, Ty.blocks_eq]; rfl
theorem Ty.stmts_cons (p : Pl) (looped : Bool) (s : St) (l : List St) : Ty.stmts p looped (s :: l) = if Ty.stmt p looped s ≠ 0 then Ty.stmt p looped s else Ty.stmts p looped l := by
  rw [Ty.stmts]
theorem Ty.stmts_nil (p : Pl) (looped : Bool) : Ty.stmts p looped [] = 0 := by rw [Ty.stmts]
end Go.Proofs.YtejifefgmlpclaaGreat
/- Small parts of typing, as walks: args, of, wrong. -/
namespace Go.Proofs.YtejifefgmlpclaaGreat
open Go.RowKit

theorem results_row2 {P : Program} {fn : Func} {p u : Tmp} {ty : TypeId} (h : fn.results = #[.cell p ty, .tmp u]) (tmps : Array Value) (w : World) (g : Nat) (t : TypeId) (cs : Array Value) (fr : Nat × Nat) (d : TypeDesc)
    (x : Value) (hp : tmps.getD p undef = .pointer (some ⟨g, 0, none⟩)) (hx : tmps.getD u undef = x) (hg : w.heap[g]? = some (.cells cs t fr))
    (hu : P.underlying ty = some d) (hd : (match d with | .struct _ | .array _ _ => true | _ => false) = true) (hi : (P.info? ty).map (·.size) = some cs.size) :
    (results fn tmps).run P w = .ok (.tuple #[.agg cs, x]) w := by
  rw [results_cell_tmp h, hp, hx]
  simp only [asAddr, Sem.run_pure, Result.andThen]
  rw [run_loadVar_row w g t ty cs fr d hg hu hd hi]
theorem row_heap (w : World) (g : Nat) (cs : Array Value) (k : Nat) (h : k ≠ g) : (w.setRow g cs).heap[k]? = w.heap[k]? := by
  simp [World.setRow, Array.getElem?_modify, Ne.symm h]
theorem row_has {w : World} {g : Nat} {xs ys : List Value} {t : TypeId} (h : Aid.Has w g xs t) : Aid.Has (w.setRow g ys.toArray) g ys t := by
  unfold Aid.Has at h ⊢; simp [World.setRow, Array.getElem?_modify, h]
theorem row_size (w : World) (g : Nat) (cs : Array Value) : (w.setRow g cs).heap.size = w.heap.size := by simp [World.setRow]
theorem row_below {B g : Nat} {a w : World} (h : Below B a w) (hg : B ≤ g) (cs : Array Value) : Below B a (w.setRow g cs) :=
  ⟨h.os, h.tape, h.output, by have := h.size; simpa [World.setRow] using this, fun k hk => (row_heap w g cs k (by omega)).trans (h.block k hk)⟩

/-- The cells of no type. -/
def Ty.z : List Value := [.int .i64 0, .int .i64 0, .int .i64 0, .string ⟨#[]⟩]
theorem Ty.z_new (w : World) : Aid.Has (w.alloc (.cells #[.int .i64 0, .int .i64 0, .int .i64 0, .string ⟨#[]⟩] 44)) w.heap.size Ty.z 44 := Aid.Has.new w Ty.z 44
theorem below_new (w : World) (o : Obj) : Below w.heap.size w (w.alloc o) := (Below.refl _ w).alloc (Nat.le_refl _) o

set_option maxRecDepth 100000 in
set_option maxHeartbeats 1000000 in
theorem of_is (k : Int) (w : World) :
    Calls Tryz.prog 98 #[.int .i64 k] w fun e w' => e = .returned (Ty.of k).v ∧ Below w.heap.size w w' := by
  have HZ := Aid.hid (Ty.z_new w)
  have K0 := Aid.hid (below_new w (.cells #[.int .i64 0, .int .i64 0, .int .i64 0, .string ⟨#[]⟩] 44))
  go_enter Tryz.func98, Tryz.ntmps98
  try simp only [List.append_eq, List.cons_append, List.nil_append]
  go_wp2_with (refine wpList_store_row rfl 44 _ _ rfl w.heap.size _ rfl rfl 44 _ HZ.out (by kernel_rfl) rfl (by simp [Value.oneCell']) ?_)
  refine bodyPost_ret (v := _) (results_cell_row rfl _ _ w.heap.size 44 _ (0, 0) _ rfl (row_has HZ.out) Tryz.underlying44 rfl (by kernel_rfl)) rfl ⟨rfl, row_below K0.out (Nat.le_refl _) _⟩

set_option maxRecDepth 100000 in
set_option maxHeartbeats 1000000 in
theorem wrong_is (c : Int) (w : World) :
    Calls Tryz.prog 91 #[.int .i64 c] w fun e w' => e = .returned (.tuple #[Ty.none_.v, .int .i64 c]) ∧ Below w.heap.size w w' := by
  have HZ := Aid.hid (Ty.z_new w)
  have K0 := Aid.hid (below_new w (.cells #[.int .i64 0, .int .i64 0, .int .i64 0, .string ⟨#[]⟩] 44))
  go_enter Tryz.func91, Tryz.ntmps91
  try simp only [List.append_eq, List.cons_append, List.nil_append]
  go_wp2_with (refine wpList_store_row rfl 44 _ _ rfl w.heap.size _ rfl rfl 44 _ HZ.out (by kernel_rfl) rfl (by simp [Value.oneCell']) ?_)
  refine bodyPost_ret (v := _) (results_row2 rfl _ _ w.heap.size 44 _ (0, 0) _ _ rfl rfl (row_has HZ.out) Tryz.underlying44 rfl (by kernel_rfl)) rfl ⟨rfl, row_below K0.out (Nat.le_refl _) _⟩

set_option maxRecDepth 100000 in
set_option maxHeartbeats 4000000 in
theorem args_is (k n : Int) (w : World) (hn : Ty.args k = n) :
    Calls Tryz.prog 97 #[.int .i64 k] w fun e w' => e = .returned (.int .i64 n) ∧ w = w' := by
  have HN := Aid.hid hn
  clear hn
  go_enter Tryz.func97, Tryz.ntmps97
  try simp only [List.append_eq, List.cons_append, List.nil_append]
  go_wp2_with fail
  all_goals (go_ret; exact ⟨by rw [← HN.out]; simp_all [Ty.args], rfl⟩)
end Go.Proofs.YtejifefgmlpclaaGreat
