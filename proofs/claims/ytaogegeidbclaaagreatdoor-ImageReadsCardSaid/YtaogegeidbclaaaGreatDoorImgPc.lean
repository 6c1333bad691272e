/- What a writer lays: pieces. -/
import Derived.Test.YtaogegeidbclaaaGreatDoorImgNum
import Derived.Lib.AppendStr
namespace Go.Proofs.YtaogegeidbclaaaGreatDoor
open Go.RowKit

/-- A piece: bytes; whether it may not be laid. -/
structure Pc where
  b : List Int
  x : Bool
deriving DecidableEq
def Pc.cat (p q : Pc) : Pc := ⟨p.b ++ q.b, p.x || q.x⟩
instance : Append Pc := ⟨Pc.cat⟩
def Pc.none : Pc := ⟨[], false⟩
theorem Pc.app_def (p q : Pc) : p ++ q = ⟨p.b ++ q.b, p.x || q.x⟩ := rfl
theorem Pc.ext_ {p q : Pc} (h : p.b = q.b) (k : p.x = q.x) : p = q := by cases p; cases q; simp_all
theorem Pc.assoc (p q r : Pc) : p ++ q ++ r = p ++ (q ++ r) := by simp [Pc.app_def, List.append_assoc, Bool.or_assoc]
theorem Pc.none_app (p : Pc) : Pc.none ++ p = p := by simp [Pc.app_def, Pc.none]
theorem Pc.app_none (p : Pc) : p ++ Pc.none = p := by simp [Pc.app_def, Pc.none]
theorem Pc.len (p q : Pc) : (p ++ q).b.length = p.b.length + q.b.length := by simp [Pc.app_def]
def Pc.all : List Pc → Pc
  | [] => Pc.none
  | p :: l => p ++ Pc.all l
theorem Pc.all_append (l m : List Pc) : Pc.all (l ++ m) = Pc.all l ++ Pc.all m := by
  induction l with
  | nil => simp [Pc.all, Pc.none_app]
  | cons p l ih => simp only [List.cons_append, Pc.all, ih, Pc.assoc]
theorem Pc.all_snoc (l : List Pc) (p : Pc) : Pc.all (l ++ [p]) = Pc.all l ++ p := by rw [Pc.all_append]; simp [Pc.all, Pc.app_none]
theorem Pc.all_take {α : Type} (f : α → Pc) (l : List α) (k : Nat) (x : α) (h : l[k]? = some x) : Pc.all ((l.take (k + 1)).map f) = Pc.all ((l.take k).map f) ++ f x := by
  rw [List.take_add_one, h]; simp [Pc.all_snoc]
theorem Pc.all_lt {α : Type} (f : α → Pc) (l : List α) (k : Nat) (x : α) (h : l[k]? = some x) : (Pc.all ((l.take k).map f)).b.length + (f x).b.length ≤ (Pc.all (l.map f)).b.length := by
  have h1 : l = l.take (k + 1) ++ l.drop (k + 1) := (List.take_append_drop _ _).symm
  have h2 : Pc.all (l.map f) = Pc.all ((l.take k).map f) ++ f x ++ Pc.all ((l.drop (k + 1)).map f) := by
    rw [← Pc.all_take f l k x h, ← Pc.all_append, ← List.map_append, ← h1]
  rw [h2, Pc.len, Pc.len]; omega
def Wt.out (x : Int) : Bool := decide (x < -2147483648) || decide (2147483647 < x)
def Pc.nums (ns : List Int) : Pc := ⟨ns.flatMap Wt.be, ns.any Wt.out⟩
def Pc.num (x : Int) : Pc := ⟨Wt.be x, Wt.out x⟩
theorem Pc.nums_one (x : Int) : Pc.nums [x] = Pc.num x := by simp [Pc.nums, Pc.num]
theorem Pc.nums_cons (x : Int) (l : List Int) : Pc.nums (x :: l) = Pc.num x ++ Pc.nums l := by simp [Pc.nums, Pc.num, Pc.app_def]
theorem Pc.num_len (x : Int) : (Pc.num x).b.length = 4 := rfl
theorem Wt.lay_is (ns : List Int) : ∀ bs : List Int, Wt.lay bs ns = bs ++ ns.flatMap Wt.be := by
  induction ns with
  | nil => intro bs; simp [Wt.lay]
  | cons x ns ih => intro bs; show Wt.lay (bs ++ Wt.be x) ns = _; rw [ih]; simp
theorem Wt.bads_is (ns : List Int) : ∀ b : Bool, Wt.bads b ns = (b || ns.any Wt.out) := by
  induction ns with
  | nil => intro b; simp [Wt.bads]
  | cons x ns ih => intro b; show Wt.bads (Wt.bad b x) ns = _; rw [ih]; simp [Wt.bad, Wt.out, Bool.or_assoc]
/-- How many there are. -/
def Pc.many (n : Int) : Pc := ⟨Wt.be n, decide (10000 < n) || Wt.out n⟩
/-- A text's bytes. -/
def Wt.chars (s : ByteArray) : List Int := s.data.toList.map fun b => (b.toNat : Int)
def Pc.text (s : ByteArray) : Pc := Pc.many s.size ++ ⟨Wt.chars s, false⟩
def Pc.flag (b : Bool) : Pc := Pc.num (if b then 1 else 0)
def Pc.list {α : Type} (f : α → Pc) (l : List α) : Pc := Pc.many l.length ++ Pc.all (l.map f)
theorem Wt.chars_len (s : ByteArray) : (Wt.chars s).length = s.size := by simp [Wt.chars]
theorem Wt.chars_cells (s : ByteArray) : (Wt.chars s).map (Value.int .u8) = Lib.strCells s := by
  simp [Wt.chars, Lib.strCells]

/-- The writer at p holds this. -/
def Wt.Is (w : World) (T : TypeId) (p : Nat) (s : Pc) : Prop := Wt.At w T p s.b s.x
theorem Wt.ints_new {w : World} {p : Nat} (xs : List Int) (hp : p < w.heap.size) : ∀ w', Wt.Kp p (w.alloc (.cells (xs.map (Value.int .i64)).toArray 3)) w' → IntsAt w' w'.heap.size (some ⟨w.heap.size, 0, none⟩) xs := fun w' hk => by
  have h1 := hk.2 w.heap.size _ _ (by omega) (by decide) (Aid.Has.new w (xs.map (Value.int .i64)) 3)
  refine ⟨by simp, fun _ => ⟨_, rfl, h1.lt, fun j u hu => ?_⟩⟩
  rw [Go.WideShapes.add_plain, Nat.zero_add]
  exact h1.cell j u hu
theorem Wt.ints_low {w : World} {p : Nat} {A : Option Addr} {xs : List Int} (h : IntsAt w p A xs) (hp : p ≤ w.heap.size) : ∀ w', Wt.Kp p w w' → IntsAt w' w'.heap.size A xs := fun w' hk => (Reads.below h hk.1).more (by have := hk.1.size; omega)
theorem Wt.Is.lt {w : World} {T : TypeId} {p : Nat} {s : Pc} (h : Wt.Is w T p s) : p < w.heap.size := by
  obtain ⟨A, c, h1, _⟩ := h
  exact h1.lt
theorem Wt.Is.alloc {w : World} {T : TypeId} {p : Nat} {s : Pc} (h : Wt.Is w T p s) (o : Obj) : Wt.Is (w.alloc o) T p s := by
  obtain ⟨A, c, h1, h2⟩ := h
  exact ⟨A, c, h1.alloc o, h2.alloc o⟩
theorem Wt.Is.set {w : World} {T : TypeId} {p : Nat} {s : Pc} (h : Wt.Is w T p s) {b : Nat} (hb : b ≠ p) {xs : List Value} {t : TypeId} (hx : Aid.Has w b xs t) (ht : t ≠ 5) (j : Nat) (v : Value) : Wt.Is (w.setCell ⟨b, j, none⟩ v) T p s := by
  obtain ⟨A, c, h1, h2⟩ := h
  refine ⟨A, c, h1.other ⟨b, j, none⟩ v (fun e => hb e.symm), own_other h2 (fun q hq e => ?_) j v⟩
  rcases h2.2 with ⟨h3, _⟩ | ⟨g, cp, cur, p1, p2, p3, p4⟩
  · rw [h3] at hq; simp [Value.ownBlock] at hq
  · rw [p1] at hq
    obtain rfl : g = q := by simpa [Value.ownBlock] using hq
    subst e
    have h5 := (show w.heap[g]? = _ from hx).symm.trans p3
    simp at h5
    exact ht h5.2
theorem Wt.Kp.set' {p : Nat} {a b : World} (h : Wt.Kp p a b) {q : Nat} (hq : a.heap.size ≤ q) (hp : p ≤ a.heap.size) (j : Nat) (v : Value) : Wt.Kp p a (b.setCell ⟨q, j, none⟩ v) :=
  ⟨h.1.setCell (p := ⟨q, j, none⟩) (by show p ≤ q; omega) v, fun i xs t h1 h2 h3 => (h.2 i xs t h1 h2 h3).other ⟨q, j, none⟩ v (by have := h3.lt; show i ≠ q; omega)⟩

set_option maxRecDepth 100000 in
theorem wnum_pc (p : Nat) (A : Option Addr) (c : Nat) (ns : List Int) (s : Pc) (w : World) (hw : Wt.Is w 63 p s) (hn : ∀ w', Wt.Kp p w w' → IntsAt w' w'.heap.size A ns) (ln : ns.length ≤ 1000000000) (lb : s.b.length + 4 * ns.length ≤ 100000000000000) :
    Calls Tryz.prog 66 #[.pointer (some ⟨p, 0, none⟩), .slice A ns.length c] w fun e w' => e = .returned (.tuple #[]) ∧ Wt.Is w' 63 p (s ++ Pc.nums ns) ∧ Wt.Kp p w w' := by
  refine (wnum_is p A c ns s.b s.x w hw hn ln lb).mono ?_
  rintro e w' ⟨rfl, h1, h2⟩
  rw [Wt.lay_is, Wt.bads_is] at h1
  exact ⟨rfl, h1, h2⟩
end Go.Proofs.YtaogegeidbclaaaGreatDoor
