/- What a unit is, as data, and how it lies in memory. -/
import Derived.Test.YtjhlcfaakhabfaaProg
import Derived.Test.YtjhlcfaakhabfaaAid
import Derived.Test.YtjhlcfaakhabfaaMem
import Derived.WalkKit
namespace Go.Proofs.Ytjhlcfaakhabfaa
open Go.RowKit

/-- Rows of sz cells each, one behind the other, from address a on, below block B. -/
def Rows (w : World) (B sz : Nat) (a : Option Addr) (rows : List (List Value)) : Prop :=
  0 < rows.length → ∃ b off, a = some ⟨b, off, none⟩ ∧ b < B ∧ ∀ i r, rows[i]? = some r → ∀ j v, r[j]? = some v → w.cell? ⟨b, off + i * sz + j, none⟩ = some v
theorem Rows.nil_ (w : World) (B sz : Nat) (a : Option Addr) : Rows w B sz a [] := fun h => absurd h (by simp)
theorem Rows.keep {w w' : World} {B sz : Nat} {a : Option Addr} {rows : List (List Value)} (h : Rows w B sz a rows) (hk : ∀ p : Addr, p.block < B → w'.cell? p = w.cell? p) : Rows w' B sz a rows := fun hn => by
  obtain ⟨b, off, h1, h2, h3⟩ := h hn
  exact ⟨b, off, h1, h2, fun i r hr j v hv => (hk _ h2).trans (h3 i r hr j v hv)⟩
theorem Rows.more {w : World} {B B' sz : Nat} {a : Option Addr} {rows : List (List Value)} (h : Rows w B sz a rows) (hB : B ≤ B') : Rows w B' sz a rows := fun hn => by
  obtain ⟨b, off, h1, h2, h3⟩ := h hn
  exact ⟨b, off, h1, by omega, h3⟩
theorem Rows.below {w w' : World} {B C sz : Nat} {a : Option Addr} {rows : List (List Value)} (h : Rows w B sz a rows) (hb : Below C w w') (hC : B ≤ C) : Rows w' B sz a rows :=
  h.keep fun p hp => hb.cell (by omega)

/-- A type. -/
structure Ty where
  k : Int
  lo : Int
  hi : Int
  name : ByteArray
deriving DecidableEq
def Ty.cells (t : Ty) : List Value := [.int .i64 t.k, .int .i64 t.lo, .int .i64 t.hi, .string t.name]
/-- A variable. -/
structure Vd where
  name : ByteArray
  ty : Ty
  init : Int
  dir : Int
  slot : Int
deriving DecidableEq
def Vd.cells (v : Vd) : List Value := [.string v.name, .int .i64 v.ty.k, .int .i64 v.ty.lo, .int .i64 v.ty.hi, .string v.ty.name, .int .i64 v.init, .int .i64 v.dir, .int .i64 v.slot]
/-- A method: its lists by their addresses, and what they hold. -/
structure Md where
  name : ByteArray
  over : Bool
  abs : Bool
  fin : Bool
  pA : Option Addr
  ps : List Vd
  pc : Nat
  res : Ty
  vA : Option Addr
  vs : List Vd
  vc : Nat
  bA : Option Addr
  bn : Nat
  bc : Nat
def Md.cells (m : Md) : List Value := [.string m.name, .bool m.over, .bool m.abs, .bool m.fin, .slice m.pA m.ps.length m.pc, .int .i64 m.res.k, .int .i64 m.res.lo, .int .i64 m.res.hi, .string m.res.name, .slice m.vA m.vs.length m.vc, .slice m.bA m.bn m.bc]
/-- A declaration. -/
structure Dk where
  kind : Int
  name : ByteArray
  base : ByteArray
  fA : Option Addr
  faces : List ByteArray
  fc : Nat
  abs : Bool
  fin : Bool
  vA : Option Addr
  vs : List Vd
  vc : Nat
  mA : Option Addr
  ms : List Md
  mc : Nat
  bA : Option Addr
  bn : Nat
  bc : Nat
  every : Int
  first : Int
def Dk.cells (d : Dk) : List Value := [.int .i64 d.kind, .string d.name, .string d.base, .slice d.fA d.faces.length d.fc, .bool d.abs, .bool d.fin, .slice d.vA d.vs.length d.vc, .slice d.mA d.ms.length d.mc, .slice d.bA d.bn d.bc, .int .i64 d.every, .int .i64 d.first]
/-- As the program hands it on. -/
def Dk.v (d : Dk) : Value := .agg d.cells.toArray

/-- A method's lists lie in memory. -/
structure MdAt (w : World) (B : Nat) (m : Md) : Prop where
  params : Rows w B 8 m.pA (m.ps.map Vd.cells)
  vars : Rows w B 8 m.vA (m.vs.map Vd.cells)
  smallP : m.ps.length ≤ 1000000000
  smallV : m.vs.length ≤ 1000000000
structure DkAt (w : World) (B : Nat) (d : Dk) : Prop where
  faces : Rows w B 1 d.fA (d.faces.map fun s => [Value.string s])
  vars : Rows w B 8 d.vA (d.vs.map Vd.cells)
  meths : Rows w B 11 d.mA (d.ms.map Md.cells)
  each : ∀ m ∈ d.ms, MdAt w B m
  smallF : d.faces.length ≤ 1000000000
  smallV : d.vs.length ≤ 1000000000
  smallM : d.ms.length ≤ 1000000000
/-- The declarations lie in memory, with all that this chapter looks at. -/
structure UnitAt (w : World) (B : Nat) (a : Option Addr) (u : List Dk) : Prop where
  rows : Rows w B 11 a (u.map Dk.cells)
  decls : ∀ d ∈ u, DkAt w B d
  small : u.length ≤ 1000000000

theorem MdAt.below {w w' : World} {B C : Nat} {m : Md} (h : MdAt w B m) (hb : Below C w w') (hC : B ≤ C) : MdAt w' B m := ⟨h.params.below hb hC, h.vars.below hb hC, h.smallP, h.smallV⟩
theorem DkAt.below {w w' : World} {B C : Nat} {d : Dk} (h : DkAt w B d) (hb : Below C w w') (hC : B ≤ C) : DkAt w' B d :=
  ⟨h.faces.below hb hC, h.vars.below hb hC, h.meths.below hb hC, fun m hm => (h.each m hm).below hb hC, h.smallF, h.smallV, h.smallM⟩
theorem DkAt.face {w : World} {B : Nat} {d : Dk} (h : DkAt w B d) (hn : 0 < d.faces.length) :
    ∃ b off, d.fA = some ⟨b, off, none⟩ ∧ b < B ∧ ∀ (i : Nat) (s : ByteArray), d.faces[i]? = some s → w.cell? ⟨b, off + i, none⟩ = some (.string s) := by
  obtain ⟨b, off, h1, h2, h3⟩ := h.faces (by simpa using hn)
  exact ⟨b, off, h1, h2, fun i s hs => by simpa using h3 i [.string s] (by simp [hs]) 0 _ rfl⟩
theorem DkAt.meth {w : World} {B : Nat} {d : Dk} (h : DkAt w B d) (hn : 0 < d.ms.length) :
    ∃ b off, d.mA = some ⟨b, off, none⟩ ∧ b < B ∧ ∀ (i : Nat) (m : Md), d.ms[i]? = some m → ∀ j v, m.cells[j]? = some v → w.cell? ⟨b, off + i * 11 + j, none⟩ = some v := by
  obtain ⟨b, off, h1, h2, h3⟩ := h.meths (by simpa using hn)
  exact ⟨b, off, h1, h2, fun i m hm j v hv => h3 i m.cells (by simp [hm]) j v hv⟩
theorem UnitAt.below {w w' : World} {B C : Nat} {a : Option Addr} {u : List Dk} (h : UnitAt w B a u) (hb : Below C w w') (hC : B ≤ C) : UnitAt w' B a u :=
  ⟨h.rows.below hb hC, fun d hd => (h.decls d hd).below hb hC, h.small⟩

/-- The cells of declaration number i. -/
theorem UnitAt.at_ {w : World} {B : Nat} {a : Option Addr} {u : List Dk} (h : UnitAt w B a u) (hn : 0 < u.length) :
    ∃ b off, a = some ⟨b, off, none⟩ ∧ b < B ∧ ∀ i d, u[i]? = some d → ∀ j v, d.cells[j]? = some v → w.cell? ⟨b, off + i * 11 + j, none⟩ = some v := by
  obtain ⟨b, off, h1, h2, h3⟩ := h.rows (by simpa using hn)
  exact ⟨b, off, h1, h2, fun i d hd j v hv => h3 i d.cells (by simp [hd]) j v hv⟩

/-- The first declaration of a name; -1. -/
def Tb.find (u : List Dk) (s : ByteArray) : Int := match u.findIdx? (fun d => d.name.toList == s.toList) with | some i => (i : Int) | none => -1
theorem Tb.find_hit {u : List Dk} {s : ByteArray} {k : Nat} {d : Dk} (hd : u[k]? = some d) (h : (d.name.toList == s.toList) = true) (hno : ∀ j, j < k → ∀ e, u[j]? = some e → (e.name.toList == s.toList) = false) : Tb.find u s = k := by
  obtain ⟨hk, hdk⟩ := List.getElem?_eq_some_iff.1 hd
  have : u.findIdx? (fun d => d.name.toList == s.toList) = some k := by
    rw [List.findIdx?_eq_some_iff_getElem]
    exact ⟨hk, by rw [hdk]; exact h, fun j hj => by simpa using hno j hj _ (List.getElem?_eq_getElem (by omega))⟩
  unfold Tb.find; rw [this]
theorem Tb.find_miss {u : List Dk} {s : ByteArray} (hno : ∀ j, j < u.length → ∀ e, u[j]? = some e → (e.name.toList == s.toList) = false) : Tb.find u s = -1 := by
  have : u.findIdx? (fun d => d.name.toList == s.toList) = none := by
    rw [List.findIdx?_eq_none_iff]
    intro d hd
    obtain ⟨j, hj, rfl⟩ := List.getElem_of_mem hd
    exact hno j hj _ (List.getElem?_eq_getElem hj)
  unfold Tb.find; rw [this]
theorem Tb.find_range (u : List Dk) (s : ByteArray) : -1 ≤ Tb.find u s ∧ Tb.find u s < u.length := by
  unfold Tb.find
  cases h : u.findIdx? (fun d => d.name.toList == s.toList) with
  | none => simp; omega
  | some i => have := (List.findIdx?_eq_some_iff_getElem.1 h).1; simp; omega
/-- A declaration's kind; 0. -/
def Tb.kind (u : List Dk) (d : Int) : Int := if 0 ≤ d then (match u[d.toNat]? with | some x => x.kind | none => 0) else 0
end Go.Proofs.Ytjhlcfaakhabfaa
