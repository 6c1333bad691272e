/- What a unit is, as data, and how it lies in memory. -/
import Derived.Test.YtejifefgmlpclaaGreatProg
import Derived.Test.YtejifefgmlpclaaGreatAid
import Derived.Test.YtejifefgmlpclaaGreatMem
import Derived.Test.YtejifefgmlpclaaGreatRowsK
import Derived.WalkKit
import Derived.WalkSpells
import Derived.WalkLawsBesides
set_option linter.unusedSimpArgs false
set_option linter.unusedVariables false
namespace Go.Proofs.YtejifefgmlpclaaGreat
open Go.RowKit

/-- A type. -/
structure Ty where
  k : Int
  lo : Int
  hi : Int
  name : ByteArray
deriving DecidableEq
def Ty.cells (t : Ty) : List Value := [.int .i64 t.k, .int .i64 t.lo, .int .i64 t.hi, .string t.name]
/-- A variable. -/
structure Vd where
  name : ByteArray
  ty : Ty
  init : Int
  dir : Int
  slot : Int
deriving DecidableEq
def Vd.cells (v : Vd) : List Value := [.string v.name, .int .i64 v.ty.k, .int .i64 v.ty.lo, .int .i64 v.ty.hi, .string v.ty.name, .int .i64 v.init, .int .i64 v.dir, .int .i64 v.slot]
/-- An expression: its kind, number, names, and its parts with their address. -/
inductive Ex where
  | mk (k n : Int) (name what : ByteArray) (A : Option Addr) (args : List Ex) (c : Nat)
def Ex.k : Ex → Int | .mk k _ _ _ _ _ _ => k
def Ex.n : Ex → Int | .mk _ n _ _ _ _ _ => n
def Ex.name : Ex → ByteArray | .mk _ _ s _ _ _ _ => s
def Ex.what : Ex → ByteArray | .mk _ _ _ s _ _ _ => s
def Ex.A : Ex → Option Addr | .mk _ _ _ _ A _ _ => A
def Ex.args : Ex → List Ex | .mk _ _ _ _ _ l _ => l
def Ex.c : Ex → Nat | .mk _ _ _ _ _ _ c => c
def Ex.cells (e : Ex) : List Value := [.int .i64 e.k, .int .i64 e.n, .string e.name, .string e.what, .slice e.A e.args.length e.c]
/-- Labels of an alternative. -/
structure Lb where
  A : Option Addr
  xs : List Int
  c : Nat
def Lb.cells (l : Lb) : List Value := [.slice l.A l.xs.length l.c]
mutual
/-- A statement. -/
inductive St where
  | mk (k n : Int) (name : ByteArray) (eA : Option Addr) (es : List Ex) (ec : Nat) (lA : Option Addr) (ls : List Lb) (lc : Nat) (bA : Option Addr) (bs : List Bk) (bc : Nat)
/-- A block of statements. -/
inductive Bk where
  | mk (A : Option Addr) (l : List St) (c : Nat)
end
def St.k : St → Int | .mk k _ _ _ _ _ _ _ _ _ _ _ => k
def St.n : St → Int | .mk _ n _ _ _ _ _ _ _ _ _ _ => n
def St.name : St → ByteArray | .mk _ _ s _ _ _ _ _ _ _ _ _ => s
def St.eA : St → Option Addr | .mk _ _ _ A _ _ _ _ _ _ _ _ => A
def St.es : St → List Ex | .mk _ _ _ _ l _ _ _ _ _ _ _ => l
def St.ec : St → Nat | .mk _ _ _ _ _ c _ _ _ _ _ _ => c
def St.lA : St → Option Addr | .mk _ _ _ _ _ _ A _ _ _ _ _ => A
def St.ls : St → List Lb | .mk _ _ _ _ _ _ _ l _ _ _ _ => l
def St.lc : St → Nat | .mk _ _ _ _ _ _ _ _ c _ _ _ => c
def St.bA : St → Option Addr | .mk _ _ _ _ _ _ _ _ _ A _ _ => A
def St.bs : St → List Bk | .mk _ _ _ _ _ _ _ _ _ _ l _ => l
def St.bc : St → Nat | .mk _ _ _ _ _ _ _ _ _ _ _ c => c
def Bk.A : Bk → Option Addr | .mk A _ _ => A
def Bk.l : Bk → List St | .mk _ l _ => l
def Bk.c : Bk → Nat | .mk _ _ c => c
def St.cells (s : St) : List Value := [.int .i64 s.k, .int .i64 s.n, .string s.name, .slice s.eA s.es.length s.ec, .slice s.lA s.ls.length s.lc, .slice s.bA s.bs.length s.bc]
def Bk.cells (b : Bk) : List Value := [.slice b.A b.l.length b.c]
/-- Expressions lie at A, each with its own below it, f deep at most. -/
def ExsAt : Nat → World → Nat → Option Addr → List Ex → Prop
  | 0, _, _, _, l => l = []
  | f + 1, w, B, A, l => l.length ≤ 9223372036854775807 ∧ Rows w B 5 A (l.map Ex.cells) ∧ ∀ e ∈ l, ExsAt f w B e.A e.args
/-- Statements lie at A, with all that is below them, f deep at most. -/
def StsAt : Nat → World → Nat → Option Addr → List St → Prop
  | 0, _, _, _, l => l = []
  | f + 1, w, B, A, l => l.length ≤ 9223372036854775807 ∧ Rows w B 6 A (l.map St.cells) ∧ ∀ s ∈ l, ExsAt f w B s.eA s.es ∧
      (s.ls.length ≤ 9223372036854775807 ∧ Rows w B 1 s.lA (s.ls.map Lb.cells) ∧ ∀ x ∈ s.ls, x.xs.length ≤ 9223372036854775807 ∧ Rows w B 1 x.A (x.xs.map fun n => [Value.int .i64 n])) ∧
      s.bs.length ≤ 9223372036854775807 ∧ Rows w B 1 s.bA (s.bs.map Bk.cells) ∧ ∀ b ∈ s.bs, StsAt f w B b.A b.l
theorem ExsAt.below {w w' : World} {B C : Nat} (hb : Below C w w') (hC : B ≤ C) : ∀ {f : Nat} {A : Option Addr} {l : List Ex}, ExsAt f w B A l → ExsAt f w' B A l
  | 0, _, _, h => h
  | _ + 1, _, _, h => ⟨h.1, h.2.1.below hb hC, fun e he => ExsAt.below hb hC (h.2.2 e he)⟩
theorem StsAt.below {w w' : World} {B C : Nat} (hb : Below C w w') (hC : B ≤ C) : ∀ {f : Nat} {A : Option Addr} {l : List St}, StsAt f w B A l → StsAt f w' B A l
  | 0, _, _, h => h
  | _ + 1, _, _, h => ⟨h.1, h.2.1.below hb hC, fun s hs => by
      obtain ⟨h1, ⟨h2, h3, h4⟩, h5, h6, h7⟩ := h.2.2 s hs
      exact ⟨h1.below hb hC, ⟨h2, h3.below hb hC, fun x hx => ⟨(h4 x hx).1, (h4 x hx).2.below hb hC⟩⟩, h5, h6.below hb hC, fun b hbm => StsAt.below hb hC (h7 b hbm)⟩⟩
/-- A method: its lists by their addresses, and what they hold. -/
structure Md where
  name : ByteArray
  over : Bool
  abs : Bool
  fin : Bool
  pA : Option Addr
  ps : List Vd
  pc : Nat
  res : Ty
  vA : Option Addr
  vs : List Vd
  vc : Nat
  bA : Option Addr
  body : List St
  bc : Nat
def Md.cells (m : Md) : List Value := [.string m.name, .bool m.over, .bool m.abs, .bool m.fin, .slice m.pA m.ps.length m.pc, .int .i64 m.res.k, .int .i64 m.res.lo, .int .i64 m.res.hi, .string m.res.name, .slice m.vA m.vs.length m.vc, .slice m.bA m.body.length m.bc]
/-- A declaration. -/
structure Dk where
  kind : Int
  name : ByteArray
  base : ByteArray
  fA : Option Addr
  faces : List ByteArray
  fc : Nat
  abs : Bool
  fin : Bool
  vA : Option Addr
  vs : List Vd
  vc : Nat
  mA : Option Addr
  ms : List Md
  mc : Nat
  bA : Option Addr
  body : List St
  bc : Nat
  every : Int
  first : Int
def Dk.cells (d : Dk) : List Value := [.int .i64 d.kind, .string d.name, .string d.base, .slice d.fA d.faces.length d.fc, .bool d.abs, .bool d.fin, .slice d.vA d.vs.length d.vc, .slice d.mA d.ms.length d.mc, .slice d.bA d.body.length d.bc, .int .i64 d.every, .int .i64 d.first]
/-- As the program hands it on. -/
def Dk.v (d : Dk) : Value := .agg d.cells.toArray

/-- A method's lists lie in memory. -/
structure MdAt (w : World) (B : Nat) (m : Md) : Prop where
  params : Rows w B 8 m.pA (m.ps.map Vd.cells)
  vars : Rows w B 8 m.vA (m.vs.map Vd.cells)
  smallP : m.ps.length ≤ 9223372036854775807
  smallV : m.vs.length ≤ 9223372036854775807
  body : ∃ f, StsAt f w B m.bA m.body
structure DkAt (w : World) (B : Nat) (d : Dk) : Prop where
  faces : Rows w B 1 d.fA (d.faces.map fun s => [Value.string s])
  vars : Rows w B 8 d.vA (d.vs.map Vd.cells)
  meths : Rows w B 11 d.mA (d.ms.map Md.cells)
  each : ∀ m ∈ d.ms, MdAt w B m
  smallF : d.faces.length ≤ 9223372036854775807
  smallV : d.vs.length ≤ 9223372036854775807
  smallM : d.ms.length ≤ 9223372036854775807
  body : ∃ f, StsAt f w B d.bA d.body
/-- The declarations lie in memory, with all that this chapter looks at. -/
structure UnitAt (w : World) (B : Nat) (a : Option Addr) (u : List Dk) : Prop where
  rows : Rows w B 11 a (u.map Dk.cells)
  decls : ∀ d ∈ u, DkAt w B d
  small : u.length ≤ 1000000000

theorem MdAt.below {w w' : World} {B C : Nat} {m : Md} (h : MdAt w B m) (hb : Below C w w') (hC : B ≤ C) : MdAt w' B m := ⟨h.params.below hb hC, h.vars.below hb hC, h.smallP, h.smallV, h.body.imp fun _ hf => hf.below hb hC⟩
theorem DkAt.below {w w' : World} {B C : Nat} {d : Dk} (h : DkAt w B d) (hb : Below C w w') (hC : B ≤ C) : DkAt w' B d :=
  ⟨h.faces.below hb hC, h.vars.below hb hC, h.meths.below hb hC, fun m hm => (h.each m hm).below hb hC, h.smallF, h.smallV, h.smallM, h.body.imp fun _ hf => hf.below hb hC⟩
theorem DkAt.face {w : World} {B : Nat} {d : Dk} (h : DkAt w B d) (hn : 0 < d.faces.length) :
    ∃ b off, d.fA = some ⟨b, off, none⟩ ∧ b < B ∧ ∀ (i : Nat) (s : ByteArray), d.faces[i]? = some s → w.cell? ⟨b, off + i, none⟩ = some (.string s) := by
  obtain ⟨b, off, h1, h2, h3⟩ := h.faces (by simpa using hn)
  exact ⟨b, off, h1, h2, fun i s hs => by simpa using h3 i [.string s] (by simp [hs]) 0 _ rfl⟩
theorem DkAt.meth {w : World} {B : Nat} {d : Dk} (h : DkAt w B d) (hn : 0 < d.ms.length) :
    ∃ b off, d.mA = some ⟨b, off, none⟩ ∧ b < B ∧ ∀ (i : Nat) (m : Md), d.ms[i]? = some m → ∀ j v, m.cells[j]? = some v → w.cell? ⟨b, off + i * 11 + j, none⟩ = some v := by
  obtain ⟨b, off, h1, h2, h3⟩ := h.meths (by simpa using hn)
  exact ⟨b, off, h1, h2, fun i m hm j v hv => h3 i m.cells (by simp [hm]) j v hv⟩
theorem UnitAt.below {w w' : World} {B C : Nat} {a : Option Addr} {u : List Dk} (h : UnitAt w B a u) (hb : Below C w w') (hC : B ≤ C) : UnitAt w' B a u :=
  ⟨h.rows.below hb hC, fun d hd => (h.decls d hd).below hb hC, h.small⟩

/-- The cells of declaration number i. -/
theorem UnitAt.at_ {w : World} {B : Nat} {a : Option Addr} {u : List Dk} (h : UnitAt w B a u) (hn : 0 < u.length) :
    ∃ b off, a = some ⟨b, off, none⟩ ∧ b < B ∧ ∀ i d, u[i]? = some d → ∀ j v, d.cells[j]? = some v → w.cell? ⟨b, off + i * 11 + j, none⟩ = some v := by
  obtain ⟨b, off, h1, h2, h3⟩ := h.rows (by simpa using hn)
  exact ⟨b, off, h1, h2, fun i d hd j v hv => h3 i d.cells (by simp [hd]) j v hv⟩

/-- The first declaration of a name; -1. -/
def Tb.find (u : List Dk) (s : ByteArray) : Int := match u.findIdx? (fun d => d.name.toList == s.toList) with | some i => (i : Int) | none => -1
theorem Tb.find_hit {u : List Dk} {s : ByteArray} {k : Nat} {d : Dk} (hd : u[k]? = some d) (h : (d.name.toList == s.toList) = true) (hno : ∀ j, j < k → ∀ e, u[j]? = some e → (e.name.toList == s.toList) = false) : Tb.find u s = k := by
  obtain ⟨hk, hdk⟩ := List.getElem?_eq_some_iff.1 hd
  have : u.findIdx? (fun d => d.name.toList == s.toList) = some k := by
    rw [List.findIdx?_eq_some_iff_getElem]
    exact ⟨hk, by rw [hdk]; exact h, fun j hj => by simpa using hno j hj _ (List.getElem?_eq_getElem (by omega))⟩
  unfold Tb.find; rw [this]
theorem Tb.find_miss {u : List Dk} {s : ByteArray} (hno : ∀ j, j < u.length → ∀ e, u[j]? = some e → (e.name.toList == s.toList) = false) : Tb.find u s = -1 := by
  have : u.findIdx? (fun d => d.name.toList == s.toList) = none := by
    rw [List.findIdx?_eq_none_iff]
    intro d hd
    obtain ⟨j, hj, rfl⟩ := List.getElem_of_mem hd
    exact hno j hj _ (List.getElem?_eq_getElem hj)
  unfold Tb.find; rw [this]
theorem Tb.find_range (u : List Dk) (s : ByteArray) : -1 ≤ Tb.find u s ∧ Tb.find u s < u.length := by
  unfold Tb.find
  cases h : u.findIdx? (fun d => d.name.toList == s.toList) with
  | none => simp; omega
  | some i => have := (List.findIdx?_eq_some_iff_getElem.1 h).1; simp; omega
/-- A declaration's kind; 0. -/
def Tb.kind (u : List Dk) (d : Int) : Int := if 0 ≤ d then (match u[d.toNat]? with | some x => x.kind | none => 0) else 0
end Go.Proofs.YtejifefgmlpclaaGreat
/- Find, as a walk. -/
namespace Go.Proofs.YtejifefgmlpclaaGreat
open Go.RowKit

set_option maxRecDepth 100000 in
set_option maxHeartbeats 1000000 in
theorem find1_any (d : Dk) (p : Nat) (s : ByteArray) (w : World) (hp : w.cell? ⟨p, 0, none⟩ = some (.string s)) (hlt : p < w.heap.size) :
    Calls Tryz.prog 23 #[.agg #[.int .i64 d.kind, .string d.name, .string d.base, .slice d.fA d.faces.length d.fc, .bool d.abs, .bool d.fin, .slice d.vA d.vs.length d.vc, .slice d.mA d.ms.length d.mc, .slice d.bA d.body.length d.bc, .int .i64 d.every, .int .i64 d.first], .pointer (some ⟨p, 0, none⟩)] w fun e w' => e = .returned (.bool (d.name.toList == s.toList)) ∧ Below w.heap.size w w' := by
  go_enter Tryz.func23, Tryz.ntmps23
  go_wp2_with fail
  go_ret
  exact ⟨rfl, (Below.refl _ _).alloc (Nat.le_refl _) _⟩
theorem find1_is (d : Dk) (p : Nat) (s : ByteArray) (r : Bool) (w : World) (hr : (d.name.toList == s.toList) = r) (hp : w.cell? ⟨p, 0, none⟩ = some (.string s)) (hlt : p < w.heap.size) :
    Calls Tryz.prog 23 #[.agg #[.int .i64 d.kind, .string d.name, .string d.base, .slice d.fA d.faces.length d.fc, .bool d.abs, .bool d.fin, .slice d.vA d.vs.length d.vc, .slice d.mA d.ms.length d.mc, .slice d.bA d.body.length d.bc, .int .i64 d.every, .int .i64 d.first], .pointer (some ⟨p, 0, none⟩)] w fun e w' => e = .returned (.bool r) ∧ Below w.heap.size w w' := by
  rw [← hr]; exact find1_any d p s w hp hlt

set_option maxRecDepth 100000 in
set_option maxHeartbeats 2000000 in
theorem indexDecl_any (u : List Dk) (a : Option Addr) (B cap p : Nat) (s : ByteArray) (w : World) (hu : UnitAt w B a u) (hB : B ≤ w.heap.size) (hp : w.cell? ⟨p, 0, none⟩ = some (.string s)) (hlt : p < w.heap.size) :
    Calls Tryz.prog 22 #[.slice a u.length cap, .func (.func 23) #[] #[.pointer (some ⟨p, 0, none⟩)]] w fun e w' => e = .returned (.int .i64 (Tb.find u s)) ∧ Below w.heap.size w w' := by
  have HU := Aid.hid hu
  have sm := hu.small
  have HP := Aid.hid hp
  clear hu hp
  go_enter Tryz.func22, Tryz.ntmps22
  try simp only [List.append_eq, List.cons_append, List.nil_append]
  go_wp2_with fail
  go_loopw [8] (fun vi wr => ∃ k : Nat, vi = .int .i64 k ∧ k ≤ u.length ∧ Hid (∀ j, j < k → ∀ e, u[j]? = some e → (e.name.toList == s.toList) = false) ∧ Below w.heap.size w wr) (fun vi _ => u.length - (intOf vi).toNat)
  case atStart => exact ⟨0, rfl, Nat.zero_le _, Aid.hid (fun j hj => by omega), Below.refl _ _⟩
  case round =>
    obtain ⟨k, rfl, hk, NO, hb⟩ := hrel
    by_cases hkl : k < u.length
    · obtain ⟨b, off, rfl, _, hc⟩ := (HU.out.below hb hB).at_ (by omega)
      obtain ⟨d, hd⟩ : ∃ d, u[k]? = some d := ⟨_, List.getElem?_eq_getElem hkl⟩
      have c0 := hc k d hd 0 _ rfl
      have c1 := hc k d hd 1 _ rfl
      have c2 := hc k d hd 2 _ rfl
      have c3 := hc k d hd 3 _ rfl
      have c4 := hc k d hd 4 _ rfl
      have c5 := hc k d hd 5 _ rfl
      have c6 := hc k d hd 6 _ rfl
      have c7 := hc k d hd 7 _ rfl
      have c8 := hc k d hd 8 _ rfl
      have c9 := hc k d hd 9 _ rfl
      have c10 := hc k d hd 10 _ rfl
      simp only [Nat.add_zero] at c0
      have HD := Aid.hid hd
      clear hc hd
      obtain ⟨r, hr⟩ : ∃ r, (d.name.toList == s.toList) = r := ⟨_, rfl⟩
      have HR := Aid.hid hr
      clear hr
      go_wp2_with fail
      refine (find1_is d p s r _ HR.out ((hb.cell (p := ⟨p, 0, none⟩) hlt).trans HP.out) (Nat.lt_of_lt_of_le hlt hb.size)).mono ?_; rintro e w' ⟨rfl, hb'⟩
      replace hb := hb.trans (hb'.mono hb.size)
      clear hb' c0 c1 c2 c3 c4 c5 c6 c7 c8 c9 c10
      cases r
      · have NX : Hid (∀ j, j < k + 1 → ∀ e, u[j]? = some e → (e.name.toList == s.toList) = false) := Aid.hid (fun j hj e he => by
          rcases Nat.lt_or_ge j k with h | h
          · exact NO.out j h e he
          · obtain rfl : j = k := by omega
            rw [HD.out] at he
            obtain rfl := Option.some.inj he
            exact HR.out)
        go_wp2_with fail
        go_roundw
        case rel => exact ⟨k + 1, by go_num, by omega, NX, hb⟩
        case measure => simp [intOf]; omega
      · have E := Aid.hid (Tb.find_hit HD.out HR.out NO.out)
        go_wp2_with fail
        go_ret
        exact ⟨by rw [E.out]; rfl, hb⟩
    · have E := Aid.hid (Tb.find_miss (u := u) (s := s) (fun j hj => NO.out j (by omega)))
      go_wp2_with fail
      go_ret
      exact ⟨by rw [E.out]; rfl, hb⟩

set_option maxRecDepth 100000 in
set_option maxHeartbeats 1000000 in
theorem find_any (u : List Dk) (a : Option Addr) (B cap : Nat) (s : ByteArray) (w : World) (hu : UnitAt w B a u) (hB : B ≤ w.heap.size) :
    Calls Tryz.prog 14 #[.agg #[.slice a u.length cap], .string s] w fun e w' => e = .returned (.int .i64 (Tb.find u s)) ∧ Below w.heap.size w w' := by
  have HU := Aid.hid hu
  clear hu
  go_enter Tryz.func14, Tryz.ntmps14
  go_wp2_with fail
  have hb : Below w.heap.size w ((w.alloc (.cells #[.slice a u.length cap] 24)).alloc (.cells #[.string s] 9)) := ((Below.refl _ _).alloc (Nat.le_refl _) _).alloc (by simp) _
  refine (indexDecl_any u a B cap (w.heap.size + 1) s _ (HU.out.below hb hB) (by simp; omega) (by simp) (by simp)).mono ?_; rintro e w' ⟨rfl, hb'⟩
  go_wp2_with fail
  go_ret
  exact ⟨rfl, hb.trans (hb'.mono (by simp; omega))⟩
theorem find_is (u : List Dk) (a : Option Addr) (B cap : Nat) (s : ByteArray) (r : Int) (w : World) (hr : Tb.find u s = r) (hu : UnitAt w B a u) (hB : B ≤ w.heap.size) :
    Calls Tryz.prog 14 #[.agg #[.slice a u.length cap], .string s] w fun e w' => e = .returned (.int .i64 r) ∧ Below w.heap.size w w' := by
  rw [← hr]; exact find_any u a B cap s w hu hB
end Go.Proofs.YtejifefgmlpclaaGreat
