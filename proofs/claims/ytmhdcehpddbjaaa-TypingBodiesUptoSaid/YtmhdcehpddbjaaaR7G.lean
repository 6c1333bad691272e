/- The document's named, as a walk. -/
import Derived.Test.YtmhdcehpddbjaaaR7A
import Derived.WalkKit
import Derived.WalkSpells
import Derived.WalkLawsBesides
import Derived.LoopTactic
import Derived.Deep.QuietTactic
import Derived.BigQuiet
import Derived.Below
import Derived.Laws.ResultCell
import Derived.Laws.Tables
import Derived.Laws.Rows
import Derived.Deep.Cut
import Derived.KernelRfl
set_option linter.unusedSimpArgs false
set_option linter.unusedVariables false
namespace Go.Proofs.Ytmhdcehpddbjaaa
open Go.RowKit

theorem rvar_x (u : List Dk) (a : Option Addr) (B cap : Nat) (x y : Int) (p : Pl) (s : ByteArray) (o : Option Vd) (v : Vd) (r : Bool) (w : World) (ho : p.var s = o) (hv : Ty.vof o = v) (hr : o.isSome = r) (hp : Pl.at u x y = some p) (hu : UnitAt w B a u) (hB : B ≤ w.heap.size) (hl : ULim u) :
  Calls Try.prog 35 #[.agg #[.slice a u.length cap], .agg #[.int .i64 x, .int .i64 y], .string s] w fun z w' => z = .returned (.tuple #[.agg #[.string v.name, .int .i64 v.ty.k, .int .i64 v.ty.lo, .int .i64 v.ty.hi, .string v.ty.name, .int .i64 v.init, .int .i64 v.dir, .int .i64 v.slot], .bool r]) ∧ Below w.heap.size w w' := by
 subst hv hr
 exact rvar_is u a B cap x y p s o w ho hp hu hB hl
set_option maxRecDepth 100000 in
set_option maxHeartbeats 4000000 in
theorem rnamed_5 (f : Nat) (u : List Dk) (a : Option Addr) (B cap : Nat) (x y : Int) (p : Pl) (e : Ex) (v : Vd) (t : Ty) (c : Int) (w : World) (hr : Rf.named e.k v (Ty.hd (e.args.map (Rf.expr p))) = (t, c)) (hp : Pl.at u x y = some p) (hl : ULim u) (hX : ∀ q ∈ e.args, RExOK f u a B cap x y p q) (hu : UnitAt w B a u) (hB : B ≤ w.heap.size) (he : ExsAt (f + 1) w B e.A e.args) (hk : e.k = 5) :
  Calls Try.prog 36 #[.agg #[.slice a u.length cap], .agg #[.int .i64 x, .int .i64 y], .agg #[.int .i64 e.k, .int .i64 e.n, .string e.name, .string e.what, .slice e.A e.args.length e.c], .agg #[.string v.name, .int .i64 v.ty.k, .int .i64 v.ty.lo, .int .i64 v.ty.hi, .string v.ty.name, .int .i64 v.init, .int .i64 v.dir, .int .i64 v.slot]] w fun z w' => z = .returned (.tuple #[.agg #[.int .i64 t.k, .int .i64 t.lo, .int .i64 t.hi, .string t.name], .int .i64 c]) ∧ Below w.heap.size w w' := by
 have HU := Aid.hid hu; have HX := Aid.hid hX; have HE := Aid.hid he; have HR := Aid.hid hr
 have k5 : (e.k == 5) = true := by simp [hk]
 obtain ⟨k6, k10, k11, k12, -⟩ : nes e.k [6, 10, 11, 12] := by simp [nes, hk]
 have HKK := Aid.hid hk
 obtain ⟨W, hW, Nu, Np, Ne, Nv, Nz, K0⟩ := newh5 w [.slice a u.length cap] [.int .i64 x, .int .i64 y] [.int .i64 e.k, .int .i64 e.n, .string e.name, .string e.what, .slice e.A e.args.length e.c] [.string v.name, .int .i64 v.ty.k, .int .i64 v.ty.lo, .int .i64 v.ty.hi, .string v.ty.name, .int .i64 v.init, .int .i64 v.dir, .int .i64 v.slot] [.int .i64 0, .int .i64 0, .int .i64 0, .string ⟨#[]⟩] 24 26 29 74 36
 clear hu hX he hr hk
 obtain ⟨xe0, le⟩ := xc1 Ne
 have xv1 := Nv.out.cell 1 _ rfl
 have xv2 := Nv.out.cell 2 _ rfl
 have xv3 := Nv.out.cell 3 _ rfl
 have xv4 := Nv.out.cell 4 _ rfl
 have lv := Nv.out.lt
 go_enter Try.func36, Try.ntmps36
 try simp only [List.append_eq, List.cons_append, List.nil_append]
 have hv : v.ty.k = 1 ∨ v.ty.k = 3 ∨ v.ty.k = 2 ∨ v.ty.k = 5 ∨ (v.ty.k ≠ 1 ∧ v.ty.k ≠ 3 ∧ v.ty.k ≠ 2 ∧ v.ty.k ≠ 5) := by omega
 rcases hv with hv | hv | hv | hv | ⟨h1, h3, h2, h5⟩
 ·
  have f1 : (v.ty.k == 1) = true := by simp [hv]
  have f3 : (v.ty.k == 3) = false := by simp [hv]
  have f2 : (v.ty.k == 2) = false := by simp [hv]
  have f5 : (v.ty.k == 5) = false := by simp [hv]
  have HV := Aid.hid hv
  clear hv
  obtain ⟨rfl, rfl⟩ : Ty.of 1 = t ∧ 0 = c := by have h := HR.out; rw [HKK.out] at h; simp [Rf.named, HV.out] at h; exact h
  go_wp2_with (refine stT Nz rfl rfl rfl rfl rfl rfl (by simp [Value.oneCell']) ?_)
  refine rtT Nz rfl rfl rfl rfl rfl ⟨rfl, row_below (K0.out) (by omega) _⟩
 ·
  have f1 : (v.ty.k == 1) = false := by simp [hv]
  have f3 : (v.ty.k == 3) = true := by simp [hv]
  have f2 : (v.ty.k == 2) = false := by simp [hv]
  have f5 : (v.ty.k == 5) = false := by simp [hv]
  have HV := Aid.hid hv
  clear hv
  obtain ⟨rfl, rfl⟩ : Ty.of 1 = t ∧ 0 = c := by have h := HR.out; rw [HKK.out] at h; simp [Rf.named, HV.out] at h; exact h
  go_wp2_with (refine stT Nz rfl rfl rfl rfl rfl rfl (by simp [Value.oneCell']) ?_)
  refine rtT Nz rfl rfl rfl rfl rfl ⟨rfl, row_below (K0.out) (by omega) _⟩
 ·
  have f1 : (v.ty.k == 1) = false := by simp [hv]
  have f3 : (v.ty.k == 3) = false := by simp [hv]
  have f2 : (v.ty.k == 2) = true := by simp [hv]
  have f5 : (v.ty.k == 5) = false := by simp [hv]
  have HV := Aid.hid hv
  clear hv
  obtain ⟨rfl, rfl⟩ : Ty.of 2 = t ∧ 0 = c := by have h := HR.out; rw [HKK.out] at h; simp [Rf.named, HV.out] at h; exact h
  go_wp2_with (refine stT Nz rfl rfl rfl rfl rfl rfl (by simp [Value.oneCell']) ?_)
  refine rtT Nz rfl rfl rfl rfl rfl ⟨rfl, row_below (K0.out) (by omega) _⟩
 ·
  have f1 : (v.ty.k == 1) = false := by simp [hv]
  have f3 : (v.ty.k == 3) = false := by simp [hv]
  have f2 : (v.ty.k == 2) = false := by simp [hv]
  have f5 : (v.ty.k == 5) = true := by simp [hv]
  have HV := Aid.hid hv
  clear hv
  obtain ⟨rfl, rfl⟩ : v.ty = t ∧ 0 = c := by have h := HR.out; rw [HKK.out] at h; simp [Rf.named, HV.out] at h; exact h
  go_wp2_with (refine stT Nz rfl rfl rfl rfl rfl rfl (by simp [Value.oneCell']) ?_)
  refine rtT Nz rfl rfl rfl rfl rfl ⟨rfl, row_below (K0.out) (by omega) _⟩
 ·
  have f1 : (v.ty.k == 1) = false := by simpa using h1
  have f3 : (v.ty.k == 3) = false := by simpa using h3
  have f2 : (v.ty.k == 2) = false := by simpa using h2
  have f5 : (v.ty.k == 5) = false := by simpa using h5
  have HV := Aid.hid (show ¬(v.ty.k = 1 ∨ v.ty.k = 3) ∧ v.ty.k ≠ 2 ∧ v.ty.k ≠ 5 from ⟨by omega, h2, h5⟩)
  obtain ⟨rfl, rfl⟩ : Ty.none_ = t ∧ 14 = c := by have h := HR.out; rw [HKK.out] at h; simp only [Rf.named, if_neg HV.out.1, if_neg HV.out.2.1, if_neg HV.out.2.2, if_true] at h; simpa using h
  clear h1 h2 h3 h5
  go_wp2_with (refine stT Nz rfl rfl rfl rfl rfl rfl (by simp [Value.oneCell']) ?_)
  refine rtT Nz rfl rfl rfl rfl rfl ⟨rfl, row_below (K0.out) (by omega) _⟩
set_option maxRecDepth 100000 in
set_option maxHeartbeats 4000000 in
theorem rnamed_10 (f : Nat) (u : List Dk) (a : Option Addr) (B cap : Nat) (x y : Int) (p : Pl) (e : Ex) (v : Vd) (t : Ty) (c : Int) (w : World) (hr : Rf.named e.k v (Ty.hd (e.args.map (Rf.expr p))) = (t, c)) (hp : Pl.at u x y = some p) (hl : ULim u) (hX : ∀ q ∈ e.args, RExOK f u a B cap x y p q) (hu : UnitAt w B a u) (hB : B ≤ w.heap.size) (he : ExsAt (f + 1) w B e.A e.args) (hk : e.k = 10) :
  Calls Try.prog 36 #[.agg #[.slice a u.length cap], .agg #[.int .i64 x, .int .i64 y], .agg #[.int .i64 e.k, .int .i64 e.n, .string e.name, .string e.what, .slice e.A e.args.length e.c], .agg #[.string v.name, .int .i64 v.ty.k, .int .i64 v.ty.lo, .int .i64 v.ty.hi, .string v.ty.name, .int .i64 v.init, .int .i64 v.dir, .int .i64 v.slot]] w fun z w' => z = .returned (.tuple #[.agg #[.int .i64 t.k, .int .i64 t.lo, .int .i64 t.hi, .string t.name], .int .i64 c]) ∧ Below w.heap.size w w' := by
 have HU := Aid.hid hu; have HX := Aid.hid hX; have HE := Aid.hid he; have HR := Aid.hid hr
 have k5 : (e.k == 5) = false := by simp [hk]
 have k6 : (e.k == 6) = false := by simp [hk]
 have k10 : (e.k == 10) = true := by simp [hk]
 have k11 : (e.k == 11) = false := by simp [hk]
 have k12 : (e.k == 12) = false := by simp [hk]
 have HKK := Aid.hid hk
 obtain ⟨W, hW, Nu, Np, Ne, Nv, Nz, K0⟩ := newh5 w [.slice a u.length cap] [.int .i64 x, .int .i64 y] [.int .i64 e.k, .int .i64 e.n, .string e.name, .string e.what, .slice e.A e.args.length e.c] [.string v.name, .int .i64 v.ty.k, .int .i64 v.ty.lo, .int .i64 v.ty.hi, .string v.ty.name, .int .i64 v.init, .int .i64 v.dir, .int .i64 v.slot] [.int .i64 0, .int .i64 0, .int .i64 0, .string ⟨#[]⟩] 24 26 29 74 36
 clear hu hX he hr hk
 obtain ⟨xe0, le⟩ := xc1 Ne
 have xv1 := Nv.out.cell 1 _ rfl
 have xv4 := Nv.out.cell 4 _ rfl
 have lv := Nv.out.lt
 go_enter Try.func36, Try.ntmps36
 try simp only [List.append_eq, List.cons_append, List.nil_append]
 by_cases hv : v.ty.k = 6
 ·
  have f1 : (v.ty.k == 6) = true := by simp [hv]
  have HV := Aid.hid hv
  clear hv
  obtain ⟨rfl, rfl⟩ : ⟨5, 0, 0, v.ty.name⟩ = t ∧ 0 = c := by have h := HR.out; rw [HKK.out] at h; simp [Rf.named, HV.out] at h; exact h
  go_wp2_with (refine stT Nz rfl rfl rfl rfl rfl rfl (by simp [Value.oneCell']) ?_)
  refine rtT Nz rfl rfl rfl rfl rfl ⟨rfl, row_below (K0.out) (by omega) _⟩
 ·
  have f1 : (v.ty.k == 6) = false := by simpa using hv
  have HV := Aid.hid hv
  clear hv
  obtain ⟨rfl, rfl⟩ : Ty.none_ = t ∧ 14 = c := by have h := HR.out; rw [HKK.out] at h; simp [Rf.named, HV.out] at h; exact h
  go_wp2_with (refine stT Nz rfl rfl rfl rfl rfl rfl (by simp [Value.oneCell']) ?_)
  refine rtT Nz rfl rfl rfl rfl rfl ⟨rfl, row_below (K0.out) (by omega) _⟩
set_option maxRecDepth 100000 in
set_option maxHeartbeats 4000000 in
theorem rnamed_11 (f : Nat) (u : List Dk) (a : Option Addr) (B cap : Nat) (x y : Int) (p : Pl) (e : Ex) (v : Vd) (t : Ty) (c : Int) (w : World) (hr : Rf.named e.k v (Ty.hd (e.args.map (Rf.expr p))) = (t, c)) (hp : Pl.at u x y = some p) (hl : ULim u) (hX : ∀ q ∈ e.args, RExOK f u a B cap x y p q) (hu : UnitAt w B a u) (hB : B ≤ w.heap.size) (he : ExsAt (f + 1) w B e.A e.args) (hk : e.k = 11) :
  Calls Try.prog 36 #[.agg #[.slice a u.length cap], .agg #[.int .i64 x, .int .i64 y], .agg #[.int .i64 e.k, .int .i64 e.n, .string e.name, .string e.what, .slice e.A e.args.length e.c], .agg #[.string v.name, .int .i64 v.ty.k, .int .i64 v.ty.lo, .int .i64 v.ty.hi, .string v.ty.name, .int .i64 v.init, .int .i64 v.dir, .int .i64 v.slot]] w fun z w' => z = .returned (.tuple #[.agg #[.int .i64 t.k, .int .i64 t.lo, .int .i64 t.hi, .string t.name], .int .i64 c]) ∧ Below w.heap.size w w' := by
 have HU := Aid.hid hu; have HX := Aid.hid hX; have HE := Aid.hid he; have HR := Aid.hid hr
 obtain ⟨k5, k6, k10, -⟩ : nes e.k [5, 6, 10] := by simp [nes, hk]
 have k11 : (e.k == 11) = true := by simp [hk]
 have k12 : (e.k == 12) = false := by simp [hk]
 have HKK := Aid.hid hk
 obtain ⟨W, hW, Nu, Np, Ne, Nv, Nz, K0⟩ := newh5 w [.slice a u.length cap] [.int .i64 x, .int .i64 y] [.int .i64 e.k, .int .i64 e.n, .string e.name, .string e.what, .slice e.A e.args.length e.c] [.string v.name, .int .i64 v.ty.k, .int .i64 v.ty.lo, .int .i64 v.ty.hi, .string v.ty.name, .int .i64 v.init, .int .i64 v.dir, .int .i64 v.slot] [.int .i64 0, .int .i64 0, .int .i64 0, .string ⟨#[]⟩] 24 26 29 74 36
 clear hu hX he hr hk
 obtain ⟨xe0, le⟩ := xc1 Ne
 have xv1 := Nv.out.cell 1 _ rfl
 have lv := Nv.out.lt
 go_enter Try.func36, Try.ntmps36
 try simp only [List.append_eq, List.cons_append, List.nil_append]
 by_cases hv : v.ty.k = 7
 ·
  have f1 : (v.ty.k == 7) = true := by simp [hv]
  have HV := Aid.hid hv
  clear hv
  obtain ⟨rfl, rfl⟩ : Ty.of 2 = t ∧ 0 = c := by have h := HR.out; rw [HKK.out] at h; simp [Rf.named, HV.out] at h; exact h
  go_wp2_with (refine stT Nz rfl rfl rfl rfl rfl rfl (by simp [Value.oneCell']) ?_)
  refine rtT Nz rfl rfl rfl rfl rfl ⟨rfl, row_below (K0.out) (by omega) _⟩
 ·
  have f1 : (v.ty.k == 7) = false := by simpa using hv
  have HV := Aid.hid hv
  clear hv
  obtain ⟨rfl, rfl⟩ : Ty.none_ = t ∧ 14 = c := by have h := HR.out; rw [HKK.out] at h; simp [Rf.named, HV.out] at h; exact h
  go_wp2_with (refine stT Nz rfl rfl rfl rfl rfl rfl (by simp [Value.oneCell']) ?_)
  refine rtT Nz rfl rfl rfl rfl rfl ⟨rfl, row_below (K0.out) (by omega) _⟩
set_option maxRecDepth 100000 in
set_option maxHeartbeats 4000000 in
theorem rnamed_12 (f : Nat) (u : List Dk) (a : Option Addr) (B cap : Nat) (x y : Int) (p : Pl) (e : Ex) (v : Vd) (t : Ty) (c : Int) (w : World) (hr : Rf.named e.k v (Ty.hd (e.args.map (Rf.expr p))) = (t, c)) (hp : Pl.at u x y = some p) (hl : ULim u) (hX : ∀ q ∈ e.args, RExOK f u a B cap x y p q) (hu : UnitAt w B a u) (hB : B ≤ w.heap.size) (he : ExsAt (f + 1) w B e.A e.args) (hk : e.k = 12) :
  Calls Try.prog 36 #[.agg #[.slice a u.length cap], .agg #[.int .i64 x, .int .i64 y], .agg #[.int .i64 e.k, .int .i64 e.n, .string e.name, .string e.what, .slice e.A e.args.length e.c], .agg #[.string v.name, .int .i64 v.ty.k, .int .i64 v.ty.lo, .int .i64 v.ty.hi, .string v.ty.name, .int .i64 v.init, .int .i64 v.dir, .int .i64 v.slot]] w fun z w' => z = .returned (.tuple #[.agg #[.int .i64 t.k, .int .i64 t.lo, .int .i64 t.hi, .string t.name], .int .i64 c]) ∧ Below w.heap.size w w' := by
 have HU := Aid.hid hu; have HX := Aid.hid hX; have HE := Aid.hid he; have HR := Aid.hid hr
 obtain ⟨k5, k6, k10, k11, -⟩ : nes e.k [5, 6, 10, 11] := by simp [nes, hk]
 have k12 : (e.k == 12) = true := by simp [hk]
 have HKK := Aid.hid hk
 obtain ⟨W, hW, Nu, Np, Ne, Nv, Nz, K0⟩ := newh5 w [.slice a u.length cap] [.int .i64 x, .int .i64 y] [.int .i64 e.k, .int .i64 e.n, .string e.name, .string e.what, .slice e.A e.args.length e.c] [.string v.name, .int .i64 v.ty.k, .int .i64 v.ty.lo, .int .i64 v.ty.hi, .string v.ty.name, .int .i64 v.init, .int .i64 v.dir, .int .i64 v.slot] [.int .i64 0, .int .i64 0, .int .i64 0, .string ⟨#[]⟩] 24 26 29 74 36
 clear hu hX he hr hk
 obtain ⟨xe0, le⟩ := xc1 Ne
 have xv1 := Nv.out.cell 1 _ rfl
 have lv := Nv.out.lt
 go_enter Try.func36, Try.ntmps36
 try simp only [List.append_eq, List.cons_append, List.nil_append]
 by_cases hv : v.ty.k = 7
 ·
  have f1 : (v.ty.k == 7) = true := by simp [hv]
  have HV := Aid.hid hv
  clear hv
  obtain ⟨rfl, rfl⟩ : Ty.of 1 = t ∧ 0 = c := by have h := HR.out; rw [HKK.out] at h; simp [Rf.named, HV.out] at h; exact h
  go_wp2_with (refine stT Nz rfl rfl rfl rfl rfl rfl (by simp [Value.oneCell']) ?_)
  refine rtT Nz rfl rfl rfl rfl rfl ⟨rfl, row_below (K0.out) (by omega) _⟩
 ·
  have f1 : (v.ty.k == 7) = false := by simpa using hv
  have HV := Aid.hid hv
  clear hv
  obtain ⟨rfl, rfl⟩ : Ty.none_ = t ∧ 14 = c := by have h := HR.out; rw [HKK.out] at h; simp [Rf.named, HV.out] at h; exact h
  go_wp2_with (refine stT Nz rfl rfl rfl rfl rfl rfl (by simp [Value.oneCell']) ?_)
  refine rtT Nz rfl rfl rfl rfl rfl ⟨rfl, row_below (K0.out) (by omega) _⟩
set_option maxRecDepth 100000 in
set_option maxHeartbeats 4000000 in
theorem rnamed_6 (f : Nat) (u : List Dk) (a : Option Addr) (B cap : Nat) (x y : Int) (p : Pl) (e : Ex) (v : Vd) (t : Ty) (c : Int) (w : World) (hr : Rf.named e.k v (Ty.hd (e.args.map (Rf.expr p))) = (t, c)) (hp : Pl.at u x y = some p) (hl : ULim u) (hX : ∀ q ∈ e.args, RExOK f u a B cap x y p q) (hu : UnitAt w B a u) (hB : B ≤ w.heap.size) (he : ExsAt (f + 1) w B e.A e.args) (hk : e.k = 6) (q : Ex) (hq : e.args = [q]) :
  Calls Try.prog 36 #[.agg #[.slice a u.length cap], .agg #[.int .i64 x, .int .i64 y], .agg #[.int .i64 e.k, .int .i64 e.n, .string e.name, .string e.what, .slice e.A e.args.length e.c], .agg #[.string v.name, .int .i64 v.ty.k, .int .i64 v.ty.lo, .int .i64 v.ty.hi, .string v.ty.name, .int .i64 v.init, .int .i64 v.dir, .int .i64 v.slot]] w fun z w' => z = .returned (.tuple #[.agg #[.int .i64 t.k, .int .i64 t.lo, .int .i64 t.hi, .string t.name], .int .i64 c]) ∧ Below w.heap.size w w' := by
 have HU := Aid.hid hu; have HX := Aid.hid hX; have HE := Aid.hid he; have HR := Aid.hid hr
 have k5 : (e.k == 5) = false := by simp [hk]
 have k6 : (e.k == 6) = true := by simp [hk]
 obtain ⟨k10, k11, k12, -⟩ : nes e.k [10, 11, 12] := by simp [nes, hk]
 have HKK := Aid.hid hk
 have hl1 : e.args.length = 1 := by rw [hq]; rfl
 have HQ := Aid.hid hq
 obtain ⟨W, hW, Nu, Np, Ne, Nv, Nz, K0⟩ := newh5 w [.slice a u.length cap] [.int .i64 x, .int .i64 y] [.int .i64 e.k, .int .i64 e.n, .string e.name, .string e.what, .slice e.A e.args.length e.c] [.string v.name, .int .i64 v.ty.k, .int .i64 v.ty.lo, .int .i64 v.ty.hi, .string v.ty.name, .int .i64 v.init, .int .i64 v.dir, .int .i64 v.slot] [.int .i64 0, .int .i64 0, .int .i64 0, .string ⟨#[]⟩] 24 26 29 74 36
 clear hu hX he hr hk hq
 obtain ⟨xu0, lu⟩ := xc1 Nu
 obtain ⟨xp0, xp1, lp⟩ := xc2 Np
 have xe0 := Ne.out.cell 0 _ rfl
 have xe4 := Ne.out.cell 4 _ rfl
 have le := Ne.out.lt
 have xv1 := Nv.out.cell 1 _ rfl
 have lv := Nv.out.lt
 go_enter Try.func36, Try.ntmps36
 try simp only [List.append_eq, List.cons_append, List.nil_append]
 by_cases hv : v.ty.k = 4
 ·
  have f4 : (v.ty.k != 4) = false := by simp [hv]
  have HV := Aid.hid hv
  clear hv
  obtain ⟨⟨t1, d1⟩, he1⟩ : ∃ r, Rf.expr p q = r := ⟨_, rfl⟩
  have HE1 := Aid.hid he1
  have HX1 := Aid.hid (HX.out q (by rw [HQ.out]; simp))
  clear he1
  obtain ⟨eb, off, hA, hebB, hc, hs⟩ := Ex.at1 (HE.out.below K0.out hB) (i := 0) (e := q) (by rw [HQ.out]; rfl)
  have c0 := hc 0 _ rfl
  have c1 := hc 1 _ rfl
  have c2 := hc 2 _ rfl
  have c3 := hc 3 _ rfl
  have c4 := hc 4 _ rfl
  simp only [Nat.add_zero, Nat.zero_mul] at c0 c1 c2 c3 c4
  have leb : eb < W.heap.size := Nat.lt_of_lt_of_le hebB (Nat.le_trans hB (K0.out).size)
  have HS := Aid.hid hs
  have HA := Aid.hid hA
  rw [hA, hl1] at xe4
  rw [hA, hl1] at hW ⊢
  clear hc hs hA
  have HR2 : Hid ((if d1 ≠ 0 then (Ty.none_, d1) else if t1.k = 1 then (Ty.of 1, 0) else (Ty.none_, 14)) = (t, c)) := Aid.hid (by have h := HR.out; rw [HKK.out, HQ.out] at h; simpa [Rf.named, HV.out, HE1.out, Ty.hd] using h)
  go_wp2_with fail
  (try clear hW)
  refine wp_cut (fun a0 e a' w' => e = .normal ∧ Aid.Kept (∃ (g : Nat) (v38 v39 v40 v41 v42 v43 v44 v37 v45 v46 : Value), a' = putL a0 [(38, v38), (39, v39), (40, v40), (41, v41), (42, v42), (43, v43), (44, v44), (37, v37), (45, v45), (46, v46), (11, .pointer (some ⟨g, 0, none⟩)), (12, .int .i64 d1)] ∧ Aid.Has w' g [.int .i64 t1.k, .int .i64 t1.lo, .int .i64 t1.hi, .string t1.name] 36 ∧ W.heap.size ≤ g ∧ Below W.heap.size W w')) ?_ ?_
  ·
   have HZ := Aid.hid (fun (w' : World) (hSw : Below W.heap.size W w') => (⟨kc hSw xu0 lu, kc hSw xp0 lp, kc hSw xp1 lp, kc hSw xe0 le, kc hSw xe4 le, kc hSw xv1 lv, kc hSw c0 leb, kc hSw c1 leb, kc hSw c2 leb, kc hSw c3 leb, kc hSw c4 leb⟩ : _ ∧ _ ∧ _ ∧ _ ∧ _ ∧ _ ∧ _ ∧ _ ∧ _ ∧ _ ∧ _))
   have hb : Below W.heap.size W W.drew := (Below.refl _ _).drew
   refine Ord.wp_region_go (fun w' => Below W.heap.size W w') 12 [0, 1, 2, 3, 4, 5, 7, 8, 9] (by kernel_rfl) (by kernel_rfl) (fun _ _ _ _ _ h => by cases h.1) (hb) ?_
   clear hb
   have hb : Below W.heap.size W W.drew := (Below.refl _ _).drew
   generalize W.drew = wd0 at *
   apply Ord.go_light (i := 0) (by kernel_rfl)
   next => (simp only [la0, la1, la2]; rfl)
   next => rfl
   next => (intro w' hSw; have z := HZ.out w' hSw; clear hSw; go_simp; first | done | with_reducible rfl)
   simp only [Act.put, la3, la4, la5]
   apply Ord.go_light (i := 1) (by kernel_rfl)
   next => (simp only [la0, la1, la2]; rfl)
   next => rfl
   next => (intro w' hSw; have z := HZ.out w' hSw; clear hSw; go_simp; first | done | with_reducible rfl)
   simp only [Act.put, la3, la4, la5]
   apply Ord.go_light (i := 2) (by kernel_rfl)
   next => (simp only [la0, la1, la2]; rfl)
   next => rfl
   next => (intro w' hSw; have z := HZ.out w' hSw; clear hSw; go_simp; first | done | with_reducible rfl)
   simp only [Act.put, la3, la4, la5]
   apply Ord.go_light (i := 3) (by kernel_rfl)
   next => (simp only [la0, la1, la2]; rfl)
   next => rfl
   next => (intro w' hSw; have z := HZ.out w' hSw; clear hSw; go_simp; first | done | with_reducible rfl)
   simp only [Act.put, la3, la4, la5]
   apply Ord.go_light (i := 4) (by kernel_rfl)
   next => (simp only [la0, la1, la2]; rfl)
   next => rfl
   next => (intro w' hSw; have z := HZ.out w' hSw; clear hSw; go_simp; first | done | with_reducible rfl)
   simp only [Act.put, la3, la4, la5]
   apply Ord.go_light (i := 5) (by kernel_rfl)
   next => (simp only [la0, la1, la2]; rfl)
   next => rfl
   next => (intro w' hSw; have z := HZ.out w' hSw; clear hSw; go_simp; first | done | with_reducible rfl)
   simp only [Act.put, la3, la4, la5]
   refine Ord.go_two (i := 6) (j := 10) (by kernel_rfl) (by kernel_rfl) ?_ ?_
   ·
    apply Ord.go_done1
    next => (simp only [la0, la1, la2]; rfl)
    next => rfl
    intro K hK
    go_wp2_with fail
    refine (HX1.out _ t1 d1 HE1.out (HU.out.below (((K0.out).trans (hb.mono (K0.out).size))) hB) (Nat.le_trans hB (((K0.out).trans (hb.mono (K0.out).size))).size) (HS.out.below (hb.mono (Nat.le_trans hB (K0.out).size)) (Nat.le_refl _))).mono ?_; rintro _ vc ⟨rfl, hb'⟩; dsimp only
    refine hK.out _ _ (hb.trans (hb'.mono hb.size)) (fun hHeld => ?_)
    clear hb hb'
    have hb := hHeld
    clear hK K
    try simp only [Act.put, la3, la4, la5]
    apply Ord.go_light (i := 7) (by kernel_rfl)
    next => (simp only [la0, la1, la2]; rfl)
    next => rfl
    next => (intro w' hSw; have z := HZ.out w' hSw; clear hSw; go_simp; first | done | with_reducible rfl)
    simp only [Act.put, la3, la4, la5]
    apply Ord.go_light (i := 8) (by kernel_rfl)
    next => (simp only [la0, la1, la2]; rfl)
    next => rfl
    next => (intro w' hSw; have z := HZ.out w' hSw; clear hSw; go_simp; first | done | with_reducible rfl)
    simp only [Act.put, la3, la4, la5]
    apply Ord.go_light (i := 9) (by kernel_rfl)
    next => (simp only [la0, la1, la2]; rfl)
    next => rfl
    next => (intro w' hSw; have z := HZ.out w' hSw; clear hSw; go_simp; first | done | with_reducible rfl)
    simp only [Act.put, la3, la4, la5]
    refine Ord.go_one (i := 10) (by kernel_rfl) (by kernel_rfl) ?_
    apply Ord.go_done1
    next => (simp only [la0, la1, la2]; rfl)
    next => rfl
    intro K hK
    go_wp2_with fail
    have hg := Aid.Has.new vc [.int .i64 0, .int .i64 0, .int .i64 0, .string ⟨#[]⟩] 36
    have hgs := hb.size
    refine hK.out _ _ (hb.alloc hb.size _) (fun hHeld => ?_)
    clear hb
    have hb := hHeld
    generalize hX : vc.alloc _ = wx at *
    clear hX
    clear hK K
    try simp only [Act.put, la3, la4, la5]
    refine Ord.go_one (i := 11) (by kernel_rfl) (by kernel_rfl) ?_
    apply Ord.go_done1
    next => (simp only [la0, la1, la2]; rfl)
    next => rfl
    intro K hK
    refine wp_store_row 36 _ _ rfl (vc.heap.size) _ rfl rfl 36 _ hg (by kernel_rfl) rfl (by simp [Value.oneCell']) ?_
    refine hK.out _ _ (row_below hb hgs _) (fun hHeld => ?_)
    have hg := row_has (ys := [.int .i64 t1.k, .int .i64 t1.lo, .int .i64 t1.hi, .string t1.name]) hg
    clear hb
    have hb := hHeld
    generalize hX : World.setRow _ _ _ = ws at *
    clear hX
    clear hK K
    refine Ord.go_tail ?_; simp only [List.drop_succ_cons, List.drop_zero]
    go_wp2_with fail
    (try refine ⟨rfl, ?_⟩)
    unfold Aid.Kept
    refine ⟨vc.heap.size, ?_⟩
    all_goals (repeat' apply And.intro)
    all_goals first | exact hg | exact hgs | exact hb | (simp only [putL, Act.put, la3, la4, la5]; exact ⟨_, _, _, _, _, _, _, _, _, _, rfl⟩)
   ·
    apply Ord.go_done1
    next => (simp only [la0, la1, la2]; rfl)
    next => rfl
    intro K hK
    go_wp2_with fail
    have hg := Aid.Has.new wd0 [.int .i64 0, .int .i64 0, .int .i64 0, .string ⟨#[]⟩] 36
    have hgs := hb.size
    refine hK.out _ _ (hb.alloc hb.size _) (fun hHeld => ?_)
    clear hb
    have hb := hHeld
    generalize hX : wd0.alloc _ = wx at *
    clear hX
    clear hK K
    try simp only [Act.put, la3, la4, la5]
    refine Ord.go_one (i := 6) (by kernel_rfl) (by kernel_rfl) ?_
    apply Ord.go_done1
    next => (simp only [la0, la1, la2]; rfl)
    next => rfl
    intro K hK
    go_wp2_with fail
    refine (HX1.out _ t1 d1 HE1.out (HU.out.below (((K0.out).trans (hb.mono (K0.out).size))) hB) (Nat.le_trans hB (((K0.out).trans (hb.mono (K0.out).size))).size) (HS.out.below (hb.mono (Nat.le_trans hB (K0.out).size)) (Nat.le_refl _))).mono ?_; rintro _ vc ⟨rfl, hb'⟩; dsimp only
    refine hK.out _ _ (hb.trans (hb'.mono hb.size)) (fun hHeld => ?_)
    have hg := hg.below hb' hg.lt
    clear hb hb'
    have hb := hHeld
    clear hK K
    try simp only [Act.put, la3, la4, la5]
    apply Ord.go_light (i := 7) (by kernel_rfl)
    next => (simp only [la0, la1, la2]; rfl)
    next => rfl
    next => (intro w' hSw; have z := HZ.out w' hSw; clear hSw; go_simp; first | done | with_reducible rfl)
    simp only [Act.put, la3, la4, la5]
    apply Ord.go_light (i := 8) (by kernel_rfl)
    next => (simp only [la0, la1, la2]; rfl)
    next => rfl
    next => (intro w' hSw; have z := HZ.out w' hSw; clear hSw; go_simp; first | done | with_reducible rfl)
    simp only [Act.put, la3, la4, la5]
    apply Ord.go_light (i := 9) (by kernel_rfl)
    next => (simp only [la0, la1, la2]; rfl)
    next => rfl
    next => (intro w' hSw; have z := HZ.out w' hSw; clear hSw; go_simp; first | done | with_reducible rfl)
    simp only [Act.put, la3, la4, la5]
    refine Ord.go_one (i := 11) (by kernel_rfl) (by kernel_rfl) ?_
    apply Ord.go_done1
    next => (simp only [la0, la1, la2]; rfl)
    next => rfl
    intro K hK
    refine wp_store_row 36 _ _ rfl (wd0.heap.size) _ rfl rfl 36 _ hg (by kernel_rfl) rfl (by simp [Value.oneCell']) ?_
    refine hK.out _ _ (row_below hb hgs _) (fun hHeld => ?_)
    have hg := row_has (ys := [.int .i64 t1.k, .int .i64 t1.lo, .int .i64 t1.hi, .string t1.name]) hg
    clear hb
    have hb := hHeld
    generalize hX : World.setRow _ _ _ = ws at *
    clear hX
    clear hK K
    refine Ord.go_tail ?_; simp only [List.drop_succ_cons, List.drop_zero]
    go_wp2_with fail
    (try refine ⟨rfl, ?_⟩)
    unfold Aid.Kept
    refine ⟨wd0.heap.size, ?_⟩
    all_goals (repeat' apply And.intro)
    all_goals first | exact hg | exact hgs | exact hb | (simp only [putL, Act.put, la3, la4, la5]; exact ⟨_, _, _, _, _, _, _, _, _, _, rfl⟩)
  rintro e' a' w1 ⟨rfl, g1, v38, v39, v40, v41, v42, v43, v44, v37, v45, v46, rfl, hg1, hgl1, hb1⟩
  simp only [putL, Act.put, la3, la4, la5]
  have Nnew1 := Aid.hid hg1
  clear hg1
  have hbq1 := hb1
  have Kx1 := kb K0 hb1
  have Nu_1 := nb hb1 Nu
  have Np_1 := nb hb1 Np
  have Ne_1 := nb hb1 Ne
  have Nv_1 := nb hb1 Nv
  have Nz_1 := nb hb1 Nz
  clear xu0 lu xp0 xp1 lp xe0 xe4 le xv1 lv c0 c1 c2 c3 c4 leb
  clear hb1
  obtain ⟨xnew10, lnew1⟩ := xc1 Nnew1
  by_cases hd : d1 = 0
  ·
   subst hd
   by_cases h1 : t1.k = 1
   ·
    have f1 : (t1.k == 1) = true := by simp [h1]
    obtain ⟨rfl, rfl⟩ : Ty.of 1 = t ∧ 0 = c := by have h := HR2.out; simpa [h1] using h
    clear h1
    go_wp2_with (refine stT Nz_1 rfl rfl rfl rfl rfl rfl (by simp [Value.oneCell']) ?_)
    refine rtT Nz_1 rfl rfl rfl rfl rfl ⟨rfl, row_below (Kx1.out) (by omega) _⟩
   ·
    have f1 : (t1.k == 1) = false := by simpa using h1
    obtain ⟨rfl, rfl⟩ : Ty.none_ = t ∧ 14 = c := by have h := HR2.out; simpa [h1] using h
    clear h1
    go_wp2_with (refine stT Nz_1 rfl rfl rfl rfl rfl rfl (by simp [Value.oneCell']) ?_)
    refine rtT Nz_1 rfl rfl rfl rfl rfl ⟨rfl, row_below (Kx1.out) (by omega) _⟩
  ·
   have f1 : (d1 != 0) = true := by simpa using hd
   obtain ⟨rfl, rfl⟩ : Ty.none_ = t ∧ d1 = c := by have h := HR2.out; simpa [hd] using h
   go_wp2_with (refine stT Nz_1 rfl rfl rfl rfl rfl rfl (by simp [Value.oneCell']) ?_)
   refine rtT Nz_1 rfl rfl rfl rfl rfl ⟨rfl, row_below (Kx1.out) (by omega) _⟩
 ·
  clear hl1
  have f4 : (v.ty.k != 4) = true := by simpa using hv
  have HV := Aid.hid hv
  clear hv
  obtain ⟨rfl, rfl⟩ : Ty.none_ = t ∧ 14 = c := by have h := HR.out; rw [HKK.out] at h; simp [Rf.named, HV.out] at h; exact h
  go_wp2_with (refine stT Nz rfl rfl rfl rfl rfl rfl (by simp [Value.oneCell']) ?_)
  refine rtT Nz rfl rfl rfl rfl rfl ⟨rfl, row_below (K0.out) (by omega) _⟩
end Go.Proofs.Ytmhdcehpddbjaaa
/- The document's Expr, as a walk, kind by kind. -/
namespace Go.Proofs.Ytmhdcehpddbjaaa
open Go.RowKit

set_option maxRecDepth 100000 in
set_option maxHeartbeats 4000000 in
theorem rexpr_bad (f : Nat) (u : List Dk) (a : Option Addr) (B cap : Nat) (x y : Int) (p : Pl) (e : Ex) (t : Ty) (c : Int) (w : World) (hr : Rf.expr p e = (t, c)) (hp : Pl.at u x y = some p) (hl : ULim u) (hX : ∀ q ∈ e.args, RExOK f u a B cap x y p q) (hu : UnitAt w B a u) (hB : B ≤ w.heap.size) (he : ExsAt (f + 1) w B e.A e.args) (hlim : e.args.length ≤ 1000000000) (hcap : e.args.length ≤ e.c) (hk13 : e.k ≠ 13) (hneed : Rf.need e.k = -1) :
  Calls Try.prog 14 #[.agg #[.slice a u.length cap], .agg #[.int .i64 x, .int .i64 y], .agg #[.int .i64 e.k, .int .i64 e.n, .string e.name, .string e.what, .slice e.A e.args.length e.c]] w fun z w' => z = .returned (.tuple #[.agg #[.int .i64 t.k, .int .i64 t.lo, .int .i64 t.hi, .string t.name], .int .i64 c]) ∧ Below w.heap.size w w' := by
 have HU := Aid.hid hu; have HUL := Aid.hid hl; have HPP := Aid.hid hp; have HX := Aid.hid hX; have HE := Aid.hid he; have HLM := Aid.hid hlim; have HCP := Aid.hid hcap; have HPU := Aid.hid (Pl.at_u hp); have HPL := Aid.hid (show Rf.place u x y = true by rw [Rf.place_at, hp]; rfl); have HR := Aid.hid (show Rf.exprG p e.k e.n e.name e.what (e.args.map (Rf.expr p)) = (t, c) by rw [← Rf.expr_eq]; exact hr)
 have k13 : (e.k == 13) = false := by simpa using hk13
 have HN := Aid.hid hneed; have HK13 := Aid.hid hk13
 clear hneed hk13
 obtain ⟨W, hW, Nu, Np, Ne, Nz, K0⟩ := newh4 w [.slice a u.length cap] [.int .i64 x, .int .i64 y] [.int .i64 e.k, .int .i64 e.n, .string e.name, .string e.what, .slice e.A e.args.length e.c] [.int .i64 0, .int .i64 0, .int .i64 0, .string ⟨#[]⟩] 24 26 29 36
 clear hu hl hp hX he hr hlim hcap
 obtain ⟨xu0, lu⟩ := xc1 Nu
 obtain ⟨xp0, xp1, lp⟩ := xc2 Np
 go_enter Try.func14, Try.ntmps14
 try simp only [List.append_eq, List.cons_append, List.nil_append]
 go_wp2_with fail
 (try clear hW)
 refine (rplace_is u a B cap x y true _ HPL.out (HU.out.below (K0.out) hB) (Nat.le_trans hB (K0.out).size)).mono ?_; rintro _ w1 ⟨rfl, hb1⟩
 have Kx1 := kb K0 hb1
 have Nu_1 := nb hb1 Nu
 have Np_1 := nb hb1 Np
 have Ne_1 := nb hb1 Ne
 have Nz_1 := nb hb1 Nz
 clear xu0 lu xp0 xp1 lp
 clear hb1
 obtain ⟨xu0, lu⟩ := xc1 Nu_1
 obtain ⟨xp0, xp1, lp⟩ := xc2 Np_1
 obtain ⟨xe0, xe1, xe2, xe3, xe4, le⟩ := xc5 Ne_1
 go_wp2_with fail
 refine (rneed_is e.k (-1) _ HN.out).mono ?_; rintro _ w2 ⟨rfl, hb2⟩
 have Kx2 := kb Kx1 hb2
 have Nu_2 := nb hb2 Nu_1
 have Np_2 := nb hb2 Np_1
 have Ne_2 := nb hb2 Ne_1
 have Nz_2 := nb hb2 Nz_1
 clear xu0 lu xp0 xp1 lp xe0 xe1 xe2 xe3 xe4 le
 clear hb2
 obtain ⟨xe0, xe1, xe2, xe3, xe4, le⟩ := xc5 Ne_2
 obtain ⟨rfl, rfl⟩ : Ty.none_ = t ∧ 14 = c := by have h := HR.out; unfold Rf.exprG at h; rw [if_neg HK13.out, HN.out, if_pos (.inl (by decide))] at h; simpa using h
 go_wp2_with (refine stT Nz_2 rfl rfl rfl rfl rfl rfl (by simp [Value.oneCell']) ?_)
 refine rtT Nz_2 rfl rfl rfl rfl rfl ⟨rfl, row_below (Kx2.out) (by omega) _⟩
set_option maxRecDepth 100000 in
set_option maxHeartbeats 4000000 in
theorem rexpr_len (f : Nat) (u : List Dk) (a : Option Addr) (B cap : Nat) (x y : Int) (p : Pl) (e : Ex) (t : Ty) (c : Int) (w : World) (hr : Rf.expr p e = (t, c)) (hp : Pl.at u x y = some p) (hl : ULim u) (hX : ∀ q ∈ e.args, RExOK f u a B cap x y p q) (hu : UnitAt w B a u) (hB : B ≤ w.heap.size) (he : ExsAt (f + 1) w B e.A e.args) (hlim : e.args.length ≤ 1000000000) (hcap : e.args.length ≤ e.c) (hk13 : e.k ≠ 13) (n : Int) (hn : 0 ≤ n) (hneed : Rf.need e.k = n) (hlen : (e.args.length : Int) ≠ n) :
  Calls Try.prog 14 #[.agg #[.slice a u.length cap], .agg #[.int .i64 x, .int .i64 y], .agg #[.int .i64 e.k, .int .i64 e.n, .string e.name, .string e.what, .slice e.A e.args.length e.c]] w fun z w' => z = .returned (.tuple #[.agg #[.int .i64 t.k, .int .i64 t.lo, .int .i64 t.hi, .string t.name], .int .i64 c]) ∧ Below w.heap.size w w' := by
 have HU := Aid.hid hu; have HUL := Aid.hid hl; have HPP := Aid.hid hp; have HX := Aid.hid hX; have HE := Aid.hid he; have HLM := Aid.hid hlim; have HCP := Aid.hid hcap; have HPU := Aid.hid (Pl.at_u hp); have HPL := Aid.hid (show Rf.place u x y = true by rw [Rf.place_at, hp]; rfl); have HR := Aid.hid (show Rf.exprG p e.k e.n e.name e.what (e.args.map (Rf.expr p)) = (t, c) by rw [← Rf.expr_eq]; exact hr)
 have k13 : (e.k == 13) = false := by simpa using hk13
 have HN := Aid.hid hneed; have HK13 := Aid.hid hk13; have HL := Aid.hid hlen
 clear hneed hk13 hlen
 obtain ⟨W, hW, Nu, Np, Ne, Nz, K0⟩ := newh4 w [.slice a u.length cap] [.int .i64 x, .int .i64 y] [.int .i64 e.k, .int .i64 e.n, .string e.name, .string e.what, .slice e.A e.args.length e.c] [.int .i64 0, .int .i64 0, .int .i64 0, .string ⟨#[]⟩] 24 26 29 36
 clear hu hl hp hX he hr hlim hcap
 obtain ⟨xu0, lu⟩ := xc1 Nu
 obtain ⟨xp0, xp1, lp⟩ := xc2 Np
 go_enter Try.func14, Try.ntmps14
 try simp only [List.append_eq, List.cons_append, List.nil_append]
 go_wp2_with fail
 (try clear hW)
 refine (rplace_is u a B cap x y true _ HPL.out (HU.out.below (K0.out) hB) (Nat.le_trans hB (K0.out).size)).mono ?_; rintro _ w1 ⟨rfl, hb1⟩
 have Kx1 := kb K0 hb1
 have Nu_1 := nb hb1 Nu
 have Np_1 := nb hb1 Np
 have Ne_1 := nb hb1 Ne
 have Nz_1 := nb hb1 Nz
 clear xu0 lu xp0 xp1 lp
 clear hb1
 obtain ⟨xu0, lu⟩ := xc1 Nu_1
 obtain ⟨xp0, xp1, lp⟩ := xc2 Np_1
 obtain ⟨xe0, xe1, xe2, xe3, xe4, le⟩ := xc5 Ne_1
 go_wp2_with fail
 refine (rneed_is e.k n _ HN.out).mono ?_; rintro _ w2 ⟨rfl, hb2⟩
 have Kx2 := kb Kx1 hb2
 have Nu_2 := nb hb2 Nu_1
 have Np_2 := nb hb2 Np_1
 have Ne_2 := nb hb2 Ne_1
 have Nz_2 := nb hb2 Nz_1
 clear xu0 lu xp0 xp1 lp xe0 xe1 xe2 xe3 xe4 le
 clear hb2
 obtain ⟨xe0, xe1, xe2, xe3, xe4, le⟩ := xc5 Ne_2
 have q1 : decide (n < 0) = false := by simp; omega
 have q2 : ((e.args.length : Int) != n) = true := by simpa using HL.out
 obtain ⟨rfl, rfl⟩ : Ty.none_ = t ∧ 14 = c := by have h := HR.out; unfold Rf.exprG at h; rw [if_neg HK13.out, HN.out, if_pos (.inr (by rw [List.length_map]; exact HL.out))] at h; simpa using h
 go_wp2_with (refine stT Nz_2 rfl rfl rfl rfl rfl rfl (by simp [Value.oneCell']) ?_)
 refine rtT Nz_2 rfl rfl rfl rfl rfl ⟨rfl, row_below (Kx2.out) (by omega) _⟩
set_option maxRecDepth 100000 in
set_option maxHeartbeats 4000000 in
theorem rexpr_13 (f : Nat) (u : List Dk) (a : Option Addr) (B cap : Nat) (x y : Int) (p : Pl) (e : Ex) (t : Ty) (c : Int) (w : World) (hr : Rf.expr p e = (t, c)) (hp : Pl.at u x y = some p) (hl : ULim u) (hX : ∀ q ∈ e.args, RExOK f u a B cap x y p q) (hu : UnitAt w B a u) (hB : B ≤ w.heap.size) (he : ExsAt (f + 1) w B e.A e.args) (hlim : e.args.length ≤ 1000000000) (hcap : e.args.length ≤ e.c) (hk : e.k = 13) :
  Calls Try.prog 14 #[.agg #[.slice a u.length cap], .agg #[.int .i64 x, .int .i64 y], .agg #[.int .i64 e.k, .int .i64 e.n, .string e.name, .string e.what, .slice e.A e.args.length e.c]] w fun z w' => z = .returned (.tuple #[.agg #[.int .i64 t.k, .int .i64 t.lo, .int .i64 t.hi, .string t.name], .int .i64 c]) ∧ Below w.heap.size w w' := by
 have HU := Aid.hid hu; have HUL := Aid.hid hl; have HPP := Aid.hid hp; have HX := Aid.hid hX; have HE := Aid.hid he; have HLM := Aid.hid hlim; have HCP := Aid.hid hcap; have HPU := Aid.hid (Pl.at_u hp); have HPL := Aid.hid (show Rf.place u x y = true by rw [Rf.place_at, hp]; rfl); have HR := Aid.hid (show Rf.exprG p e.k e.n e.name e.what (e.args.map (Rf.expr p)) = (t, c) by rw [← Rf.expr_eq]; exact hr)
 obtain ⟨k1, k2, k3, k4, k5, k6, k10, k11, k12, k14, k7, k8, k9, -⟩ : nes e.k [1, 2, 3, 4, 5, 6, 10, 11, 12, 14, 7, 8, 9] := by simp [nes, hk]
 have k13 : (e.k == 13) = true := by simp [hk]
 have HKK := Aid.hid hk
 obtain ⟨W, hW, Nu, Np, Ne, Nz, K0⟩ := newh4 w [.slice a u.length cap] [.int .i64 x, .int .i64 y] [.int .i64 e.k, .int .i64 e.n, .string e.name, .string e.what, .slice e.A e.args.length e.c] [.int .i64 0, .int .i64 0, .int .i64 0, .string ⟨#[]⟩] 24 26 29 36
 clear hu hl hp hX he hr hlim hcap hk
 obtain ⟨xu0, lu⟩ := xc1 Nu
 obtain ⟨xp0, xp1, lp⟩ := xc2 Np
 go_enter Try.func14, Try.ntmps14
 try simp only [List.append_eq, List.cons_append, List.nil_append]
 go_wp2_with fail
 (try clear hW)
 refine (rplace_is u a B cap x y true _ HPL.out (HU.out.below (K0.out) hB) (Nat.le_trans hB (K0.out).size)).mono ?_; rintro _ w1 ⟨rfl, hb1⟩
 have Kx1 := kb K0 hb1
 have Nu_1 := nb hb1 Nu
 have Np_1 := nb hb1 Np
 have Ne_1 := nb hb1 Ne
 have Nz_1 := nb hb1 Nz
 clear xu0 lu xp0 xp1 lp
 clear hb1
 obtain ⟨xu0, lu⟩ := xc1 Nu_1
 obtain ⟨xp0, xp1, lp⟩ := xc2 Np_1
 obtain ⟨xe0, xe1, xe2, xe3, xe4, le⟩ := xc5 Ne_1
 obtain ⟨⟨t1, c1⟩, hi⟩ : ∃ r, Ty.inv p e = r := ⟨_, rfl⟩
 have HI := Aid.hid hi
 have HR2 : Hid ((if c1 = 0 ∧ t1.k = 0 then (Ty.none_, 14) else (t1, c1)) = (t, c)) := Aid.hid (by have h := HR.out; rw [HKK.out] at h; have h2 := Rf.inv_eq p e; rw [hi] at h2; unfold Rf.exprG at h; rw [if_pos rfl, h2] at h; exact h)
 clear hi
 go_wp2_with fail
 refine (rinvoke_is f u a B cap x y p e t1 c1 _ HI.out HPP.out HUL.out HX.out (HU.out.below (Kx1.out) hB) (Nat.le_trans hB (Kx1.out).size) (HE.out.below Kx1.out hB) HLM.out).mono ?_; rintro _ w2 ⟨rfl, hb2⟩
 have Kx2 := kb Kx1 hb2
 have Nu_2 := nb hb2 Nu_1
 have Np_2 := nb hb2 Np_1
 have Ne_2 := nb hb2 Ne_1
 have Nz_2 := nb hb2 Nz_1
 clear xu0 lu xp0 xp1 lp xe0 xe1 xe2 xe3 xe4 le
 clear hb2
 obtain ⟨X3, hX⟩ : ∃ X, w2.alloc (.cells #[.int .i64 t1.k, .int .i64 t1.lo, .int .i64 t1.hi, .string t1.name] 36) = X := ⟨_, rfl⟩
 have Nu_3 := na hX Nu_2
 have Np_3 := na hX Np_2
 have Ne_3 := na hX Ne_2
 have Nz_3 := na hX Nz_2
 have Nt_3 := nw hX
 have Kx3 := nk hX Kx2
 have Qs3 := nq hX
 obtain ⟨xt0, xt1, xt2, xt3, lt⟩ := xc4 Nt_3
 by_cases hb : c1 = 0 ∧ t1.k = 0
 ·
  obtain ⟨rfl, ht0⟩ := hb
  have f0 : (t1.k == 0) = true := by simp [ht0]
  have HT0 := Aid.hid ht0
  clear ht0
  obtain ⟨rfl, rfl⟩ : Ty.none_ = t ∧ 14 = c := by have h := HR2.out; simpa [HT0.out] using h
  go_wp2_with (refine stT Nz_3 rfl rfl rfl rfl rfl rfl (by simp [Value.oneCell']) ?_)
  refine rtT Nz_3 rfl rfl rfl rfl rfl ⟨rfl, row_below (Kx3.out) (by omega) _⟩
 ·
  have hc : ((c1 == 0) = true ∧ (t1.k == 0) = false) ∨ (c1 == 0) = false := by
   by_cases h1 : c1 = 0
   ·
    left; exact ⟨by simp [h1], by simpa using fun h => hb ⟨h1, h⟩⟩
   ·
    right; simpa using h1
  obtain ⟨rfl, rfl⟩ : t1 = t ∧ c1 = c := by have h := HR2.out; rw [if_neg hb] at h; simpa using h
  clear hb HR2
  rcases hc with ⟨f1, f2⟩ | f1
  all_goals
   go_wp2_with (refine stT Nz_3 rfl rfl rfl rfl rfl rfl (by simp [Value.oneCell']) ?_)
   refine rtT Nz_3 rfl rfl rfl rfl rfl ⟨rfl, row_below (Kx3.out) (by omega) _⟩
end Go.Proofs.Ytmhdcehpddbjaaa
/- The document's Expr, as a walk, kind by kind. -/
namespace Go.Proofs.Ytmhdcehpddbjaaa
open Go.RowKit

set_option maxRecDepth 100000 in
set_option maxHeartbeats 4000000 in
theorem rexpr_1 (f : Nat) (u : List Dk) (a : Option Addr) (B cap : Nat) (x y : Int) (p : Pl) (e : Ex) (t : Ty) (c : Int) (w : World) (hr : Rf.expr p e = (t, c)) (hp : Pl.at u x y = some p) (hl : ULim u) (hX : ∀ q ∈ e.args, RExOK f u a B cap x y p q) (hu : UnitAt w B a u) (hB : B ≤ w.heap.size) (he : ExsAt (f + 1) w B e.A e.args) (hlim : e.args.length ≤ 1000000000) (hcap : e.args.length ≤ e.c) (hk : e.k = 1) (hlen : e.args.length = 0) :
  Calls Try.prog 14 #[.agg #[.slice a u.length cap], .agg #[.int .i64 x, .int .i64 y], .agg #[.int .i64 e.k, .int .i64 e.n, .string e.name, .string e.what, .slice e.A e.args.length e.c]] w fun z w' => z = .returned (.tuple #[.agg #[.int .i64 t.k, .int .i64 t.lo, .int .i64 t.hi, .string t.name], .int .i64 c]) ∧ Below w.heap.size w w' := by
 have HU := Aid.hid hu; have HUL := Aid.hid hl; have HPP := Aid.hid hp; have HX := Aid.hid hX; have HE := Aid.hid he; have HLM := Aid.hid hlim; have HCP := Aid.hid hcap; have HPU := Aid.hid (Pl.at_u hp); have HPL := Aid.hid (show Rf.place u x y = true by rw [Rf.place_at, hp]; rfl); have HR := Aid.hid (show Rf.exprG p e.k e.n e.name e.what (e.args.map (Rf.expr p)) = (t, c) by rw [← Rf.expr_eq]; exact hr)
 have k1 : (e.k == 1) = true := by simp [hk]
 obtain ⟨k2, k3, k4, k5, k6, k10, k11, k12, k14, k7, k8, k9, k13, -⟩ : nes e.k [2, 3, 4, 5, 6, 10, 11, 12, 14, 7, 8, 9, 13] := by simp [nes, hk]
 have HKK := Aid.hid hk
 have HLN := Aid.hid hlen
 clear hlen
 obtain ⟨W, hW, Nu, Np, Ne, Nz, K0⟩ := newh4 w [.slice a u.length cap] [.int .i64 x, .int .i64 y] [.int .i64 e.k, .int .i64 e.n, .string e.name, .string e.what, .slice e.A e.args.length e.c] [.int .i64 0, .int .i64 0, .int .i64 0, .string ⟨#[]⟩] 24 26 29 36
 clear hu hl hp hX he hr hlim hcap hk
 obtain ⟨xu0, lu⟩ := xc1 Nu
 obtain ⟨xp0, xp1, lp⟩ := xc2 Np
 go_enter Try.func14, Try.ntmps14
 try simp only [List.append_eq, List.cons_append, List.nil_append]
 go_wp2_with fail
 (try clear hW)
 refine (rplace_is u a B cap x y true _ HPL.out (HU.out.below (K0.out) hB) (Nat.le_trans hB (K0.out).size)).mono ?_; rintro _ w1 ⟨rfl, hb1⟩
 have Kx1 := kb K0 hb1
 have Nu_1 := nb hb1 Nu
 have Np_1 := nb hb1 Np
 have Ne_1 := nb hb1 Ne
 have Nz_1 := nb hb1 Nz
 clear xu0 lu xp0 xp1 lp
 clear hb1
 obtain ⟨xu0, lu⟩ := xc1 Nu_1
 obtain ⟨xp0, xp1, lp⟩ := xc2 Np_1
 obtain ⟨xe0, xe1, xe2, xe3, xe4, le⟩ := xc5 Ne_1
 have hn0 : ((e.args.length : Int) != 0) = false := by rw [HLN.out]; rfl
 obtain ⟨o, ho⟩ : ∃ o, p.var e.name = o := ⟨_, rfl⟩
 obtain ⟨v, hv⟩ : ∃ v, Ty.vof o = v := ⟨_, rfl⟩
 obtain ⟨is, his⟩ : ∃ b, o.isSome = b := ⟨_, rfl⟩
 have HO := Aid.hid ho; have HV := Aid.hid hv; have HS := Aid.hid his
 clear ho hv his
 go_wp2_with fail
 refine (rneed_is e.k 0 _ (by rw [HKK.out]; rfl)).mono ?_; rintro _ w2 ⟨rfl, hb2⟩
 have Kx2 := kb Kx1 hb2
 have Nu_2 := nb hb2 Nu_1
 have Np_2 := nb hb2 Np_1
 have Ne_2 := nb hb2 Ne_1
 have Nz_2 := nb hb2 Nz_1
 clear xu0 lu xp0 xp1 lp xe0 xe1 xe2 xe3 xe4 le
 clear hb2
 obtain ⟨xu0, lu⟩ := xc1 Nu_2
 obtain ⟨xp0, xp1, lp⟩ := xc2 Np_2
 obtain ⟨xe0, xe1, xe2, xe3, xe4, le⟩ := xc5 Ne_2
 go_wp2_with fail
 refine (rvar_x u a B cap x y p e.name o v is _ HO.out HV.out HS.out HPP.out (HU.out.below (Kx2.out) hB) (Nat.le_trans hB (Kx2.out).size) HUL.out).mono ?_; rintro _ w3 ⟨rfl, hb3⟩
 have Kx3 := kb Kx2 hb3
 have Nu_3 := nb hb3 Nu_2
 have Np_3 := nb hb3 Np_2
 have Ne_3 := nb hb3 Ne_2
 have Nz_3 := nb hb3 Nz_2
 clear xu0 lu xp0 xp1 lp xe0 xe1 xe2 xe3 xe4 le
 clear hb3
 obtain ⟨X4, hX⟩ : ∃ X, w3.alloc (.cells #[.string v.name, .int .i64 v.ty.k, .int .i64 v.ty.lo, .int .i64 v.ty.hi, .string v.ty.name, .int .i64 v.init, .int .i64 v.dir, .int .i64 v.slot] 74) = X := ⟨_, rfl⟩
 have Nu_4 := na hX Nu_3
 have Np_4 := na hX Np_3
 have Ne_4 := na hX Ne_3
 have Nz_4 := na hX Nz_3
 have Nv_4 := nw hX
 have Kx4 := nk hX Kx3
 have Qs4 := nq hX
 obtain ⟨xe0, xe1, xe2, xe3, xe4, le⟩ := xc5 Ne_4
 obtain ⟨rfl, rfl⟩ : Ty.of 1 = t ∧ 0 = c := by have h := HR.out; rw [HKK.out] at h; rw [List.length_eq_zero_iff.1 HLN.out] at h; exact Prod.mk.inj h
 go_wp2_with (refine stT Nz_4 rfl rfl rfl rfl rfl rfl (by simp [Value.oneCell']) ?_)
 refine rtT Nz_4 rfl rfl rfl rfl rfl ⟨rfl, row_below (Kx4.out) (by omega) _⟩
set_option maxRecDepth 100000 in
set_option maxHeartbeats 4000000 in
theorem rexpr_2 (f : Nat) (u : List Dk) (a : Option Addr) (B cap : Nat) (x y : Int) (p : Pl) (e : Ex) (t : Ty) (c : Int) (w : World) (hr : Rf.expr p e = (t, c)) (hp : Pl.at u x y = some p) (hl : ULim u) (hX : ∀ q ∈ e.args, RExOK f u a B cap x y p q) (hu : UnitAt w B a u) (hB : B ≤ w.heap.size) (he : ExsAt (f + 1) w B e.A e.args) (hlim : e.args.length ≤ 1000000000) (hcap : e.args.length ≤ e.c) (hk : e.k = 2) (hlen : e.args.length = 0) :
  Calls Try.prog 14 #[.agg #[.slice a u.length cap], .agg #[.int .i64 x, .int .i64 y], .agg #[.int .i64 e.k, .int .i64 e.n, .string e.name, .string e.what, .slice e.A e.args.length e.c]] w fun z w' => z = .returned (.tuple #[.agg #[.int .i64 t.k, .int .i64 t.lo, .int .i64 t.hi, .string t.name], .int .i64 c]) ∧ Below w.heap.size w w' := by
 have HU := Aid.hid hu; have HUL := Aid.hid hl; have HPP := Aid.hid hp; have HX := Aid.hid hX; have HE := Aid.hid he; have HLM := Aid.hid hlim; have HCP := Aid.hid hcap; have HPU := Aid.hid (Pl.at_u hp); have HPL := Aid.hid (show Rf.place u x y = true by rw [Rf.place_at, hp]; rfl); have HR := Aid.hid (show Rf.exprG p e.k e.n e.name e.what (e.args.map (Rf.expr p)) = (t, c) by rw [← Rf.expr_eq]; exact hr)
 have k1 : (e.k == 1) = false := by simp [hk]
 have k2 : (e.k == 2) = true := by simp [hk]
 obtain ⟨k3, k4, k5, k6, k10, k11, k12, k14, k7, k8, k9, k13, -⟩ : nes e.k [3, 4, 5, 6, 10, 11, 12, 14, 7, 8, 9, 13] := by simp [nes, hk]
 have HKK := Aid.hid hk
 have HLN := Aid.hid hlen
 clear hlen
 obtain ⟨W, hW, Nu, Np, Ne, Nz, K0⟩ := newh4 w [.slice a u.length cap] [.int .i64 x, .int .i64 y] [.int .i64 e.k, .int .i64 e.n, .string e.name, .string e.what, .slice e.A e.args.length e.c] [.int .i64 0, .int .i64 0, .int .i64 0, .string ⟨#[]⟩] 24 26 29 36
 clear hu hl hp hX he hr hlim hcap hk
 obtain ⟨xu0, lu⟩ := xc1 Nu
 obtain ⟨xp0, xp1, lp⟩ := xc2 Np
 go_enter Try.func14, Try.ntmps14
 try simp only [List.append_eq, List.cons_append, List.nil_append]
 go_wp2_with fail
 (try clear hW)
 refine (rplace_is u a B cap x y true _ HPL.out (HU.out.below (K0.out) hB) (Nat.le_trans hB (K0.out).size)).mono ?_; rintro _ w1 ⟨rfl, hb1⟩
 have Kx1 := kb K0 hb1
 have Nu_1 := nb hb1 Nu
 have Np_1 := nb hb1 Np
 have Ne_1 := nb hb1 Ne
 have Nz_1 := nb hb1 Nz
 clear xu0 lu xp0 xp1 lp
 clear hb1
 obtain ⟨xu0, lu⟩ := xc1 Nu_1
 obtain ⟨xp0, xp1, lp⟩ := xc2 Np_1
 obtain ⟨xe0, xe1, xe2, xe3, xe4, le⟩ := xc5 Ne_1
 have hn0 : ((e.args.length : Int) != 0) = false := by rw [HLN.out]; rfl
 obtain ⟨o, ho⟩ : ∃ o, p.var e.name = o := ⟨_, rfl⟩
 obtain ⟨v, hv⟩ : ∃ v, Ty.vof o = v := ⟨_, rfl⟩
 obtain ⟨is, his⟩ : ∃ b, o.isSome = b := ⟨_, rfl⟩
 have HO := Aid.hid ho; have HV := Aid.hid hv; have HS := Aid.hid his
 clear ho hv his
 go_wp2_with fail
 refine (rneed_is e.k 0 _ (by rw [HKK.out]; rfl)).mono ?_; rintro _ w2 ⟨rfl, hb2⟩
 have Kx2 := kb Kx1 hb2
 have Nu_2 := nb hb2 Nu_1
 have Np_2 := nb hb2 Np_1
 have Ne_2 := nb hb2 Ne_1
 have Nz_2 := nb hb2 Nz_1
 clear xu0 lu xp0 xp1 lp xe0 xe1 xe2 xe3 xe4 le
 clear hb2
 obtain ⟨xu0, lu⟩ := xc1 Nu_2
 obtain ⟨xp0, xp1, lp⟩ := xc2 Np_2
 obtain ⟨xe0, xe1, xe2, xe3, xe4, le⟩ := xc5 Ne_2
 go_wp2_with fail
 refine (rvar_x u a B cap x y p e.name o v is _ HO.out HV.out HS.out HPP.out (HU.out.below (Kx2.out) hB) (Nat.le_trans hB (Kx2.out).size) HUL.out).mono ?_; rintro _ w3 ⟨rfl, hb3⟩
 have Kx3 := kb Kx2 hb3
 have Nu_3 := nb hb3 Nu_2
 have Np_3 := nb hb3 Np_2
 have Ne_3 := nb hb3 Ne_2
 have Nz_3 := nb hb3 Nz_2
 clear xu0 lu xp0 xp1 lp xe0 xe1 xe2 xe3 xe4 le
 clear hb3
 obtain ⟨X4, hX⟩ : ∃ X, w3.alloc (.cells #[.string v.name, .int .i64 v.ty.k, .int .i64 v.ty.lo, .int .i64 v.ty.hi, .string v.ty.name, .int .i64 v.init, .int .i64 v.dir, .int .i64 v.slot] 74) = X := ⟨_, rfl⟩
 have Nu_4 := na hX Nu_3
 have Np_4 := na hX Np_3
 have Ne_4 := na hX Ne_3
 have Nz_4 := na hX Nz_3
 have Nv_4 := nw hX
 have Kx4 := nk hX Kx3
 have Qs4 := nq hX
 obtain ⟨xe0, xe1, xe2, xe3, xe4, le⟩ := xc5 Ne_4
 obtain ⟨rfl, rfl⟩ : Ty.of 2 = t ∧ 0 = c := by have h := HR.out; rw [HKK.out] at h; rw [List.length_eq_zero_iff.1 HLN.out] at h; exact Prod.mk.inj h
 go_wp2_with (refine stT Nz_4 rfl rfl rfl rfl rfl rfl (by simp [Value.oneCell']) ?_)
 refine rtT Nz_4 rfl rfl rfl rfl rfl ⟨rfl, row_below (Kx4.out) (by omega) _⟩
set_option maxRecDepth 100000 in
set_option maxHeartbeats 4000000 in
theorem rexpr_3 (f : Nat) (u : List Dk) (a : Option Addr) (B cap : Nat) (x y : Int) (p : Pl) (e : Ex) (t : Ty) (c : Int) (w : World) (hr : Rf.expr p e = (t, c)) (hp : Pl.at u x y = some p) (hl : ULim u) (hX : ∀ q ∈ e.args, RExOK f u a B cap x y p q) (hu : UnitAt w B a u) (hB : B ≤ w.heap.size) (he : ExsAt (f + 1) w B e.A e.args) (hlim : e.args.length ≤ 1000000000) (hcap : e.args.length ≤ e.c) (hk : e.k = 3) (hlen : e.args.length = 0) :
  Calls Try.prog 14 #[.agg #[.slice a u.length cap], .agg #[.int .i64 x, .int .i64 y], .agg #[.int .i64 e.k, .int .i64 e.n, .string e.name, .string e.what, .slice e.A e.args.length e.c]] w fun z w' => z = .returned (.tuple #[.agg #[.int .i64 t.k, .int .i64 t.lo, .int .i64 t.hi, .string t.name], .int .i64 c]) ∧ Below w.heap.size w w' := by
 have HU := Aid.hid hu; have HUL := Aid.hid hl; have HPP := Aid.hid hp; have HX := Aid.hid hX; have HE := Aid.hid he; have HLM := Aid.hid hlim; have HCP := Aid.hid hcap; have HPU := Aid.hid (Pl.at_u hp); have HPL := Aid.hid (show Rf.place u x y = true by rw [Rf.place_at, hp]; rfl); have HR := Aid.hid (show Rf.exprG p e.k e.n e.name e.what (e.args.map (Rf.expr p)) = (t, c) by rw [← Rf.expr_eq]; exact hr)
 have k1 : (e.k == 1) = false := by simp [hk]
 have k2 : (e.k == 2) = false := by simp [hk]
 have k3 : (e.k == 3) = true := by simp [hk]
 obtain ⟨k4, k5, k6, k10, k11, k12, k14, k7, k8, k9, k13, -⟩ : nes e.k [4, 5, 6, 10, 11, 12, 14, 7, 8, 9, 13] := by simp [nes, hk]
 have HKK := Aid.hid hk
 have HLN := Aid.hid hlen
 clear hlen
 obtain ⟨W, hW, Nu, Np, Ne, Nz, K0⟩ := newh4 w [.slice a u.length cap] [.int .i64 x, .int .i64 y] [.int .i64 e.k, .int .i64 e.n, .string e.name, .string e.what, .slice e.A e.args.length e.c] [.int .i64 0, .int .i64 0, .int .i64 0, .string ⟨#[]⟩] 24 26 29 36
 clear hu hl hp hX he hr hlim hcap hk
 obtain ⟨xu0, lu⟩ := xc1 Nu
 obtain ⟨xp0, xp1, lp⟩ := xc2 Np
 go_enter Try.func14, Try.ntmps14
 try simp only [List.append_eq, List.cons_append, List.nil_append]
 go_wp2_with fail
 (try clear hW)
 refine (rplace_is u a B cap x y true _ HPL.out (HU.out.below (K0.out) hB) (Nat.le_trans hB (K0.out).size)).mono ?_; rintro _ w1 ⟨rfl, hb1⟩
 have Kx1 := kb K0 hb1
 have Nu_1 := nb hb1 Nu
 have Np_1 := nb hb1 Np
 have Ne_1 := nb hb1 Ne
 have Nz_1 := nb hb1 Nz
 clear xu0 lu xp0 xp1 lp
 clear hb1
 obtain ⟨xu0, lu⟩ := xc1 Nu_1
 obtain ⟨xp0, xp1, lp⟩ := xc2 Np_1
 obtain ⟨xe0, xe1, xe2, xe3, xe4, le⟩ := xc5 Ne_1
 have hn0 : ((e.args.length : Int) != 0) = false := by rw [HLN.out]; rfl
 obtain ⟨o, ho⟩ : ∃ o, p.var e.name = o := ⟨_, rfl⟩
 obtain ⟨v, hv⟩ : ∃ v, Ty.vof o = v := ⟨_, rfl⟩
 obtain ⟨is, his⟩ : ∃ b, o.isSome = b := ⟨_, rfl⟩
 have HO := Aid.hid ho; have HV := Aid.hid hv; have HS := Aid.hid his
 clear ho hv his
 go_wp2_with fail
 refine (rneed_is e.k 0 _ (by rw [HKK.out]; rfl)).mono ?_; rintro _ w2 ⟨rfl, hb2⟩
 have Kx2 := kb Kx1 hb2
 have Nu_2 := nb hb2 Nu_1
 have Np_2 := nb hb2 Np_1
 have Ne_2 := nb hb2 Ne_1
 have Nz_2 := nb hb2 Nz_1
 clear xu0 lu xp0 xp1 lp xe0 xe1 xe2 xe3 xe4 le
 clear hb2
 obtain ⟨xu0, lu⟩ := xc1 Nu_2
 obtain ⟨xp0, xp1, lp⟩ := xc2 Np_2
 obtain ⟨xe0, xe1, xe2, xe3, xe4, le⟩ := xc5 Ne_2
 go_wp2_with fail
 refine (rvar_x u a B cap x y p e.name o v is _ HO.out HV.out HS.out HPP.out (HU.out.below (Kx2.out) hB) (Nat.le_trans hB (Kx2.out).size) HUL.out).mono ?_; rintro _ w3 ⟨rfl, hb3⟩
 have Kx3 := kb Kx2 hb3
 have Nu_3 := nb hb3 Nu_2
 have Np_3 := nb hb3 Np_2
 have Ne_3 := nb hb3 Ne_2
 have Nz_3 := nb hb3 Nz_2
 clear xu0 lu xp0 xp1 lp xe0 xe1 xe2 xe3 xe4 le
 clear hb3
 obtain ⟨X4, hX⟩ : ∃ X, w3.alloc (.cells #[.string v.name, .int .i64 v.ty.k, .int .i64 v.ty.lo, .int .i64 v.ty.hi, .string v.ty.name, .int .i64 v.init, .int .i64 v.dir, .int .i64 v.slot] 74) = X := ⟨_, rfl⟩
 have Nu_4 := na hX Nu_3
 have Np_4 := na hX Np_3
 have Ne_4 := na hX Ne_3
 have Nz_4 := na hX Nz_3
 have Nv_4 := nw hX
 have Kx4 := nk hX Kx3
 have Qs4 := nq hX
 obtain ⟨xe0, xe1, xe2, xe3, xe4, le⟩ := xc5 Ne_4
 obtain ⟨rfl, rfl⟩ : Ty.of 2 = t ∧ 0 = c := by have h := HR.out; rw [HKK.out] at h; rw [List.length_eq_zero_iff.1 HLN.out] at h; exact Prod.mk.inj h
 go_wp2_with (refine stT Nz_4 rfl rfl rfl rfl rfl rfl (by simp [Value.oneCell']) ?_)
 refine rtT Nz_4 rfl rfl rfl rfl rfl ⟨rfl, row_below (Kx4.out) (by omega) _⟩
set_option maxRecDepth 100000 in
set_option maxHeartbeats 4000000 in
theorem rexpr_4 (f : Nat) (u : List Dk) (a : Option Addr) (B cap : Nat) (x y : Int) (p : Pl) (e : Ex) (t : Ty) (c : Int) (w : World) (hr : Rf.expr p e = (t, c)) (hp : Pl.at u x y = some p) (hl : ULim u) (hX : ∀ q ∈ e.args, RExOK f u a B cap x y p q) (hu : UnitAt w B a u) (hB : B ≤ w.heap.size) (he : ExsAt (f + 1) w B e.A e.args) (hlim : e.args.length ≤ 1000000000) (hcap : e.args.length ≤ e.c) (hk : e.k = 4) (hlen : e.args.length = 0) :
  Calls Try.prog 14 #[.agg #[.slice a u.length cap], .agg #[.int .i64 x, .int .i64 y], .agg #[.int .i64 e.k, .int .i64 e.n, .string e.name, .string e.what, .slice e.A e.args.length e.c]] w fun z w' => z = .returned (.tuple #[.agg #[.int .i64 t.k, .int .i64 t.lo, .int .i64 t.hi, .string t.name], .int .i64 c]) ∧ Below w.heap.size w w' := by
 have HU := Aid.hid hu; have HUL := Aid.hid hl; have HPP := Aid.hid hp; have HX := Aid.hid hX; have HE := Aid.hid he; have HLM := Aid.hid hlim; have HCP := Aid.hid hcap; have HPU := Aid.hid (Pl.at_u hp); have HPL := Aid.hid (show Rf.place u x y = true by rw [Rf.place_at, hp]; rfl); have HR := Aid.hid (show Rf.exprG p e.k e.n e.name e.what (e.args.map (Rf.expr p)) = (t, c) by rw [← Rf.expr_eq]; exact hr)
 obtain ⟨k1, k2, k3, -⟩ : nes e.k [1, 2, 3] := by simp [nes, hk]
 have k4 : (e.k == 4) = true := by simp [hk]
 obtain ⟨k5, k6, k10, k11, k12, k14, k7, k8, k9, k13, -⟩ : nes e.k [5, 6, 10, 11, 12, 14, 7, 8, 9, 13] := by simp [nes, hk]
 have HKK := Aid.hid hk
 have HLN := Aid.hid hlen
 clear hlen
 obtain ⟨W, hW, Nu, Np, Ne, Nz, K0⟩ := newh4 w [.slice a u.length cap] [.int .i64 x, .int .i64 y] [.int .i64 e.k, .int .i64 e.n, .string e.name, .string e.what, .slice e.A e.args.length e.c] [.int .i64 0, .int .i64 0, .int .i64 0, .string ⟨#[]⟩] 24 26 29 36
 clear hu hl hp hX he hr hlim hcap hk
 obtain ⟨xu0, lu⟩ := xc1 Nu
 obtain ⟨xp0, xp1, lp⟩ := xc2 Np
 go_enter Try.func14, Try.ntmps14
 try simp only [List.append_eq, List.cons_append, List.nil_append]
 go_wp2_with fail
 (try clear hW)
 refine (rplace_is u a B cap x y true _ HPL.out (HU.out.below (K0.out) hB) (Nat.le_trans hB (K0.out).size)).mono ?_; rintro _ w1 ⟨rfl, hb1⟩
 have Kx1 := kb K0 hb1
 have Nu_1 := nb hb1 Nu
 have Np_1 := nb hb1 Np
 have Ne_1 := nb hb1 Ne
 have Nz_1 := nb hb1 Nz
 clear xu0 lu xp0 xp1 lp
 clear hb1
 obtain ⟨xu0, lu⟩ := xc1 Nu_1
 obtain ⟨xp0, xp1, lp⟩ := xc2 Np_1
 obtain ⟨xe0, xe1, xe2, xe3, xe4, le⟩ := xc5 Ne_1
 have hn0 : ((e.args.length : Int) != 0) = false := by rw [HLN.out]; rfl
 obtain ⟨o, ho⟩ : ∃ o, p.var e.name = o := ⟨_, rfl⟩
 obtain ⟨v, hv⟩ : ∃ v, Ty.vof o = v := ⟨_, rfl⟩
 obtain ⟨is, his⟩ : ∃ b, o.isSome = b := ⟨_, rfl⟩
 have HO := Aid.hid ho; have HV := Aid.hid hv; have HS := Aid.hid his
 clear ho hv his
 go_wp2_with fail
 refine (rneed_is e.k 0 _ (by rw [HKK.out]; rfl)).mono ?_; rintro _ w2 ⟨rfl, hb2⟩
 have Kx2 := kb Kx1 hb2
 have Nu_2 := nb hb2 Nu_1
 have Np_2 := nb hb2 Np_1
 have Ne_2 := nb hb2 Ne_1
 have Nz_2 := nb hb2 Nz_1
 clear xu0 lu xp0 xp1 lp xe0 xe1 xe2 xe3 xe4 le
 clear hb2
 obtain ⟨xu0, lu⟩ := xc1 Nu_2
 obtain ⟨xp0, xp1, lp⟩ := xc2 Np_2
 obtain ⟨xe0, xe1, xe2, xe3, xe4, le⟩ := xc5 Ne_2
 go_wp2_with fail
 refine (rvar_x u a B cap x y p e.name o v is _ HO.out HV.out HS.out HPP.out (HU.out.below (Kx2.out) hB) (Nat.le_trans hB (Kx2.out).size) HUL.out).mono ?_; rintro _ w3 ⟨rfl, hb3⟩
 have Kx3 := kb Kx2 hb3
 have Nu_3 := nb hb3 Nu_2
 have Np_3 := nb hb3 Np_2
 have Ne_3 := nb hb3 Ne_2
 have Nz_3 := nb hb3 Nz_2
 clear xu0 lu xp0 xp1 lp xe0 xe1 xe2 xe3 xe4 le
 clear hb3
 obtain ⟨X4, hX⟩ : ∃ X, w3.alloc (.cells #[.string v.name, .int .i64 v.ty.k, .int .i64 v.ty.lo, .int .i64 v.ty.hi, .string v.ty.name, .int .i64 v.init, .int .i64 v.dir, .int .i64 v.slot] 74) = X := ⟨_, rfl⟩
 have Nu_4 := na hX Nu_3
 have Np_4 := na hX Np_3
 have Ne_4 := na hX Ne_3
 have Nz_4 := na hX Nz_3
 have Nv_4 := nw hX
 have Kx4 := nk hX Kx3
 have Qs4 := nq hX
 obtain ⟨xe0, xe1, xe2, xe3, xe4, le⟩ := xc5 Ne_4
 obtain ⟨rfl, rfl⟩ : Ty.of 5 = t ∧ 0 = c := by have h := HR.out; rw [HKK.out] at h; rw [List.length_eq_zero_iff.1 HLN.out] at h; exact Prod.mk.inj h
 go_wp2_with (refine stT Nz_4 rfl rfl rfl rfl rfl rfl (by simp [Value.oneCell']) ?_)
 refine rtT Nz_4 rfl rfl rfl rfl rfl ⟨rfl, row_below (Kx4.out) (by omega) _⟩
set_option maxRecDepth 100000 in
set_option maxHeartbeats 4000000 in
theorem rexpr_5 (f : Nat) (u : List Dk) (a : Option Addr) (B cap : Nat) (x y : Int) (p : Pl) (e : Ex) (t : Ty) (c : Int) (w : World) (hr : Rf.expr p e = (t, c)) (hp : Pl.at u x y = some p) (hl : ULim u) (hX : ∀ q ∈ e.args, RExOK f u a B cap x y p q) (hu : UnitAt w B a u) (hB : B ≤ w.heap.size) (he : ExsAt (f + 1) w B e.A e.args) (hlim : e.args.length ≤ 1000000000) (hcap : e.args.length ≤ e.c) (hk : e.k = 5) (hlen : e.args.length = 0) :
  Calls Try.prog 14 #[.agg #[.slice a u.length cap], .agg #[.int .i64 x, .int .i64 y], .agg #[.int .i64 e.k, .int .i64 e.n, .string e.name, .string e.what, .slice e.A e.args.length e.c]] w fun z w' => z = .returned (.tuple #[.agg #[.int .i64 t.k, .int .i64 t.lo, .int .i64 t.hi, .string t.name], .int .i64 c]) ∧ Below w.heap.size w w' := by
 have HU := Aid.hid hu; have HUL := Aid.hid hl; have HPP := Aid.hid hp; have HX := Aid.hid hX; have HE := Aid.hid he; have HLM := Aid.hid hlim; have HCP := Aid.hid hcap; have HPU := Aid.hid (Pl.at_u hp); have HPL := Aid.hid (show Rf.place u x y = true by rw [Rf.place_at, hp]; rfl); have HR := Aid.hid (show Rf.exprG p e.k e.n e.name e.what (e.args.map (Rf.expr p)) = (t, c) by rw [← Rf.expr_eq]; exact hr)
 obtain ⟨k1, k2, k3, k4, -⟩ : nes e.k [1, 2, 3, 4] := by simp [nes, hk]
 have k5 : (e.k == 5) = true := by simp [hk]
 obtain ⟨k6, k10, k11, k12, k14, k7, k8, k9, k13, -⟩ : nes e.k [6, 10, 11, 12, 14, 7, 8, 9, 13] := by simp [nes, hk]
 have HKK := Aid.hid hk
 have HLN := Aid.hid hlen
 clear hlen
 obtain ⟨W, hW, Nu, Np, Ne, Nz, K0⟩ := newh4 w [.slice a u.length cap] [.int .i64 x, .int .i64 y] [.int .i64 e.k, .int .i64 e.n, .string e.name, .string e.what, .slice e.A e.args.length e.c] [.int .i64 0, .int .i64 0, .int .i64 0, .string ⟨#[]⟩] 24 26 29 36
 clear hu hl hp hX he hr hlim hcap hk
 obtain ⟨xu0, lu⟩ := xc1 Nu
 obtain ⟨xp0, xp1, lp⟩ := xc2 Np
 go_enter Try.func14, Try.ntmps14
 try simp only [List.append_eq, List.cons_append, List.nil_append]
 go_wp2_with fail
 (try clear hW)
 refine (rplace_is u a B cap x y true _ HPL.out (HU.out.below (K0.out) hB) (Nat.le_trans hB (K0.out).size)).mono ?_; rintro _ w1 ⟨rfl, hb1⟩
 have Kx1 := kb K0 hb1
 have Nu_1 := nb hb1 Nu
 have Np_1 := nb hb1 Np
 have Ne_1 := nb hb1 Ne
 have Nz_1 := nb hb1 Nz
 clear xu0 lu xp0 xp1 lp
 clear hb1
 obtain ⟨xu0, lu⟩ := xc1 Nu_1
 obtain ⟨xp0, xp1, lp⟩ := xc2 Np_1
 obtain ⟨xe0, xe1, xe2, xe3, xe4, le⟩ := xc5 Ne_1
 have hn0 : ((e.args.length : Int) != 0) = false := by rw [HLN.out]; rfl
 obtain ⟨o, ho⟩ : ∃ o, p.var e.name = o := ⟨_, rfl⟩
 obtain ⟨v, hv⟩ : ∃ v, Ty.vof o = v := ⟨_, rfl⟩
 obtain ⟨is, his⟩ : ∃ b, o.isSome = b := ⟨_, rfl⟩
 have HO := Aid.hid ho; have HV := Aid.hid hv; have HS := Aid.hid his
 clear ho hv his
 go_wp2_with fail
 refine (rneed_is e.k 0 _ (by rw [HKK.out]; rfl)).mono ?_; rintro _ w2 ⟨rfl, hb2⟩
 have Kx2 := kb Kx1 hb2
 have Nu_2 := nb hb2 Nu_1
 have Np_2 := nb hb2 Np_1
 have Ne_2 := nb hb2 Ne_1
 have Nz_2 := nb hb2 Nz_1
 clear xu0 lu xp0 xp1 lp xe0 xe1 xe2 xe3 xe4 le
 clear hb2
 obtain ⟨xu0, lu⟩ := xc1 Nu_2
 obtain ⟨xp0, xp1, lp⟩ := xc2 Np_2
 obtain ⟨xe0, xe1, xe2, xe3, xe4, le⟩ := xc5 Ne_2
 go_wp2_with fail
 refine (rvar_x u a B cap x y p e.name o v is _ HO.out HV.out HS.out HPP.out (HU.out.below (Kx2.out) hB) (Nat.le_trans hB (Kx2.out).size) HUL.out).mono ?_; rintro _ w3 ⟨rfl, hb3⟩
 have Kx3 := kb Kx2 hb3
 have Nu_3 := nb hb3 Nu_2
 have Np_3 := nb hb3 Np_2
 have Ne_3 := nb hb3 Ne_2
 have Nz_3 := nb hb3 Nz_2
 clear xu0 lu xp0 xp1 lp xe0 xe1 xe2 xe3 xe4 le
 clear hb3
 obtain ⟨X4, hX⟩ : ∃ X, w3.alloc (.cells #[.string v.name, .int .i64 v.ty.k, .int .i64 v.ty.lo, .int .i64 v.ty.hi, .string v.ty.name, .int .i64 v.init, .int .i64 v.dir, .int .i64 v.slot] 74) = X := ⟨_, rfl⟩
 have Nu_4 := na hX Nu_3
 have Np_4 := na hX Np_3
 have Ne_4 := na hX Ne_3
 have Nz_4 := na hX Nz_3
 have Nv_4 := nw hX
 have Kx4 := nk hX Kx3
 have Qs4 := nq hX
 obtain ⟨xe0, xe1, xe2, xe3, xe4, le⟩ := xc5 Ne_4
 have HR2 : Hid ((match p.var e.name with | none => (Ty.none_, 13) | some v => Rf.named e.k v (Ty.hd (e.args.map (Rf.expr p)))) = (t, c)) := Aid.hid (by have h := HR.out; rw [HKK.out] at h ⊢; rw [List.length_eq_zero_iff.1 HLN.out] at h ⊢; exact h)
 cases o with
 | none =>
   obtain rfl : false = is := HS.out
   obtain ⟨rfl, rfl⟩ : Ty.none_ = t ∧ 13 = c := by have h := HR2.out; rw [HO.out] at h; simpa using h
   go_wp2_with (refine stT Nz_4 rfl rfl rfl rfl rfl rfl (by simp [Value.oneCell']) ?_)
   refine rtT Nz_4 rfl rfl rfl rfl rfl ⟨rfl, row_below (Kx4.out) (by omega) _⟩
 | some vv =>
   obtain rfl : true = is := HS.out
   obtain rfl : vv = v := HV.out
   have HR3 : Hid (Rf.named e.k vv (Ty.hd (e.args.map (Rf.expr p))) = (t, c)) := Aid.hid (by have h := HR2.out; rw [HO.out] at h; exact h)
   obtain ⟨xu0, lu⟩ := xc1 Nu_4
   obtain ⟨xp0, xp1, lp⟩ := xc2 Np_4
   obtain ⟨xv0, xv1, xv2, xv3, xv4, xv5, xv6, xv7, lv⟩ := xc8 Nv_4
   go_wp2_with fail
   (try clear hX)
   refine (rnamed_5 f u _ B cap _ _ p e vv t c _ HR3.out HPP.out HUL.out HX.out (HU.out.below (Kx4.out) hB) (Nat.le_trans hB (Kx4.out).size) (HE.out.below Kx4.out hB) HKK.out).mono ?_; rintro _ w5 ⟨rfl, hb5⟩
   have Kx5 := kb Kx4 hb5
   have Nu_5 := nb hb5 Nu_4
   have Np_5 := nb hb5 Np_4
   have Ne_5 := nb hb5 Ne_4
   have Nz_5 := nb hb5 Nz_4
   have Nv_5 := nb hb5 Nv_4
   clear xe0 xe1 xe2 xe3 xe4 le xu0 lu xp0 xp1 lp xv0 xv1 xv2 xv3 xv4 xv5 xv6 xv7 lv
   clear hb5
   go_wp2_with (refine stT Nz_5 rfl rfl rfl rfl rfl rfl (by simp [Value.oneCell']) ?_)
   refine rtT Nz_5 rfl rfl rfl rfl rfl ⟨rfl, row_below (Kx5.out) (by omega) _⟩
set_option maxRecDepth 100000 in
set_option maxHeartbeats 4000000 in
theorem rexpr_6 (f : Nat) (u : List Dk) (a : Option Addr) (B cap : Nat) (x y : Int) (p : Pl) (e : Ex) (t : Ty) (c : Int) (w : World) (hr : Rf.expr p e = (t, c)) (hp : Pl.at u x y = some p) (hl : ULim u) (hX : ∀ q ∈ e.args, RExOK f u a B cap x y p q) (hu : UnitAt w B a u) (hB : B ≤ w.heap.size) (he : ExsAt (f + 1) w B e.A e.args) (hlim : e.args.length ≤ 1000000000) (hcap : e.args.length ≤ e.c) (hk : e.k = 6) (hlen : e.args.length = 1) :
  Calls Try.prog 14 #[.agg #[.slice a u.length cap], .agg #[.int .i64 x, .int .i64 y], .agg #[.int .i64 e.k, .int .i64 e.n, .string e.name, .string e.what, .slice e.A e.args.length e.c]] w fun z w' => z = .returned (.tuple #[.agg #[.int .i64 t.k, .int .i64 t.lo, .int .i64 t.hi, .string t.name], .int .i64 c]) ∧ Below w.heap.size w w' := by
 have HU := Aid.hid hu; have HUL := Aid.hid hl; have HPP := Aid.hid hp; have HX := Aid.hid hX; have HE := Aid.hid he; have HLM := Aid.hid hlim; have HCP := Aid.hid hcap; have HPU := Aid.hid (Pl.at_u hp); have HPL := Aid.hid (show Rf.place u x y = true by rw [Rf.place_at, hp]; rfl); have HR := Aid.hid (show Rf.exprG p e.k e.n e.name e.what (e.args.map (Rf.expr p)) = (t, c) by rw [← Rf.expr_eq]; exact hr)
 obtain ⟨k1, k2, k3, k4, k5, -⟩ : nes e.k [1, 2, 3, 4, 5] := by simp [nes, hk]
 have k6 : (e.k == 6) = true := by simp [hk]
 obtain ⟨k10, k11, k12, k14, k7, k8, k9, k13, -⟩ : nes e.k [10, 11, 12, 14, 7, 8, 9, 13] := by simp [nes, hk]
 have HKK := Aid.hid hk
 have HLN := Aid.hid hlen
 clear hlen
 obtain ⟨W, hW, Nu, Np, Ne, Nz, K0⟩ := newh4 w [.slice a u.length cap] [.int .i64 x, .int .i64 y] [.int .i64 e.k, .int .i64 e.n, .string e.name, .string e.what, .slice e.A e.args.length e.c] [.int .i64 0, .int .i64 0, .int .i64 0, .string ⟨#[]⟩] 24 26 29 36
 clear hu hl hp hX he hr hlim hcap hk
 obtain ⟨xu0, lu⟩ := xc1 Nu
 obtain ⟨xp0, xp1, lp⟩ := xc2 Np
 go_enter Try.func14, Try.ntmps14
 try simp only [List.append_eq, List.cons_append, List.nil_append]
 go_wp2_with fail
 (try clear hW)
 refine (rplace_is u a B cap x y true _ HPL.out (HU.out.below (K0.out) hB) (Nat.le_trans hB (K0.out).size)).mono ?_; rintro _ w1 ⟨rfl, hb1⟩
 have Kx1 := kb K0 hb1
 have Nu_1 := nb hb1 Nu
 have Np_1 := nb hb1 Np
 have Ne_1 := nb hb1 Ne
 have Nz_1 := nb hb1 Nz
 clear xu0 lu xp0 xp1 lp
 clear hb1
 obtain ⟨xu0, lu⟩ := xc1 Nu_1
 obtain ⟨xp0, xp1, lp⟩ := xc2 Np_1
 obtain ⟨xe0, xe1, xe2, xe3, xe4, le⟩ := xc5 Ne_1
 have hn1 : ((e.args.length : Int) != 1) = false := by rw [HLN.out]; rfl
 obtain ⟨o, ho⟩ : ∃ o, p.var e.name = o := ⟨_, rfl⟩
 obtain ⟨v, hv⟩ : ∃ v, Ty.vof o = v := ⟨_, rfl⟩
 obtain ⟨is, his⟩ : ∃ b, o.isSome = b := ⟨_, rfl⟩
 have HO := Aid.hid ho; have HV := Aid.hid hv; have HS := Aid.hid his
 clear ho hv his
 go_wp2_with fail
 refine (rneed_is e.k 1 _ (by rw [HKK.out]; rfl)).mono ?_; rintro _ w2 ⟨rfl, hb2⟩
 have Kx2 := kb Kx1 hb2
 have Nu_2 := nb hb2 Nu_1
 have Np_2 := nb hb2 Np_1
 have Ne_2 := nb hb2 Ne_1
 have Nz_2 := nb hb2 Nz_1
 clear xu0 lu xp0 xp1 lp xe0 xe1 xe2 xe3 xe4 le
 clear hb2
 obtain ⟨xu0, lu⟩ := xc1 Nu_2
 obtain ⟨xp0, xp1, lp⟩ := xc2 Np_2
 obtain ⟨xe0, xe1, xe2, xe3, xe4, le⟩ := xc5 Ne_2
 go_wp2_with fail
 refine (rvar_x u a B cap x y p e.name o v is _ HO.out HV.out HS.out HPP.out (HU.out.below (Kx2.out) hB) (Nat.le_trans hB (Kx2.out).size) HUL.out).mono ?_; rintro _ w3 ⟨rfl, hb3⟩
 have Kx3 := kb Kx2 hb3
 have Nu_3 := nb hb3 Nu_2
 have Np_3 := nb hb3 Np_2
 have Ne_3 := nb hb3 Ne_2
 have Nz_3 := nb hb3 Nz_2
 clear xu0 lu xp0 xp1 lp xe0 xe1 xe2 xe3 xe4 le
 clear hb3
 obtain ⟨X4, hX⟩ : ∃ X, w3.alloc (.cells #[.string v.name, .int .i64 v.ty.k, .int .i64 v.ty.lo, .int .i64 v.ty.hi, .string v.ty.name, .int .i64 v.init, .int .i64 v.dir, .int .i64 v.slot] 74) = X := ⟨_, rfl⟩
 have Nu_4 := na hX Nu_3
 have Np_4 := na hX Np_3
 have Ne_4 := na hX Ne_3
 have Nz_4 := na hX Nz_3
 have Nv_4 := nw hX
 have Kx4 := nk hX Kx3
 have Qs4 := nq hX
 obtain ⟨xe0, xe1, xe2, xe3, xe4, le⟩ := xc5 Ne_4
 obtain ⟨q, hq⟩ := List.length_eq_one_iff.1 HLN.out
 have HQ := Aid.hid hq
 clear hq
 have HR2 : Hid ((match p.var e.name with | none => (Ty.none_, 13) | some v => Rf.named e.k v (Ty.hd (e.args.map (Rf.expr p)))) = (t, c)) := Aid.hid (by have h := HR.out; rw [HKK.out] at h ⊢; rw [HQ.out] at h ⊢; exact h)
 cases o with
 | none =>
   obtain rfl : false = is := HS.out
   obtain ⟨rfl, rfl⟩ : Ty.none_ = t ∧ 13 = c := by have h := HR2.out; rw [HO.out] at h; simpa using h
   go_wp2_with (refine stT Nz_4 rfl rfl rfl rfl rfl rfl (by simp [Value.oneCell']) ?_)
   refine rtT Nz_4 rfl rfl rfl rfl rfl ⟨rfl, row_below (Kx4.out) (by omega) _⟩
 | some vv =>
   obtain rfl : true = is := HS.out
   obtain rfl : vv = v := HV.out
   have HR3 : Hid (Rf.named e.k vv (Ty.hd (e.args.map (Rf.expr p))) = (t, c)) := Aid.hid (by have h := HR2.out; rw [HO.out] at h; exact h)
   obtain ⟨xu0, lu⟩ := xc1 Nu_4
   obtain ⟨xp0, xp1, lp⟩ := xc2 Np_4
   obtain ⟨xv0, xv1, xv2, xv3, xv4, xv5, xv6, xv7, lv⟩ := xc8 Nv_4
   go_wp2_with fail
   (try clear hX)
   refine (rnamed_6 f u _ B cap _ _ p e vv t c _ HR3.out HPP.out HUL.out HX.out (HU.out.below (Kx4.out) hB) (Nat.le_trans hB (Kx4.out).size) (HE.out.below Kx4.out hB) HKK.out q HQ.out).mono ?_; rintro _ w5 ⟨rfl, hb5⟩
   have Kx5 := kb Kx4 hb5
   have Nu_5 := nb hb5 Nu_4
   have Np_5 := nb hb5 Np_4
   have Ne_5 := nb hb5 Ne_4
   have Nz_5 := nb hb5 Nz_4
   have Nv_5 := nb hb5 Nv_4
   clear xe0 xe1 xe2 xe3 xe4 le xu0 lu xp0 xp1 lp xv0 xv1 xv2 xv3 xv4 xv5 xv6 xv7 lv
   clear hb5
   go_wp2_with (refine stT Nz_5 rfl rfl rfl rfl rfl rfl (by simp [Value.oneCell']) ?_)
   refine rtT Nz_5 rfl rfl rfl rfl rfl ⟨rfl, row_below (Kx5.out) (by omega) _⟩
set_option maxRecDepth 100000 in
set_option maxHeartbeats 4000000 in
theorem rexpr_10 (f : Nat) (u : List Dk) (a : Option Addr) (B cap : Nat) (x y : Int) (p : Pl) (e : Ex) (t : Ty) (c : Int) (w : World) (hr : Rf.expr p e = (t, c)) (hp : Pl.at u x y = some p) (hl : ULim u) (hX : ∀ q ∈ e.args, RExOK f u a B cap x y p q) (hu : UnitAt w B a u) (hB : B ≤ w.heap.size) (he : ExsAt (f + 1) w B e.A e.args) (hlim : e.args.length ≤ 1000000000) (hcap : e.args.length ≤ e.c) (hk : e.k = 10) (hlen : e.args.length = 0) :
  Calls Try.prog 14 #[.agg #[.slice a u.length cap], .agg #[.int .i64 x, .int .i64 y], .agg #[.int .i64 e.k, .int .i64 e.n, .string e.name, .string e.what, .slice e.A e.args.length e.c]] w fun z w' => z = .returned (.tuple #[.agg #[.int .i64 t.k, .int .i64 t.lo, .int .i64 t.hi, .string t.name], .int .i64 c]) ∧ Below w.heap.size w w' := by
 have HU := Aid.hid hu; have HUL := Aid.hid hl; have HPP := Aid.hid hp; have HX := Aid.hid hX; have HE := Aid.hid he; have HLM := Aid.hid hlim; have HCP := Aid.hid hcap; have HPU := Aid.hid (Pl.at_u hp); have HPL := Aid.hid (show Rf.place u x y = true by rw [Rf.place_at, hp]; rfl); have HR := Aid.hid (show Rf.exprG p e.k e.n e.name e.what (e.args.map (Rf.expr p)) = (t, c) by rw [← Rf.expr_eq]; exact hr)
 obtain ⟨k1, k2, k3, k4, k5, k6, -⟩ : nes e.k [1, 2, 3, 4, 5, 6] := by simp [nes, hk]
 have k10 : (e.k == 10) = true := by simp [hk]
 obtain ⟨k11, k12, k14, k7, k8, k9, k13, -⟩ : nes e.k [11, 12, 14, 7, 8, 9, 13] := by simp [nes, hk]
 have HKK := Aid.hid hk
 have HLN := Aid.hid hlen
 clear hlen
 obtain ⟨W, hW, Nu, Np, Ne, Nz, K0⟩ := newh4 w [.slice a u.length cap] [.int .i64 x, .int .i64 y] [.int .i64 e.k, .int .i64 e.n, .string e.name, .string e.what, .slice e.A e.args.length e.c] [.int .i64 0, .int .i64 0, .int .i64 0, .string ⟨#[]⟩] 24 26 29 36
 clear hu hl hp hX he hr hlim hcap hk
 obtain ⟨xu0, lu⟩ := xc1 Nu
 obtain ⟨xp0, xp1, lp⟩ := xc2 Np
 go_enter Try.func14, Try.ntmps14
 try simp only [List.append_eq, List.cons_append, List.nil_append]
 go_wp2_with fail
 (try clear hW)
 refine (rplace_is u a B cap x y true _ HPL.out (HU.out.below (K0.out) hB) (Nat.le_trans hB (K0.out).size)).mono ?_; rintro _ w1 ⟨rfl, hb1⟩
 have Kx1 := kb K0 hb1
 have Nu_1 := nb hb1 Nu
 have Np_1 := nb hb1 Np
 have Ne_1 := nb hb1 Ne
 have Nz_1 := nb hb1 Nz
 clear xu0 lu xp0 xp1 lp
 clear hb1
 obtain ⟨xu0, lu⟩ := xc1 Nu_1
 obtain ⟨xp0, xp1, lp⟩ := xc2 Np_1
 obtain ⟨xe0, xe1, xe2, xe3, xe4, le⟩ := xc5 Ne_1
 have hn0 : ((e.args.length : Int) != 0) = false := by rw [HLN.out]; rfl
 obtain ⟨o, ho⟩ : ∃ o, p.var e.name = o := ⟨_, rfl⟩
 obtain ⟨v, hv⟩ : ∃ v, Ty.vof o = v := ⟨_, rfl⟩
 obtain ⟨is, his⟩ : ∃ b, o.isSome = b := ⟨_, rfl⟩
 have HO := Aid.hid ho; have HV := Aid.hid hv; have HS := Aid.hid his
 clear ho hv his
 go_wp2_with fail
 refine (rneed_is e.k 0 _ (by rw [HKK.out]; rfl)).mono ?_; rintro _ w2 ⟨rfl, hb2⟩
 have Kx2 := kb Kx1 hb2
 have Nu_2 := nb hb2 Nu_1
 have Np_2 := nb hb2 Np_1
 have Ne_2 := nb hb2 Ne_1
 have Nz_2 := nb hb2 Nz_1
 clear xu0 lu xp0 xp1 lp xe0 xe1 xe2 xe3 xe4 le
 clear hb2
 obtain ⟨xu0, lu⟩ := xc1 Nu_2
 obtain ⟨xp0, xp1, lp⟩ := xc2 Np_2
 obtain ⟨xe0, xe1, xe2, xe3, xe4, le⟩ := xc5 Ne_2
 go_wp2_with fail
 refine (rvar_x u a B cap x y p e.name o v is _ HO.out HV.out HS.out HPP.out (HU.out.below (Kx2.out) hB) (Nat.le_trans hB (Kx2.out).size) HUL.out).mono ?_; rintro _ w3 ⟨rfl, hb3⟩
 have Kx3 := kb Kx2 hb3
 have Nu_3 := nb hb3 Nu_2
 have Np_3 := nb hb3 Np_2
 have Ne_3 := nb hb3 Ne_2
 have Nz_3 := nb hb3 Nz_2
 clear xu0 lu xp0 xp1 lp xe0 xe1 xe2 xe3 xe4 le
 clear hb3
 obtain ⟨X4, hX⟩ : ∃ X, w3.alloc (.cells #[.string v.name, .int .i64 v.ty.k, .int .i64 v.ty.lo, .int .i64 v.ty.hi, .string v.ty.name, .int .i64 v.init, .int .i64 v.dir, .int .i64 v.slot] 74) = X := ⟨_, rfl⟩
 have Nu_4 := na hX Nu_3
 have Np_4 := na hX Np_3
 have Ne_4 := na hX Ne_3
 have Nz_4 := na hX Nz_3
 have Nv_4 := nw hX
 have Kx4 := nk hX Kx3
 have Qs4 := nq hX
 obtain ⟨xe0, xe1, xe2, xe3, xe4, le⟩ := xc5 Ne_4
 have HR2 : Hid ((match p.var e.name with | none => (Ty.none_, 13) | some v => Rf.named e.k v (Ty.hd (e.args.map (Rf.expr p)))) = (t, c)) := Aid.hid (by have h := HR.out; rw [HKK.out] at h ⊢; rw [List.length_eq_zero_iff.1 HLN.out] at h ⊢; exact h)
 cases o with
 | none =>
   obtain rfl : false = is := HS.out
   obtain ⟨rfl, rfl⟩ : Ty.none_ = t ∧ 13 = c := by have h := HR2.out; rw [HO.out] at h; simpa using h
   go_wp2_with (refine stT Nz_4 rfl rfl rfl rfl rfl rfl (by simp [Value.oneCell']) ?_)
   refine rtT Nz_4 rfl rfl rfl rfl rfl ⟨rfl, row_below (Kx4.out) (by omega) _⟩
 | some vv =>
   obtain rfl : true = is := HS.out
   obtain rfl : vv = v := HV.out
   have HR3 : Hid (Rf.named e.k vv (Ty.hd (e.args.map (Rf.expr p))) = (t, c)) := Aid.hid (by have h := HR2.out; rw [HO.out] at h; exact h)
   obtain ⟨xu0, lu⟩ := xc1 Nu_4
   obtain ⟨xp0, xp1, lp⟩ := xc2 Np_4
   obtain ⟨xv0, xv1, xv2, xv3, xv4, xv5, xv6, xv7, lv⟩ := xc8 Nv_4
   go_wp2_with fail
   (try clear hX)
   refine (rnamed_10 f u _ B cap _ _ p e vv t c _ HR3.out HPP.out HUL.out HX.out (HU.out.below (Kx4.out) hB) (Nat.le_trans hB (Kx4.out).size) (HE.out.below Kx4.out hB) HKK.out).mono ?_; rintro _ w5 ⟨rfl, hb5⟩
   have Kx5 := kb Kx4 hb5
   have Nu_5 := nb hb5 Nu_4
   have Np_5 := nb hb5 Np_4
   have Ne_5 := nb hb5 Ne_4
   have Nz_5 := nb hb5 Nz_4
   have Nv_5 := nb hb5 Nv_4
   clear xe0 xe1 xe2 xe3 xe4 le xu0 lu xp0 xp1 lp xv0 xv1 xv2 xv3 xv4 xv5 xv6 xv7 lv
   clear hb5
   go_wp2_with (refine stT Nz_5 rfl rfl rfl rfl rfl rfl (by simp [Value.oneCell']) ?_)
   refine rtT Nz_5 rfl rfl rfl rfl rfl ⟨rfl, row_below (Kx5.out) (by omega) _⟩
set_option maxRecDepth 100000 in
set_option maxHeartbeats 4000000 in
theorem rexpr_11 (f : Nat) (u : List Dk) (a : Option Addr) (B cap : Nat) (x y : Int) (p : Pl) (e : Ex) (t : Ty) (c : Int) (w : World) (hr : Rf.expr p e = (t, c)) (hp : Pl.at u x y = some p) (hl : ULim u) (hX : ∀ q ∈ e.args, RExOK f u a B cap x y p q) (hu : UnitAt w B a u) (hB : B ≤ w.heap.size) (he : ExsAt (f + 1) w B e.A e.args) (hlim : e.args.length ≤ 1000000000) (hcap : e.args.length ≤ e.c) (hk : e.k = 11) (hlen : e.args.length = 0) :
  Calls Try.prog 14 #[.agg #[.slice a u.length cap], .agg #[.int .i64 x, .int .i64 y], .agg #[.int .i64 e.k, .int .i64 e.n, .string e.name, .string e.what, .slice e.A e.args.length e.c]] w fun z w' => z = .returned (.tuple #[.agg #[.int .i64 t.k, .int .i64 t.lo, .int .i64 t.hi, .string t.name], .int .i64 c]) ∧ Below w.heap.size w w' := by
 have HU := Aid.hid hu; have HUL := Aid.hid hl; have HPP := Aid.hid hp; have HX := Aid.hid hX; have HE := Aid.hid he; have HLM := Aid.hid hlim; have HCP := Aid.hid hcap; have HPU := Aid.hid (Pl.at_u hp); have HPL := Aid.hid (show Rf.place u x y = true by rw [Rf.place_at, hp]; rfl); have HR := Aid.hid (show Rf.exprG p e.k e.n e.name e.what (e.args.map (Rf.expr p)) = (t, c) by rw [← Rf.expr_eq]; exact hr)
 obtain ⟨k1, k2, k3, k4, k5, k6, k10, -⟩ : nes e.k [1, 2, 3, 4, 5, 6, 10] := by simp [nes, hk]
 have k11 : (e.k == 11) = true := by simp [hk]
 obtain ⟨k12, k14, k7, k8, k9, k13, -⟩ : nes e.k [12, 14, 7, 8, 9, 13] := by simp [nes, hk]
 have HKK := Aid.hid hk
 have HLN := Aid.hid hlen
 clear hlen
 obtain ⟨W, hW, Nu, Np, Ne, Nz, K0⟩ := newh4 w [.slice a u.length cap] [.int .i64 x, .int .i64 y] [.int .i64 e.k, .int .i64 e.n, .string e.name, .string e.what, .slice e.A e.args.length e.c] [.int .i64 0, .int .i64 0, .int .i64 0, .string ⟨#[]⟩] 24 26 29 36
 clear hu hl hp hX he hr hlim hcap hk
 obtain ⟨xu0, lu⟩ := xc1 Nu
 obtain ⟨xp0, xp1, lp⟩ := xc2 Np
 go_enter Try.func14, Try.ntmps14
 try simp only [List.append_eq, List.cons_append, List.nil_append]
 go_wp2_with fail
 (try clear hW)
 refine (rplace_is u a B cap x y true _ HPL.out (HU.out.below (K0.out) hB) (Nat.le_trans hB (K0.out).size)).mono ?_; rintro _ w1 ⟨rfl, hb1⟩
 have Kx1 := kb K0 hb1
 have Nu_1 := nb hb1 Nu
 have Np_1 := nb hb1 Np
 have Ne_1 := nb hb1 Ne
 have Nz_1 := nb hb1 Nz
 clear xu0 lu xp0 xp1 lp
 clear hb1
 obtain ⟨xu0, lu⟩ := xc1 Nu_1
 obtain ⟨xp0, xp1, lp⟩ := xc2 Np_1
 obtain ⟨xe0, xe1, xe2, xe3, xe4, le⟩ := xc5 Ne_1
 have hn0 : ((e.args.length : Int) != 0) = false := by rw [HLN.out]; rfl
 obtain ⟨o, ho⟩ : ∃ o, p.var e.name = o := ⟨_, rfl⟩
 obtain ⟨v, hv⟩ : ∃ v, Ty.vof o = v := ⟨_, rfl⟩
 obtain ⟨is, his⟩ : ∃ b, o.isSome = b := ⟨_, rfl⟩
 have HO := Aid.hid ho; have HV := Aid.hid hv; have HS := Aid.hid his
 clear ho hv his
 go_wp2_with fail
 refine (rneed_is e.k 0 _ (by rw [HKK.out]; rfl)).mono ?_; rintro _ w2 ⟨rfl, hb2⟩
 have Kx2 := kb Kx1 hb2
 have Nu_2 := nb hb2 Nu_1
 have Np_2 := nb hb2 Np_1
 have Ne_2 := nb hb2 Ne_1
 have Nz_2 := nb hb2 Nz_1
 clear xu0 lu xp0 xp1 lp xe0 xe1 xe2 xe3 xe4 le
 clear hb2
 obtain ⟨xu0, lu⟩ := xc1 Nu_2
 obtain ⟨xp0, xp1, lp⟩ := xc2 Np_2
 obtain ⟨xe0, xe1, xe2, xe3, xe4, le⟩ := xc5 Ne_2
 go_wp2_with fail
 refine (rvar_x u a B cap x y p e.name o v is _ HO.out HV.out HS.out HPP.out (HU.out.below (Kx2.out) hB) (Nat.le_trans hB (Kx2.out).size) HUL.out).mono ?_; rintro _ w3 ⟨rfl, hb3⟩
 have Kx3 := kb Kx2 hb3
 have Nu_3 := nb hb3 Nu_2
 have Np_3 := nb hb3 Np_2
 have Ne_3 := nb hb3 Ne_2
 have Nz_3 := nb hb3 Nz_2
 clear xu0 lu xp0 xp1 lp xe0 xe1 xe2 xe3 xe4 le
 clear hb3
 obtain ⟨X4, hX⟩ : ∃ X, w3.alloc (.cells #[.string v.name, .int .i64 v.ty.k, .int .i64 v.ty.lo, .int .i64 v.ty.hi, .string v.ty.name, .int .i64 v.init, .int .i64 v.dir, .int .i64 v.slot] 74) = X := ⟨_, rfl⟩
 have Nu_4 := na hX Nu_3
 have Np_4 := na hX Np_3
 have Ne_4 := na hX Ne_3
 have Nz_4 := na hX Nz_3
 have Nv_4 := nw hX
 have Kx4 := nk hX Kx3
 have Qs4 := nq hX
 obtain ⟨xe0, xe1, xe2, xe3, xe4, le⟩ := xc5 Ne_4
 have HR2 : Hid ((match p.var e.name with | none => (Ty.none_, 13) | some v => Rf.named e.k v (Ty.hd (e.args.map (Rf.expr p)))) = (t, c)) := Aid.hid (by have h := HR.out; rw [HKK.out] at h ⊢; rw [List.length_eq_zero_iff.1 HLN.out] at h ⊢; exact h)
 cases o with
 | none =>
   obtain rfl : false = is := HS.out
   obtain ⟨rfl, rfl⟩ : Ty.none_ = t ∧ 13 = c := by have h := HR2.out; rw [HO.out] at h; simpa using h
   go_wp2_with (refine stT Nz_4 rfl rfl rfl rfl rfl rfl (by simp [Value.oneCell']) ?_)
   refine rtT Nz_4 rfl rfl rfl rfl rfl ⟨rfl, row_below (Kx4.out) (by omega) _⟩
 | some vv =>
   obtain rfl : true = is := HS.out
   obtain rfl : vv = v := HV.out
   have HR3 : Hid (Rf.named e.k vv (Ty.hd (e.args.map (Rf.expr p))) = (t, c)) := Aid.hid (by have h := HR2.out; rw [HO.out] at h; exact h)
   obtain ⟨xu0, lu⟩ := xc1 Nu_4
   obtain ⟨xp0, xp1, lp⟩ := xc2 Np_4
   obtain ⟨xv0, xv1, xv2, xv3, xv4, xv5, xv6, xv7, lv⟩ := xc8 Nv_4
   go_wp2_with fail
   (try clear hX)
   refine (rnamed_11 f u _ B cap _ _ p e vv t c _ HR3.out HPP.out HUL.out HX.out (HU.out.below (Kx4.out) hB) (Nat.le_trans hB (Kx4.out).size) (HE.out.below Kx4.out hB) HKK.out).mono ?_; rintro _ w5 ⟨rfl, hb5⟩
   have Kx5 := kb Kx4 hb5
   have Nu_5 := nb hb5 Nu_4
   have Np_5 := nb hb5 Np_4
   have Ne_5 := nb hb5 Ne_4
   have Nz_5 := nb hb5 Nz_4
   have Nv_5 := nb hb5 Nv_4
   clear xe0 xe1 xe2 xe3 xe4 le xu0 lu xp0 xp1 lp xv0 xv1 xv2 xv3 xv4 xv5 xv6 xv7 lv
   clear hb5
   go_wp2_with (refine stT Nz_5 rfl rfl rfl rfl rfl rfl (by simp [Value.oneCell']) ?_)
   refine rtT Nz_5 rfl rfl rfl rfl rfl ⟨rfl, row_below (Kx5.out) (by omega) _⟩
set_option maxRecDepth 100000 in
set_option maxHeartbeats 4000000 in
theorem rexpr_12 (f : Nat) (u : List Dk) (a : Option Addr) (B cap : Nat) (x y : Int) (p : Pl) (e : Ex) (t : Ty) (c : Int) (w : World) (hr : Rf.expr p e = (t, c)) (hp : Pl.at u x y = some p) (hl : ULim u) (hX : ∀ q ∈ e.args, RExOK f u a B cap x y p q) (hu : UnitAt w B a u) (hB : B ≤ w.heap.size) (he : ExsAt (f + 1) w B e.A e.args) (hlim : e.args.length ≤ 1000000000) (hcap : e.args.length ≤ e.c) (hk : e.k = 12) (hlen : e.args.length = 0) :
  Calls Try.prog 14 #[.agg #[.slice a u.length cap], .agg #[.int .i64 x, .int .i64 y], .agg #[.int .i64 e.k, .int .i64 e.n, .string e.name, .string e.what, .slice e.A e.args.length e.c]] w fun z w' => z = .returned (.tuple #[.agg #[.int .i64 t.k, .int .i64 t.lo, .int .i64 t.hi, .string t.name], .int .i64 c]) ∧ Below w.heap.size w w' := by
 have HU := Aid.hid hu; have HUL := Aid.hid hl; have HPP := Aid.hid hp; have HX := Aid.hid hX; have HE := Aid.hid he; have HLM := Aid.hid hlim; have HCP := Aid.hid hcap; have HPU := Aid.hid (Pl.at_u hp); have HPL := Aid.hid (show Rf.place u x y = true by rw [Rf.place_at, hp]; rfl); have HR := Aid.hid (show Rf.exprG p e.k e.n e.name e.what (e.args.map (Rf.expr p)) = (t, c) by rw [← Rf.expr_eq]; exact hr)
 obtain ⟨k1, k2, k3, k4, k5, k6, k10, k11, -⟩ : nes e.k [1, 2, 3, 4, 5, 6, 10, 11] := by simp [nes, hk]
 have k12 : (e.k == 12) = true := by simp [hk]
 obtain ⟨k14, k7, k8, k9, k13, -⟩ : nes e.k [14, 7, 8, 9, 13] := by simp [nes, hk]
 have HKK := Aid.hid hk
 have HLN := Aid.hid hlen
 clear hlen
 obtain ⟨W, hW, Nu, Np, Ne, Nz, K0⟩ := newh4 w [.slice a u.length cap] [.int .i64 x, .int .i64 y] [.int .i64 e.k, .int .i64 e.n, .string e.name, .string e.what, .slice e.A e.args.length e.c] [.int .i64 0, .int .i64 0, .int .i64 0, .string ⟨#[]⟩] 24 26 29 36
 clear hu hl hp hX he hr hlim hcap hk
 obtain ⟨xu0, lu⟩ := xc1 Nu
 obtain ⟨xp0, xp1, lp⟩ := xc2 Np
 go_enter Try.func14, Try.ntmps14
 try simp only [List.append_eq, List.cons_append, List.nil_append]
 go_wp2_with fail
 (try clear hW)
 refine (rplace_is u a B cap x y true _ HPL.out (HU.out.below (K0.out) hB) (Nat.le_trans hB (K0.out).size)).mono ?_; rintro _ w1 ⟨rfl, hb1⟩
 have Kx1 := kb K0 hb1
 have Nu_1 := nb hb1 Nu
 have Np_1 := nb hb1 Np
 have Ne_1 := nb hb1 Ne
 have Nz_1 := nb hb1 Nz
 clear xu0 lu xp0 xp1 lp
 clear hb1
 obtain ⟨xu0, lu⟩ := xc1 Nu_1
 obtain ⟨xp0, xp1, lp⟩ := xc2 Np_1
 obtain ⟨xe0, xe1, xe2, xe3, xe4, le⟩ := xc5 Ne_1
 have hn0 : ((e.args.length : Int) != 0) = false := by rw [HLN.out]; rfl
 obtain ⟨o, ho⟩ : ∃ o, p.var e.name = o := ⟨_, rfl⟩
 obtain ⟨v, hv⟩ : ∃ v, Ty.vof o = v := ⟨_, rfl⟩
 obtain ⟨is, his⟩ : ∃ b, o.isSome = b := ⟨_, rfl⟩
 have HO := Aid.hid ho; have HV := Aid.hid hv; have HS := Aid.hid his
 clear ho hv his
 go_wp2_with fail
 refine (rneed_is e.k 0 _ (by rw [HKK.out]; rfl)).mono ?_; rintro _ w2 ⟨rfl, hb2⟩
 have Kx2 := kb Kx1 hb2
 have Nu_2 := nb hb2 Nu_1
 have Np_2 := nb hb2 Np_1
 have Ne_2 := nb hb2 Ne_1
 have Nz_2 := nb hb2 Nz_1
 clear xu0 lu xp0 xp1 lp xe0 xe1 xe2 xe3 xe4 le
 clear hb2
 obtain ⟨xu0, lu⟩ := xc1 Nu_2
 obtain ⟨xp0, xp1, lp⟩ := xc2 Np_2
 obtain ⟨xe0, xe1, xe2, xe3, xe4, le⟩ := xc5 Ne_2
 go_wp2_with fail
 refine (rvar_x u a B cap x y p e.name o v is _ HO.out HV.out HS.out HPP.out (HU.out.below (Kx2.out) hB) (Nat.le_trans hB (Kx2.out).size) HUL.out).mono ?_; rintro _ w3 ⟨rfl, hb3⟩
 have Kx3 := kb Kx2 hb3
 have Nu_3 := nb hb3 Nu_2
 have Np_3 := nb hb3 Np_2
 have Ne_3 := nb hb3 Ne_2
 have Nz_3 := nb hb3 Nz_2
 clear xu0 lu xp0 xp1 lp xe0 xe1 xe2 xe3 xe4 le
 clear hb3
 obtain ⟨X4, hX⟩ : ∃ X, w3.alloc (.cells #[.string v.name, .int .i64 v.ty.k, .int .i64 v.ty.lo, .int .i64 v.ty.hi, .string v.ty.name, .int .i64 v.init, .int .i64 v.dir, .int .i64 v.slot] 74) = X := ⟨_, rfl⟩
 have Nu_4 := na hX Nu_3
 have Np_4 := na hX Np_3
 have Ne_4 := na hX Ne_3
 have Nz_4 := na hX Nz_3
 have Nv_4 := nw hX
 have Kx4 := nk hX Kx3
 have Qs4 := nq hX
 obtain ⟨xe0, xe1, xe2, xe3, xe4, le⟩ := xc5 Ne_4
 have HR2 : Hid ((match p.var e.name with | none => (Ty.none_, 13) | some v => Rf.named e.k v (Ty.hd (e.args.map (Rf.expr p)))) = (t, c)) := Aid.hid (by have h := HR.out; rw [HKK.out] at h ⊢; rw [List.length_eq_zero_iff.1 HLN.out] at h ⊢; exact h)
 cases o with
 | none =>
   obtain rfl : false = is := HS.out
   obtain ⟨rfl, rfl⟩ : Ty.none_ = t ∧ 13 = c := by have h := HR2.out; rw [HO.out] at h; simpa using h
   go_wp2_with (refine stT Nz_4 rfl rfl rfl rfl rfl rfl (by simp [Value.oneCell']) ?_)
   refine rtT Nz_4 rfl rfl rfl rfl rfl ⟨rfl, row_below (Kx4.out) (by omega) _⟩
 | some vv =>
   obtain rfl : true = is := HS.out
   obtain rfl : vv = v := HV.out
   have HR3 : Hid (Rf.named e.k vv (Ty.hd (e.args.map (Rf.expr p))) = (t, c)) := Aid.hid (by have h := HR2.out; rw [HO.out] at h; exact h)
   obtain ⟨xu0, lu⟩ := xc1 Nu_4
   obtain ⟨xp0, xp1, lp⟩ := xc2 Np_4
   obtain ⟨xv0, xv1, xv2, xv3, xv4, xv5, xv6, xv7, lv⟩ := xc8 Nv_4
   go_wp2_with fail
   (try clear hX)
   refine (rnamed_12 f u _ B cap _ _ p e vv t c _ HR3.out HPP.out HUL.out HX.out (HU.out.below (Kx4.out) hB) (Nat.le_trans hB (Kx4.out).size) (HE.out.below Kx4.out hB) HKK.out).mono ?_; rintro _ w5 ⟨rfl, hb5⟩
   have Kx5 := kb Kx4 hb5
   have Nu_5 := nb hb5 Nu_4
   have Np_5 := nb hb5 Np_4
   have Ne_5 := nb hb5 Ne_4
   have Nz_5 := nb hb5 Nz_4
   have Nv_5 := nb hb5 Nv_4
   clear xe0 xe1 xe2 xe3 xe4 le xu0 lu xp0 xp1 lp xv0 xv1 xv2 xv3 xv4 xv5 xv6 xv7 lv
   clear hb5
   go_wp2_with (refine stT Nz_5 rfl rfl rfl rfl rfl rfl (by simp [Value.oneCell']) ?_)
   refine rtT Nz_5 rfl rfl rfl rfl rfl ⟨rfl, row_below (Kx5.out) (by omega) _⟩
end Go.Proofs.Ytmhdcehpddbjaaa
