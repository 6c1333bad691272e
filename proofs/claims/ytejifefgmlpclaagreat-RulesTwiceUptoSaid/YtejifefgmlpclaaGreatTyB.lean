/- Parts of typing, as walks: typed, Fits, visible. -/
import Derived.Test.YtejifefgmlpclaaGreatTyA
set_option linter.unusedSimpArgs false
set_option linter.unusedVariables false
namespace Go.Proofs.YtejifefgmlpclaaGreat
open Go.RowKit

/-- A place's addresses. -/
structure Pa where
  uA : Option Addr
  uc : Nat
  mp : Option Addr
  vA : Option Addr
  vc : Nat
/-- A place lies at block b; its unit below block B. -/
structure PlAt (w : World) (B b : Nat) (p : Pl) (a : Pa) : Prop where
  has : Aid.Has w b [.slice a.uA p.u.length a.uc, .int .i64 p.d, .pointer a.mp, .slice a.vA p.vs.length a.vc] 101
  unit : UnitAt w B a.uA p.u
  le : B ≤ w.heap.size
  vars : Rows w w.heap.size 8 a.vA (p.vs.map Vd.cells)
  lim : p.vs.length ≤ 1000000000
  mno : p.me = none → a.mp = none
  mhas : ∀ m, p.me = some m → ∃ g, a.mp = some ⟨g, 0, none⟩ ∧ Aid.Has w g m.cells 46
theorem PlAt.below {w w' : World} {B b : Nat} {p : Pl} {a : Pa} (h : PlAt w B b p a) (hb : Below w.heap.size w w') : PlAt w' B b p a :=
  ⟨h.has.below hb h.has.lt, h.unit.below hb h.le, Nat.le_trans h.le hb.size, (h.vars.below hb (Nat.le_refl _)).more hb.size, h.lim, h.mno, fun m hm => by
    obtain ⟨g, h1, h2⟩ := h.mhas m hm
    exact ⟨g, h1, h2.below hb h2.lt⟩⟩
theorem Rows.vdr_ {w : World} {B : Nat} {A : Option Addr} {ps : List Vd} (h : Rows w B 8 A (ps.map Vd.cells)) (hn : 0 < ps.length) :
    ∃ b off, A = some ⟨b, off, none⟩ ∧ b < B ∧ ∀ (i : Nat) (v : Vd), ps[i]? = some v → ∀ j x, v.cells[j]? = some x → w.cell? ⟨b, off + i * 8 + j, none⟩ = some x := by
  obtain ⟨b, off, h1, h2, h3⟩ := h (by simpa using hn)
  exact ⟨b, off, h1, h2, fun i v hv j x hx => h3 i v.cells (by simp [hv]) j x hx⟩

set_option maxRecDepth 100000 in
set_option maxHeartbeats 2000000 in
theorem typed_is (u : List Dk) (a : Option Addr) (B cap : Nat) (s : ByteArray) (r : Bool) (w : World) (hr : Tb.typed u s = r) (hu : UnitAt w B a u) (hB : B ≤ w.heap.size) :
    Calls Tryz.prog 104 #[.agg #[.slice a u.length cap], .string s] w fun e w' => e = .returned (.bool r) ∧ Below w.heap.size w w' := by
  have HU := Aid.hid hu
  have HR := Aid.hid hr
  have sm := hu.small
  obtain ⟨q, hq⟩ : ∃ q, Tb.find u s = q := ⟨_, rfl⟩
  have HQ := Aid.hid hq
  have rq := Tb.find_range u s
  rw [hq] at rq
  have K0 := Aid.hid (below_new w (.cells #[.slice a u.length cap] 24))
  have P0 := Aid.hid (Aid.Has.new w [.slice a u.length cap] 24)
  clear hu hr hq
  go_enter Tryz.func104, Tryz.ntmps104
  try simp only [List.append_eq, List.cons_append, List.nil_append]
  go_wp2_with fail
  refine (find_is u a B cap s q _ HQ.out (HU.out.below K0.out hB) (Nat.le_trans hB K0.out.size)).mono ?_; rintro e w1 ⟨rfl, hb1⟩
  have KW := Aid.hid (K0.out.trans (hb1.mono K0.out.size))
  have p0 := (P0.out.below hb1 P0.out.lt).cell 0 _ rfl
  by_cases h0 : 0 ≤ q
  · obtain ⟨i, rfl⟩ := Int.eq_ofNat_of_zero_le h0
    have hi : i < u.length := by omega
    obtain ⟨d, hd⟩ : ∃ d, u[i]? = some d := ⟨_, List.getElem?_eq_getElem hi⟩
    have EK : Hid (Tb.kind u i = d.kind) := Aid.hid (by unfold Tb.kind; simp [hd])
    obtain ⟨b, off, rfl, _, hc⟩ := (HU.out.below KW.out hB).at_ (by omega)
    have c0 := hc i d hd 0 _ rfl
    simp only [Nat.add_zero] at c0
    clear hc hd hb1
    go_wp2_with fail
    all_goals (go_ret; exact ⟨by rw [← HR.out, Tb.typed, HQ.out, EK.out]; by_cases e1 : d.kind = 1 <;> by_cases e2 : d.kind = 2 <;> simp_all, KW.out⟩)
  · have E : Hid (r = false) := Aid.hid (by rw [← HR.out, Tb.typed, HQ.out, Tb.kind, if_neg h0]; rfl)
    clear hb1
    go_wp2_with fail
    all_goals (go_ret; exact ⟨by rw [E.out]; first | rfl | simp_all, KW.out⟩)

set_option maxRecDepth 100000 in
set_option maxHeartbeats 4000000 in
theorem fits_is (u : List Dk) (a : Option Addr) (B cap : Nat) (to fr : Ty) (r : Bool) (w : World) (hr : Ty.fits u to fr = r) (hu : UnitAt w B a u) (hB : B ≤ w.heap.size) :
    Calls Tryz.prog 88 #[.agg #[.slice a u.length cap], to.v, fr.v] w fun e w' => e = .returned (.bool r) ∧ Below w.heap.size w w' := by
  have HU := Aid.hid hu
  obtain ⟨q, hq⟩ : ∃ q, Tb.is u fr.name to.name = q := ⟨_, rfl⟩
  have HQ := Aid.hid hq
  have HR := Aid.hid hr
  have K0 : Hid (Below w.heap.size w (((w.alloc (.cells #[.slice a u.length cap] 24)).alloc (.cells #[.int .i64 to.k, .int .i64 to.lo, .int .i64 to.hi, .string to.name] 44)).alloc (.cells #[.int .i64 fr.k, .int .i64 fr.lo, .int .i64 fr.hi, .string fr.name] 44))) := Aid.hid ((((Below.refl _ w).alloc (Nat.le_refl _) _).alloc (by simp) _).alloc (by simp; omega) _)
  clear hu hr hq
  unfold Ty.v
  go_enter Tryz.func88, Tryz.ntmps88
  try simp only [List.append_eq, List.cons_append, List.nil_append]
  go_wp2_with fail
  all_goals first | (go_ret; refine ⟨?_, (((Below.refl _ w).alloc (Nat.le_refl _) _).alloc (by simp) _).alloc (by simp; omega) _⟩; rw [← HR.out]; clear HR HQ K0 HU; simp_all [Ty.fits]; done) | skip
  have K1 : ∀ x y z, Below w.heap.size w (((w.alloc x).alloc y).alloc z) := fun x y z => (((Below.refl _ w).alloc (Nat.le_refl _) _).alloc (by simp) _).alloc (by simp; omega) _
  refine (is_any u a B cap fr.name to.name _ (HU.out.below (K1 _ _ _) hB) (Nat.le_trans hB (K1 _ _ _).size)).mono ?_
  rintro e w1 ⟨rfl, hb1⟩
  go_wp2_with fail
  go_ret
  refine ⟨?_, (K1 _ _ _).trans (hb1.mono (K1 _ _ _).size)⟩
  rw [← HR.out]; obtain rfl := HQ.out; clear HR HQ K0 HU hb1 K1; simp_all [Ty.fits, Bool.or_assoc]

/-- A variable, as the program hands it on. -/
def Vd.v (v : Vd) : Value := .agg v.cells.toArray
def Vd.zero : Vd := ⟨⟨#[]⟩, ⟨0, 0, 0, ⟨#[]⟩⟩, 0, 0, 0⟩
/-- The number of the first variable of a name; -1. -/
def Ty.vindex (l : List Vd) (s : ByteArray) : Int := match l.findIdx? (fun d => d.name.toList == s.toList) with | some i => (i : Int) | none => -1
theorem Ty.vindex_hit {u : List Vd} {s : ByteArray} {k : Nat} {d : Vd} (hd : u[k]? = some d) (h : (d.name.toList == s.toList) = true) (hno : ∀ j, j < k → ∀ e, u[j]? = some e → (e.name.toList == s.toList) = false) : Ty.vindex u s = k := by
  obtain ⟨hk, hdk⟩ := List.getElem?_eq_some_iff.1 hd
  have : u.findIdx? (fun d => d.name.toList == s.toList) = some k := by
    rw [List.findIdx?_eq_some_iff_getElem]
    exact ⟨hk, by rw [hdk]; exact h, fun j hj => by simpa using hno j hj _ (List.getElem?_eq_getElem (by omega))⟩
  unfold Ty.vindex; rw [this]
theorem Ty.vindex_miss {u : List Vd} {s : ByteArray} (hno : ∀ j, j < u.length → ∀ e, u[j]? = some e → (e.name.toList == s.toList) = false) : Ty.vindex u s = -1 := by
  have : u.findIdx? (fun d => d.name.toList == s.toList) = none := by
    rw [List.findIdx?_eq_none_iff]
    intro d hd
    obtain ⟨j, hj, rfl⟩ := List.getElem_of_mem hd
    exact hno j hj _ (List.getElem?_eq_getElem hj)
  unfold Ty.vindex; rw [this]
/-- Where it is, and which one. -/
theorem Pl.var_at (p : Pl) (s : ByteArray) : (Ty.vindex p.vs s = -1 ∧ p.var s = none) ∨ ∃ (i : Nat) (v : Vd), Ty.vindex p.vs s = i ∧ p.vs[i]? = some v ∧ p.var s = some v := by
  unfold Ty.vindex Pl.var
  cases h : p.vs.findIdx? (fun d => d.name.toList == s.toList) with
  | none =>
    left
    refine ⟨rfl, ?_⟩
    rw [List.find?_eq_none]
    intro v hv
    have := (List.findIdx?_eq_none_iff.1 h) v hv
    simpa using this
  | some i =>
    right
    obtain ⟨h1, h2, h3⟩ := List.findIdx?_eq_some_iff_getElem.1 h
    refine ⟨i, p.vs[i], rfl, List.getElem?_eq_getElem h1, ?_⟩
    rw [List.find?_eq_some_iff_getElem]
    exact ⟨h2, i, h1, rfl, fun j hj => by simpa using h3 j hj⟩

set_option maxRecDepth 100000 in
set_option maxHeartbeats 1000000 in
theorem visible1_is (d : Vd) (p : Nat) (s : ByteArray) (r : Bool) (w : World) (hr : (d.name.toList == s.toList) = r) (hp : w.cell? ⟨p, 0, none⟩ = some (.string s)) (hlt : p < w.heap.size) :
    Calls Tryz.prog 96 #[.agg #[.string d.name, .int .i64 d.ty.k, .int .i64 d.ty.lo, .int .i64 d.ty.hi, .string d.ty.name, .int .i64 d.init, .int .i64 d.dir, .int .i64 d.slot], .pointer (some ⟨p, 0, none⟩)] w fun e w' => e = .returned (.bool r) ∧ Below w.heap.size w w' := by
  subst hr
  go_enter Tryz.func96, Tryz.ntmps96
  go_wp2_with fail
  go_ret
  exact ⟨rfl, below_new _ _⟩
set_option maxRecDepth 100000 in
set_option maxHeartbeats 2000000 in
theorem indexVar_is (u : List Vd) (a : Option Addr) (B cap p : Nat) (s : ByteArray) (r : Int) (w : World) (hr : Ty.vindex u s = r) (hu : Rows w B 8 a (u.map Vd.cells)) (hl : u.length ≤ 1000000000) (hB : B ≤ w.heap.size) (hp : w.cell? ⟨p, 0, none⟩ = some (.string s)) (hlt : p < w.heap.size) :
    Calls Tryz.prog 46 #[.slice a u.length cap, .func (.func 96) #[] #[.pointer (some ⟨p, 0, none⟩)]] w fun e w' => e = .returned (.int .i64 r) ∧ Below w.heap.size w w' := by
  subst hr
  have HU := Aid.hid hu
  have HP := Aid.hid hp
  clear hu hp
  go_enter Tryz.func46, Tryz.ntmps46
  try simp only [List.append_eq, List.cons_append, List.nil_append]
  go_wp2_with fail
  go_loopw [8] (fun vi wr => ∃ k : Nat, vi = .int .i64 k ∧ k ≤ u.length ∧ Hid (∀ j, j < k → ∀ e, u[j]? = some e → (e.name.toList == s.toList) = false) ∧ Below w.heap.size w wr) (fun vi _ => u.length - (intOf vi).toNat)
  case atStart => exact ⟨0, rfl, Nat.zero_le _, Aid.hid (fun j hj => by omega), Below.refl _ _⟩
  case round =>
    obtain ⟨k, rfl, hk, NO, hb⟩ := hrel
    by_cases hkl : k < u.length
    · obtain ⟨b, off, rfl, _, hc⟩ := Rows.vdr_ (HU.out.below hb hB) (by omega)
      obtain ⟨d, hd⟩ : ∃ d, u[k]? = some d := ⟨_, List.getElem?_eq_getElem hkl⟩
      have c0 := hc k d hd 0 _ rfl
      have c1 := hc k d hd 1 _ rfl
      have c2 := hc k d hd 2 _ rfl
      have c3 := hc k d hd 3 _ rfl
      have c4 := hc k d hd 4 _ rfl
      have c5 := hc k d hd 5 _ rfl
      have c6 := hc k d hd 6 _ rfl
      have c7 := hc k d hd 7 _ rfl
      simp only [Nat.add_zero] at c0
      have HD := Aid.hid hd
      clear hc hd
      obtain ⟨r, hr⟩ : ∃ r, (d.name.toList == s.toList) = r := ⟨_, rfl⟩
      have HR := Aid.hid hr
      clear hr
      go_wp2_with fail
      refine (visible1_is d p s r _ HR.out ((hb.cell (p := ⟨p, 0, none⟩) hlt).trans HP.out) (Nat.lt_of_lt_of_le hlt hb.size)).mono ?_; rintro e w' ⟨rfl, hb'⟩
      replace hb := hb.trans (hb'.mono hb.size)
      clear hb' c0 c1 c2 c3 c4 c5 c6 c7
      cases r
      · have NX : Hid (∀ j, j < k + 1 → ∀ e, u[j]? = some e → (e.name.toList == s.toList) = false) := Aid.hid (fun j hj e he => by
          rcases Nat.lt_or_ge j k with h | h
          · exact NO.out j h e he
          · obtain rfl : j = k := by omega
            rw [HD.out] at he
            obtain rfl := Option.some.inj he
            exact HR.out)
        go_wp2_with fail
        go_roundw
        case rel => exact ⟨k + 1, by go_num, by omega, NX, hb⟩
        case measure => simp [intOf]; omega
      · have E := Aid.hid (Ty.vindex_hit HD.out HR.out NO.out)
        go_wp2_with fail
        go_ret
        exact ⟨by rw [E.out]; rfl, hb⟩
    · have E := Aid.hid (Ty.vindex_miss (u := u) (s := s) (fun j hj => NO.out j (by omega)))
      go_wp2_with fail
      go_ret
      exact ⟨by rw [E.out]; rfl, hb⟩

/-- The variable that is told, and whether there is one. -/
def Ty.vof (o : Option Vd) : Vd := o.getD Vd.zero
def Vd.z : List Value := [.string ⟨#[]⟩, .int .i64 0, .int .i64 0, .int .i64 0, .string ⟨#[]⟩, .int .i64 0, .int .i64 0, .int .i64 0]
set_option maxRecDepth 100000 in
set_option maxHeartbeats 2000000 in
theorem visible_is (B b : Nat) (p : Pl) (a : Pa) (s : ByteArray) (o : Option Vd) (w : World) (h : PlAt w B b p a) (ho : p.var s = o) :
    Calls Tryz.prog 86 #[.pointer (some ⟨b, 0, none⟩), .string s] w fun e w' => e = .returned (.tuple #[(Ty.vof o).v, .bool o.isSome]) ∧ Below w.heap.size w w' := by
  have H := Aid.hid h
  have K0 : Hid (Below w.heap.size w ((w.alloc (.cells #[.string s] 9)).alloc (.cells #[.string ⟨#[]⟩, .int .i64 0, .int .i64 0, .int .i64 0, .string ⟨#[]⟩, .int .i64 0, .int .i64 0, .int .i64 0] 55))) := Aid.hid (((Below.refl _ w).alloc (Nat.le_refl _) _).alloc (by simp) _)
  have HZ : Hid (Aid.Has ((w.alloc (.cells #[.string s] 9)).alloc (.cells #[.string ⟨#[]⟩, .int .i64 0, .int .i64 0, .int .i64 0, .string ⟨#[]⟩, .int .i64 0, .int .i64 0, .int .i64 0] 55)) (w.heap.size + 1) Vd.z 55) := Aid.hid (by
    have e : (w.alloc (.cells #[.string s] 9)).heap.size = w.heap.size + 1 := by simp
    rw [← e]; exact Aid.Has.new _ Vd.z _)
  have P0 := ((h.has.below K0.out h.has.lt).cell 3 _ rfl)
  have lt0 := (h.has.below K0.out h.has.lt).lt
  obtain ⟨q, hq⟩ : ∃ q, Ty.vindex p.vs s = q := ⟨_, rfl⟩
  have HQ := Aid.hid hq
  have hv := Pl.var_at p s
  rw [hq, ho] at hv
  have HV := Aid.hid hv
  clear h ho hq hv
  go_enter Tryz.func86, Tryz.ntmps86
  try simp only [List.append_eq, List.cons_append, List.nil_append]
  go_wp2_with fail
  refine (indexVar_is p.vs a.vA (w.heap.size + 1 + 1) a.vc w.heap.size s q _ HQ.out ((H.out.vars.below K0.out (Nat.le_refl _)).more (by omega)) H.out.lim (by simp) (by simp) (by simp; omega)).mono ?_
  rintro e w1 ⟨rfl, hb1⟩
  have KW := Aid.hid (K0.out.trans (hb1.mono K0.out.size))
  have hz := HZ.out.below hb1 HZ.out.lt
  have HZ1 := Aid.hid hz
  have HP := H.out.below KW.out
  have p3 := HP.has.cell 3 _ rfl
  have lt1 := HP.has.lt
  rcases HV.out with ⟨rfl, rfl⟩ | ⟨i, v, rfl, hi, rfl⟩
  · clear hb1 hz HP P0 lt0
    go_wp2_with (refine wpList_store_row rfl 55 _ _ rfl (w.heap.size + 1) _ rfl rfl 55 _ HZ1.out (by kernel_rfl) rfl (by simp [Value.oneCell']) ?_)
    refine bodyPost_ret (v := _) (results_row2 rfl _ _ (w.heap.size + 1) 55 _ (0, 0) _ _ rfl rfl (row_has HZ1.out) Tryz.underlying55 rfl (by kernel_rfl)) rfl ⟨rfl, row_below KW.out (by omega) _⟩
  · have hil : i < p.vs.length := (List.getElem?_eq_some_iff.1 hi).1
    obtain ⟨vb, off, hA, hvb, hc⟩ := Rows.vdr_ HP.vars (by omega)
    rw [hA] at p3
    have c0 := hc i v hi 0 _ rfl
    have c1 := hc i v hi 1 _ rfl
    have c2 := hc i v hi 2 _ rfl
    have c3 := hc i v hi 3 _ rfl
    have c4 := hc i v hi 4 _ rfl
    have c5 := hc i v hi 5 _ rfl
    have c6 := hc i v hi 6 _ rfl
    have c7 := hc i v hi 7 _ rfl
    simp only [Nat.add_zero] at c0
    clear hb1 hz HP P0 lt0 hc hi hA
    go_wp2_with (refine wpList_store_row rfl 55 _ _ rfl (w.heap.size + 1) _ rfl rfl 55 _ HZ1.out (by kernel_rfl) rfl (by simp [Value.oneCell']) ?_)
    refine bodyPost_ret (v := _) (results_row2 rfl _ _ (w.heap.size + 1) 55 _ (0, 0) _ _ rfl rfl (row_has HZ1.out) Tryz.underlying55 rfl (by kernel_rfl)) rfl ⟨rfl, row_below KW.out (by omega) _⟩
end Go.Proofs.YtejifefgmlpclaaGreat
