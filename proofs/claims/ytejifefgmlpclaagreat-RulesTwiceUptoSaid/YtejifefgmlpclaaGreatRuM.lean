/- Slots that are none, or written twice: as walks. -/
import Derived.Test.YtejifefgmlpclaaGreatRuG
import Derived.Test.YtejifefgmlpclaaGreatOrd
import Derived.Test.YtejifefgmlpclaaGreatTyV
import Derived.WalkKit
import Derived.WalkSpells
import Derived.WalkLawsBesides
import Derived.LoopTactic
import Derived.Deep.QuietTactic
import Derived.BigQuiet
import Derived.Below
import Derived.Laws.ResultCell
import Derived.Laws.Tables
import Derived.Laws.Rows
import Derived.Deep.Cut
import Derived.KernelRfl
import Derived.Test.YtejifefgmlpclaaGreatRuI
import Derived.Test.YtejifefgmlpclaaGreatRuSpec
set_option linter.unusedSimpArgs false
set_option linter.unusedVariables false
namespace Go.Proofs.YtejifefgmlpclaaGreat
open Go.RowKit

/-- The map at block b holds f; it has n entries at most. -/
def Slt (w : World) (b n : Nat) (f : Int → Bool) : Prop :=
  ∃ D : DataW Unit, w.ownsMap Tryz.prog 3 (plainElem Tryz.prog 4) b n D ∧ Maps.IsMap D ∧ ∀ m : Int, D.atKey (.int .i64 m) (.lit (.bool false)) = .lit (.bool (f m))
theorem Slt.congr {w : World} {b n : Nat} {f g : Int → Bool} (h : Slt w b n f) (e : ∀ m, f m = g m) : Slt w b n g := by
  obtain ⟨D, h1, h2, h3⟩ := h
  exact ⟨D, h1, h2, fun m => by rw [h3, e]⟩
theorem Slt.lt {w : World} {b n : Nat} {f : Int → Bool} (h : Slt w b n f) : b < w.heap.size := by
  obtain ⟨D, ⟨es, clock, h1, _⟩, _⟩ := h
  exact (Array.getElem?_eq_some_iff.1 h1).1
theorem Slt.made (w : World) : Slt (w.alloc (.map #[] 0)) w.heap.size 0 (fun _ => false) :=
  ⟨.map [], World.ownsMap_made w _ _ _, Maps.isMap_empty, fun m => by simp [DataW.atKey]⟩
theorem Slt.kept {w w' : World} {b n : Nat} {f : Int → Bool} {row : Option Nat} (h : Slt w b n f) (hg : w.grownBy w' row) (hne : some b ≠ row) : Slt w' b n f := by
  obtain ⟨D, h1, h2, h3⟩ := h
  exact ⟨D, h1.kept hg hne, h2, h3⟩
theorem Slt.below {w w' : World} {b n : Nat} {f : Int → Bool} (h : Slt w b n f) (hb : Below w.heap.size w w') : Slt w' b n f :=
  h.kept (row := none) ⟨hb.os, hb.tape, hb.output, hb.size, fun k hk _ => hb.block k hk⟩ (by simp)
set_option maxRecDepth 100000 in
theorem Slt.look {w : World} {b n : Nat} {f : Int → Bool} (h : Slt w b n f) (m : Int) (hm : (Lit.int .i64 m).wf = true) :
    (Instr.lookup 93 (.map (some b)) (.int .i64 m) false).run Tryz.prog w = .ok (.bool (f m)) w := by
  obtain ⟨D, h1, h2, h3⟩ := h
  obtain ⟨v, ps, h4, h5⟩ := h1.lookup (Maps.int_keyed Tryz.underlying3) Tryz.underlying93 (zero_bool w) (plainElem_bool Tryz.underlying4 false) (Maps.keyOf_int_mk Tryz.underlying3 hm)
  rw [h3 m] at h5
  rw [h4, plainElem_bool_inv h5]
theorem Slt.put {w : World} {b n : Nat} {f : Int → Bool} (h : Slt w b n f) (m : Int) (x : Bool) (hm : (Lit.int .i64 m).wf = true) (hn : n < maxLen) :
    ∃ w', (Instr.mapUpdate 93 (.map (some b)) (.int .i64 m) (.bool x)).run Tryz.prog w = .ok () w' ∧ Slt w' b (n + 1) (fun k => if k = m then x else f k) ∧ w.grownBy w' (some b) := by
  obtain ⟨D, h1, h2, h3⟩ := h
  obtain ⟨w', h4, h5, h6⟩ := h1.update (Maps.int_keyed Tryz.underlying3) Tryz.underlying93 hn (Maps.keyOf_int_mk Tryz.underlying3 hm) (plainElem_bool Tryz.underlying4 x)
  refine ⟨w', h4, ⟨_, h5, h2.put _ _, fun k => ?_⟩, h6⟩
  by_cases hk : k = m
  · subst hk
    rw [Maps.atKey_put_same h2 (by trivial)]
    simp
  · rw [Maps.atKey_put_other (by simpa using hk), h3 k]; simp [hk]
def Ru.writes (l : List Vd) (m : Int) : Bool := l.any fun v => v.dir == 2 && v.slot == m
theorem Ru.writes_step {l : List Vd} {k : Nat} {v : Vd} (hv : l[k]? = some v) (m : Int) : Ru.writes (l.take (k + 1)) m = (Ru.writes (l.take k) m || (v.dir == 2 && v.slot == m)) := by
  obtain ⟨hk, rfl⟩ := List.getElem?_eq_some_iff.1 hv
  unfold Ru.writes; rw [List.take_succ_eq_append_getElem hk, List.any_append]; simp only [List.any_cons, List.any_nil, Bool.or_false]
theorem Ru.taken_step {u : List Dk} {k : Nat} {e : Dk} (he : u[k]? = some e) (m : Int) : Ru.taken (u.take (k + 1)) m = (Ru.taken (u.take k) m || (e.kind == 3 && Ru.writes e.vs m)) := by
  obtain ⟨hk, rfl⟩ := List.getElem?_eq_some_iff.1 he
  unfold Ru.taken Ru.writes; rw [List.take_succ_eq_append_getElem hk, List.any_append]; simp only [List.any_cons, List.any_nil, Bool.or_false]
theorem Ru.step_map {tk : Int → Bool} {l : List Vd} {k : Nat} {v : Vd} (hv : l[k]? = some v) {x q : Bool} (hq : (tk v.slot || Ru.writes (l.take k) v.slot) = q) (hx : x = (q || v.dir == 2)) (m : Int) : (if m = v.slot then x else (tk m || Ru.writes (l.take k) m)) = (tk m || Ru.writes (l.take (k + 1)) m) := by
  rw [Ru.writes_step hv]
  by_cases hm : m = v.slot
  · subst hm; rw [if_pos rfl, ← Bool.or_assoc, hq, hx, beq_self_eq_true, Bool.and_true]
  · rw [if_neg hm, show (v.slot == m) = false from by simpa using fun h => hm h.symm]; simp
theorem Ru.step_map2 {A : Int → Bool} {e : Bool} {l : List Vd} {k : Nat} {v : Vd} (hv : l[k]? = some v) (he : e = true) (hd : (v.dir == 2) = true) (m : Int) : (if m = v.slot then true else (A m || (e && Ru.writes (l.take k) m))) = (A m || (e && Ru.writes (l.take (k + 1)) m)) := by
  rw [Ru.writes_step hv, he, hd]
  by_cases hm : m = v.slot
  · subst hm; simp
  · rw [if_neg hm, show (v.slot == m) = false from by simpa using fun h => hm h.symm]; simp
theorem Ru.slots_step {tk : Int → Bool} {l : List Vd} {k : Nat} {v : Vd} (hv : l[k]? = some v) :
    Ru.slotsGo tk (l.take k) (l.drop k) = ((decide (v.dir ≠ 0) && (decide (v.slot < 0) || (decide (v.slot ≥ 8) || (v.dir == 2 && (tk v.slot || Ru.writes (l.take k) v.slot))))) || Ru.slotsGo tk (l.take (k + 1)) (l.drop (k + 1))) := by
  obtain ⟨hk, rfl⟩ := List.getElem?_eq_some_iff.1 hv
  rw [List.drop_eq_getElem_cons hk, Ru.slotsGo, List.take_succ_eq_append_getElem hk]; rfl
theorem Ru.slots_end {tk : Int → Bool} {l : List Vd} {k : Nat} (hk : l.length ≤ k) : Ru.slotsGo tk (l.take k) (l.drop k) = false := by
  rw [List.drop_eq_nil_of_le hk]; rfl
theorem has_grown {w w' : World} {b g : Nat} {xs : List Value} {t : TypeId} (h : Aid.Has w g xs t) (hg : w.grownBy w' (some b)) (hne : g ≠ b) : Aid.Has w' g xs t :=
  (hg.block g h.lt (fun e => hne (Option.some.inj e))).trans h
/-- What the walk of a program's slots asks of a unit. -/
structure SLim (u : List Dk) : Prop where
  n : u.length ≤ 20
  v : ∀ d ∈ u, d.vs.length ≤ 1048576
  wf : ∀ d ∈ u, ∀ v ∈ d.vs, (Lit.int .i64 v.slot).wf = true
set_option maxRecDepth 100000 in
set_option maxHeartbeats 4000000 in
theorem slots_is (u : List Dk) (a : Option Addr) (B cap b i : Nat) (d : Dk) (r : Bool) (w : World) (hr : Ru.slots u i d = r) (hs : SLim u) (hcap : UCap u cap) (hx : Aid.Has w b [.slice a u.length cap, .int .i64 (i : Int), .int .i64 d.kind, .string d.name, .string d.base, .slice d.fA d.faces.length d.fc, .bool d.abs, .bool d.fin, .slice d.vA d.vs.length d.vc, .slice d.mA d.ms.length d.mc, .slice d.bA d.body.length d.bc, .int .i64 d.every, .int .i64 d.first] 50) (hd : u[i]? = some d) (hu : UnitAt w B a u) (hB : B ≤ w.heap.size) :
    Calls Tryz.prog 41 #[.pointer (some ⟨b, 0, none⟩)] w fun z w' => z = .returned (.bool r) ∧ Below w.heap.size w w' := by
  have HS0 : Hid (Ru.slotsGo (Ru.taken (u.take i)) (d.vs.take 0) (d.vs.drop 0) = r) := Aid.hid (by rw [← hr]; rfl)
  have HSL := Aid.hid hs
  have hun := hs.n
  have hic : i ≤ cap := by have := hcap.n; have := (List.getElem?_eq_some_iff.1 hd).1; omega
  have hmem := List.mem_of_getElem? hd
  have HDK := Aid.hid (hu.decls d hmem)
  have smM := HDK.out.smallM; have smV := HDK.out.smallV; have smF := HDK.out.smallF
  have HU := Aid.hid hu; have HX := Aid.hid hx; have HD := Aid.hid hd
  have sm := hu.small
  have hil : i < u.length := (List.getElem?_eq_some_iff.1 hd).1
  clear hr hmem hcap hs hu hx hd
  go_enter Tryz.func41, Tryz.ntmps41
  try simp only [List.append_eq, List.cons_append, List.nil_append]
  have Nx := Aid.hid (HX.out.below ((Below.refl w.heap.size w)) HX.out.lt)
  have hmk := @run_makeMap Tryz.prog
  obtain ⟨mb, hmb⟩ : ∃ mb, w.heap.size = mb := ⟨_, rfl⟩
  obtain ⟨Y, hY⟩ : ∃ Y, w.alloc (.map #[] 0) = Y := ⟨_, rfl⟩
  have HSE := Slt.made w
  rw [hY, hmb] at HSE
  have KY : Below w.heap.size w Y := by rw [← hY]; exact (Below.refl _ _).alloc (Nat.le_refl _) _
  have hmk2 : (Instr.makeMap 93 none).run Tryz.prog w = .ok (.map (some mb)) Y := by rw [hmk, hmb, hY]
  have hmY : mb < Y.heap.size := by rw [← hY, ← hmb]; simp
  have HS1 := Aid.hid HSE; have KY1 := Aid.hid KY; have HMB := Aid.hid hmb; have HMY := Aid.hid hmY
  have hwmb : w.heap.size ≤ mb := by omega
  clear HSE KY hY hmb hmk hmY
  have Nx_0 := Aid.hid (HX.out.below KY1.out HX.out.lt)
  have xx0 := Nx_0.out.cell 0 _ rfl
  have xx1 := Nx_0.out.cell 1 _ rfl
  have lx := Nx_0.out.lt
  obtain ⟨ub, uo, rfl, hub, hc_u⟩ := (HU.out.below KY1.out hB).at_ (by omega)
  clear hc_u
  go_wp2_with fail
  skip
  have HZ := Aid.hid (fun (w' : World) (hSw : Below Y.heap.size Y w') => (⟨(hSw.cell (p := ⟨b, 0, none⟩) lx).trans xx0, (hSw.cell (p := ⟨b, 1, none⟩) lx).trans xx1⟩ : _ ∧ _))
  have hb : Below Y.heap.size Y Y.drew := (Below.refl _ _).drew
  refine Ord.wp_region_all (fun w' => Below Y.heap.size Y w') 12 [(true, 0), (true, 1), (true, 2), (true, 3), (true, 4), (true, 5), (true, 6), (true, 7), (true, 8), (true, 9), (true, 10), (true, 11)] (by kernel_rfl) (by kernel_rfl) (fun _ _ d _ _ h => by cases d <;> exact h) (hb) ?_
  clear hb
  have hb : Below Y.heap.size Y Y.drew := (Below.refl _ _).drew
  generalize Y.drew = wd0 at *
  iterate 12
    apply Ord.walk_light
    next => (simp only [la0, la1, la2]; rfl)
    next => rfl
    next => (intro w' hSw; obtain ⟨z0, z1⟩ := HZ.out w' hSw; clear hSw; go_simp; first | done | with_reducible rfl)
    simp only [Act.put, la3, la4, la5]
  refine Ord.walk_tail ?_; simp only [List.drop_succ_cons, List.drop_zero]
  have hbx := hb
  clear hb HZ
  have HBQ := Aid.hid hbx
  have Kx1 := Aid.hid ((KY1.out).trans (hbx.mono (KY1.out).size))
  have Nx_1 := Aid.hid (Nx_0.out.below hbx Nx_0.out.lt)
  clear xx0 xx1 lx
  clear hbx
  have HS2 := Aid.hid (HS1.out.below HBQ.out)
  go_wp2_with fail
  go_loopw [22] (fun vi wi => ∃ (k : Nat) (n : Nat), vi = .int .i64 k ∧ k ≤ i ∧ n ≤ k * 1048576 ∧ Hid (Slt wi mb n (Ru.taken (u.take k))) ∧ Hid (Below w.heap.size w wi)) (fun vi _ => i - (intOf vi).toNat)
  case atStart => exact ⟨0, 0, rfl, Nat.zero_le _, by omega, Aid.hid (HS2.out.congr fun m => rfl), Aid.hid (Kx1.out)⟩
  case round =>
    obtain ⟨ko, n, rfl, hko, hn, HSW, HB⟩ := hrel
    obtain ⟨wo, rfl⟩ : ∃ x, x = wr := ⟨_, rfl⟩
    have Nx_HB := Aid.hid (HX.out.below HB.out HX.out.lt)
    by_cases hkol : ko < i
    · obtain ⟨ub2, uo2, e2, lub2, hc_e⟩ := (HU.out.below HB.out hB).at_ (by omega)
      obtain ⟨rfl, rfl⟩ : ub = ub2 ∧ uo = uo2 := by simpa using e2
      obtain ⟨e, he⟩ : ∃ e, u[ko]? = some e := ⟨_, List.getElem?_eq_getElem (by omega)⟩
      have HE := Aid.hid he
      have HEK := Aid.hid (HU.out.decls e (List.mem_of_getElem? he))
      have hev := HSL.out.v e (List.mem_of_getElem? he)
      have lle : ub < wo.heap.size := Nat.lt_of_lt_of_le lub2 (Nat.le_trans hB HB.out.size)
      have c0 := hc_e ko e he 0 _ rfl
      have c1 := hc_e ko e he 1 _ rfl
      have c2 := hc_e ko e he 2 _ rfl
      have c3 := hc_e ko e he 3 _ rfl
      have c4 := hc_e ko e he 4 _ rfl
      have c5 := hc_e ko e he 5 _ rfl
      have c6 := hc_e ko e he 6 _ rfl
      have c7 := hc_e ko e he 7 _ rfl
      have c8 := hc_e ko e he 8 _ rfl
      have c9 := hc_e ko e he 9 _ rfl
      have c10 := hc_e ko e he 10 _ rfl
      simp only [Nat.add_zero] at c0
      clear hc_e he lub2 e2
      have hkc : ko < i := hkol
      obtain ⟨X2, hX⟩ : ∃ X, wo.alloc (.cells #[.int .i64 e.kind, .string e.name, .string e.base, .slice e.fA e.faces.length e.fc, .bool e.abs, .bool e.fin, .slice e.vA e.vs.length e.vc, .slice e.mA e.ms.length e.mc, .slice e.bA e.body.length e.bc, .int .i64 e.every, .int .i64 e.first] 34) = X := ⟨_, rfl⟩
      have qe := new_at hX
      have qx := all_at hX Nx_HB.out
      have qqk := below_at hX (HB.out)
      have qqs := below_at0 hX
      have Nx_2 := Aid.hid qx
      have Ne_2 := Aid.hid qe
      have Kx2 := Aid.hid qqk
      have Qs2 := Aid.hid qqs
      clear qqk qqs qx qe
      have xe6 := Ne_2.out.cell 6 _ rfl
      have le := Ne_2.out.lt
      go_wp2_with fail
      (try clear hX)
      clear c0 c1 c2 c3 c4 c5 c6 c7 c8 c9 c10 lle
      have HSX := Aid.hid (HSW.out.below Qs2.out)
      have HOB := Aid.hid HSW.out.lt
      have ekk : ∃ x, (e.kind == 3) = x := ⟨_, rfl⟩
      obtain ⟨ek, hek⟩ := ekk
      have HEKI := Aid.hid hek
      clear hek
      clear xe6 le
      go_loopw [29] (fun vi wi => ∃ (k : Nat) (n2 : Nat), vi = .int .i64 k ∧ k ≤ e.vs.length ∧ n2 ≤ ko * 1048576 + k ∧ Hid (Slt wi mb n2 (fun m => Ru.taken (u.take ko) m || (e.kind == 3 && Ru.writes (e.vs.take k) m))) ∧ Hid (Aid.Has wi wo.heap.size [.int .i64 e.kind, .string e.name, .string e.base, .slice e.fA e.faces.length e.fc, .bool e.abs, .bool e.fin, .slice e.vA e.vs.length e.vc, .slice e.mA e.ms.length e.mc, .slice e.bA e.body.length e.bc, .int .i64 e.every, .int .i64 e.first] 34) ∧ Hid (Below w.heap.size w wi)) (fun vi _ => e.vs.length - (intOf vi).toNat)
      case atStart => exact ⟨0, n, rfl, Nat.zero_le _, Nat.le_trans hn (Nat.le_add_right _ _), Aid.hid (HSX.out.congr fun m => by simp [Ru.writes]), Ne_2, Aid.hid (Kx2.out)⟩
      case round =>
        obtain ⟨l, n2, rfl, hl, hn2, HSV, HVE, HB2⟩ := hrel
        have Nx_HB2 := Aid.hid (HX.out.below HB2.out HX.out.lt)
        by_cases hll : l < e.vs.length
        · obtain ⟨vb, vo, evA, lvb, hc_v⟩ := (HEK.out.vars.below (HB2.out) hB).at_map (by omega)
          obtain ⟨v, hv⟩ : ∃ x, e.vs[l]? = some x := ⟨_, List.getElem?_eq_getElem hll⟩
          have HV := Aid.hid hv
          have llv : vb < wr.heap.size := Nat.lt_of_lt_of_le lvb (Nat.le_trans hB (HB2.out).size)
          have c0 := hc_v l v hv 0 _ rfl
          have c1 := hc_v l v hv 1 _ rfl
          have c2 := hc_v l v hv 2 _ rfl
          have c3 := hc_v l v hv 3 _ rfl
          have c4 := hc_v l v hv 4 _ rfl
          have c5 := hc_v l v hv 5 _ rfl
          have c6 := hc_v l v hv 6 _ rfl
          have c7 := hc_v l v hv 7 _ rfl
          simp only [Nat.add_zero] at c0
          clear hc_v hv lvb
          rw [evA]
          obtain ⟨X3, hX⟩ : ∃ X, wr.alloc (.cells #[.string v.name, .int .i64 v.ty.k, .int .i64 v.ty.lo, .int .i64 v.ty.hi, .string v.ty.name, .int .i64 v.init, .int .i64 v.dir, .int .i64 v.slot] 55) = X := ⟨_, rfl⟩
          have qv := new_at hX
          have qx := all_at hX Nx_HB2.out
          have qe := all_at hX HVE.out
          have qqk := below_at hX (HB2.out)
          have qqs := below_at0 hX
          have Nx_3 := Aid.hid qx
          have Ne_3 := Aid.hid qe
          have Nv_3 := Aid.hid qv
          have Kx3 := Aid.hid qqk
          have Qs3 := Aid.hid qqs
          clear qqk qqs qx qe qv
          have xv6 := Nv_3.out.cell 6 _ rfl
          have xv7 := Nv_3.out.cell 7 _ rfl
          have lv := Nv_3.out.lt
          have xe0 := Ne_3.out.cell 0 _ rfl
          have le := Ne_3.out.lt
          go_upto_region 8 with (fail)
          (try clear hX)
          clear c0 c1 c2 c3 c4 c5 c6 c7 llv
          have HSY := Aid.hid (HSV.out.below Qs3.out)
          have hwf := HSL.out.wf e (List.mem_of_getElem? HE.out) v (List.mem_of_getElem? HV.out)
          obtain ⟨vd, hvd⟩ : ∃ x, (v.dir == 2) = x := ⟨_, rfl⟩
          have HVD := Aid.hid hvd
          have HEK3 := HEKI.out
          cases ek
          · clear hvd
            have e3 := HEKI.out
            clear HEK3
            go_wp2_with fail
            have NX := Aid.hid (HSY.out.congr (g := fun m => Ru.taken (u.take ko) m || (e.kind == 3 && Ru.writes (e.vs.take (l + 1)) m)) fun m => by rw [HEKI.out]; simp)
            go_roundw
            case rel => exact ⟨l + 1, n2, by go_num, by omega, by omega, NX, (by rw [← evA]; exact Ne_3), Aid.hid (Kx3.out)⟩
            case measure => simp [intOf]; omega
          · cases vd
            · go_wp2_with fail
              have NX := Aid.hid (HSY.out.congr (g := fun m => Ru.taken (u.take ko) m || (e.kind == 3 && Ru.writes (e.vs.take (l + 1)) m)) fun m => by rw [Ru.writes_step HV.out, HVD.out]; simp)
              go_roundw
              case rel => exact ⟨l + 1, n2, by go_num, by omega, by omega, NX, (by rw [← evA]; exact Ne_3), Aid.hid (Kx3.out)⟩
              case measure => simp [intOf]; omega
            · obtain ⟨w9, hrun9, hs9, hg9⟩ := HSY.out.put v.slot true hwf (by unfold maxLen; omega)
              have HE9 := Aid.hid (has_grown Ne_3.out hg9 (by have := HOB.out; omega))
              have K9 := Aid.hid ((Kx3.out).grown hg9 (Kx3.out).size (fun q hq => by cases hq; omega))
              have NX := Aid.hid (hs9.congr (g := fun m => Ru.taken (u.take ko) m || (e.kind == 3 && Ru.writes (e.vs.take (l + 1)) m)) (Ru.step_map2 HV.out HEKI.out HVD.out))
              clear hs9 hg9
              go_wp2_with fail
              go_roundw
              case rel => exact ⟨l + 1, n2 + 1, by go_num, by omega, by omega, NX, (by rw [← evA]; exact HE9), Aid.hid (K9.out)⟩
              case measure => simp [intOf]; omega
        · have NX := Aid.hid (HSV.out.congr (g := Ru.taken (u.take (ko + 1))) fun m => (show _ = _ from by have hf : e.vs.take l = e.vs := List.take_of_length_le (by omega); rw [hf]; exact (Ru.taken_step HE.out m).symm))
          go_wp2_with fail
          go_roundw
          case rel => exact ⟨ko + 1, n2, by go_num, by omega, by omega, NX, Aid.hid (HB2.out)⟩
          case measure => simp [intOf]; omega
    · have HSZ : Hid (Slt wo mb n (Ru.taken (u.take i))) := Aid.hid (by have h := HSW.out; rwa [show ko = i by omega] at h)
      have hn0 : n ≤ 20971520 := by omega
      have xx8 := Nx_HB.out.cell 8 _ rfl
      have lx := Nx_HB.out.lt
      go_wp2_with fail
      clear xx8 lx
      go_loopw [52] (fun vi wi => ∃ (k : Nat) (n3 : Nat), vi = .int .i64 k ∧ k ≤ d.vs.length ∧ n3 ≤ 20971520 + k ∧ Hid (Slt wi mb n3 (fun m => Ru.taken (u.take i) m || Ru.writes (d.vs.take k) m)) ∧ Hid (Ru.slotsGo (Ru.taken (u.take i)) (d.vs.take k) (d.vs.drop k) = r) ∧ Hid (Below w.heap.size w wi)) (fun vi _ => d.vs.length - (intOf vi).toNat)
      case atStart => exact ⟨0, n, rfl, Nat.zero_le _, Nat.le_trans hn0 (Nat.le_add_right _ _), Aid.hid (HSZ.out.congr fun m => by simp [Ru.writes]), HS0, Aid.hid (HB.out)⟩
      case round =>
        obtain ⟨l, n3, rfl, hl, hn3, HSV, HGO, HB2⟩ := hrel
        have Nx_HB2 := Aid.hid (HX.out.below HB2.out HX.out.lt)
        by_cases hll : l < d.vs.length
        · obtain ⟨vb, vo, evA, lvb, hc_v⟩ := (HDK.out.vars.below (HB2.out) hB).at_map (by omega)
          obtain ⟨v, hv⟩ : ∃ x, d.vs[l]? = some x := ⟨_, List.getElem?_eq_getElem hll⟩
          have HV := Aid.hid hv
          have llv : vb < wr.heap.size := Nat.lt_of_lt_of_le lvb (Nat.le_trans hB (HB2.out).size)
          have c0 := hc_v l v hv 0 _ rfl
          have c1 := hc_v l v hv 1 _ rfl
          have c2 := hc_v l v hv 2 _ rfl
          have c3 := hc_v l v hv 3 _ rfl
          have c4 := hc_v l v hv 4 _ rfl
          have c5 := hc_v l v hv 5 _ rfl
          have c6 := hc_v l v hv 6 _ rfl
          have c7 := hc_v l v hv 7 _ rfl
          simp only [Nat.add_zero] at c0
          clear hc_v hv lvb
          rw [evA]
          obtain ⟨X2, hX⟩ : ∃ X, wr.alloc (.cells #[.string v.name, .int .i64 v.ty.k, .int .i64 v.ty.lo, .int .i64 v.ty.hi, .string v.ty.name, .int .i64 v.init, .int .i64 v.dir, .int .i64 v.slot] 55) = X := ⟨_, rfl⟩
          have qv := new_at hX
          have qx := all_at hX Nx_HB2.out
          have qqk := below_at hX (HB2.out)
          have qqs := below_at0 hX
          have Nx_2 := Aid.hid qx
          have Nv_2 := Aid.hid qv
          have Kx2 := Aid.hid qqk
          have Qs2 := Aid.hid qqs
          clear qqk qqs qx qv
          have xv6 := Nv_2.out.cell 6 _ rfl
          have xv7 := Nv_2.out.cell 7 _ rfl
          have lv := Nv_2.out.lt
          go_upto_region 15 with (fail)
          (try clear hX)
          clear c0 c1 c2 c3 c4 c5 c6 c7 llv
          have HSY := Aid.hid (HSV.out.below Qs2.out)
          have hwf := HSL.out.wf d (List.mem_of_getElem? HD.out) v (List.mem_of_getElem? HV.out)
          have hlook := HSY.out.look v.slot hwf
          have hdv := HSL.out.v d (List.mem_of_getElem? HD.out)
          obtain ⟨q, hq⟩ : ∃ q, (Ru.taken (u.take i) v.slot || Ru.writes (d.vs.take l) v.slot) = q := ⟨_, rfl⟩
          have HQ := Aid.hid hq
          (try dsimp only at hlook)
          rw [hq] at hlook
          have HST := HGO.out
          rw [Ru.slots_step HV.out, hq] at HST
          have HST2 := Aid.hid HST
          clear HST hq
          by_cases h0 : v.dir = 0
          · have f0 : (v.dir != 0) = false := by simp [h0]
            have f2 : (v.dir == 2) = false := by simp [h0]
            have g0 : decide (v.dir ≠ 0) = false := by simp [h0]
            clear h0
            cases q
            · obtain ⟨w9, hrun9, hs9, hg9⟩ := HSY.out.put v.slot false hwf (by unfold maxLen; omega)
              have K9 := Aid.hid ((Kx2.out).grown hg9 (Kx2.out).size (fun q hq => by cases hq; omega))
              have NX := Aid.hid (hs9.congr (g := fun m => Ru.taken (u.take i) m || Ru.writes (d.vs.take (l + 1)) m) (Ru.step_map HV.out HQ.out (by simp [*])))
              have NG : Hid (Ru.slotsGo (Ru.taken (u.take i)) (d.vs.take (l + 1)) (d.vs.drop (l + 1)) = r) := Aid.hid (by rw [← HST2.out]; simp [*])
              clear hs9 hg9
              go_wp2_with fail
              go_roundw
              case rel => exact ⟨l + 1, n3 + 1, by go_num, by omega, by omega, NX, NG, Aid.hid (K9.out)⟩
              case measure => simp [intOf]; omega
            · obtain ⟨w9, hrun9, hs9, hg9⟩ := HSY.out.put v.slot true hwf (by unfold maxLen; omega)
              have K9 := Aid.hid ((Kx2.out).grown hg9 (Kx2.out).size (fun q hq => by cases hq; omega))
              have NX := Aid.hid (hs9.congr (g := fun m => Ru.taken (u.take i) m || Ru.writes (d.vs.take (l + 1)) m) (Ru.step_map HV.out HQ.out (by simp [*])))
              have NG : Hid (Ru.slotsGo (Ru.taken (u.take i)) (d.vs.take (l + 1)) (d.vs.drop (l + 1)) = r) := Aid.hid (by rw [← HST2.out]; simp [*])
              clear hs9 hg9
              go_wp2_with fail
              go_roundw
              case rel => exact ⟨l + 1, n3 + 1, by go_num, by omega, by omega, NX, NG, Aid.hid (K9.out)⟩
              case measure => simp [intOf]; omega
          · have f0 : (v.dir != 0) = true := by simpa using h0
            have g0 : decide (v.dir ≠ 0) = true := by simpa using h0
            clear h0
            by_cases hs0 : v.slot < 0
            · have s0 : decide (v.slot < 0) = true := decide_eq_true hs0
              obtain rfl : true = r := by rw [← HST2.out]; simp [*]
              go_wp2_with fail
              go_ret
              exact ⟨rfl, Kx2.out⟩
            · have s0 : decide (v.slot < 0) = false := decide_eq_false hs0
              by_cases hs8 : 8 ≤ v.slot
              · have s8 : decide (8 ≤ v.slot) = true := decide_eq_true hs8
                have s8' : decide (v.slot ≥ 8) = true := s8
                obtain rfl : true = r := by rw [← HST2.out]; simp [*]
                go_wp2_with fail
                go_ret
                exact ⟨rfl, Kx2.out⟩
              · have s8 : decide (8 ≤ v.slot) = false := decide_eq_false hs8
                have s8' : decide (v.slot ≥ 8) = false := s8
                obtain ⟨vd, hvd⟩ : ∃ x, (v.dir == 2) = x := ⟨_, rfl⟩
                cases vd
                all_goals cases q
                · obtain ⟨w9, hrun9, hs9, hg9⟩ := HSY.out.put v.slot false hwf (by unfold maxLen; omega)
                  have K9 := Aid.hid ((Kx2.out).grown hg9 (Kx2.out).size (fun q hq => by cases hq; omega))
                  have NX := Aid.hid (hs9.congr (g := fun m => Ru.taken (u.take i) m || Ru.writes (d.vs.take (l + 1)) m) (Ru.step_map HV.out HQ.out (by simp [*])))
                  have NG : Hid (Ru.slotsGo (Ru.taken (u.take i)) (d.vs.take (l + 1)) (d.vs.drop (l + 1)) = r) := Aid.hid (by rw [← HST2.out]; simp [*])
                  clear hs9 hg9
                  go_wp2_with fail
                  go_roundw
                  case rel => exact ⟨l + 1, n3 + 1, by go_num, by omega, by omega, NX, NG, Aid.hid (K9.out)⟩
                  case measure => simp [intOf]; omega
                · obtain ⟨w9, hrun9, hs9, hg9⟩ := HSY.out.put v.slot true hwf (by unfold maxLen; omega)
                  have K9 := Aid.hid ((Kx2.out).grown hg9 (Kx2.out).size (fun q hq => by cases hq; omega))
                  have NX := Aid.hid (hs9.congr (g := fun m => Ru.taken (u.take i) m || Ru.writes (d.vs.take (l + 1)) m) (Ru.step_map HV.out HQ.out (by simp [*])))
                  have NG : Hid (Ru.slotsGo (Ru.taken (u.take i)) (d.vs.take (l + 1)) (d.vs.drop (l + 1)) = r) := Aid.hid (by rw [← HST2.out]; simp [*])
                  clear hs9 hg9
                  go_wp2_with fail
                  go_roundw
                  case rel => exact ⟨l + 1, n3 + 1, by go_num, by omega, by omega, NX, NG, Aid.hid (K9.out)⟩
                  case measure => simp [intOf]; omega
                · obtain ⟨w9, hrun9, hs9, hg9⟩ := HSY.out.put v.slot true hwf (by unfold maxLen; omega)
                  have K9 := Aid.hid ((Kx2.out).grown hg9 (Kx2.out).size (fun q hq => by cases hq; omega))
                  have NX := Aid.hid (hs9.congr (g := fun m => Ru.taken (u.take i) m || Ru.writes (d.vs.take (l + 1)) m) (Ru.step_map HV.out HQ.out (by simp [*])))
                  have NG : Hid (Ru.slotsGo (Ru.taken (u.take i)) (d.vs.take (l + 1)) (d.vs.drop (l + 1)) = r) := Aid.hid (by rw [← HST2.out]; simp [*])
                  clear hs9 hg9
                  go_wp2_with fail
                  go_roundw
                  case rel => exact ⟨l + 1, n3 + 1, by go_num, by omega, by omega, NX, NG, Aid.hid (K9.out)⟩
                  case measure => simp [intOf]; omega
                · obtain rfl : true = r := by rw [← HST2.out]; simp [*]
                  go_wp2_with fail
                  go_ret
                  exact ⟨rfl, Kx2.out⟩
        · obtain rfl : false = r := by rw [← HGO.out]; exact (Ru.slots_end (by omega)).symm
          go_wp2_with fail
          go_ret
          exact ⟨rfl, HB2.out⟩
end Go.Proofs.YtejifefgmlpclaaGreat
/- What is wrong with a program: as walks. -/
namespace Go.Proofs.YtejifefgmlpclaaGreat
open Go.RowKit

theorem dec_ne (a b : Int) : decide (a ≠ b) = (a != b) := by by_cases h : a = b <;> simp [h]
/-- Statements lie, no list of them is too long. -/
def RBody (w : World) (B : Nat) (A : Option Addr) (l : List St) : Prop := ∃ f, StsAt f w B A l ∧ StsLim f l
theorem RBody.below {w w' : World} {B C : Nat} {A : Option Addr} {l : List St} (h : RBody w B A l) (hb : Below C w w') (hC : B ≤ C) : RBody w' B A l := by
  obtain ⟨f, h1, h2⟩ := h
  exact ⟨f, h1.below hb hC, h2⟩
theorem rstmts_is (u : List Dk) (a : Option Addr) (B cap : Nat) (x y : Int) (A : Option Addr) (l : List St) (c : Nat) (r : Int) (w : World) (hr : Ru.stmts u x y l = r) (hu : UnitAt w B a u) (hB : B ≤ w.heap.size) (hl : ULim u) (hs : RBody w B A l) :
    Calls Tryz.prog 39 #[.agg #[.slice a u.length cap], .agg #[.int .i64 x, .int .i64 y], .slice A l.length c] w fun z w' => z = .returned (.int .i64 r) ∧ Below w.heap.size w w' := by
  obtain ⟨f, h1, h2⟩ := hs
  exact Stmts_is f u a B cap x y A l c r w (by rw [← hr]; unfold Ty.Stmts Ru.stmts; cases Pl.at u x y <;> rfl) hu hB hl h2 h1
set_option maxRecDepth 100000 in
set_option maxHeartbeats 4000000 in
theorem program_is (u : List Dk) (a : Option Addr) (B cap b i : Nat) (d : Dk) (r : Int) (w : World) (hr : Ru.program u i d = r) (hl : RLim u) (hs : SLim u) (hbd : RBody w B d.bA d.body) (hcap : UCap u cap) (hx : Aid.Has w b [.slice a u.length cap, .int .i64 (i : Int), .int .i64 d.kind, .string d.name, .string d.base, .slice d.fA d.faces.length d.fc, .bool d.abs, .bool d.fin, .slice d.vA d.vs.length d.vc, .slice d.mA d.ms.length d.mc, .slice d.bA d.body.length d.bc, .int .i64 d.every, .int .i64 d.first] 50) (hd : u[i]? = some d) (hu : UnitAt w B a u) (hB : B ≤ w.heap.size) :
    Calls Tryz.prog 17 #[.pointer (some ⟨b, 0, none⟩)] w fun z w' => z = .returned (.int .i64 r) ∧ Below w.heap.size w w' := by
  have HR := Aid.hid hr
  have HL := Aid.hid hl; have HSL := Aid.hid hs; have HCP := Aid.hid hcap; have HBD := Aid.hid hbd
  have hmem := List.mem_of_getElem? hd
  have HDK := Aid.hid (hu.decls d hmem)
  have smM := HDK.out.smallM; have smV := HDK.out.smallV; have smF := HDK.out.smallF
  have HU := Aid.hid hu; have HX := Aid.hid hx; have HD := Aid.hid hd
  have sm := hu.small
  have hil : i < u.length := (List.getElem?_eq_some_iff.1 hd).1
  clear hr hmem hl hs hcap hbd hu hx hd
  go_enter Tryz.func17, Tryz.ntmps17
  try simp only [List.append_eq, List.cons_append, List.nil_append]
  have Nx := Aid.hid (HX.out.below ((Below.refl w.heap.size w)) HX.out.lt)
  have xx0 := Nx.out.cell 0 _ rfl
  have xx1 := Nx.out.cell 1 _ rfl
  have xx8 := Nx.out.cell 8 _ rfl
  have xx10 := Nx.out.cell 10 _ rfl
  have lx := Nx.out.lt
  go_wp2_with fail
  clear xx0 xx1 xx8 xx10 lx
  go_loopw [11] (fun vi wi => ∃ k : Nat, vi = .int .i64 k ∧ k ≤ d.vs.length ∧ Hid (∀ j, j < k → ∀ e, d.vs[j]? = some e → Ru.badVar u e = false) ∧ Hid (Below w.heap.size w wi)) (fun vi _ => d.vs.length - (intOf vi).toNat)
  case atStart => exact ⟨0, rfl, Nat.zero_le _, Aid.hid (fun j hj => by omega), Aid.hid (Below.refl _ _)⟩
  case round =>
    obtain ⟨k, rfl, hk, NO, HB⟩ := hrel
    have KHB := Aid.hid (((Below.refl w.heap.size w)).trans (HB.out.mono ((Below.refl w.heap.size w)).size))
    have Nx_HB := Aid.hid (Nx.out.below HB.out Nx.out.lt)
    by_cases hkl : k < d.vs.length
    · obtain ⟨vb, vo, evA, lvb, hc_v⟩ := (HDK.out.vars.below (KHB.out) hB).at_map (by omega)
      obtain ⟨v, hv⟩ : ∃ x, d.vs[k]? = some x := ⟨_, List.getElem?_eq_getElem hkl⟩
      have HV := Aid.hid hv
      have llv : vb < wr.heap.size := Nat.lt_of_lt_of_le lvb (Nat.le_trans hB (KHB.out).size)
      have c0 := hc_v k v hv 0 _ rfl
      have c1 := hc_v k v hv 1 _ rfl
      have c2 := hc_v k v hv 2 _ rfl
      have c3 := hc_v k v hv 3 _ rfl
      have c4 := hc_v k v hv 4 _ rfl
      have c5 := hc_v k v hv 5 _ rfl
      have c6 := hc_v k v hv 6 _ rfl
      have c7 := hc_v k v hv 7 _ rfl
      simp only [Nat.add_zero] at c0
      clear hc_v hv lvb
      rw [evA]
      obtain ⟨X1, hX⟩ : ∃ X, wr.alloc (.cells #[.string v.name, .int .i64 v.ty.k, .int .i64 v.ty.lo, .int .i64 v.ty.hi, .string v.ty.name, .int .i64 v.init, .int .i64 v.dir, .int .i64 v.slot] 55) = X := ⟨_, rfl⟩
      have qv := new_at hX
      have qx := all_at hX Nx_HB.out
      have qqk := below_at hX (KHB.out)
      have qqs := below_at0 hX
      have Nx_1 := Aid.hid qx
      have Nv_1 := Aid.hid qv
      have Kx1 := Aid.hid qqk
      have Qs1 := Aid.hid qqs
      clear qqk qqs qx qv
      have xv1 := Nv_1.out.cell 1 _ rfl
      have xv2 := Nv_1.out.cell 2 _ rfl
      have xv3 := Nv_1.out.cell 3 _ rfl
      have xv4 := Nv_1.out.cell 4 _ rfl
      have xv6 := Nv_1.out.cell 6 _ rfl
      have lv := Nv_1.out.lt
      have xx0 := Nx_1.out.cell 0 _ rfl
      have lx := Nx_1.out.lt
      have R2_1 := Aid.hid ((HB).out.trans (Qs1.out.mono (HB).out.size))
      go_upto_region 4 with (fail)
      (try clear hX)
      clear c0 c1 c2 c3 c4 c5 c6 c7 llv
      obtain ⟨q, hq⟩ : ∃ q, Ru.may u v.ty 2 = q := ⟨_, rfl⟩
      have HQ := Aid.hid hq
      clear hq
      cases q
      · have HZ := Aid.hid (fun (w' : World) (hSw : Below X1.heap.size X1 w') => (⟨(hSw.cell (p := ⟨wr.heap.size, 1, none⟩) lv).trans xv1, (hSw.cell (p := ⟨wr.heap.size, 2, none⟩) lv).trans xv2, (hSw.cell (p := ⟨wr.heap.size, 3, none⟩) lv).trans xv3, (hSw.cell (p := ⟨wr.heap.size, 4, none⟩) lv).trans xv4, (hSw.cell (p := ⟨wr.heap.size, 6, none⟩) lv).trans xv6, (hSw.cell (p := ⟨b, 0, none⟩) lx).trans xx0⟩ : _ ∧ _ ∧ _ ∧ _ ∧ _ ∧ _))
        have hb : Below X1.heap.size X1 X1.drew := (Below.refl _ _).drew
        refine Ord.wp_region_all (fun w' => Below X1.heap.size X1 w') 35 [(true, 0), (true, 1), (true, 2), (true, 3), (true, 4), (true, 5), (false, 6), (true, 7), (true, 8), (true, 9), (true, 10), (true, 11), (true, 12), (true, 13), (true, 14), (true, 15), (true, 16), (true, 17), (true, 18), (true, 19), (true, 20), (true, 21), (true, 22), (true, 23), (true, 24), (true, 25), (true, 26), (true, 27), (true, 28), (true, 29), (true, 30), (true, 31), (true, 32), (true, 33), (true, 34)] (by kernel_rfl) (by kernel_rfl) (fun _ _ d _ _ h => by cases d <;> exact h) (hb) ?_
        clear hb
        have hb : Below X1.heap.size X1 X1.drew := (Below.refl _ _).drew
        generalize X1.drew = wd1 at *
        iterate 6
          apply Ord.walk_light
          next => (simp only [la0, la1, la2]; rfl)
          next => rfl
          next => (intro w' hSw; obtain ⟨z0, z1, z2, z3, z4, z5⟩ := HZ.out w' hSw; clear hSw; go_simp; first | done | with_reducible rfl)
          simp only [Act.put, la3, la4, la5]
        apply Ord.walk_heavy
        next => (simp only [la0, la1, la2]; rfl)
        next => rfl
        intro K hK
        go_wp2_with fail
        refine (may_is u _ B cap v.ty 2 _ _ HQ.out (HU.out.below (((Kx1.out).trans (hb.mono (Kx1.out).size))) hB) (Nat.le_trans hB (((Kx1.out).trans (hb.mono (Kx1.out).size))).size)).mono ?_; rintro _ v1_1 ⟨rfl, hb'⟩; dsimp only
        refine hK.out _ _ (hb.trans (hb'.mono hb.size)) (fun hHeld => ?_)
        clear hb hb'
        have hb := hHeld
        clear hK K
        try simp only [Act.put, la3, la4, la5]
        iterate 2
          apply Ord.walk_light
          next => (simp only [la0, la1, la2]; rfl)
          next => rfl
          next => (intro w' hSw; obtain ⟨z0, z1, z2, z3, z4, z5⟩ := HZ.out w' hSw; clear hSw; go_simp; first | done | with_reducible rfl)
          simp only [Act.put, la3, la4, la5]
        iterate 3
          apply Ord.walk_idle
          next => (simp only [la0, la1, la2]; rfl)
          next => rfl
          simp only [Act.put, la3, la4, la5]
        iterate 2
          apply Ord.walk_light
          next => (simp only [la0, la1, la2]; rfl)
          next => rfl
          next => (intro w' hSw; obtain ⟨z0, z1, z2, z3, z4, z5⟩ := HZ.out w' hSw; clear hSw; go_simp; first | done | with_reducible rfl)
          simp only [Act.put, la3, la4, la5]
        iterate 3
          apply Ord.walk_idle
          next => (simp only [la0, la1, la2]; rfl)
          next => rfl
          simp only [Act.put, la3, la4, la5]
        iterate 2
          apply Ord.walk_light
          next => (simp only [la0, la1, la2]; rfl)
          next => rfl
          next => (intro w' hSw; obtain ⟨z0, z1, z2, z3, z4, z5⟩ := HZ.out w' hSw; clear hSw; go_simp; first | done | with_reducible rfl)
          simp only [Act.put, la3, la4, la5]
        iterate 15
          apply Ord.walk_idle
          next => (simp only [la0, la1, la2]; rfl)
          next => rfl
          simp only [Act.put, la3, la4, la5]
        apply Ord.walk_light
        next => (simp only [la0, la1, la2]; rfl)
        next => rfl
        next => (intro w' hSw; obtain ⟨z0, z1, z2, z3, z4, z5⟩ := HZ.out w' hSw; clear hSw; go_simp; first | done | with_reducible rfl)
        simp only [Act.put, la3, la4, la5]
        refine Ord.walk_tail ?_; simp only [List.drop_succ_cons, List.drop_zero]
        have hbx := hb
        clear hb HZ
        have R2_2 := Aid.hid ((R2_1).out.trans (hbx.mono (R2_1).out.size))
        have Kx2 := Aid.hid ((Kx1.out).trans (hbx.mono (Kx1.out).size))
        have Nx_2 := Aid.hid (Nx_1.out.below hbx Nx_1.out.lt)
        have Nv_2 := Aid.hid (Nv_1.out.below hbx Nv_1.out.lt)
        clear xv1 xv2 xv3 xv4 xv6 lv xx0 lx
        clear hbx
        obtain rfl : 9 = r := by rw [← HR.out, Ru.program, if_pos (any_hit HV.out (by simp [Ru.badVar, HQ.out, *]))]
        go_wp2_with fail
        go_ret
        exact ⟨rfl, Kx2.out⟩
      · by_cases h0 : v.dir < 0
        · have d0 : decide (v.dir < 0) = true := decide_eq_true h0
          have HZ := Aid.hid (fun (w' : World) (hSw : Below X1.heap.size X1 w') => (⟨(hSw.cell (p := ⟨wr.heap.size, 1, none⟩) lv).trans xv1, (hSw.cell (p := ⟨wr.heap.size, 2, none⟩) lv).trans xv2, (hSw.cell (p := ⟨wr.heap.size, 3, none⟩) lv).trans xv3, (hSw.cell (p := ⟨wr.heap.size, 4, none⟩) lv).trans xv4, (hSw.cell (p := ⟨wr.heap.size, 6, none⟩) lv).trans xv6, (hSw.cell (p := ⟨b, 0, none⟩) lx).trans xx0⟩ : _ ∧ _ ∧ _ ∧ _ ∧ _ ∧ _))
          have hb : Below X1.heap.size X1 X1.drew := (Below.refl _ _).drew
          refine Ord.wp_region_all (fun w' => Below X1.heap.size X1 w') 35 [(true, 0), (true, 1), (true, 2), (true, 3), (true, 4), (true, 5), (false, 6), (true, 7), (true, 8), (true, 9), (true, 10), (true, 11), (true, 12), (true, 13), (true, 14), (true, 15), (true, 16), (true, 17), (true, 18), (true, 19), (true, 20), (true, 21), (true, 22), (true, 23), (true, 24), (true, 25), (true, 26), (true, 27), (true, 28), (true, 29), (true, 30), (true, 31), (true, 32), (true, 33), (true, 34)] (by kernel_rfl) (by kernel_rfl) (fun _ _ d _ _ h => by cases d <;> exact h) (hb) ?_
          clear hb
          have hb : Below X1.heap.size X1 X1.drew := (Below.refl _ _).drew
          generalize X1.drew = wd1 at *
          iterate 6
            apply Ord.walk_light
            next => (simp only [la0, la1, la2]; rfl)
            next => rfl
            next => (intro w' hSw; obtain ⟨z0, z1, z2, z3, z4, z5⟩ := HZ.out w' hSw; clear hSw; go_simp; first | done | with_reducible rfl)
            simp only [Act.put, la3, la4, la5]
          apply Ord.walk_heavy
          next => (simp only [la0, la1, la2]; rfl)
          next => rfl
          intro K hK
          go_wp2_with fail
          refine (may_is u _ B cap v.ty 2 _ _ HQ.out (HU.out.below (((Kx1.out).trans (hb.mono (Kx1.out).size))) hB) (Nat.le_trans hB (((Kx1.out).trans (hb.mono (Kx1.out).size))).size)).mono ?_; rintro _ v1_1 ⟨rfl, hb'⟩; dsimp only
          refine hK.out _ _ (hb.trans (hb'.mono hb.size)) (fun hHeld => ?_)
          clear hb hb'
          have hb := hHeld
          clear hK K
          try simp only [Act.put, la3, la4, la5]
          iterate 7
            apply Ord.walk_light
            next => (simp only [la0, la1, la2]; rfl)
            next => rfl
            next => (intro w' hSw; obtain ⟨z0, z1, z2, z3, z4, z5⟩ := HZ.out w' hSw; clear hSw; go_simp; first | done | with_reducible rfl)
            simp only [Act.put, la3, la4, la5]
          iterate 3
            apply Ord.walk_idle
            next => (simp only [la0, la1, la2]; rfl)
            next => rfl
            simp only [Act.put, la3, la4, la5]
          iterate 2
            apply Ord.walk_light
            next => (simp only [la0, la1, la2]; rfl)
            next => rfl
            next => (intro w' hSw; obtain ⟨z0, z1, z2, z3, z4, z5⟩ := HZ.out w' hSw; clear hSw; go_simp; first | done | with_reducible rfl)
            simp only [Act.put, la3, la4, la5]
          iterate 15
            apply Ord.walk_idle
            next => (simp only [la0, la1, la2]; rfl)
            next => rfl
            simp only [Act.put, la3, la4, la5]
          apply Ord.walk_light
          next => (simp only [la0, la1, la2]; rfl)
          next => rfl
          next => (intro w' hSw; obtain ⟨z0, z1, z2, z3, z4, z5⟩ := HZ.out w' hSw; clear hSw; go_simp; first | done | with_reducible rfl)
          simp only [Act.put, la3, la4, la5]
          refine Ord.walk_tail ?_; simp only [List.drop_succ_cons, List.drop_zero]
          have hbx := hb
          clear hb HZ
          have R2_2 := Aid.hid ((R2_1).out.trans (hbx.mono (R2_1).out.size))
          have Kx2 := Aid.hid ((Kx1.out).trans (hbx.mono (Kx1.out).size))
          have Nx_2 := Aid.hid (Nx_1.out.below hbx Nx_1.out.lt)
          have Nv_2 := Aid.hid (Nv_1.out.below hbx Nv_1.out.lt)
          clear xv1 xv2 xv3 xv4 xv6 lv xx0 lx
          clear hbx
          obtain rfl : 9 = r := by rw [← HR.out, Ru.program, if_pos (any_hit HV.out (by simp [Ru.badVar, HQ.out, *]))]
          go_wp2_with fail
          go_ret
          exact ⟨rfl, Kx2.out⟩
        · have d0 : decide (v.dir < 0) = false := decide_eq_false h0
          by_cases h2 : 2 < v.dir
          · have d2 : decide (2 < v.dir) = true := decide_eq_true h2
            have HZ := Aid.hid (fun (w' : World) (hSw : Below X1.heap.size X1 w') => (⟨(hSw.cell (p := ⟨wr.heap.size, 1, none⟩) lv).trans xv1, (hSw.cell (p := ⟨wr.heap.size, 2, none⟩) lv).trans xv2, (hSw.cell (p := ⟨wr.heap.size, 3, none⟩) lv).trans xv3, (hSw.cell (p := ⟨wr.heap.size, 4, none⟩) lv).trans xv4, (hSw.cell (p := ⟨wr.heap.size, 6, none⟩) lv).trans xv6, (hSw.cell (p := ⟨b, 0, none⟩) lx).trans xx0⟩ : _ ∧ _ ∧ _ ∧ _ ∧ _ ∧ _))
            have hb : Below X1.heap.size X1 X1.drew := (Below.refl _ _).drew
            refine Ord.wp_region_all (fun w' => Below X1.heap.size X1 w') 35 [(true, 0), (true, 1), (true, 2), (true, 3), (true, 4), (true, 5), (false, 6), (true, 7), (true, 8), (true, 9), (true, 10), (true, 11), (true, 12), (true, 13), (true, 14), (true, 15), (true, 16), (true, 17), (true, 18), (true, 19), (true, 20), (true, 21), (true, 22), (true, 23), (true, 24), (true, 25), (true, 26), (true, 27), (true, 28), (true, 29), (true, 30), (true, 31), (true, 32), (true, 33), (true, 34)] (by kernel_rfl) (by kernel_rfl) (fun _ _ d _ _ h => by cases d <;> exact h) (hb) ?_
            clear hb
            have hb : Below X1.heap.size X1 X1.drew := (Below.refl _ _).drew
            generalize X1.drew = wd1 at *
            iterate 6
              apply Ord.walk_light
              next => (simp only [la0, la1, la2]; rfl)
              next => rfl
              next => (intro w' hSw; obtain ⟨z0, z1, z2, z3, z4, z5⟩ := HZ.out w' hSw; clear hSw; go_simp; first | done | with_reducible rfl)
              simp only [Act.put, la3, la4, la5]
            apply Ord.walk_heavy
            next => (simp only [la0, la1, la2]; rfl)
            next => rfl
            intro K hK
            go_wp2_with fail
            refine (may_is u _ B cap v.ty 2 _ _ HQ.out (HU.out.below (((Kx1.out).trans (hb.mono (Kx1.out).size))) hB) (Nat.le_trans hB (((Kx1.out).trans (hb.mono (Kx1.out).size))).size)).mono ?_; rintro _ v1_1 ⟨rfl, hb'⟩; dsimp only
            refine hK.out _ _ (hb.trans (hb'.mono hb.size)) (fun hHeld => ?_)
            clear hb hb'
            have hb := hHeld
            clear hK K
            try simp only [Act.put, la3, la4, la5]
            iterate 12
              apply Ord.walk_light
              next => (simp only [la0, la1, la2]; rfl)
              next => rfl
              next => (intro w' hSw; obtain ⟨z0, z1, z2, z3, z4, z5⟩ := HZ.out w' hSw; clear hSw; go_simp; first | done | with_reducible rfl)
              simp only [Act.put, la3, la4, la5]
            iterate 15
              apply Ord.walk_idle
              next => (simp only [la0, la1, la2]; rfl)
              next => rfl
              simp only [Act.put, la3, la4, la5]
            apply Ord.walk_light
            next => (simp only [la0, la1, la2]; rfl)
            next => rfl
            next => (intro w' hSw; obtain ⟨z0, z1, z2, z3, z4, z5⟩ := HZ.out w' hSw; clear hSw; go_simp; first | done | with_reducible rfl)
            simp only [Act.put, la3, la4, la5]
            refine Ord.walk_tail ?_; simp only [List.drop_succ_cons, List.drop_zero]
            have hbx := hb
            clear hb HZ
            have R2_2 := Aid.hid ((R2_1).out.trans (hbx.mono (R2_1).out.size))
            have Kx2 := Aid.hid ((Kx1.out).trans (hbx.mono (Kx1.out).size))
            have Nx_2 := Aid.hid (Nx_1.out.below hbx Nx_1.out.lt)
            have Nv_2 := Aid.hid (Nv_1.out.below hbx Nv_1.out.lt)
            clear xv1 xv2 xv3 xv4 xv6 lv xx0 lx
            clear hbx
            obtain rfl : 9 = r := by rw [← HR.out, Ru.program, if_pos (any_hit HV.out (by simp [Ru.badVar, HQ.out, *]))]
            go_wp2_with fail
            go_ret
            exact ⟨rfl, Kx2.out⟩
          · have d2 : decide (2 < v.dir) = false := decide_eq_false h2
            have d2' : decide (v.dir > 2) = false := d2
            obtain ⟨f0, hf0⟩ : ∃ x, (v.dir != 0) = x := ⟨_, rfl⟩
            have e0 : decide (v.dir ≠ 0) = f0 := by rw [← hf0]; exact dec_ne _ _
            clear h0 h2
            cases f0
            · have HZ := Aid.hid (fun (w' : World) (hSw : Below X1.heap.size X1 w') => (⟨(hSw.cell (p := ⟨wr.heap.size, 1, none⟩) lv).trans xv1, (hSw.cell (p := ⟨wr.heap.size, 2, none⟩) lv).trans xv2, (hSw.cell (p := ⟨wr.heap.size, 3, none⟩) lv).trans xv3, (hSw.cell (p := ⟨wr.heap.size, 4, none⟩) lv).trans xv4, (hSw.cell (p := ⟨wr.heap.size, 6, none⟩) lv).trans xv6, (hSw.cell (p := ⟨b, 0, none⟩) lx).trans xx0⟩ : _ ∧ _ ∧ _ ∧ _ ∧ _ ∧ _))
              have hb : Below X1.heap.size X1 X1.drew := (Below.refl _ _).drew
              refine Ord.wp_region_all (fun w' => Below X1.heap.size X1 w') 35 [(true, 0), (true, 1), (true, 2), (true, 3), (true, 4), (true, 5), (false, 6), (true, 7), (true, 8), (true, 9), (true, 10), (true, 11), (true, 12), (true, 13), (true, 14), (true, 15), (true, 16), (true, 17), (true, 18), (true, 19), (true, 20), (true, 21), (true, 22), (true, 23), (true, 24), (true, 25), (true, 26), (true, 27), (true, 28), (true, 29), (true, 30), (true, 31), (true, 32), (true, 33), (true, 34)] (by kernel_rfl) (by kernel_rfl) (fun _ _ d _ _ h => by cases d <;> exact h) (hb) ?_
              clear hb
              have hb : Below X1.heap.size X1 X1.drew := (Below.refl _ _).drew
              generalize X1.drew = wd1 at *
              iterate 6
                apply Ord.walk_light
                next => (simp only [la0, la1, la2]; rfl)
                next => rfl
                next => (intro w' hSw; obtain ⟨z0, z1, z2, z3, z4, z5⟩ := HZ.out w' hSw; clear hSw; go_simp; first | done | with_reducible rfl)
                simp only [Act.put, la3, la4, la5]
              apply Ord.walk_heavy
              next => (simp only [la0, la1, la2]; rfl)
              next => rfl
              intro K hK
              go_wp2_with fail
              refine (may_is u _ B cap v.ty 2 _ _ HQ.out (HU.out.below (((Kx1.out).trans (hb.mono (Kx1.out).size))) hB) (Nat.le_trans hB (((Kx1.out).trans (hb.mono (Kx1.out).size))).size)).mono ?_; rintro _ v1_1 ⟨rfl, hb'⟩; dsimp only
              refine hK.out _ _ (hb.trans (hb'.mono hb.size)) (fun hHeld => ?_)
              clear hb hb'
              have hb := hHeld
              clear hK K
              try simp only [Act.put, la3, la4, la5]
              iterate 16
                apply Ord.walk_light
                next => (simp only [la0, la1, la2]; rfl)
                next => rfl
                next => (intro w' hSw; obtain ⟨z0, z1, z2, z3, z4, z5⟩ := HZ.out w' hSw; clear hSw; go_simp; first | done | with_reducible rfl)
                simp only [Act.put, la3, la4, la5]
              iterate 4
                apply Ord.walk_idle
                next => (simp only [la0, la1, la2]; rfl)
                next => rfl
                simp only [Act.put, la3, la4, la5]
              iterate 2
                apply Ord.walk_light
                next => (simp only [la0, la1, la2]; rfl)
                next => rfl
                next => (intro w' hSw; obtain ⟨z0, z1, z2, z3, z4, z5⟩ := HZ.out w' hSw; clear hSw; go_simp; first | done | with_reducible rfl)
                simp only [Act.put, la3, la4, la5]
              iterate 4
                apply Ord.walk_idle
                next => (simp only [la0, la1, la2]; rfl)
                next => rfl
                simp only [Act.put, la3, la4, la5]
              iterate 2
                apply Ord.walk_light
                next => (simp only [la0, la1, la2]; rfl)
                next => rfl
                next => (intro w' hSw; obtain ⟨z0, z1, z2, z3, z4, z5⟩ := HZ.out w' hSw; clear hSw; go_simp; first | done | with_reducible rfl)
                simp only [Act.put, la3, la4, la5]
              refine Ord.walk_tail ?_; simp only [List.drop_succ_cons, List.drop_zero]
              have hbx := hb
              clear hb HZ
              have R2_2 := Aid.hid ((R2_1).out.trans (hbx.mono (R2_1).out.size))
              have Kx2 := Aid.hid ((Kx1.out).trans (hbx.mono (Kx1.out).size))
              have Nx_2 := Aid.hid (Nx_1.out.below hbx Nx_1.out.lt)
              have Nv_2 := Aid.hid (Nv_1.out.below hbx Nv_1.out.lt)
              clear xv1 xv2 xv3 xv4 xv6 lv xx0 lx
              clear hbx
              have NX := Aid.hid (no_step NO.out HV.out (p := Ru.badVar u) (by simp [Ru.badVar, HQ.out, *]))
              go_wp2_with fail
              go_roundw
              case rel => exact ⟨k + 1, by go_num, by omega, NX, R2_2⟩
              case measure => simp [intOf]; omega
            · obtain ⟨k1, hk1⟩ : ∃ x, (v.ty.k != 1) = x := ⟨_, rfl⟩
              have e1 : decide (v.ty.k ≠ 1) = k1 := by rw [← hk1]; exact dec_ne _ _
              cases k1
              · have HZ := Aid.hid (fun (w' : World) (hSw : Below X1.heap.size X1 w') => (⟨(hSw.cell (p := ⟨wr.heap.size, 1, none⟩) lv).trans xv1, (hSw.cell (p := ⟨wr.heap.size, 2, none⟩) lv).trans xv2, (hSw.cell (p := ⟨wr.heap.size, 3, none⟩) lv).trans xv3, (hSw.cell (p := ⟨wr.heap.size, 4, none⟩) lv).trans xv4, (hSw.cell (p := ⟨wr.heap.size, 6, none⟩) lv).trans xv6, (hSw.cell (p := ⟨b, 0, none⟩) lx).trans xx0⟩ : _ ∧ _ ∧ _ ∧ _ ∧ _ ∧ _))
                have hb : Below X1.heap.size X1 X1.drew := (Below.refl _ _).drew
                refine Ord.wp_region_all (fun w' => Below X1.heap.size X1 w') 35 [(true, 0), (true, 1), (true, 2), (true, 3), (true, 4), (true, 5), (false, 6), (true, 7), (true, 8), (true, 9), (true, 10), (true, 11), (true, 12), (true, 13), (true, 14), (true, 15), (true, 16), (true, 17), (true, 18), (true, 19), (true, 20), (true, 21), (true, 22), (true, 23), (true, 24), (true, 25), (true, 26), (true, 27), (true, 28), (true, 29), (true, 30), (true, 31), (true, 32), (true, 33), (true, 34)] (by kernel_rfl) (by kernel_rfl) (fun _ _ d _ _ h => by cases d <;> exact h) (hb) ?_
                clear hb
                have hb : Below X1.heap.size X1 X1.drew := (Below.refl _ _).drew
                generalize X1.drew = wd1 at *
                iterate 6
                  apply Ord.walk_light
                  next => (simp only [la0, la1, la2]; rfl)
                  next => rfl
                  next => (intro w' hSw; obtain ⟨z0, z1, z2, z3, z4, z5⟩ := HZ.out w' hSw; clear hSw; go_simp; first | done | with_reducible rfl)
                  simp only [Act.put, la3, la4, la5]
                apply Ord.walk_heavy
                next => (simp only [la0, la1, la2]; rfl)
                next => rfl
                intro K hK
                go_wp2_with fail
                refine (may_is u _ B cap v.ty 2 _ _ HQ.out (HU.out.below (((Kx1.out).trans (hb.mono (Kx1.out).size))) hB) (Nat.le_trans hB (((Kx1.out).trans (hb.mono (Kx1.out).size))).size)).mono ?_; rintro _ v1_1 ⟨rfl, hb'⟩; dsimp only
                refine hK.out _ _ (hb.trans (hb'.mono hb.size)) (fun hHeld => ?_)
                clear hb hb'
                have hb := hHeld
                clear hK K
                try simp only [Act.put, la3, la4, la5]
                iterate 22
                  apply Ord.walk_light
                  next => (simp only [la0, la1, la2]; rfl)
                  next => rfl
                  next => (intro w' hSw; obtain ⟨z0, z1, z2, z3, z4, z5⟩ := HZ.out w' hSw; clear hSw; go_simp; first | done | with_reducible rfl)
                  simp only [Act.put, la3, la4, la5]
                iterate 4
                  apply Ord.walk_idle
                  next => (simp only [la0, la1, la2]; rfl)
                  next => rfl
                  simp only [Act.put, la3, la4, la5]
                iterate 2
                  apply Ord.walk_light
                  next => (simp only [la0, la1, la2]; rfl)
                  next => rfl
                  next => (intro w' hSw; obtain ⟨z0, z1, z2, z3, z4, z5⟩ := HZ.out w' hSw; clear hSw; go_simp; first | done | with_reducible rfl)
                  simp only [Act.put, la3, la4, la5]
                refine Ord.walk_tail ?_; simp only [List.drop_succ_cons, List.drop_zero]
                have hbx := hb
                clear hb HZ
                have R2_2 := Aid.hid ((R2_1).out.trans (hbx.mono (R2_1).out.size))
                have Kx2 := Aid.hid ((Kx1.out).trans (hbx.mono (Kx1.out).size))
                have Nx_2 := Aid.hid (Nx_1.out.below hbx Nx_1.out.lt)
                have Nv_2 := Aid.hid (Nv_1.out.below hbx Nv_1.out.lt)
                clear xv1 xv2 xv3 xv4 xv6 lv xx0 lx
                clear hbx
                have NX := Aid.hid (no_step NO.out HV.out (p := Ru.badVar u) (by simp [Ru.badVar, HQ.out, *]))
                go_wp2_with fail
                go_roundw
                case rel => exact ⟨k + 1, by go_num, by omega, NX, R2_2⟩
                case measure => simp [intOf]; omega
              · obtain ⟨k2, hk2⟩ : ∃ x, (v.ty.k != 2) = x := ⟨_, rfl⟩
                have e2 : decide (v.ty.k ≠ 2) = k2 := by rw [← hk2]; exact dec_ne _ _
                cases k2
                · have HZ := Aid.hid (fun (w' : World) (hSw : Below X1.heap.size X1 w') => (⟨(hSw.cell (p := ⟨wr.heap.size, 1, none⟩) lv).trans xv1, (hSw.cell (p := ⟨wr.heap.size, 2, none⟩) lv).trans xv2, (hSw.cell (p := ⟨wr.heap.size, 3, none⟩) lv).trans xv3, (hSw.cell (p := ⟨wr.heap.size, 4, none⟩) lv).trans xv4, (hSw.cell (p := ⟨wr.heap.size, 6, none⟩) lv).trans xv6, (hSw.cell (p := ⟨b, 0, none⟩) lx).trans xx0⟩ : _ ∧ _ ∧ _ ∧ _ ∧ _ ∧ _))
                  have hb : Below X1.heap.size X1 X1.drew := (Below.refl _ _).drew
                  refine Ord.wp_region_all (fun w' => Below X1.heap.size X1 w') 35 [(true, 0), (true, 1), (true, 2), (true, 3), (true, 4), (true, 5), (false, 6), (true, 7), (true, 8), (true, 9), (true, 10), (true, 11), (true, 12), (true, 13), (true, 14), (true, 15), (true, 16), (true, 17), (true, 18), (true, 19), (true, 20), (true, 21), (true, 22), (true, 23), (true, 24), (true, 25), (true, 26), (true, 27), (true, 28), (true, 29), (true, 30), (true, 31), (true, 32), (true, 33), (true, 34)] (by kernel_rfl) (by kernel_rfl) (fun _ _ d _ _ h => by cases d <;> exact h) (hb) ?_
                  clear hb
                  have hb : Below X1.heap.size X1 X1.drew := (Below.refl _ _).drew
                  generalize X1.drew = wd1 at *
                  iterate 6
                    apply Ord.walk_light
                    next => (simp only [la0, la1, la2]; rfl)
                    next => rfl
                    next => (intro w' hSw; obtain ⟨z0, z1, z2, z3, z4, z5⟩ := HZ.out w' hSw; clear hSw; go_simp; first | done | with_reducible rfl)
                    simp only [Act.put, la3, la4, la5]
                  apply Ord.walk_heavy
                  next => (simp only [la0, la1, la2]; rfl)
                  next => rfl
                  intro K hK
                  go_wp2_with fail
                  refine (may_is u _ B cap v.ty 2 _ _ HQ.out (HU.out.below (((Kx1.out).trans (hb.mono (Kx1.out).size))) hB) (Nat.le_trans hB (((Kx1.out).trans (hb.mono (Kx1.out).size))).size)).mono ?_; rintro _ v1_1 ⟨rfl, hb'⟩; dsimp only
                  refine hK.out _ _ (hb.trans (hb'.mono hb.size)) (fun hHeld => ?_)
                  clear hb hb'
                  have hb := hHeld
                  clear hK K
                  try simp only [Act.put, la3, la4, la5]
                  iterate 28
                    apply Ord.walk_light
                    next => (simp only [la0, la1, la2]; rfl)
                    next => rfl
                    next => (intro w' hSw; obtain ⟨z0, z1, z2, z3, z4, z5⟩ := HZ.out w' hSw; clear hSw; go_simp; first | done | with_reducible rfl)
                    simp only [Act.put, la3, la4, la5]
                  refine Ord.walk_tail ?_; simp only [List.drop_succ_cons, List.drop_zero]
                  have hbx := hb
                  clear hb HZ
                  have R2_2 := Aid.hid ((R2_1).out.trans (hbx.mono (R2_1).out.size))
                  have Kx2 := Aid.hid ((Kx1.out).trans (hbx.mono (Kx1.out).size))
                  have Nx_2 := Aid.hid (Nx_1.out.below hbx Nx_1.out.lt)
                  have Nv_2 := Aid.hid (Nv_1.out.below hbx Nv_1.out.lt)
                  clear xv1 xv2 xv3 xv4 xv6 lv xx0 lx
                  clear hbx
                  have NX := Aid.hid (no_step NO.out HV.out (p := Ru.badVar u) (by simp [Ru.badVar, HQ.out, *]))
                  go_wp2_with fail
                  go_roundw
                  case rel => exact ⟨k + 1, by go_num, by omega, NX, R2_2⟩
                  case measure => simp [intOf]; omega
                · have HZ := Aid.hid (fun (w' : World) (hSw : Below X1.heap.size X1 w') => (⟨(hSw.cell (p := ⟨wr.heap.size, 1, none⟩) lv).trans xv1, (hSw.cell (p := ⟨wr.heap.size, 2, none⟩) lv).trans xv2, (hSw.cell (p := ⟨wr.heap.size, 3, none⟩) lv).trans xv3, (hSw.cell (p := ⟨wr.heap.size, 4, none⟩) lv).trans xv4, (hSw.cell (p := ⟨wr.heap.size, 6, none⟩) lv).trans xv6, (hSw.cell (p := ⟨b, 0, none⟩) lx).trans xx0⟩ : _ ∧ _ ∧ _ ∧ _ ∧ _ ∧ _))
                  have hb : Below X1.heap.size X1 X1.drew := (Below.refl _ _).drew
                  refine Ord.wp_region_all (fun w' => Below X1.heap.size X1 w') 35 [(true, 0), (true, 1), (true, 2), (true, 3), (true, 4), (true, 5), (false, 6), (true, 7), (true, 8), (true, 9), (true, 10), (true, 11), (true, 12), (true, 13), (true, 14), (true, 15), (true, 16), (true, 17), (true, 18), (true, 19), (true, 20), (true, 21), (true, 22), (true, 23), (true, 24), (true, 25), (true, 26), (true, 27), (true, 28), (true, 29), (true, 30), (true, 31), (true, 32), (true, 33), (true, 34)] (by kernel_rfl) (by kernel_rfl) (fun _ _ d _ _ h => by cases d <;> exact h) (hb) ?_
                  clear hb
                  have hb : Below X1.heap.size X1 X1.drew := (Below.refl _ _).drew
                  generalize X1.drew = wd1 at *
                  iterate 6
                    apply Ord.walk_light
                    next => (simp only [la0, la1, la2]; rfl)
                    next => rfl
                    next => (intro w' hSw; obtain ⟨z0, z1, z2, z3, z4, z5⟩ := HZ.out w' hSw; clear hSw; go_simp; first | done | with_reducible rfl)
                    simp only [Act.put, la3, la4, la5]
                  apply Ord.walk_heavy
                  next => (simp only [la0, la1, la2]; rfl)
                  next => rfl
                  intro K hK
                  go_wp2_with fail
                  refine (may_is u _ B cap v.ty 2 _ _ HQ.out (HU.out.below (((Kx1.out).trans (hb.mono (Kx1.out).size))) hB) (Nat.le_trans hB (((Kx1.out).trans (hb.mono (Kx1.out).size))).size)).mono ?_; rintro _ v1_1 ⟨rfl, hb'⟩; dsimp only
                  refine hK.out _ _ (hb.trans (hb'.mono hb.size)) (fun hHeld => ?_)
                  clear hb hb'
                  have hb := hHeld
                  clear hK K
                  try simp only [Act.put, la3, la4, la5]
                  iterate 28
                    apply Ord.walk_light
                    next => (simp only [la0, la1, la2]; rfl)
                    next => rfl
                    next => (intro w' hSw; obtain ⟨z0, z1, z2, z3, z4, z5⟩ := HZ.out w' hSw; clear hSw; go_simp; first | done | with_reducible rfl)
                    simp only [Act.put, la3, la4, la5]
                  refine Ord.walk_tail ?_; simp only [List.drop_succ_cons, List.drop_zero]
                  have hbx := hb
                  clear hb HZ
                  have R2_2 := Aid.hid ((R2_1).out.trans (hbx.mono (R2_1).out.size))
                  have Kx2 := Aid.hid ((Kx1.out).trans (hbx.mono (Kx1.out).size))
                  have Nx_2 := Aid.hid (Nx_1.out.below hbx Nx_1.out.lt)
                  have Nv_2 := Aid.hid (Nv_1.out.below hbx Nv_1.out.lt)
                  clear xv1 xv2 xv3 xv4 xv6 lv xx0 lx
                  clear hbx
                  obtain rfl : 9 = r := by rw [← HR.out, Ru.program, if_pos (any_hit HV.out (by simp [Ru.badVar, HQ.out, *]))]
                  go_wp2_with fail
                  go_ret
                  exact ⟨rfl, Kx2.out⟩
    · obtain ⟨q1, hq1⟩ : ∃ q, (d.vs.any fun v => !Ru.first v) = q := ⟨_, rfl⟩
      obtain ⟨q2, hq2⟩ : ∃ q, Ru.slots u i d = q := ⟨_, rfl⟩
      obtain ⟨q3, hq3⟩ : ∃ q, Ru.twins d.vs = q := ⟨_, rfl⟩
      obtain ⟨q4, hq4⟩ : ∃ q, Ru.stmts u i (-1) d.body = q := ⟨_, rfl⟩
      have E : Hid ((if q1 = true then 10 else if q2 = true then 16 else if q3 = true then 6 else q4) = r) := Aid.hid (by rw [← HR.out, Ru.program, any_miss (p := Ru.badVar u) (l := d.vs) (fun j hj => NO.out j (by omega)), hq1, hq2, hq3, hq4]; rfl)
      have HQ1 := Aid.hid hq1; have HQ2 := Aid.hid hq2; have HQ3 := Aid.hid hq3; have HQ4 := Aid.hid hq4
      clear hq1 hq2 hq3 hq4
      have xx0 := Nx_HB.out.cell 0 _ rfl
      have xx1 := Nx_HB.out.cell 1 _ rfl
      have xx8 := Nx_HB.out.cell 8 _ rfl
      have xx10 := Nx_HB.out.cell 10 _ rfl
      have lx := Nx_HB.out.lt
      go_wp2_with fail
      refine (hasV_is d.vs d.vA d.vc B 40 #[] (fun v => !Ru.first v) q1 _ HQ1.out (fun _ _ => enter_of Tryz.func40 (by kernel_rfl) (by kernel_rfl) _ _) (HDK.out.vars.below (KHB.out) hB) (Nat.le_trans hB (KHB.out).size) HDK.out.smallV (fun v _ w1 _ => never_is v _ w1 rfl)).mono ?_; rintro _ w1 ⟨rfl, hb1⟩
      have Kx1 := Aid.hid ((KHB.out).trans (hb1.mono (KHB.out).size))
      have Nx_1 := Aid.hid (Nx_HB.out.below hb1 Nx_HB.out.lt)
      clear xx0 xx1 xx8 xx10 lx
      clear hb1
      have xx0 := Nx_1.out.cell 0 _ rfl
      have xx1 := Nx_1.out.cell 1 _ rfl
      have xx8 := Nx_1.out.cell 8 _ rfl
      have xx10 := Nx_1.out.cell 10 _ rfl
      have lx := Nx_1.out.lt
      cases q1
      · go_wp2_with fail
        refine (slots_is u a B cap b i d q2 _ HQ2.out HSL.out HCP.out Nx_1.out HD.out (HU.out.below (Kx1.out) hB) (Nat.le_trans hB (Kx1.out).size)).mono ?_; rintro _ w2 ⟨rfl, hb2⟩
        have Kx2 := Aid.hid ((Kx1.out).trans (hb2.mono (Kx1.out).size))
        have Nx_2 := Aid.hid (Nx_1.out.below hb2 Nx_1.out.lt)
        clear xx0 xx1 xx8 xx10 lx
        clear hb2
        have xx0 := Nx_2.out.cell 0 _ rfl
        have xx1 := Nx_2.out.cell 1 _ rfl
        have xx8 := Nx_2.out.cell 8 _ rfl
        have xx10 := Nx_2.out.cell 10 _ rfl
        have lx := Nx_2.out.lt
        cases q2
        · go_wp2_with fail
          refine (twins_is d.vs d.vA d.vc B q3 _ HQ3.out (HDK.out.vars.below (Kx2.out) hB) (Nat.le_trans hB (Kx2.out).size) HDK.out.smallV (HCP.out.v d (List.mem_of_getElem? HD.out))).mono ?_; rintro _ w3 ⟨rfl, hb3⟩
          have Kx3 := Aid.hid ((Kx2.out).trans (hb3.mono (Kx2.out).size))
          have Nx_3 := Aid.hid (Nx_2.out.below hb3 Nx_2.out.lt)
          clear xx0 xx1 xx8 xx10 lx
          clear hb3
          have xx0 := Nx_3.out.cell 0 _ rfl
          have xx1 := Nx_3.out.cell 1 _ rfl
          have xx8 := Nx_3.out.cell 8 _ rfl
          have xx10 := Nx_3.out.cell 10 _ rfl
          have lx := Nx_3.out.lt
          cases q3
          · obtain rfl : q4 = r := E.out
            go_wp2_with fail
            have HZ := Aid.hid (fun (w' : World) (hSw : Below w3.heap.size w3 w') => (⟨(hSw.cell (p := ⟨b, 0, none⟩) lx).trans xx0, (hSw.cell (p := ⟨b, 1, none⟩) lx).trans xx1, (hSw.cell (p := ⟨b, 8, none⟩) lx).trans xx8, (hSw.cell (p := ⟨b, 10, none⟩) lx).trans xx10⟩ : _ ∧ _ ∧ _ ∧ _))
            have hb : Below w3.heap.size w3 w3.drew := (Below.refl _ _).drew
            refine Ord.wp_region_walk (fun w' => Below w3.heap.size w3 w') 15 [(true, 0), (true, 1), (true, 2), (true, 3), (true, 4), (true, 5), (true, 6), (true, 7), (true, 8), (true, 9), (true, 10), (true, 11), (true, 12), (true, 13), (false, 14)] (by kernel_rfl) (by kernel_rfl) (fun _ _ d _ _ h => by cases d <;> exact h) (hb) ?_
            clear hb
            have hb : Below w3.heap.size w3 w3.drew := (Below.refl _ _).drew
            generalize w3.drew = wd3 at *
            iterate 14
              apply Ord.walk_light
              next => (simp only [la0, la1, la2]; rfl)
              next => rfl
              next => (intro w' hSw; obtain ⟨z0, z1, z2, z3⟩ := HZ.out w' hSw; clear hSw; go_simp; first | done | with_reducible rfl)
              simp only [Act.put, la3, la4, la5]
            apply Ord.walk_heavy
            next => (simp only [la0, la1, la2]; rfl)
            next => rfl
            intro K hK
            go_wp2_with fail
            refine (rstmts_is u a B cap (i : Int) (-1) d.bA d.body d.bc q4 _ HQ4.out (HU.out.below (((Kx3.out).trans (hb.mono (Kx3.out).size))) hB) (Nat.le_trans hB (((Kx3.out).trans (hb.mono (Kx3.out).size))).size) HL.out.lim (HBD.out.below (((Kx3.out).trans (hb.mono (Kx3.out).size))) hB)).mono ?_; rintro _ v3_1 ⟨rfl, hb'⟩; dsimp only
            refine hK.out _ _ (hb.trans (hb'.mono hb.size)) (fun hHeld => ?_)
            clear hb hb'
            have hb := hHeld
            clear hK K
            try simp only [Act.put, la3, la4, la5]
            refine Ord.walk_tail ?_; simp only [List.drop_succ_cons, List.drop_zero]
            have hbx := hb
            clear hb HZ
            have Kx4 := Aid.hid ((Kx3.out).trans (hbx.mono (Kx3.out).size))
            have Nx_4 := Aid.hid (Nx_3.out.below hbx Nx_3.out.lt)
            clear xx0 xx1 xx8 xx10 lx
            clear hbx
            go_wp2_with fail
            go_ret
            exact ⟨rfl, Kx4.out⟩
          · obtain rfl : 6 = r := E.out
            go_wp2_with fail
            go_ret
            exact ⟨rfl, Kx3.out⟩
        · obtain rfl : 16 = r := E.out
          go_wp2_with fail
          go_ret
          exact ⟨rfl, Kx2.out⟩
      · obtain rfl : 10 = r := E.out
        go_wp2_with fail
        go_ret
        exact ⟨rfl, Kx1.out⟩
end Go.Proofs.YtejifefgmlpclaaGreat
