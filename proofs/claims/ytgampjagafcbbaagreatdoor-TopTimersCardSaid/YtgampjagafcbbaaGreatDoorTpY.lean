/- Laws over a slice of any length: its elements told one by one. -/
import Derived.Test.YtgampjagafcbbaaGreatDoorTpL
namespace Go.Proofs.YtgampjagafcbbaaGreatDoor
set_option linter.unusedSimpArgs false
set_option linter.unusedVariables false
set_option linter.constructorNameAsVariable false
open Go Go.RowKit
open Ev
namespace Ev
variable {ν : Nat → Int} {ρ : Pl} {w : World}
/-- A name for some cells of a block that was there at first. -/
theorem Rel.elem {W : Bas} {h : H} (R : Rel ν W ρ h w) {b c n : Nat} {l : List V} (hb : b < W.w0.heap.size) (hown : ∀ x o, obj h x = some o → ownO o = true) (ho : ObjR ν ρ w b c n (.c l none false)) :
    Rel ν W (ρ.put (nx h) (b, c, n)) (addO h (.c l none false)) w := by
  have R1 := R.add (.c l none false) (fun y e => by cases (show (none : Option BP) = some y from e)) (fun y e => by cases (show (none : Option BP) = some y from e))
  refine R1.lay (y := nx h) (by rw [obj_addO, if_pos rfl]) R.idle (Nat.lt_of_lt_of_le hb R.below.size) ho (fun e => by cases (show false = true from e)) (fun z oz c' n' ez hne e' => ?_)
  rw [obj_addO, if_neg hne] at ez
  have := R.mine z oz ez (hown z oz ez) b c' n' e'
  omega
/-- A name for a place. -/
theorem Rel.name {W : Bas} {h : H} (R : Rel ν W ρ h w) {x : BP} {b c n : Nat} (hx : ρ x = none) (ho : obj h x = none) (hn : bpN x < bpN (nx h)) (hb : b < w.heap.size) : Rel ν W (ρ.put x (b, c, n)) h w := by
  have hle : ρ.le (ρ.put x (b, c, n)) := Pl.le_put hx
  have hne : ∀ y o, obj h y = some o → y ≠ x := fun y o e h' => by rw [h', ho] at e; cases e
  have old : ∀ y o p, obj h y = some o → ρ.put x (b, c, n) y = some p → ρ y = some p := fun y o p e e' => by rwa [Pl.put_ne _ (hne y o e)] at e'
  refine ⟨R.below, fun y o e b c n e' => (R.ob y o e b c n (old _ _ _ e e')).mono hle, fun y b' c' n' e' => ?_, R.dom, fun y o e hw b c n e' => R.mine y o e hw b c n (old _ _ _ e e'), fun y z oy oz ey ez hyz b c n c' n' e1 e2 => R.sep y z oy oz ey ez hyz b c n c' n' (old _ _ _ ey e1) (old _ _ _ ez e2), R.par, R.parlt, Pl.le_trans R.base hle, R.kp⟩
  by_cases h' : y = x
  · rw [h', Pl.put_same] at e'
    obtain ⟨rfl, rfl, rfl⟩ : b = b' ∧ c = c' ∧ n = n' := by simpa using e'
    rw [h']; exact ⟨hb, hn⟩
  · rw [Pl.put_ne _ h'] at e'; exact R.lt y b' c' n' e'
theorem Rel.more {W : Bas} {h : H} (R : Rel ν W ρ h w) : Rel ν W ρ (H.mk (succ (nx h)) (mem h)) w := by
  have hn : bpN (nx (H.mk (succ (nx h)) (mem h))) = bpN (nx h) + 1 := bpN_succ _
  exact ⟨R.below, R.ob, fun x b c n e => ⟨(R.lt x b c n e).1, by rw [hn]; have := (R.lt x b c n e).2; omega⟩, fun x o e => by rw [hn]; have := R.dom x o e; omega, R.mine, R.sep, R.par, fun x o y e hp => by rw [hn]; have := R.parlt x o y e hp; omega, R.base, R.kp⟩
theorem Rel.none_nx {W : Bas} {h : H} (R : Rel ν W ρ h w) : obj h (nx h) = none := by
  cases e : obj h (nx h) with
  | none => rfl
  | some o => exact absurd (R.dom _ o e) (Nat.lt_irrefl _)
theorem FrC.setSlot {Df : List Deferred} {C : Tr Unit} {nt : Nat} {t : Tr V} {a : Act} (F : FrC Df ν C ρ nt t a) {s : Nat} (hs : s < 100000) (hC : ∃ u, get (bpOf s) C = some u) {v : V} (hv : VR ν ρ v (a.tmps.getD s undef)) :
    FrC Df ν C ρ nt (Ev.set (bpOf s) (some v) t) a := by
  refine ⟨⟨fun m hm v' e => ?_, fun g v' e => ?_, F.defers, F.size⟩, fun m v' hm e => ?_⟩
  · rw [get_set] at e
    split at e
    · rename_i h
      obtain rfl := Option.some.inj e
      have : m = s := bpOf_inj (by omega) (by omega) h
      rw [this]; exact hv
    · exact F.slot m hm v' e
  · rw [get_set] at e
    split at e
    · rename_i h
      exfalso
      have h5 := bpOf_big (100000 + g)
      have h6 : bpN (bpOf s) = s + 1 := by unfold bpOf; exact bpOf'_N 40 _ (by omega) (by omega)
      have h7 := congrArg bpN h
      omega
    · exact F.glob g v' e
  · rw [get_set] at e
    split at e
    · rename_i h
      have : m = s := bpOf_inj (by omega) (by omega) h
      rw [this]; exact hC
    · exact F.ins m v' hm e
noncomputable section
/-- this slot holds a slice of named length, told by this one of its elements -/
def isSy (t : Tr V) (sT : Nat) (y : BP) (z l : Z) : Bool := ocase (get (bpOf sT) t) false (fun v => onSy v false (fun x z' l' => bcase (bpEq x y) false (bcase (zBeq z' z) false (zBeq l' l))))
/-- a state with an element at hand, and without -/
def St.el (sT : Nat) (s : St) : St := ⟨(sT, .sy s.nx (.var 60) (.var 62)) :: s.sl, (s.nx, [.i .i64 (.var 61)], false) :: s.ob, succ s.nx⟩
def St.no (sT : Nat) (s : St) : St := ⟨(sT, .sy s.nx (.var 60) (.var 62)) :: s.sl, s.ob, succ s.nx⟩
def ownAll : List (BP × List V × Bool) → Bool := List.rec true (fun p _ ih => bcase p.2.2 false ih)
def goesY (k : BP) (s : St) (ps : List (BP × BP)) (E : Eqs) (sT : Nat) (y : BP) : X → Bool := X.rec (fun t h => bcase (turnB k s ps E t h) false (isSy t sT y (.var 60) (.var 62))) (fun _ _ _ => false) (fun _ _ => false) (fun _ => false)
end
theorem isSy_some {t : Tr V} {sT : Nat} {y : BP} {z l : Z} (h : isSy t sT y z l = true) : get (bpOf sT) t = some (.sy y z l) := by
  obtain ⟨v, e, h1⟩ := ocase_ne (show ocase (get (bpOf sT) t) false (fun v => onSy v false (fun x z' l' => bcase (bpEq x y) false (bcase (zBeq z' z) false (zBeq l' l)))) = true from h) (by simp)
  rcases onSy_or h1 with ⟨x, z', l', rfl, h2⟩ | h2
  · obtain ⟨h3, h4⟩ := bcase_ne h2 (by simp)
    obtain ⟨h5, h6⟩ := bcase_ne h4 (by simp)
    rw [e, (bpEq_iff _ _).1 h3, zBeq_eq _ _ h5, zBeq_eq _ _ h6]
  · cases h2
theorem goesY_some {k : BP} {s : St} {ps : List (BP × BP)} {E : Eqs} {sT : Nat} {y : BP} {x : X} (h : goesY k s ps E sT y x = true) : ∃ t1 h1, x = .nm t1 h1 ∧ turnB k s ps E t1 h1 = true ∧ get (bpOf sT) t1 = some (.sy y (.var 60) (.var 62)) := by
  cases x <;> first | (cases h; done) | skip
  obtain ⟨h1, h2⟩ := bcase_ne (show bcase (turnB k s ps E _ _) false (isSy _ sT y (.var 60) (.var 62)) = true from h) (by simp)
  exact ⟨_, _, rfl, h1, isSy_some h2⟩
theorem ownAll_ok : ∀ {l : List (BP × List V × Bool)}, ownAll l = true → ∀ x o, get x (stM l) = some o → ownO o = true
  | [], _, x, o, e => by rw [show stM [] = Tr.lf from rfl, get_lf] at e; cases e
  | p :: l, h, x, o, e => by
    obtain ⟨h1, h2⟩ := bcase_ne (show bcase p.2.2 false (ownAll l) = true from h) (by simp)
    rw [show stM (p :: l) = Ev.set p.1 (some (O.c p.2.1 none p.2.2)) (stM l) from rfl, get_set] at e
    split at e
    · obtain rfl := Option.some.inj e; exact h1
    · exact ownAll_ok h2 x o e
end Ev
noncomputable section
/-- a loop over a slice that is told: it begins at this state, and leaves at that one -/
def lovY (k : BP) (s0 : St) (E0 : Eqs) (id : Nat) (sE : St) (sT : Nat) : Lov := fun t h => bcase (bpEq (nx h) k) none (bcase (turnB k s0 [] E0 t h) none (bcase (isSy t sT (bpOf 999) (.lit 0) (.var 62)) none (some (X.ex id (sE.tr mGt) sE.hh))))
end
/-- How a round goes. -/
def RoundOkY (ν ν' : Nat → Int) (ov : Ov) (g i : Nat) (k : BP) (id : Nat) (sE : St) (sT : Nat) (S : Nat → St) (F : Nat → (Nat → Int) → Prop) (mu : Nat → (Nat → Int) → Nat) (j : Nat) : Prop :=
  ∃ path norm, PathOk ν' path ∧ NormOk ν' norm ∧
    ((ν' 60 < ν' 62 ∧ ∃ j' ps E ν'', goesY k (S j') ps E sT (S j).nx (mFS noLov ov path norm (loopC g i) (((S j).el sT).tr mGt) ((S j).el sT).hh) = true ∧ (∀ p ∈ E, ν'' p.1 = zval ν' p.2) ∧ F j' ν'' ∧ mu j' ν'' < mu j ν') ∨
     (¬ ν' 60 < ν' 62 ∧ ∃ ps E, leavesB id k sE ps E (mFS noLov ov path norm (loopC g i) (((S j).no sT).tr mGt) ((S j).no sT).hh) = true ∧ (∀ p ∈ E, ν p.1 = zval ν' p.2)))
/-- what the slice holds at first -/
def HasTicks (w : World) (b c0 len : Nat) (tk : Nat → Int) : Prop := ∀ i, i < len → w.cell? ⟨b, c0 + i, none⟩ = some (.int .i64 (tk i))
theorem HasTicks.cells {w : World} {b c0 len : Nat} {tk : Nat → Int} (h : HasTicks w b c0 len tk) (hpos : 0 < len) : ∃ cs e fz, w.heap[b]? = some (.cells cs e fz) ∧ c0 + len ≤ cs.size ∧ ∀ i, i < len → cs[c0 + i]? = some (.int .i64 (tk i)) := by
  have h0 := h 0 hpos
  cases e : w.heap[b]? with
  | none => simp [World.cell?, e] at h0
  | some o =>
    cases o with
    | cells cs t fz =>
      have g : ∀ i, i < len → cs[c0 + i]? = some (.int .i64 (tk i)) := fun i hi => by rw [← cell_of e]; exact h i hi
      refine ⟨cs, t, fz, rfl, ?_, g⟩
      have h1 := (Array.getElem?_eq_some_iff.1 (g (len - 1) (by omega))).1
      omega
    | _ => simp [World.cell?, e] at h0
/-- A loop over a slice. -/
theorem told_loopY {ν : Nat → Int} {W : Bas} (hA : Tp.Asc W.w0) (hg : ∀ ν', GtOk ν' W mGt) {k : BP} (hW : ∀ x p, W.pl x = some p → bpN x < bpN k) {ov : Ov} {g i : Nat} (hnt : (fnOf g).ntmps ≤ 100000) {id : Nat} {s0 sE : St} {E0 : Eqs} {sT : Nat} (hsT : sT < 100000) (hC : (get (bpOf sT) (slotsOf g)).isSome = true)
    {b c0 n0 ln : Nat} {tk : Nat → Int} (hy : W.pl (bpOf 999) = some (b, c0, n0)) (hl : ν 62 = (ln : Int)) (hmem : HasTicks W.w0 b c0 ln tk)
    {S : Nat → St} {F : Nat → (Nat → Int) → Prop} {mu : Nat → (Nat → Int) → Nat} (hS : S 0 = s0) (hown : ∀ j, ownAll (S j).ob = true)
    (ho : ∀ j ν', F j ν' → OvGood ν' ov) (hFy : ∀ j ν', F j ν' → 0 ≤ ν' 60 ∧ ν' 62 = (ln : Int) ∧ (ν' 60 < ν' 62 → ν' 61 = tk (ν' 60).toNat)) (hν : ∃ ν' : Nat → Int, (∀ p ∈ E0, ν' p.1 = zval ν p.2) ∧ F 0 ν')
    (round : ∀ j ν', F j ν' → RoundOkY ν ν' ov g i k id sE sT S F mu j) : ToldOk Tryz.prog tT ν W [] (slotsOf g) (fnOf g).ntmps (lovY k s0 E0 id sE sT) (loopOf g i) := by
  have hC' : ∃ u, get (bpOf sT) (slotsOf g) = some u := Option.isSome_iff_exists.1 hC
  intro t h x ρ a w hx R Fr
  have hx' : bcase (bpEq (nx h) k) none (bcase (turnB k s0 [] E0 t h) none (bcase (isSy t sT (bpOf 999) (.lit 0) (.var 62)) none (some (X.ex id (sE.tr mGt) sE.hh)))) = some x := hx
  obtain ⟨e1, hx1⟩ := bcase_ne hx' (by simp)
  obtain ⟨e2, hx2⟩ := bcase_ne hx1 (by simp)
  obtain ⟨e3, hx3⟩ := bcase_ne hx2 (by simp)
  obtain rfl : X.ex id (sE.tr mGt) sE.hh = x := Option.some.inj hx3
  have hk := (bpEq_iff _ _).1 e1
  have hρ : ∀ x p, ρ x = some p → bpN x < bpN k := fun x p e => by obtain ⟨b, c, n⟩ := p; rw [← hk]; exact (R.lt x b c n e).2
  obtain ⟨ν0, h0, hF0⟩ := hν
  obtain ⟨ρ2, R2, X2, F2⟩ := turn_ok (hg ν) hk hW hρ (hg ν0) e2 h0 R (Ext.refl _ _) Fr
  have ht0 : ∃ cap p, a.tmps.getD sT undef = .slice p ln cap ∧ (0 < ln → p = some ⟨b, c0, none⟩) := by
    have hv := Fr.slot sT hsT _ (isSy_some e3)
    simp only [VR, zval] at hv
    obtain ⟨b', c', n', len, cap, p, g1, g2, g3, _, g4⟩ := hv
    rw [R.base _ _ hy] at g1
    obtain ⟨rfl, rfl, rfl⟩ : b = b' ∧ c0 = c' ∧ n0 = n' := by simpa using g1
    obtain rfl : len = ln := by omega
    refine ⟨cap, p, g2, fun hpos => ?_⟩
    obtain ⟨c1, g5, g6⟩ := g4 (by omega)
    have : c1 = c0 := by simp at g6; omega
    rw [g5, this]
  let Inv : Nat → (Nat → Int) → Act → World → Prop := fun j ν' a w => F j ν' ∧ (∃ ρ', Rel ν' W ρ' (S j).hh w ∧ Ext h ρ (S j).hh ρ' ∧ FrC [] ν' (slotsOf g) ρ' (fnOf g).ntmps ((S j).tr mGt) a) ∧ ∃ cap p, a.tmps.getD sT undef = .slice p ln cap ∧ (0 < ln → p = some ⟨b, c0, none⟩)
  refine (loop_told (Inv := Inv) (mu := mu) ?_ 0 ν0 a w ⟨hF0, ⟨ρ2, by rw [hS]; exact R2, by rw [hS]; exact X2, by rw [hS]; exact F2⟩, ht0⟩).wp
  rintro j ν' a w ⟨hf, ⟨ρ', R', X', F'⟩, cap, p, ht, hp0⟩
  obtain ⟨h60, h62, h61⟩ := hFy j ν' hf
  obtain ⟨path, norm, hp, hn, hcase⟩ := round j ν' hf
  have hG : Good ν' W := ⟨hA, hg ν'⟩
  have hi : ρ' (S j).nx = none := R'.idle
  have hy' : ρ' (bpOf 999) = some (b, c0, n0) := R'.base _ _ hy
  have hbw := (R'.lt _ _ _ _ hy').1
  rcases hcase with ⟨hlt, j', ps, E, ν'', h1, h2, h3, h4⟩ | ⟨hge, ps, E, h1, h2⟩
  · obtain ⟨m, hm⟩ := Int.eq_ofNat_of_zero_le h60
    have hml : m < ln := by omega
    obtain ⟨cs, e, fz, g1, g3, g4⟩ := hmem.cells (by omega)
    have hb0 : b < W.w0.heap.size := (Array.getElem?_eq_some_iff.1 g1).1
    have g1' : w.heap[b]? = some (.cells cs e fz) := (R'.below.block b hb0).trans g1
    obtain ⟨ρY, hρY⟩ : ∃ ρY, ρ'.put (S j).nx (b, c0 + m, cs.size - (c0 + m)) = ρY := ⟨_, rfl⟩
    have hleY : ρ'.le ρY := hρY ▸ Pl.le_put hi
    have hsame : ρY (S j).nx = some (b, c0 + m, cs.size - (c0 + m)) := hρY ▸ Pl.put_same ..
    have RY : Rel ν' W ρY ((S j).el sT).hh w := by
      rw [← hρY]
      refine R'.elem (h := (S j).hh) hb0 (fun x o e => ownAll_ok (hown j) x o e) ⟨cs, e, fz, g1', by omega, fun e => (by cases e), by show 1 ≤ _; omega, fun q v hv => ?_⟩
      cases q with
      | zero =>
        obtain rfl : V.i .i64 (.var 61) = v := by simpa using hv
        refine ⟨.int .i64 (tk m), by rw [Nat.add_zero]; exact g4 m hml, ?_⟩
        simp only [VR, zval]
        rw [h61 hlt, hm]; rfl
      | succ q => simp at hv
    have FY : FrC [] ν' (slotsOf g) ρY (fnOf g).ntmps (((S j).el sT).tr mGt) a := by
      refine (F'.mono hleY).setSlot hsT hC' (v := .sy (S j).nx (.var 60) (.var 62)) ?_
      simp only [VR, zval]
      exact ⟨b, _, _, ln, cap, p, hsame, ht, h62.symm, h60, fun _ => ⟨c0, hp0 (by omega), by rw [hm]; rfl⟩⟩
    have XY : Ext (S j).hh ρ' ((S j).el sT).hh ρY := ⟨hleY, fun x e hx => by
      rw [← hρY, Pl.put_ne _ (fun h' => by rw [h'] at hx; exact Nat.lt_irrefl _ hx)]; exact e, by
      show bpN (S j).nx ≤ bpN (succ (S j).nx); rw [bpN_succ]; omega⟩
    obtain ⟨t1, m1, e3', e4, e5⟩ := goesY_some h1
    refine wp_mono (mFS_sound (lov := noLov) (c := loopOf g i) (nt := (fnOf g).ntmps) (C := slotsOf g) hG (ho j ν' hf) hp hn hnt (fun c1 _ => anyLov_ok) (show mFS noLov ov path norm (trC tT (fnOf g).ntmps (slotsOf g) (loopOf g i)) (((S j).el sT).tr mGt) ((S j).el sT).hh = _ from e3') (fun n e => by cases e) RY FY) (fun e' a1 w1 hp => ?_)
    cases e' <;> first | exact hp.elim | skip
    obtain ⟨ρ1, R1, X1, F1⟩ := hp
    obtain ⟨ρ3, R3, X3, F3⟩ := turn_ok (hg ν'') hk hW hρ (hg ν'') e4 h2 R1 (X'.trans (XY.trans X1)) F1
    refine .inl ⟨rfl, j', ν'', h4, h3, ⟨ρ3, R3, X3, F3⟩, ?_⟩
    have hv := F1.slot sT hsT _ e5
    simp only [VR, zval] at hv
    obtain ⟨b', c', n', len, cap', p', k1, k2, k3, _, k4⟩ := hv
    rw [X1.le _ _ hsame] at k1
    obtain ⟨rfl, rfl, rfl⟩ : b = b' ∧ c0 + m = c' ∧ cs.size - (c0 + m) = n' := by simpa using k1
    obtain rfl : len = ln := by omega
    refine ⟨cap', p', k2, fun _ => ?_⟩
    obtain ⟨c1, k5, k6⟩ := k4 hlt
    have : c1 = c0 := by rw [hm] at k6; simp at k6; omega
    rw [k5, this]
  · obtain ⟨ρY, hρY⟩ : ∃ ρY, ρ'.put (S j).nx (b, c0, n0) = ρY := ⟨_, rfl⟩
    have hleY : ρ'.le ρY := hρY ▸ Pl.le_put hi
    have hsame : ρY (S j).nx = some (b, c0, n0) := hρY ▸ Pl.put_same ..
    have RY : Rel ν' W ρY ((S j).no sT).hh w := by
      rw [← hρY]
      exact (R'.more).name (x := (S j).nx) hi R'.none_nx (by show bpN (S j).nx < bpN (succ (S j).nx); rw [bpN_succ]; omega) hbw
    have FY : FrC [] ν' (slotsOf g) ρY (fnOf g).ntmps (((S j).no sT).tr mGt) a := by
      refine (F'.mono hleY).setSlot hsT hC' (v := .sy (S j).nx (.var 60) (.var 62)) ?_
      simp only [VR, zval]
      exact ⟨b, _, _, ln, cap, p, hsame, ht, h62.symm, h60, fun h' => absurd h' hge⟩
    have XY : Ext (S j).hh ρ' ((S j).no sT).hh ρY := ⟨hleY, fun x e hx => by
      rw [← hρY, Pl.put_ne _ (fun h' => by rw [h'] at hx; exact Nat.lt_irrefl _ hx)]; exact e, by
      show bpN (S j).nx ≤ bpN (succ (S j).nx); rw [bpN_succ]; omega⟩
    obtain ⟨t1, m1, e3', e4⟩ := leavesB_some h1
    refine wp_mono (mFS_sound (lov := noLov) (c := loopOf g i) (nt := (fnOf g).ntmps) (C := slotsOf g) hG (ho j ν' hf) hp hn hnt (fun c1 _ => anyLov_ok) (show mFS noLov ov path norm (trC tT (fnOf g).ntmps (slotsOf g) (loopOf g i)) (((S j).no sT).tr mGt) ((S j).no sT).hh = _ from e3') (fun n e => by cases e) RY FY) (fun e' a1 w1 hp => ?_)
    cases e' <;> first | exact hp.elim | skip
    obtain ⟨he, ρ1, R1, X1, F1⟩ := hp
    obtain ⟨ρ3, R3, X3, F3⟩ := turn_ok (hg ν) hk hW hρ (hg ν) e4 h2 R1 (X'.trans (XY.trans X1)) F1
    exact .inr ⟨by simp, he, ρ3, R3, X3, F3⟩
/-- A law of a slice, its loop told, that ends in true. -/
theorem law_trueY {ν : Nat → Int} (w : World) (hA : Tp.Asc w) {ov : Ov} (ho : OvGood ν ov) {path : List (Cd × Bool)} {norm : List (Z × Z)} (hp : PathOk ν path) (hn : NormOk ν norm) {lov : Lov} {g : Nat} {xs : List V} {args : List Value} (hb : fnB g (len xs) = true)
    {p : Nat × Nat × Nat} (hpb : p.1 < w.heap.size)
    (hl : ∀ c1, c1 ∈ loopsC (bodyOf g) → ToldOk Tryz.prog tT ν (Bas.of w ((pl0 w [4]).put (bpOf 999) p)) [] (slotsOf g) (fnOf g).ntmps lov c1)
    (hv : okv (finX (lawX lov ov path norm g xs start) (resOf g)) = some (.b true)) (ha : VRs ν ((pl0 w [4]).put (bpOf 999) p) xs args) :
    Calls Tryz.prog g args.toArray w (fun e w' => e = .returned (.bool true) ∧ Below w.heap.size w w') := by
  obtain ⟨h', hv⟩ := okv_some hv
  obtain ⟨b1, b2, b3, b4, b5, b6, b7⟩ := fnB_ok hb
  rw [len_eq] at b7
  obtain ⟨pb, pc, pn⟩ := p
  have hno : pl0 w [4] (bpOf 999) = none := by
    cases e : pl0 w [4] (bpOf 999) with
    | none => rfl
    | some p =>
      obtain ⟨b, c, n⟩ := p
      obtain ⟨h1, h2, _, _⟩ := pl0_some e
      obtain rfl := List.mem_singleton.1 h1
      exact absurd (bpOf_inj (by decide) (by decide) h2) (by decide)
  have hle : (pl0 w [4]).le ((pl0 w [4]).put (bpOf 999) (pb, pc, pn)) := Pl.le_put hno
  have hW : Good ν (Bas.of w ((pl0 w [4]).put (bpOf 999) (pb, pc, pn))) := ⟨hA, ⟨(start_good (ν := ν) hA).gt.low, fun g v e => VR.mono ν hle _ _ ((start_good (ν := ν) hA).gt.glob g v e)⟩⟩
  have hlst : ∀ p ∈ [((4 : Nat), Tp.asc)], p.1 < 1000 ∧ Listed ν (pl0 w ([((4 : Nat), Tp.asc)].map (·.1))) w p := by
    intro p hp
    obtain rfl := List.mem_singleton.1 hp
    obtain ⟨cs, e, fz, h1, h2, h3⟩ := hA
    exact ⟨by decide, cs, e, fz, h1, h2, Tp.lits_any _ _ (by kernel_rfl) h3⟩
  have R0 : Rel ν (Bas.of w ((pl0 w [4]).put (bpOf 999) (pb, pc, pn))) ((pl0 w [4]).put (bpOf 999) (pb, pc, pn)) start w := by
    have R := Rel.name (x := bpOf 999) (c := pc) (n := pn) (rel_start hlst) hno (by kernel_rfl) (by show bpN (bpOf 999) < bpN (bpOf 1000); rw [bpN_of (by decide), bpN_of (by decide)]; decide) hpb
    exact ⟨R.below, R.ob, R.lt, R.dom, R.mine, R.sep, R.par, R.parlt, Pl.le_refl _, R.kp⟩
  have hc : Call1 Tryz.prog ν (Bas.of w ((pl0 w [4]).put (bpOf 999) (pb, pc, pn))) g xs start (.b true) h' := by
    refine func_at (gt := mGt) (X0 := lawX lov ov path norm g xs start) ev_tt hW.gt b1 b2 b3 b4 b5 b6 b7 (fun ρ a w R F => ?_) hv
    refine mFS_sound hW ho hp hn b4 hl rfl (fun n e => ?_) R F
    have e' : lawX lov ov path norm g xs start = X.bad n := e
    rw [e'] at hv; cases hv
  refine Calls.mono (hc.2 _ args w R0 ha) (fun e w' he => ?_)
  obtain ⟨u, hu, ρ', hR, hvr, _⟩ := he
  simp only [VR] at hvr
  exact ⟨by rw [hu, hvr], hR.below⟩
theorem law_gtY {w : World} (hA : Tp.Asc w) {p : Nat × Nat × Nat} : ∀ ν', GtOk ν' (Bas.of w ((pl0 w [4]).put (bpOf 999) p)) mGt := by
  intro ν'
  have hno : pl0 w [4] (bpOf 999) = none := by
    cases e : pl0 w [4] (bpOf 999) with
    | none => rfl
    | some p =>
      obtain ⟨b, c, n⟩ := p
      obtain ⟨h1, h2, _, _⟩ := pl0_some e
      obtain rfl := List.mem_singleton.1 h1
      exact absurd (bpOf_inj (by decide) (by decide) h2) (by decide)
  exact ⟨(start_good (ν := ν') hA).gt.low, fun g v e => VR.mono ν' (Pl.le_put hno) _ _ ((start_good (ν := ν') hA).gt.glob g v e)⟩
theorem law_plY {w : World} {k : BP} (hk : 1001 ≤ bpN k) {p : Nat × Nat × Nat} : ∀ x q, (Bas.of w ((pl0 w [4]).put (bpOf 999) p)).pl x = some q → bpN x < bpN k := by
  intro x q e
  by_cases h : x = bpOf 999
  · rw [h, bpN_of (by decide)]; omega
  · refine law_pl (w := w) hk x q ?_
    have e' : ((pl0 w [4]).put (bpOf 999) p) x = some q := e
    rw [Pl.put_ne p h] at e'
    exact e'
theorem law_yY {w : World} {p : Nat × Nat × Nat} : (Bas.of w ((pl0 w [4]).put (bpOf 999) p)).pl (bpOf 999) = some p := (show ((pl0 w [4]).put (bpOf 999) p) (bpOf 999) = some p from Pl.put_same _ _)
end Go.Proofs.YtgampjagafcbbaaGreatDoor
