/- What makes memory. -/
import Derived.Test.YtoinghomkcjkcaaGreatDoorKb
namespace Go.Proofs.YtoinghomkcjkcaaGreatDoor
set_option linter.unusedSimpArgs false
set_option linter.unusedVariables false
set_option linter.constructorNameAsVariable false
open Go Go.RowKit
namespace Ev
variable {path : List (Cd × Bool)}
variable {P : Program} {tt : TT} {ν : Nat → Int} {ρ : Pl} {ds : List (Option Tmp)} {sv : Src → V} {a : Act} {en : En} {w : World} {o : Oper} {v : V}
def Pl.put (ρ : Pl) (x : BP) (p : Nat × Nat × Nat) : Pl := fun y => if y = x then some p else ρ y
theorem Pl.put_same (x : BP) (p : Nat × Nat × Nat) : ρ.put x p x = some p := if_pos rfl
theorem Pl.put_ne {x y : BP} (p : Nat × Nat × Nat) (h : y ≠ x) : ρ.put x p y = ρ y := if_neg h
theorem Pl.le_put {x : BP} {p : Nat × Nat × Nat} (h : ρ x = none) : ρ.le (ρ.put x p) := fun y q e => by
  by_cases hy : y = x
  · subst hy; rw [h] at e; cases e
  · rw [Pl.put_ne p hy]; exact e
/-- Ids that were there and lie nowhere lie nowhere still. -/
structure Ext (h : H) (ρ : Pl) (h' : H) (ρ' : Pl) : Prop where
  le : ρ.le ρ'
  idle : ∀ x, ρ x = none → bpN x < bpN (nx h) → ρ' x = none
  nx : bpN (nx h) ≤ bpN (nx h')
theorem Ext.refl (h : H) (ρ : Pl) : Ext h ρ h ρ := ⟨Pl.le_refl ρ, fun _ e _ => e, Nat.le_refl _⟩
theorem Ext.trans {h h' h'' : H} {a b c : Pl} (k : Ext h a h' b) (l : Ext h' b h'' c) : Ext h a h'' c :=
  ⟨Pl.le_trans k.le l.le, fun x e hx => l.idle x (k.idle x e hx) (Nat.lt_of_lt_of_le hx k.nx), Nat.le_trans k.nx l.nx⟩
theorem EsR.mono {ρ' : Pl} (hle : ρ.le ρ') : ∀ {es : List (V × V)} {ms : List MapEntry}, EsR ν ρ es ms → EsR ν ρ' es ms
  | [], [], _ => trivial
  | [], _ :: _, h => h.elim
  | _ :: _, [], h => h.elim
  | e :: es, m :: ms, h => ⟨VR.mono ν hle _ _ h.1, VR.mono ν hle _ _ h.2.1, EsR.mono hle h.2.2⟩
theorem ObjR.mono {ρ' : Pl} (hle : ρ.le ρ') {b c n : Nat} : ∀ {ob : O}, ObjR ν ρ w b c n ob → ObjR ν ρ' w b c n ob
  | .c l _ _, ⟨cs, e, fz, h1, h2, h3, h4, h5⟩ => ⟨cs, e, fz, h1, h2, h3, h4, fun i v hv => let ⟨u, hu, hr⟩ := h5 i v hv; ⟨u, hu, VR.mono ν hle _ _ hr⟩⟩
  | .m es, ⟨ms, ck, h1, h2⟩ => ⟨ms, ck, h1, h2.mono hle⟩
theorem ObjR.block {w' : World} {b c n : Nat} (hb : w'.heap[b]? = w.heap[b]?) : ∀ {ob : O}, ObjR ν ρ w b c n ob → ObjR ν ρ w' b c n ob
  | .c l _ _, ⟨cs, e, fz, h1, h⟩ => ⟨cs, e, fz, hb.trans h1, h⟩
  | .m es, ⟨ms, ck, h1, h2⟩ => ⟨ms, ck, hb.trans h1, h2⟩
/-- A world with one block more. -/
def Grows (w w' : World) : Prop := w'.heap.size = w.heap.size + 1 ∧ Below w.heap.size w w'
theorem grows_alloc (w : World) (ob : Obj) : Grows w (w.alloc ob) := ⟨by show (w.heap.push ob).size = _; simp, (Below.refl _ w).alloc (Nat.le_refl _) ob⟩
theorem grows_drew (w : World) (ob : Obj) : Grows w (w.drew.alloc ob) := ⟨by show (w.heap.push ob).size = _; simp, (Below.refl _ w).drew.alloc (Nat.le_refl _) ob⟩
theorem new_block (w : World) (ob : Obj) : (w.alloc ob).heap[w.heap.size]? = some ob := by show (w.heap.push ob)[w.heap.size]? = _; simp
theorem new_block' (w : World) (ob : Obj) : (w.drew.alloc ob).heap[w.heap.size]? = some ob := by show (w.heap.push ob)[w.heap.size]? = _; simp
theorem Rel.grown {W : Bas} {h : H} (R : Rel ν W ρ h w) {w' : World} (hg : Grows w w') : Rel ν W ρ h w' where
  below := R.below.trans (hg.2.mono R.below.size)
  base := R.base
  ob := fun x o e b c n e' => (R.ob x o e b c n e').block (hg.2.block b (R.lt x b c n e').1)
  lt := fun x b c n e => ⟨by have := (R.lt x b c n e).1; rw [hg.1]; omega, (R.lt x b c n e).2⟩
  dom := R.dom
  mine := R.mine
  sep := R.sep
  par := R.par
  parlt := R.parlt
  kp := fun p hp => ⟨(hg.2.block p.1 (Array.getElem?_eq_some_iff.1 (R.kp p hp).1).1).trans (R.kp p hp).1, (R.kp p hp).2⟩
/-- One that lies nowhere yet is laid into the new block. -/
theorem Rel.place {W : Bas} {h : H} (R : Rel ν W ρ h w) {w' : World} (hg : Grows w w') {x : BP} {ob : O} {n : Nat} (hx : obj h x = some ob) (hn : ρ x = none) (ho : ObjR ν ρ w' w.heap.size 0 n ob) : Rel ν W (ρ.put x (w.heap.size, 0, n)) h w' := by
  have R' := R.grown hg
  have hle : ρ.le (ρ.put x (w.heap.size, 0, n)) := Pl.le_put hn
  have inv : ∀ y b c m, ρ.put x (w.heap.size, 0, n) y = some (b, c, m) → (y = x ∧ b = w.heap.size ∧ c = 0 ∧ m = n) ∨ (y ≠ x ∧ ρ y = some (b, c, m)) := by
    intro y b c m e
    by_cases hy : y = x
    · subst hy; rw [Pl.put_same] at e; left; simp at e; exact ⟨rfl, e.1.symm, e.2.1.symm, e.2.2.symm⟩
    · rw [Pl.put_ne _ hy] at e; exact .inr ⟨hy, e⟩
  refine ⟨R'.below, ?_, ?_, R'.dom, ?_, ?_, R'.par, R'.parlt, Pl.le_trans R.base (Pl.le_put hn), R'.kp⟩
  · intro y oy e b c m e'
    rcases inv y b c m e' with ⟨rfl, rfl, rfl, rfl⟩ | ⟨hy, e'⟩
    · rw [hx] at e; obtain rfl := Option.some.inj e; exact ho.mono hle
    · exact (R'.ob y oy e b c m e').mono hle
  · intro y b c m e'
    rcases inv y b c m e' with ⟨rfl, rfl, rfl, rfl⟩ | ⟨hy, e'⟩
    · exact ⟨by rw [hg.1]; omega, R.dom _ _ hx⟩
    · exact R'.lt y b c m e'
  · intro y oy e hw b c m e'
    rcases inv y b c m e' with ⟨rfl, rfl, rfl, rfl⟩ | ⟨hy, e'⟩
    · exact R.below.size
    · exact R'.mine y oy e hw b c m e'
  · intro y z oy oz ey ez hyz b c m c' m' e1 e2
    rcases inv y b c m e1 with ⟨g1, g2, g3, g4⟩ | ⟨hy, k1⟩ <;> rcases inv z b c' m' e2 with ⟨g1', g2', g3', g4'⟩ | ⟨hz, k2⟩
    · exact absurd (g1.trans g1'.symm) hyz
    · exact absurd (R.lt z b c' m' k2).1 (by omega)
    · exact absurd (R.lt y b c m k1).1 (by omega)
    · exact R'.sep y z oy oz ey ez hyz b c m c' m' k1 k2
noncomputable def addO (h : H) (ob : O) : H := H.mk (succ (nx h)) (Ev.set (nx h) (some ob) (mem h))
theorem fresh_eq (h : H) (ob : O) (k : BP → V) : fresh h ob k = R1.ok (k (nx h)) (addO h ob) := by cases h; rfl
theorem obj_addO (h : H) (ob : O) (y : BP) : obj (addO h ob) y = if y = nx h then some ob else obj h y := get_set _ _ _ _
theorem nx_addO (h : H) (ob : O) : bpN (nx (addO h ob)) = bpN (nx h) + 1 := bpN_succ _
theorem Rel.idle {W : Bas} {h : H} (R : Rel ν W ρ h w) : ρ (nx h) = none := by
  cases e : ρ (nx h) with
  | none => rfl
  | some p => obtain ⟨b, c, n⟩ := p; exact absurd (R.lt _ b c n e).2 (Nat.lt_irrefl _)
/-- A new one, that lies nowhere yet. -/
theorem Rel.add {W : Bas} {h : H} (R : Rel ν W ρ h w) (ob : O) (hp : ∀ y, parO ob = some y → ∀ oy, obj h y = some oy → ownO oy = false) (hp3 : ∀ y, parO ob = some y → bpN y < bpN (nx h)) : Rel ν W ρ (addO h ob) w := by
  have hi := R.idle
  have old : ∀ y oy, obj (addO h ob) y = some oy → ρ y ≠ none → obj h y = some oy := by
    intro y oy e hne
    rw [obj_addO] at e
    split at e
    · rename_i hy; subst hy; exact absurd hi hne
    · exact e
  refine ⟨R.below, ?_, ?_, ?_, ?_, ?_, ?_, ?_, R.base, R.kp⟩
  · intro y oy e b c n e'; exact R.ob y oy (old y oy e (by rw [e']; simp)) b c n e'
  · intro y b c n e'; exact ⟨(R.lt y b c n e').1, by rw [nx_addO]; have := (R.lt y b c n e').2; omega⟩
  · intro y oy e
    rw [nx_addO]
    rw [obj_addO] at e
    split at e
    · rename_i hy; subst hy; omega
    · have := R.dom y oy e; omega
  · intro y oy e hw b c n e'; exact R.mine y oy (old y oy e (by rw [e']; simp)) hw b c n e'
  · intro y z oy oz ey ez hyz b c n c' n' e1 e2
    exact R.sep y z oy oz (old y oy ey (by rw [e1]; simp)) (old z oz ez (by rw [e2]; simp)) hyz b c n c' n' e1 e2
  · intro y oy z ey hpz oz ez
    rw [obj_addO] at ey ez
    split at ez
    · rename_i hz; subst hz
      exfalso
      split at ey
      · obtain rfl := Option.some.inj ey; exact Nat.lt_irrefl _ (hp3 _ hpz)
      · exact Nat.lt_irrefl _ (R.parlt y oy _ ey hpz)
    · split at ey
      · obtain rfl := Option.some.inj ey; exact hp z hpz oz ez
      · exact R.par y oy z ey hpz oz ez
  · intro y oy z ey hpz
    rw [nx_addO]
    rw [obj_addO] at ey
    split at ey
    · obtain rfl := Option.some.inj ey; have := hp3 z hpz; omega
    · have := R.parlt y oy z ey hpz; omega
/-- The operation makes one block, which holds what it holds in the small machine. -/
def Makes (P : Program) (ν : Nat → Int) (ρ : Pl) (a : Act) (o : Oper) (w : World) (ob : O) (mk : BP → V) : Prop :=
  parO ob = none ∧ ownO ob = true ∧ ∃ u w' n, (execOp a.eval o).run P w = .ok (.value u) w' ∧ Grows w w' ∧ ObjR ν ρ w' w.heap.size 0 n ob ∧ ∀ (ρ' : Pl) x, ρ' x = some (w.heap.size, 0, n) → VR ν ρ' (mk x) u
theorem objR_new {cs : Array Value} {e : TypeId} {l : List V} {w' : World} {p : Option BP} {wn : Bool} (hb : w'.heap[w.heap.size]? = some (.cells cs e)) (hl : VRs ν ρ l cs.toList) : ObjR ν ρ w' w.heap.size 0 cs.size (.c l p wn) :=
  ⟨cs, e, (0, 0), hb, by omega, fun _ i _ h => by simp at h, by have := hl.length; simp at this; omega, fun i v hv => by
    obtain ⟨u, hu, hr⟩ := hl.get hv
    exact ⟨u, by simpa using hu, hr⟩⟩
theorem a_alloc (hT : TTok P tt) {t : Nat} {z : List V} (ho : o.op = .alloc t) (hz : zeroC tt t = some z) : Makes P ν ρ a o w (.c z none true) (fun x => .p x 0) := by
  obtain ⟨u, hu, hr⟩ := zeroC_ok (w := w) (ν := ν) (ρ := ρ) hT hz
  refine ⟨rfl, rfl, .pointer (some ⟨w.heap.size, 0, none⟩), w.alloc (.cells u.cells t), u.cells.size, ?_, grows_alloc _ _, objR_new (new_block _ _) hr, fun ρ' x e => ?_⟩
  · simp [execOp, ho, Instr.alloc, hu, newVar, newRow]
  · simp only [VR]; exact ⟨_, _, _, e, rfl⟩
theorem a_box {t n : Nat} {x : Operand} {s : Src} (ho : o.op = .box t x) (hx : VR ν ρ (sv s) (a.eval x)) (h0 : isT 0 (sv s) = false) : Makes P ν ρ a o w (.c (cellsV (sv s)) none true) (fun x => .p x 0) := by
  have hr := cellsV_sound (fun e => by rw [e] at h0; cases h0) hx
  refine ⟨rfl, rfl, .pointer (some ⟨w.heap.size, 0, none⟩), w.alloc (.cells (a.eval x).cells t), (a.eval x).cells.size, ?_, grows_alloc _ _, objR_new (new_block _ _) hr, fun ρ' x e => ?_⟩
  · simp [execOp, ho, Instr.box, newVar, newRow]
  · simp only [VR]; exact ⟨_, _, _, e, rfl⟩
theorem rep_get (z : List V) : ∀ (n i : Nat), i < n * z.length → (rep z n)[i]? = z[i % z.length]?
  | 0, i, h => by simp at h
  | n + 1, i, h => by
    show (app z (rep z n))[i]? = _
    rw [app_eq]
    by_cases h1 : i < z.length
    · rw [List.getElem?_append_left h1, Nat.mod_eq_of_lt h1]
    · rw [Nat.succ_mul] at h
      rw [List.getElem?_append_right (by omega), rep_get z n _ (by omega)]
      congr 1
      exact (Nat.mod_eq_sub_mod (by omega)).symm
theorem VRs.rep {z : List V} {u : Array Value} (hz : VRs ν ρ z u.toList) (n : Nat) : VRs ν ρ (Ev.rep z n) ((Array.range (n * z.length)).map (u[· % u.size]!)).toList := by
  have hl : u.size = z.length := by simpa using hz.length
  refine VRs.of_get (by simp [rep_len]) (fun i v hv => ?_)
  have hi : i < n * z.length := by have := (List.getElem?_eq_some_iff.1 hv).1; rwa [rep_len] at this
  rw [rep_get z n i hi] at hv
  obtain ⟨x, hx, hr⟩ := hz.get hv
  refine ⟨x, ?_, hr⟩
  have hx' : u[i % u.size]? = some x := by rw [hl]; simpa using hx
  simp [hi, getElem!_def, hx']
theorem place_len : ∀ {ps : List (Nat × Nat × V)} {z l : List V}, place ps z = some l → l.length = z.length
  | [], z, l, h => by obtain rfl := Option.some.inj (show some z = some l from h); rfl
  | p :: ps, z, l, h => by
    obtain ⟨_, h⟩ := bcase_ne' (show bcase (isT 0 p.2.2) (bcase (lenIs p.2.1 (cellsV p.2.2)) none (place ps (Ev.splice p.1 (cellsV p.2.2) z))) none = some l from h) (by simp)
    obtain ⟨_, h⟩ := bcase_ne h (by simp)
    rw [place_len h, splice_len']
theorem a_bslice (hT : TTok P tt) {t len n : Nat} {ps : Array (Nat × Operand)} {k : KA} {ob : O} {mk : BP → V} (ho : o.op = .buildSlice t len ps) (hk : trBSlice tt ds t len ps.toList = .al k) (hr : OpR ν ρ ds sv a (ps.toList.map (·.2))) (hv : doA k sv = some (ob, mk)) : Makes P ν ρ a o w ob mk := by
  have nw : ∀ w, K.no w ≠ .al k := fun w h => by cases h
  unfold trBSlice at hk
  split at hk <;> try (cases hk; done)
  rename_i e ht
  split at hk <;> try (cases hk; done)
  rename_i sz hs
  split at hk <;> try (cases hk; done)
  rename_i z hz
  split at hk <;> try (cases hk; done)
  rename_i ss hss
  obtain ⟨hc, hk⟩ := bif_ne hk nw
  simp only [Bool.and_eq_true] at hc
  have hc1 := Nat.le_of_ble_eq_true hc.1.1
  have hc2 := Nat.eq_of_beq_eq_true hc.1.2
  have hc3 := Nat.le_of_ble_eq_true hc.2
  injection hk with hk; subst hk
  obtain ⟨l, hl, hv⟩ := ocase_ne (show ocase (place (srcP sv ss) (rep' len z)) none (fun l => some (O.c l none true, fun x => V.sl x 0 sz len)) = some (ob, mk) from hv) (by simp)
  obtain ⟨rfl, rfl⟩ := Prod.mk.inj (Option.some.inj hv)
  obtain ⟨u, hu, hzr⟩ := zeroC_ok (w := w) (ν := ν) (ρ := ρ) hT hz
  have hrep := hzr.rep len
  rw [hc2] at hrep
  have hrl : (rep' len z).length = len * sz := by rw [← hc2]; exact rep_len z len
  obtain ⟨cs, hf, hcs⟩ := place_sound (fun i => some (i * sz, sz)) ps.toList ss (rep' len z) l _ (by rw [hrl]; exact hss) hr hrep hl
  have hcl : cs.size = len * sz := by
    have h1 := hcs.length
    have h2 : l.length = len * sz := by
      rw [place_len hl, hrl]
    simp at h1; omega
  refine ⟨rfl, rfl, .slice (some ⟨w.heap.size, 0, none⟩) len len, w.alloc (.cells cs e), cs.size, ?_, grows_alloc _ _, objR_new (new_block _ _) hcs, fun ρ' x e => ?_⟩
  · simp only [execOp, ho, Instr.buildSlice, Sem.run_bind, run_underlying (und_ok hT ht), Result.andThen_ok, size_ok hT hs, Sem.run_ite]
    rw [if_neg (by omega)]
    have hz0 : ∀ b : Array Value, (len * sz = 0 → b = #[]) → (len * sz ≠ 0 → b = u.cells) → (Array.range (len * sz)).map (b[· % b.size]!) = (Array.range (len * sz)).map (u.cells[· % u.cells.size]!) := by
      intro b h1 h2
      by_cases h0 : len * sz = 0
      · rw [h0]; simp
      · rw [h2 h0]
    by_cases h0 : len * sz = 0
    · have hr0 : (Array.range 0 : Array Nat) = #[] := rfl
      simp only [h0, hr0, Array.map_empty] at hf
      simp [h0, newRow, hr0, hf]
    · simp [h0, hu, hf, newRow]
  · simp only [VR]; exact ⟨_, _, _, _, _, e, rfl, Nat.le_refl _, fun _ => ⟨by simp, by omega⟩⟩
theorem a_mkslice (hT : TTok P tt) {t : Nat} {x y : Operand} {p q : Src} {k : KA} {ob : O} {mk : BP → V} (ho : o.op = .makeSlice t x y) (hk : trMkS tt t p q = .al k) (hx : VR ν ρ (sv p) (a.eval x)) (hy : VR ν ρ (sv q) (a.eval y)) (hv : doA k sv = some (ob, mk)) : Makes P ν ρ a o w ob mk := by
  have nw : ∀ w, K.no w ≠ .al k := fun w h => by cases h
  unfold trMkS at hk
  split at hk <;> try (cases hk; done)
  rename_i e ht
  split at hk <;> try (cases hk; done)
  rename_i i z hi hz
  obtain ⟨hc, hk⟩ := bif_ne hk nw
  simp only [Bool.and_eq_true] at hc
  have hc1 := Nat.le_of_ble_eq_true hc.1
  have hc2 := Nat.eq_of_beq_eq_true hc.2
  injection hk with hk; subst hk
  obtain ⟨k1, l, e1, hv⟩ := asNat_ne (show asNat (sv p) none (fun l => asNat (sv q) none (fun c => bcase (Nat.ble l c) none (bcase (small c) none (bcase (small l) none (some (O.c (rep z c) none true, fun x => V.sl x 0 i.size l)))))) = some (ob, mk) from hv) (by simp)
  obtain ⟨k2, c, e2, hv⟩ := asNat_ne hv (by simp)
  obtain ⟨h1, hv⟩ := bcase_ne hv (by simp)
  obtain ⟨h2, hv⟩ := bcase_ne hv (by simp)
  obtain ⟨_, hv⟩ := bcase_ne hv (by simp)
  obtain ⟨rfl, rfl⟩ := Prod.mk.inj (Option.some.inj hv)
  have h1' := Nat.le_of_ble_eq_true h1
  have h2' : c ≤ 1000000 := Nat.le_of_ble_eq_true h2
  rw [e1] at hx; rw [e2] at hy; simp only [VR, zval] at hx hy
  have hii := hT _ _ hi
  obtain ⟨u, hu, hzr⟩ := zeroC_ok (w := w) (ν := ν) (ρ := ρ) hT hz
  have huz : i.zero = some u := by
    have h3 : (zeroValue e).run P w = match i.zero with | some v => .ok v w | none => .halt (.unsupported (.resourceLimit "a value of more than 2^22 cells")) w := by
      unfold zeroValue
      simp only [typeInfo, Sem.run_bind, run_program, Result.andThen_ok, hii, Sem.run_pure]
      cases i.zero <;> rfl
    rw [h3] at hu
    cases hzz : i.zero with
    | none => rw [hzz] at hu; cases hu
    | some v => rw [hzz] at hu; injection hu with hu; rw [hu]
  have hb : (i.bytes : Int) * (c : Int) ≤ 281474976710656 := by
    have : i.bytes * c ≤ 1000 * 1000000 := Nat.mul_le_mul hc1 h2'
    have : ((i.bytes * c : Nat) : Int) ≤ 1000 * 1000000 := by omega
    rw [Int.natCast_mul] at this; omega
  have hrun := run_make (P := P) w t e i u (und_ok hT ht) hii huz k1 k2 (l : Int) (c : Int) (by omega) (by omega) hb (by omega)
  simp only [Int.toNat_natCast] at hrun
  have hrep := hzr.rep c
  rw [hc2] at hrep
  refine ⟨rfl, rfl, .slice (some ⟨w.heap.size, 0, none⟩) l c, w.alloc (.cells (madeCells u.cells (c * i.size)) e), (madeCells u.cells (c * i.size)).size, ?_, grows_alloc _ _, objR_new (new_block _ _) hrep, fun ρ' x e => ?_⟩
  · simp only [execOp, ho, hx, hy, Sem.run_bind, hrun]; rfl
  · simp only [VR]; exact ⟨_, _, _, _, _, e, rfl, h1', fun _ => ⟨by simp, by rw [size_madeCells]; omega⟩⟩
theorem a_mkmap {t : Nat} (ho : o.op = .makeMap t none) : Makes P ν ρ a o w (.m []) (fun x => .m x) := by
  refine ⟨rfl, rfl, .map (some w.heap.size), w.alloc (.map #[] 0), 0, ?_, grows_alloc _ _, ⟨#[], 0, new_block _ _, trivial⟩, fun ρ' x e => ?_⟩
  · simp [execOp, ho, Instr.makeMap]
  · simp only [VR]; exact ⟨_, _, e, rfl⟩
theorem a_s2b (hT : TTok P tt) {t t' e : Nat} {x : Operand} {s : Src} {ob : O} {mk : BP → V} (ho : o.op = .convert t t' x) (ht : und tt t = some .string) (ht' : und tt t' = some (.slice e)) (hte : und tt e = some (.int .u8)) (hx : VR ν ρ (sv s) (a.eval x))
    (hv : onS (sv s) none (fun l => bcase (small (Ev.len l)) none (some (O.c (zs l) none true, fun x => V.sl x 0 1 (Ev.len l)))) = some (ob, mk)) : Makes P ν ρ a o w ob mk := by
  obtain ⟨l, e1, hv⟩ := onS_ne hv (by simp)
  obtain ⟨_, hv⟩ := bcase_ne hv (by simp)
  obtain ⟨rfl, rfl⟩ := Prod.mk.inj (Option.some.inj hv)
  rw [e1] at hx; simp only [VR] at hx
  obtain ⟨b, eb, hb⟩ := hx
  have hrun := run_bytes_of_string (P := P) w t t' e b (und_ok hT ht) (und_ok hT ht') (und_ok hT hte)
  have hsz : b.size = l.length := by rw [size_eq, hb.length]
  have hge := grownCap_ge w b.size 0 e
  have hrs : (bytesRow b (grownCap w b.size 0 e)).size = grownCap w b.size 0 e := by
    unfold bytesRow; simp only [Array.size_append, Array.size_map, Array.size_replicate]
    have : b.data.size = b.size := rfl
    omega
  have hzr := hb.zs (ρ := ρ)
  have hdl : b.data.toList.length = b.size := (size_eq b).symm
  refine ⟨rfl, rfl, _, _, (bytesRow b (grownCap w b.size 0 e)).size, by simp only [execOp, ho, eb, Sem.run_bind, hrun]; rfl, grows_drew _ _, ⟨_, e, _, new_block' _ _, by omega, fun _ i hi h => by simp at h; omega, ?_, fun i v hv => ?_⟩, fun ρ' x e' => ?_⟩
  · have := hzr.length; simp at this; rw [hrs]; omega
  · obtain ⟨u, hu, hr⟩ := hzr.get hv
    refine ⟨u, ?_, hr⟩
    rw [List.getElem?_map] at hu
    cases hbi : b.data.toList[i]? with
    | none => rw [hbi] at hu; cases hu
    | some c =>
      rw [hbi] at hu
      obtain rfl := Option.some.inj hu
      have hi := (List.getElem?_eq_some_iff.1 hbi)
      obtain ⟨hi1, hi2⟩ := hi
      rw [Nat.zero_add, bytesRow_at b _ i (by simpa using hi1)]
      simp at hi2; rw [hi2]
  · simp only [VR]
    exact ⟨_, _, _, _, _, e', by rw [len_eq, ← hsz], by rw [len_eq]; omega, fun _ => ⟨by simp, by rw [hrs]; omega⟩⟩
/-- What makes memory makes what it makes in the small machine. -/
theorem doA_sound (hT : TTok P tt) {k : KA} (hk : trK tt ds o.op = .al k) (hr : OpR ν ρ ds sv a o.op.operands.toList) {ob : O} {mk : BP → V} (hv : doA k sv = some (ob, mk)) : Makes P ν ρ a o w ob mk := by
  have nw : ∀ w, K.no w ≠ .al k := fun w h => by cases h
  generalize hop : o.op = op at hk hr
  cases op <;> simp only [trK, no] at hk <;> try (cases hk; done)
  case alloc t =>
    split at hk
    · rename_i z hz
      injection hk with hk; subst hk
      obtain ⟨rfl, rfl⟩ := Prod.mk.inj (Option.some.inj (show some (O.c z none true, fun x => V.p x 0) = some (ob, mk) from hv))
      exact a_alloc hT hop hz
    · cases hk
  case box t x =>
    split at hk
    · rename_i n hn
      obtain ⟨s, e, hk⟩ := s1_ne hk nw
      injection hk with hk; subst hk
      obtain ⟨h0, hv⟩ := bcase_ne' (show bcase (isT 0 (sv s)) (bcase (lenIs n (cellsV (sv s))) none (some (O.c (cellsV (sv s)) none true, fun x => V.p x 0))) none = some (ob, mk) from hv) (by simp)
      obtain ⟨_, hv⟩ := bcase_ne hv (by simp)
      obtain ⟨rfl, rfl⟩ := Prod.mk.inj (Option.some.inj hv)
      exact a_box (n := n) hop (opR_one hr e) h0
    · cases hk
  case buildSlice t n ps => exact a_bslice (n := n) hT hop hk (by simpa [Op.operands] using hr) hv
  case makeSlice t x y =>
    obtain ⟨p, q, e1, e2, hk⟩ := s2_ne hk nw
    exact a_mkslice hT hop hk (hr x (by simp [Op.operands]) _ e1) (hr y (by simp [Op.operands]) _ e2) hv
  case makeMap t r =>
    cases r <;> simp only [trK, no] at hk <;> try (cases hk; done)
    injection hk with hk; subst hk
    obtain ⟨rfl, rfl⟩ := Prod.mk.inj (Option.some.inj (show some (O.m [], fun x => V.m x) = some (ob, mk) from hv))
    exact a_mkmap hop
  case convert t t' x =>
    obtain ⟨s, e, hk⟩ := s1_ne hk nw
    unfold trConv at hk
    split at hk
    · cases hk
    · cases hk
    · split at hk <;> cases hk
    · rename_i el e1 e2
      split at hk
      · rename_i e3
        injection hk with hk; subst hk
        exact a_s2b hT hop e1 e2 e3 (opR_one hr e) hv
      · cases hk
    · cases hk
  case call c =>
    obtain ⟨ce, args, ts⟩ := c
    exfalso
    unfold trCall at hk
    split at hk
    · rename_i as has
      simp only at has
      cases ce with
      | value f => cases f <;> first | (cases hk; done) | (obtain ⟨s, e, hk⟩ := s1_ne hk nw; cases hk)
      | invoke r m => obtain ⟨s, e, hk⟩ := s1_ne hk nw; cases hk
      | builtin b =>
        have hk' : trBuiltin tt b ts.toList as = .al k := hk
        unfold trBuiltin at hk'
        split at hk'
        · unfold trLen at hk'
          (repeat' split at hk') <;> cases hk'
        · unfold trCap at hk'
          (repeat' split at hk') <;> cases hk'
        · cases hk'
        · cases hk'
        · cases hk'
        · cases hk'
        · exfalso
          unfold trApp at hk'
          repeat' split at hk'
          all_goals first
            | (cases hk'; done)
            | (obtain ⟨_, h⟩ := bif_ne hk' nw; (repeat' split at h) <;> cases h)
        · exfalso
          unfold trCopy at hk'
          repeat' split at hk'
          all_goals (cases hk'; done)
        · exfalso
          unfold trClear at hk'
          repeat' split at hk'
          all_goals first
            | (cases hk'; done)
            | (obtain ⟨_, h⟩ := bif_ne hk' nw; cases h)
        · exfalso
          unfold trDel at hk'
          repeat' split at hk'
          all_goals (cases hk'; done)
        · cases hk'
        · cases hk'
        · cases hk'
    · cases hk
  case unOp u t x => cases u <;> simp only [trK, no] at hk <;> first | (cases hk; done) | (obtain ⟨s, e, hk⟩ := s1_ne hk nw; cases hk)
  case makeFunc f x y =>
    cases f <;> simp only [trK, no] at hk <;> first | (cases hk; done) | (split at hk <;> cases hk)
  case makeInterface t x =>
    cases hi : ifaceT tt t with
    | true => rw [hi] at hk; cases hk
    | false => rw [hi] at hk; obtain ⟨s, e, hk⟩ := s1_ne (show s1 ds x (fun s => .pu (.mkif t s)) = _ from hk) nw; cases hk
  all_goals first
    | (obtain ⟨s, e, hk⟩ := s1_ne hk nw; cases hk; done)
    | (obtain ⟨s, t, e1, e2, hk⟩ := s2_ne hk nw; cases hk; done)
    | (split at hk <;> first | (cases hk; done) | (obtain ⟨s, e, hk⟩ := s1_ne hk nw; cases hk; done) | (obtain ⟨s, t, e1, e2, hk⟩ := s2_ne hk nw; cases hk; done))
    | (unfold trBuild at hk; (repeat' split at hk) <;> first | (cases hk; done) | (obtain ⟨_, hk⟩ := bif_ne hk nw; cases hk; done))
    | (unfold trBSlice at hk; (repeat' split at hk) <;> first | (cases hk; done) | (obtain ⟨_, hk⟩ := bif_ne hk nw; cases hk; done))
    | (obtain ⟨s, t, e1, e2, hk⟩ := s2_ne hk nw; unfold trBin trEq at hk; simp only [Bool.cond_eq_ite] at hk; (repeat' split at hk) <;> first | (cases hk; done) | (obtain ⟨_, hk⟩ := bif_ne hk nw; cases hk; done))
    | (split at hk
       · obtain ⟨s, e, hk⟩ := s1_ne hk nw; unfold trSlice at hk; (repeat' split at hk) <;> (cases hk; done)
       · cases hk)
    | (obtain ⟨s, e, hk⟩ := s1_ne hk nw; unfold trFAddr at hk; (repeat' split at hk) <;> (cases hk; done))
    | (obtain ⟨s, e, hk⟩ := s1_ne hk nw; unfold trField trPart at hk; (repeat' split at hk) <;> (cases hk; done))
    | (obtain ⟨s, t, e1, e2, hk⟩ := s2_ne hk nw; unfold trIAddr at hk; (repeat' split at hk) <;> (cases hk; done))
    | (obtain ⟨s, t, e1, e2, hk⟩ := s2_ne hk nw; unfold trIndex at hk; (repeat' split at hk) <;> first | (cases hk; done) | (obtain ⟨_, hk⟩ := bif_ne hk nw; cases hk; done))
    | (obtain ⟨s, t, e1, e2, hk⟩ := s2_ne hk nw; unfold trMkS at hk; (repeat' split at hk) <;> first | (cases hk; done) | (obtain ⟨_, hk⟩ := bif_ne hk nw; cases hk; done))
    | (obtain ⟨s, t, e1, e2, hk⟩ := s2_ne hk nw; obtain ⟨s, e3, hk⟩ := s1_ne hk nw; unfold trUpd at hk; (repeat' split at hk) <;> (cases hk; done))
    | (obtain ⟨s, t, e1, e2, hk⟩ := s2_ne hk nw; unfold trLookup at hk; (repeat' split at hk) <;> (cases hk; done))
    | (obtain ⟨s, e, hk⟩ := s1_ne hk nw; unfold trTas at hk; (repeat' split at hk) <;> (cases hk; done))
    | (obtain ⟨s, e, hk⟩ := s1_ne hk nw; unfold trLoad at hk; (repeat' split at hk) <;> (cases hk; done))
    | (obtain ⟨s, e, hk⟩ := s1_ne hk nw; unfold trConv at hk; (repeat' split at hk) <;> (cases hk; done))
end Ev
end Go.Proofs.YtoinghomkcjkcaaGreatDoor
/- What acts: stores, entries of maps, append. -/
namespace Go.Proofs.YtoinghomkcjkcaaGreatDoor
set_option linter.unusedSimpArgs false
set_option linter.unusedVariables false
set_option linter.constructorNameAsVariable false
open Go Go.RowKit
namespace Ev
variable {path : List (Cd × Bool)}
variable {P : Program} {tt : TT} {ν : Nat → Int} {ρ : Pl} {ds : List (Option Tmp)} {sv : Src → V} {a : Act} {en : En} {w : World} {o : Oper} {v : V}
theorem setCell_ne (w : World) (b o k : Nat) (u : Value) (h : k ≠ b) : (w.setCell ⟨b, o, none⟩ u).heap[k]? = w.heap[k]? := Below.heap_setCell w ⟨b, o, none⟩ u k h
theorem setCells_ne (b : Nat) : ∀ (vs : List Value) (o : Nat) (w : World) (k : Nat), k ≠ b → (w.setCells b o vs).heap[k]? = w.heap[k]?
  | [], _, _, _, _ => rfl
  | v :: vs, o, w, k, h => by rw [World.setCells, setCells_ne b vs (o + 1) _ k h, setCell_ne w b o k v h]
theorem setCells_size (b : Nat) : ∀ (vs : List Value) (o : Nat) (w : World), (w.setCells b o vs).heap.size = w.heap.size
  | [], _, _ => rfl
  | v :: vs, o, w => by rw [World.setCells, setCells_size b vs]; simp [World.setCell]
theorem setCells_below {B b : Nat} (hB : B ≤ b) : ∀ (vs : List Value) (o : Nat) {W w : World}, Below B W w → Below B W (w.setCells b o vs)
  | [], _, _, _, h => h
  | v :: vs, o, W, w, h => by rw [World.setCells]; exact setCells_below hB vs (o + 1) (h.setCell (p := ⟨b, o, none⟩) hB v)
theorem setCell_at {b o : Nat} {u : Value} {cs : Array Value} {e : TypeId} {fz : Nat × Nat} (h : w.heap[b]? = some (.cells cs e fz)) : (w.setCell ⟨b, o, none⟩ u).heap[b]? = some (.cells (cs.setIfInBounds o u) e fz) := by
  simp [World.setCell, Array.getElem?_modify, h]
theorem setCells_at (b : Nat) : ∀ (vs : List Value) (o : Nat) (w : World) (cs : Array Value) (e : TypeId) (fz : Nat × Nat), w.heap[b]? = some (.cells cs e fz) →
    ∃ cs', (w.setCells b o vs).heap[b]? = some (.cells cs' e fz) ∧ cs'.size = cs.size ∧ ∀ i, cs'[i]? = if o ≤ i ∧ i < o + vs.length ∧ i < cs.size then vs[i - o]? else cs[i]?
  | [], o, w, cs, e, fz, h => ⟨cs, h, rfl, fun i => by rw [if_neg (by simp; omega)]⟩
  | v :: vs, o, w, cs, e, fz, h => by
    obtain ⟨cs', h1, h2, h3⟩ := setCells_at b vs (o + 1) (w.setCell ⟨b, o, none⟩ v) _ e fz (setCell_at h)
    refine ⟨cs', h1, by simpa using h2, fun i => ?_⟩
    rw [h3]
    simp only [Array.size_setIfInBounds, List.length_cons]
    by_cases c1 : o + 1 ≤ i ∧ i < o + 1 + vs.length ∧ i < cs.size
    · rw [if_pos c1, if_pos (by omega), show i - o = (i - (o + 1)) + 1 by omega, List.getElem?_cons_succ]
    · rw [if_neg c1]
      by_cases c2 : o ≤ i ∧ i < o + (vs.length + 1) ∧ i < cs.size
      · rw [if_pos c2]
        have : i = o := by omega
        subst this
        simp [Array.getElem?_setIfInBounds, c2.2.2]
      · rw [if_neg c2, Array.getElem?_setIfInBounds]
        split
        · rename_i he; subst he
          have : ¬ o < cs.size := by omega
          simp [this]
        · rfl
theorem obj_put (h : H) (x : BP) (ob : Option O) (y : BP) : obj (put h x ob) y = if y = x then ob else obj h y := by cases h; exact get_set _ _ _ _
theorem nx_put (h : H) (x : BP) (ob : Option O) : nx (put h x ob) = nx h := by cases h; rfl
theorem obj_kill (h : H) (p : Option BP) (y : BP) : obj (kill h p) y = if p = some y then none else obj h y := by
  cases p with
  | none => simp; rfl
  | some x =>
    show obj (put h x none) y = _
    rw [obj_put]
    by_cases e : y = x
    · subst e; simp
    · rw [if_neg e, if_neg (fun e' => e (Option.some.inj e').symm)]
theorem nx_kill (h : H) (p : Option BP) : nx (kill h p) = nx h := by cases p with
  | none => rfl
  | some x => exact nx_put h x none
/-- One block of one's own is turned; the part of another that it was is forgotten. -/
theorem Rel.change {W : Bas} {h : H} (R : Rel ν W ρ h w) {x : BP} {l : List V} {p : Option BP} {b c n : Nat} (hx : obj h x = some (.c l p true)) (hr : ρ x = some (b, c, n)) {ob : O} (hob : parO ob = none) {w' : World}
    (hne : ∀ k, k ≠ b → w'.heap[k]? = w.heap[k]?) (hsz : w'.heap.size = w.heap.size) (hb : Below W.w0.heap.size W.w0 w') (ho : ObjR ν ρ w' b c n ob) :
    Rel ν W ρ (put (kill h p) x (some ob)) w' ∧ ∀ z oz c' n', obj (put (kill h p) x (some ob)) z = some oz → ρ z = some (b, c', n') → z = x := by
  have inv : ∀ y oy, obj (put (kill h p) x (some ob)) y = some oy → (y = x ∧ oy = ob) ∨ (y ≠ x ∧ p ≠ some y ∧ obj h y = some oy) := by
    intro y oy e
    rw [obj_put, obj_kill] at e
    split at e
    · rename_i hy; exact .inl ⟨hy, (Option.some.inj e).symm⟩
    · rename_i hy
      split at e
      · cases e
      · rename_i hp; exact .inr ⟨hy, hp, e⟩
  have only : ∀ z oz c' n', z ≠ x → p ≠ some z → obj h z = some oz → ρ z = some (b, c', n') → False := by
    intro z oz c' n' hz hp e e'
    rcases R.sep x z _ oz hx e (fun e => hz e.symm) b c n c' n' hr e' with h1 | h1
    · exact hp h1
    · have := R.par z oz x e h1 _ hx; cases this
  refine ⟨⟨hb, ?_, ?_, ?_, ?_, ?_, ?_, ?_, R.base, fun q hq => ⟨(hne q.1 (fun e5 => (R.ob x _ hx b c n hr).not_odd (e5 ▸ (R.kp q hq).1) (R.kp q hq).2)).trans (R.kp q hq).1, (R.kp q hq).2⟩⟩, ?_⟩
  · intro y oy e b' c' n' e'
    rcases inv y oy e with ⟨rfl, rfl⟩ | ⟨hy, hp, e⟩
    · rw [hr] at e'
      obtain ⟨rfl, rfl, rfl⟩ : b = b' ∧ c = c' ∧ n = n' := by simpa using e'
      exact ho
    · refine (R.ob y oy e b' c' n' e').block (hne b' (fun hbb => ?_))
      subst hbb
      exact only y oy c' n' hy hp e e'
  · intro y b' c' n' e'
    rw [nx_put, nx_kill, hsz]; exact R.lt y b' c' n' e'
  · intro y oy e
    rw [nx_put, nx_kill]
    rcases inv y oy e with ⟨rfl, rfl⟩ | ⟨hy, hp, e⟩
    · exact R.dom _ _ hx
    · exact R.dom y oy e
  · intro y oy e hw b' c' n' e'
    rcases inv y oy e with ⟨rfl, rfl⟩ | ⟨hy, hp, e⟩
    · exact R.mine _ _ hx rfl b' c' n' e'
    · exact R.mine y oy e hw b' c' n' e'
  · intro y z oy oz ey ez hyz b' c1 n1 c2 n2 e1 e2
    rcases inv y oy ey with ⟨g1, g2⟩ | ⟨hy, hp, ky⟩ <;> rcases inv z oz ez with ⟨g1', g2'⟩ | ⟨hz, hp', kz⟩
    · exact absurd (g1.trans g1'.symm) hyz
    · subst g1
      rw [hr] at e1
      obtain ⟨rfl, rfl, rfl⟩ : b = b' ∧ c = c1 ∧ n = n1 := by simpa using e1
      exact (only z oz c2 n2 hz hp' kz e2).elim
    · subst g1'
      rw [hr] at e2
      obtain ⟨rfl, rfl, rfl⟩ : b = b' ∧ c = c2 ∧ n = n2 := by simpa using e2
      exact (only y oy c1 n1 hy hp ky e1).elim
    · exact R.sep y z oy oz ky kz hyz b' c1 n1 c2 n2 e1 e2
  · intro y oy z ey hpz oz ez
    rcases inv y oy ey with ⟨g1, g2⟩ | ⟨hy, hp, ky⟩
    · rw [g2, hob] at hpz; cases hpz
    · rcases inv z oz ez with ⟨g1, g2⟩ | ⟨hz, hp', kz⟩
      · subst g1; have := R.par y oy z ky hpz _ hx; cases this
      · exact R.par y oy z ky hpz oz kz
  · intro y oy z ey hpz
    rw [nx_put, nx_kill]
    rcases inv y oy ey with ⟨rfl, rfl⟩ | ⟨hy, hp, ey⟩
    · rw [hob] at hpz; cases hpz
    · exact R.parlt y oy z ey hpz
  · intro z oz c' n' ez e'
    rcases inv z oz ez with ⟨rfl, rfl⟩ | ⟨hz, hp', ez⟩
    · rfl
    · exact (only z oz c' n' hz hp' ez e').elim
/-- One that lies nowhere yet is laid into a block that is there. -/
theorem Rel.lay {W : Bas} {h : H} (R : Rel ν W ρ h w) {y : BP} {ob : O} {b c n : Nat} (hy : obj h y = some ob) (hn : ρ y = none) (hb : b < w.heap.size) (ho : ObjR ν ρ w b c n ob) (hm : ownO ob = true → W.w0.heap.size ≤ b)
    (hs : ∀ z oz c' n', obj h z = some oz → z ≠ y → ρ z = some (b, c', n') → parO ob = some z ∨ parO oz = some y) : Rel ν W (ρ.put y (b, c, n)) h w := by
  have hle : ρ.le (ρ.put y (b, c, n)) := Pl.le_put hn
  have inv : ∀ x b' c' m, ρ.put y (b, c, n) x = some (b', c', m) → (x = y ∧ b' = b ∧ c' = c ∧ m = n) ∨ (x ≠ y ∧ ρ x = some (b', c', m)) := by
    intro x b' c' m e
    by_cases hx : x = y
    · subst hx; rw [Pl.put_same] at e; left; simp at e; exact ⟨rfl, e.1.symm, e.2.1.symm, e.2.2.symm⟩
    · rw [Pl.put_ne _ hx] at e; exact .inr ⟨hx, e⟩
  refine ⟨R.below, ?_, ?_, R.dom, ?_, ?_, R.par, R.parlt, Pl.le_trans R.base (Pl.le_put hn), R.kp⟩
  · intro x ox e b' c' m e'
    rcases inv x b' c' m e' with ⟨rfl, rfl, rfl, rfl⟩ | ⟨hx, e'⟩
    · rw [hy] at e; obtain rfl := Option.some.inj e; exact ho.mono hle
    · exact (R.ob x ox e b' c' m e').mono hle
  · intro x b' c' m e'
    rcases inv x b' c' m e' with ⟨rfl, rfl, rfl, rfl⟩ | ⟨hx, e'⟩
    · exact ⟨hb, R.dom _ _ hy⟩
    · exact R.lt x b' c' m e'
  · intro x ox e hw b' c' m e'
    rcases inv x b' c' m e' with ⟨rfl, rfl, rfl, rfl⟩ | ⟨hx, e'⟩
    · rw [hy] at e; obtain rfl := Option.some.inj e; exact hm hw
    · exact R.mine x ox e hw b' c' m e'
  · intro x z ox oz ex ez hxz b' c1 n1 c2 n2 e1 e2
    rcases inv x b' c1 n1 e1 with ⟨g1, g2, g3, g4⟩ | ⟨hx, k1⟩ <;> rcases inv z b' c2 n2 e2 with ⟨g1', g2', g3', g4'⟩ | ⟨hz, k2⟩
    · exact absurd (g1.trans g1'.symm) hxz
    · subst g1; subst g2
      rw [hy] at ex; obtain rfl := Option.some.inj ex
      exact hs z oz c2 n2 ez hz k2
    · subst g1'; subst g2'
      rw [hy] at ez; obtain rfl := Option.some.inj ez
      exact (hs x ox c1 n1 ex hx k1).symm
    · exact R.sep x z ox oz ex ez hxz b' c1 n1 c2 n2 k1 k2
def After (ν : Nat → Int) (W : Bas) (h : H) (ρ : Pl) (h' : H) (v : V) (u : Value) (w' : World) : Prop := ∃ ρ', Rel ν W ρ' h' w' ∧ VR ν ρ' v u ∧ Ext h ρ h' ρ'
def Does (P : Program) (o : Oper) (a : Act) (w : World) (R : Value → World → Prop) : Prop := ∀ (next : Act → World → Prop) (Q : Exit → Act → World → Prop), (∀ u w', R u w' → next (a.put o.dst u) w') → o.wp P a w next Q
theorem Does.value {u : Value} {w' : World} {R : Value → World → Prop} (h : (execOp a.eval o).run P w = .ok (.value u) w') (hR : R u w') : Does P o a w R := fun next Q k => by
  unfold Oper.wp; rw [h]; exact k u w' hR
theorem Does.skip {w' : World} {R : Value → World → Prop} (h : (execOp a.eval o).run P w = .ok .skip w') (hR : R undef w') : Does P o a w R := fun next Q k => by
  unfold Oper.wp; rw [h]; exact k undef w' hR
theorem ext_put {h : H} {x : BP} {ob : Option O} {p : Option BP} : Ext h ρ (put (kill h p) x ob) ρ := ⟨Pl.le_refl ρ, fun _ e _ => e, by rw [nx_put, nx_kill]; exact Nat.le_refl _⟩
theorem allOne_get : ∀ {l : List V}, allOne l = true → ∀ v ∈ l, oneV v = true
  | [], _, v, h => by cases h
  | a :: l, h, v, hv => by
    obtain ⟨h1, h2⟩ := bcase_ne (show bcase (oneV a) false (allOne l) = true from h) (by simp)
    rcases List.mem_cons.1 hv with rfl | hv
    · exact h1
    · exact allOne_get h2 v hv
theorem VRs.one {l : List V} {us : List Value} (hr : VRs ν ρ l us) (h1 : allOne l = true) : ∀ u ∈ us, u.oneCell' = true := by
  intro u hu
  obtain ⟨i, hi⟩ := List.getElem?_of_mem hu
  have hlt : i < l.length := by rw [← hr.length]; exact (List.getElem?_eq_some_iff.1 hi).1
  obtain ⟨u', hu', hr'⟩ := hr.get (List.getElem?_eq_getElem hlt)
  rw [hi] at hu'; obtain rfl := Option.some.inj hu'
  exact hr'.one (allOne_get h1 _ (List.getElem_mem hlt))
theorem e_store {h : H} {W : Bas} (R : Rel ν W ρ h w) (hT : TTok P tt) {t n : Nat} {x y : Operand} {p q : Src} {h' : H} (ho : o.op = .store t x y) (hs : sizeT tt t = some n) (hx : VR ν ρ (sv p) (a.eval x)) (hy : VR ν ρ (sv q) (a.eval y))
    (hv : onP (sv p) (R1.bad 33) (fun x off => (fun vs => bcase (lenIs n vs) (R1.bad 34) (write h x off vs)) (cellsV (sv q))) = .ok v h') : Does P o a w (After ν W h ρ h' v) := by
  obtain ⟨z, off, e1, v1⟩ := onP_ne hv (by simp)
  obtain ⟨hn, v2⟩ := bcase_ne v1 (by simp)
  obtain ⟨l, par, wn, e2, v3⟩ := onC_ne (show onC (obj h z) (R1.bad 21) _ = _ from v2) (by simp)
  obtain ⟨hwn, v4⟩ := bcase_ne v3 (by simp)
  obtain ⟨h1, v5⟩ := bcase_ne v4 (by simp)
  obtain ⟨h2, v6⟩ := bcase_ne v5 (by simp)
  subst hwn
  injection v6 with v7 v8; subst v7; subst v8
  have hn' := lenIs_iff.1 hn
  have hfit := Nat.le_of_ble_eq_true h2
  rw [len_eq, len_eq] at hfit
  have hfit' : off + (cellsV (sv q)).length ≤ l.length := hfit
  rw [e1] at hx; simp only [VR] at hx
  obtain ⟨b, c, m, e3, hx⟩ := hx
  obtain ⟨cs, e, fz, hb, hsz, hfz, hl, hg⟩ := R.ob z _ e2 b c m e3
  have hnx : sv q ≠ .x := by
    intro e; rw [e] at h1; cases h1
  have hcs := cellsV_sound hnx hy
  have hul : (a.eval y).cells.toList.length = n := by rw [hcs.length, hn']
  have hone := hcs.one h1
  have hcell : ∀ j, j < (a.eval y).cells.toList.length → (w.cell? ⟨b, c + off + 0 + j, none⟩).isSome = true := fun j hj => by
    have : c + off + j < cs.size := by omega
    simp [World.cell?, hb, this]
  have hfro : ∀ j, j < (a.eval y).cells.toList.length → w.frozen? ⟨b, c + off + 0 + j, none⟩ = false := fun j hj => by
    have := hfz rfl (c + off + j) (by omega)
    simp only [World.frozen?, hb, Nat.add_zero]
    rw [Bool.and_eq_false_iff]
    simp only [decide_eq_false_iff_not]
    omega
  have hrun := run_storeCells_cells (P := P) b (c + off) (a.eval y).cells.toList 0 w hcell hfro hone
  refine Does.skip (w' := w.setCells b (c + off) (a.eval y).cells.toList) ?_ ⟨ρ, ?_, undef_iff.2 rfl, ext_put⟩
  · have hcz : (a.eval y).cells.size = n := by simpa using hul
    have hst : (storeVar t ⟨b, c + off, none⟩ (a.eval y)).run P w = .ok () (w.setCells b (c + off) (a.eval y).cells.toList) := by
      simp only [storeVar, Sem.run_bind, size_ok hT hs, Result.andThen_ok]
      rw [if_neg (by simpa using hcz)]
      simpa using hrun
    simp [execOp, ho, hx, Instr.storeAt, Instr.sureAddr, hst]
  · obtain ⟨cs', k1, k2, k3⟩ := setCells_at b (a.eval y).cells.toList (c + off) w cs e fz hb
    refine (R.change (ob := .c (Ev.splice off (cellsV (sv q)) l) none true) e2 e3 rfl (fun k hk => setCells_ne b _ _ w k hk) (setCells_size b _ _ w) (setCells_below (R.mine z _ e2 rfl b c m e3) _ _ R.below) ⟨cs', e, fz, k1, by omega, fun _ i hi => hfz rfl i (by omega), by rw [splice_len hfit']; exact hl, fun i v' hv' => ?_⟩).1
    rw [splice_get hfit'] at hv'
    rw [k3]
    split at hv'
    · rename_i hi
      obtain ⟨u, hu, hr⟩ := hcs.get hv'
      rw [if_pos (by omega), show c + i - (c + off) = i - off by omega]
      exact ⟨u, hu, hr⟩
    · rename_i hi
      have hil := (List.getElem?_eq_some_iff.1 hv').1
      rw [if_neg (by omega)]
      exact hg i v' hv'
theorem EsR.push {es : List (V × V)} {ms : List MapEntry} {k v : V} {m : MapEntry} (h : EsR ν ρ es ms) (hk : VR ν ρ k m.key) (hv : VR ν ρ v m.val) : EsR ν ρ (es ++ [(k, v)]) (ms ++ [m]) := by
  induction es generalizing ms with
  | nil => cases ms with
    | nil => exact ⟨hk, hv, trivial⟩
    | cons _ _ => exact h.elim
  | cons e es ih => cases ms with
    | nil => exact h.elim
    | cons m' ms => exact ⟨h.1, h.2.1, ih h.2.2⟩
/-- a key's place, as the model's search tells it -/
def FoundAt (P : Program) (t : TypeId) (kt : TypeDesc) (ks : Nat) (u : Value) (ms : List MapEntry) (i : Nat) (w : World) (x : Option (Nat × Value)) : Prop := if ks ≤ 1 then Instr.findNow kt u ms i = some x else (Instr.findAsking t u ms i).run P w = .ok x w
theorem upd_sound (hT : TTok P tt) (hp : PathOk ν path) {ks : Nat} {t : TypeId} {kt : TypeDesc} (hkt : KeyT P tt t kt ks) {k v : V} {u uv : Value} (hk : VR ν ρ k u) (hv : VR ν ρ v uv) : ∀ {es : List (V × V)} {ms : List MapEntry} {r : List (V × V)} {i : Nat}, EsR ν ρ es ms → upd ks path k v es = some r →
    (FoundAt P t kt ks u ms i w none ∧ r = es ++ [(k, v)]) ∨ ∃ j y m, FoundAt P t kt ks u ms i w (some (i + j, y)) ∧ ms[j]? = some m ∧ Instr.sameBits 10000 m.key u = true ∧ EsR ν ρ r (ms.modify j fun e => { e with key := u, val := uv })
  | [], [], r, i, _, h => by
    obtain rfl := Option.some.inj (show some [(k, v)] = some r from h)
    refine .inl ⟨?_, rfl⟩
    unfold FoundAt; split
    · rfl
    · simp [Instr.findAsking]
  | [], _ :: _, _, _, h, _ => h.elim
  | _ :: _, [], _, _, h, _ => h.elim
  | e :: es, m :: ms, r, i, hr, h => by
    obtain ⟨b, hb, h1⟩ := ocase_ne (show ocase (keyEq ks path k e.1) none (fun b => bcase b (ocase (upd ks path k v es) none (fun r => some (e :: r))) (some ((k, v) :: es))) = some r from h) (by simp)
    have hn := keyEq_sound (w := w) hT hp hkt hk hr.1 hb
    cases b with
    | true =>
      obtain rfl := Option.some.inj h1
      refine .inr ⟨0, m.val, m, ?_, rfl, hn.2 rfl, ⟨hk, hv, hr.2.2⟩⟩
      have hn1 := hn.1
      unfold FoundAt
      split at hn1 <;> rename_i hc
      · rw [if_pos hc]; simp [Instr.findNow, hn1]
      · rw [if_neg hc]; simp [Instr.findAsking, hn1.2]
    | false =>
      obtain ⟨r', h2, h3⟩ := ocase_ne (show ocase (upd ks path k v es) none (fun r => some (e :: r)) = some r from h1) (by simp)
      obtain rfl := Option.some.inj h3
      have hn1 := hn.1
      have step : ∀ x, FoundAt P t kt ks u ms (i + 1) w x → FoundAt P t kt ks u (m :: ms) i w x := by
        intro x hx
        unfold FoundAt at hx ⊢
        split at hn1 <;> rename_i hc
        · rw [if_pos hc] at hx ⊢; simp [Instr.findNow, hn1, hx]
        · rw [if_neg hc] at hx ⊢; simp [Instr.findAsking, hn1.2, hx]
      rcases upd_sound hT hp hkt hk hv (i := i + 1) hr.2.2 h2 with ⟨g1, rfl⟩ | ⟨j, y, m', g1, g2, g3, g4⟩
      · exact .inl ⟨step _ g1, rfl⟩
      · exact .inr ⟨j + 1, y, m', by have := step _ g1; rwa [show i + 1 + j = i + (j + 1) by omega] at this, by simpa using g2, g3, ⟨hr.1, hr.2.1, g4⟩⟩
theorem FoundAt.key (hT : TTok P tt) (hp : PathOk ν path) {ks : Nat} {t : TypeId} {kt : TypeDesc} (hkt : KeyT P tt t kt ks) {k : V} {u : Value} (hk : VR ν ρ k u) {es : List (V × V)} {ms : List MapEntry} {x : Option (Nat × Value)} (hr : EsR ν ρ es ms) (hq : ∀ e, es[0]? = some e → ∃ b, keyEq ks path k e.1 = some b) (h : FoundAt P t kt ks u ms 0 w x) :
    (Instr.findKey t u ms).run P w = .ok x w := by
  unfold FoundAt at h
  by_cases h1 : ks ≤ 1
  · rw [if_pos h1] at h
    simp [Instr.findKey, run_underlying hkt.1, h]
  · rw [if_neg h1] at h
    cases ms with
    | nil => simpa [Instr.findKey, run_underlying hkt.1, Instr.findNow, Instr.findAsking] using h
    | cons m ms =>
      cases es with
      | nil => exact hr.elim
      | cons e es =>
        obtain ⟨b, hb⟩ := hq e rfl
        have hn := (keyEq_sound (w := w) hT hp hkt hk hr.1 hb).1
        rw [if_neg h1] at hn
        simp [Instr.findKey, run_underlying hkt.1, Instr.findNow, hn.1, h]
theorem upd_first {ks : Nat} {k v : V} {es r : List (V × V)} (h : upd ks path k v es = some r) : ∀ e, es[0]? = some e → ∃ b, keyEq ks path k e.1 = some b := by
  intro e he
  cases es with
  | nil => cases he
  | cons e' es =>
    obtain rfl := Option.some.inj (show some e' = some e from he)
    obtain ⟨b, hb, _⟩ := ocase_ne (show ocase (keyEq ks path k e'.1) none (fun b => bcase b (ocase (upd ks path k v es) none (fun r => some (e' :: r))) (some ((k, v) :: es))) = some r from h) (by simp)
    exact ⟨b, hb⟩
theorem e_mapup {h : H} {W : Bas} (R : Rel ν W ρ h w) (he : EnOk ν en) (hT : TTok P tt) {t kt et : Nat} {m x y : Operand} {p q r : Src} {ks : Nat} {h' : H} (ho : o.op = .mapUpdate t m x y ∨ o.op = .insert t m x y) (ht : und tt t = some (.map kt et)) (hks : keyOk tt kt = some ks)
    (hm : VR ν ρ (sv p) (a.eval m)) (hx : VR ν ρ (sv q) (a.eval x)) (hy : VR ν ρ (sv r) (a.eval y)) (hv : mapup ks en.path h (sv p) (sv q) (sv r) = .ok v h') : Does P o a w (After ν W h ρ h' v) := by
  obtain ⟨kd, hkt⟩ := keyOk_some hT hks
  obtain ⟨hik, v1⟩ := bcase_ne hv (by simp)
  obtain ⟨z, e1, v2⟩ := onM_ne v1 (by simp)
  obtain ⟨es, e2, v3⟩ := onMp_ne v2 (by simp)
  obtain ⟨rr, e4, v4⟩ := ocase_ne v3 (by simp)
  injection v4 with v5 v6; subst v5; subst v6
  rw [e1] at hm; simp only [VR] at hm
  obtain ⟨b, n, e3, hm⟩ := hm
  obtain ⟨ms, ck, hb, hes⟩ := R.ob z _ e2 b 0 n e3
  have hck := isKey_sound (w := w) hT hkt hik hx false
  have hblt := (R.lt z b 0 n e3).1
  have fin : ∀ ob : Obj, (∃ ms' ck', ob = .map ms' ck' ∧ EsR ν ρ rr ms'.toList) → (Instr.mapUpdate t (a.eval m) (a.eval x) (a.eval y)).run P w = .ok () { w with heap := w.heap.setIfInBounds b ob } → Does P o a w (After ν W h ρ (put h z (some (.m rr))) (.u [])) := by
    rintro ob ⟨ms', ck', rfl, hes'⟩ hrun
    refine Does.skip (w' := { w with heap := w.heap.setIfInBounds b (.map ms' ck') }) ?_ ⟨ρ, ?_, undef_iff.2 rfl, ?_⟩
    · rcases ho with ho | ho <;> simp [execOp, ho, hrun]
    · have hnb : ∀ k, k ≠ b → (w.heap.setIfInBounds b (.map ms' ck'))[k]? = w.heap[k]? := fun k hk => by
        rw [Array.getElem?_setIfInBounds, if_neg (fun e => hk e.symm)]
      have hWb := R.mine z _ e2 rfl b 0 n e3
      have inv : ∀ y oy, obj (put h z (some (.m rr))) y = some oy → (y = z ∧ oy = .m rr) ∨ (y ≠ z ∧ obj h y = some oy) := by
        intro y oy e
        rw [obj_put] at e
        split at e
        · rename_i hy; exact .inl ⟨hy, (Option.some.inj e).symm⟩
        · rename_i hy; exact .inr ⟨hy, e⟩
      have only : ∀ y oy c' n', y ≠ z → obj h y = some oy → ρ y = some (b, c', n') → False := by
        intro y oy c' n' hy e e'
        rcases R.sep z y _ oy e2 e (fun e => hy e.symm) b 0 n c' n' e3 e' with h1 | h1
        · cases h1
        · have := R.par y oy z e h1 _ e2; cases this
      refine ⟨?_, ?_, ?_, ?_, ?_, ?_, ?_, ?_, R.base, fun q hq => ⟨(hnb q.1 (fun e5 => (R.ob z _ e2 b 0 n e3).not_odd (e5 ▸ (R.kp q hq).1) (R.kp q hq).2)).trans (R.kp q hq).1, (R.kp q hq).2⟩⟩
      · exact R.below.trans ⟨rfl, rfl, rfl, by simp, fun k hk => hnb k (by omega)⟩
      · intro y oy e b' c' n' e'
        rcases inv y oy e with ⟨rfl, rfl⟩ | ⟨hy, e⟩
        · rw [e3] at e'
          obtain ⟨rfl, rfl, rfl⟩ : b = b' ∧ 0 = c' ∧ n = n' := by simpa using e'
          exact ⟨ms', ck', by simp [Array.getElem?_setIfInBounds, hblt], hes'⟩
        · refine (R.ob y oy e b' c' n' e').block (hnb b' (fun hbb => ?_))
          subst hbb; exact only y oy c' n' hy e e'
      · intro y b' c' n' e'; rw [nx_put]; simpa using R.lt y b' c' n' e'
      · intro y oy e; rw [nx_put]
        rcases inv y oy e with ⟨rfl, rfl⟩ | ⟨hy, e⟩
        · exact R.dom _ _ e2
        · exact R.dom y oy e
      · intro y oy e hw b' c' n' e'
        rcases inv y oy e with ⟨rfl, rfl⟩ | ⟨hy, e⟩
        · exact R.mine _ _ e2 rfl b' c' n' e'
        · exact R.mine y oy e hw b' c' n' e'
      · intro y z' oy oz ey ez hyz b' c1 n1 c2 n2 f1 e2'
        rcases inv y oy ey with ⟨g1, g2⟩ | ⟨hy, ky⟩ <;> rcases inv z' oz ez with ⟨g1', g2'⟩ | ⟨hz, kz⟩
        · exact absurd (g1.trans g1'.symm) hyz
        · subst g1
          rw [e3] at f1
          obtain ⟨rfl, rfl, rfl⟩ : b = b' ∧ 0 = c1 ∧ n = n1 := by simpa using f1
          exact (only z' oz c2 n2 hz kz e2').elim
        · subst g1'
          rw [e3] at e2'
          obtain ⟨rfl, rfl, rfl⟩ : b = b' ∧ 0 = c2 ∧ n = n2 := by simpa using e2'
          exact (only y oy c1 n1 hy ky f1).elim
        · exact R.sep y z' oy oz ky kz hyz b' c1 n1 c2 n2 f1 e2'
      · intro y oy z' ey hpz oz ez
        rcases inv y oy ey with ⟨g1, g2⟩ | ⟨hy, ky⟩
        · rw [g2] at hpz; cases hpz
        · rcases inv z' oz ez with ⟨g1, g2⟩ | ⟨hz, kz⟩
          · subst g1; have := R.par y oy z' ky hpz _ e2; cases this
          · exact R.par y oy z' ky hpz oz kz
      · intro y oy z' ey hpz; rw [nx_put]
        rcases inv y oy ey with ⟨g1, g2⟩ | ⟨hy, ky⟩
        · rw [g2] at hpz; cases hpz
        · exact R.parlt y oy z' ky hpz
    · exact ⟨Pl.le_refl ρ, fun _ e _ => e, by rw [nx_put]; exact Nat.le_refl _⟩
  rcases upd_sound (w := w) hT he.path hkt hx hy (i := 0) hes e4 with ⟨g1, rfl⟩ | ⟨j, yv, mm, g1, g2, g3, g4⟩
  · refine fin (.map (ms.push { key := a.eval x, val := a.eval y, born := ck }) (ck + 1)) ⟨_, _, rfl, by rw [Array.toList_push]; exact hes.push hx hy⟩ ?_
    have g1' := g1.key hT he.path hkt hx hes (upd_first e4)
    simp [Instr.mapUpdate, hm, run_underlying (und_ok hT ht), getObj, setObj, Sem.run, hb, hck, g1']
  · rw [Nat.zero_add] at g1
    have g1' := g1.key hT he.path hkt hx hes (upd_first e4)
    have g2' : ms[j]? = some mm := by simpa using g2
    have hst : (Instr.keyThatStays mm.key (a.eval x)).run P w = .ok (a.eval x) w := by
      unfold Instr.keyThatStays; rw [if_pos g3]; rfl
    refine fin (.map (ms.modify j fun e => { e with key := a.eval x, val := a.eval y }) ck) ⟨_, _, rfl, by rw [Array.toList_modify]; exact g4⟩ ?_
    simp [Instr.mapUpdate, hm, run_underlying (und_ok hT ht), getObj, setObj, Sem.run, hb, hck, g1', g2', hst]
end Ev
end Go.Proofs.YtoinghomkcjkcaaGreatDoor
/- What acts: append; calls; all of it in one law. -/
namespace Go.Proofs.YtoinghomkcjkcaaGreatDoor
set_option linter.unusedSimpArgs false
set_option linter.unusedVariables false
set_option linter.constructorNameAsVariable false
open Go Go.RowKit
namespace Ev
variable {path : List (Cd × Bool)}
variable {P : Program} {tt : TT} {ν : Nat → Int} {ρ : Pl} {ds : List (Option Tmp)} {sv : Src → V} {a : Act} {en : En} {w : World} {o : Oper} {v : V}
/-- What is laid behind: so many things, these cells; the same in each world of this memory. -/
def ApArg (P : Program) (w : World) (i : TypeInfo) (z : Value) (u : TypeId) (x : Value) (n : Nat) (news : List Value) : Prop :=
  (∃ d, P.underlying u = some d ∧ (∀ k, d ≠ .int k) ∧ (∀ w', w'.heap = w.heap → (Builtin.lenOf x).run P w' = .ok n w' ∧ (Builtin.firstCells i.size n x).run P w' = .ok news.toArray w')) ∨
  (∃ k k', P.underlying u = some (.int k) ∧ x = .int k' (n : Int) ∧ n ≤ 1000000 ∧ i.bytes ≤ 1000 ∧ news.toArray = if n * i.size = 0 then #[] else Builtin.zeroCells z.cells n)
theorem wrap_small {n : Nat} (h : n ≤ 1000000) : IntKind.i64.wrap (n : Int) = (n : Int) := by rw [IntKind.wrap_i64]; omega
theorem bytes_small {n b : Nat} (h : n ≤ 1000000) (hb : b ≤ 1000) : ¬ ((281474976710656 : Int) < (n : Int) * (b : Int)) := by
  have : n * b ≤ 1000000 * 1000 := Nat.mul_le_mul h hb
  have : ((n * b : Nat) : Int) ≤ 1000000 * 1000 := by omega
  rw [Int.natCast_mul] at this; omega
section
variable {t u ty e : TypeId} {i : TypeInfo} {z : Value} {x : Value} {n : Nat} {news : List Value} {base : Option Addr} {sLen sCap : Nat}
theorem ap_room (ht : P.underlying t = some (.slice e)) (hi : P.info? e = some i) (hz : i.zero = some z) (hx : ApArg P w i z u x n news) (hroom : sLen + n ≤ sCap) {w2 : World}
    (hst : ∀ p, base = some p → (storeCells (p.add (sLen * i.size)) news).run P w = .ok () w2) (hst0 : base = none → w2 = w) :
    (Builtin.append_ #[t, u] ty #[.slice base sLen sCap, x]).run P w = .ok (.slice base (sLen + n) sCap) w2 := by
  rcases hx with ⟨d, hu, hd, hx⟩ | ⟨k, k', hu, rfl, hn, hb, hnews⟩
  · obtain ⟨h1, h2⟩ := hx w rfl
    have hm : (match d with | TypeDesc.int _ => true | _ => false) = false := by cases d <;> first | rfl | exact absurd rfl (hd _)
    cases base with
    | none =>
      obtain rfl := hst0 rfl
      simp [Builtin.append_, run_underlying ht, run_underlying hu, sizeOf, typeInfo, hi, hm, h1, h2, hroom]
    | some p =>
      have h3 := hst p rfl
      simp [Builtin.append_, run_underlying ht, run_underlying hu, sizeOf, typeInfo, hi, hm, h1, h2, hroom, h3]
  · have hw := wrap_small hn
    have hb' := bytes_small hn hb
    have h0 : ¬ ((n : Int) < 0) := by omega
    by_cases hns : n * i.size = 0
    · rw [if_pos hns] at hnews
      have hnl : news = [] := by cases news <;> simp_all
      subst hnl
      cases base with
      | none =>
        obtain rfl := hst0 rfl
        simp [Builtin.append_, run_underlying ht, run_underlying hu, sizeOf, typeInfo, hi, asInt, asIntOf, hw, hb', h0, hroom, hns]
      | some p =>
        have h3 := hst p rfl
        simp [Builtin.append_, run_underlying ht, run_underlying hu, sizeOf, typeInfo, hi, asInt, asIntOf, hw, hb', h0, hroom, hns, h3]
    · rw [if_neg hns] at hnews
      have hnl : (Builtin.zeroCells z.cells n).toList = news := by rw [← hnews]
      cases base with
      | none =>
        obtain rfl := hst0 rfl
        simp [Builtin.append_, run_underlying ht, run_underlying hu, sizeOf, typeInfo, zeroValue, hi, hz, asInt, asIntOf, hw, hb', h0, hroom, hns]
      | some p =>
        have h3 := hst p rfl
        simp [Builtin.append_, run_underlying ht, run_underlying hu, sizeOf, typeInfo, zeroValue, hi, hz, asInt, asIntOf, hw, hb', h0, hroom, hns, hnl, h3]
theorem ap_grow (ht : P.underlying t = some (.slice e)) (hi : P.info? e = some i) (hz : i.zero = some z) (hx : ApArg P w i z u x n news) (hgrow : sCap < sLen + n) (hneed : sLen + n ≤ 2000000) (hb : i.bytes ≤ 1000) {olds : List Value}
    (hold : ∀ w', w'.heap = w.heap → (Builtin.firstCells i.size sLen (.slice base sLen sCap)).run P w' = .ok olds.toArray w') :
    (Builtin.append_ #[t, u] ty #[.slice base sLen sCap, x]).run P w = .ok (.slice (some ⟨w.heap.size, 0, none⟩) (sLen + n) (grownCap w (sLen + n) sCap e))
      (w.drew.alloc (.cells (olds.toArray ++ news.toArray ++ Builtin.zeroCells z.cells (grownCap w (sLen + n) sCap e - (sLen + n))) e)) := by
  have hroom : ¬ (sLen + n ≤ sCap) := by omega
  have h63 : ¬ (9223372036854775807 < (sLen : Int) + (n : Int)) := by omega
  have hfit : Builtin.nextslicecap (sLen + n) sCap * i.bytes ≤ 281474976710656 := growslice_fits hgrow (by
    have : (sLen + n) * i.bytes ≤ 2000000 * 1000 := Nat.mul_le_mul hneed hb
    omega)
  have h48 : ¬ (281474976710656 < Builtin.nextslicecap (sLen + n) sCap * i.bytes) := by omega
  have ho := hold w.drew rfl
  rcases hx with ⟨d, hu, hd, hx⟩ | ⟨k, k', hu, rfl, hn, hb, hnews⟩
  · obtain ⟨h1, _⟩ := hx w rfl
    obtain ⟨_, h2⟩ := hx w.drew rfl
    have hm : (match d with | TypeDesc.int _ => true | _ => false) = false := by cases d <;> first | rfl | exact absurd rfl (hd _)
    simp [Builtin.append_, run_underlying ht, run_underlying hu, sizeOf, typeInfo, zeroValue, hi, hz, hm, h1, h2, hroom, h63, h48, ho, Question.forced, newRow, grownCap]
    congr 2; apply Array.ext'; simp
  · have hw := wrap_small hn
    have hb' := bytes_small hn hb
    have h0 : ¬ ((n : Int) < 0) := by omega
    by_cases hns : n * i.size = 0
    · rw [if_pos hns] at hnews
      simp [Builtin.append_, run_underlying ht, run_underlying hu, sizeOf, typeInfo, zeroValue, hi, hz, asInt, asIntOf, hw, hb', h0, hroom, h63, h48, ho, Question.forced, newRow, grownCap, hns, hnews]
    · rw [if_neg hns] at hnews
      simp [Builtin.append_, run_underlying ht, run_underlying hu, sizeOf, typeInfo, zeroValue, hi, hz, asInt, asIntOf, hw, hb', h0, hroom, h63, h48, ho, Question.forced, newRow, grownCap, hns, hnews]
end
theorem firstCells_slice {h : H} {W : Bas} (R : Rel ν W ρ h w) {sz : Nat} {x0 : V} {u : Value} {l : List V} (hv : cellsOf h sz x0 = some l) (hx : VR ν ρ x0 u) :
    ∃ n us, lenS x0 = some n ∧ l.length = n * sz ∧ VRs ν ρ l us ∧ ∀ w', w'.heap = w.heap → (Builtin.lenOf u).run P w' = .ok n w' ∧ (Builtin.firstCells sz n u).run P w' = .ok us.toArray w' := by
  obtain ⟨p, n, cap, us, rfl, hle, hl, hr, hul, hp0, hc⟩ := cellsOf_some R hv hx
  have hls : lenS x0 = some n := by
    cases x0 <;> simp only [VR] at hx <;> first
      | (cases hx; rfl)
      | (obtain ⟨_, hx⟩ := hx; cases hx; rfl)
      | (obtain ⟨_, _, _, _, _, _, hx, _⟩ := hx; cases hx; rfl)
      | (cases hv; done)
      | (obtain ⟨_, hx, _⟩ := hx; cases hx; done)
      | (obtain ⟨_, _, hx, _⟩ := hx; cases hx; done)
      | (obtain ⟨_, _, _, _, hx⟩ := hx; cases hx; done)
      | (obtain ⟨_, _, _, hx⟩ := hx; cases hx; done)
      | skip
  refine ⟨n, us, hls, hl, hr, fun w' hw' => ⟨by simp [Builtin.lenOf], ?_⟩⟩
  cases p with
  | none =>
    have := hp0 rfl
    subst this
    have hus : us = [] := List.eq_nil_of_length_eq_zero (by simpa using hul)
    subst hus
    simp [Builtin.firstCells]
  | some q =>
    exact run_firstCells_some (P := P) w' sz n q n cap us hul (fun j v hj => by
      have := hc q rfl j v hj
      unfold World.cell? at this ⊢
      rw [hw']; exact this)
theorem objR_pre {cs : Array Value} {e : TypeId} {l : List V} {w' : World} {p : Option BP} {wn : Bool} (hb : w'.heap[w.heap.size]? = some (.cells cs e)) (hl : l.length ≤ cs.size) (hg : ∀ (i : Nat) (v : V), l[i]? = some v → ∃ u, cs[i]? = some u ∧ VR ν ρ v u) : ObjR ν ρ w' w.heap.size 0 cs.size (.c l p wn) :=
  ⟨cs, e, (0, 0), hb, by omega, fun _ i _ h => by simp at h, hl, fun i v hv => by rw [Nat.zero_add]; exact hg i v hv⟩
section
variable {t u ty e : TypeId} {i : TypeInfo} {z : Value} {x : Value} {n : Nat} {news : List Value} {new : List V} {h h' : H} {W : Bas} {p : V} {s : Value}
theorem e_appTo (R : Rel ν W ρ h w) (ht : P.underlying t = some (.slice e)) (hi : P.info? e = some i) (hz : i.zero = some z) (hzs : z.cells.size = i.size) (hs : VR ν ρ p s) (hx : ApArg P w i z u x n news) (hnl : news.length = n * i.size) (hnew : VRs ν ρ new news)
    (hv : appTo h i.size i.bytes p n new = .ok v h') : ∃ u' w', (Builtin.append_ #[t, u] ty #[s, x]).run P w = .ok u' w' ∧ After ν W h ρ h' v u' w' := by
  by_cases hn0 : n = 0
  · subst hn0
    have hv1 : onSl p (onE p (bcase (isT 6 p) (R1.bad 29) (R1.ok p h)) (fun _ _ => R1.ok p h)) (fun _ _ _ _ => R1.ok p h) = .ok v h' := hv
    have hnn : news = [] := List.eq_nil_of_length_eq_zero (by simpa using hnl)
    subst hnn
    have key : v = p ∧ h' = h ∧ ∃ b l c, s = .slice b l c ∧ l ≤ c := by
      by_cases h1 : ∃ y o s' m, p = .sl y o s' m
      · obtain ⟨y, o, s', m, rfl⟩ := h1
        simp only [VR] at hs
        obtain ⟨_, _, _, _, _, _, hs, hle, _⟩ := hs
        have hv2 : R1.ok (V.sl y o s' m) h = .ok v h' := hv1
        injection hv2 with g1 g2
        exact ⟨g1.symm, g2.symm, _, _, _, hs, hle⟩
      · by_cases h2 : ∃ y o, p = .e y o
        · obtain ⟨y, o, rfl⟩ := h2
          simp only [VR] at hs
          obtain ⟨_, hs⟩ := hs
          have hv2 : R1.ok (V.e y o) h = .ok v h' := hv1
          injection hv2 with g1 g2
          exact ⟨g1.symm, g2.symm, _, _, _, hs, Nat.le_refl _⟩
        · have hv2 : bcase (isT 6 p) (R1.bad 29) (R1.ok p h) = .ok v h' := by
            cases p <;> first | exact hv1 | exact absurd ⟨_, _, _, _, rfl⟩ h1 | exact absurd ⟨_, _, rfl⟩ h2
          obtain ⟨h6, hv3⟩ := bcase_ne hv2 (by simp)
          rw [isT_s0 h6] at hs; simp only [VR] at hs
          injection hv3 with g1 g2
          exact ⟨g1.symm, g2.symm, _, _, _, hs, Nat.le_refl _⟩
    obtain ⟨rfl, rfl, b, l, c, rfl, hle⟩ := key
    exact ⟨_, w, ap_room ht hi hz hx (by omega) (fun q _ => rfl) (fun _ => rfl), ρ, R, by simpa using hs, Ext.refl _ _⟩
  · have hb0 : Nat.beq n 0 = false := by
      cases hb : Nat.beq n 0 with
      | false => rfl
      | true => exact absurd (Nat.eq_of_beq_eq_true hb) hn0
    unfold appTo at hv
    rw [hb0, bcase_f] at hv
    obtain ⟨c1, v1⟩ := bcase_ne hv (by simp)
    obtain ⟨c2, v2⟩ := bcase_ne v1 (by simp)
    obtain ⟨c3, v3⟩ := bcase_ne v2 (by simp)
    obtain ⟨c4, v4⟩ := bcase_ne v3 (by simp)
    have hb := Nat.le_of_ble_eq_true c1
    have hn : n ≤ 1000000 := Nat.le_of_ble_eq_true c2
    have hnw : new.length = n * i.size := lenIs_iff.1 c3
    have hone := hnew.one c4
    -- a new row
    have grow : ∀ (base : Option Addr) (sLen sCap : Nat) (old : List V) (olds : List Value), s = .slice base sLen sCap → sCap < sLen + n → sLen ≤ 1000000 → VRs ν ρ old olds → olds.length = sLen * i.size →
        (∀ w', w'.heap = w.heap → (Builtin.firstCells i.size sLen (.slice base sLen sCap)).run P w' = .ok olds.toArray w') →
        ∃ u' w', (Builtin.append_ #[t, u] ty #[s, x]).run P w = .ok u' w' ∧ Grows w w' ∧ ∃ nn, (∀ (ρ' : Pl) y, ρ' y = some (w.heap.size, 0, nn) → VR ν ρ' (.sl y 0 i.size (sLen + n)) u') ∧ ∀ par wn, ObjR ν ρ w' w.heap.size 0 nn (.c (old ++ new) par wn) := by
      intro base sLen sCap old olds es hg hsl hro hol hold
      subst es
      have hrun := ap_grow (ty := ty) ht hi hz hx hg (by omega) hb hold
      have hge := grownCap_ge w (sLen + n) sCap e
      generalize grownCap w (sLen + n) sCap e = cap at hrun hge
      obtain ⟨d, rfl⟩ : ∃ d, cap = sLen + n + d := ⟨cap - (sLen + n), by omega⟩
      have hcs : (olds.toArray ++ news.toArray ++ Builtin.zeroCells z.cells (sLen + n + d - (sLen + n))).size = (sLen + n + d) * i.size := by
        simp only [Array.size_append, List.size_toArray, size_zeroCells, hzs, hol, hnl, Nat.add_sub_cancel_left]
        rw [Nat.add_mul, Nat.add_mul]
      refine ⟨_, _, hrun, grows_drew _ _, (sLen + n + d) * i.size, fun ρ' y ey => ?_, fun par wn => ?_⟩
      · simp only [VR]; exact ⟨_, _, _, _, _, ey, rfl, by omega, fun _ => ⟨by simp, by omega⟩⟩
      · rw [← hcs]
        refine objR_pre (new_block' _ _) ?_ (fun j vv hj => ?_)
        · rw [hcs, List.length_append, hnw, ← hro.length, hol, Nat.add_mul, Nat.add_mul]; omega
        · obtain ⟨uu, hu, hr⟩ := (hro.app hnew).get hj
          refine ⟨uu, ?_, hr⟩
          have hjl := (List.getElem?_eq_some_iff.1 hu).1
          rw [Array.getElem?_append_left (by simpa using hjl)]
          simpa using hu
    by_cases h1 : ∃ y o s' m, p = .sl y o s' m
    · obtain ⟨y, off, s', m, rfl⟩ := h1
      obtain ⟨d1, v5⟩ := bcase_ne (show bcase (Nat.beq s' i.size) (R1.bad 24) _ = _ from v4) (by simp)
      obtain ⟨l, par, wn, e2, v6⟩ := onC_ne v5 (by simp)
      obtain ⟨hwn, v7⟩ := bcase_ne v6 (by simp)
      obtain ⟨d2, v8⟩ := bcase_ne v7 (by simp)
      obtain ⟨d3, v9⟩ := bcase_ne v8 (by simp)
      subst hwn
      obtain rfl : s' = i.size := Nat.eq_of_beq_eq_true d1
      have hm : m ≤ 1000000 := Nat.le_of_ble_eq_true d2
      have d3' := lenIs_iff.1 d3
      rw [take_eq, drop_eq] at d3'
      have hold' : ((l.drop off).take (m * i.size)).length = m * i.size := d3'
      rw [fresh_eq] at v9
      injection v9 with g1 g2
      rw [take_eq, take_eq, drop_eq, app_eq] at g2
      rw [nx_put, nx_kill] at g1
      simp only [VR] at hs
      obtain ⟨b, c, nn, cap, pp, e3, es, hle, hc⟩ := hs
      obtain ⟨cs, ee, fz, hbk, hsz, hfz, hll, hg⟩ := R.ob y _ e2 b c nn e3
      simp only [List.length_take, List.length_drop] at hold'
      -- the old part
      have hro : VRs ν ρ ((l.drop off).take (m * i.size)) ((cs.toList.drop (c + off)).take (m * i.size)) := by
        refine VRs.of_get (by simp; omega) (fun j vv hj => ?_)
        rw [List.getElem?_take] at hj ⊢
        split at hj
        · rename_i hjm
          rw [if_pos hjm]
          rw [List.getElem?_drop] at hj ⊢
          obtain ⟨uu, hu, hr⟩ := hg _ _ hj
          exact ⟨uu, by rw [Array.getElem?_toList, ← hu, Nat.add_assoc], hr⟩
        · cases hj
      have hol : ((cs.toList.drop (c + off)).take (m * i.size)).length = m * i.size := by simp; omega
      -- the elder is cut short
      have hnle : 1 ≤ n := by omega
      have hWb := R.mine y _ e2 rfl b c nn e3
      have cut : ∀ w', (∀ k, k ≠ b → w'.heap[k]? = w.heap[k]?) → w'.heap.size = w.heap.size → Below W.w0.heap.size W.w0 w' → (∃ cs', w'.heap[b]? = some (.cells cs' ee fz) ∧ cs'.size = cs.size ∧ ∀ j, j < c + off + m * i.size → cs'[j]? = cs[j]?) →
          Rel ν W ρ (put (kill h par) y (some (.c (l.take (off + m * i.size)) none false))) w' ∧ ∀ zz oz c' n', obj (put (kill h par) y (some (.c (l.take (off + m * i.size)) none false))) zz = some oz → ρ zz = some (b, c', n') → zz = y := by
        rintro w' k1 k2 k3 ⟨cs', k4, k5, k6⟩
        refine R.change e2 e3 rfl k1 k2 k3 ⟨cs', ee, fz, k4, by omega, fun _ j hj => hfz rfl j (by omega), by simp; omega, fun j vv hj => ?_⟩
        rw [List.getElem?_take] at hj
        split at hj
        · rename_i hjm
          obtain ⟨uu, hu, hr⟩ := hg _ _ hj
          exact ⟨uu, by rw [k6 _ (by omega)]; exact hu, hr⟩
        · cases hj
      have hadd : ∀ {w'}, Rel ν W ρ (put (kill h par) y (some (.c (l.take (off + m * i.size)) none false))) w' → Rel ν W ρ (addO (put (kill h par) y (some (.c (l.take (off + m * i.size)) none false))) (.c ((l.drop off).take (m * i.size) ++ new) (some y) true)) w' := by
        intro w' R'
        refine R'.add _ (fun q hq oq eq => ?_) (fun q hq => ?_)
        · obtain rfl := Option.some.inj hq
          rw [obj_put, if_pos rfl] at eq
          obtain rfl := Option.some.inj eq; rfl
        · obtain rfl := Option.some.inj hq
          rw [nx_put, nx_kill]; exact R.dom _ _ e2
      have hidle : ρ (nx h) = none := R.idle
      have hnew_obj : obj (addO (put (kill h par) y (some (.c (l.take (off + m * i.size)) none false))) (.c ((l.drop off).take (m * i.size) ++ new) (some y) true)) (nx h) = some (.c ((l.drop off).take (m * i.size) ++ new) (some y) true) := by
        rw [obj_addO, nx_put, nx_kill, if_pos rfl]
      have hext : ∀ q, Ext h ρ (addO (put (kill h par) y (some (.c (l.take (off + m * i.size)) none false))) (.c ((l.drop off).take (m * i.size) ++ new) (some y) true)) (ρ.put (nx h) q) := fun q =>
        ⟨Pl.le_put hidle, fun k e hk => (by rw [Pl.put_ne _ (fun e' => by rw [e'] at hk; exact Nat.lt_irrefl _ hk)]; exact e), by rw [nx_addO, nx_put, nx_kill]; omega⟩
      subst g1
      rw [← g2]
      by_cases hroom : m + n ≤ cap
      · obtain ⟨rfl, hfit⟩ := hc (by omega)
        have hfit2 : off + (m + n) * i.size ≤ nn := by
          have : (m + n) * i.size ≤ cap * i.size := Nat.mul_le_mul_right _ hroom
          omega
        rw [Nat.add_mul] at hfit2
        have hcell : ∀ j, j < news.length → (w.cell? ⟨b, c + off + m * i.size + 0 + j, none⟩).isSome = true := fun j hj => by
          have : c + off + m * i.size + j < cs.size := by omega
          simp [World.cell?, hbk, this]
        have hfro : ∀ j, j < news.length → w.frozen? ⟨b, c + off + m * i.size + 0 + j, none⟩ = false := fun j hj => by
          have := hfz rfl (c + off + m * i.size + j) (by omega)
          simp only [World.frozen?, hbk, Nat.add_zero]
          rw [Bool.and_eq_false_iff]
          simp only [decide_eq_false_iff_not]
          omega
        have hst := run_storeCells_cells (P := P) b (c + off + m * i.size) news 0 w hcell hfro hone
        rw [Nat.add_zero] at hst
        have hrun := ap_room (ty := ty) ht hi hz hx hroom (base := some ⟨b, c + off, none⟩) (fun q hq => by obtain rfl := Option.some.inj hq; rw [add_at]; exact hst) (fun hq => by cases hq)
        obtain ⟨cs', k1, k2, k3⟩ := setCells_at b news (c + off + m * i.size) w cs ee fz hbk
        obtain ⟨R1', honly⟩ := cut _ (fun k hk => setCells_ne b _ _ w k hk) (setCells_size b _ _ w) (setCells_below hWb _ _ R.below) ⟨cs', k1, k2, fun j hj => by rw [k3, if_neg (by omega)]⟩
        have R2' := hadd R1'
        refine ⟨_, _, by rw [es]; exact hrun, ρ.put (nx h) (b, c + off, nn - off), ?_, ?_, hext _⟩
        · refine R2'.lay hnew_obj hidle (by rw [setCells_size]; exact (R.lt y b c nn e3).1) ⟨cs', ee, fz, k1, by omega, fun _ j hj => hfz rfl j (by omega), ?_, fun j vv hj => ?_⟩ (fun _ => hWb) (fun zz oz c' n' ez hzy e' => ?_)
          · rw [List.length_append, hnw, List.length_take, List.length_drop]; omega
          · by_cases hjo : j < m * i.size
            · rw [List.getElem?_append_left (by simp; omega)] at hj
              obtain ⟨uu, hu, hr⟩ := hro.get hj
              refine ⟨uu, ?_, hr⟩
              rw [List.getElem?_take, if_pos hjo, List.getElem?_drop, Array.getElem?_toList] at hu
              rw [k3, if_neg (by omega)]; exact hu
            · rw [List.getElem?_append_right (by simp; omega)] at hj
              have hlen : ((l.drop off).take (m * i.size)).length = m * i.size := by simp; omega
              rw [hlen] at hj
              obtain ⟨uu, hu, hr⟩ := hnew.get hj
              have := (List.getElem?_eq_some_iff.1 hu).1
              refine ⟨uu, ?_, hr⟩
              rw [k3, if_pos (by omega), show c + off + j - (c + off + m * i.size) = j - m * i.size by omega]; exact hu
          · rw [obj_addO, nx_put, nx_kill, if_neg hzy] at ez
            left
            rw [honly zz oz c' n' ez e']; rfl
        · simp only [VR]
          refine ⟨b, c + off, nn - off, cap, _, Pl.put_same _ _, rfl, hroom, fun _ => ⟨by simp, by omega⟩⟩
      · obtain ⟨u', w', hrun, hgw, mm, hvr, hob⟩ := grow (some pp) m cap _ _ es (by omega) hm hro hol (fun w'' hw'' => run_firstCells_some (P := P) w'' i.size m pp m cap _ hol (fun j vv hj => by
          have hj2 := (List.getElem?_eq_some_iff.1 hj).1
          rw [hol] at hj2
          have hm0 : m ≠ 0 := fun e => by subst e; simp at hj2
          obtain ⟨rfl, _⟩ := hc (by omega)
          rw [add_at, List.getElem?_take, if_pos hj2, List.getElem?_drop, Array.getElem?_toList] at *
          simp [World.cell?, hw'', hbk, hj]))
        have R1' := (cut w (fun _ _ => rfl) rfl R.below ⟨cs, hbk, rfl, fun _ _ => rfl⟩).1
        have R2' := hadd R1'
        exact ⟨u', w', hrun, ρ.put (nx h) (w.heap.size, 0, mm), R2'.place hgw hnew_obj hidle (hob _ _), hvr _ _ (Pl.put_same _ _), hext _⟩
    · -- from nothing
      have key : ∃ b, s = .slice b 0 0 ∧ R1.ok (V.sl (nx h) 0 i.size n) (addO h (.c new none true)) = .ok v h' := by
        by_cases h2 : ∃ y o, p = .e y o
        · obtain ⟨y, o, rfl⟩ := h2
          simp only [VR] at hs
          obtain ⟨b, hs⟩ := hs
          exact ⟨_, hs, by rw [← fresh_eq h _ (fun y => V.sl y 0 i.size n)]; exact v4⟩
        · have hv2 : bcase (isT 6 p) (R1.bad 28) (fresh h (O.c new none true) (fun y => V.sl y 0 i.size n)) = .ok v h' := by
            cases p <;> first | exact v4 | exact absurd ⟨_, _, _, _, rfl⟩ h1 | exact absurd ⟨_, _, rfl⟩ h2
          obtain ⟨h6, hv3⟩ := bcase_ne hv2 (by simp)
          rw [isT_s0 h6] at hs; simp only [VR] at hs
          exact ⟨_, hs, by rw [← fresh_eq h _ (fun y => V.sl y 0 i.size n)]; exact hv3⟩
      obtain ⟨b, es, hv5⟩ := key
      injection hv5 with g1 g2
      subst g1; subst g2
      obtain ⟨u', w', hrun, hgw, mm, hvr, hob⟩ := grow b 0 0 [] [] es (by omega) (by omega) (by simp [VRs]) (by simp) (fun w'' _ => by
        cases b with
        | none => simp [Builtin.firstCells]
        | some q => exact run_firstCells_some (P := P) w'' i.size 0 q 0 0 [] (by simp) (fun j vv hj => by simp at hj))
      have R2' : Rel ν W ρ (addO h (.c new none true)) w := R.add _ (fun q hq => by cases hq) (fun q hq => by cases hq)
      refine ⟨u', w', hrun, ρ.put (nx h) (w.heap.size, 0, mm), R2'.place (ob := .c new none true) hgw (by rw [obj_addO, if_pos rfl]) R.idle (hob none true), ?_, Pl.le_put R.idle, fun k e hk => (by rw [Pl.put_ne _ (fun e' => by rw [e'] at hk; exact Nat.lt_irrefl _ hk)]; exact e), by rw [nx_addO]; omega⟩
      have := hvr (ρ.put (nx h) (w.heap.size, 0, mm)) (nx h) (Pl.put_same _ _)
      rwa [Nat.zero_add] at this
end
end Ev
end Go.Proofs.YtoinghomkcjkcaaGreatDoor
/- What acts: copy, clear, delete. -/
namespace Go.Proofs.YtoinghomkcjkcaaGreatDoor
set_option linter.unusedSimpArgs false
set_option linter.unusedVariables false
set_option linter.constructorNameAsVariable false
open Go Go.RowKit
namespace Ev
variable {path : List (Cd × Bool)}
variable {P : Program} {tt : TT} {ν : Nat → Int} {ρ : Pl} {ds : List (Option Tmp)} {sv : Src → V} {a : Act} {en : En} {w : World} {o : Oper} {v : V}
/-- Cells laid at a place, as the model lays them. -/
theorem write_sound {h : H} {W : Bas} (R : Rel ν W ρ h w) {z : BP} {off b c m : Nat} {vs : List V} {us : List Value} {h' : H} (e3 : ρ z = some (b, c, m)) (hcs : VRs ν ρ vs us) (hv : write h z off vs = .ok v h') :
    v = .u [] ∧ (storeCells ⟨b, c + off, none⟩ us).run P w = .ok () (w.setCells b (c + off) us) ∧ Rel ν W ρ h' (w.setCells b (c + off) us) ∧ Ext h ρ h' ρ := by
  obtain ⟨l, par, wn, e2, v3⟩ := onC_ne (show onC (obj h z) (R1.bad 21) _ = _ from hv) (by simp)
  obtain ⟨hwn, v4⟩ := bcase_ne v3 (by simp)
  obtain ⟨h1, v5⟩ := bcase_ne v4 (by simp)
  obtain ⟨h2, v6⟩ := bcase_ne v5 (by simp)
  subst hwn
  injection v6 with v7 v8; subst v7; subst v8
  have hfit := Nat.le_of_ble_eq_true h2
  rw [len_eq, len_eq] at hfit
  have hfit' : off + vs.length ≤ l.length := hfit
  obtain ⟨cs, e, fz, hb, hsz, hfz, hl, hg⟩ := R.ob z _ e2 b c m e3
  have hul : us.length = vs.length := hcs.length
  have hone := hcs.one h1
  have hcell : ∀ j, j < us.length → (w.cell? ⟨b, c + off + 0 + j, none⟩).isSome = true := fun j hj => by
    have : c + off + j < cs.size := by omega
    simp [World.cell?, hb, this]
  have hfro : ∀ j, j < us.length → w.frozen? ⟨b, c + off + 0 + j, none⟩ = false := fun j hj => by
    have := hfz rfl (c + off + j) (by omega)
    simp only [World.frozen?, hb, Nat.add_zero]
    rw [Bool.and_eq_false_iff]
    simp only [decide_eq_false_iff_not]
    omega
  have hrun := run_storeCells_cells (P := P) b (c + off) us 0 w hcell hfro hone
  refine ⟨rfl, by simpa using hrun, ?_, ext_put⟩
  obtain ⟨cs', k1, k2, k3⟩ := setCells_at b us (c + off) w cs e fz hb
  refine (R.change (ob := .c (Ev.splice off vs l) none true) e2 e3 rfl (fun k hk => setCells_ne b _ _ w k hk) (setCells_size b _ _ w) (setCells_below (R.mine z _ e2 rfl b c m e3) _ _ R.below) ⟨cs', e, fz, k1, by omega, fun _ i hi => hfz rfl i (by omega), by rw [splice_len hfit']; exact hl, fun i v' hv' => ?_⟩).1
  rw [splice_get hfit'] at hv'
  rw [k3]
  split at hv'
  · rename_i hi
    obtain ⟨u, hu, hr⟩ := hcs.get hv'
    rw [if_pos (by omega), show c + i - (c + off) = i - off by omega]
    exact ⟨u, hu, hr⟩
  · rename_i hi
    have hil := (List.getElem?_eq_some_iff.1 hv').1
    rw [if_neg (by omega)]
    exact hg i v' hv'
/-- A map turned. -/
theorem Rel.turn {h : H} {W : Bas} (R : Rel ν W ρ h w) {z : BP} {es rr : List (V × V)} {b n : Nat} (e2 : obj h z = some (.m es)) (e3 : ρ z = some (b, 0, n)) {ms' : Array MapEntry} {ck' : Nat} (hes' : EsR ν ρ rr ms'.toList) :
    Rel ν W ρ (put h z (some (.m rr))) { w with heap := w.heap.setIfInBounds b (.map ms' ck') } ∧ Ext h ρ (put h z (some (.m rr))) ρ := by
  have hblt := (R.lt z b 0 n e3).1
  refine ⟨?_, Pl.le_refl ρ, fun _ e _ => e, by rw [nx_put]; exact Nat.le_refl _⟩
  have hnb : ∀ k, k ≠ b → (w.heap.setIfInBounds b (.map ms' ck'))[k]? = w.heap[k]? := fun k hk => by
    rw [Array.getElem?_setIfInBounds, if_neg (fun e => hk e.symm)]
  have hWb := R.mine z _ e2 rfl b 0 n e3
  have inv : ∀ y oy, obj (put h z (some (.m rr))) y = some oy → (y = z ∧ oy = .m rr) ∨ (y ≠ z ∧ obj h y = some oy) := by
    intro y oy e
    rw [obj_put] at e
    split at e
    · rename_i hy; exact .inl ⟨hy, (Option.some.inj e).symm⟩
    · rename_i hy; exact .inr ⟨hy, e⟩
  have only : ∀ y oy c' n', y ≠ z → obj h y = some oy → ρ y = some (b, c', n') → False := by
    intro y oy c' n' hy e e'
    rcases R.sep z y _ oy e2 e (fun e => hy e.symm) b 0 n c' n' e3 e' with h1 | h1
    · cases h1
    · have := R.par y oy z e h1 _ e2; cases this
  refine ⟨?_, ?_, ?_, ?_, ?_, ?_, ?_, ?_, R.base, fun q hq => ⟨(hnb q.1 (fun e5 => (R.ob z _ e2 b 0 n e3).not_odd (e5 ▸ (R.kp q hq).1) (R.kp q hq).2)).trans (R.kp q hq).1, (R.kp q hq).2⟩⟩
  · exact R.below.trans ⟨rfl, rfl, rfl, by simp, fun k hk => hnb k (by omega)⟩
  · intro y oy e b' c' n' e'
    rcases inv y oy e with ⟨rfl, rfl⟩ | ⟨hy, e⟩
    · rw [e3] at e'
      obtain ⟨rfl, rfl, rfl⟩ : b = b' ∧ 0 = c' ∧ n = n' := by simpa using e'
      exact ⟨ms', ck', by simp [Array.getElem?_setIfInBounds, hblt], hes'⟩
    · refine (R.ob y oy e b' c' n' e').block (hnb b' (fun hbb => ?_))
      subst hbb; exact only y oy c' n' hy e e'
  · intro y b' c' n' e'; rw [nx_put]; simpa using R.lt y b' c' n' e'
  · intro y oy e; rw [nx_put]
    rcases inv y oy e with ⟨rfl, rfl⟩ | ⟨hy, e⟩
    · exact R.dom _ _ e2
    · exact R.dom y oy e
  · intro y oy e hw b' c' n' e'
    rcases inv y oy e with ⟨rfl, rfl⟩ | ⟨hy, e⟩
    · exact R.mine _ _ e2 rfl b' c' n' e'
    · exact R.mine y oy e hw b' c' n' e'
  · intro y z' oy oz ey ez hyz b' c1 n1 c2 n2 f1 e2'
    rcases inv y oy ey with ⟨g1, g2⟩ | ⟨hy, ky⟩ <;> rcases inv z' oz ez with ⟨g1', g2'⟩ | ⟨hz, kz⟩
    · exact absurd (g1.trans g1'.symm) hyz
    · subst g1
      rw [e3] at f1
      obtain ⟨rfl, rfl, rfl⟩ : b = b' ∧ 0 = c1 ∧ n = n1 := by simpa using f1
      exact (only z' oz c2 n2 hz kz e2').elim
    · subst g1'
      rw [e3] at e2'
      obtain ⟨rfl, rfl, rfl⟩ : b = b' ∧ 0 = c2 ∧ n = n2 := by simpa using e2'
      exact (only y oy c1 n1 hy ky f1).elim
    · exact R.sep y z' oy oz ky kz hyz b' c1 n1 c2 n2 f1 e2'
  · intro y oy z' ey hpz oz ez
    rcases inv y oy ey with ⟨g1, g2⟩ | ⟨hy, ky⟩
    · rw [g2] at hpz; cases hpz
    · rcases inv z' oz ez with ⟨g1, g2⟩ | ⟨hz, kz⟩
      · subst g1; have := R.par y oy z' ky hpz _ e2; cases this
      · exact R.par y oy z' ky hpz oz kz
  · intro y oy z' ey hpz; rw [nx_put]
    rcases inv y oy ey with ⟨g1, g2⟩ | ⟨hy, ky⟩
    · rw [g2] at hpz; cases hpz
    · exact R.parlt y oy z' ky hpz
theorem delK_first {ks : Nat} {k : V} {es r : List (V × V)} (h : delK ks path k es = some r) : ∀ e, es[0]? = some e → ∃ b, keyEq ks path k e.1 = some b := by
  intro e he
  cases es with
  | nil => cases he
  | cons e' es =>
    obtain rfl := Option.some.inj (show some e' = some e from he)
    obtain ⟨b, hb, _⟩ := ocase_ne (show ocase (keyEq ks path k e'.1) none (fun b => bcase b (ocase (delK ks path k es) none (fun r => some (e' :: r))) (some es)) = some r from h) (by simp)
    exact ⟨b, hb⟩
theorem delK_sound (hT : TTok P tt) (hp : PathOk ν path) {ks : Nat} {t : TypeId} {kt : TypeDesc} (hkt : KeyT P tt t kt ks) {k : V} {u : Value} (hk : VR ν ρ k u) : ∀ {es : List (V × V)} {ms : List MapEntry} {r : List (V × V)} {i : Nat}, EsR ν ρ es ms → delK ks path k es = some r →
    (FoundAt P t kt ks u ms i w none ∧ r = es) ∨ ∃ j y, FoundAt P t kt ks u ms i w (some (i + j, y)) ∧ EsR ν ρ r (ms.eraseIdx j)
  | [], [], r, i, _, h => by
    obtain rfl := Option.some.inj (show some [] = some r from h)
    refine .inl ⟨?_, rfl⟩
    unfold FoundAt; split
    · rfl
    · simp [Instr.findAsking]
  | [], _ :: _, _, _, h, _ => h.elim
  | _ :: _, [], _, _, h, _ => h.elim
  | e :: es, m :: ms, r, i, hr, h => by
    obtain ⟨b, hb, h1⟩ := ocase_ne (show ocase (keyEq ks path k e.1) none (fun b => bcase b (ocase (delK ks path k es) none (fun r => some (e :: r))) (some es)) = some r from h) (by simp)
    have hn := keyEq_sound (w := w) hT hp hkt hk hr.1 hb
    have hn1 := hn.1
    cases b with
    | true =>
      obtain rfl := Option.some.inj (show some es = some r from h1)
      refine .inr ⟨0, m.val, ?_, by simpa using hr.2.2⟩
      unfold FoundAt
      split at hn1 <;> rename_i hc
      · rw [if_pos hc]; simp [Instr.findNow, hn1]
      · rw [if_neg hc]; simp [Instr.findAsking, hn1.2]
    | false =>
      obtain ⟨r', h2, h3⟩ := ocase_ne (show ocase (delK ks path k es) none (fun r => some (e :: r)) = some r from h1) (by simp)
      obtain rfl := Option.some.inj h3
      have step : ∀ x, FoundAt P t kt ks u ms (i + 1) w x → FoundAt P t kt ks u (m :: ms) i w x := by
        intro x hx
        unfold FoundAt at hx ⊢
        split at hn1 <;> rename_i hc
        · rw [if_pos hc] at hx ⊢; simp [Instr.findNow, hn1, hx]
        · rw [if_neg hc] at hx ⊢; simp [Instr.findAsking, hn1.2, hx]
      rcases delK_sound hT hp hkt hk (i := i + 1) hr.2.2 h2 with ⟨g1, rfl⟩ | ⟨j, y, g1, g2⟩
      · exact .inl ⟨step _ g1, rfl⟩
      · exact .inr ⟨j + 1, y, by have := step _ g1; rwa [show i + 1 + j = i + (j + 1) by omega] at this, by simpa using ⟨hr.1, hr.2.1, g2⟩⟩
theorem del_run {h : H} {W : Bas} (R : Rel ν W ρ h w) (he : EnOk ν en) (hT : TTok P tt) {t kt et ks : Nat} {vm vk : V} {um uk : Value} {ts : Array TypeId} {ty : TypeId} {h' : H} (hts : ts[0]? = some t) (ht : und tt t = some (.map kt et)) (hks : keyOk tt kt = some ks)
    (hm : VR ν ρ vm um) (hx : VR ν ρ vk uk) (hv : del ks en.path h vm vk = .ok v h') : v = .u [] ∧ ∃ w', (Builtin.delete_ ts ty #[um, uk]).run P w = .ok (.tuple #[]) w' ∧ Rel ν W ρ h' w' ∧ Ext h ρ h' ρ := by
  obtain ⟨kd, hkt⟩ := keyOk_some hT hks
  obtain ⟨hik, v1⟩ := bcase_ne hv (by simp)
  obtain ⟨z, e1, v2⟩ := onM_ne v1 (by simp)
  obtain ⟨es, e2, v3⟩ := onMp_ne v2 (by simp)
  obtain ⟨rr, e4, v4⟩ := ocase_ne v3 (by simp)
  injection v4 with v5 v6; subst v5; subst v6
  rw [e1] at hm; simp only [VR] at hm
  obtain ⟨b, n, e3, hm⟩ := hm
  obtain ⟨ms, ck, hb, hes⟩ := R.ob z _ e2 b 0 n e3
  have hck := fun emp => isKey_sound (w := w) hT hkt hik hx emp
  have hblt := (R.lt z b 0 n e3).1
  rcases delK_sound (w := w) hT he.path hkt hx (i := 0) hes e4 with ⟨g1, rfl⟩ | ⟨j, yv, g1, g4⟩
  · have g1' := g1.key hT he.path hkt hx hes (delK_first e4)
    obtain ⟨k1, k2⟩ := R.turn e2 e3 (ck' := ck) hes
    exact ⟨rfl, _, by simp [Builtin.delete_, hm, hts, run_underlying (und_ok hT ht), getObj, setObj, Sem.run, hb, hck, g1'], k1, k2⟩
  · rw [Nat.zero_add] at g1
    have g1' := g1.key hT he.path hkt hx hes (delK_first e4)
    obtain ⟨k1, k2⟩ := R.turn e2 e3 (ms' := ms.eraseIdxIfInBounds j) (ck' := ck) (by simpa using g4)
    exact ⟨rfl, _, by simp [Builtin.delete_, hm, hts, run_underlying (und_ok hT ht), getObj, setObj, Sem.run, hb, hck, g1'], k1, k2⟩
theorem e_del {h : H} {W : Bas} (R : Rel ν W ρ h w) (he : EnOk ν en) (hT : TTok P tt) {t kt et ks : Nat} {m x : Operand} {p q : Src} {ts : Array TypeId} {h' : H} (ho : o.op = .call ⟨.builtin .delete, #[m, x], ts⟩) (hts : ts[0]? = some t) (ht : und tt t = some (.map kt et)) (hks : keyOk tt kt = some ks)
    (hm : VR ν ρ (sv p) (a.eval m)) (hx : VR ν ρ (sv q) (a.eval x)) (hv : del ks en.path h (sv p) (sv q) = .ok v h') : Does P o a w (After ν W h ρ h' v) := by
  obtain ⟨rfl, w', hrun, k1, k2⟩ := del_run (P := P) (ty := o.type) R he hT hts ht hks hm hx hv
  refine Does.value (u := .tuple #[]) ?_ ⟨ρ, k1, by simp only [VR]; exact ⟨#[], rfl, by simp [VRs]⟩, k2⟩
  rw [run_builtin ho]
  simp [builtin, hrun]
/-- Cells laid over a slice's first. -/
theorem copyTo_sound {h : H} {W : Bas} (R : Rel ν W ρ h w) {sz k n : Nat} {d : V} {ud : Value} {cs : List V} {us : List Value} {h' : H} (hl : lenS d = some n) (hk : k ≤ n) (hd : VR ν ρ d ud) (hcs : VRs ν ρ cs us) (hul : us.length = k * sz) (hv : copyTo h sz d k cs = .ok v h') :
    ∃ p c w', ud = .slice p n c ∧ (∀ a, p = some a → (storeCells a us).run P w = .ok () w') ∧ (p = none → w' = w) ∧ After ν W h ρ h' v (goInt k) w' := by
  obtain ⟨p, c, rfl, hnc⟩ := lenS_some hl hd
  by_cases h0 : k = 0
  · subst h0
    have hus : us = [] := List.eq_nil_of_length_eq_zero (by simpa using hul)
    subst hus
    obtain ⟨v0, h1, h2⟩ := ocase_ne (show ocase (okN 0) (R1.bad 37) (fun v => R1.ok v h) = .ok v h' from hv) (by simp)
    injection h2 with h2 h3; subst h2; subst h3
    rw [okN_eq] at h1
    obtain rfl := Option.some.inj h1
    exact ⟨p, c, w, rfl, fun a _ => by rfl, fun _ => rfl, ρ, R, by simp only [VR, goInt, zval], ⟨Pl.le_refl ρ, fun _ e _ => e, Nat.le_refl _⟩⟩
  · have hb : Nat.beq k 0 = false := Bool.eq_false_iff.2 fun e => h0 (Nat.eq_of_beq_eq_true e)
    unfold copyTo at hv
    rw [hb] at hv
    obtain ⟨_, v1⟩ := bcase_ne (show bcase (lenIs (Nat.mul k sz) cs) (R1.bad 35) _ = R1.ok v h' from hv) (by simp)
    obtain ⟨x, off, s, m, e1, v2⟩ := onSl_ne v1 (by simp)
    obtain ⟨hs, v3⟩ := bcase_ne v2 (by simp)
    obtain ⟨hkm, v4⟩ := bcase_ne v3 (by simp)
    have hkm := Nat.le_of_ble_eq_true hkm
    subst e1
    simp only [VR] at hd
    obtain ⟨b, c0, n0, cap, q, e3, e4, hle, hq⟩ := hd
    injection e4 with e5 e6 e7
    subst e5; subst e6; subst e7
    obtain ⟨hq1, _⟩ := hq (by omega)
    cases hw : write h x off cs with
    | bad z => rw [hw] at v4; cases v4
    | ok v1 h1 =>
      rw [hw] at v4
      obtain ⟨v0, h2, h3⟩ := ocase_ne (show ocase (okN k) (R1.bad 37) (fun v => R1.ok v h1) = .ok v h' from v4) (by simp)
      injection h3 with h3 h4; subst h3; subst h4
      rw [okN_eq] at h2
      obtain rfl := Option.some.inj h2
      obtain ⟨_, k1, k2, k3⟩ := write_sound (P := P) R e3 hcs hw
      exact ⟨some q, _, _, rfl, fun a ha => by obtain rfl := Option.some.inj ha; rw [hq1]; exact k1, fun e => (by cases e), ρ, k2, by simp only [VR, goInt, zval], k3⟩
theorem minN_eq (a b : Nat) : minN a b = min a b := by
  unfold minN
  cases hb : Nat.ble a b with
  | true => have := Nat.le_of_ble_eq_true hb; show a = _; omega
  | false =>
    have : ¬ a ≤ b := fun h => by rw [Nat.ble_eq_true_of_le h] at hb; cases hb
    show b = _; omega
theorem e_copy {h : H} {W : Bas} (R : Rel ν W ρ h w) (hT : TTok P tt) {t u e sz : Nat} {x y : Operand} {p q : Src} {h' : H} (ho : o.op = .call ⟨.builtin .copy, #[x, y], #[t, u]⟩) (ht : und tt t = some (.slice e)) (hs : sizeT tt e = some sz)
    (hx : VR ν ρ (sv p) (a.eval x)) (hy : VR ν ρ (sv q) (a.eval y)) (hv : copy h sz (sv p) (sv q) = .ok v h') : Does P o a w (After ν W h ρ h' v) := by
  obtain ⟨n, hn, v1⟩ := ocase_ne hv (by simp)
  have key : ∀ (k m : Nat) (cs : List V) (us : List Value), k = min n m → VRs ν ρ cs us → us.length = k * sz → copyTo h sz (sv p) k cs = .ok v h' → (Builtin.lenOf (a.eval y)).run P w = .ok m w → (Builtin.firstCells sz k (a.eval y)).run P w = .ok us.toArray w → Does P o a w (After ν W h ρ h' v) := by
    intro k m cs us hk hcs hul hc h1 h2
    obtain ⟨pp, c, w', hd, k1, k2, ha⟩ := copyTo_sound (P := P) R hn (by omega) hx hcs hul hc
    refine Does.value (u := goInt k) ?_ ha
    have hmin : Nat.min m n = k := by show min m n = k; omega
    rw [run_builtin ho]
    cases pp with
    | none =>
      obtain rfl := k2 rfl
      simp [builtin, Builtin.copy_, hd, run_underlying (und_ok hT ht), size_ok hT hs, h1, hmin, h2]
    | some aa =>
      simp [builtin, Builtin.copy_, hd, run_underlying (und_ok hT ht), size_ok hT hs, h1, hmin, h2, k1 aa rfl]
  by_cases hst : ∃ l, sv q = .s l
  · obtain ⟨l, e1⟩ := hst
    rw [e1] at v1 hy
    obtain ⟨hb1, v2⟩ := bcase_ne (show bcase (Nat.beq sz 1) (R1.bad 38) (copyTo h sz (sv p) (minN n (len l)) (Ev.take (minN n (len l)) (zs l))) = .ok v h' from v1) (by simp)
    obtain rfl := Nat.eq_of_beq_eq_true hb1
    simp only [VR] at hy
    obtain ⟨s, hys, hsr⟩ := hy
    rw [minN_eq, len_eq, take_eq] at v2
    have hsl : s.data.toList.length = l.length := hsr.length
    have hss : s.size = l.length := by rw [← hsl]; simp
    refine key (min n l.length) l.length _ ((s.data.toList.map fun b => Value.int .u8 b.toNat).take (min n l.length)) rfl (VRs.take (SR.zs hsr) _) (by simp [hsl]) v2 (by rw [hys]; simp [Builtin.lenOf, hss]) ?_
    rw [hys]
    simp only [Builtin.firstCells, Sem.run_pure]
    congr 1
    apply Array.ext'
    rw [ByteArray.data_extract]
    simp [List.map_take]
  · have v1' : ocase (lenS (sv q)) (R1.bad 38) (fun m => ocase (cellsOf h sz (sv q)) (R1.bad 38) (fun l => copyTo h sz (sv p) (minN n m) (Ev.take (Nat.mul (minN n m) sz) l))) = .ok v h' := by
      generalize sv q = vq at v1 hst
      cases vq <;> first | exact v1 | exact absurd ⟨_, rfl⟩ hst
    obtain ⟨m, hm, v2⟩ := ocase_ne v1' (by simp)
    obtain ⟨l, hl, v3⟩ := ocase_ne v2 (by simp)
    rw [minN_eq, take_eq] at v3
    obtain ⟨pp, n1, cap, us, hys, hle, hll, hr, hul, hp0, hc⟩ := cellsOf_some R hl hy
    obtain ⟨_, _, hys2, _⟩ := lenS_some hm hy
    rw [hys] at hys2
    injection hys2 with _ e2 _
    subst e2
    have hlen : min n n1 * sz ≤ us.length := by rw [hul]; exact Nat.mul_le_mul_right _ (Nat.min_le_right _ _)
    refine key (min n n1) n1 _ (us.take (min n n1 * sz)) rfl (VRs.take hr _) (by rw [List.length_take]; omega) v3 (by rw [hys]; simp [Builtin.lenOf]) ?_
    rw [hys]
    cases pp with
    | none =>
      have := hp0 rfl
      subst this
      simp [Builtin.firstCells]
    | some qq =>
      exact run_firstCells_some (P := P) w sz (min n n1) qq n1 cap _ (by rw [List.length_take]; omega) (fun j vv hj => by
        rw [List.getElem?_take] at hj
        split at hj
        · exact hc qq rfl j vv hj
        · cases hj)
theorem e_clear {h : H} {W : Bas} (R : Rel ν W ρ h w) (hT : TTok P tt) {t e sz : Nat} {z : List V} {x : Operand} {p : Src} {h' : H} (ho : o.op = .call ⟨.builtin .clear, #[x], #[t]⟩) (ht : und tt t = some (.slice e)) (hs : sizeT tt e = some sz) (hz : zeroC tt e = some z) (hzl : z.length = sz)
    (hx : VR ν ρ (sv p) (a.eval x)) (hv : clear h sz z (sv p) = .ok v h') : Does P o a w (After ν W h ρ h' v) := by
  obtain ⟨n, hn, v1⟩ := ocase_ne hv (by simp)
  obtain ⟨q, c, hxe, hnc⟩ := lenS_some hn hx
  rcases Nat.eq_zero_or_pos n with rfl | hpos
  · have v2 : R1.ok (V.u []) h = .ok v h' := v1
    injection v2 with e1 e2; subst e1; subst e2
    refine Does.value (u := .tuple #[]) (w' := w) ?_ ⟨ρ, R, by simp only [VR]; exact ⟨#[], rfl, by simp [VRs]⟩, ⟨Pl.le_refl ρ, fun _ e _ => e, Nat.le_refl _⟩⟩
    rw [run_builtin ho]
    cases q <;> simp [builtin, Builtin.clear_, run_underlying (und_ok hT ht), hxe]
  · have hb : Nat.beq n 0 = false := Bool.eq_false_iff.2 fun e => by have := Nat.eq_of_beq_eq_true e; omega
    rw [hb] at v1
    obtain ⟨_, v2⟩ := bcase_ne (show bcase (small n) (R1.bad 39) _ = R1.ok v h' from v1) (by simp)
    obtain ⟨y, off, s, m, e1, v3⟩ := onSl_ne v2 (by simp)
    obtain ⟨hss, v4⟩ := bcase_ne v3 (by simp)
    rw [e1] at hx hn
    obtain rfl := Option.some.inj (show some m = some n from hn)
    simp only [VR] at hx
    obtain ⟨b, c0, n0, cap, qq, e3, e4, hle, hq⟩ := hx
    rw [hxe] at e4
    injection e4 with e5 e6 e7
    subst e5; subst e7
    obtain ⟨hq1, _⟩ := hq (by omega)
    unfold zeroC at hz
    obtain ⟨zv, hzv, rfl⟩ := Option.map_eq_some_iff.1 hz
    obtain ⟨zu, hzu, hzr, hnx⟩ := zero_ok (w := w) (ν := ν) (ρ := ρ) hT hzv
    have hzc := cellsV_sound (trVal_nx hnx) hzr
    have hzs : zu.cells.size = sz := by have := hzc.length; simp at this; omega
    have hrep : VRs ν ρ (rep (cellsV zv) m) (Builtin.zeroCells zu.cells m).toList := by
      have h1 := hzc.rep m
      rw [hzl] at h1
      have : Builtin.zeroCells zu.cells m = (Array.range (m * sz)).map (zu.cells[· % zu.cells.size]!) := by unfold Builtin.zeroCells; rw [hzs]
      rw [this]; exact h1
    obtain ⟨rfl, k1, k2, k3⟩ := write_sound (P := P) R e3 hrep v4
    refine Does.value (u := .tuple #[]) ?_ ⟨ρ, k2, by simp only [VR]; exact ⟨#[], rfl, by simp [VRs]⟩, k3⟩
    rw [run_builtin ho]
    rw [hq1] at hxe
    cases m with
    | zero => omega
    | succ m => simp [builtin, Builtin.clear_, run_underlying (und_ok hT ht), hxe, hzu, k1]
end Ev
end Go.Proofs.YtoinghomkcjkcaaGreatDoor
/- What acts: calls; all of it in one law. -/
namespace Go.Proofs.YtoinghomkcjkcaaGreatDoor
set_option linter.unusedSimpArgs false
set_option linter.unusedVariables false
set_option linter.constructorNameAsVariable false
open Go Go.RowKit
namespace Ev
variable {path : List (Cd × Bool)}
variable {P : Program} {tt : TT} {ν : Nat → Int} {ρ : Pl} {ds : List (Option Tmp)} {sv : Src → V} {a : Act} {en : En} {w : World} {o : Oper} {v : V}
theorem string_bytes (s : ByteArray) : (s.extract 0 s.size).data = s.data := by
  rw [ByteArray.data_extract]
  have : s.size = s.data.size := rfl
  rw [this, Array.extract_size]
theorem e_app (hT : TTok P tt) {h h' : H} {W : Bas} (R : Rel ν W ρ h w) {t u : Nat} {x y : Operand} {p q : Src} {k : KE} (ho : o.op = .call ⟨.builtin .append, #[x, y], #[t, u]⟩) (hk : trApp tt t u p q = .ef k) (hx : VR ν ρ (sv p) (a.eval x)) (hy : VR ν ρ (sv q) (a.eval y))
    {call : Nat → List V → H → R1} (hv : doE k en call sv h = .ok v h') : Does P o a w (After ν W h ρ h' v) := by
  have nw : ∀ w, K.no w ≠ .ef k := fun w h => by cases h
  have fin : ∀ u' w', (Builtin.append_ #[t, u] o.type #[a.eval x, a.eval y]).run P w = .ok u' w' → After ν W h ρ h' v u' w' → Does P o a w (After ν W h ρ h' v) := by
    intro u' w' hrun ha
    refine Does.value ?_ ha
    rw [run_builtin ho]
    simp [builtin, hrun]
  unfold trApp at hk
  split at hk <;> try (cases hk; done)
  rename_i e ht
  split at hk <;> try (cases hk; done)
  rename_i i z hi hz
  obtain ⟨hc, hk⟩ := bif_ne hk nw
  simp only [Bool.and_eq_true] at hc
  have hzl := Nat.eq_of_beq_eq_true hc.1
  have hbl := Nat.le_of_ble_eq_true hc.2
  have hii := hT _ _ hi
  -- the zero
  obtain ⟨zu, hzu, hzr⟩ : ∃ zu, i.zero = some zu ∧ VRs ν ρ z zu.cells.toList := by
    unfold zeroC zeroV at hz
    rw [hi] at hz
    cases hzz : i.zero with
    | none => simp only [hzz] at hz; cases hz
    | some zu =>
      simp only [hzz] at hz
      obtain ⟨zv, hzv, rfl⟩ := Option.map_eq_some_iff.1 hz
      exact ⟨zu, rfl, cellsV_sound (trVal_nx hzv) (trVal_sound zu zv hzv)⟩
  have hzs : zu.cells.size = i.size := by have := hzr.length; simp at this; omega
  split at hk
  · rename_i ik hu
    injection hk with hk; subst hk
    obtain ⟨k', n, e1, hv⟩ := asNat_ne (show asNat (sv q) (R1.bad 80) (fun n => bcase (small n) (R1.bad 80) (appTo h i.size i.bytes (sv p) n (rep z n))) = .ok v h' from hv) (by simp)
    rw [e1] at hy; simp only [VR, zval] at hy
    obtain ⟨c2, hv⟩ := bcase_ne hv (by simp)
    have hsm : n ≤ 1000000 ∧ i.bytes ≤ 1000 := ⟨Nat.le_of_ble_eq_true c2, hbl⟩
    have hrep : VRs ν ρ (rep z n) (if n * i.size = 0 then #[] else Builtin.zeroCells zu.cells n).toList := by
      have h1 := hzr.rep n
      rw [hzl] at h1
      by_cases h0 : n * i.size = 0
      · rw [if_pos h0]
        have : (rep z n).length = 0 := by rw [rep_len, hzl, h0]
        rw [List.eq_nil_of_length_eq_zero this]; simp [VRs]
      · rw [if_neg h0]
        have : Builtin.zeroCells zu.cells n = (Array.range (n * i.size)).map (zu.cells[· % zu.cells.size]!) := by unfold Builtin.zeroCells; rw [hzs]
        rw [this]; exact h1
    obtain ⟨u', w', hrun, ha⟩ := e_appTo (u := u) (ty := o.type) R (und_ok hT ht) hii hzu hzs hx (x := a.eval y) (n := n) (news := (if n * i.size = 0 then #[] else Builtin.zeroCells zu.cells n).toList) (.inr ⟨ik, k', und_ok hT hu, hy, hsm.1, hsm.2, by simp⟩)
      (by rw [hrep.length, rep_len, hzl]) hrep hv
    exact fin u' w' hrun ha
  · rename_i d hnd hu
    injection hk with hk; subst hk
    have hv' : append h i.size i.bytes (sv p) (sv q) = .ok v h' := hv
    have hd : ∀ k, d ≠ .int k := fun k e => hnd k (by rw [e])
    by_cases hs : ∃ l, sv q = .s l
    · obtain ⟨l, el⟩ := hs
      rw [el] at hv' hy
      obtain ⟨c1, v1⟩ := bcase_ne (show bcase (Nat.beq i.size 1) (R1.bad 32) (appTo h i.size i.bytes (sv p) (Ev.len l) (zs l)) = .ok v h' from hv') (by simp)
      have hs1 := Nat.eq_of_beq_eq_true c1
      simp only [VR] at hy
      obtain ⟨b, eb, hb⟩ := hy
      have hbl : b.size = l.length := by rw [size_eq, hb.length]
      rw [len_eq, ← hbl] at v1
      obtain ⟨u', w', hrun, ha⟩ := e_appTo (u := u) (ty := o.type) R (und_ok hT ht) hii hzu hzs hx (x := a.eval y) (news := b.data.toList.map fun c => Value.int .u8 (c.toNat : Int)) (.inl ⟨d, und_ok hT hu, hd, fun w' _ => ⟨by rw [eb]; simp [Builtin.lenOf], by
          rw [eb]; simp only [Builtin.firstCells, string_bytes, Sem.run_pure]; congr 1; apply Array.ext'; simp⟩⟩) (by simp [hs1]) hb.zs v1
      exact fin u' w' hrun ha
    · have hv2 : ocase (lenS (sv q)) (R1.bad 31) (fun n => ocase (cellsOf h i.size (sv q)) (R1.bad 30) (fun new => appTo h i.size i.bytes (sv p) n new)) = .ok v h' := by
        generalize sv q = vq at hv' hs
        cases vq <;> first | exact hv' | exact absurd ⟨_, rfl⟩ hs
      obtain ⟨n, hn, v1⟩ := ocase_ne hv2 (by simp)
      obtain ⟨new, hnew, v2⟩ := ocase_ne v1 (by simp)
      obtain ⟨n', us, hn', hl, hr, hrun0⟩ := firstCells_slice R hnew hy
      rw [hn] at hn'; obtain rfl := Option.some.inj hn'
      obtain ⟨u', w', hrun, ha⟩ := e_appTo (u := u) (ty := o.type) R (und_ok hT ht) hii hzu hzs hx (x := a.eval y) (.inl ⟨d, und_ok hT hu, hd, hrun0⟩) (by rw [hr.length, hl]) hr v2
      exact fin u' w' hrun ha
  · cases hk
/-- What is known of calls. -/
def CallOk (P : Program) (ν : Nat → Int) (W : Bas) (call : Nat → List V → H → R1) : Prop := ∀ (g : Nat) (as : List V) (h : H) (v : V) (h' : H), call g as h = .ok v h' →
  (∀ args w, (callFunc g args).run P w = .ok (.enter g args) w) ∧ ∀ (ρ : Pl) (args : List Value) (w : World), Rel ν W ρ h w → VRs ν ρ as args → Calls P g args.toArray w (fun e w' => ∃ u, e = .returned u ∧ After ν W h ρ h' v u w')
def MtsOk (P : Program) (mts : Nat → String → Option Nat) : Prop := ∀ t m g, mts t m = some g → ∀ (v : Value) (w : World), (method (P.types.size + Made.depth) t v m).run P w = .ok (g, v) w
theorem Does.enter {g : Nat} {args : Array Value} {R : Value → World → Prop} (h : (execOp a.eval o).run P w = .ok (.enter g args) w) (hc : Calls P g args w (fun e w' => ∃ u, e = .returned u ∧ R u w')) : Does P o a w R := fun next Q k => by
  unfold Oper.wp; rw [h]
  refine Calls.mono hc (fun e w' he => ?_)
  obtain ⟨u, rfl, hu⟩ := he
  exact k u w' hu
theorem e_call {h h' : H} {W : Bas} (R : Rel ν W ρ h w) {call : Nat → List V → H → R1} (hcall : CallOk P ν W call) (hm : MtsOk P en.mts) {args : Array Operand} {ts : Array TypeId} {ce : Callee} {as : List Src} {cb : Cb} (ho : o.op = .call ⟨ce, args, ts⟩)
    (has : VRs ν ρ (srcs sv as) (args.toList.map a.eval)) (hce : match ce, cb with | .value (.func g), .fn g' => g = g' | .value f, .val s => VR ν ρ (sv s) (a.eval f) | .invoke r m, .inv s m' => m = m' ∧ VR ν ρ (sv s) (a.eval r) | _, _ => False)
    (hv : doCall cb en call sv as h = .ok v h') : Does P o a w (After ν W h ρ h' v) := by
  have hargs : (args.map a.eval).toList = args.toList.map a.eval := Array.toList_map
  cases cb with
  | fn g =>
    have : ce = .value (.func g) := by
      cases ce with
      | value f => cases f <;> first | exact hce.elim | (cases hce; rfl)
      | invoke _ _ => exact hce.elim
      | builtin _ => exact hce.elim
    subst this
    obtain ⟨h1, h2⟩ := hcall g _ h v h' hv
    refine Does.enter (g := g) (args := args.map a.eval) ?_ ?_
    · simp [execOp, ho, resolve, Deferred.ofValue, Act.eval, invoke, h1]
    · have := h2 ρ _ w R has
      rwa [← hargs, Array.toArray_toList] at this
  | val s =>
    obtain ⟨f, rfl, hf⟩ : ∃ f, ce = .value f ∧ VR ν ρ (sv s) (a.eval f) := by
      cases ce with
      | value f => cases f <;> exact ⟨_, rfl, hce⟩
      | invoke _ _ => exact hce.elim
      | builtin _ => exact hce.elim
    obtain ⟨g, fa, fb, e1, v1⟩ := onF_ne (show onF (sv s) (R1.bad 75) (fun g a b => call g (app a (app (srcs sv as) b)) h) = .ok v h' from hv) (by simp)
    obtain ⟨h1, h2⟩ := hcall g _ h v h' v1
    rw [e1] at hf; simp only [VR] at hf
    obtain ⟨xs, ys, e2, hxs, hys⟩ := hf
    refine Does.enter (g := g) (args := xs ++ args.map a.eval ++ ys) ?_ ?_
    · simp [execOp, ho, resolve, e2, Deferred.ofValue, invoke, h1]
    · have := h2 ρ (xs.toList ++ (args.toList.map a.eval ++ ys.toList)) w R (by rw [app_eq, app_eq]; exact hxs.app (has.app hys))
      rw [← hargs] at this
      have e3 : (xs.toList ++ ((args.map a.eval).toList ++ ys.toList)).toArray = xs ++ args.map a.eval ++ ys := by apply Array.ext'; simp
      rwa [e3] at this
  | inv s m =>
    obtain ⟨r, rfl, hr⟩ : ∃ r, ce = .invoke r m ∧ VR ν ρ (sv s) (a.eval r) := by
      cases ce with
      | value f => cases f <;> exact hce.elim
      | invoke r m' => obtain ⟨rfl, h2⟩ := hce; exact ⟨r, rfl, h2⟩
      | builtin _ => exact hce.elim
    obtain ⟨ty, rv, e1, v1⟩ := onN_ne (show onN (sv s) (R1.bad 77) (fun ty v => ocase (en.mts ty m) (R1.bad 76) (fun g => call g (v :: srcs sv as) h)) = .ok v h' from hv) (by simp)
    obtain ⟨g, hg, v2⟩ := ocase_ne v1 (by simp)
    obtain ⟨h1, h2⟩ := hcall g _ h v h' v2
    rw [e1] at hr; simp only [VR] at hr
    obtain ⟨uu, e2, hu⟩ := hr
    refine Does.enter (g := g) (args := #[uu] ++ args.map a.eval) ?_ ?_
    · have hx : (#[Value.iface ty uu] ++ args.map a.eval)[0]? = some (.iface ty uu) := by rw [Array.getElem?_append_left (by simp)]; rfl
      have hex : (#[Value.iface ty uu] ++ args.map a.eval).extract 1 (#[Value.iface ty uu] ++ args.map a.eval).size = args.map a.eval := by
        apply Array.ext'; rw [Array.toList_extract]; simp [List.extract, List.take_of_length_le]
      simp only [execOp, ho, resolve, e2, Sem.run_bind, Sem.run_pure, Result.andThen_ok, invoke, hx, hex, callMethod, run_program, hm _ _ _ hg, h1]
    · have := h2 ρ (uu :: args.toList.map a.eval) w R (by simp only [VRs]; exact ⟨_, _, rfl, hu, has⟩)
      rw [← hargs] at this
      have e3 : (uu :: (args.map a.eval).toList).toArray = #[uu] ++ args.map a.eval := by apply Array.ext'; simp
      rwa [e3] at this
/-- What acts does what it does in the small machine. -/
theorem doE_sound (hT : TTok P tt) (he : EnOk ν en) {h h' : H} {W : Bas} (R : Rel ν W ρ h w) {call : Nat → List V → H → R1} (hcall : CallOk P ν W call) (hm : MtsOk P en.mts) {k : KE} (hk : trK tt ds o.op = .ef k) (hr : OpR ν ρ ds sv a o.op.operands.toList)
    (hv : doE k en call sv h = .ok v h') : Does P o a w (After ν W h ρ h' v) := by
  have nw : ∀ w, K.no w ≠ .ef k := fun w h => by cases h
  generalize hop : o.op = op at hk hr
  cases op <;> simp only [trK, no] at hk <;> try (cases hk; done)
  case store t x y =>
    split at hk
    · rename_i n hs
      obtain ⟨p, q, e1, e2, hk⟩ := s2_ne hk nw
      injection hk with hk; subst hk
      exact e_store R hT hop hs (hr x (by simp [Op.operands]) _ e1) (hr y (by simp [Op.operands]) _ e2) hv
    · cases hk
  case mapUpdate t m x y =>
    obtain ⟨p, q, e1, e2, hk⟩ := s2_ne hk nw
    obtain ⟨r, e3, hk⟩ := s1_ne hk nw
    unfold trUpd at hk
    split at hk
    · rename_i kt et ht
      split at hk
      · rename_i ks hks
        injection hk with hk; subst hk
        exact e_mapup R he hT (.inl hop) ht hks (hr m (by simp [Op.operands]) _ e1) (hr x (by simp [Op.operands]) _ e2) (hr y (by simp [Op.operands]) _ e3) hv
      · cases hk
    · cases hk
  case insert t m x y =>
    obtain ⟨p, q, e1, e2, hk⟩ := s2_ne hk nw
    obtain ⟨r, e3, hk⟩ := s1_ne hk nw
    unfold trUpd at hk
    split at hk
    · rename_i kt et ht
      split at hk
      · rename_i ks hks
        injection hk with hk; subst hk
        exact e_mapup R he hT (.inr hop) ht hks (hr m (by simp [Op.operands]) _ e1) (hr x (by simp [Op.operands]) _ e2) (hr y (by simp [Op.operands]) _ e3) hv
      · cases hk
    · cases hk
  case call c =>
    obtain ⟨ce, args, ts⟩ := c
    unfold trCall at hk
    split at hk
    · rename_i as has
      simp only at has
      have hra : ∀ x ∈ args.toList, ∀ s, trSrc ds x = some s → VR ν ρ (sv s) (a.eval x) := fun x hx => hr x (by cases ce <;> simp [Op.operands, Call.operands] <;> simp at hx <;> simp [hx])
      have hvs := trSrcs_sound has hra
      cases ce with
      | value f =>
        by_cases hf : ∃ g, f = .func g
        · obtain ⟨g, rfl⟩ := hf
          injection hk with hk; subst hk
          exact e_call (cb := .fn g) R hcall hm hop hvs rfl hv
        · have hk2 : s1 ds f (fun s => .ef (.call (.val s) as)) = .ef k := by
            cases f <;> first | exact hk | exact absurd ⟨_, rfl⟩ hf
          obtain ⟨s, e, hk⟩ := s1_ne hk2 nw
          injection hk with hk; subst hk
          refine e_call (cb := .val s) R hcall hm hop hvs ?_ hv
          have := hr f (by simp [Op.operands, Call.operands]) s e
          cases f <;> first | exact this | exact absurd ⟨_, rfl⟩ hf
      | invoke r m =>
        obtain ⟨s, e, hk⟩ := s1_ne hk nw
        injection hk with hk; subst hk
        exact e_call (cb := .inv s m) R hcall hm hop hvs ⟨rfl, hr r (by simp [Op.operands, Call.operands]) s e⟩ hv
      | builtin b =>
        have hk' : trBuiltin tt b ts.toList as = .ef k := hk
        unfold trBuiltin at hk'
        split at hk'
        · unfold trLen at hk'
          (repeat' split at hk') <;> cases hk'
        · unfold trCap at hk'
          (repeat' split at hk') <;> cases hk'
        · cases hk'
        · cases hk'
        · cases hk'
        · cases hk'
        · rename_i t u p q eas
          obtain ⟨x, y, ex⟩ := len_two (trSrcs_len has).symm
          obtain ⟨p', q', e1, e2, e3⟩ := trSrcs_two (ex ▸ has)
          injection e1 with e1 e1'; injection e1' with e1'; subst e1; subst e1'
          have ea : args = #[x, y] := by cases args; simp_all
          have et : ts = #[t, u] := by cases ts; simp_all
          subst ea; subst et
          exact e_app hT R hop hk' (hra x (by simp) _ e2) (hra y (by simp) _ e3) hv
        · rename_i t u p q eas
          obtain ⟨x, y, ex⟩ := len_two (trSrcs_len has).symm
          obtain ⟨p', q', e1, e2, e3⟩ := trSrcs_two (ex ▸ has)
          injection e1 with e1 e1'; injection e1' with e1'; subst e1; subst e1'
          have ea : args = #[x, y] := by cases args; simp_all
          have et : ts = #[t, u] := by cases ts; simp_all
          subst ea; subst et
          unfold trCopy at hk'
          split at hk' <;> try (cases hk'; done)
          rename_i e ht
          split at hk' <;> try (cases hk'; done)
          rename_i sz hs
          injection hk' with hk'; subst hk'
          exact e_copy R hT hop ht hs (hra x (by simp) _ e2) (hra y (by simp) _ e3) hv
        · rename_i t p eas
          obtain ⟨x, ex⟩ : ∃ x, args.toList = [x] := List.length_eq_one_iff.1 (trSrcs_len has).symm
          obtain ⟨p', q', e1, e2, _⟩ := trSrcs_cons (ex ▸ has)
          injection e1 with e1; subst e1
          have ea : args = #[x] := by cases args; simp_all
          have et : ts = #[t] := by cases ts; simp_all
          subst ea; subst et
          unfold trClear at hk'
          split at hk' <;> try (cases hk'; done)
          rename_i e ht
          split at hk' <;> try (cases hk'; done)
          rename_i sz z hs hz
          obtain ⟨hzl, hk'⟩ := bif_ne hk' nw
          injection hk' with hk'; subst hk'
          exact e_clear R hT hop ht hs hz (Nat.eq_of_beq_eq_true hzl) (hra x (by simp) _ e2) hv
        · rename_i t tr p q eas
          obtain ⟨x, y, ex⟩ := len_two (trSrcs_len has).symm
          obtain ⟨p', q', e1, e2, e3⟩ := trSrcs_two (ex ▸ has)
          injection e1 with e1 e1'; injection e1' with e1'; subst e1; subst e1'
          have ea : args = #[x, y] := by cases args; simp_all
          have et : ts[0]? = some t := by rw [← Array.getElem?_toList]; simp_all
          subst ea
          unfold trDel at hk'
          split at hk' <;> try (cases hk'; done)
          rename_i kt et' ht
          split at hk' <;> try (cases hk'; done)
          rename_i ks hks
          injection hk' with hk'; subst hk'
          exact e_del R he hT hop et ht hks (hra x (by simp) _ e2) (hra y (by simp) _ e3) hv
        · cases hk'
        · cases hk'
        · cases hk'
    · cases hk
  case unOp u t x => cases u <;> simp only [trK, no] at hk <;> first | (cases hk; done) | (obtain ⟨s, e, hk⟩ := s1_ne hk nw; cases hk)
  case makeFunc f x y =>
    cases f <;> simp only [trK, no] at hk <;> first | (cases hk; done) | (split at hk <;> cases hk)
  case makeMap t r => cases r <;> simp only [trK, no] at hk <;> cases hk
  case makeInterface t x =>
    cases hi : ifaceT tt t with
    | true => rw [hi] at hk; cases hk
    | false => rw [hi] at hk; obtain ⟨s, e, hk⟩ := s1_ne (show s1 ds x (fun s => .pu (.mkif t s)) = _ from hk) nw; cases hk
  all_goals first
    | (obtain ⟨s, e, hk⟩ := s1_ne hk nw; cases hk; done)
    | (obtain ⟨s, t, e1, e2, hk⟩ := s2_ne hk nw; cases hk; done)
    | (split at hk <;> first | (cases hk; done) | (obtain ⟨s, e, hk⟩ := s1_ne hk nw; cases hk; done) | (obtain ⟨s, t, e1, e2, hk⟩ := s2_ne hk nw; cases hk; done))
    | (unfold trBuild at hk; (repeat' split at hk) <;> first | (cases hk; done) | (obtain ⟨_, hk⟩ := bif_ne hk nw; cases hk; done))
    | (unfold trBSlice at hk; (repeat' split at hk) <;> first | (cases hk; done) | (obtain ⟨_, hk⟩ := bif_ne hk nw; cases hk; done))
    | (obtain ⟨s, t, e1, e2, hk⟩ := s2_ne hk nw; unfold trBin trEq at hk; simp only [Bool.cond_eq_ite] at hk; (repeat' split at hk) <;> first | (cases hk; done) | (obtain ⟨_, hk⟩ := bif_ne hk nw; cases hk; done))
    | (split at hk
       · obtain ⟨s, e, hk⟩ := s1_ne hk nw; unfold trSlice at hk; (repeat' split at hk) <;> (cases hk; done)
       · cases hk)
    | (obtain ⟨s, e, hk⟩ := s1_ne hk nw; unfold trFAddr at hk; (repeat' split at hk) <;> (cases hk; done))
    | (obtain ⟨s, e, hk⟩ := s1_ne hk nw; unfold trField trPart at hk; (repeat' split at hk) <;> (cases hk; done))
    | (obtain ⟨s, t, e1, e2, hk⟩ := s2_ne hk nw; unfold trIAddr at hk; (repeat' split at hk) <;> (cases hk; done))
    | (obtain ⟨s, t, e1, e2, hk⟩ := s2_ne hk nw; unfold trIndex at hk; (repeat' split at hk) <;> first | (cases hk; done) | (obtain ⟨_, hk⟩ := bif_ne hk nw; cases hk; done))
    | (obtain ⟨s, t, e1, e2, hk⟩ := s2_ne hk nw; unfold trMkS at hk; (repeat' split at hk) <;> first | (cases hk; done) | (obtain ⟨_, hk⟩ := bif_ne hk nw; cases hk; done))
    | (obtain ⟨s, t, e1, e2, hk⟩ := s2_ne hk nw; obtain ⟨s, e3, hk⟩ := s1_ne hk nw; unfold trUpd at hk; (repeat' split at hk) <;> (cases hk; done))
    | (obtain ⟨s, t, e1, e2, hk⟩ := s2_ne hk nw; unfold trLookup at hk; (repeat' split at hk) <;> (cases hk; done))
    | (obtain ⟨s, e, hk⟩ := s1_ne hk nw; unfold trTas at hk; (repeat' split at hk) <;> (cases hk; done))
    | (obtain ⟨s, e, hk⟩ := s1_ne hk nw; unfold trLoad at hk; (repeat' split at hk) <;> (cases hk; done))
    | (obtain ⟨s, e, hk⟩ := s1_ne hk nw; unfold trConv at hk; (repeat' split at hk) <;> (cases hk; done))
end Ev
end Go.Proofs.YtoinghomkcjkcaaGreatDoor
/- A region whose operations come in the text's order. -/
namespace Go.Proofs.YtoinghomkcjkcaaGreatDoor
set_option linter.unusedSimpArgs false
set_option linter.unusedVariables false
set_option linter.constructorNameAsVariable false
open Go Go.RowKit
namespace Ev
variable {Df : List Deferred}
variable {P : Program} {tt : TT} {ν : Nat → Int} {ρ : Pl} {a : Act} {en : En} {w : World} {o : Oper} {v : V} {t : Tr V} {nt : Nat} {ops : Array Oper}
theorem locOf_shift (n : Nat) : ∀ (l : List (Option Tmp)) (i : Nat), locOf n l i = (locOf n l 0).map (· + i)
  | [], i => rfl
  | some d :: l, i => by
    simp only [locOf]
    cases Nat.beq d n with
    | true => simp
    | false => simp only [cond_false]; rw [locOf_shift n l (i + 1), locOf_shift n l (0 + 1)]; cases locOf n l 0 <;> simp; omega
  | none :: l, i => by
    simp only [locOf]
    rw [locOf_shift n l (i + 1), locOf_shift n l (0 + 1)]; cases locOf n l 0 <;> simp; omega
theorem locOf_cons (n : Nat) (d : Option Tmp) (l : List (Option Tmp)) : locOf n (d :: l) 0 = if d = some n then some 0 else (locOf n l 0).map (· + 1) := by
  cases d with
  | none => simp only [locOf]; rw [locOf_shift]; simp
  | some d =>
    simp only [locOf]
    cases hb : Nat.beq d n with
    | true => rw [if_pos (by rw [Nat.eq_of_beq_eq_true hb])]; rfl
    | false => rw [if_neg (fun e => by injection e with e; subst e; rw [Nat.beq_refl] at hb; cases hb), locOf_shift]; rfl
/-- How a frame stands: its slots, the listed variables. -/
structure FrR (Df : List Deferred) (ν : Nat → Int) (ρ : Pl) (nt : Nat) (t : Tr V) (a : Act) : Prop where
  slot : ∀ n, n < 100000 → ∀ v, get (bpOf n) t = some v → VR ν ρ v (a.tmps.getD n undef)
  glob : ∀ g v, get (bpOf (100000 + g)) t = some v → VR ν ρ v (.pointer (some ⟨g, 0, none⟩))
  defers : a.defers = Df
  size : nt ≤ a.tmps.size
theorem FrR.mono {ρ' : Pl} (h : ρ.le ρ') (F : FrR Df ν ρ nt t a) : FrR Df ν ρ' nt t a := ⟨fun n hn v e => VR.mono ν h _ _ (F.slot n hn v e), fun g v e => VR.mono ν h _ _ (F.glob g v e), F.defers, F.size⟩
/-- How it stands within a region: what has been reckoned so far lies in its slots. -/
structure Cur (Df : List Deferred) (ν : Nat → Int) (ρ : Pl) (nt : Nat) (ops : Array Oper) (t : Tr V) (tk : List Tk) (r : List V) (a : Act) : Prop where
  len : r.length = tk.length
  slot : ∀ n, n < 100000 → match locOf n (tk.map (·.dst)) 0 with
    | some i => ∃ v, r[i]? = some v ∧ VR ν ρ v (a.tmps.getD n undef)
    | none => ∀ v, get (bpOf n) t = some v → VR ν ρ v (a.tmps.getD n undef)
  glob : ∀ g v, get (bpOf (100000 + g)) t = some v → VR ν ρ v (.pointer (some ⟨g, 0, none⟩))
  tks : ∀ k ∈ tk, ∃ o, ops[k.i]? = some o ∧ o.dst = k.dst
  defers : a.defers = Df
  size : nt ≤ a.tmps.size
theorem Cur.start (F : FrR Df ν ρ nt t a) : Cur Df ν ρ nt ops t [] [] a := ⟨rfl, fun n hn => by simp only [List.map_nil, locOf]; exact F.slot n hn, F.glob, by simp, F.defers, F.size⟩
theorem Cur.mono {ρ' : Pl} (h : ρ.le ρ') {tk : List Tk} {r : List V} (C : Cur Df ν ρ nt ops t tk r a) : Cur Df ν ρ' nt ops t tk r a := ⟨C.len, fun n hn => by
    have := C.slot n hn
    split
    · rename_i i e; rw [e] at this; obtain ⟨v, h1, h2⟩ := this; exact ⟨v, h1, VR.mono ν h _ _ h2⟩
    · rename_i e; rw [e] at this; exact fun v e => VR.mono ν h _ _ (this v e), fun g v e => VR.mono ν h _ _ (C.glob g v e), C.tks, C.defers, C.size⟩
theorem src_loc {r : List V} {t : Tr V} {i : Nat} : src r t (.loc i) = (r[i]?).getD .x := by
  show ocase (nth r i) V.x (fun v => v) = _
  rw [nth_eq]; cases r[i]? <;> rfl
theorem src_tmp {r : List V} {t : Tr V} {p : BP} : src r t (.tmp p) = (get p t).getD .x := by
  show ocase (get p t) V.x (fun v => v) = _
  cases get p t <;> rfl
theorem VR_x (u : Value) : VR ν ρ .x u := by simp only [VR]
theorem Cur.opR {tk : List Tk} {r : List V} (C : Cur Df ν ρ nt ops t tk r a) (xs : List Operand) : OpR ν ρ (tk.map (·.dst)) (src r t) a xs := by
  intro x hx s hs
  cases x with
  | tmp n =>
    have hs' : (bif Nat.blt n 100000 then (match locOf n (tk.map (·.dst)) 0 with | some i => some (Src.loc i) | none => some (Src.tmp (bpOf n))) else none) = some s := hs
    clear hs
    have hn : n < 100000 := by
      cases hb : Nat.blt n 100000 with
      | true => exact blt_iff.1 hb
      | false => rw [hb] at hs'; cases hs'
    rw [blt_iff.2 hn] at hs'
    have hC := C.slot n hn
    have hs := hs'
    simp only [cond_true] at hs
    split at hs
    · rename_i i e
      obtain rfl := Option.some.inj hs
      rw [e] at hC
      obtain ⟨v, h1, h2⟩ := hC
      rw [src_loc, h1]; exact h2
    · rename_i e
      obtain rfl := Option.some.inj hs
      rw [e] at hC
      rw [src_tmp]
      cases hg : get (bpOf n) t with
      | none => exact VR_x _
      | some v => exact hC v hg
  | const u =>
    simp only [trSrc] at hs
    split at hs
    · rename_i v e
      obtain rfl := Option.some.inj hs
      exact trVal_sound u v e
    · cases hs
  | global g =>
    obtain rfl := Option.some.inj (show some (Src.tmp (bpOf (100000 + g))) = some s from hs)
    rw [src_tmp]
    cases hg : get (bpOf (100000 + g)) t with
    | none => exact VR_x _
    | some v => exact C.glob g v hg
  | func f =>
    obtain rfl := Option.some.inj (show some (Src.val (.f f [] [])) = some s from hs)
    show VR ν ρ (.f f [] []) _
    simp only [VR, VRs]; exact ⟨#[], #[], rfl, rfl, rfl⟩
theorem put_getD (a : Act) (d : Option Tmp) (u : Value) (n : Nat) (hd : ∀ m, d = some m → m < a.tmps.size) : (a.put d u).tmps.getD n undef = if d = some n then u else a.tmps.getD n undef := by
  cases d with
  | none => simp [Act.put]
  | some m =>
    simp only [Act.put, Option.some.injEq]
    have := hd m rfl
    by_cases e : m = n
    · subst e; rw [if_pos rfl]; simp [Array.getD_eq_getD_getElem?, this]
    · rw [if_neg e]; simp [Array.getD_eq_getD_getElem?, Array.getElem?_setIfInBounds, e]
theorem Cur.put {tk : List Tk} {r : List V} (C : Cur Df ν ρ nt ops t tk r a) {k : Tk} {u : Value} (hk : ∃ o, ops[k.i]? = some o ∧ o.dst = k.dst) (hd : ∀ m, k.dst = some m → m < nt) (hv : VR ν ρ v u) : Cur Df ν ρ nt ops t (k :: tk) (v :: r) (a.put k.dst u) := by
  have hd' : ∀ m, k.dst = some m → m < a.tmps.size := fun m e => Nat.lt_of_lt_of_le (hd m e) C.size
  refine ⟨by simp [C.len], fun n hn => ?_, C.glob, fun q hq => ?_, ?_, ?_⟩
  · have hC := C.slot n hn
    rw [List.map_cons, locOf_cons, put_getD a k.dst u n hd']
    by_cases e : k.dst = some n
    · rw [if_pos e, if_pos e]; exact ⟨v, rfl, hv⟩
    · rw [if_neg e, if_neg e]
      cases hl : locOf n (tk.map (·.dst)) 0 with
      | none => rw [hl] at hC; exact hC
      | some i => rw [hl] at hC; obtain ⟨v', h1, h2⟩ := hC; exact ⟨v', by simpa using h1, h2⟩
  · rcases List.mem_cons.1 hq with rfl | hq
    · exact hk
    · exact C.tks q hq
  · cases h : k.dst <;> simp [Act.put, C.defers]
  · cases h : k.dst <;> simp [Act.put] <;> exact C.size
theorem posOf_nth {j : Nat} : ∀ {l : List Nat} {n p : Nat}, posOf j l n = some p → n ≤ p ∧ l[p - n]? = some j
  | [], n, p, h => by cases h
  | i :: l, n, p, h => by
    simp only [posOf] at h
    cases hb : Nat.beq j i with
    | true =>
      rw [hb] at h
      obtain rfl := Option.some.inj (show some n = some p from h)
      rw [Nat.eq_of_beq_eq_true hb]; simp
    | false =>
      rw [hb] at h
      obtain ⟨h1, h2⟩ := posOf_nth (show posOf j l (n + 1) = some p from h)
      refine ⟨by omega, ?_⟩
      rw [show p - n = (p - (n + 1)) + 1 by omega]; simpa using h2
/-- Whether it is wanted. -/
theorem Cur.wanted {tk : List Tk} {r : List V} (C : Cur Df ν ρ nt ops t tk r a) (hnt : nt ≤ 100000) (hd : ∀ k ∈ tk, ∀ m, k.dst = some m → m < nt) {g : Option (Src × Bool)} {b : Bool} (hg : trGuard tk o = some g) (hw : want (src r t) g = some b) : Region.wanted o (yielded ops a.tmps) = b := by
  unfold trGuard at hg
  unfold Region.wanted
  split at hg
  · rename_i e
    obtain rfl := Option.some.inj hg
    rw [e]
    exact (Option.some.inj (show some true = some b from hw))
  · rename_i j wt e
    rw [e]
    split at hg
    · rename_i p hp
      split at hg
      · rename_i k hk
        split at hg
        · rename_i d hdst
          cases hc : Nat.beq k.i j && optEq (locOf d (tk.map (·.dst)) 0) (some p) with
          | false => rw [hc] at hg; cases hg
          | true =>
            rw [hc] at hg
            obtain rfl := Option.some.inj (show some (some (Src.loc p, wt)) = some g from hg)
            simp only [Bool.and_eq_true] at hc
            have hkj := Nat.eq_of_beq_eq_true hc.1
            have hloc : locOf d (tk.map (·.dst)) 0 = some p := by
              have := hc.2
              unfold optEq at this
              split at this
              · rename_i m n e1 e2
                rw [e1, e2, Nat.eq_of_beq_eq_true this]
              · cases this
            rw [nth_eq] at hk
            have hkm : k ∈ tk := List.mem_of_getElem? hk
            obtain ⟨oj, ho1, ho2⟩ := C.tks k hkm
            have hdn := hd k hkm d hdst
            have hC := C.slot d (Nat.lt_of_lt_of_le hdn hnt)
            rw [hloc] at hC
            obtain ⟨v', h1, h2⟩ := hC
            have hds : d < a.tmps.size := Nat.lt_of_lt_of_le hdn C.size
            have hy : yielded ops a.tmps j = match a.tmps.getD d undef with | .bool b => some b | _ => none := by
              unfold yielded
              rw [← hkj, ho1]
              simp only [Option.bind_some, ho2, hdst]
              rw [Array.getElem?_eq_getElem hds]
              simp only [Array.getD_eq_getD_getElem?, Array.getElem?_eq_getElem hds, Option.getD_some]
              cases a.tmps[d] <;> rfl
            show (yielded ops a.tmps j == some wt) = b
            rw [hy]
            have hw' : onB (src r t (.loc p)) (onU (src r t (.loc p)) none (fun _ => some false)) (fun b => some (bcase wt (!b) b)) = some b := hw
            rw [src_loc, h1] at hw'
            simp only [Option.getD_some] at hw'
            cases v' <;> first | (cases hw'; done) | skip
            · simp only [VR] at h2; rw [h2]
              rename_i x
              have := Option.some.inj (show some (bcase wt (!x) x) = some b from hw')
              rw [← this]
              cases wt <;> cases x <;> rfl
            · simp only [VR] at h2
              obtain ⟨cs, h2, _⟩ := h2
              rw [h2]
              exact Option.some.inj (show some false = some b from hw')
        · cases hg
      · cases hg
    · cases hg
theorem okR_ok {x : Option V} {h h' : H} {n : Nat} (hv : okR x h n = .ok v h') : x = some v ∧ h' = h := by
  obtain ⟨u, hu, hv⟩ := ocase_ne hv (by simp)
  injection hv with g1 g2
  exact ⟨by rw [hu, g1], g2.symm⟩
/-- One operation. -/
theorem step_sound (hT : TTok P tt) (he : EnOk ν en) {h h' : H} {W : Bas} (R : Rel ν W ρ h w) {call : Nat → List V → H → R1} (hcall : CallOk P ν W call) (hm : MtsOk P en.mts) {ds : List (Option Tmp)} {sv : Src → V} (hr : OpR ν ρ ds sv a o.op.operands.toList)
    (hv : doK (trK tt ds o.op) en call sv h = .ok v h') : Does P o a w (After ν W h ρ h' v) := by
  cases hk : trK tt ds o.op with
  | pu k =>
    rw [hk] at hv
    obtain ⟨h1, rfl⟩ := okR_ok (show okR (doP k en sv) h 90 = .ok v h' from hv)
    obtain ⟨u, hu, hvr⟩ := doP_sound (w := w) hT he hk hr h1
    exact Does.value hu ⟨ρ, R, hvr, Ext.refl _ _⟩
  | rd k =>
    rw [hk] at hv
    obtain ⟨h1, rfl⟩ := okR_ok (show okR (doR k en sv h) h 91 = .ok v h' from hv)
    obtain ⟨u, hu, hvr⟩ := doR_sound R hT he hk hr h1
    exact Does.value hu ⟨ρ, R, hvr, Ext.refl _ _⟩
  | al k =>
    rw [hk] at hv
    obtain ⟨⟨ob, mk⟩, h1, hv1⟩ := ocase_ne (show ocase (doA k sv) (R1.bad 92) (fun p => fresh h p.1 p.2) = .ok v h' from hv) (by simp)
    obtain ⟨hp, ho, u, w', n, hrun, hg, hob, hvr⟩ := doA_sound (w := w) hT hk hr h1
    rw [fresh_eq] at hv1
    injection hv1 with g1 g2
    subst g1; subst g2
    have R2 : Rel ν W ρ (addO h ob) w := R.add ob (fun y hy => by rw [hp] at hy; cases hy) (fun y hy => by rw [hp] at hy; cases hy)
    refine Does.value hrun ⟨ρ.put (nx h) (w.heap.size, 0, n), R2.place hg (by rw [obj_addO, if_pos rfl]) R.idle hob, hvr _ _ (Pl.put_same _ _), Pl.le_put R.idle, fun k e hk => ?_, by rw [nx_addO]; omega⟩
    rw [Pl.put_ne _ (fun e' => by rw [e'] at hk; exact Nat.lt_irrefl _ hk)]; exact e
  | ef k =>
    rw [hk] at hv
    exact doE_sound hT he R hcall hm hk hr hv
  | no n => rw [hk] at hv; cases hv
theorem trSeq_dst (tt : TT) : ∀ (l : List Oper) (i : Nat) (tk : List Tk), (∀ o ∈ l, dstOk nt o = true) → (∀ k ∈ tk, ∀ m, k.dst = some m → m < nt) → ∀ k ∈ (trSeq tt l i tk).2, ∀ m, k.dst = some m → m < nt
  | [], i, tk, _, h => h
  | o :: l, i, tk, hd, h => by
    refine trSeq_dst tt l (i + 1) _ (fun o' ho' => hd o' (List.mem_cons_of_mem _ ho')) (fun k hk m hm => ?_)
    rcases List.mem_cons.1 hk with rfl | hk
    · have := hd o (List.mem_cons_self ..)
      unfold dstOk at this
      have hm' : o.dst = some m := hm
      rw [hm'] at this
      exact blt_iff.1 this
    · exact h k hk m hm
theorem seq_sound (hT : TTok P tt) (he : EnOk ν en) {W : Bas} {call : Nat → List V → H → R1} (hcall : CallOk P ν W call) (hm : MtsOk P en.mts) (hnt : nt ≤ 100000) {Q : Exit → Act → World → Prop} :
    ∀ (l : List Oper) (i : Nat) (tk : List Tk) (r : List V) (h : H) (ρ : Pl) (a : Act) (w : World) (r' : List V) (h' : H), ops.toList.drop i = l → (∀ o ∈ l, dstOk nt o = true) → (∀ k ∈ tk, ∀ m, k.dst = some m → m < nt) →
      runIts en call t (trSeq tt l i tk).1 r h = .ok r' h' → Rel ν W ρ h w → Cur Df ν ρ nt ops t tk r a →
      (∀ ρ' a' w', Rel ν W ρ' h' w' → Ext h ρ h' ρ' → Cur Df ν ρ' nt ops t (trSeq tt l i tk).2 r' a' → Q .normal a' w') → wpOps P ops Q (List.range' i l.length) a w
  | [], i, tk, r, h, ρ, a, w, r', h', _, _, _, hv, R, C, hQ => by
    have hv' : RR.ok r h = .ok r' h' := hv
    injection hv' with g1 g2; subst g1; subst g2
    exact hQ ρ a w R (Ext.refl _ _) C
  | o :: l, i, tk, r, h, ρ, a, w, r', h', hl, hd, hdt, hv, R, C, hQ => by
    have hoi : ops[i]? = some o := by
      have := congrArg (fun x => x[0]?) hl
      simpa using this
    have hl' : ops.toList.drop (i + 1) = l := by
      have := congrArg List.tail hl
      simpa using this
    rw [List.length_cons, List.range'_succ, wpOps_cons]
    unfold wpOp
    simp only [hoi]
    -- the item
    cases hg : trGuard tk o with
    | none =>
      exfalso
      have hv' : runIts en call t ((takeOp tt false tk i o).2 :: (trSeq tt l (i + 1) ((takeOp tt false tk i o).1 :: tk)).1) r h = .ok r' h' := hv
      have hk : (takeOp tt false tk i o).2 = .mk none (no 128) [] := by simp [takeOp, hg]
      rw [hk] at hv'
      have : RR.bad 128 = RR.ok r' h' := hv'
      cases this
    | some g =>
      have hk : (takeOp tt false tk i o).2 = .mk g (trK tt (tk.map (·.dst)) o.op) [] := by simp [takeOp, hg]
      have hv' : runIts en call t ((takeOp tt false tk i o).2 :: (trSeq tt l (i + 1) ((takeOp tt false tk i o).1 :: tk)).1) r h = .ok r' h' := hv
      rw [hk] at hv'
      have hv2 : r1 (doG en call (src r t) h g (trK tt (tk.map (·.dst)) o.op)) RR.bad (fun v h1 => runIts en call t (trSeq tt l (i + 1) ((takeOp tt false tk i o).1 :: tk)).1 (v :: r) h1) = .ok r' h' := hv'
      have hopR := C.opR o.op.operands.toList
      have hdo : ∀ m, o.dst = some m → m < nt := fun m e => by
        have := hd o (List.mem_cons_self ..)
        unfold dstOk at this
        rw [e] at this
        exact blt_iff.1 this
      have hdt' : ∀ k ∈ (takeOp tt false tk i o).1 :: tk, ∀ m, k.dst = some m → m < nt := fun k hk m hm => by
        rcases List.mem_cons.1 hk with rfl | hk
        · exact hdo m hm
        · exact hdt k hk m hm
      have next : ∀ (v : V) (h1 : H) (ρ1 : Pl) (u : Value) (w1 : World), runIts en call t (trSeq tt l (i + 1) ((takeOp tt false tk i o).1 :: tk)).1 (v :: r) h1 = .ok r' h' → Rel ν W ρ1 h1 w1 → VR ν ρ1 v u → Ext h ρ h1 ρ1 →
          wpOps P ops Q (List.range' (i + 1) l.length) (a.put o.dst u) w1 := by
        intro v h1 ρ1 u w1 hrun R1' hvr hE
        have C1 : Cur Df ν ρ1 nt ops t ((takeOp tt false tk i o).1 :: tk) (v :: r) (a.put o.dst u) := (C.mono hE.le).put (k := (takeOp tt false tk i o).1) ⟨o, hoi, rfl⟩ hdo hvr
        exact seq_sound hT he hcall hm hnt l (i + 1) _ (v :: r) h1 ρ1 _ w1 r' h' hl' (fun o' ho' => hd o' (List.mem_cons_of_mem _ ho')) hdt' hrun R1' C1 (fun ρ' a' w' R' E' C' => hQ ρ' a' w' R' (hE.trans E') C')
      cases hw : want (src r t) g with
      | none =>
        have : doG en call (src r t) h g (trK tt (tk.map (·.dst)) o.op) = R1.bad 81 := by unfold doG; rw [hw]; rfl
        rw [this] at hv2; cases hv2
      | some b =>
        have hwant := C.wanted hnt hdt hg hw
        cases b with
        | false =>
          have hdg : doG en call (src r t) h g (trK tt (tk.map (·.dst)) o.op) = R1.ok (V.u []) h := by unfold doG; rw [hw]; rfl
          rw [hdg] at hv2
          rw [hwant]
          simp only [Bool.false_eq_true, if_false]
          exact next (V.u []) h ρ undef w hv2 R (undef_iff.2 rfl) (Ext.refl _ _)
        | true =>
          have hdg : doG en call (src r t) h g (trK tt (tk.map (·.dst)) o.op) = doK (trK tt (tk.map (·.dst)) o.op) en call (src r t) h := by unfold doG; rw [hw]; rfl
          rw [hdg] at hv2
          rw [hwant]
          simp only [if_true]
          left
          cases hdk : doK (trK tt (tk.map (·.dst)) o.op) en call (src r t) h with
          | bad n => rw [hdk] at hv2; cases hv2
          | ok v h1 =>
            rw [hdk] at hv2
            refine step_sound hT he R hcall hm hopR hdk _ Q (fun u w1 ha => ?_)
            obtain ⟨ρ1, R1', hvr, hE⟩ := ha
            exact next v h1 ρ1 u w1 hv2 R1' hvr hE
end Ev
end Go.Proofs.YtoinghomkcjkcaaGreatDoor
