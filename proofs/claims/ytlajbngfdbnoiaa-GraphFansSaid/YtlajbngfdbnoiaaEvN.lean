/- What makes memory. -/
import Derived.Test.YtlajbngfdbnoiaaEvM
namespace Go.Proofs.Ytlajbngfdbnoiaa
set_option linter.unusedSimpArgs false
set_option linter.unusedVariables false
set_option linter.constructorNameAsVariable false
open Go Go.RowKit
namespace Ev
variable {path : List (Cd × Bool)}
variable {P : Program} {tt : TT} {ν : Nat → Int} {ρ : Pl} {ds : List (Option Tmp)} {sv : Src → V} {a : Act} {en : En} {w : World} {o : Oper} {v : V}
def Pl.put (ρ : Pl) (x : BP) (p : Nat × Nat × Nat) : Pl := fun y => if y = x then some p else ρ y
theorem Pl.put_same (x : BP) (p : Nat × Nat × Nat) : ρ.put x p x = some p := if_pos rfl
theorem Pl.put_ne {x y : BP} (p : Nat × Nat × Nat) (h : y ≠ x) : ρ.put x p y = ρ y := if_neg h
theorem Pl.le_put {x : BP} {p : Nat × Nat × Nat} (h : ρ x = none) : ρ.le (ρ.put x p) := fun y q e => by
  by_cases hy : y = x
  · subst hy; rw [h] at e; cases e
  · rw [Pl.put_ne p hy]; exact e
/-- Ids that were there and lie nowhere lie nowhere still. -/
structure Ext (h : H) (ρ : Pl) (h' : H) (ρ' : Pl) : Prop where
  le : ρ.le ρ'
  idle : ∀ x, ρ x = none → bpN x < bpN (nx h) → ρ' x = none
  nx : bpN (nx h) ≤ bpN (nx h')
theorem Ext.refl (h : H) (ρ : Pl) : Ext h ρ h ρ := ⟨Pl.le_refl ρ, fun _ e _ => e, Nat.le_refl _⟩
theorem Ext.trans {h h' h'' : H} {a b c : Pl} (k : Ext h a h' b) (l : Ext h' b h'' c) : Ext h a h'' c :=
  ⟨Pl.le_trans k.le l.le, fun x e hx => l.idle x (k.idle x e hx) (Nat.lt_of_lt_of_le hx k.nx), Nat.le_trans k.nx l.nx⟩
theorem EsR.mono {ρ' : Pl} (hle : ρ.le ρ') : ∀ {es : List (V × V)} {ms : List MapEntry}, EsR ν ρ es ms → EsR ν ρ' es ms
  | [], [], _ => trivial
  | [], _ :: _, h => h.elim
  | _ :: _, [], h => h.elim
  | e :: es, m :: ms, h => ⟨VR.mono ν hle _ _ h.1, VR.mono ν hle _ _ h.2.1, EsR.mono hle h.2.2⟩
theorem ObjR.mono {ρ' : Pl} (hle : ρ.le ρ') {b c n : Nat} : ∀ {ob : O}, ObjR ν ρ w b c n ob → ObjR ν ρ' w b c n ob
  | .c l _ _, ⟨cs, e, fz, h1, h2, h3, h4, h5⟩ => ⟨cs, e, fz, h1, h2, h3, h4, fun i v hv => let ⟨u, hu, hr⟩ := h5 i v hv; ⟨u, hu, VR.mono ν hle _ _ hr⟩⟩
  | .m es, ⟨ms, ck, h1, h2⟩ => ⟨ms, ck, h1, h2.mono hle⟩
theorem ObjR.block {w' : World} {b c n : Nat} (hb : w'.heap[b]? = w.heap[b]?) : ∀ {ob : O}, ObjR ν ρ w b c n ob → ObjR ν ρ w' b c n ob
  | .c l _ _, ⟨cs, e, fz, h1, h⟩ => ⟨cs, e, fz, hb.trans h1, h⟩
  | .m es, ⟨ms, ck, h1, h2⟩ => ⟨ms, ck, hb.trans h1, h2⟩
/-- A world with one block more. -/
def Grows (w w' : World) : Prop := w'.heap.size = w.heap.size + 1 ∧ Below w.heap.size w w'
theorem grows_alloc (w : World) (ob : Obj) : Grows w (w.alloc ob) := ⟨by show (w.heap.push ob).size = _; simp, (Below.refl _ w).alloc (Nat.le_refl _) ob⟩
theorem grows_drew (w : World) (ob : Obj) : Grows w (w.drew.alloc ob) := ⟨by show (w.heap.push ob).size = _; simp, (Below.refl _ w).drew.alloc (Nat.le_refl _) ob⟩
theorem new_block (w : World) (ob : Obj) : (w.alloc ob).heap[w.heap.size]? = some ob := by show (w.heap.push ob)[w.heap.size]? = _; simp
theorem new_block' (w : World) (ob : Obj) : (w.drew.alloc ob).heap[w.heap.size]? = some ob := by show (w.heap.push ob)[w.heap.size]? = _; simp
theorem Rel.grown {W : Bas} {h : H} (R : Rel ν W ρ h w) {w' : World} (hg : Grows w w') : Rel ν W ρ h w' where
  below := R.below.trans (hg.2.mono R.below.size)
  base := R.base
  ob := fun x o e b c n e' => (R.ob x o e b c n e').block (hg.2.block b (R.lt x b c n e').1)
  lt := fun x b c n e => ⟨by have := (R.lt x b c n e).1; rw [hg.1]; omega, (R.lt x b c n e).2⟩
  dom := R.dom
  mine := R.mine
  sep := R.sep
  par := R.par
  parlt := R.parlt
  kp := fun p hp => ⟨(hg.2.block p.1 (Array.getElem?_eq_some_iff.1 (R.kp p hp).1).1).trans (R.kp p hp).1, (R.kp p hp).2⟩
/-- One that lies nowhere yet is laid into the new block. -/
theorem Rel.place {W : Bas} {h : H} (R : Rel ν W ρ h w) {w' : World} (hg : Grows w w') {x : BP} {ob : O} {n : Nat} (hx : obj h x = some ob) (hn : ρ x = none) (ho : ObjR ν ρ w' w.heap.size 0 n ob) : Rel ν W (ρ.put x (w.heap.size, 0, n)) h w' := by
  have R' := R.grown hg
  have hle : ρ.le (ρ.put x (w.heap.size, 0, n)) := Pl.le_put hn
  have inv : ∀ y b c m, ρ.put x (w.heap.size, 0, n) y = some (b, c, m) → (y = x ∧ b = w.heap.size ∧ c = 0 ∧ m = n) ∨ (y ≠ x ∧ ρ y = some (b, c, m)) := by
    intro y b c m e
    by_cases hy : y = x
    · subst hy; rw [Pl.put_same] at e; left; simp at e; exact ⟨rfl, e.1.symm, e.2.1.symm, e.2.2.symm⟩
    · rw [Pl.put_ne _ hy] at e; exact .inr ⟨hy, e⟩
  refine ⟨R'.below, ?_, ?_, R'.dom, ?_, ?_, R'.par, R'.parlt, Pl.le_trans R.base (Pl.le_put hn), R'.kp⟩
  · intro y oy e b c m e'
    rcases inv y b c m e' with ⟨rfl, rfl, rfl, rfl⟩ | ⟨hy, e'⟩
    · rw [hx] at e; obtain rfl := Option.some.inj e; exact ho.mono hle
    · exact (R'.ob y oy e b c m e').mono hle
  · intro y b c m e'
    rcases inv y b c m e' with ⟨rfl, rfl, rfl, rfl⟩ | ⟨hy, e'⟩
    · exact ⟨by rw [hg.1]; omega, R.dom _ _ hx⟩
    · exact R'.lt y b c m e'
  · intro y oy e hw b c m e'
    rcases inv y b c m e' with ⟨rfl, rfl, rfl, rfl⟩ | ⟨hy, e'⟩
    · exact R.below.size
    · exact R'.mine y oy e hw b c m e'
  · intro y z oy oz ey ez hyz b c m c' m' e1 e2
    rcases inv y b c m e1 with ⟨g1, g2, g3, g4⟩ | ⟨hy, k1⟩ <;> rcases inv z b c' m' e2 with ⟨g1', g2', g3', g4'⟩ | ⟨hz, k2⟩
    · exact absurd (g1.trans g1'.symm) hyz
    · exact absurd (R.lt z b c' m' k2).1 (by omega)
    · exact absurd (R.lt y b c m k1).1 (by omega)
    · exact R'.sep y z oy oz ey ez hyz b c m c' m' k1 k2
noncomputable def addO (h : H) (ob : O) : H := H.mk (succ (nx h)) (Ev.set (nx h) (some ob) (mem h))
theorem fresh_eq (h : H) (ob : O) (k : BP → V) : fresh h ob k = R1.ok (k (nx h)) (addO h ob) := by cases h; rfl
theorem obj_addO (h : H) (ob : O) (y : BP) : obj (addO h ob) y = if y = nx h then some ob else obj h y := get_set _ _ _ _
theorem nx_addO (h : H) (ob : O) : bpN (nx (addO h ob)) = bpN (nx h) + 1 := bpN_succ _
theorem Rel.idle {W : Bas} {h : H} (R : Rel ν W ρ h w) : ρ (nx h) = none := by
  cases e : ρ (nx h) with
  | none => rfl
  | some p => obtain ⟨b, c, n⟩ := p; exact absurd (R.lt _ b c n e).2 (Nat.lt_irrefl _)
/-- A new one, that lies nowhere yet. -/
theorem Rel.add {W : Bas} {h : H} (R : Rel ν W ρ h w) (ob : O) (hp : ∀ y, parO ob = some y → ∀ oy, obj h y = some oy → ownO oy = false) (hp3 : ∀ y, parO ob = some y → bpN y < bpN (nx h)) : Rel ν W ρ (addO h ob) w := by
  have hi := R.idle
  have old : ∀ y oy, obj (addO h ob) y = some oy → ρ y ≠ none → obj h y = some oy := by
    intro y oy e hne
    rw [obj_addO] at e
    split at e
    · rename_i hy; subst hy; exact absurd hi hne
    · exact e
  refine ⟨R.below, ?_, ?_, ?_, ?_, ?_, ?_, ?_, R.base, R.kp⟩
  · intro y oy e b c n e'; exact R.ob y oy (old y oy e (by rw [e']; simp)) b c n e'
  · intro y b c n e'; exact ⟨(R.lt y b c n e').1, by rw [nx_addO]; have := (R.lt y b c n e').2; omega⟩
  · intro y oy e
    rw [nx_addO]
    rw [obj_addO] at e
    split at e
    · rename_i hy; subst hy; omega
    · have := R.dom y oy e; omega
  · intro y oy e hw b c n e'; exact R.mine y oy (old y oy e (by rw [e']; simp)) hw b c n e'
  · intro y z oy oz ey ez hyz b c n c' n' e1 e2
    exact R.sep y z oy oz (old y oy ey (by rw [e1]; simp)) (old z oz ez (by rw [e2]; simp)) hyz b c n c' n' e1 e2
  · intro y oy z ey hpz oz ez
    rw [obj_addO] at ey ez
    split at ez
    · rename_i hz; subst hz
      exfalso
      split at ey
      · obtain rfl := Option.some.inj ey; exact Nat.lt_irrefl _ (hp3 _ hpz)
      · exact Nat.lt_irrefl _ (R.parlt y oy _ ey hpz)
    · split at ey
      · obtain rfl := Option.some.inj ey; exact hp z hpz oz ez
      · exact R.par y oy z ey hpz oz ez
  · intro y oy z ey hpz
    rw [nx_addO]
    rw [obj_addO] at ey
    split at ey
    · obtain rfl := Option.some.inj ey; have := hp3 z hpz; omega
    · have := R.parlt y oy z ey hpz; omega
/-- The operation makes one block, which holds what it holds in the small machine. -/
def Makes (P : Program) (ν : Nat → Int) (ρ : Pl) (a : Act) (o : Oper) (w : World) (ob : O) (mk : BP → V) : Prop :=
  parO ob = none ∧ ownO ob = true ∧ ∃ u w' n, (execOp a.eval o).run P w = .ok (.value u) w' ∧ Grows w w' ∧ ObjR ν ρ w' w.heap.size 0 n ob ∧ ∀ (ρ' : Pl) x, ρ' x = some (w.heap.size, 0, n) → VR ν ρ' (mk x) u
theorem objR_new {cs : Array Value} {e : TypeId} {l : List V} {w' : World} {p : Option BP} {wn : Bool} (hb : w'.heap[w.heap.size]? = some (.cells cs e)) (hl : VRs ν ρ l cs.toList) : ObjR ν ρ w' w.heap.size 0 cs.size (.c l p wn) :=
  ⟨cs, e, (0, 0), hb, by omega, fun i _ h => by simp at h, by have := hl.length; simp at this; omega, fun i v hv => by
    obtain ⟨u, hu, hr⟩ := hl.get hv
    exact ⟨u, by simpa using hu, hr⟩⟩
theorem a_alloc (hT : TTok P tt) {t : Nat} {z : List V} (ho : o.op = .alloc t) (hz : zeroC tt t = some z) : Makes P ν ρ a o w (.c z none true) (fun x => .p x 0) := by
  obtain ⟨u, hu, hr⟩ := zeroC_ok (w := w) (ν := ν) (ρ := ρ) hT hz
  refine ⟨rfl, rfl, .pointer (some ⟨w.heap.size, 0, none⟩), w.alloc (.cells u.cells t), u.cells.size, ?_, grows_alloc _ _, objR_new (new_block _ _) hr, fun ρ' x e => ?_⟩
  · simp [execOp, ho, Instr.alloc, hu, newVar, newRow]
  · simp only [VR]; exact ⟨_, _, _, e, rfl⟩
theorem a_box {t n : Nat} {x : Operand} {s : Src} (ho : o.op = .box t x) (hx : VR ν ρ (sv s) (a.eval x)) (h0 : isT 0 (sv s) = false) : Makes P ν ρ a o w (.c (cellsV (sv s)) none true) (fun x => .p x 0) := by
  have hr := cellsV_sound (fun e => by rw [e] at h0; cases h0) hx
  refine ⟨rfl, rfl, .pointer (some ⟨w.heap.size, 0, none⟩), w.alloc (.cells (a.eval x).cells t), (a.eval x).cells.size, ?_, grows_alloc _ _, objR_new (new_block _ _) hr, fun ρ' x e => ?_⟩
  · simp [execOp, ho, Instr.box, newVar, newRow]
  · simp only [VR]; exact ⟨_, _, _, e, rfl⟩
theorem rep_get (z : List V) : ∀ (n i : Nat), i < n * z.length → (rep z n)[i]? = z[i % z.length]?
  | 0, i, h => by simp at h
  | n + 1, i, h => by
    show (app z (rep z n))[i]? = _
    rw [app_eq]
    by_cases h1 : i < z.length
    · rw [List.getElem?_append_left h1, Nat.mod_eq_of_lt h1]
    · rw [Nat.succ_mul] at h
      rw [List.getElem?_append_right (by omega), rep_get z n _ (by omega)]
      congr 1
      exact (Nat.mod_eq_sub_mod (by omega)).symm
theorem VRs.rep {z : List V} {u : Array Value} (hz : VRs ν ρ z u.toList) (n : Nat) : VRs ν ρ (Ev.rep z n) ((Array.range (n * z.length)).map (u[· % u.size]!)).toList := by
  have hl : u.size = z.length := by simpa using hz.length
  refine VRs.of_get (by simp [rep_len]) (fun i v hv => ?_)
  have hi : i < n * z.length := by have := (List.getElem?_eq_some_iff.1 hv).1; rwa [rep_len] at this
  rw [rep_get z n i hi] at hv
  obtain ⟨x, hx, hr⟩ := hz.get hv
  refine ⟨x, ?_, hr⟩
  have hx' : u[i % u.size]? = some x := by rw [hl]; simpa using hx
  simp [hi, getElem!_def, hx']
theorem place_len : ∀ {ps : List (Nat × Nat × V)} {z l : List V}, place ps z = some l → l.length = z.length
  | [], z, l, h => by obtain rfl := Option.some.inj (show some z = some l from h); rfl
  | p :: ps, z, l, h => by
    obtain ⟨_, h⟩ := bcase_ne' (show bcase (isT 0 p.2.2) (bcase (lenIs p.2.1 (cellsV p.2.2)) none (place ps (Ev.splice p.1 (cellsV p.2.2) z))) none = some l from h) (by simp)
    obtain ⟨_, h⟩ := bcase_ne h (by simp)
    rw [place_len h, splice_len']
theorem a_bslice (hT : TTok P tt) {t len n : Nat} {ps : Array (Nat × Operand)} {k : KA} {ob : O} {mk : BP → V} (ho : o.op = .buildSlice t len ps) (hk : trBSlice tt ds t len ps.toList = .al k) (hr : OpR ν ρ ds sv a (ps.toList.map (·.2))) (hv : doA k sv = some (ob, mk)) : Makes P ν ρ a o w ob mk := by
  have nw : ∀ w, K.no w ≠ .al k := fun w h => by cases h
  unfold trBSlice at hk
  split at hk <;> try (cases hk; done)
  rename_i e ht
  split at hk <;> try (cases hk; done)
  rename_i sz hs
  split at hk <;> try (cases hk; done)
  rename_i z hz
  split at hk <;> try (cases hk; done)
  rename_i ss hss
  obtain ⟨hc, hk⟩ := bif_ne hk nw
  simp only [Bool.and_eq_true] at hc
  have hc1 := Nat.le_of_ble_eq_true hc.1.1
  have hc2 := Nat.eq_of_beq_eq_true hc.1.2
  have hc3 := Nat.le_of_ble_eq_true hc.2
  injection hk with hk; subst hk
  obtain ⟨l, hl, hv⟩ := ocase_ne (show ocase (place (srcP sv ss) (rep' len z)) none (fun l => some (O.c l none true, fun x => V.sl x 0 sz len)) = some (ob, mk) from hv) (by simp)
  obtain ⟨rfl, rfl⟩ := Prod.mk.inj (Option.some.inj hv)
  obtain ⟨u, hu, hzr⟩ := zeroC_ok (w := w) (ν := ν) (ρ := ρ) hT hz
  have hrep := hzr.rep len
  rw [hc2] at hrep
  have hrl : (rep' len z).length = len * sz := by rw [← hc2]; exact rep_len z len
  obtain ⟨cs, hf, hcs⟩ := place_sound (fun i => some (i * sz, sz)) ps.toList ss (rep' len z) l _ (by rw [hrl]; exact hss) hr hrep hl
  have hcl : cs.size = len * sz := by
    have h1 := hcs.length
    have h2 : l.length = len * sz := by
      rw [place_len hl, hrl]
    simp at h1; omega
  refine ⟨rfl, rfl, .slice (some ⟨w.heap.size, 0, none⟩) len len, w.alloc (.cells cs e), cs.size, ?_, grows_alloc _ _, objR_new (new_block _ _) hcs, fun ρ' x e => ?_⟩
  · simp only [execOp, ho, Instr.buildSlice, Sem.run_bind, run_underlying (und_ok hT ht), Result.andThen_ok, size_ok hT hs, Sem.run_ite]
    rw [if_neg (by omega)]
    have hz0 : ∀ b : Array Value, (len * sz = 0 → b = #[]) → (len * sz ≠ 0 → b = u.cells) → (Array.range (len * sz)).map (b[· % b.size]!) = (Array.range (len * sz)).map (u.cells[· % u.cells.size]!) := by
      intro b h1 h2
      by_cases h0 : len * sz = 0
      · rw [h0]; simp
      · rw [h2 h0]
    by_cases h0 : len * sz = 0
    · have hr0 : (Array.range 0 : Array Nat) = #[] := rfl
      simp only [h0, hr0, Array.map_empty] at hf
      simp [h0, newRow, hr0, hf]
    · simp [h0, hu, hf, newRow]
  · simp only [VR]; exact ⟨_, _, _, _, _, e, rfl, Nat.le_refl _, fun _ => ⟨by simp, by omega⟩⟩
theorem a_mkslice (hT : TTok P tt) {t : Nat} {x y : Operand} {p q : Src} {k : KA} {ob : O} {mk : BP → V} (ho : o.op = .makeSlice t x y) (hk : trMkS tt t p q = .al k) (hx : VR ν ρ (sv p) (a.eval x)) (hy : VR ν ρ (sv q) (a.eval y)) (hv : doA k sv = some (ob, mk)) : Makes P ν ρ a o w ob mk := by
  have nw : ∀ w, K.no w ≠ .al k := fun w h => by cases h
  unfold trMkS at hk
  split at hk <;> try (cases hk; done)
  rename_i e ht
  split at hk <;> try (cases hk; done)
  rename_i i z hi hz
  obtain ⟨hc, hk⟩ := bif_ne hk nw
  simp only [Bool.and_eq_true] at hc
  have hc1 := Nat.le_of_ble_eq_true hc.1
  have hc2 := Nat.eq_of_beq_eq_true hc.2
  injection hk with hk; subst hk
  obtain ⟨k1, l, e1, hv⟩ := asNat_ne (show asNat (sv p) none (fun l => asNat (sv q) none (fun c => bcase (Nat.ble l c) none (bcase (small c) none (bcase (small l) none (some (O.c (rep z c) none true, fun x => V.sl x 0 i.size l)))))) = some (ob, mk) from hv) (by simp)
  obtain ⟨k2, c, e2, hv⟩ := asNat_ne hv (by simp)
  obtain ⟨h1, hv⟩ := bcase_ne hv (by simp)
  obtain ⟨h2, hv⟩ := bcase_ne hv (by simp)
  obtain ⟨_, hv⟩ := bcase_ne hv (by simp)
  obtain ⟨rfl, rfl⟩ := Prod.mk.inj (Option.some.inj hv)
  have h1' := Nat.le_of_ble_eq_true h1
  have h2' : c ≤ 1000000 := Nat.le_of_ble_eq_true h2
  rw [e1] at hx; rw [e2] at hy; simp only [VR, zval] at hx hy
  have hii := hT _ _ hi
  obtain ⟨u, hu, hzr⟩ := zeroC_ok (w := w) (ν := ν) (ρ := ρ) hT hz
  have huz : i.zero = some u := by
    have h3 : (zeroValue e).run P w = match i.zero with | some v => .ok v w | none => .halt (.unsupported (.resourceLimit "a value of more than 2^22 cells")) w := by
      unfold zeroValue
      simp only [typeInfo, Sem.run_bind, run_program, Result.andThen_ok, hii, Sem.run_pure]
      cases i.zero <;> rfl
    rw [h3] at hu
    cases hzz : i.zero with
    | none => rw [hzz] at hu; cases hu
    | some v => rw [hzz] at hu; injection hu with hu; rw [hu]
  have hb : (i.bytes : Int) * (c : Int) ≤ 281474976710656 := by
    have : i.bytes * c ≤ 1000 * 1000000 := Nat.mul_le_mul hc1 h2'
    have : ((i.bytes * c : Nat) : Int) ≤ 1000 * 1000000 := by omega
    rw [Int.natCast_mul] at this; omega
  have hrun := run_make (P := P) w t e i u (und_ok hT ht) hii huz k1 k2 (l : Int) (c : Int) (by omega) (by omega) hb (by omega)
  simp only [Int.toNat_natCast] at hrun
  have hrep := hzr.rep c
  rw [hc2] at hrep
  refine ⟨rfl, rfl, .slice (some ⟨w.heap.size, 0, none⟩) l c, w.alloc (.cells (madeCells u.cells (c * i.size)) e), (madeCells u.cells (c * i.size)).size, ?_, grows_alloc _ _, objR_new (new_block _ _) hrep, fun ρ' x e => ?_⟩
  · simp only [execOp, ho, hx, hy, Sem.run_bind, hrun]; rfl
  · simp only [VR]; exact ⟨_, _, _, _, _, e, rfl, h1', fun _ => ⟨by simp, by rw [size_madeCells]; omega⟩⟩
theorem a_mkmap {t : Nat} (ho : o.op = .makeMap t none) : Makes P ν ρ a o w (.m []) (fun x => .m x) := by
  refine ⟨rfl, rfl, .map (some w.heap.size), w.alloc (.map #[] 0), 0, ?_, grows_alloc _ _, ⟨#[], 0, new_block _ _, trivial⟩, fun ρ' x e => ?_⟩
  · simp [execOp, ho, Instr.makeMap]
  · simp only [VR]; exact ⟨_, _, e, rfl⟩
theorem a_s2b (hT : TTok P tt) {t t' e : Nat} {x : Operand} {s : Src} {ob : O} {mk : BP → V} (ho : o.op = .convert t t' x) (ht : und tt t = some .string) (ht' : und tt t' = some (.slice e)) (hte : und tt e = some (.int .u8)) (hx : VR ν ρ (sv s) (a.eval x))
    (hv : onS (sv s) none (fun l => bcase (small (Ev.len l)) none (some (O.c (zs l) none true, fun x => V.sl x 0 1 (Ev.len l)))) = some (ob, mk)) : Makes P ν ρ a o w ob mk := by
  obtain ⟨l, e1, hv⟩ := onS_ne hv (by simp)
  obtain ⟨_, hv⟩ := bcase_ne hv (by simp)
  obtain ⟨rfl, rfl⟩ := Prod.mk.inj (Option.some.inj hv)
  rw [e1] at hx; simp only [VR] at hx
  obtain ⟨b, eb, hb⟩ := hx
  have hrun := run_bytes_of_string (P := P) w t t' e b (und_ok hT ht) (und_ok hT ht') (und_ok hT hte)
  have hsz : b.size = l.length := by rw [size_eq, hb.length]
  have hge := grownCap_ge w b.size 0 e
  have hrs : (bytesRow b (grownCap w b.size 0 e)).size = grownCap w b.size 0 e := by
    unfold bytesRow; simp only [Array.size_append, Array.size_map, Array.size_replicate]
    have : b.data.size = b.size := rfl
    omega
  have hzr := hb.zs (ρ := ρ)
  have hdl : b.data.toList.length = b.size := (size_eq b).symm
  refine ⟨rfl, rfl, _, _, (bytesRow b (grownCap w b.size 0 e)).size, by simp only [execOp, ho, eb, Sem.run_bind, hrun]; rfl, grows_drew _ _, ⟨_, e, _, new_block' _ _, by omega, fun i hi h => by simp at h; omega, ?_, fun i v hv => ?_⟩, fun ρ' x e' => ?_⟩
  · have := hzr.length; simp at this; rw [hrs]; omega
  · obtain ⟨u, hu, hr⟩ := hzr.get hv
    refine ⟨u, ?_, hr⟩
    rw [List.getElem?_map] at hu
    cases hbi : b.data.toList[i]? with
    | none => rw [hbi] at hu; cases hu
    | some c =>
      rw [hbi] at hu
      obtain rfl := Option.some.inj hu
      have hi := (List.getElem?_eq_some_iff.1 hbi)
      obtain ⟨hi1, hi2⟩ := hi
      rw [Nat.zero_add, bytesRow_at b _ i (by simpa using hi1)]
      simp at hi2; rw [hi2]
  · simp only [VR]
    exact ⟨_, _, _, _, _, e', by rw [len_eq, ← hsz], by rw [len_eq]; omega, fun _ => ⟨by simp, by rw [hrs]; omega⟩⟩
/-- What makes memory makes what it makes in the small machine. -/
theorem doA_sound (hT : TTok P tt) {k : KA} (hk : trK tt ds o.op = .al k) (hr : OpR ν ρ ds sv a o.op.operands.toList) {ob : O} {mk : BP → V} (hv : doA k sv = some (ob, mk)) : Makes P ν ρ a o w ob mk := by
  have nw : ∀ w, K.no w ≠ .al k := fun w h => by cases h
  generalize hop : o.op = op at hk hr
  cases op <;> simp only [trK, no] at hk <;> try (cases hk; done)
  case alloc t =>
    split at hk
    · rename_i z hz
      injection hk with hk; subst hk
      obtain ⟨rfl, rfl⟩ := Prod.mk.inj (Option.some.inj (show some (O.c z none true, fun x => V.p x 0) = some (ob, mk) from hv))
      exact a_alloc hT hop hz
    · cases hk
  case box t x =>
    split at hk
    · rename_i n hn
      obtain ⟨s, e, hk⟩ := s1_ne hk nw
      injection hk with hk; subst hk
      obtain ⟨h0, hv⟩ := bcase_ne' (show bcase (isT 0 (sv s)) (bcase (lenIs n (cellsV (sv s))) none (some (O.c (cellsV (sv s)) none true, fun x => V.p x 0))) none = some (ob, mk) from hv) (by simp)
      obtain ⟨_, hv⟩ := bcase_ne hv (by simp)
      obtain ⟨rfl, rfl⟩ := Prod.mk.inj (Option.some.inj hv)
      exact a_box (n := n) hop (opR_one hr e) h0
    · cases hk
  case buildSlice t n ps => exact a_bslice (n := n) hT hop hk (by simpa [Op.operands] using hr) hv
  case makeSlice t x y =>
    obtain ⟨p, q, e1, e2, hk⟩ := s2_ne hk nw
    exact a_mkslice hT hop hk (hr x (by simp [Op.operands]) _ e1) (hr y (by simp [Op.operands]) _ e2) hv
  case makeMap t r =>
    cases r <;> simp only [trK, no] at hk <;> try (cases hk; done)
    injection hk with hk; subst hk
    obtain ⟨rfl, rfl⟩ := Prod.mk.inj (Option.some.inj (show some (O.m [], fun x => V.m x) = some (ob, mk) from hv))
    exact a_mkmap hop
  case convert t t' x =>
    obtain ⟨s, e, hk⟩ := s1_ne hk nw
    unfold trConv at hk
    split at hk
    · cases hk
    · cases hk
    · split at hk <;> cases hk
    · rename_i el e1 e2
      split at hk
      · rename_i e3
        injection hk with hk; subst hk
        exact a_s2b hT hop e1 e2 e3 (opR_one hr e) hv
      · cases hk
    · cases hk
  case call c =>
    obtain ⟨ce, args, ts⟩ := c
    exfalso
    unfold trCall at hk
    split at hk
    · rename_i as has
      simp only at has
      cases ce with
      | value f => cases f <;> first | (cases hk; done) | (obtain ⟨s, e, hk⟩ := s1_ne hk nw; cases hk)
      | invoke r m => obtain ⟨s, e, hk⟩ := s1_ne hk nw; cases hk
      | builtin b =>
        have hk' : trBuiltin tt b ts.toList as = .al k := hk
        unfold trBuiltin at hk'
        split at hk'
        · unfold trLen at hk'
          (repeat' split at hk') <;> cases hk'
        · unfold trCap at hk'
          (repeat' split at hk') <;> cases hk'
        · cases hk'
        · cases hk'
        · cases hk'
        · cases hk'
        · exfalso
          unfold trApp at hk'
          repeat' split at hk'
          all_goals first
            | (cases hk'; done)
            | (obtain ⟨_, h⟩ := bif_ne hk' nw; (repeat' split at h) <;> cases h)
        · exfalso
          unfold trCopy at hk'
          repeat' split at hk'
          all_goals (cases hk'; done)
        · exfalso
          unfold trClear at hk'
          repeat' split at hk'
          all_goals first
            | (cases hk'; done)
            | (obtain ⟨_, h⟩ := bif_ne hk' nw; cases h)
        · exfalso
          unfold trDel at hk'
          repeat' split at hk'
          all_goals (cases hk'; done)
        · cases hk'
        · cases hk'
        · cases hk'
    · cases hk
  case unOp u t x => cases u <;> simp only [trK, no] at hk <;> first | (cases hk; done) | (obtain ⟨s, e, hk⟩ := s1_ne hk nw; cases hk)
  case makeFunc f x y =>
    cases f <;> simp only [trK, no] at hk <;> first | (cases hk; done) | (split at hk <;> cases hk)
  case makeInterface t x =>
    cases hi : ifaceT tt t with
    | true => rw [hi] at hk; cases hk
    | false => rw [hi] at hk; obtain ⟨s, e, hk⟩ := s1_ne (show s1 ds x (fun s => .pu (.mkif t s)) = _ from hk) nw; cases hk
  all_goals first
    | (obtain ⟨s, e, hk⟩ := s1_ne hk nw; cases hk; done)
    | (obtain ⟨s, t, e1, e2, hk⟩ := s2_ne hk nw; cases hk; done)
    | (split at hk <;> first | (cases hk; done) | (obtain ⟨s, e, hk⟩ := s1_ne hk nw; cases hk; done) | (obtain ⟨s, t, e1, e2, hk⟩ := s2_ne hk nw; cases hk; done))
    | (unfold trBuild at hk; (repeat' split at hk) <;> first | (cases hk; done) | (obtain ⟨_, hk⟩ := bif_ne hk nw; cases hk; done))
    | (unfold trBSlice at hk; (repeat' split at hk) <;> first | (cases hk; done) | (obtain ⟨_, hk⟩ := bif_ne hk nw; cases hk; done))
    | (obtain ⟨s, t, e1, e2, hk⟩ := s2_ne hk nw; unfold trBin trEq at hk; simp only [Bool.cond_eq_ite] at hk; (repeat' split at hk) <;> first | (cases hk; done) | (obtain ⟨_, hk⟩ := bif_ne hk nw; cases hk; done))
    | (split at hk
       · obtain ⟨s, e, hk⟩ := s1_ne hk nw; unfold trSlice at hk; (repeat' split at hk) <;> (cases hk; done)
       · cases hk)
    | (obtain ⟨s, e, hk⟩ := s1_ne hk nw; unfold trFAddr at hk; (repeat' split at hk) <;> (cases hk; done))
    | (obtain ⟨s, e, hk⟩ := s1_ne hk nw; unfold trField trPart at hk; (repeat' split at hk) <;> (cases hk; done))
    | (obtain ⟨s, t, e1, e2, hk⟩ := s2_ne hk nw; unfold trIAddr at hk; (repeat' split at hk) <;> (cases hk; done))
    | (obtain ⟨s, t, e1, e2, hk⟩ := s2_ne hk nw; unfold trIndex at hk; (repeat' split at hk) <;> first | (cases hk; done) | (obtain ⟨_, hk⟩ := bif_ne hk nw; cases hk; done))
    | (obtain ⟨s, t, e1, e2, hk⟩ := s2_ne hk nw; unfold trMkS at hk; (repeat' split at hk) <;> first | (cases hk; done) | (obtain ⟨_, hk⟩ := bif_ne hk nw; cases hk; done))
    | (obtain ⟨s, t, e1, e2, hk⟩ := s2_ne hk nw; obtain ⟨s, e3, hk⟩ := s1_ne hk nw; unfold trUpd at hk; (repeat' split at hk) <;> (cases hk; done))
    | (obtain ⟨s, t, e1, e2, hk⟩ := s2_ne hk nw; unfold trLookup at hk; (repeat' split at hk) <;> (cases hk; done))
    | (obtain ⟨s, e, hk⟩ := s1_ne hk nw; unfold trTas at hk; (repeat' split at hk) <;> (cases hk; done))
    | (obtain ⟨s, e, hk⟩ := s1_ne hk nw; unfold trLoad at hk; (repeat' split at hk) <;> (cases hk; done))
    | (obtain ⟨s, e, hk⟩ := s1_ne hk nw; unfold trConv at hk; (repeat' split at hk) <;> (cases hk; done))
end Ev
end Go.Proofs.Ytlajbngfdbnoiaa
