/- What acts: stores, entries of maps, append. -/
import Derived.Test.YtlajbngfdbnoiaaEvN
namespace Go.Proofs.Ytlajbngfdbnoiaa
set_option linter.unusedSimpArgs false
set_option linter.unusedVariables false
set_option linter.constructorNameAsVariable false
open Go Go.RowKit
namespace Ev
variable {path : List (Cd × Bool)}
variable {P : Program} {tt : TT} {ν : Nat → Int} {ρ : Pl} {ds : List (Option Tmp)} {sv : Src → V} {a : Act} {en : En} {w : World} {o : Oper} {v : V}
theorem setCell_ne (w : World) (b o k : Nat) (u : Value) (h : k ≠ b) : (w.setCell ⟨b, o, none⟩ u).heap[k]? = w.heap[k]? := Below.heap_setCell w ⟨b, o, none⟩ u k h
theorem setCells_ne (b : Nat) : ∀ (vs : List Value) (o : Nat) (w : World) (k : Nat), k ≠ b → (w.setCells b o vs).heap[k]? = w.heap[k]?
  | [], _, _, _, _ => rfl
  | v :: vs, o, w, k, h => by rw [World.setCells, setCells_ne b vs (o + 1) _ k h, setCell_ne w b o k v h]
theorem setCells_size (b : Nat) : ∀ (vs : List Value) (o : Nat) (w : World), (w.setCells b o vs).heap.size = w.heap.size
  | [], _, _ => rfl
  | v :: vs, o, w => by rw [World.setCells, setCells_size b vs]; simp [World.setCell]
theorem setCells_below {B b : Nat} (hB : B ≤ b) : ∀ (vs : List Value) (o : Nat) {W w : World}, Below B W w → Below B W (w.setCells b o vs)
  | [], _, _, _, h => h
  | v :: vs, o, W, w, h => by rw [World.setCells]; exact setCells_below hB vs (o + 1) (h.setCell (p := ⟨b, o, none⟩) hB v)
theorem setCell_at {b o : Nat} {u : Value} {cs : Array Value} {e : TypeId} {fz : Nat × Nat} (h : w.heap[b]? = some (.cells cs e fz)) : (w.setCell ⟨b, o, none⟩ u).heap[b]? = some (.cells (cs.setIfInBounds o u) e fz) := by
  simp [World.setCell, Array.getElem?_modify, h]
theorem setCells_at (b : Nat) : ∀ (vs : List Value) (o : Nat) (w : World) (cs : Array Value) (e : TypeId) (fz : Nat × Nat), w.heap[b]? = some (.cells cs e fz) →
    ∃ cs', (w.setCells b o vs).heap[b]? = some (.cells cs' e fz) ∧ cs'.size = cs.size ∧ ∀ i, cs'[i]? = if o ≤ i ∧ i < o + vs.length ∧ i < cs.size then vs[i - o]? else cs[i]?
  | [], o, w, cs, e, fz, h => ⟨cs, h, rfl, fun i => by rw [if_neg (by simp; omega)]⟩
  | v :: vs, o, w, cs, e, fz, h => by
    obtain ⟨cs', h1, h2, h3⟩ := setCells_at b vs (o + 1) (w.setCell ⟨b, o, none⟩ v) _ e fz (setCell_at h)
    refine ⟨cs', h1, by simpa using h2, fun i => ?_⟩
    rw [h3]
    simp only [Array.size_setIfInBounds, List.length_cons]
    by_cases c1 : o + 1 ≤ i ∧ i < o + 1 + vs.length ∧ i < cs.size
    · rw [if_pos c1, if_pos (by omega), show i - o = (i - (o + 1)) + 1 by omega, List.getElem?_cons_succ]
    · rw [if_neg c1]
      by_cases c2 : o ≤ i ∧ i < o + (vs.length + 1) ∧ i < cs.size
      · rw [if_pos c2]
        have : i = o := by omega
        subst this
        simp [Array.getElem?_setIfInBounds, c2.2.2]
      · rw [if_neg c2, Array.getElem?_setIfInBounds]
        split
        · rename_i he; subst he
          have : ¬ o < cs.size := by omega
          simp [this]
        · rfl
theorem obj_put (h : H) (x : BP) (ob : Option O) (y : BP) : obj (put h x ob) y = if y = x then ob else obj h y := by cases h; exact get_set _ _ _ _
theorem nx_put (h : H) (x : BP) (ob : Option O) : nx (put h x ob) = nx h := by cases h; rfl
theorem obj_kill (h : H) (p : Option BP) (y : BP) : obj (kill h p) y = if p = some y then none else obj h y := by
  cases p with
  | none => simp; rfl
  | some x =>
    show obj (put h x none) y = _
    rw [obj_put]
    by_cases e : y = x
    · subst e; simp
    · rw [if_neg e, if_neg (fun e' => e (Option.some.inj e').symm)]
theorem nx_kill (h : H) (p : Option BP) : nx (kill h p) = nx h := by cases p with
  | none => rfl
  | some x => exact nx_put h x none
/-- One block of one's own is turned; the part of another that it was is forgotten. -/
theorem Rel.change {W : Bas} {h : H} (R : Rel ν W ρ h w) {x : BP} {l : List V} {p : Option BP} {b c n : Nat} (hx : obj h x = some (.c l p true)) (hr : ρ x = some (b, c, n)) {ob : O} (hob : parO ob = none) {w' : World}
    (hne : ∀ k, k ≠ b → w'.heap[k]? = w.heap[k]?) (hsz : w'.heap.size = w.heap.size) (hb : Below W.w0.heap.size W.w0 w') (ho : ObjR ν ρ w' b c n ob) :
    Rel ν W ρ (put (kill h p) x (some ob)) w' ∧ ∀ z oz c' n', obj (put (kill h p) x (some ob)) z = some oz → ρ z = some (b, c', n') → z = x := by
  have inv : ∀ y oy, obj (put (kill h p) x (some ob)) y = some oy → (y = x ∧ oy = ob) ∨ (y ≠ x ∧ p ≠ some y ∧ obj h y = some oy) := by
    intro y oy e
    rw [obj_put, obj_kill] at e
    split at e
    · rename_i hy; exact .inl ⟨hy, (Option.some.inj e).symm⟩
    · rename_i hy
      split at e
      · cases e
      · rename_i hp; exact .inr ⟨hy, hp, e⟩
  have only : ∀ z oz c' n', z ≠ x → p ≠ some z → obj h z = some oz → ρ z = some (b, c', n') → False := by
    intro z oz c' n' hz hp e e'
    rcases R.sep x z _ oz hx e (fun e => hz e.symm) b c n c' n' hr e' with h1 | h1
    · exact hp h1
    · have := R.par z oz x e h1 _ hx; cases this
  refine ⟨⟨hb, ?_, ?_, ?_, ?_, ?_, ?_, ?_, R.base, fun q hq => ⟨(hne q.1 (fun e5 => (R.ob x _ hx b c n hr).not_odd (e5 ▸ (R.kp q hq).1) (R.kp q hq).2)).trans (R.kp q hq).1, (R.kp q hq).2⟩⟩, ?_⟩
  · intro y oy e b' c' n' e'
    rcases inv y oy e with ⟨rfl, rfl⟩ | ⟨hy, hp, e⟩
    · rw [hr] at e'
      obtain ⟨rfl, rfl, rfl⟩ : b = b' ∧ c = c' ∧ n = n' := by simpa using e'
      exact ho
    · refine (R.ob y oy e b' c' n' e').block (hne b' (fun hbb => ?_))
      subst hbb
      exact only y oy c' n' hy hp e e'
  · intro y b' c' n' e'
    rw [nx_put, nx_kill, hsz]; exact R.lt y b' c' n' e'
  · intro y oy e
    rw [nx_put, nx_kill]
    rcases inv y oy e with ⟨rfl, rfl⟩ | ⟨hy, hp, e⟩
    · exact R.dom _ _ hx
    · exact R.dom y oy e
  · intro y oy e hw b' c' n' e'
    rcases inv y oy e with ⟨rfl, rfl⟩ | ⟨hy, hp, e⟩
    · exact R.mine _ _ hx rfl b' c' n' e'
    · exact R.mine y oy e hw b' c' n' e'
  · intro y z oy oz ey ez hyz b' c1 n1 c2 n2 e1 e2
    rcases inv y oy ey with ⟨g1, g2⟩ | ⟨hy, hp, ky⟩ <;> rcases inv z oz ez with ⟨g1', g2'⟩ | ⟨hz, hp', kz⟩
    · exact absurd (g1.trans g1'.symm) hyz
    · subst g1
      rw [hr] at e1
      obtain ⟨rfl, rfl, rfl⟩ : b = b' ∧ c = c1 ∧ n = n1 := by simpa using e1
      exact (only z oz c2 n2 hz hp' kz e2).elim
    · subst g1'
      rw [hr] at e2
      obtain ⟨rfl, rfl, rfl⟩ : b = b' ∧ c = c2 ∧ n = n2 := by simpa using e2
      exact (only y oy c1 n1 hy hp ky e1).elim
    · exact R.sep y z oy oz ky kz hyz b' c1 n1 c2 n2 e1 e2
  · intro y oy z ey hpz oz ez
    rcases inv y oy ey with ⟨g1, g2⟩ | ⟨hy, hp, ky⟩
    · rw [g2, hob] at hpz; cases hpz
    · rcases inv z oz ez with ⟨g1, g2⟩ | ⟨hz, hp', kz⟩
      · subst g1; have := R.par y oy z ky hpz _ hx; cases this
      · exact R.par y oy z ky hpz oz kz
  · intro y oy z ey hpz
    rw [nx_put, nx_kill]
    rcases inv y oy ey with ⟨rfl, rfl⟩ | ⟨hy, hp, ey⟩
    · rw [hob] at hpz; cases hpz
    · exact R.parlt y oy z ey hpz
  · intro z oz c' n' ez e'
    rcases inv z oz ez with ⟨rfl, rfl⟩ | ⟨hz, hp', ez⟩
    · rfl
    · exact (only z oz c' n' hz hp' ez e').elim
/-- One that lies nowhere yet is laid into a block that is there. -/
theorem Rel.lay {W : Bas} {h : H} (R : Rel ν W ρ h w) {y : BP} {ob : O} {b c n : Nat} (hy : obj h y = some ob) (hn : ρ y = none) (hb : b < w.heap.size) (ho : ObjR ν ρ w b c n ob) (hm : ownO ob = true → W.w0.heap.size ≤ b)
    (hs : ∀ z oz c' n', obj h z = some oz → z ≠ y → ρ z = some (b, c', n') → parO ob = some z ∨ parO oz = some y) : Rel ν W (ρ.put y (b, c, n)) h w := by
  have hle : ρ.le (ρ.put y (b, c, n)) := Pl.le_put hn
  have inv : ∀ x b' c' m, ρ.put y (b, c, n) x = some (b', c', m) → (x = y ∧ b' = b ∧ c' = c ∧ m = n) ∨ (x ≠ y ∧ ρ x = some (b', c', m)) := by
    intro x b' c' m e
    by_cases hx : x = y
    · subst hx; rw [Pl.put_same] at e; left; simp at e; exact ⟨rfl, e.1.symm, e.2.1.symm, e.2.2.symm⟩
    · rw [Pl.put_ne _ hx] at e; exact .inr ⟨hx, e⟩
  refine ⟨R.below, ?_, ?_, R.dom, ?_, ?_, R.par, R.parlt, Pl.le_trans R.base (Pl.le_put hn), R.kp⟩
  · intro x ox e b' c' m e'
    rcases inv x b' c' m e' with ⟨rfl, rfl, rfl, rfl⟩ | ⟨hx, e'⟩
    · rw [hy] at e; obtain rfl := Option.some.inj e; exact ho.mono hle
    · exact (R.ob x ox e b' c' m e').mono hle
  · intro x b' c' m e'
    rcases inv x b' c' m e' with ⟨rfl, rfl, rfl, rfl⟩ | ⟨hx, e'⟩
    · exact ⟨hb, R.dom _ _ hy⟩
    · exact R.lt x b' c' m e'
  · intro x ox e hw b' c' m e'
    rcases inv x b' c' m e' with ⟨rfl, rfl, rfl, rfl⟩ | ⟨hx, e'⟩
    · rw [hy] at e; obtain rfl := Option.some.inj e; exact hm hw
    · exact R.mine x ox e hw b' c' m e'
  · intro x z ox oz ex ez hxz b' c1 n1 c2 n2 e1 e2
    rcases inv x b' c1 n1 e1 with ⟨g1, g2, g3, g4⟩ | ⟨hx, k1⟩ <;> rcases inv z b' c2 n2 e2 with ⟨g1', g2', g3', g4'⟩ | ⟨hz, k2⟩
    · exact absurd (g1.trans g1'.symm) hxz
    · subst g1; subst g2
      rw [hy] at ex; obtain rfl := Option.some.inj ex
      exact hs z oz c2 n2 ez hz k2
    · subst g1'; subst g2'
      rw [hy] at ez; obtain rfl := Option.some.inj ez
      exact (hs x ox c1 n1 ex hx k1).symm
    · exact R.sep x z ox oz ex ez hxz b' c1 n1 c2 n2 k1 k2
def After (ν : Nat → Int) (W : Bas) (h : H) (ρ : Pl) (h' : H) (v : V) (u : Value) (w' : World) : Prop := ∃ ρ', Rel ν W ρ' h' w' ∧ VR ν ρ' v u ∧ Ext h ρ h' ρ'
def Does (P : Program) (o : Oper) (a : Act) (w : World) (R : Value → World → Prop) : Prop := ∀ (next : Act → World → Prop) (Q : Exit → Act → World → Prop), (∀ u w', R u w' → next (a.put o.dst u) w') → o.wp P a w next Q
theorem Does.value {u : Value} {w' : World} {R : Value → World → Prop} (h : (execOp a.eval o).run P w = .ok (.value u) w') (hR : R u w') : Does P o a w R := fun next Q k => by
  unfold Oper.wp; rw [h]; exact k u w' hR
theorem Does.skip {w' : World} {R : Value → World → Prop} (h : (execOp a.eval o).run P w = .ok .skip w') (hR : R undef w') : Does P o a w R := fun next Q k => by
  unfold Oper.wp; rw [h]; exact k undef w' hR
theorem ext_put {h : H} {x : BP} {ob : Option O} {p : Option BP} : Ext h ρ (put (kill h p) x ob) ρ := ⟨Pl.le_refl ρ, fun _ e _ => e, by rw [nx_put, nx_kill]; exact Nat.le_refl _⟩
theorem allOne_get : ∀ {l : List V}, allOne l = true → ∀ v ∈ l, oneV v = true
  | [], _, v, h => by cases h
  | a :: l, h, v, hv => by
    obtain ⟨h1, h2⟩ := bcase_ne (show bcase (oneV a) false (allOne l) = true from h) (by simp)
    rcases List.mem_cons.1 hv with rfl | hv
    · exact h1
    · exact allOne_get h2 v hv
theorem VRs.one {l : List V} {us : List Value} (hr : VRs ν ρ l us) (h1 : allOne l = true) : ∀ u ∈ us, u.oneCell' = true := by
  intro u hu
  obtain ⟨i, hi⟩ := List.getElem?_of_mem hu
  have hlt : i < l.length := by rw [← hr.length]; exact (List.getElem?_eq_some_iff.1 hi).1
  obtain ⟨u', hu', hr'⟩ := hr.get (List.getElem?_eq_getElem hlt)
  rw [hi] at hu'; obtain rfl := Option.some.inj hu'
  exact hr'.one (allOne_get h1 _ (List.getElem_mem hlt))
theorem e_store {h : H} {W : Bas} (R : Rel ν W ρ h w) (hT : TTok P tt) {t n : Nat} {x y : Operand} {p q : Src} {h' : H} (ho : o.op = .store t x y) (hs : sizeT tt t = some n) (hx : VR ν ρ (sv p) (a.eval x)) (hy : VR ν ρ (sv q) (a.eval y))
    (hv : onP (sv p) (R1.bad 33) (fun x off => (fun vs => bcase (lenIs n vs) (R1.bad 34) (write h x off vs)) (cellsV (sv q))) = .ok v h') : Does P o a w (After ν W h ρ h' v) := by
  obtain ⟨z, off, e1, v1⟩ := onP_ne hv (by simp)
  obtain ⟨hn, v2⟩ := bcase_ne v1 (by simp)
  obtain ⟨l, par, wn, e2, v3⟩ := onC_ne (show onC (obj h z) (R1.bad 21) _ = _ from v2) (by simp)
  obtain ⟨hwn, v4⟩ := bcase_ne v3 (by simp)
  obtain ⟨h1, v5⟩ := bcase_ne v4 (by simp)
  obtain ⟨h2, v6⟩ := bcase_ne v5 (by simp)
  subst hwn
  injection v6 with v7 v8; subst v7; subst v8
  have hn' := lenIs_iff.1 hn
  have hfit := Nat.le_of_ble_eq_true h2
  rw [len_eq, len_eq] at hfit
  have hfit' : off + (cellsV (sv q)).length ≤ l.length := hfit
  rw [e1] at hx; simp only [VR] at hx
  obtain ⟨b, c, m, e3, hx⟩ := hx
  obtain ⟨cs, e, fz, hb, hsz, hfz, hl, hg⟩ := R.ob z _ e2 b c m e3
  have hnx : sv q ≠ .x := by
    intro e; rw [e] at h1; cases h1
  have hcs := cellsV_sound hnx hy
  have hul : (a.eval y).cells.toList.length = n := by rw [hcs.length, hn']
  have hone := hcs.one h1
  have hcell : ∀ j, j < (a.eval y).cells.toList.length → (w.cell? ⟨b, c + off + 0 + j, none⟩).isSome = true := fun j hj => by
    have : c + off + j < cs.size := by omega
    simp [World.cell?, hb, this]
  have hfro : ∀ j, j < (a.eval y).cells.toList.length → w.frozen? ⟨b, c + off + 0 + j, none⟩ = false := fun j hj => by
    have := hfz (c + off + j) (by omega)
    simp only [World.frozen?, hb, Nat.add_zero]
    rw [Bool.and_eq_false_iff]
    simp only [decide_eq_false_iff_not]
    omega
  have hrun := run_storeCells_cells (P := P) b (c + off) (a.eval y).cells.toList 0 w hcell hfro hone
  refine Does.skip (w' := w.setCells b (c + off) (a.eval y).cells.toList) ?_ ⟨ρ, ?_, undef_iff.2 rfl, ext_put⟩
  · have hcz : (a.eval y).cells.size = n := by simpa using hul
    have hst : (storeVar t ⟨b, c + off, none⟩ (a.eval y)).run P w = .ok () (w.setCells b (c + off) (a.eval y).cells.toList) := by
      simp only [storeVar, Sem.run_bind, size_ok hT hs, Result.andThen_ok]
      rw [if_neg (by simpa using hcz)]
      simpa using hrun
    simp [execOp, ho, hx, Instr.storeAt, Instr.sureAddr, hst]
  · obtain ⟨cs', k1, k2, k3⟩ := setCells_at b (a.eval y).cells.toList (c + off) w cs e fz hb
    refine (R.change (ob := .c (Ev.splice off (cellsV (sv q)) l) none true) e2 e3 rfl (fun k hk => setCells_ne b _ _ w k hk) (setCells_size b _ _ w) (setCells_below (R.mine z _ e2 rfl b c m e3) _ _ R.below) ⟨cs', e, fz, k1, by omega, fun i hi => hfz i (by omega), by rw [splice_len hfit']; exact hl, fun i v' hv' => ?_⟩).1
    rw [splice_get hfit'] at hv'
    rw [k3]
    split at hv'
    · rename_i hi
      obtain ⟨u, hu, hr⟩ := hcs.get hv'
      rw [if_pos (by omega), show c + i - (c + off) = i - off by omega]
      exact ⟨u, hu, hr⟩
    · rename_i hi
      have hil := (List.getElem?_eq_some_iff.1 hv').1
      rw [if_neg (by omega)]
      exact hg i v' hv'
theorem EsR.push {es : List (V × V)} {ms : List MapEntry} {k v : V} {m : MapEntry} (h : EsR ν ρ es ms) (hk : VR ν ρ k m.key) (hv : VR ν ρ v m.val) : EsR ν ρ (es ++ [(k, v)]) (ms ++ [m]) := by
  induction es generalizing ms with
  | nil => cases ms with
    | nil => exact ⟨hk, hv, trivial⟩
    | cons _ _ => exact h.elim
  | cons e es ih => cases ms with
    | nil => exact h.elim
    | cons m' ms => exact ⟨h.1, h.2.1, ih h.2.2⟩
/-- a key's place, as the model's search tells it -/
def FoundAt (P : Program) (t : TypeId) (kt : TypeDesc) (ks : Nat) (u : Value) (ms : List MapEntry) (i : Nat) (w : World) (x : Option (Nat × Value)) : Prop := if ks ≤ 1 then Instr.findNow kt u ms i = some x else (Instr.findAsking t u ms i).run P w = .ok x w
theorem upd_sound (hT : TTok P tt) (hp : PathOk ν path) {ks : Nat} {t : TypeId} {kt : TypeDesc} (hkt : KeyT P tt t kt ks) {k v : V} {u uv : Value} (hk : VR ν ρ k u) (hv : VR ν ρ v uv) : ∀ {es : List (V × V)} {ms : List MapEntry} {r : List (V × V)} {i : Nat}, EsR ν ρ es ms → upd ks path k v es = some r →
    (FoundAt P t kt ks u ms i w none ∧ r = es ++ [(k, v)]) ∨ ∃ j y m, FoundAt P t kt ks u ms i w (some (i + j, y)) ∧ ms[j]? = some m ∧ Instr.sameBits 10000 m.key u = true ∧ EsR ν ρ r (ms.modify j fun e => { e with key := u, val := uv })
  | [], [], r, i, _, h => by
    obtain rfl := Option.some.inj (show some [(k, v)] = some r from h)
    refine .inl ⟨?_, rfl⟩
    unfold FoundAt; split
    · rfl
    · simp [Instr.findAsking]
  | [], _ :: _, _, _, h, _ => h.elim
  | _ :: _, [], _, _, h, _ => h.elim
  | e :: es, m :: ms, r, i, hr, h => by
    obtain ⟨b, hb, h1⟩ := ocase_ne (show ocase (keyEq ks path k e.1) none (fun b => bcase b (ocase (upd ks path k v es) none (fun r => some (e :: r))) (some ((k, v) :: es))) = some r from h) (by simp)
    have hn := keyEq_sound (w := w) hT hp hkt hk hr.1 hb
    cases b with
    | true =>
      obtain rfl := Option.some.inj h1
      refine .inr ⟨0, m.val, m, ?_, rfl, hn.2 rfl, ⟨hk, hv, hr.2.2⟩⟩
      have hn1 := hn.1
      unfold FoundAt
      split at hn1 <;> rename_i hc
      · rw [if_pos hc]; simp [Instr.findNow, hn1]
      · rw [if_neg hc]; simp [Instr.findAsking, hn1.2]
    | false =>
      obtain ⟨r', h2, h3⟩ := ocase_ne (show ocase (upd ks path k v es) none (fun r => some (e :: r)) = some r from h1) (by simp)
      obtain rfl := Option.some.inj h3
      have hn1 := hn.1
      have step : ∀ x, FoundAt P t kt ks u ms (i + 1) w x → FoundAt P t kt ks u (m :: ms) i w x := by
        intro x hx
        unfold FoundAt at hx ⊢
        split at hn1 <;> rename_i hc
        · rw [if_pos hc] at hx ⊢; simp [Instr.findNow, hn1, hx]
        · rw [if_neg hc] at hx ⊢; simp [Instr.findAsking, hn1.2, hx]
      rcases upd_sound hT hp hkt hk hv (i := i + 1) hr.2.2 h2 with ⟨g1, rfl⟩ | ⟨j, y, m', g1, g2, g3, g4⟩
      · exact .inl ⟨step _ g1, rfl⟩
      · exact .inr ⟨j + 1, y, m', by have := step _ g1; rwa [show i + 1 + j = i + (j + 1) by omega] at this, by simpa using g2, g3, ⟨hr.1, hr.2.1, g4⟩⟩
theorem FoundAt.key (hT : TTok P tt) (hp : PathOk ν path) {ks : Nat} {t : TypeId} {kt : TypeDesc} (hkt : KeyT P tt t kt ks) {k : V} {u : Value} (hk : VR ν ρ k u) {es : List (V × V)} {ms : List MapEntry} {x : Option (Nat × Value)} (hr : EsR ν ρ es ms) (hq : ∀ e, es[0]? = some e → ∃ b, keyEq ks path k e.1 = some b) (h : FoundAt P t kt ks u ms 0 w x) :
    (Instr.findKey t u ms).run P w = .ok x w := by
  unfold FoundAt at h
  by_cases h1 : ks ≤ 1
  · rw [if_pos h1] at h
    simp [Instr.findKey, run_underlying hkt.1, h]
  · rw [if_neg h1] at h
    cases ms with
    | nil => simpa [Instr.findKey, run_underlying hkt.1, Instr.findNow, Instr.findAsking] using h
    | cons m ms =>
      cases es with
      | nil => exact hr.elim
      | cons e es =>
        obtain ⟨b, hb⟩ := hq e rfl
        have hn := (keyEq_sound (w := w) hT hp hkt hk hr.1 hb).1
        rw [if_neg h1] at hn
        simp [Instr.findKey, run_underlying hkt.1, Instr.findNow, hn.1, h]
theorem upd_first {ks : Nat} {k v : V} {es r : List (V × V)} (h : upd ks path k v es = some r) : ∀ e, es[0]? = some e → ∃ b, keyEq ks path k e.1 = some b := by
  intro e he
  cases es with
  | nil => cases he
  | cons e' es =>
    obtain rfl := Option.some.inj (show some e' = some e from he)
    obtain ⟨b, hb, _⟩ := ocase_ne (show ocase (keyEq ks path k e'.1) none (fun b => bcase b (ocase (upd ks path k v es) none (fun r => some (e' :: r))) (some ((k, v) :: es))) = some r from h) (by simp)
    exact ⟨b, hb⟩
theorem e_mapup {h : H} {W : Bas} (R : Rel ν W ρ h w) (he : EnOk ν en) (hT : TTok P tt) {t kt et : Nat} {m x y : Operand} {p q r : Src} {ks : Nat} {h' : H} (ho : o.op = .mapUpdate t m x y ∨ o.op = .insert t m x y) (ht : und tt t = some (.map kt et)) (hks : keyOk tt kt = some ks)
    (hm : VR ν ρ (sv p) (a.eval m)) (hx : VR ν ρ (sv q) (a.eval x)) (hy : VR ν ρ (sv r) (a.eval y)) (hv : mapup ks en.path h (sv p) (sv q) (sv r) = .ok v h') : Does P o a w (After ν W h ρ h' v) := by
  obtain ⟨kd, hkt⟩ := keyOk_some hT hks
  obtain ⟨hik, v1⟩ := bcase_ne hv (by simp)
  obtain ⟨z, e1, v2⟩ := onM_ne v1 (by simp)
  obtain ⟨es, e2, v3⟩ := onMp_ne v2 (by simp)
  obtain ⟨rr, e4, v4⟩ := ocase_ne v3 (by simp)
  injection v4 with v5 v6; subst v5; subst v6
  rw [e1] at hm; simp only [VR] at hm
  obtain ⟨b, n, e3, hm⟩ := hm
  obtain ⟨ms, ck, hb, hes⟩ := R.ob z _ e2 b 0 n e3
  have hck := isKey_sound (w := w) hT hkt hik hx false
  have hblt := (R.lt z b 0 n e3).1
  have fin : ∀ ob : Obj, (∃ ms' ck', ob = .map ms' ck' ∧ EsR ν ρ rr ms'.toList) → (Instr.mapUpdate t (a.eval m) (a.eval x) (a.eval y)).run P w = .ok () { w with heap := w.heap.setIfInBounds b ob } → Does P o a w (After ν W h ρ (put h z (some (.m rr))) (.u [])) := by
    rintro ob ⟨ms', ck', rfl, hes'⟩ hrun
    refine Does.skip (w' := { w with heap := w.heap.setIfInBounds b (.map ms' ck') }) ?_ ⟨ρ, ?_, undef_iff.2 rfl, ?_⟩
    · rcases ho with ho | ho <;> simp [execOp, ho, hrun]
    · have hnb : ∀ k, k ≠ b → (w.heap.setIfInBounds b (.map ms' ck'))[k]? = w.heap[k]? := fun k hk => by
        rw [Array.getElem?_setIfInBounds, if_neg (fun e => hk e.symm)]
      have hWb := R.mine z _ e2 rfl b 0 n e3
      have inv : ∀ y oy, obj (put h z (some (.m rr))) y = some oy → (y = z ∧ oy = .m rr) ∨ (y ≠ z ∧ obj h y = some oy) := by
        intro y oy e
        rw [obj_put] at e
        split at e
        · rename_i hy; exact .inl ⟨hy, (Option.some.inj e).symm⟩
        · rename_i hy; exact .inr ⟨hy, e⟩
      have only : ∀ y oy c' n', y ≠ z → obj h y = some oy → ρ y = some (b, c', n') → False := by
        intro y oy c' n' hy e e'
        rcases R.sep z y _ oy e2 e (fun e => hy e.symm) b 0 n c' n' e3 e' with h1 | h1
        · cases h1
        · have := R.par y oy z e h1 _ e2; cases this
      refine ⟨?_, ?_, ?_, ?_, ?_, ?_, ?_, ?_, R.base, fun q hq => ⟨(hnb q.1 (fun e5 => (R.ob z _ e2 b 0 n e3).not_odd (e5 ▸ (R.kp q hq).1) (R.kp q hq).2)).trans (R.kp q hq).1, (R.kp q hq).2⟩⟩
      · exact R.below.trans ⟨rfl, rfl, rfl, by simp, fun k hk => hnb k (by omega)⟩
      · intro y oy e b' c' n' e'
        rcases inv y oy e with ⟨rfl, rfl⟩ | ⟨hy, e⟩
        · rw [e3] at e'
          obtain ⟨rfl, rfl, rfl⟩ : b = b' ∧ 0 = c' ∧ n = n' := by simpa using e'
          exact ⟨ms', ck', by simp [Array.getElem?_setIfInBounds, hblt], hes'⟩
        · refine (R.ob y oy e b' c' n' e').block (hnb b' (fun hbb => ?_))
          subst hbb; exact only y oy c' n' hy e e'
      · intro y b' c' n' e'; rw [nx_put]; simpa using R.lt y b' c' n' e'
      · intro y oy e; rw [nx_put]
        rcases inv y oy e with ⟨rfl, rfl⟩ | ⟨hy, e⟩
        · exact R.dom _ _ e2
        · exact R.dom y oy e
      · intro y oy e hw b' c' n' e'
        rcases inv y oy e with ⟨rfl, rfl⟩ | ⟨hy, e⟩
        · exact R.mine _ _ e2 rfl b' c' n' e'
        · exact R.mine y oy e hw b' c' n' e'
      · intro y z' oy oz ey ez hyz b' c1 n1 c2 n2 f1 e2'
        rcases inv y oy ey with ⟨g1, g2⟩ | ⟨hy, ky⟩ <;> rcases inv z' oz ez with ⟨g1', g2'⟩ | ⟨hz, kz⟩
        · exact absurd (g1.trans g1'.symm) hyz
        · subst g1
          rw [e3] at f1
          obtain ⟨rfl, rfl, rfl⟩ : b = b' ∧ 0 = c1 ∧ n = n1 := by simpa using f1
          exact (only z' oz c2 n2 hz kz e2').elim
        · subst g1'
          rw [e3] at e2'
          obtain ⟨rfl, rfl, rfl⟩ : b = b' ∧ 0 = c2 ∧ n = n2 := by simpa using e2'
          exact (only y oy c1 n1 hy ky f1).elim
        · exact R.sep y z' oy oz ky kz hyz b' c1 n1 c2 n2 f1 e2'
      · intro y oy z' ey hpz oz ez
        rcases inv y oy ey with ⟨g1, g2⟩ | ⟨hy, ky⟩
        · rw [g2] at hpz; cases hpz
        · rcases inv z' oz ez with ⟨g1, g2⟩ | ⟨hz, kz⟩
          · subst g1; have := R.par y oy z' ky hpz _ e2; cases this
          · exact R.par y oy z' ky hpz oz kz
      · intro y oy z' ey hpz; rw [nx_put]
        rcases inv y oy ey with ⟨g1, g2⟩ | ⟨hy, ky⟩
        · rw [g2] at hpz; cases hpz
        · exact R.parlt y oy z' ky hpz
    · exact ⟨Pl.le_refl ρ, fun _ e _ => e, by rw [nx_put]; exact Nat.le_refl _⟩
  rcases upd_sound (w := w) hT he.path hkt hx hy (i := 0) hes e4 with ⟨g1, rfl⟩ | ⟨j, yv, mm, g1, g2, g3, g4⟩
  · refine fin (.map (ms.push { key := a.eval x, val := a.eval y, born := ck }) (ck + 1)) ⟨_, _, rfl, by rw [Array.toList_push]; exact hes.push hx hy⟩ ?_
    have g1' := g1.key hT he.path hkt hx hes (upd_first e4)
    simp [Instr.mapUpdate, hm, run_underlying (und_ok hT ht), getObj, setObj, Sem.run, hb, hck, g1']
  · rw [Nat.zero_add] at g1
    have g1' := g1.key hT he.path hkt hx hes (upd_first e4)
    have g2' : ms[j]? = some mm := by simpa using g2
    have hst : (Instr.keyThatStays mm.key (a.eval x)).run P w = .ok (a.eval x) w := by
      unfold Instr.keyThatStays; rw [if_pos g3]; rfl
    refine fin (.map (ms.modify j fun e => { e with key := a.eval x, val := a.eval y }) ck) ⟨_, _, rfl, by rw [Array.toList_modify]; exact g4⟩ ?_
    simp [Instr.mapUpdate, hm, run_underlying (und_ok hT ht), getObj, setObj, Sem.run, hb, hck, g1', g2', hst]
end Ev
end Go.Proofs.Ytlajbngfdbnoiaa
