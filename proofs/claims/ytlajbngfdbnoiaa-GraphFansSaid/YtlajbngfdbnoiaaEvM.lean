/- How the small machine's memory stands to the model's; what reads. -/
import Derived.Test.YtlajbngfdbnoiaaEvW
import Derived.Laws.BytesString
import Derived.Laws.IdiomStrings
import Derived.Laws.IdiomCopy
import Derived.Laws.MakeOwn
import Derived.Laws.AppendOwn
import Derived.Laws.StructEq
namespace Go.Proofs.Ytlajbngfdbnoiaa
set_option linter.unusedSimpArgs false
set_option linter.unusedVariables false
set_option linter.constructorNameAsVariable false
open Go Go.RowKit
namespace Ev
variable {path : List (Cd × Bool)}
variable {P : Program} {tt : TT} {ν : Nat → Int} {ρ : Pl} {ds : List (Option Tmp)} {sv : Src → V} {a : Act} {en : En} {w : World} {o : Oper} {v : V}
def EsR (ν : Nat → Int) (ρ : Pl) : List (V × V) → List MapEntry → Prop
  | [], [] => True
  | e :: es, m :: ms => VR ν ρ e.1 m.key ∧ VR ν ρ e.2 m.val ∧ EsR ν ρ es ms
  | _, _ => False
def ObjR (ν : Nat → Int) (ρ : Pl) (w : World) (b c n : Nat) : O → Prop
  | .c l _ _ => ∃ cs e fz, w.heap[b]? = some (.cells cs e fz) ∧ cs.size = c + n ∧ (∀ i, i < cs.size → ¬ (fz.1 ≤ i ∧ i < fz.2)) ∧ l.length ≤ n ∧ ∀ (i : Nat) (v : V), l[i]? = some v → ∃ u, cs[c + i]? = some u ∧ VR ν ρ v u
  | .m es => ∃ ms ck, w.heap[b]? = some (.map ms ck) ∧ EsR ν ρ es ms.toList
def parO : O → Option BP
  | .c _ p _ => p
  | .m _ => none
def ownO : O → Bool
  | .c _ _ w => w
  | .m _ => true
/-- The world at first, and where the listed variables lie. -/
structure Bas where
  w0 : World
  pl : Pl
  kp : List (Nat × Obj)
def Bas.of (w : World) (pl : Pl) : Bas := ⟨w, pl, []⟩
/-- what no operation here turns -/
def oddO : Obj → Bool
  | .loop _ => true
  | .deferred _ => true
  | _ => false
/-- The memory stands as it should; W: the world at first, of which nothing has turned. -/
structure Rel (ν : Nat → Int) (W : Bas) (ρ : Pl) (h : H) (w : World) : Prop where
  below : Below W.w0.heap.size W.w0 w
  ob : ∀ x o, obj h x = some o → ∀ b c n, ρ x = some (b, c, n) → ObjR ν ρ w b c n o
  lt : ∀ x b c n, ρ x = some (b, c, n) → b < w.heap.size ∧ bpN x < bpN (nx h)
  dom : ∀ x o, obj h x = some o → bpN x < bpN (nx h)
  mine : ∀ x o, obj h x = some o → ownO o = true → ∀ b c n, ρ x = some (b, c, n) → W.w0.heap.size ≤ b
  sep : ∀ x y ox oy, obj h x = some ox → obj h y = some oy → x ≠ y → ∀ b c n c' n', ρ x = some (b, c, n) → ρ y = some (b, c', n') → parO ox = some y ∨ parO oy = some x
  par : ∀ x o y, obj h x = some o → parO o = some y → ∀ oy, obj h y = some oy → ownO oy = false
  parlt : ∀ x o y, obj h x = some o → parO o = some y → bpN y < bpN (nx h)
  base : W.pl.le ρ
  kp : ∀ p ∈ W.kp, w.heap[p.1]? = some p.2 ∧ oddO p.2 = true
theorem ObjR.not_odd {b c n : Nat} {ob : O} (h : ObjR ν ρ w b c n ob) {o : Obj} (e : w.heap[b]? = some o) (ho : oddO o = true) : False := by
  cases ob with
  | c l p wn => obtain ⟨cs, e0, fz, hb, _⟩ := h; rw [hb] at e; obtain rfl := Option.some.inj e; cases ho
  | m es => obtain ⟨ms, ck, hb, _⟩ := h; rw [hb] at e; obtain rfl := Option.some.inj e; cases ho
theorem onC_ne {β : Type} {x : Option O} {g r : β} {f : List V → Option BP → Bool → β} (h : onC x g f = r) (hg : g ≠ r) : ∃ l p w, x = some (.c l p w) ∧ f l p w = r := by
  obtain ⟨o, rfl, h⟩ := ocase_ne h hg
  cases o with
  | c l p w => exact ⟨l, p, w, rfl, h⟩
  | m es => exact absurd h hg
theorem onMp_ne {β : Type} {x : Option O} {g r : β} {f : List (V × V) → β} (h : onMp x g f = r) (hg : g ≠ r) : ∃ es, x = some (.m es) ∧ f es = r := by
  obtain ⟨o, rfl, h⟩ := ocase_ne h hg
  cases o with
  | c l p w => exact absurd h hg
  | m es => exact ⟨es, rfl, h⟩
theorem cell_of {b c i : Nat} {cs : Array Value} {e : TypeId} {fz : Nat × Nat} (h : w.heap[b]? = some (.cells cs e fz)) : w.cell? ⟨b, c + i, none⟩ = cs[c + i]? := by simp [World.cell?, h]
/-- Cells of a place in a row. -/
theorem cellsAt_some {h : H} {W : Bas} (R : Rel ν W ρ h w) {x : BP} {off n b c m : Nat} {l : List V} (hx : ρ x = some (b, c, m)) (hv : cellsAt h x off n = some l) :
    l.length = n ∧ ∃ us : List Value, VRs ν ρ l us ∧ ∀ j u, us[j]? = some u → w.cell? ⟨b, c + off + j, none⟩ = some u := by
  obtain ⟨l0, p, wn, ho, hv⟩ := onC_ne hv (by simp)
  obtain ⟨hn, hv⟩ := bcase_ne hv (by simp)
  obtain rfl := Option.some.inj hv
  have hn' := lenIs_iff.1 hn
  obtain ⟨cs, e, fz, hb, hsz, _, hl, hg⟩ := R.ob x _ ho b c m hx
  refine ⟨hn', (cs.toList.drop (c + off)).take n, ?_, ?_⟩
  · rw [take_eq, drop_eq] at hn' ⊢
    simp only [List.length_take, List.length_drop] at hn'
    refine VRs.of_get ?_ (fun i v e => ?_)
    · simp only [List.length_take, List.length_drop, Array.length_toList]; omega
    · rw [List.getElem?_take] at e ⊢
      split at e
      · rename_i hi
        rw [if_pos hi, List.getElem?_drop] at *
        obtain ⟨u, hu, hr⟩ := hg _ _ e
        exact ⟨u, by rw [Array.getElem?_toList, ← hu, Nat.add_assoc], hr⟩
      · cases e
  · intro j u hu
    rw [List.getElem?_take] at hu
    split at hu
    · rw [List.getElem?_drop, Array.getElem?_toList] at hu
      simp [World.cell?, hb, hu]
    · cases hu
theorem r_load1 {h : H} {W : Bas} (R : Rel ν W ρ h w) (hT : TTok P tt) {t : Nat} {x : Operand} {s : Src} (ho : o.op = .load t x) (ht : aggT tt t = some false) (hx : VR ν ρ (sv s) (a.eval x))
    (hv : onP (sv s) none (fun x off => onC (obj h x) none (fun l _ _ => nth l off)) = some v) : Gives P ν ρ a o w v := by
  obtain ⟨y, off, e1, hv⟩ := onP_ne hv (by simp)
  obtain ⟨l, p, wn, e2, hv⟩ := onC_ne hv (by simp)
  rw [nth_eq] at hv
  rw [e1] at hx; simp only [VR] at hx
  obtain ⟨b, c, n, e3, hx⟩ := hx
  obtain ⟨cs, e, fz, hb, hsz, _, hl, hg⟩ := R.ob y _ e2 b c n e3
  obtain ⟨u, hu, hr⟩ := hg off v hv
  have hc : w.cell? ⟨b, c + off, none⟩ = some u := by rw [cell_of hb, hu]
  exact ⟨u, by simp [execOp, ho, hx, Instr.loadAt, Instr.sureAddr, loadVar, agg_ok hT ht, hc], hr⟩
theorem r_loadn {h : H} {W : Bas} (R : Rel ν W ρ h w) (hT : TTok P tt) {t n : Nat} {x : Operand} {s : Src} (ho : o.op = .load t x) (ht : aggT tt t = some true) (hs : sizeT tt t = some n) (hx : VR ν ρ (sv s) (a.eval x))
    (hv : onP (sv s) none (fun x off => ocase (cellsAt h x off n) none (fun l => some (V.g l))) = some v) : Gives P ν ρ a o w v := by
  obtain ⟨y, off, e1, hv⟩ := onP_ne hv (by simp)
  obtain ⟨l, e2, hv⟩ := ocase_ne hv (by simp)
  obtain rfl := Option.some.inj hv
  rw [e1] at hx; simp only [VR] at hx
  obtain ⟨b, c, m, e3, hx⟩ := hx
  obtain ⟨hl, us, hr, hc⟩ := cellsAt_some R e3 e2
  have hus : us.length = n := by rw [hr.length, hl]
  have hrun := run_loadCells_list (P := P) w ⟨b, c + off, none⟩ us (fun j u hj => by rw [add_at]; exact hc j u hj)
  rw [hus] at hrun
  exact ⟨.agg us.toArray, by simp [execOp, ho, hx, Instr.loadAt, Instr.sureAddr, loadVar, agg_ok hT ht, size_ok hT hs, hrun], by simp only [VR]; exact ⟨_, rfl, by simpa using hr⟩⟩
theorem EsR.length {es : List (V × V)} {ms : List MapEntry} (h : EsR ν ρ es ms) : ms.length = es.length := by
  induction es generalizing ms with
  | nil => cases ms with
    | nil => rfl
    | cons m ms => exact h.elim
  | cons e es ih => cases ms with
    | nil => exact h.elim
    | cons m ms => simp [ih h.2.2]
theorem r_mlen {h : H} {W : Bas} (R : Rel ν W ρ h w) (hT : TTok P tt) {t kt et : Nat} {x : Operand} {s : Src} (ho : o.op = .call ⟨.builtin .len, #[x], #[t]⟩) (ht : und tt t = some (.map kt et)) (hx : VR ν ρ (sv s) (a.eval x))
    (hv : onM (sv s) (bcase (isT 15 (sv s)) none (okN 0)) (fun x => onMp (obj h x) none (fun es => okN (Ev.len es))) = some v) : Gives P ν ρ a o w v := by
  by_cases hm : ∃ y, sv s = .m y
  · obtain ⟨y, e1⟩ := hm
    rw [e1] at hv hx
    obtain ⟨es, e2, hv⟩ := onMp_ne (show onMp (obj h y) none (fun es => okN (Ev.len es)) = some v from hv) (by simp)
    rw [okN_eq, len_eq] at hv
    obtain rfl := Option.some.inj hv
    simp only [VR] at hx
    obtain ⟨b, n, e3, hx⟩ := hx
    obtain ⟨ms, ck, hb, hes⟩ := R.ob y _ e2 b 0 n e3
    refine ⟨goInt es.length, ?_, by simp only [VR, goInt, zval]⟩
    rw [run_builtin ho]
    have hsz : ms.size = es.length := by have := hes.length; simpa using this
    simp [builtin, hx, Builtin.len_, run_underlying (und_ok hT ht), getObj, Sem.run, hb, hsz]
  · have hv2 : bcase (isT 15 (sv s)) none (okN 0) = some v := by
      generalize sv s = vs at hv hm
      cases vs <;> first | exact hv | exact absurd ⟨_, rfl⟩ hm
    obtain ⟨h1, hv3⟩ := bcase_ne hv2 (by simp)
    rw [okN_eq] at hv3
    obtain rfl := Option.some.inj hv3
    rw [isT_m0 h1] at hx; simp only [VR] at hx
    refine ⟨goInt 0, ?_, by simp only [VR, goInt, zval]; rfl⟩
    rw [run_builtin ho]
    simp [builtin, hx, Builtin.len_, run_underlying (und_ok hT ht)]
/-- Structs of scalars: equal as the small machine says. -/
theorem equal_flat (hT : TTok P tt) {t : TypeId} {fs : Array Field} (hu : und tt t = some (.struct fs)) (hfl : flatT tt t = true) {x y : V} {u u' : Value} {e : Bool} (hx : VR ν ρ x u) (hy : VR ν ρ y u') (he : eqGl (codeF tt fs.toList) x y = some e) :
    (Op.equal t u u').run P w = .ok e w := by
  have hu' := und_ok hT hu
  obtain ⟨hst, hgd⟩ := hT.flat t hfl
  have hff : flatF tt fs.toList 0 = true := by unfold flatT at hfl; rw [hu] at hfl; exact hfl
  obtain ⟨l, rfl, he1⟩ := onG_ne (show onG x none (fun l => onG y none (fun m => eqSs l (codeF tt fs.toList) m)) = some e from he) (by simp)
  obtain ⟨m, rfl, he2⟩ := onG_ne he1 (by simp)
  simp only [VR] at hx hy
  obtain ⟨xs, rfl, hxs⟩ := hx
  obtain ⟨ys, rfl, hys⟩ := hy
  have hfo : P.fieldsOf t = fs := by unfold Program.fieldsOf; rw [hu']
  suffices h' : ∀ n, (Op.equalIn (n + 1 + 1) t (.agg xs) (.agg ys)).run P w = .ok e w from h' 9998
  intro n
  rw [run_equalIn_struct w (n + 1) t xs ys (by rw [hfo]; exact hu') hst, hfo]
  exact eqSs_sound hT xs ys n fs.toList 0 l m e hff (by simpa using hxs) (by simpa using hys) he2
theorem eqS_bits {c : Nat} {x y : V} {u u' : Value} (h : eqS c x y = some true) (hx : VR ν ρ x u) (hy : VR ν ρ y u') (n : Nat) : Instr.sameBits n u' u = true := by
  have hp : PathOk ν [] := fun c hc => by cases hc
  rcases bcase_or (Nat.beq c 1) (bcase (Nat.beq c 2) (bcase (Nat.beq c 3) none (onS x none (fun s => onS y none (fun t => sEq [] s t)))) (onI x none (fun k m => onI y none (fun j n => bcase (Nat.beq (kN k) (kN j)) none (cmpZ [] .eql m n))))) (onB x none (fun x => onB y none (fun y => some (bcase x (!y) y)))) with h1 | h1
  · rw [show eqS c x y = _ from h1] at h
    rcases bcase_or (Nat.beq c 2) (bcase (Nat.beq c 3) none (onS x none (fun s => onS y none (fun t => sEq [] s t)))) (onI x none (fun k m => onI y none (fun j n => bcase (Nat.beq (kN k) (kN j)) none (cmpZ [] .eql m n)))) with h2 | h2
    · rw [h2] at h
      rcases bcase_or (Nat.beq c 3) none (onS x none (fun s => onS y none (fun t => sEq [] s t))) with h3 | h3
      · rw [h3] at h; cases h
      · rw [h3] at h
        obtain ⟨s, rfl, g1⟩ := onS_ne h (by simp)
        obtain ⟨t, rfl, g2⟩ := onS_ne g1 (by simp)
        simp only [VR] at hx hy
        obtain ⟨s1, rfl, hs⟩ := hx
        obtain ⟨s2, rfl, ht⟩ := hy
        have h2 := sEq_sound hp g2 hs ht
        simp only [Instr.sameBits]; rw [beq_toListBytes, toList_eq, toList_eq]; simpa using (by simpa using h2 : s1.data.toList = s2.data.toList).symm
    · rw [h2] at h
      obtain ⟨j, z, rfl, g1⟩ := onI_ne h (by simp)
      obtain ⟨j', z', rfl, g2⟩ := onI_ne g1 (by simp)
      obtain ⟨h1, g3⟩ := bcase_ne g2 (by simp)
      obtain rfl := kN_inj (Nat.eq_of_beq_eq_true h1)
      have h2 := cmpZ_sound hp g3
      simp only [cmpI, eqI_eq] at h2
      simp only [VR] at hx hy
      subst hx; subst hy
      simp [Instr.sameBits, of_decide_eq_true h2]
  · rw [show eqS c x y = _ from h1] at h
    obtain ⟨b, rfl, h2⟩ := onB_ne h (by simp)
    obtain ⟨b', rfl, h3⟩ := onB_ne h2 (by simp)
    simp only [VR] at hx hy
    subst hx; subst hy
    cases b <;> cases b' <;> first | (simp [Instr.sameBits]; done) | (exact absurd (Option.some.inj h3) (by decide))
theorem eqSs_bits (n : Nat) : ∀ {l m : List V} {c : Nat} {us us' : List Value}, eqSs l c m = some true → VRs ν ρ l us → VRs ν ρ m us' → us'.length = us.length ∧ (us'.zip us).all (fun (x, y) => Instr.sameBits n x y) = true
  | [], m, c, us, us', h, hx, hy => by
    obtain ⟨_, h⟩ := bcase_ne (show bcase (Nat.beq c 0) none (lcase m (some true) (fun _ _ => none)) = some true from h) (by simp)
    cases m with
    | cons b m => cases h
    | nil => simp only [VRs] at hx hy; subst hx; subst hy; simp
  | a :: l, m, c, us, us', h, hx, hy => by
    obtain ⟨b, m', rfl, h⟩ := lcase_ne (show lcase m none (fun b t => ocase (eqS (Nat.mod c 4) a b) none (fun x => bcase x (some false) (eqSs l (Nat.div c 4) t))) = some true from h) (by simp)
    obtain ⟨r, hr, h⟩ := ocase_ne h (by simp)
    cases r with
    | false => cases (show some false = some true from h)
    | true =>
      simp only [VRs] at hx hy
      obtain ⟨u, us1, rfl, h1, h2⟩ := hx
      obtain ⟨u', us2, rfl, h3, h4⟩ := hy
      obtain ⟨h5, h6⟩ := eqSs_bits n (show eqSs l (Nat.div c 4) m' = some true from h) h2 h4
      exact ⟨by simp [h5], by simp only [List.zip_cons_cons, List.all_cons, eqS_bits hr h1 h3 n, Bool.true_and]; exact h6⟩
/-- a type of keys, as the small machine sees it -/
def KeyT (P : Program) (tt : TT) (t : TypeId) (kt : TypeDesc) (ks : Nat) : Prop := P.underlying t = some kt ∧ ((ks = 0 ∧ ∃ i, kt = .int i) ∨ (ks = 1 ∧ kt = .string) ∨ ∃ fs, und tt t = some (.struct fs) ∧ kt = .struct fs ∧ flatT tt t = true ∧ ks = codeF tt fs.toList + 2)
/-- Two keys of a kind. -/
theorem keyEq_sound (hT : TTok P tt) (hp : PathOk ν path) {ks : Nat} {t : TypeId} {kt : TypeDesc} (hkt : KeyT P tt t kt ks) {k e : V} {u m : Value} {b : Bool} (hk : VR ν ρ k u) (hm : VR ν ρ e m) (h : keyEq ks path k e = some b) :
    (if ks ≤ 1 then Instr.sameNow kt u m = some b else Instr.sameNow kt u m = none ∧ (Op.equal t u m).run P w = .ok b w) ∧ (b = true → Instr.sameBits 10000 m u = true) := by
  obtain ⟨hkd, ⟨rfl, i, rfl⟩ | ⟨rfl, rfl⟩ | ⟨fs, hu, rfl, hfl, rfl⟩⟩ := hkt
  · obtain ⟨j, z, rfl, g1⟩ := onI_ne (show onI k none (fun k m => onI e none (fun j n => bcase (Nat.beq (kN k) (kN j)) none (cmpZ path .eql m n))) = some b from h) (by simp)
    obtain ⟨j', z', rfl, g2⟩ := onI_ne g1 (by simp)
    obtain ⟨h1, g3⟩ := bcase_ne g2 (by simp)
    obtain rfl := kN_inj (Nat.eq_of_beq_eq_true h1)
    have h2 := cmpZ_sound hp g3
    simp only [cmpI, eqI_eq] at h2
    simp only [VR] at hk hm
    subst hk; subst hm
    refine ⟨by rw [if_pos (by omega)]; simp only [Instr.sameNow, if_true, ← h2]; congr 1, fun hb => ?_⟩
    rw [hb] at h2
    simp [Instr.sameBits, of_decide_eq_true h2]
  · obtain ⟨s, rfl, g1⟩ := onS_ne (show onS k none (fun s => onS e none (fun t => sEq path s t)) = some b from h) (by simp)
    obtain ⟨t, rfl, g2⟩ := onS_ne g1 (by simp)
    simp only [VR] at hk hm
    obtain ⟨s1, rfl, hs⟩ := hk
    obtain ⟨s2, rfl, ht⟩ := hm
    have h2 := sEq_sound hp g2 hs ht
    refine ⟨by rw [if_pos (by omega)]; simp only [Instr.sameNow]; rw [beq_toListBytes, toList_eq, toList_eq, h2], fun hb => ?_⟩
    rw [hb] at h2
    simp only [Instr.sameBits]; rw [beq_toListBytes, toList_eq, toList_eq]; simpa using (by simpa using h2 : s1.data.toList = s2.data.toList).symm
  · have h' : eqGl (codeF tt fs.toList) k e = some b := h
    refine ⟨by rw [if_neg (by omega)]; exact ⟨by simp [Instr.sameNow], equal_flat hT hu hfl hk hm h'⟩, fun hb => ?_⟩
    subst hb
    obtain ⟨l, rfl, h1⟩ := onG_ne (show onG k none (fun l => onG e none (fun m => eqSs l (codeF tt fs.toList) m)) = some true from h') (by simp)
    obtain ⟨l', rfl, h2⟩ := onG_ne h1 (by simp)
    simp only [VR] at hk hm
    obtain ⟨xs, rfl, hxs⟩ := hk
    obtain ⟨ys, rfl, hys⟩ := hm
    obtain ⟨h3, h4⟩ := eqSs_bits 9999 h2 hxs hys
    show (ys.size == xs.size && (ys.toList.zip xs.toList).all fun (x, y) => Instr.sameBits 9999 x y) = true
    rw [h4, Bool.and_true]; simpa using h3
/-- A key is found, or not, as in the small machine. -/
theorem findK_sound (hT : TTok P tt) (hp : PathOk ν path) {ks : Nat} {t : TypeId} {kt : TypeDesc} (hkt : KeyT P tt t kt ks) {k : V} {u : Value} (hk : VR ν ρ k u) : ∀ {es : List (V × V)} {ms : List MapEntry} {r : Option V} {i : Nat}, EsR ν ρ es ms → findK ks path k es = some r →
    (if ks ≤ 1 then ∃ x, Instr.findNow kt u ms i = some x ∧ ((r = none ∧ x = none) ∨ ∃ v j uv, r = some v ∧ x = some (j, uv) ∧ VR ν ρ v uv)
      else ∃ x, (Instr.findAsking t u ms i).run P w = .ok x w ∧ ((r = none ∧ x = none) ∨ ∃ v j uv, r = some v ∧ x = some (j, uv) ∧ VR ν ρ v uv))
  | [], [], r, i, _, h => by
    obtain rfl := Option.some.inj h
    split
    · exact ⟨none, rfl, .inl ⟨rfl, rfl⟩⟩
    · exact ⟨none, by simp [Instr.findAsking], .inl ⟨rfl, rfl⟩⟩
  | [], _ :: _, _, _, h, _ => h.elim
  | _ :: _, [], _, _, h, _ => h.elim
  | e :: es, m :: ms, r, i, hr, h => by
    obtain ⟨b, hb, h⟩ := ocase_ne (show ocase (keyEq ks path k e.1) none (fun b => bcase b (findK ks path k es) (some (some e.2))) = some r from h) (by simp)
    have hn := (keyEq_sound (w := w) hT hp hkt hk hr.1 hb).1
    by_cases h1 : ks ≤ 1
    · rw [if_pos h1] at hn ⊢
      cases b with
      | true =>
        obtain rfl := Option.some.inj h
        exact ⟨some (i, m.val), by simp [Instr.findNow, hn], .inr ⟨_, i, m.val, rfl, rfl, hr.2.1⟩⟩
      | false =>
        have := findK_sound hT hp hkt hk (i := i + 1) hr.2.2 h
        rw [if_pos h1] at this
        obtain ⟨x, h2, h3⟩ := this
        exact ⟨x, by simp [Instr.findNow, hn, h2], h3⟩
    · rw [if_neg h1] at hn ⊢
      cases b with
      | true =>
        obtain rfl := Option.some.inj h
        exact ⟨some (i, m.val), by simp [Instr.findAsking, hn.2], .inr ⟨_, i, m.val, rfl, rfl, hr.2.1⟩⟩
      | false =>
        have := findK_sound hT hp hkt hk (i := i + 1) hr.2.2 h
        rw [if_neg h1] at this
        obtain ⟨x, h2, h3⟩ := this
        exact ⟨x, by simp [Instr.findAsking, hn.2, h2], h3⟩
/-- the search of a map as the model does it -/
theorem findKey_sound (hT : TTok P tt) (hp : PathOk ν path) {ks : Nat} {t : TypeId} {kt : TypeDesc} (hkt : KeyT P tt t kt ks) {k : V} {u : Value} (hk : VR ν ρ k u) {es : List (V × V)} {ms : List MapEntry} {r : Option V} (hr : EsR ν ρ es ms) (h : findK ks path k es = some r) :
    ∃ x, (Instr.findKey t u ms).run P w = .ok x w ∧ ((r = none ∧ x = none) ∨ ∃ v j uv, r = some v ∧ x = some (j, uv) ∧ VR ν ρ v uv) := by
  have := findK_sound (w := w) hT hp hkt hk (i := 0) hr h
  by_cases h1 : ks ≤ 1
  · rw [if_pos h1] at this
    obtain ⟨x, h2, h3⟩ := this
    exact ⟨x, by simp [Instr.findKey, run_underlying hkt.1, h2], h3⟩
  · rw [if_neg h1] at this
    obtain ⟨x, h2, h3⟩ := this
    refine ⟨x, ?_, h3⟩
    cases ms with
    | nil => simpa [Instr.findKey, run_underlying hkt.1, Instr.findNow, Instr.findAsking] using h2
    | cons m ms =>
      cases es with
      | nil => exact hr.elim
      | cons e es =>
        obtain ⟨b, hb, _⟩ := ocase_ne (show ocase (keyEq ks path k e.1) none (fun b => bcase b (findK ks path k es) (some (some e.2))) = some r from h) (by simp)
        have hn := (keyEq_sound (w := w) hT hp hkt hk hr.1 hb).1
        rw [if_neg h1] at hn
        simp [Instr.findKey, run_underlying hkt.1, Instr.findNow, hn.1, h2]
theorem keyOk_some (hT : TTok P tt) {t : Nat} {ks : Nat} (h : keyOk tt t = some ks) : ∃ kt, KeyT P tt t kt ks := by
  unfold keyOk at h
  split at h
  · rename_i i e; obtain rfl := Option.some.inj h; exact ⟨_, und_ok hT e, .inl ⟨rfl, i, rfl⟩⟩
  · rename_i e; obtain rfl := Option.some.inj h; exact ⟨_, und_ok hT e, .inr (.inl ⟨rfl, rfl⟩)⟩
  · rename_i fs e
    cases hf : flatT tt t with
    | false => rw [hf] at h; cases h
    | true =>
      rw [hf] at h
      have h' : some (2 + codeF tt fs.toList) = some ks := h
      obtain rfl := Option.some.inj h'
      exact ⟨_, und_ok hT e, .inr (.inr ⟨fs, e, rfl, hf, Nat.add_comm _ _⟩)⟩
  · cases h
theorem checkKey_fields (hT : TTok P tt) (cs : Array Value) (emp : Bool) (n : Nat) : ∀ (fs : List Field) (i : Nat), flatF tt fs i = true → (fs.length + i ≤ cs.size) → (do for f in fs do if f.name ≠ "_" then Instr.checkKey emp (n + 1) f.type (← part f.type cs f.offset) : Sem Unit).run P w = .ok () w
  | [], i, _, _ => by simp
  | f :: fs, i, hf, hl => by
    simp only [flatF, Bool.and_eq_true] at hf
    obtain ⟨⟨⟨h1, h2⟩, h3⟩, h4⟩ := hf
    have hk0 : 0 < kindT tt f.type := blt_iff.1 h3
    have h2 := Nat.eq_of_beq_eq_true h2
    have hnm : f.name ≠ "_" := by simpa using h1
    simp only [List.length_cons] at hl
    have ih := checkKey_fields hT cs emp n fs (i + 1) h4 (by omega)
    obtain ⟨ua, hua⟩ : ∃ ua, cs[f.offset]? = some ua := ⟨cs[f.offset]'(by omega), Array.getElem?_eq_getElem (by omega)⟩
    have hd : ∃ d, P.underlying f.type = some d ∧ aggT tt f.type = some false ∧ ∀ v, (Instr.checkKey emp (n + 1) f.type v).run P w = .ok () w := by
      unfold kindT at hk0
      unfold aggT
      cases hu : und tt f.type with
      | none => rw [hu] at hk0; simp at hk0
      | some d =>
        have hu' := und_ok hT hu
        rw [hu] at hk0
        cases d <;> first
          | (simp at hk0; done)
          | exact ⟨_, hu', rfl, fun v => by simp only [Instr.checkKey, Sem.run_bind, run_underlying hu', Result.andThen_ok]; rfl⟩
    obtain ⟨d, hd1, hd2, hd3⟩ := hd
    have hagg : (isAgg f.type).run P w = .ok false w := agg_ok hT hd2
    have hpa : (part f.type cs f.offset).run P w = .ok ua w := by simp [part, hagg, hua]
    simp only [List.forIn_cons] at ih ⊢
    simp only [hnm, ne_eq, not_false_eq_true, if_true, Sem.run_bind, hpa, hd3, Result.andThen_ok, Sem.run_pure] at ih ⊢
    simpa using ih
theorem digits_len : ∀ (fs : List Field) (i : Nat) (l : List V), flatF tt fs i = true → digits l (codeF tt fs) = true → fs.length ≤ l.length
  | [], _, _, _, _ => Nat.zero_le _
  | f :: fs, i, l, hf, h => by
    simp only [flatF, Bool.and_eq_true] at hf
    obtain ⟨⟨⟨h1, h2⟩, h3⟩, h4⟩ := hf
    have hk0 : 0 < kindT tt f.type := blt_iff.1 h3
    have hk4 : kindT tt f.type < 4 := by unfold kindT; split <;> omega
    cases l with
    | nil =>
      have := Nat.eq_of_beq_eq_true (show Nat.beq (codeF tt (f :: fs)) 0 = true from h)
      have h5 : kindT tt f.type + 4 * codeF tt fs = 0 := this
      omega
    | cons a l =>
      have h5 : digits l (Nat.div (codeF tt (f :: fs)) 4) = true := h
      rw [show Nat.div (codeF tt (f :: fs)) 4 = codeF tt fs by show (kindT tt f.type + 4 * codeF tt fs) / 4 = _; omega] at h5
      have := digits_len fs (i + 1) l h4 h5
      simp only [List.length_cons]; omega
theorem isKey_sound (hT : TTok P tt) {ks : Nat} {k : V} {u : Value} {kt : TypeDesc} {t : TypeId} (hkt : KeyT P tt t kt ks) (h : isKey ks k = true) (hk : VR ν ρ k u) (emp : Bool) : (Instr.checkKey emp 10000 t u).run P w = .ok () w := by
  have : ∀ n, (Instr.checkKey emp (n + 1 + 1) t u).run P w = .ok () w := by
    intro n
    obtain ⟨hu, ⟨rfl, i, rfl⟩ | ⟨rfl, rfl⟩ | ⟨fs, hut, rfl, hfl, rfl⟩⟩ := hkt
    · simp only [Instr.checkKey, Sem.run_bind, run_underlying hu, Result.andThen_ok]
      obtain ⟨j, z, rfl, _⟩ := onI_ne (show onI k false (fun _ _ => true) = true from h) (by simp)
      simp only [VR] at hk; subst hk; rfl
    · simp only [Instr.checkKey, Sem.run_bind, run_underlying hu, Result.andThen_ok]
      obtain ⟨s, rfl, _⟩ := onS_ne (show onS k false (fun _ => true) = true from h) (by simp)
      simp only [VR] at hk; obtain ⟨s1, rfl, _⟩ := hk; rfl
    · obtain ⟨l, rfl, h1⟩ := onG_ne (show onG k false (fun l => digits l (codeF tt fs.toList)) = true from h) (by simp)
      simp only [VR] at hk
      obtain ⟨cs, rfl, hcs⟩ := hk
      have hff : flatF tt fs.toList 0 = true := by unfold flatT at hfl; rw [hut] at hfl; exact hfl
      have hl := digits_len fs.toList 0 l hff h1
      have hsz : fs.toList.length + 0 ≤ cs.size := by have := hcs.length; simp at this hl ⊢; omega
      have := checkKey_fields (w := w) hT cs emp n fs.toList 0 hff hsz
      rw [Instr.checkKey]
      simp only [Sem.run_bind, run_underlying hu, Result.andThen_ok]
      simp at this ⊢
      rw [this]; rfl
  exact this 9998
theorem okV_sound {ok b : Bool} {z : V} {u : Value} (h : okV ok z b = some v) (hz : VR ν ρ z u) : VR ν ρ v (if ok then .tuple #[u, .bool b] else u) := by
  cases ok with
  | false => obtain rfl := Option.some.inj (show some z = some v from h); exact hz
  | true => obtain rfl := Option.some.inj (show some (V.u [z, V.b b]) = some v from h); simp only [VR, VRs]; exact ⟨_, rfl, _, _, rfl, hz, _, _, rfl, by simp only [VR], rfl⟩
theorem r_lookup {h : H} {W : Bas} (R : Rel ν W ρ h w) (he : EnOk ν en) (hT : TTok P tt) {t kt et : Nat} {x i : Operand} {p q : Src} {ok : Bool} {ks : Nat} {z : V} (ho : o.op = .lookup t x i ok) (ht : und tt t = some (.map kt et)) (hz : zeroV tt et = some z) (hks : keyOk tt kt = some ks)
    (hx : VR ν ρ (sv p) (a.eval x)) (hi : VR ν ρ (sv q) (a.eval i)) (hv : lookup ks en.path h z ok (sv p) (sv q) = some v) : Gives P ν ρ a o w v := by
  obtain ⟨kd, hkt⟩ := keyOk_some hT hks
  obtain ⟨hik, hv⟩ := bcase_ne hv (by simp)
  obtain ⟨zu, hzu, hzr, _⟩ := zero_ok (w := w) (ν := ν) (ρ := ρ) hT hz
  have hck := fun emp => isKey_sound (w := w) hT hkt hik hi emp
  by_cases hm : ∃ y, sv p = .m y
  · obtain ⟨y, e1⟩ := hm
    rw [e1] at hv hx
    obtain ⟨es, e2, hv⟩ := onMp_ne (show onMp (obj h y) none _ = some v from hv) (by simp)
    obtain ⟨r, hr, hv⟩ := ocase_ne hv (by simp)
    simp only [VR] at hx
    obtain ⟨b, n, e3, hx⟩ := hx
    obtain ⟨ms, ck, hb, hes⟩ := R.ob y _ e2 b 0 n e3
    obtain ⟨x0, hf, ⟨rfl, rfl⟩ | ⟨v', j, uv, rfl, rfl, hvr⟩⟩ := findKey_sound (w := w) hT he.path hkt hi hes hr
    · refine ⟨_, ?_, okV_sound hv hzr⟩
      simp [execOp, ho, hx, Instr.lookup, run_underlying (und_ok hT ht), getObj, Sem.run, hb, hck, hf, hzu]
    · refine ⟨_, ?_, okV_sound hv hvr⟩
      simp [execOp, ho, hx, Instr.lookup, run_underlying (und_ok hT ht), getObj, Sem.run, hb, hck, hf]
  · have hv2 : bcase (isT 15 (sv p)) none (okV ok z false) = some v := by
      generalize sv p = vs at hv hm
      cases vs <;> first | exact hv | exact absurd ⟨_, rfl⟩ hm
    obtain ⟨h1, hv3⟩ := bcase_ne hv2 (by simp)
    rw [isT_m0 h1] at hx; simp only [VR] at hx
    refine ⟨_, ?_, okV_sound hv3 hzr⟩
    simp [execOp, ho, hx, Instr.lookup, run_underlying (und_ok hT ht), hck, Instr.findKey, run_underlying hkt.1, Instr.findNow, hzu]
theorem byteOk_sound (hp : PathOk ν path) {z : Z} (h : byteOk path z = true) : 0 ≤ zval ν z ∧ zval ν z < 256 := by
  obtain ⟨h1, h2⟩ := bcase_ne h (by simp)
  obtain ⟨b, hb, rfl⟩ := ocase_ne h1 (by simp)
  obtain ⟨c, hc, rfl⟩ := ocase_ne h2 (by simp)
  have e1 := cmpZ_sound hp hb
  have e2 := cmpZ_sound hp hc
  simp only [cmpI, ltI_eq, zval, Bool.not_eq_true', decide_eq_false_iff_not, decide_eq_true_eq] at e1 e2
  omega
theorem bytesZ_sound (hp : PathOk ν path) : ∀ {l : List V} {zs : List Z} {us : List Value}, bytesZ path l = some zs → VRs ν ρ l us → ∃ m : List UInt8, SR ν zs m ∧ us = m.map fun b => Value.int .u8 (b.toNat : Int)
  | [], zs, us, h, hr => by
    obtain rfl := Option.some.inj (show some [] = some zs from h)
    simp only [VRs] at hr; subst hr
    exact ⟨[], trivial, rfl⟩
  | a :: l, zs, us, h, hr => by
    obtain ⟨k, z, rfl, h1⟩ := onI_ne (show onI a none (fun k z => bcase (Nat.beq (kN k) 4) none (bcase (byteOk path z) none (ocase (bytesZ path l) none (fun r => some (z :: r))))) = some zs from h) (by simp)
    obtain ⟨h2, h3⟩ := bcase_ne h1 (by simp)
    obtain ⟨h4, h5⟩ := bcase_ne h3 (by simp)
    obtain ⟨r, h6, h7⟩ := ocase_ne h5 (by simp)
    obtain rfl := Option.some.inj h7
    have hk : k = .u8 := by cases k <;> first | rfl | exact absurd (Nat.eq_of_beq_eq_true h2) (by decide)
    subst hk
    simp only [VRs, VR] at hr
    obtain ⟨u, us', rfl, rfl, hr⟩ := hr
    obtain ⟨m, hm, rfl⟩ := bytesZ_sound hp h6 hr
    obtain ⟨b1, b2⟩ := byteOk_sound hp h4
    have hb : (((UInt8.ofNat (zval ν z).toNat).toNat : Nat) : Int) = zval ν z := by
      rw [UInt8.toNat_ofNat']; omega
    exact ⟨UInt8.ofNat (zval ν z).toNat :: m, ⟨hb.symm, hm⟩, by simp only [List.map_cons, hb]⟩
/-- The cells of a slice of whatever kind. -/
theorem cellsOf_some {h : H} {W : Bas} (R : Rel ν W ρ h w) {sz : Nat} {x0 : V} {u : Value} {l : List V} (hv : cellsOf h sz x0 = some l) (hx : VR ν ρ x0 u) :
    ∃ p n cap us, u = .slice p n cap ∧ n ≤ cap ∧ l.length = n * sz ∧ VRs ν ρ l us ∧ us.length = n * sz ∧ (p = none → n = 0) ∧ ∀ q, p = some q → ∀ j v, us[j]? = some v → w.cell? (q.add j) = some v := by
  by_cases hs : ∃ y o s n, x0 = .sl y o s n
  · obtain ⟨y, off, s, n, rfl⟩ := hs
    obtain ⟨h1, h2⟩ := bcase_ne (show bcase (Nat.beq s sz) none (cellsAt h y off (Nat.mul n sz)) = some l from hv) (by simp)
    obtain rfl := Nat.eq_of_beq_eq_true h1
    simp only [VR] at hx
    obtain ⟨b, c, nn, cap, p, e3, rfl, hle, hc⟩ := hx
    obtain ⟨hl, us, hr, hcell⟩ := cellsAt_some R e3 h2
    refine ⟨some p, n, cap, us, rfl, hle, hl, hr, by rw [hr.length, hl]; rfl, fun e => (by cases e), fun q hq j v hj => ?_⟩
    obtain rfl := Option.some.inj hq
    have hj' := (List.getElem?_eq_some_iff.1 hj).1
    rw [hr.length, hl] at hj'
    have hn0 : n ≠ 0 := fun e => by subst e; simp at hj'
    obtain ⟨rfl, _⟩ := hc (by omega)
    rw [add_at]; exact hcell j v hj
  · have hv2 : onE x0 (bcase (isT 6 x0) none (some [])) (fun _ _ => some []) = some l := by
      cases x0 <;> first | exact hv | exact absurd ⟨_, _, _, _, rfl⟩ hs
    have hl : l = [] ∧ ∃ p, u = .slice p 0 0 := by
      by_cases he : ∃ y o, x0 = .e y o
      · obtain ⟨y, o, rfl⟩ := he
        simp only [VR] at hx; obtain ⟨p, hx⟩ := hx
        exact ⟨(Option.some.inj (show some [] = some l from hv2)).symm, _, hx⟩
      · have hv3 : bcase (isT 6 x0) none (some []) = some l := by
          cases x0 <;> first | exact hv2 | exact absurd ⟨_, _, rfl⟩ he
        obtain ⟨h6, h7⟩ := bcase_ne hv3 (by simp)
        rw [isT_s0 h6] at hx; simp only [VR] at hx
        exact ⟨(Option.some.inj h7).symm, _, hx⟩
    obtain ⟨rfl, p, rfl⟩ := hl
    exact ⟨p, 0, 0, [], rfl, Nat.le_refl _, by simp, by simp [VRs], by simp, fun _ => rfl, fun q _ j v hj => by simp at hj⟩
theorem r_str {h : H} {W : Bas} (R : Rel ν W ρ h w) (he : EnOk ν en) (hT : TTok P tt) {t t' e : Nat} {x : Operand} {s : Src} (ho : o.op = .convert t t' x) (ht : und tt t = some (.slice e)) (hte : und tt e = some (.int .u8)) (ht' : und tt t' = some .string) (hx : VR ν ρ (sv s) (a.eval x))
    (hv : ocase (cellsOf h 1 (sv s)) none (fun l => ocase (bytesZ en.path l) none (fun z => some (V.s z))) = some v) : Gives P ν ρ a o w v := by
  obtain ⟨l, hl, hv⟩ := ocase_ne hv (by simp)
  obtain ⟨z, hz, hv⟩ := ocase_ne hv (by simp)
  obtain rfl := Option.some.inj hv
  obtain ⟨p, n, cap, us, e1, hle, hln, hr, hul, hp0, hc⟩ := cellsOf_some R hl hx
  obtain ⟨m, hm, rfl⟩ := bytesZ_sound he.path hz hr
  have hml : m.length = n := by simpa using hul
  cases p with
  | none =>
    have hn := hp0 rfl
    subst hn
    obtain rfl := List.eq_nil_of_length_eq_zero hml
    refine ⟨.string .empty, ?_, by simp only [VR]; exact ⟨_, rfl, hm⟩⟩
    simp [execOp, ho, e1, convert, run_underlying (und_ok hT ht), run_underlying (und_ok hT ht'), run_underlying (und_ok hT hte), Conv.bytesToString]
  | some q =>
    have hrun := run_convert_bytes_back (P := P) w t t' e q cap m (und_ok hT ht) (und_ok hT hte) (und_ok hT ht') (fun j hj => hc q rfl j _ (by simp [hj]))
    rw [hml] at hrun
    refine ⟨.string ⟨m.toArray⟩, ?_, by simp only [VR]; exact ⟨_, rfl, hm⟩⟩
    simp only [execOp, ho, e1, Sem.run_bind, hrun]; rfl
/-- What reads gives what it gives in the small machine. -/
theorem doR_sound {h : H} {W : Bas} (R : Rel ν W ρ h w) (hT : TTok P tt) (he : EnOk ν en) {k : KR} (hk : trK tt ds o.op = .rd k) (hr : OpR ν ρ ds sv a o.op.operands.toList) (hv : doR k en sv h = some v) : Gives P ν ρ a o w v := by
  have nw : ∀ w, K.no w ≠ .rd k := fun w h => by cases h
  generalize hop : o.op = op at hk hr
  cases op <;> simp only [trK, no] at hk <;> try (cases hk; done)
  case load t x =>
    obtain ⟨s, e, hk⟩ := s1_ne hk nw
    unfold trLoad at hk
    split at hk
    · rename_i ht
      split at hk
      · rename_i n hs
        injection hk with hk; subst hk
        exact r_loadn R hT hop ht hs (opR_one hr e) hv
      · cases hk
    · rename_i ht
      injection hk with hk; subst hk
      exact r_load1 R hT hop ht (opR_one hr e) hv
    · cases hk
  case convert t t' x =>
    obtain ⟨s, e, hk⟩ := s1_ne hk nw
    unfold trConv at hk
    split at hk
    · cases hk
    · cases hk
    · rename_i el e1 e2
      split at hk
      · rename_i e3
        injection hk with hk; subst hk
        exact r_str R he hT hop e1 e3 e2 (opR_one hr e) hv
      · cases hk
    · split at hk <;> cases hk
    · cases hk
  case lookup t m i ok =>
    obtain ⟨p, q, e1, e2, hk⟩ := s2_ne hk nw
    unfold trLookup at hk
    split at hk
    · rename_i kt et ht
      split at hk
      · rename_i z ks hz hks
        injection hk with hk; subst hk
        exact r_lookup R he hT hop ht hz hks (hr m (by simp [Op.operands]) _ e1) (hr i (by simp [Op.operands]) _ e2) hv
      · cases hk
    · cases hk
  case call c =>
    obtain ⟨ce, args, ts⟩ := c
    unfold trCall at hk
    split at hk
    · rename_i as has
      simp only at has
      cases ce with
      | value f => exfalso; cases f <;> first | (cases hk; done) | (obtain ⟨s, e, hk⟩ := s1_ne hk nw; cases hk)
      | invoke r m => exfalso; obtain ⟨s, e, hk⟩ := s1_ne hk nw; cases hk
      | builtin b =>
        have hr' : OpR ν ρ ds sv a args.toList := fun x hx => hr x (by simpa [Op.operands, Call.operands] using hx)
        have hk' : trBuiltin tt b ts.toList as = .rd k := hk
        unfold trBuiltin at hk'
        split at hk'
        · rename_i t s eas
          obtain ⟨x, ex⟩ : ∃ x, args.toList = [x] := List.length_eq_one_iff.1 (trSrcs_len has).symm
          obtain ⟨p, q, e1, e2, _⟩ := trSrcs_cons (ex ▸ has)
          injection e1 with e1; subst e1
          have ea : args = #[x] := by cases args; simp_all
          have et : ts = #[t] := by cases ts; simp_all
          subst ea; subst et
          unfold trLen at hk'
          split at hk' <;> try (cases hk'; done)
          · rename_i kt et ht
            injection hk' with hk'; subst hk'
            exact r_mlen R hT hop ht (hr' x (by simp) _ e2) hv
          · split at hk' <;> cases hk'
        · rename_i t s eas
          unfold trCap at hk'
          split at hk' <;> cases hk'
        · cases hk'
        · cases hk'
        · cases hk'
        · cases hk'
        · exfalso
          unfold trApp at hk'
          repeat' split at hk'
          all_goals first
            | (cases hk'; done)
            | (obtain ⟨_, h⟩ := bif_ne hk' nw; (repeat' split at h) <;> cases h)
        · exfalso
          unfold trCopy at hk'
          repeat' split at hk'
          all_goals (cases hk'; done)
        · exfalso
          unfold trClear at hk'
          repeat' split at hk'
          all_goals first
            | (cases hk'; done)
            | (obtain ⟨_, h⟩ := bif_ne hk' nw; cases h)
        · exfalso
          unfold trDel at hk'
          repeat' split at hk'
          all_goals (cases hk'; done)
        · cases hk'
        · cases hk'
        · cases hk'
    · cases hk
  case unOp u t x => cases u <;> simp only [trK, no] at hk <;> first | (cases hk; done) | (obtain ⟨s, e, hk⟩ := s1_ne hk nw; cases hk)
  case makeFunc f x y =>
    cases f <;> simp only [trK, no] at hk <;> first | (cases hk; done) | (split at hk <;> cases hk)
  case makeMap t r => cases r <;> simp only [trK, no] at hk <;> cases hk
  case makeInterface t x =>
    cases hi : ifaceT tt t with
    | true => rw [hi] at hk; cases hk
    | false => rw [hi] at hk; obtain ⟨s, e, hk⟩ := s1_ne (show s1 ds x (fun s => .pu (.mkif t s)) = _ from hk) nw; cases hk
  all_goals first
    | (obtain ⟨s, e, hk⟩ := s1_ne hk nw; cases hk; done)
    | (obtain ⟨s, t, e1, e2, hk⟩ := s2_ne hk nw; cases hk; done)
    | (split at hk <;> first | (cases hk; done) | (obtain ⟨s, e, hk⟩ := s1_ne hk nw; cases hk; done) | (obtain ⟨s, t, e1, e2, hk⟩ := s2_ne hk nw; cases hk; done))
    | (unfold trBuild at hk; (repeat' split at hk) <;> first | (cases hk; done) | (obtain ⟨_, hk⟩ := bif_ne hk nw; cases hk; done))
    | (unfold trBSlice at hk; (repeat' split at hk) <;> first | (cases hk; done) | (obtain ⟨_, hk⟩ := bif_ne hk nw; cases hk; done))
    | (obtain ⟨s, t, e1, e2, hk⟩ := s2_ne hk nw; unfold trBin trEq at hk; simp only [Bool.cond_eq_ite] at hk; (repeat' split at hk) <;> first | (cases hk; done) | (obtain ⟨_, hk⟩ := bif_ne hk nw; cases hk; done))
    | (split at hk
       · obtain ⟨s, e, hk⟩ := s1_ne hk nw; unfold trSlice at hk; (repeat' split at hk) <;> (cases hk; done)
       · cases hk)
    | (obtain ⟨s, e, hk⟩ := s1_ne hk nw; unfold trFAddr at hk; (repeat' split at hk) <;> (cases hk; done))
    | (obtain ⟨s, e, hk⟩ := s1_ne hk nw; unfold trField trPart at hk; (repeat' split at hk) <;> (cases hk; done))
    | (obtain ⟨s, t, e1, e2, hk⟩ := s2_ne hk nw; unfold trIAddr at hk; (repeat' split at hk) <;> (cases hk; done))
    | (obtain ⟨s, t, e1, e2, hk⟩ := s2_ne hk nw; unfold trIndex at hk; (repeat' split at hk) <;> first | (cases hk; done) | (obtain ⟨_, hk⟩ := bif_ne hk nw; cases hk; done))
    | (obtain ⟨s, t, e1, e2, hk⟩ := s2_ne hk nw; unfold trMkS at hk; (repeat' split at hk) <;> first | (cases hk; done) | (obtain ⟨_, hk⟩ := bif_ne hk nw; cases hk; done))
    | (obtain ⟨s, t, e1, e2, hk⟩ := s2_ne hk nw; obtain ⟨s, e3, hk⟩ := s1_ne hk nw; unfold trUpd at hk; (repeat' split at hk) <;> (cases hk; done))
    | (obtain ⟨s, t, e1, e2, hk⟩ := s2_ne hk nw; unfold trLookup at hk; (repeat' split at hk) <;> (cases hk; done))
    | (obtain ⟨s, e, hk⟩ := s1_ne hk nw; unfold trTas at hk; (repeat' split at hk) <;> (cases hk; done))
    | (obtain ⟨s, e, hk⟩ := s1_ne hk nw; unfold trLoad at hk; (repeat' split at hk) <;> (cases hk; done))
    | (obtain ⟨s, e, hk⟩ := s1_ne hk nw; unfold trConv at hk; (repeat' split at hk) <;> (cases hk; done))
end Ev
end Go.Proofs.Ytlajbngfdbnoiaa
