/- What acts: copy, clear, delete. -/
import Derived.Test.YtlajbngfdbnoiaaEvX
namespace Go.Proofs.Ytlajbngfdbnoiaa
set_option linter.unusedSimpArgs false
set_option linter.unusedVariables false
set_option linter.constructorNameAsVariable false
open Go Go.RowKit
namespace Ev
variable {path : List (Cd × Bool)}
variable {P : Program} {tt : TT} {ν : Nat → Int} {ρ : Pl} {ds : List (Option Tmp)} {sv : Src → V} {a : Act} {en : En} {w : World} {o : Oper} {v : V}
/-- Cells laid at a place, as the model lays them. -/
theorem write_sound {h : H} {W : Bas} (R : Rel ν W ρ h w) {z : BP} {off b c m : Nat} {vs : List V} {us : List Value} {h' : H} (e3 : ρ z = some (b, c, m)) (hcs : VRs ν ρ vs us) (hv : write h z off vs = .ok v h') :
    v = .u [] ∧ (storeCells ⟨b, c + off, none⟩ us).run P w = .ok () (w.setCells b (c + off) us) ∧ Rel ν W ρ h' (w.setCells b (c + off) us) ∧ Ext h ρ h' ρ := by
  obtain ⟨l, par, wn, e2, v3⟩ := onC_ne (show onC (obj h z) (R1.bad 21) _ = _ from hv) (by simp)
  obtain ⟨hwn, v4⟩ := bcase_ne v3 (by simp)
  obtain ⟨h1, v5⟩ := bcase_ne v4 (by simp)
  obtain ⟨h2, v6⟩ := bcase_ne v5 (by simp)
  subst hwn
  injection v6 with v7 v8; subst v7; subst v8
  have hfit := Nat.le_of_ble_eq_true h2
  rw [len_eq, len_eq] at hfit
  have hfit' : off + vs.length ≤ l.length := hfit
  obtain ⟨cs, e, fz, hb, hsz, hfz, hl, hg⟩ := R.ob z _ e2 b c m e3
  have hul : us.length = vs.length := hcs.length
  have hone := hcs.one h1
  have hcell : ∀ j, j < us.length → (w.cell? ⟨b, c + off + 0 + j, none⟩).isSome = true := fun j hj => by
    have : c + off + j < cs.size := by omega
    simp [World.cell?, hb, this]
  have hfro : ∀ j, j < us.length → w.frozen? ⟨b, c + off + 0 + j, none⟩ = false := fun j hj => by
    have := hfz (c + off + j) (by omega)
    simp only [World.frozen?, hb, Nat.add_zero]
    rw [Bool.and_eq_false_iff]
    simp only [decide_eq_false_iff_not]
    omega
  have hrun := run_storeCells_cells (P := P) b (c + off) us 0 w hcell hfro hone
  refine ⟨rfl, by simpa using hrun, ?_, ext_put⟩
  obtain ⟨cs', k1, k2, k3⟩ := setCells_at b us (c + off) w cs e fz hb
  refine (R.change (ob := .c (Ev.splice off vs l) none true) e2 e3 rfl (fun k hk => setCells_ne b _ _ w k hk) (setCells_size b _ _ w) (setCells_below (R.mine z _ e2 rfl b c m e3) _ _ R.below) ⟨cs', e, fz, k1, by omega, fun i hi => hfz i (by omega), by rw [splice_len hfit']; exact hl, fun i v' hv' => ?_⟩).1
  rw [splice_get hfit'] at hv'
  rw [k3]
  split at hv'
  · rename_i hi
    obtain ⟨u, hu, hr⟩ := hcs.get hv'
    rw [if_pos (by omega), show c + i - (c + off) = i - off by omega]
    exact ⟨u, hu, hr⟩
  · rename_i hi
    have hil := (List.getElem?_eq_some_iff.1 hv').1
    rw [if_neg (by omega)]
    exact hg i v' hv'
/-- A map turned. -/
theorem Rel.turn {h : H} {W : Bas} (R : Rel ν W ρ h w) {z : BP} {es rr : List (V × V)} {b n : Nat} (e2 : obj h z = some (.m es)) (e3 : ρ z = some (b, 0, n)) {ms' : Array MapEntry} {ck' : Nat} (hes' : EsR ν ρ rr ms'.toList) :
    Rel ν W ρ (put h z (some (.m rr))) { w with heap := w.heap.setIfInBounds b (.map ms' ck') } ∧ Ext h ρ (put h z (some (.m rr))) ρ := by
  have hblt := (R.lt z b 0 n e3).1
  refine ⟨?_, Pl.le_refl ρ, fun _ e _ => e, by rw [nx_put]; exact Nat.le_refl _⟩
  have hnb : ∀ k, k ≠ b → (w.heap.setIfInBounds b (.map ms' ck'))[k]? = w.heap[k]? := fun k hk => by
    rw [Array.getElem?_setIfInBounds, if_neg (fun e => hk e.symm)]
  have hWb := R.mine z _ e2 rfl b 0 n e3
  have inv : ∀ y oy, obj (put h z (some (.m rr))) y = some oy → (y = z ∧ oy = .m rr) ∨ (y ≠ z ∧ obj h y = some oy) := by
    intro y oy e
    rw [obj_put] at e
    split at e
    · rename_i hy; exact .inl ⟨hy, (Option.some.inj e).symm⟩
    · rename_i hy; exact .inr ⟨hy, e⟩
  have only : ∀ y oy c' n', y ≠ z → obj h y = some oy → ρ y = some (b, c', n') → False := by
    intro y oy c' n' hy e e'
    rcases R.sep z y _ oy e2 e (fun e => hy e.symm) b 0 n c' n' e3 e' with h1 | h1
    · cases h1
    · have := R.par y oy z e h1 _ e2; cases this
  refine ⟨?_, ?_, ?_, ?_, ?_, ?_, ?_, ?_, R.base, fun q hq => ⟨(hnb q.1 (fun e5 => (R.ob z _ e2 b 0 n e3).not_odd (e5 ▸ (R.kp q hq).1) (R.kp q hq).2)).trans (R.kp q hq).1, (R.kp q hq).2⟩⟩
  · exact R.below.trans ⟨rfl, rfl, rfl, by simp, fun k hk => hnb k (by omega)⟩
  · intro y oy e b' c' n' e'
    rcases inv y oy e with ⟨rfl, rfl⟩ | ⟨hy, e⟩
    · rw [e3] at e'
      obtain ⟨rfl, rfl, rfl⟩ : b = b' ∧ 0 = c' ∧ n = n' := by simpa using e'
      exact ⟨ms', ck', by simp [Array.getElem?_setIfInBounds, hblt], hes'⟩
    · refine (R.ob y oy e b' c' n' e').block (hnb b' (fun hbb => ?_))
      subst hbb; exact only y oy c' n' hy e e'
  · intro y b' c' n' e'; rw [nx_put]; simpa using R.lt y b' c' n' e'
  · intro y oy e; rw [nx_put]
    rcases inv y oy e with ⟨rfl, rfl⟩ | ⟨hy, e⟩
    · exact R.dom _ _ e2
    · exact R.dom y oy e
  · intro y oy e hw b' c' n' e'
    rcases inv y oy e with ⟨rfl, rfl⟩ | ⟨hy, e⟩
    · exact R.mine _ _ e2 rfl b' c' n' e'
    · exact R.mine y oy e hw b' c' n' e'
  · intro y z' oy oz ey ez hyz b' c1 n1 c2 n2 f1 e2'
    rcases inv y oy ey with ⟨g1, g2⟩ | ⟨hy, ky⟩ <;> rcases inv z' oz ez with ⟨g1', g2'⟩ | ⟨hz, kz⟩
    · exact absurd (g1.trans g1'.symm) hyz
    · subst g1
      rw [e3] at f1
      obtain ⟨rfl, rfl, rfl⟩ : b = b' ∧ 0 = c1 ∧ n = n1 := by simpa using f1
      exact (only z' oz c2 n2 hz kz e2').elim
    · subst g1'
      rw [e3] at e2'
      obtain ⟨rfl, rfl, rfl⟩ : b = b' ∧ 0 = c2 ∧ n = n2 := by simpa using e2'
      exact (only y oy c1 n1 hy ky f1).elim
    · exact R.sep y z' oy oz ky kz hyz b' c1 n1 c2 n2 f1 e2'
  · intro y oy z' ey hpz oz ez
    rcases inv y oy ey with ⟨g1, g2⟩ | ⟨hy, ky⟩
    · rw [g2] at hpz; cases hpz
    · rcases inv z' oz ez with ⟨g1, g2⟩ | ⟨hz, kz⟩
      · subst g1; have := R.par y oy z' ky hpz _ e2; cases this
      · exact R.par y oy z' ky hpz oz kz
  · intro y oy z' ey hpz; rw [nx_put]
    rcases inv y oy ey with ⟨g1, g2⟩ | ⟨hy, ky⟩
    · rw [g2] at hpz; cases hpz
    · exact R.parlt y oy z' ky hpz
theorem delK_first {ks : Nat} {k : V} {es r : List (V × V)} (h : delK ks path k es = some r) : ∀ e, es[0]? = some e → ∃ b, keyEq ks path k e.1 = some b := by
  intro e he
  cases es with
  | nil => cases he
  | cons e' es =>
    obtain rfl := Option.some.inj (show some e' = some e from he)
    obtain ⟨b, hb, _⟩ := ocase_ne (show ocase (keyEq ks path k e'.1) none (fun b => bcase b (ocase (delK ks path k es) none (fun r => some (e' :: r))) (some es)) = some r from h) (by simp)
    exact ⟨b, hb⟩
theorem delK_sound (hT : TTok P tt) (hp : PathOk ν path) {ks : Nat} {t : TypeId} {kt : TypeDesc} (hkt : KeyT P tt t kt ks) {k : V} {u : Value} (hk : VR ν ρ k u) : ∀ {es : List (V × V)} {ms : List MapEntry} {r : List (V × V)} {i : Nat}, EsR ν ρ es ms → delK ks path k es = some r →
    (FoundAt P t kt ks u ms i w none ∧ r = es) ∨ ∃ j y, FoundAt P t kt ks u ms i w (some (i + j, y)) ∧ EsR ν ρ r (ms.eraseIdx j)
  | [], [], r, i, _, h => by
    obtain rfl := Option.some.inj (show some [] = some r from h)
    refine .inl ⟨?_, rfl⟩
    unfold FoundAt; split
    · rfl
    · simp [Instr.findAsking]
  | [], _ :: _, _, _, h, _ => h.elim
  | _ :: _, [], _, _, h, _ => h.elim
  | e :: es, m :: ms, r, i, hr, h => by
    obtain ⟨b, hb, h1⟩ := ocase_ne (show ocase (keyEq ks path k e.1) none (fun b => bcase b (ocase (delK ks path k es) none (fun r => some (e :: r))) (some es)) = some r from h) (by simp)
    have hn := keyEq_sound (w := w) hT hp hkt hk hr.1 hb
    have hn1 := hn.1
    cases b with
    | true =>
      obtain rfl := Option.some.inj (show some es = some r from h1)
      refine .inr ⟨0, m.val, ?_, by simpa using hr.2.2⟩
      unfold FoundAt
      split at hn1 <;> rename_i hc
      · rw [if_pos hc]; simp [Instr.findNow, hn1]
      · rw [if_neg hc]; simp [Instr.findAsking, hn1.2]
    | false =>
      obtain ⟨r', h2, h3⟩ := ocase_ne (show ocase (delK ks path k es) none (fun r => some (e :: r)) = some r from h1) (by simp)
      obtain rfl := Option.some.inj h3
      have step : ∀ x, FoundAt P t kt ks u ms (i + 1) w x → FoundAt P t kt ks u (m :: ms) i w x := by
        intro x hx
        unfold FoundAt at hx ⊢
        split at hn1 <;> rename_i hc
        · rw [if_pos hc] at hx ⊢; simp [Instr.findNow, hn1, hx]
        · rw [if_neg hc] at hx ⊢; simp [Instr.findAsking, hn1.2, hx]
      rcases delK_sound hT hp hkt hk (i := i + 1) hr.2.2 h2 with ⟨g1, rfl⟩ | ⟨j, y, g1, g2⟩
      · exact .inl ⟨step _ g1, rfl⟩
      · exact .inr ⟨j + 1, y, by have := step _ g1; rwa [show i + 1 + j = i + (j + 1) by omega] at this, by simpa using ⟨hr.1, hr.2.1, g2⟩⟩
theorem del_run {h : H} {W : Bas} (R : Rel ν W ρ h w) (he : EnOk ν en) (hT : TTok P tt) {t kt et ks : Nat} {vm vk : V} {um uk : Value} {ts : Array TypeId} {ty : TypeId} {h' : H} (hts : ts[0]? = some t) (ht : und tt t = some (.map kt et)) (hks : keyOk tt kt = some ks)
    (hm : VR ν ρ vm um) (hx : VR ν ρ vk uk) (hv : del ks en.path h vm vk = .ok v h') : v = .u [] ∧ ∃ w', (Builtin.delete_ ts ty #[um, uk]).run P w = .ok (.tuple #[]) w' ∧ Rel ν W ρ h' w' ∧ Ext h ρ h' ρ := by
  obtain ⟨kd, hkt⟩ := keyOk_some hT hks
  obtain ⟨hik, v1⟩ := bcase_ne hv (by simp)
  obtain ⟨z, e1, v2⟩ := onM_ne v1 (by simp)
  obtain ⟨es, e2, v3⟩ := onMp_ne v2 (by simp)
  obtain ⟨rr, e4, v4⟩ := ocase_ne v3 (by simp)
  injection v4 with v5 v6; subst v5; subst v6
  rw [e1] at hm; simp only [VR] at hm
  obtain ⟨b, n, e3, hm⟩ := hm
  obtain ⟨ms, ck, hb, hes⟩ := R.ob z _ e2 b 0 n e3
  have hck := fun emp => isKey_sound (w := w) hT hkt hik hx emp
  have hblt := (R.lt z b 0 n e3).1
  rcases delK_sound (w := w) hT he.path hkt hx (i := 0) hes e4 with ⟨g1, rfl⟩ | ⟨j, yv, g1, g4⟩
  · have g1' := g1.key hT he.path hkt hx hes (delK_first e4)
    obtain ⟨k1, k2⟩ := R.turn e2 e3 (ck' := ck) hes
    exact ⟨rfl, _, by simp [Builtin.delete_, hm, hts, run_underlying (und_ok hT ht), getObj, setObj, Sem.run, hb, hck, g1'], k1, k2⟩
  · rw [Nat.zero_add] at g1
    have g1' := g1.key hT he.path hkt hx hes (delK_first e4)
    obtain ⟨k1, k2⟩ := R.turn e2 e3 (ms' := ms.eraseIdxIfInBounds j) (ck' := ck) (by simpa using g4)
    exact ⟨rfl, _, by simp [Builtin.delete_, hm, hts, run_underlying (und_ok hT ht), getObj, setObj, Sem.run, hb, hck, g1'], k1, k2⟩
theorem e_del {h : H} {W : Bas} (R : Rel ν W ρ h w) (he : EnOk ν en) (hT : TTok P tt) {t kt et ks : Nat} {m x : Operand} {p q : Src} {ts : Array TypeId} {h' : H} (ho : o.op = .call ⟨.builtin .delete, #[m, x], ts⟩) (hts : ts[0]? = some t) (ht : und tt t = some (.map kt et)) (hks : keyOk tt kt = some ks)
    (hm : VR ν ρ (sv p) (a.eval m)) (hx : VR ν ρ (sv q) (a.eval x)) (hv : del ks en.path h (sv p) (sv q) = .ok v h') : Does P o a w (After ν W h ρ h' v) := by
  obtain ⟨rfl, w', hrun, k1, k2⟩ := del_run (P := P) (ty := o.type) R he hT hts ht hks hm hx hv
  refine Does.value (u := .tuple #[]) ?_ ⟨ρ, k1, by simp only [VR]; exact ⟨#[], rfl, by simp [VRs]⟩, k2⟩
  rw [run_builtin ho]
  simp [builtin, hrun]
/-- Cells laid over a slice's first. -/
theorem copyTo_sound {h : H} {W : Bas} (R : Rel ν W ρ h w) {sz k n : Nat} {d : V} {ud : Value} {cs : List V} {us : List Value} {h' : H} (hl : lenS d = some n) (hk : k ≤ n) (hd : VR ν ρ d ud) (hcs : VRs ν ρ cs us) (hul : us.length = k * sz) (hv : copyTo h sz d k cs = .ok v h') :
    ∃ p c w', ud = .slice p n c ∧ (∀ a, p = some a → (storeCells a us).run P w = .ok () w') ∧ (p = none → w' = w) ∧ After ν W h ρ h' v (goInt k) w' := by
  obtain ⟨p, c, rfl, hnc⟩ := lenS_some hl hd
  by_cases h0 : k = 0
  · subst h0
    have hus : us = [] := List.eq_nil_of_length_eq_zero (by simpa using hul)
    subst hus
    obtain ⟨v0, h1, h2⟩ := ocase_ne (show ocase (okN 0) (R1.bad 37) (fun v => R1.ok v h) = .ok v h' from hv) (by simp)
    injection h2 with h2 h3; subst h2; subst h3
    rw [okN_eq] at h1
    obtain rfl := Option.some.inj h1
    exact ⟨p, c, w, rfl, fun a _ => by rfl, fun _ => rfl, ρ, R, by simp only [VR, goInt, zval], ⟨Pl.le_refl ρ, fun _ e _ => e, Nat.le_refl _⟩⟩
  · have hb : Nat.beq k 0 = false := Bool.eq_false_iff.2 fun e => h0 (Nat.eq_of_beq_eq_true e)
    unfold copyTo at hv
    rw [hb] at hv
    obtain ⟨_, v1⟩ := bcase_ne (show bcase (lenIs (Nat.mul k sz) cs) (R1.bad 35) _ = R1.ok v h' from hv) (by simp)
    obtain ⟨x, off, s, m, e1, v2⟩ := onSl_ne v1 (by simp)
    obtain ⟨hs, v3⟩ := bcase_ne v2 (by simp)
    obtain ⟨hkm, v4⟩ := bcase_ne v3 (by simp)
    have hkm := Nat.le_of_ble_eq_true hkm
    subst e1
    simp only [VR] at hd
    obtain ⟨b, c0, n0, cap, q, e3, e4, hle, hq⟩ := hd
    injection e4 with e5 e6 e7
    subst e5; subst e6; subst e7
    obtain ⟨hq1, _⟩ := hq (by omega)
    cases hw : write h x off cs with
    | bad z => rw [hw] at v4; cases v4
    | ok v1 h1 =>
      rw [hw] at v4
      obtain ⟨v0, h2, h3⟩ := ocase_ne (show ocase (okN k) (R1.bad 37) (fun v => R1.ok v h1) = .ok v h' from v4) (by simp)
      injection h3 with h3 h4; subst h3; subst h4
      rw [okN_eq] at h2
      obtain rfl := Option.some.inj h2
      obtain ⟨_, k1, k2, k3⟩ := write_sound (P := P) R e3 hcs hw
      exact ⟨some q, _, _, rfl, fun a ha => by obtain rfl := Option.some.inj ha; rw [hq1]; exact k1, fun e => (by cases e), ρ, k2, by simp only [VR, goInt, zval], k3⟩
theorem minN_eq (a b : Nat) : minN a b = min a b := by
  unfold minN
  cases hb : Nat.ble a b with
  | true => have := Nat.le_of_ble_eq_true hb; show a = _; omega
  | false =>
    have : ¬ a ≤ b := fun h => by rw [Nat.ble_eq_true_of_le h] at hb; cases hb
    show b = _; omega
theorem e_copy {h : H} {W : Bas} (R : Rel ν W ρ h w) (hT : TTok P tt) {t u e sz : Nat} {x y : Operand} {p q : Src} {h' : H} (ho : o.op = .call ⟨.builtin .copy, #[x, y], #[t, u]⟩) (ht : und tt t = some (.slice e)) (hs : sizeT tt e = some sz)
    (hx : VR ν ρ (sv p) (a.eval x)) (hy : VR ν ρ (sv q) (a.eval y)) (hv : copy h sz (sv p) (sv q) = .ok v h') : Does P o a w (After ν W h ρ h' v) := by
  obtain ⟨n, hn, v1⟩ := ocase_ne hv (by simp)
  have key : ∀ (k m : Nat) (cs : List V) (us : List Value), k = min n m → VRs ν ρ cs us → us.length = k * sz → copyTo h sz (sv p) k cs = .ok v h' → (Builtin.lenOf (a.eval y)).run P w = .ok m w → (Builtin.firstCells sz k (a.eval y)).run P w = .ok us.toArray w → Does P o a w (After ν W h ρ h' v) := by
    intro k m cs us hk hcs hul hc h1 h2
    obtain ⟨pp, c, w', hd, k1, k2, ha⟩ := copyTo_sound (P := P) R hn (by omega) hx hcs hul hc
    refine Does.value (u := goInt k) ?_ ha
    have hmin : Nat.min m n = k := by show min m n = k; omega
    rw [run_builtin ho]
    cases pp with
    | none =>
      obtain rfl := k2 rfl
      simp [builtin, Builtin.copy_, hd, run_underlying (und_ok hT ht), size_ok hT hs, h1, hmin, h2]
    | some aa =>
      simp [builtin, Builtin.copy_, hd, run_underlying (und_ok hT ht), size_ok hT hs, h1, hmin, h2, k1 aa rfl]
  by_cases hst : ∃ l, sv q = .s l
  · obtain ⟨l, e1⟩ := hst
    rw [e1] at v1 hy
    obtain ⟨hb1, v2⟩ := bcase_ne (show bcase (Nat.beq sz 1) (R1.bad 38) (copyTo h sz (sv p) (minN n (len l)) (Ev.take (minN n (len l)) (zs l))) = .ok v h' from v1) (by simp)
    obtain rfl := Nat.eq_of_beq_eq_true hb1
    simp only [VR] at hy
    obtain ⟨s, hys, hsr⟩ := hy
    rw [minN_eq, len_eq, take_eq] at v2
    have hsl : s.data.toList.length = l.length := hsr.length
    have hss : s.size = l.length := by rw [← hsl]; simp
    refine key (min n l.length) l.length _ ((s.data.toList.map fun b => Value.int .u8 b.toNat).take (min n l.length)) rfl (VRs.take (SR.zs hsr) _) (by simp [hsl]) v2 (by rw [hys]; simp [Builtin.lenOf, hss]) ?_
    rw [hys]
    simp only [Builtin.firstCells, Sem.run_pure]
    congr 1
    apply Array.ext'
    rw [ByteArray.data_extract]
    simp [List.map_take]
  · have v1' : ocase (lenS (sv q)) (R1.bad 38) (fun m => ocase (cellsOf h sz (sv q)) (R1.bad 38) (fun l => copyTo h sz (sv p) (minN n m) (Ev.take (Nat.mul (minN n m) sz) l))) = .ok v h' := by
      generalize sv q = vq at v1 hst
      cases vq <;> first | exact v1 | exact absurd ⟨_, rfl⟩ hst
    obtain ⟨m, hm, v2⟩ := ocase_ne v1' (by simp)
    obtain ⟨l, hl, v3⟩ := ocase_ne v2 (by simp)
    rw [minN_eq, take_eq] at v3
    obtain ⟨pp, n1, cap, us, hys, hle, hll, hr, hul, hp0, hc⟩ := cellsOf_some R hl hy
    obtain ⟨_, _, hys2, _⟩ := lenS_some hm hy
    rw [hys] at hys2
    injection hys2 with _ e2 _
    subst e2
    have hlen : min n n1 * sz ≤ us.length := by rw [hul]; exact Nat.mul_le_mul_right _ (Nat.min_le_right _ _)
    refine key (min n n1) n1 _ (us.take (min n n1 * sz)) rfl (VRs.take hr _) (by rw [List.length_take]; omega) v3 (by rw [hys]; simp [Builtin.lenOf]) ?_
    rw [hys]
    cases pp with
    | none =>
      have := hp0 rfl
      subst this
      simp [Builtin.firstCells]
    | some qq =>
      exact run_firstCells_some (P := P) w sz (min n n1) qq n1 cap _ (by rw [List.length_take]; omega) (fun j vv hj => by
        rw [List.getElem?_take] at hj
        split at hj
        · exact hc qq rfl j vv hj
        · cases hj)
theorem e_clear {h : H} {W : Bas} (R : Rel ν W ρ h w) (hT : TTok P tt) {t e sz : Nat} {z : List V} {x : Operand} {p : Src} {h' : H} (ho : o.op = .call ⟨.builtin .clear, #[x], #[t]⟩) (ht : und tt t = some (.slice e)) (hs : sizeT tt e = some sz) (hz : zeroC tt e = some z) (hzl : z.length = sz)
    (hx : VR ν ρ (sv p) (a.eval x)) (hv : clear h sz z (sv p) = .ok v h') : Does P o a w (After ν W h ρ h' v) := by
  obtain ⟨n, hn, v1⟩ := ocase_ne hv (by simp)
  obtain ⟨q, c, hxe, hnc⟩ := lenS_some hn hx
  rcases Nat.eq_zero_or_pos n with rfl | hpos
  · have v2 : R1.ok (V.u []) h = .ok v h' := v1
    injection v2 with e1 e2; subst e1; subst e2
    refine Does.value (u := .tuple #[]) (w' := w) ?_ ⟨ρ, R, by simp only [VR]; exact ⟨#[], rfl, by simp [VRs]⟩, ⟨Pl.le_refl ρ, fun _ e _ => e, Nat.le_refl _⟩⟩
    rw [run_builtin ho]
    cases q <;> simp [builtin, Builtin.clear_, run_underlying (und_ok hT ht), hxe]
  · have hb : Nat.beq n 0 = false := Bool.eq_false_iff.2 fun e => by have := Nat.eq_of_beq_eq_true e; omega
    rw [hb] at v1
    obtain ⟨_, v2⟩ := bcase_ne (show bcase (small n) (R1.bad 39) _ = R1.ok v h' from v1) (by simp)
    obtain ⟨y, off, s, m, e1, v3⟩ := onSl_ne v2 (by simp)
    obtain ⟨hss, v4⟩ := bcase_ne v3 (by simp)
    rw [e1] at hx hn
    obtain rfl := Option.some.inj (show some m = some n from hn)
    simp only [VR] at hx
    obtain ⟨b, c0, n0, cap, qq, e3, e4, hle, hq⟩ := hx
    rw [hxe] at e4
    injection e4 with e5 e6 e7
    subst e5; subst e7
    obtain ⟨hq1, _⟩ := hq (by omega)
    unfold zeroC at hz
    obtain ⟨zv, hzv, rfl⟩ := Option.map_eq_some_iff.1 hz
    obtain ⟨zu, hzu, hzr, hnx⟩ := zero_ok (w := w) (ν := ν) (ρ := ρ) hT hzv
    have hzc := cellsV_sound (trVal_nx hnx) hzr
    have hzs : zu.cells.size = sz := by have := hzc.length; simp at this; omega
    have hrep : VRs ν ρ (rep (cellsV zv) m) (Builtin.zeroCells zu.cells m).toList := by
      have h1 := hzc.rep m
      rw [hzl] at h1
      have : Builtin.zeroCells zu.cells m = (Array.range (m * sz)).map (zu.cells[· % zu.cells.size]!) := by unfold Builtin.zeroCells; rw [hzs]
      rw [this]; exact h1
    obtain ⟨rfl, k1, k2, k3⟩ := write_sound (P := P) R e3 hrep v4
    refine Does.value (u := .tuple #[]) ?_ ⟨ρ, k2, by simp only [VR]; exact ⟨#[], rfl, by simp [VRs]⟩, k3⟩
    rw [run_builtin ho]
    rw [hq1] at hxe
    cases m with
    | zero => omega
    | succ m => simp [builtin, Builtin.clear_, run_underlying (und_ok hT ht), hxe, hzu, k1]
end Ev
end Go.Proofs.Ytlajbngfdbnoiaa
