/- What only reckons, operation by operation: the second half. -/
import Derived.Test.YtlajbngfdbnoiaaEvQ
import Derived.Laws.StructEq
import Derived.Laws.Strings
import Derived.Laws.Concat
import Derived.Laws.Small
import Derived.Laws.Cover1
namespace Go.Proofs.Ytlajbngfdbnoiaa
set_option linter.unusedSimpArgs false
set_option linter.unusedVariables false
set_option linter.constructorNameAsVariable false
open Go Go.RowKit
namespace Ev
variable {path : List (Cd × Bool)}
variable {P : Program} {tt : TT} {ν : Nat → Int} {ρ : Pl} {ds : List (Option Tmp)} {sv : Src → V} {a : Act} {en : En} {w : World} {o : Oper} {v : V}
theorem isT_eq {n : Nat} {v : V} (h : isT n v = true) : tag v = n := Nat.eq_of_beq_eq_true h
theorem isT_s0 {v : V} (h : isT 6 v = true) : v = .s0 := by cases v <;> first | rfl | exact absurd (isT_eq h) (by simp [tag])
theorem isT_p0 {v : V} (h : isT 4 v = true) : v = .p0 := by cases v <;> first | rfl | exact absurd (isT_eq h) (by simp [tag])
theorem isT_f0 {v : V} (h : isT 9 v = true) : v = .f0 := by cases v <;> first | rfl | exact absurd (isT_eq h) (by simp [tag])
theorem isT_n0 {v : V} (h : isT 11 v = true) : v = .n0 := by cases v <;> first | rfl | exact absurd (isT_eq h) (by simp [tag])
theorem isT_m0 {v : V} (h : isT 15 v = true) : v = .m0 := by cases v <;> first | rfl | exact absurd (isT_eq h) (by simp [tag])
-- texts
theorem toList_eq (s : ByteArray) : s.toList = s.data.toList := ByteArray.toList_eq s
theorem byte_eq {b c : UInt8} : ((b.toNat : Int) = (c.toNat : Int)) ↔ b = c := by
  constructor
  · intro h; exact UInt8.toNat_inj.1 (by omega)
  · intro h; rw [h]
theorem sEq_sound (hp : PathOk ν path) : ∀ {x y : List Z} {r : Bool} {l m : List UInt8}, sEq path x y = some r → SR ν x l → SR ν y m → (l == m) = r
  | [], [], r, [], [], h, _, _ => by obtain rfl := Option.some.inj h; rfl
  | [], _ :: _, r, [], _ :: _, h, _, _ => by obtain rfl := Option.some.inj h; rfl
  | [], _, _, _ :: _, _, _, h, _ => h.elim
  | _, [], _, _, _ :: _, _, _, h => h.elim
  | _, _ :: _, _, _, [], _, _, h => h.elim
  | _ :: _, _, _, [], _, _, h, _ => h.elim
  | _ :: _, [], r, _ :: _, [], h, _, _ => by obtain rfl := Option.some.inj h; rfl
  | x :: xs, y :: ys, r, b :: l, c :: m, h, h1, h2 => by
    have h' : ocase (cmpZ path .eql x y) none (fun e => bcase e (some false) (sEq path xs ys)) = some r := h
    obtain ⟨e, he, h'⟩ := ocase_ne h' (by simp)
    have h3 := cmpZ_sound hp he
    simp only [cmpI, eqI_eq, h1.1, h2.1] at h3
    cases e with
    | false =>
      obtain rfl := Option.some.inj h'
      have : b ≠ c := fun e => by rw [e] at h3; simp at h3
      simp [this]
    | true =>
      have : b = c := byte_eq.1 (of_decide_eq_true h3)
      subst this
      have := sEq_sound hp (show sEq path xs ys = some r from h') h1.2 h2.2
      simpa using this
theorem sLt_sound (hp : PathOk ν path) : ∀ {x y : List Z} {r : Bool} {l m : List UInt8}, sLt path x y = some r → SR ν x l → SR ν y m → Op.bytesLess l m = r
  | [], [], r, [], [], h, _, _ => by obtain rfl := Option.some.inj h; rfl
  | [], _ :: _, r, [], _ :: _, h, _, _ => by obtain rfl := Option.some.inj h; rfl
  | [], _, _, _ :: _, _, _, h, _ => h.elim
  | _, [], _, _, _ :: _, _, _, h => h.elim
  | _, _ :: _, _, _, [], _, _, h => h.elim
  | _ :: _, _, _, [], _, _, h, _ => h.elim
  | _ :: _, [], r, _ :: _, [], h, _, _ => by obtain rfl := Option.some.inj h; rfl
  | x :: xs, y :: ys, r, b :: l, c :: m, h, h1, h2 => by
    have h' : ocase (cmpZ path .lss x y) none (fun l => bcase l (ocase (cmpZ path .eql x y) none (fun e => bcase e (some false) (sLt path xs ys))) (some true)) = some r := h
    obtain ⟨e, he, h'⟩ := ocase_ne h' (by simp)
    have h3 := cmpZ_sound hp he
    simp only [cmpI, ltI_eq, h1.1, h2.1] at h3
    have hlt : decide (b < c) = e := by rw [← h3, decide_eq_decide, UInt8.lt_iff_toNat_lt]; omega
    simp only [Op.bytesLess, hlt]
    cases e with
    | true => obtain rfl := Option.some.inj h'; rfl
    | false =>
      obtain ⟨e, he, h'⟩ := ocase_ne (show ocase (cmpZ path .eql x y) none (fun e => bcase e (some false) (sLt path xs ys)) = some r from h') (by simp)
      have h4 := cmpZ_sound hp he
      simp only [cmpI, eqI_eq, h1.1, h2.1] at h4
      cases e with
      | false =>
        obtain rfl := Option.some.inj h'
        have : b ≠ c := fun e => by rw [e] at h4; simp at h4
        simp [this]
      | true =>
        have : b = c := byte_eq.1 (of_decide_eq_true h4)
        subst this
        simpa using sLt_sound hp (show sLt path xs ys = some r from h') h1.2 h2.2
theorem binS_sound (he : EnOk ν en) {op : BinOp} {x y : List Z} {s t : ByteArray} (h : binS op en.path x y = some v) (hs : SR ν x s.data.toList) (ht : SR ν y t.data.toList) (ty : TypeId) (p q : Operand) :
    ∃ u, (do eqGuard op ty p q (.string s) (.string t); binOp op ty (.string s) (.string t) : Sem Value).run P w = .ok u w ∧ VR ν ρ v u := by
  have hg : (eqGuard op ty p q (.string s) (.string t)).run P w = .ok () w := by cases op <;> simp [eqGuard]
  simp only [Sem.run_bind, hg, Result.andThen_ok]
  cases op <;> first | (cases h; done) | skip
  · obtain ⟨h1, h⟩ := bcase_ne (show bcase (Nat.ble (Ev.len x) 8000000) none (bcase (Nat.ble (Ev.len y) 8000000) none (some (V.s (app x y)))) = some v from h) (by simp)
    obtain ⟨h2, h⟩ := bcase_ne h (by simp)
    obtain rfl := Option.some.inj h
    rw [len_eq] at h1 h2
    have hx := hs.length; have hy := ht.length
    have l1 := Nat.le_of_ble_eq_true h1; have l2 := Nat.le_of_ble_eq_true h2
    refine ⟨_, by simp only [binOp]; exact run_string_add w s t (by rw [size_eq]; omega) (by rw [size_eq]; omega), ?_⟩
    simp only [VR, app_eq]
    exact ⟨_, rfl, by simpa using hs.app ht⟩
  · obtain ⟨b, hb, rfl⟩ := okOB_some (show okOB (sEq en.path x y) = some v from h)
    refine ⟨_, by simp [binOp, Op.stringOp]; rfl, ?_⟩
    simp only [VR, toList_eq]; rw [sEq_sound he.path hb hs ht]
  · obtain ⟨b, hb, rfl⟩ := okOB_some (show okOB (oNot (sEq en.path x y)) = some v from h)
    obtain ⟨c, hc, hb⟩ := ocase_ne hb (by simp)
    obtain rfl := Option.some.inj hb
    refine ⟨_, by simp [binOp, Op.stringOp]; rfl, ?_⟩
    simp only [VR, toList_eq]; rw [← sEq_sound he.path hc hs ht]
  · obtain ⟨b, hb, rfl⟩ := okOB_some (show okOB (sLt en.path x y) = some v from h)
    refine ⟨_, by simp [binOp, Op.stringOp]; rfl, ?_⟩
    simp only [VR, toList_eq]; rw [sLt_sound he.path hb hs ht]
theorem p_bin (he : EnOk ν en) {t ty : TypeId} {x y : Operand} {p q : Src} {op : BinOp} (ho : o.op = .binOp op t x y ty) (hx : VR ν ρ (sv p) (a.eval x)) (hy : VR ν ρ (sv q) (a.eval y))
    (hv : binV en op (sv p) (sv q) = some v) : Gives P ν ρ a o w v := by
  have main : ∀ r, bin en op (sv p) (sv q) = some r → Gives P ν ρ a o w r := by
    intro r h
    generalize sv p = vx at *; generalize sv q = vy at *
    cases vx <;> first | (cases h; done) | skip
    · rename_i k z
      obtain ⟨j, n, rfl, h2⟩ := onI_ne (show onI vy none (fun j n => bcase (Nat.beq (kN k) (kN j)) none (binI op en k z n)) = some r from h) (by simp)
      obtain ⟨hk, h3⟩ := bcase_ne h2 (by simp)
      obtain rfl := kN_inj (Nat.eq_of_beq_eq_true hk)
      simp only [VR] at hx hy
      obtain ⟨u, hu, hr⟩ := binI_sound (P := P) (w := w) (ρ := ρ) he h3 t x y
      exact ⟨u, by simp only [execOp, ho, hx, hy, Sem.run_bind] at hu ⊢; rw [hu]; rfl, hr⟩
    · rename_i l
      obtain ⟨m, rfl, h2⟩ := onS_ne (show onS vy none (fun t => binS op en.path l t) = some r from h) (by simp)
      simp only [VR] at hx hy
      obtain ⟨s, es, hs⟩ := hx; obtain ⟨s', es', hs'⟩ := hy
      obtain ⟨u, hu, hr⟩ := binS_sound (P := P) (w := w) (ρ := ρ) he h2 hs hs' t x y
      exact ⟨u, by simp only [execOp, ho, es, es', Sem.run_bind] at hu ⊢; rw [hu]; rfl, hr⟩
  have sh : ∀ r op', op = op' → (op' = .shl ∨ op' = .shr) → onI (sv p) none (fun k m => onI (sv q) none (fun _ n => binSh en op' k m n)) = some r → Gives P ν ρ a o w r := by
    rintro r op' rfl hop h
    obtain ⟨k, z, ez, h⟩ := onI_ne h (by simp)
    obtain ⟨j, n, en', h⟩ := onI_ne h (by simp)
    rw [ez] at hx; rw [en'] at hy
    simp only [VR] at hx hy
    have h' : binI op en k z n = some r := by rcases hop with rfl | rfl <;> exact h
    obtain ⟨u, hu, hr⟩ := binI_sound (P := P) (w := w) (ρ := ρ) he h' t x y
    refine ⟨u, ?_, hr⟩
    simp only [execOp, ho, hx, hy, Sem.run_bind] at hu ⊢
    have e1 : (eqGuard op t x y (.int k (zval ν z)) (.int k (zval ν n))).run P w = .ok () w := by rcases hop with rfl | rfl <;> simp [eqGuard]
    have e2 : (eqGuard op t x y (.int k (zval ν z)) (.int j (zval ν n))).run P w = .ok () w := by rcases hop with rfl | rfl <;> simp [eqGuard]
    rw [e1] at hu; rw [e2]
    simp only [Result.andThen_ok] at hu ⊢
    have : binOp op t (.int k (zval ν z)) (.int j (zval ν n)) = binOp op t (.int k (zval ν z)) (.int k (zval ν n)) := by rcases hop with rfl | rfl <;> rfl
    rw [this, hu]; rfl
  cases op <;> first | exact main v hv | exact sh v _ rfl (.inl rfl) hv | exact sh v _ rfl (.inr rfl) hv
-- what is compared with none, and truths
theorem nilS_some {v : V} {u : Value} {b : Bool} (h : nilS v = some b) (k : VR ν ρ v u) : ∃ p l c, u = .slice p l c ∧ p.isNone = b := by
  cases v <;> first | (cases h; done) | skip
  · obtain rfl := Option.some.inj h; simp only [VR] at k; exact ⟨_, _, _, k, rfl⟩
  · obtain rfl := Option.some.inj h; simp only [VR] at k; obtain ⟨p, k⟩ := k; exact ⟨_, _, _, k, rfl⟩
  · obtain rfl := Option.some.inj h; simp only [VR] at k; obtain ⟨_, _, _, _, p, _, k, _⟩ := k; exact ⟨_, _, _, k, rfl⟩
theorem nilM_some {v : V} {u : Value} {b : Bool} (h : nilM v = some b) (k : VR ν ρ v u) : ∃ p, u = .map p ∧ p.isNone = b := by
  cases v <;> first | (cases h; done) | skip
  · obtain rfl := Option.some.inj h; simp only [VR] at k; exact ⟨_, k, rfl⟩
  · obtain rfl := Option.some.inj h; simp only [VR] at k; obtain ⟨_, _, _, k⟩ := k; exact ⟨_, k, rfl⟩
theorem nilF_some {v : V} {u : Value} {b : Bool} (h : nilF v = some b) (k : VR ν ρ v u) : (u = .nilFunc ∧ b = true) ∨ ∃ f x y, u = .func f x y ∧ b = false := by
  cases v <;> first | (cases h; done) | skip
  · obtain rfl := Option.some.inj h; simp only [VR] at k; exact .inl ⟨k, rfl⟩
  · obtain rfl := Option.some.inj h; simp only [VR] at k; obtain ⟨_, _, k, _⟩ := k; exact .inr ⟨_, _, _, k, rfl⟩
theorem nilI_some {v : V} {u : Value} {b : Bool} (h : nilI v = some b) (k : VR ν ρ v u) : (u = .nilIface ∧ b = true) ∨ ∃ f x, u = .iface f x ∧ b = false := by
  cases v <;> first | (cases h; done) | skip
  · obtain rfl := Option.some.inj h; simp only [VR] at k; exact .inl ⟨k, rfl⟩
  · obtain rfl := Option.some.inj h; simp only [VR] at k; obtain ⟨_, k, _⟩ := k; exact .inr ⟨_, _, k, rfl⟩
theorem eqNil_some {f : V → Option Bool} {x0 y : V} {e : Bool} (h : eqNil f x0 y = some e) : ∃ b c, f x0 = some b ∧ f y = some c ∧ (b = true ∨ c = true) ∧ e = (b && c) := by
  unfold eqNil at h
  obtain ⟨b, hb, h⟩ := ocase_ne h (by simp)
  cases b with
  | true => exact ⟨true, e, hb, h, .inl rfl, by simp⟩
  | false =>
    obtain ⟨c, hc, h⟩ := ocase_ne (show ocase (f y) none (fun y => bcase y none (some false)) = some e from h) (by simp)
    obtain ⟨rfl, h⟩ := bcase_ne h (by simp)
    obtain rfl := Option.some.inj h
    exact ⟨false, true, hb, hc, .inr rfl, rfl⟩
theorem eqXor_some {f : V → Option Bool} {x0 y : V} {e : Bool} (h : eqXor f x0 y = some e) : ∃ b c, f x0 = some b ∧ f y = some c ∧ b ≠ c ∧ e = false := by
  unfold eqXor at h
  obtain ⟨b, hb, h⟩ := ocase_ne h (by simp)
  obtain ⟨c, hc, h⟩ := ocase_ne (show ocase (f y) none (fun y => bcase b (bcase y none (some false)) (bcase y (some false) none)) = some e from h) (by simp)
  cases b <;> cases c <;> first
    | (cases h; done)
    | exact ⟨_, _, hb, hc, by simp, (Option.some.inj h).symm⟩
section
variable {t : TypeId} {d : TypeDesc}
theorem eqv_bool (h : P.underlying t = some .bool) (b c : Bool) : (Op.equal t (.bool b) (.bool c)).run P w = .ok (b == c) w := by
  suffices h' : ∀ n, (Op.equalIn (n + 1) t (.bool b) (.bool c)).run P w = .ok (b == c) w from h' 9999
  intro n
  simp only [Op.equalIn, Sem.run_bind, run_underlying h, Result.andThen_ok]; rfl
theorem eqv_pn {e : TypeId} (h : P.underlying t = some (.pointer e)) (b : Option Addr) : (Op.equal t (.pointer none) (.pointer b)).run P w = .ok b.isNone w := by
  suffices h' : ∀ n, (Op.equalIn (n + 1) t (.pointer none) (.pointer b)).run P w = .ok b.isNone w from h' 9999
  intro n
  simp only [Op.equalIn, Sem.run_bind, run_underlying h, Result.andThen_ok]; rfl
theorem eqv_ps {e : TypeId} (h : P.underlying t = some (.pointer e)) (b : Addr) : (Op.equal t (.pointer (some b)) (.pointer none)).run P w = .ok false w := by
  suffices h' : ∀ n, (Op.equalIn (n + 1) t (.pointer (some b)) (.pointer none)).run P w = .ok false w from h' 9999
  intro n
  simp only [Op.equalIn, Sem.run_bind, run_underlying h, Result.andThen_ok]; rfl
theorem eqv_pp {e n : TypeId} (h : P.underlying t = some (.pointer e)) (hs : (Go.sizeOf e).run P w = .ok (n + 1) w) (b c d : Nat) : (Op.equal t (.pointer (some ⟨b, c, none⟩)) (.pointer (some ⟨b, d, none⟩))).run P w = .ok (Nat.beq c d) w := by
  suffices h' : ∀ n, (Op.equalIn (n + 1) t (.pointer (some ⟨b, c, none⟩)) (.pointer (some ⟨b, d, none⟩))).run P w = .ok (Nat.beq c d) w from h' 9999
  intro n
  simp only [Op.equalIn, Sem.run_bind, run_underlying h, Result.andThen_ok, hs]
  rw [if_pos (by simp)]
  have h1 : (⟨b, c, none⟩ == (⟨b, d, none⟩ : Addr)) = Nat.beq c d := by rw [Bool.eq_iff_iff, Nat.beq_eq]; simp
  have h2 : ((⟨b, c, none⟩ : Addr).block == (⟨b, d, none⟩ : Addr).block) = true := by simp
  unfold sameAddr
  rw [if_pos h2, h1]; rfl
theorem eqv_sl {e : TypeId} (h : P.underlying t = some (.slice e)) {pa pb : Option Addr} {l c l' c' : Nat} (hor : pa.isNone = true ∨ pb.isNone = true) : (Op.equal t (.slice pa l c) (.slice pb l' c')).run P w = .ok (pa.isNone && pb.isNone) w := by
  suffices h' : ∀ n, (Op.equalIn (n + 1) t (.slice pa l c) (.slice pb l' c')).run P w = .ok (pa.isNone && pb.isNone) w from h' 9999
  intro n
  simp only [Op.equalIn, Sem.run_bind, run_underlying h, Result.andThen_ok]
  cases pa with
  | none => rfl
  | some a => cases pb with
    | none => rfl
    | some b => exact absurd hor (by simp)
theorem eqv_m {k e : TypeId} (h : P.underlying t = some (.map k e)) {pa pb : Option Nat} (hor : pa.isNone = true ∨ pb.isNone = true) : (Op.equal t (.map pa) (.map pb)).run P w = .ok (pa.isNone && pb.isNone) w := by
  suffices h' : ∀ n, (Op.equalIn (n + 1) t (.map pa) (.map pb)).run P w = .ok (pa.isNone && pb.isNone) w from h' 9999
  intro n
  simp only [Op.equalIn, Sem.run_bind, run_underlying h, Result.andThen_ok]
  cases pa with
  | none => rfl
  | some a => cases pb with
    | none => rfl
    | some b => exact absurd hor (by simp)
theorem eqv_f1 {p1 p2 p3} (h : P.underlying t = some (.func p1 p2 p3)) : (Op.equal t .nilFunc .nilFunc).run P w = .ok true w := by
  suffices h' : ∀ n, (Op.equalIn (n + 1) t .nilFunc .nilFunc).run P w = .ok true w from h' 9999
  intro n
  simp only [Op.equalIn, Sem.run_bind, run_underlying h, Result.andThen_ok]; rfl
theorem eqv_f2 {p1 p2 p3} (h : P.underlying t = some (.func p1 p2 p3)) (f x y) : (Op.equal t .nilFunc (.func f x y)).run P w = .ok false w := by
  suffices h' : ∀ n, (Op.equalIn (n + 1) t .nilFunc (.func f x y)).run P w = .ok false w from h' 9999
  intro n
  simp only [Op.equalIn, Sem.run_bind, run_underlying h, Result.andThen_ok]; rfl
theorem eqv_f3 {p1 p2 p3} (h : P.underlying t = some (.func p1 p2 p3)) (f x y) : (Op.equal t (.func f x y) .nilFunc).run P w = .ok false w := by
  suffices h' : ∀ n, (Op.equalIn (n + 1) t (.func f x y) .nilFunc).run P w = .ok false w from h' 9999
  intro n
  simp only [Op.equalIn, Sem.run_bind, run_underlying h, Result.andThen_ok]; rfl
theorem eqv_i1 {p1} (h : P.underlying t = some (.interface p1)) : (Op.equal t .nilIface .nilIface).run P w = .ok true w := by
  suffices h' : ∀ n, (Op.equalIn (n + 1) t .nilIface .nilIface).run P w = .ok true w from h' 9999
  intro n
  simp only [Op.equalIn, Sem.run_bind, run_underlying h, Result.andThen_ok]; rfl
theorem eqv_i2 {p1} (h : P.underlying t = some (.interface p1)) (f x) : (Op.equal t .nilIface (.iface f x)).run P w = .ok false w := by
  suffices h' : ∀ n, (Op.equalIn (n + 1) t .nilIface (.iface f x)).run P w = .ok false w from h' 9999
  intro n
  simp only [Op.equalIn, Sem.run_bind, run_underlying h, Result.andThen_ok]; rfl
theorem eqv_i3 {p1} (h : P.underlying t = some (.interface p1)) (f x) : (Op.equal t (.iface f x) .nilIface).run P w = .ok false w := by
  suffices h' : ∀ n, (Op.equalIn (n + 1) t (.iface f x) .nilIface).run P w = .ok false w from h' 9999
  intro n
  simp only [Op.equalIn, Sem.run_bind, run_underlying h, Result.andThen_ok]; rfl
end
theorem eqS_sound (hT : TTok P tt) {t : TypeId} {x0 y : V} {u u' : Value} {e : Bool} (hx : VR ν ρ x0 u) (hy : VR ν ρ y u') (hv : eqS (kindT tt t) x0 y = some e) (n : Nat) : (Op.equalIn (n + 1) t u u').run P w = .ok e w := by
  have hp : PathOk ν [] := fun c hc => by cases hc
  unfold kindT at hv
  split at hv
  · rename_i hu
    have hu' := und_ok hT hu
    obtain ⟨b, rfl, hv1⟩ := onB_ne (show onB x0 none (fun x0 => onB y none (fun y => some (bcase x0 (!y) y))) = some e from hv) (by simp)
    obtain ⟨c, rfl, hv2⟩ := onB_ne hv1 (by simp)
    obtain rfl := Option.some.inj hv2
    simp only [VR] at hx hy
    subst hx; subst hy
    rw [run_equalIn_bool' w n t b c hu']
    cases b <;> cases c <;> rfl
  · cases hv
  · rename_i k0 _ hu
    have hu' := und_ok hT hu
    obtain ⟨k, m, rfl, hv1⟩ := onI_ne (show onI x0 none (fun k m => onI y none (fun j n => bcase (Nat.beq (kN k) (kN j)) none (cmpZ [] .eql m n))) = some e from hv) (by simp)
    obtain ⟨j, m', rfl, hv2⟩ := onI_ne hv1 (by simp)
    obtain ⟨hk, hv3⟩ := bcase_ne hv2 (by simp)
    have hkj : k = j := by cases k <;> cases j <;> first | rfl | (simp [kN] at hk)
    subst hkj
    simp only [VR] at hx hy
    subst hx; subst hy
    have hc := cmpZ_sound hp hv3
    rw [run_equalIn_int w n t k k0 _ _ hu']
    have : (zval ν m == zval ν m') = e := by rw [← hc]; show _ = eqI _ _; rw [eqI_eq]; rfl
    rw [this]
  · rename_i hu
    have hu' := und_ok hT hu
    obtain ⟨s, rfl, hv1⟩ := onS_ne (show onS x0 none (fun s => onS y none (fun t => sEq [] s t)) = some e from hv) (by simp)
    obtain ⟨s', rfl, hv2⟩ := onS_ne hv1 (by simp)
    simp only [VR] at hx hy
    obtain ⟨b, rfl, hb⟩ := hx
    obtain ⟨c, rfl, hc⟩ := hy
    have := sEq_sound hp hv2 hb hc
    rw [run_equalIn_string w n t b c hu']
    rw [ByteArray.toList_eq, ByteArray.toList_eq, this]
  · cases hv
/-- the cells of a struct of scalars -/
theorem eqSs_sound (hT : TTok P tt) (xs ys : Array Value) (n : Nat) : ∀ (fs : List Field) (i : Nat) (l m : List V) (e : Bool), flatF tt fs i = true → VRs ν ρ l (xs.toList.drop i) → VRs ν ρ m (ys.toList.drop i) → eqSs l (codeF tt fs) m = some e → (Op.eqFields (n + 1) xs ys fs).run P w = .ok e w
  | [], i, l, m, e, _, _, _, hv => by
    cases l with
    | cons a l => obtain ⟨b, m', rfl, hv⟩ := lcase_ne (show lcase m none (fun b t => ocase (eqS (Nat.mod 0 4) a b) none (fun x => bcase x (some false) (eqSs l (Nat.div 0 4) t))) = some e from hv) (by simp); cases hv
    | nil =>
      have hv' : lcase m (some true) (fun _ _ => none) = some e := hv
      cases m with
      | cons b m => cases hv'
      | nil => obtain rfl := Option.some.inj (show some true = some e from hv'); simp [Op.eqFields]
  | f :: fs, i, l, m, e, hf, hx, hy, hv => by
    simp only [flatF, Bool.and_eq_true] at hf
    obtain ⟨⟨⟨h1, h2⟩, h3⟩, h4⟩ := hf
    have hk0 : 0 < kindT tt f.type := blt_iff.1 h3
    have hk4 : kindT tt f.type < 4 := by unfold kindT; split <;> omega
    have hmod : Nat.mod (codeF tt (f :: fs)) 4 = kindT tt f.type := by show (kindT tt f.type + 4 * codeF tt fs) % 4 = _; omega
    have hdiv : Nat.div (codeF tt (f :: fs)) 4 = codeF tt fs := by show (kindT tt f.type + 4 * codeF tt fs) / 4 = _; omega
    cases l with
    | nil =>
      obtain ⟨h0, _⟩ := bcase_ne (show bcase (Nat.beq (codeF tt (f :: fs)) 0) none (lcase m (some true) (fun _ _ => none)) = some e from hv) (by simp)
      have h0 := Nat.eq_of_beq_eq_true h0
      rw [h0] at hmod
      have : (0 : Nat) % 4 = kindT tt f.type := hmod
      omega
    | cons a l =>
      obtain ⟨b, m', rfl, hv1⟩ := lcase_ne (show lcase m none (fun b t => ocase (eqS (Nat.mod (codeF tt (f :: fs)) 4) a b) none (fun x => bcase x (some false) (eqSs l (Nat.div (codeF tt (f :: fs)) 4) t))) = some e from hv) (by simp)
      rw [hmod, hdiv] at hv1
      obtain ⟨r, hr, hv2⟩ := ocase_ne hv1 (by simp)
      clear hv hv1
      have hv := hv2
      clear hv2
      have h2 := Nat.eq_of_beq_eq_true h2
      have hnm : f.name ≠ "_" := by simpa using h1
      obtain ⟨ua, hua, hra⟩ := hx.get (i := 0) rfl
      obtain ⟨ub, hub, hrb⟩ := hy.get (i := 0) rfl
      rw [List.getElem?_drop, Nat.add_zero, Array.getElem?_toList] at hua hub
      have hagg : ∀ w, (isAgg f.type).run P w = .ok false w := fun w => by
        refine agg_ok hT ?_
        clear hr hmod hdiv hk4 hv
        unfold kindT at hk0
        unfold aggT
        cases hu : und tt f.type with
        | none => rw [hu] at hk0; simp at hk0
        | some d => rw [hu] at hk0; cases d <;> first | rfl | (simp at hk0)
      have hpa : ∀ w, (part f.type xs f.offset).run P w = .ok ua w := fun w => by simp [part, hagg, h2, hua]
      have hpb : ∀ w, (part f.type ys f.offset).run P w = .ok ub w := fun w => by simp [part, hagg, h2, hub]
      have heq := eqS_sound (w := w) hT hra hrb hr n
      have hxt : VRs ν ρ l (xs.toList.drop (i + 1)) := by have := hx.drop 1; rw [List.drop_drop] at this; simpa using this
      have hyt : VRs ν ρ m' (ys.toList.drop (i + 1)) := by have := hy.drop 1; rw [List.drop_drop] at this; simpa using this
      simp only [Op.eqFields, hnm, ne_eq, not_false_eq_true, if_true, Sem.run_bind, hpa, hpb, heq, Result.andThen_ok]
      cases r with
      | false => obtain rfl := Option.some.inj (show some false = some e from hv); simp
      | true => simp; exact eqSs_sound hT xs ys n fs (i + 1) l m' e h4 hxt hyt hv
theorem p_eq (hT : TTok P tt) {t ty : TypeId} {x y : Operand} {p q : Src} {op : BinOp} {n : Nat} {k : Bool} (hc : isCmp op = true) (ho : o.op = .binOp op t x y ty) (hx : VR ν ρ (sv p) (a.eval x)) (hy : VR ν ρ (sv q) (a.eval y))
    (hk : trEq tt op t x y p q = .pu (.eq n k p q)) (hv : eqK n k (sv p) (sv q) = some v) : Gives P ν ρ a o w v := by
  obtain ⟨e, he, hv2⟩ := ocase_ne hv (by simp)
  clear hv
  unfold trEq at hk
  split at hk
  · rename_i hu
    have hu' := und_ok hT hu
    injection hk with hk; injection hk with h1 h2; subst h1; subst h2
    obtain ⟨b, eb, he⟩ := onB_ne (show onB (sv p) none (fun x => onB (sv q) none (fun y => some (bcase x (!y) y))) = some e from he) (by simp)
    obtain ⟨c, ec, he⟩ := onB_ne he (by simp)
    rw [eb] at hx; rw [ec] at hy
    simp only [VR] at hx hy
    refine p_eqC0 hc ho (by rw [hx, hy]; cases op <;> simp [eqGuard]) (by rw [hx]; simp) (by rw [hx]; simp) (by rw [hx]; simp) (by rw [hx]; simp) (e := e) ?_ hv2
    obtain rfl := Option.some.inj he
    rw [hx, hy, eqv_bool hu']
    cases b <;> cases c <;> rfl
  · cases hk
  · cases hk
  · rename_i el hu
    have hu' := und_ok hT hu
    split at hk
    · rename_i sz hsz
      have hs := size_ok (w := w) hT hsz
      injection hk with hk; injection hk with h1 h2; subst h1; subst h2
      have he' : eqP (sv p) (sv q) = some e := he
      have main : ∃ pa pb, a.eval x = .pointer pa ∧ a.eval y = .pointer pb ∧ (Op.equal t (.pointer pa) (.pointer pb)).run P w = .ok e w := by
        generalize sv p = vp at *; generalize sv q = vq at *
        cases vp <;> first | (cases he'; done) | skip
        · simp only [VR] at hx
          cases vq <;> first | (cases he'; done) | skip
          · obtain rfl := Option.some.inj he'; simp only [VR] at hy; exact ⟨_, _, hx, hy, eqv_pn hu' _⟩
          · obtain rfl := Option.some.inj he'; simp only [VR] at hy; obtain ⟨b, c, m, _, hy⟩ := hy; exact ⟨_, _, hx, hy, eqv_pn hu' _⟩
        · rename_i x1 o1
          simp only [VR] at hx
          obtain ⟨b, c, m, e1, hx⟩ := hx
          cases vq <;> first | (cases he'; done) | skip
          · obtain rfl := Option.some.inj he'; simp only [VR] at hy; exact ⟨_, _, hx, hy, eqv_ps hu' _⟩
          · rename_i x2 o2
            simp only [VR] at hy
            obtain ⟨b', c', m', e2, hy⟩ := hy
            obtain ⟨h3, h4⟩ := bcase_ne (show bcase (bpEq x1 x2) none (some (Nat.beq o1 o2)) = some e from he') (by simp)
            obtain rfl := (bpEq_iff _ _).1 h3
            rw [e1] at e2
            obtain ⟨rfl, rfl, rfl⟩ : b = b' ∧ c = c' ∧ m = m' := by simpa using e2
            obtain rfl := Option.some.inj h4
            refine ⟨_, _, hx, hy, ?_⟩
            rw [eqv_pp hu' hs]
            congr 1; rw [Bool.eq_iff_iff, Nat.beq_eq, Nat.beq_eq]; omega
      obtain ⟨pa, pb, e1, e2, e3⟩ := main
      exact p_eqC0 hc ho (by rw [e1, e2]; cases op <;> simp [eqGuard]) (by rw [e1]; simp) (by rw [e1]; simp) (by rw [e1]; simp) (by rw [e1]; simp) (e := e) (by rw [e1, e2]; exact e3) hv2
    · cases hk
  · rename_i el hu
    have hu' := und_ok hT hu
    injection hk with hk; injection hk with h1 h2; subst h1; subst h2
    obtain ⟨b, c, hb, hc', hor, rfl⟩ := eqNil_some (show eqNil nilS (sv p) (sv q) = some e from he)
    obtain ⟨pa, l, cp, e1, e1'⟩ := nilS_some hb hx
    obtain ⟨pb, l', cp', e2, e2'⟩ := nilS_some hc' hy
    refine p_eqC0 hc ho (by rw [e1, e2]; cases op <;> simp [eqGuard]) (by rw [e1]; simp) (by rw [e1]; simp) (by rw [e1]; simp) (by rw [e1]; simp) (e := b && c) ?_ hv2
    rw [e1, e2]
    subst e1' e2'
    exact eqv_sl hu' hor
  · rename_i kt el hu
    have hu' := und_ok hT hu
    injection hk with hk; injection hk with h1 h2; subst h1; subst h2
    obtain ⟨b, c, hb, hc', hor, rfl⟩ := eqNil_some (show eqNil nilM (sv p) (sv q) = some e from he)
    obtain ⟨pa, e1, e1'⟩ := nilM_some hb hx
    obtain ⟨pb, e2, e2'⟩ := nilM_some hc' hy
    refine p_eqC0 hc ho (by rw [e1, e2]; cases op <;> simp [eqGuard]) (by rw [e1]; simp) (by rw [e1]; simp) (by rw [e1]; simp) (by rw [e1]; simp) (e := b && c) ?_ hv2
    rw [e1, e2]
    subst e1' e2'
    exact eqv_m hu' hor
  · rename_i p1 p2 p3 hu
    have hu' := und_ok hT hu
    injection hk with hk; injection hk with h1 h2; subst h1; subst h2
    obtain ⟨b, c, hb, hc', hor, rfl⟩ := eqNil_some (show eqNil nilF (sv p) (sv q) = some e from he)
    rcases nilF_some hb hx with ⟨e1, rfl⟩ | ⟨f, z, z', e1, rfl⟩ <;> rcases nilF_some hc' hy with ⟨e2, rfl⟩ | ⟨f', y1, y2, e2, rfl⟩ <;> first
      | (simp at hor; done)
      | (refine p_eqC0 hc ho (by rw [e1, e2]; cases op <;> simp [eqGuard]) (by rw [e1]; simp) (by rw [e1]; simp) (by rw [e1]; simp) (by rw [e1]; simp) ?_ hv2
         rw [e1, e2]
         first | exact eqv_f1 hu' | exact eqv_f2 hu' _ _ _ | exact eqv_f3 hu' _ _ _)
  · rename_i p1 hu
    have hu' := und_ok hT hu
    cases hn : (isNilC x || isNilC y) with
    | false =>
      rw [hn] at hk
      have hk' : K.pu (.eq 6 (isNeq op) p q) = .pu (.eq n k p q) := hk
      injection hk' with hk'; injection hk' with h1 h2; subst h1; subst h2
      obtain ⟨b, c, hb, hc', hor, rfl⟩ := eqXor_some (show eqXor nilI (sv p) (sv q) = some e from he)
      rcases nilI_some hb hx with ⟨e1, rfl⟩ | ⟨f, z, e1, rfl⟩ <;> rcases nilI_some hc' hy with ⟨e2, rfl⟩ | ⟨f', y1, e2, rfl⟩ <;> first
        | (exact absurd rfl hor)
        | (refine p_eqC0 hc ho (by rw [e1, e2]; cases op <;> simp [eqGuard]) (by rw [e1]; simp) (by rw [e1]; simp) (by rw [e1]; simp) (by rw [e1]; simp) ?_ hv2
           rw [e1, e2]
           first | exact eqv_i2 hu' _ _ | exact eqv_i3 hu' _ _)
    | true =>
      rw [hn] at hk
      have hk' : K.pu (.eq 5 (isNeq op) p q) = .pu (.eq n k p q) := hk
      injection hk' with hk'; injection hk' with h1 h2; subst h1; subst h2
      obtain ⟨b, c, hb, hc', hor, rfl⟩ := eqNil_some (show eqNil nilI (sv p) (sv q) = some e from he)
      have hcx : ∀ z, isNilC z = true → z = .const .nilIface := by
        intro z hz
        cases z with
        | const u => cases u <;> first | rfl | cases hz
        | _ => cases hz
      have hcc : (x = .const .nilIface) ∨ (y = .const .nilIface) := by
        rcases Bool.or_eq_true_iff.1 hn with h | h
        · exact .inl (hcx _ h)
        · exact .inr (hcx _ h)
      rcases nilI_some hb hx with ⟨e1, rfl⟩ | ⟨f, z, e1, rfl⟩ <;> rcases nilI_some hc' hy with ⟨e2, rfl⟩ | ⟨f', y1, e2, rfl⟩ <;> first
        | (simp at hor; done)
        | (refine p_eqC0 hc ho (by rw [e1, e2]; rcases hcc with rfl | rfl <;> cases op <;> simp [eqGuard]) (by rw [e1]; simp) (by rw [e1]; simp) (by rw [e1]; simp) (by rw [e1]; simp) ?_ hv2
           rw [e1, e2]
           first | exact eqv_i1 hu' | exact eqv_i2 hu' _ _ | exact eqv_i3 hu' _ _)
  · rename_i fs hu
    have hu' := und_ok hT hu
    cases hfl : flatT tt t with
    | false => rw [hfl] at hk; cases hk
    | true =>
      rw [hfl] at hk
      have hk' : K.pu (.eq (7 + codeF tt fs.toList) (isNeq op) p q) = .pu (.eq n k p q) := hk
      injection hk' with hk'; injection hk' with h1 h2; subst h1; subst h2
      obtain ⟨hst, hgd⟩ := hT.flat t hfl
      have hff : flatF tt fs.toList 0 = true := by unfold flatT at hfl; rw [hu] at hfl; exact hfl
      rw [Nat.add_comm] at he
      obtain ⟨l, e1, he⟩ := onG_ne (show onG (sv p) none (fun l => onG (sv q) none (fun m => eqSs l (codeF tt fs.toList) m)) = some e from he) (by simp)
      obtain ⟨m, e2, he⟩ := onG_ne he (by simp)
      rw [e1] at hx; rw [e2] at hy
      simp only [VR] at hx hy
      obtain ⟨xs, hx, hxs⟩ := hx
      obtain ⟨ys, hy, hys⟩ := hy
      have hfo : P.fieldsOf t = fs := by unfold Program.fieldsOf; rw [hu']
      refine p_eqC0 hc ho (by rw [hx, hy]; exact run_eqGuard_agg w op t x y xs ys hgd) (by rw [hx]; simp) (by rw [hx]; simp) (by rw [hx]; simp) (by rw [hx]; simp) (e := e) ?_ hv2
      rw [hx, hy]
      suffices h' : ∀ n, (Op.equalIn (n + 1 + 1) t (.agg xs) (.agg ys)).run P w = .ok e w from h' 9998
      intro n
      rw [run_equalIn_struct w (n + 1) t xs ys (by rw [hfo]; exact hu') hst, hfo]
      exact eqSs_sound hT xs ys n fs.toList 0 l m e hff (by simpa using hxs) (by simpa using hys) he
  · cases hk
end Ev
end Go.Proofs.Ytlajbngfdbnoiaa
