/- What only reckons, operation by operation: the second half. -/
import Derived.Test.YtoinghomkcjkcaaGreatDoorKa
import Derived.Laws.StructEq
import Derived.Laws.Strings
import Derived.Laws.Concat
import Derived.Laws.Small
import Derived.Laws.Cover1
import Derived.Laws.BytesString
import Derived.Laws.IdiomStrings
import Derived.Laws.IdiomCopy
import Derived.Laws.MakeOwn
import Derived.Laws.AppendOwn
namespace Go.Proofs.YtoinghomkcjkcaaGreatDoor
set_option linter.unusedSimpArgs false
set_option linter.unusedVariables false
set_option linter.constructorNameAsVariable false
open Go Go.RowKit
namespace Ev
variable {path : List (Cd × Bool)}
variable {P : Program} {tt : TT} {ν : Nat → Int} {ρ : Pl} {ds : List (Option Tmp)} {sv : Src → V} {a : Act} {en : En} {w : World} {o : Oper} {v : V}
theorem isT_eq {n : Nat} {v : V} (h : isT n v = true) : tag v = n := Nat.eq_of_beq_eq_true h
theorem isT_s0 {v : V} (h : isT 6 v = true) : v = .s0 := by cases v <;> first | rfl | exact absurd (isT_eq h) (by simp [tag])
theorem isT_p0 {v : V} (h : isT 4 v = true) : v = .p0 := by cases v <;> first | rfl | exact absurd (isT_eq h) (by simp [tag])
theorem isT_f0 {v : V} (h : isT 9 v = true) : v = .f0 := by cases v <;> first | rfl | exact absurd (isT_eq h) (by simp [tag])
theorem isT_n0 {v : V} (h : isT 11 v = true) : v = .n0 := by cases v <;> first | rfl | exact absurd (isT_eq h) (by simp [tag])
theorem isT_m0 {v : V} (h : isT 15 v = true) : v = .m0 := by cases v <;> first | rfl | exact absurd (isT_eq h) (by simp [tag])
-- texts
theorem toList_eq (s : ByteArray) : s.toList = s.data.toList := ByteArray.toList_eq s
theorem byte_eq {b c : UInt8} : ((b.toNat : Int) = (c.toNat : Int)) ↔ b = c := by
  constructor
  · intro h; exact UInt8.toNat_inj.1 (by omega)
  · intro h; rw [h]
theorem sEq_sound (hp : PathOk ν path) : ∀ {x y : List Z} {r : Bool} {l m : List UInt8}, sEq path x y = some r → SR ν x l → SR ν y m → (l == m) = r
  | [], [], r, [], [], h, _, _ => by obtain rfl := Option.some.inj h; rfl
  | [], _ :: _, r, [], _ :: _, h, _, _ => by obtain rfl := Option.some.inj h; rfl
  | [], _, _, _ :: _, _, _, h, _ => h.elim
  | _, [], _, _, _ :: _, _, _, h => h.elim
  | _, _ :: _, _, _, [], _, _, h => h.elim
  | _ :: _, _, _, [], _, _, h, _ => h.elim
  | _ :: _, [], r, _ :: _, [], h, _, _ => by obtain rfl := Option.some.inj h; rfl
  | x :: xs, y :: ys, r, b :: l, c :: m, h, h1, h2 => by
    have h' : ocase (cmpZ path .eql x y) none (fun e => bcase e (some false) (sEq path xs ys)) = some r := h
    obtain ⟨e, he, h'⟩ := ocase_ne h' (by simp)
    have h3 := cmpZ_sound hp he
    simp only [cmpI, eqI_eq, h1.1, h2.1] at h3
    cases e with
    | false =>
      obtain rfl := Option.some.inj h'
      have : b ≠ c := fun e => by rw [e] at h3; simp at h3
      simp [this]
    | true =>
      have : b = c := byte_eq.1 (of_decide_eq_true h3)
      subst this
      have := sEq_sound hp (show sEq path xs ys = some r from h') h1.2 h2.2
      simpa using this
theorem sLt_sound (hp : PathOk ν path) : ∀ {x y : List Z} {r : Bool} {l m : List UInt8}, sLt path x y = some r → SR ν x l → SR ν y m → Op.bytesLess l m = r
  | [], [], r, [], [], h, _, _ => by obtain rfl := Option.some.inj h; rfl
  | [], _ :: _, r, [], _ :: _, h, _, _ => by obtain rfl := Option.some.inj h; rfl
  | [], _, _, _ :: _, _, _, h, _ => h.elim
  | _, [], _, _, _ :: _, _, _, h => h.elim
  | _, _ :: _, _, _, [], _, _, h => h.elim
  | _ :: _, _, _, [], _, _, h, _ => h.elim
  | _ :: _, [], r, _ :: _, [], h, _, _ => by obtain rfl := Option.some.inj h; rfl
  | x :: xs, y :: ys, r, b :: l, c :: m, h, h1, h2 => by
    have h' : ocase (cmpZ path .lss x y) none (fun l => bcase l (ocase (cmpZ path .eql x y) none (fun e => bcase e (some false) (sLt path xs ys))) (some true)) = some r := h
    obtain ⟨e, he, h'⟩ := ocase_ne h' (by simp)
    have h3 := cmpZ_sound hp he
    simp only [cmpI, ltI_eq, h1.1, h2.1] at h3
    have hlt : decide (b < c) = e := by rw [← h3, decide_eq_decide, UInt8.lt_iff_toNat_lt]; omega
    simp only [Op.bytesLess, hlt]
    cases e with
    | true => obtain rfl := Option.some.inj h'; rfl
    | false =>
      obtain ⟨e, he, h'⟩ := ocase_ne (show ocase (cmpZ path .eql x y) none (fun e => bcase e (some false) (sLt path xs ys)) = some r from h') (by simp)
      have h4 := cmpZ_sound hp he
      simp only [cmpI, eqI_eq, h1.1, h2.1] at h4
      cases e with
      | false =>
        obtain rfl := Option.some.inj h'
        have : b ≠ c := fun e => by rw [e] at h4; simp at h4
        simp [this]
      | true =>
        have : b = c := byte_eq.1 (of_decide_eq_true h4)
        subst this
        simpa using sLt_sound hp (show sLt path xs ys = some r from h') h1.2 h2.2
theorem binS_sound (he : EnOk ν en) {op : BinOp} {x y : List Z} {s t : ByteArray} (h : binS op en.path x y = some v) (hs : SR ν x s.data.toList) (ht : SR ν y t.data.toList) (ty : TypeId) (p q : Operand) :
    ∃ u, (do eqGuard op ty p q (.string s) (.string t); binOp op ty (.string s) (.string t) : Sem Value).run P w = .ok u w ∧ VR ν ρ v u := by
  have hg : (eqGuard op ty p q (.string s) (.string t)).run P w = .ok () w := by cases op <;> simp [eqGuard]
  simp only [Sem.run_bind, hg, Result.andThen_ok]
  cases op <;> first | (cases h; done) | skip
  · obtain ⟨h1, h⟩ := bcase_ne (show bcase (Nat.ble (Ev.len x) 8000000) none (bcase (Nat.ble (Ev.len y) 8000000) none (some (V.s (app x y)))) = some v from h) (by simp)
    obtain ⟨h2, h⟩ := bcase_ne h (by simp)
    obtain rfl := Option.some.inj h
    rw [len_eq] at h1 h2
    have hx := hs.length; have hy := ht.length
    have l1 := Nat.le_of_ble_eq_true h1; have l2 := Nat.le_of_ble_eq_true h2
    refine ⟨_, by simp only [binOp]; exact run_string_add w s t (by rw [size_eq]; omega) (by rw [size_eq]; omega), ?_⟩
    simp only [VR, app_eq]
    exact ⟨_, rfl, by simpa using hs.app ht⟩
  · obtain ⟨b, hb, rfl⟩ := okOB_some (show okOB (sEq en.path x y) = some v from h)
    refine ⟨_, by simp [binOp, Op.stringOp]; rfl, ?_⟩
    simp only [VR, toList_eq]; rw [sEq_sound he.path hb hs ht]
  · obtain ⟨b, hb, rfl⟩ := okOB_some (show okOB (oNot (sEq en.path x y)) = some v from h)
    obtain ⟨c, hc, hb⟩ := ocase_ne hb (by simp)
    obtain rfl := Option.some.inj hb
    refine ⟨_, by simp [binOp, Op.stringOp]; rfl, ?_⟩
    simp only [VR, toList_eq]; rw [← sEq_sound he.path hc hs ht]
  · obtain ⟨b, hb, rfl⟩ := okOB_some (show okOB (sLt en.path x y) = some v from h)
    refine ⟨_, by simp [binOp, Op.stringOp]; rfl, ?_⟩
    simp only [VR, toList_eq]; rw [sLt_sound he.path hb hs ht]
theorem p_bin (he : EnOk ν en) {t ty : TypeId} {x y : Operand} {p q : Src} {op : BinOp} (ho : o.op = .binOp op t x y ty) (hx : VR ν ρ (sv p) (a.eval x)) (hy : VR ν ρ (sv q) (a.eval y))
    (hv : binV en op (sv p) (sv q) = some v) : Gives P ν ρ a o w v := by
  have main : ∀ r, bin en op (sv p) (sv q) = some r → Gives P ν ρ a o w r := by
    intro r h
    generalize sv p = vx at *; generalize sv q = vy at *
    cases vx <;> first | (cases h; done) | skip
    · rename_i k z
      obtain ⟨j, n, rfl, h2⟩ := onI_ne (show onI vy none (fun j n => bcase (Nat.beq (kN k) (kN j)) none (binI op en k z n)) = some r from h) (by simp)
      obtain ⟨hk, h3⟩ := bcase_ne h2 (by simp)
      obtain rfl := kN_inj (Nat.eq_of_beq_eq_true hk)
      simp only [VR] at hx hy
      obtain ⟨u, hu, hr⟩ := binI_sound (P := P) (w := w) (ρ := ρ) he h3 t x y
      exact ⟨u, by simp only [execOp, ho, hx, hy, Sem.run_bind] at hu ⊢; rw [hu]; rfl, hr⟩
    · rename_i l
      obtain ⟨m, rfl, h2⟩ := onS_ne (show onS vy none (fun t => binS op en.path l t) = some r from h) (by simp)
      simp only [VR] at hx hy
      obtain ⟨s, es, hs⟩ := hx; obtain ⟨s', es', hs'⟩ := hy
      obtain ⟨u, hu, hr⟩ := binS_sound (P := P) (w := w) (ρ := ρ) he h2 hs hs' t x y
      exact ⟨u, by simp only [execOp, ho, es, es', Sem.run_bind] at hu ⊢; rw [hu]; rfl, hr⟩
  have sh : ∀ r op', op = op' → (op' = .shl ∨ op' = .shr) → onI (sv p) none (fun k m => onI (sv q) none (fun _ n => binSh en op' k m n)) = some r → Gives P ν ρ a o w r := by
    rintro r op' rfl hop h
    obtain ⟨k, z, ez, h⟩ := onI_ne h (by simp)
    obtain ⟨j, n, en', h⟩ := onI_ne h (by simp)
    rw [ez] at hx; rw [en'] at hy
    simp only [VR] at hx hy
    have h' : binI op en k z n = some r := by rcases hop with rfl | rfl <;> exact h
    obtain ⟨u, hu, hr⟩ := binI_sound (P := P) (w := w) (ρ := ρ) he h' t x y
    refine ⟨u, ?_, hr⟩
    simp only [execOp, ho, hx, hy, Sem.run_bind] at hu ⊢
    have e1 : (eqGuard op t x y (.int k (zval ν z)) (.int k (zval ν n))).run P w = .ok () w := by rcases hop with rfl | rfl <;> simp [eqGuard]
    have e2 : (eqGuard op t x y (.int k (zval ν z)) (.int j (zval ν n))).run P w = .ok () w := by rcases hop with rfl | rfl <;> simp [eqGuard]
    rw [e1] at hu; rw [e2]
    simp only [Result.andThen_ok] at hu ⊢
    have : binOp op t (.int k (zval ν z)) (.int j (zval ν n)) = binOp op t (.int k (zval ν z)) (.int k (zval ν n)) := by rcases hop with rfl | rfl <;> rfl
    rw [this, hu]; rfl
  cases op <;> first | exact main v hv | exact sh v _ rfl (.inl rfl) hv | exact sh v _ rfl (.inr rfl) hv
-- what is compared with none, and truths
theorem nilS_some {v : V} {u : Value} {b : Bool} (h : nilS v = some b) (k : VR ν ρ v u) : ∃ p l c, u = .slice p l c ∧ p.isNone = b := by
  cases v <;> first | (cases h; done) | skip
  · obtain rfl := Option.some.inj h; simp only [VR] at k; exact ⟨_, _, _, k, rfl⟩
  · obtain rfl := Option.some.inj h; simp only [VR] at k; obtain ⟨p, k⟩ := k; exact ⟨_, _, _, k, rfl⟩
  · obtain rfl := Option.some.inj h; simp only [VR] at k; obtain ⟨_, _, _, _, p, _, k, _⟩ := k; exact ⟨_, _, _, k, rfl⟩
theorem nilM_some {v : V} {u : Value} {b : Bool} (h : nilM v = some b) (k : VR ν ρ v u) : ∃ p, u = .map p ∧ p.isNone = b := by
  cases v <;> first | (cases h; done) | skip
  · obtain rfl := Option.some.inj h; simp only [VR] at k; exact ⟨_, k, rfl⟩
  · obtain rfl := Option.some.inj h; simp only [VR] at k; obtain ⟨_, _, _, k⟩ := k; exact ⟨_, k, rfl⟩
theorem nilF_some {v : V} {u : Value} {b : Bool} (h : nilF v = some b) (k : VR ν ρ v u) : (u = .nilFunc ∧ b = true) ∨ ∃ f x y, u = .func f x y ∧ b = false := by
  cases v <;> first | (cases h; done) | skip
  · obtain rfl := Option.some.inj h; simp only [VR] at k; exact .inl ⟨k, rfl⟩
  · obtain rfl := Option.some.inj h; simp only [VR] at k; obtain ⟨_, _, k, _⟩ := k; exact .inr ⟨_, _, _, k, rfl⟩
theorem nilI_some {v : V} {u : Value} {b : Bool} (h : nilI v = some b) (k : VR ν ρ v u) : (u = .nilIface ∧ b = true) ∨ ∃ f x, u = .iface f x ∧ b = false := by
  cases v <;> first | (cases h; done) | skip
  · obtain rfl := Option.some.inj h; simp only [VR] at k; exact .inl ⟨k, rfl⟩
  · obtain rfl := Option.some.inj h; simp only [VR] at k; obtain ⟨_, k, _⟩ := k; exact .inr ⟨_, _, k, rfl⟩
theorem eqNil_some {f : V → Option Bool} {x0 y : V} {e : Bool} (h : eqNil f x0 y = some e) : ∃ b c, f x0 = some b ∧ f y = some c ∧ (b = true ∨ c = true) ∧ e = (b && c) := by
  unfold eqNil at h
  obtain ⟨b, hb, h⟩ := ocase_ne h (by simp)
  cases b with
  | true => exact ⟨true, e, hb, h, .inl rfl, by simp⟩
  | false =>
    obtain ⟨c, hc, h⟩ := ocase_ne (show ocase (f y) none (fun y => bcase y none (some false)) = some e from h) (by simp)
    obtain ⟨rfl, h⟩ := bcase_ne h (by simp)
    obtain rfl := Option.some.inj h
    exact ⟨false, true, hb, hc, .inr rfl, rfl⟩
theorem eqXor_some {f : V → Option Bool} {x0 y : V} {e : Bool} (h : eqXor f x0 y = some e) : ∃ b c, f x0 = some b ∧ f y = some c ∧ b ≠ c ∧ e = false := by
  unfold eqXor at h
  obtain ⟨b, hb, h⟩ := ocase_ne h (by simp)
  obtain ⟨c, hc, h⟩ := ocase_ne (show ocase (f y) none (fun y => bcase b (bcase y none (some false)) (bcase y (some false) none)) = some e from h) (by simp)
  cases b <;> cases c <;> first
    | (cases h; done)
    | exact ⟨_, _, hb, hc, by simp, (Option.some.inj h).symm⟩
section
variable {t : TypeId} {d : TypeDesc}
theorem eqv_bool (h : P.underlying t = some .bool) (b c : Bool) : (Op.equal t (.bool b) (.bool c)).run P w = .ok (b == c) w := by
  suffices h' : ∀ n, (Op.equalIn (n + 1) t (.bool b) (.bool c)).run P w = .ok (b == c) w from h' 9999
  intro n
  simp only [Op.equalIn, Sem.run_bind, run_underlying h, Result.andThen_ok]; rfl
theorem eqv_pn {e : TypeId} (h : P.underlying t = some (.pointer e)) (b : Option Addr) : (Op.equal t (.pointer none) (.pointer b)).run P w = .ok b.isNone w := by
  suffices h' : ∀ n, (Op.equalIn (n + 1) t (.pointer none) (.pointer b)).run P w = .ok b.isNone w from h' 9999
  intro n
  simp only [Op.equalIn, Sem.run_bind, run_underlying h, Result.andThen_ok]; rfl
theorem eqv_ps {e : TypeId} (h : P.underlying t = some (.pointer e)) (b : Addr) : (Op.equal t (.pointer (some b)) (.pointer none)).run P w = .ok false w := by
  suffices h' : ∀ n, (Op.equalIn (n + 1) t (.pointer (some b)) (.pointer none)).run P w = .ok false w from h' 9999
  intro n
  simp only [Op.equalIn, Sem.run_bind, run_underlying h, Result.andThen_ok]; rfl
theorem eqv_pp {e n : TypeId} (h : P.underlying t = some (.pointer e)) (hs : (Go.sizeOf e).run P w = .ok (n + 1) w) (b c d : Nat) : (Op.equal t (.pointer (some ⟨b, c, none⟩)) (.pointer (some ⟨b, d, none⟩))).run P w = .ok (Nat.beq c d) w := by
  suffices h' : ∀ n, (Op.equalIn (n + 1) t (.pointer (some ⟨b, c, none⟩)) (.pointer (some ⟨b, d, none⟩))).run P w = .ok (Nat.beq c d) w from h' 9999
  intro n
  simp only [Op.equalIn, Sem.run_bind, run_underlying h, Result.andThen_ok, hs]
  rw [if_pos (by simp)]
  have h1 : (⟨b, c, none⟩ == (⟨b, d, none⟩ : Addr)) = Nat.beq c d := by rw [Bool.eq_iff_iff, Nat.beq_eq]; simp
  have h2 : ((⟨b, c, none⟩ : Addr).block == (⟨b, d, none⟩ : Addr).block) = true := by simp
  unfold sameAddr
  rw [if_pos h2, h1]; rfl
theorem eqv_sl {e : TypeId} (h : P.underlying t = some (.slice e)) {pa pb : Option Addr} {l c l' c' : Nat} (hor : pa.isNone = true ∨ pb.isNone = true) : (Op.equal t (.slice pa l c) (.slice pb l' c')).run P w = .ok (pa.isNone && pb.isNone) w := by
  suffices h' : ∀ n, (Op.equalIn (n + 1) t (.slice pa l c) (.slice pb l' c')).run P w = .ok (pa.isNone && pb.isNone) w from h' 9999
  intro n
  simp only [Op.equalIn, Sem.run_bind, run_underlying h, Result.andThen_ok]
  cases pa with
  | none => rfl
  | some a => cases pb with
    | none => rfl
    | some b => exact absurd hor (by simp)
theorem eqv_m {k e : TypeId} (h : P.underlying t = some (.map k e)) {pa pb : Option Nat} (hor : pa.isNone = true ∨ pb.isNone = true) : (Op.equal t (.map pa) (.map pb)).run P w = .ok (pa.isNone && pb.isNone) w := by
  suffices h' : ∀ n, (Op.equalIn (n + 1) t (.map pa) (.map pb)).run P w = .ok (pa.isNone && pb.isNone) w from h' 9999
  intro n
  simp only [Op.equalIn, Sem.run_bind, run_underlying h, Result.andThen_ok]
  cases pa with
  | none => rfl
  | some a => cases pb with
    | none => rfl
    | some b => exact absurd hor (by simp)
theorem eqv_f1 {p1 p2 p3} (h : P.underlying t = some (.func p1 p2 p3)) : (Op.equal t .nilFunc .nilFunc).run P w = .ok true w := by
  suffices h' : ∀ n, (Op.equalIn (n + 1) t .nilFunc .nilFunc).run P w = .ok true w from h' 9999
  intro n
  simp only [Op.equalIn, Sem.run_bind, run_underlying h, Result.andThen_ok]; rfl
theorem eqv_f2 {p1 p2 p3} (h : P.underlying t = some (.func p1 p2 p3)) (f x y) : (Op.equal t .nilFunc (.func f x y)).run P w = .ok false w := by
  suffices h' : ∀ n, (Op.equalIn (n + 1) t .nilFunc (.func f x y)).run P w = .ok false w from h' 9999
  intro n
  simp only [Op.equalIn, Sem.run_bind, run_underlying h, Result.andThen_ok]; rfl
theorem eqv_f3 {p1 p2 p3} (h : P.underlying t = some (.func p1 p2 p3)) (f x y) : (Op.equal t (.func f x y) .nilFunc).run P w = .ok false w := by
  suffices h' : ∀ n, (Op.equalIn (n + 1) t (.func f x y) .nilFunc).run P w = .ok false w from h' 9999
  intro n
  simp only [Op.equalIn, Sem.run_bind, run_underlying h, Result.andThen_ok]; rfl
theorem eqv_i1 {p1} (h : P.underlying t = some (.interface p1)) : (Op.equal t .nilIface .nilIface).run P w = .ok true w := by
  suffices h' : ∀ n, (Op.equalIn (n + 1) t .nilIface .nilIface).run P w = .ok true w from h' 9999
  intro n
  simp only [Op.equalIn, Sem.run_bind, run_underlying h, Result.andThen_ok]; rfl
theorem eqv_i2 {p1} (h : P.underlying t = some (.interface p1)) (f x) : (Op.equal t .nilIface (.iface f x)).run P w = .ok false w := by
  suffices h' : ∀ n, (Op.equalIn (n + 1) t .nilIface (.iface f x)).run P w = .ok false w from h' 9999
  intro n
  simp only [Op.equalIn, Sem.run_bind, run_underlying h, Result.andThen_ok]; rfl
theorem eqv_i3 {p1} (h : P.underlying t = some (.interface p1)) (f x) : (Op.equal t (.iface f x) .nilIface).run P w = .ok false w := by
  suffices h' : ∀ n, (Op.equalIn (n + 1) t (.iface f x) .nilIface).run P w = .ok false w from h' 9999
  intro n
  simp only [Op.equalIn, Sem.run_bind, run_underlying h, Result.andThen_ok]; rfl
end
theorem eqS_sound (hT : TTok P tt) {t : TypeId} {x0 y : V} {u u' : Value} {e : Bool} (hx : VR ν ρ x0 u) (hy : VR ν ρ y u') (hv : eqS (kindT tt t) x0 y = some e) (n : Nat) : (Op.equalIn (n + 1) t u u').run P w = .ok e w := by
  have hp : PathOk ν [] := fun c hc => by cases hc
  unfold kindT at hv
  split at hv
  · rename_i hu
    have hu' := und_ok hT hu
    obtain ⟨b, rfl, hv1⟩ := onB_ne (show onB x0 none (fun x0 => onB y none (fun y => some (bcase x0 (!y) y))) = some e from hv) (by simp)
    obtain ⟨c, rfl, hv2⟩ := onB_ne hv1 (by simp)
    obtain rfl := Option.some.inj hv2
    simp only [VR] at hx hy
    subst hx; subst hy
    rw [run_equalIn_bool' w n t b c hu']
    cases b <;> cases c <;> rfl
  · cases hv
  · rename_i k0 _ hu
    have hu' := und_ok hT hu
    obtain ⟨k, m, rfl, hv1⟩ := onI_ne (show onI x0 none (fun k m => onI y none (fun j n => bcase (Nat.beq (kN k) (kN j)) none (cmpZ [] .eql m n))) = some e from hv) (by simp)
    obtain ⟨j, m', rfl, hv2⟩ := onI_ne hv1 (by simp)
    obtain ⟨hk, hv3⟩ := bcase_ne hv2 (by simp)
    have hkj : k = j := by cases k <;> cases j <;> first | rfl | (simp [kN] at hk)
    subst hkj
    simp only [VR] at hx hy
    subst hx; subst hy
    have hc := cmpZ_sound hp hv3
    rw [run_equalIn_int w n t k k0 _ _ hu']
    have : (zval ν m == zval ν m') = e := by rw [← hc]; show _ = eqI _ _; rw [eqI_eq]; rfl
    rw [this]
  · rename_i hu
    have hu' := und_ok hT hu
    obtain ⟨s, rfl, hv1⟩ := onS_ne (show onS x0 none (fun s => onS y none (fun t => sEq [] s t)) = some e from hv) (by simp)
    obtain ⟨s', rfl, hv2⟩ := onS_ne hv1 (by simp)
    simp only [VR] at hx hy
    obtain ⟨b, rfl, hb⟩ := hx
    obtain ⟨c, rfl, hc⟩ := hy
    have := sEq_sound hp hv2 hb hc
    rw [run_equalIn_string w n t b c hu']
    rw [ByteArray.toList_eq, ByteArray.toList_eq, this]
  · cases hv
/-- the cells of a struct of scalars -/
theorem eqSs_sound (hT : TTok P tt) (xs ys : Array Value) (n : Nat) : ∀ (fs : List Field) (i : Nat) (l m : List V) (e : Bool), flatF tt fs i = true → VRs ν ρ l (xs.toList.drop i) → VRs ν ρ m (ys.toList.drop i) → eqSs l (codeF tt fs) m = some e → (Op.eqFields (n + 1) xs ys fs).run P w = .ok e w
  | [], i, l, m, e, _, _, _, hv => by
    cases l with
    | cons a l => obtain ⟨b, m', rfl, hv⟩ := lcase_ne (show lcase m none (fun b t => ocase (eqS (Nat.mod 0 4) a b) none (fun x => bcase x (some false) (eqSs l (Nat.div 0 4) t))) = some e from hv) (by simp); cases hv
    | nil =>
      have hv' : lcase m (some true) (fun _ _ => none) = some e := hv
      cases m with
      | cons b m => cases hv'
      | nil => obtain rfl := Option.some.inj (show some true = some e from hv'); simp [Op.eqFields]
  | f :: fs, i, l, m, e, hf, hx, hy, hv => by
    simp only [flatF, Bool.and_eq_true] at hf
    obtain ⟨⟨⟨h1, h2⟩, h3⟩, h4⟩ := hf
    have hk0 : 0 < kindT tt f.type := blt_iff.1 h3
    have hk4 : kindT tt f.type < 4 := by unfold kindT; split <;> omega
    have hmod : Nat.mod (codeF tt (f :: fs)) 4 = kindT tt f.type := by show (kindT tt f.type + 4 * codeF tt fs) % 4 = _; omega
    have hdiv : Nat.div (codeF tt (f :: fs)) 4 = codeF tt fs := by show (kindT tt f.type + 4 * codeF tt fs) / 4 = _; omega
    cases l with
    | nil =>
      obtain ⟨h0, _⟩ := bcase_ne (show bcase (Nat.beq (codeF tt (f :: fs)) 0) none (lcase m (some true) (fun _ _ => none)) = some e from hv) (by simp)
      have h0 := Nat.eq_of_beq_eq_true h0
      rw [h0] at hmod
      have : (0 : Nat) % 4 = kindT tt f.type := hmod
      omega
    | cons a l =>
      obtain ⟨b, m', rfl, hv1⟩ := lcase_ne (show lcase m none (fun b t => ocase (eqS (Nat.mod (codeF tt (f :: fs)) 4) a b) none (fun x => bcase x (some false) (eqSs l (Nat.div (codeF tt (f :: fs)) 4) t))) = some e from hv) (by simp)
      rw [hmod, hdiv] at hv1
      obtain ⟨r, hr, hv2⟩ := ocase_ne hv1 (by simp)
      clear hv hv1
      have hv := hv2
      clear hv2
      have h2 := Nat.eq_of_beq_eq_true h2
      have hnm : f.name ≠ "_" := by simpa using h1
      obtain ⟨ua, hua, hra⟩ := hx.get (i := 0) rfl
      obtain ⟨ub, hub, hrb⟩ := hy.get (i := 0) rfl
      rw [List.getElem?_drop, Nat.add_zero, Array.getElem?_toList] at hua hub
      have hagg : ∀ w, (isAgg f.type).run P w = .ok false w := fun w => by
        refine agg_ok hT ?_
        clear hr hmod hdiv hk4 hv
        unfold kindT at hk0
        unfold aggT
        cases hu : und tt f.type with
        | none => rw [hu] at hk0; simp at hk0
        | some d => rw [hu] at hk0; cases d <;> first | rfl | (simp at hk0)
      have hpa : ∀ w, (part f.type xs f.offset).run P w = .ok ua w := fun w => by simp [part, hagg, h2, hua]
      have hpb : ∀ w, (part f.type ys f.offset).run P w = .ok ub w := fun w => by simp [part, hagg, h2, hub]
      have heq := eqS_sound (w := w) hT hra hrb hr n
      have hxt : VRs ν ρ l (xs.toList.drop (i + 1)) := by have := hx.drop 1; rw [List.drop_drop] at this; simpa using this
      have hyt : VRs ν ρ m' (ys.toList.drop (i + 1)) := by have := hy.drop 1; rw [List.drop_drop] at this; simpa using this
      simp only [Op.eqFields, hnm, ne_eq, not_false_eq_true, if_true, Sem.run_bind, hpa, hpb, heq, Result.andThen_ok]
      cases r with
      | false => obtain rfl := Option.some.inj (show some false = some e from hv); simp
      | true => simp; exact eqSs_sound hT xs ys n fs (i + 1) l m' e h4 hxt hyt hv
theorem p_eq (hT : TTok P tt) {t ty : TypeId} {x y : Operand} {p q : Src} {op : BinOp} {n : Nat} {k : Bool} (hc : isCmp op = true) (ho : o.op = .binOp op t x y ty) (hx : VR ν ρ (sv p) (a.eval x)) (hy : VR ν ρ (sv q) (a.eval y))
    (hk : trEq tt op t x y p q = .pu (.eq n k p q)) (hv : eqK n k (sv p) (sv q) = some v) : Gives P ν ρ a o w v := by
  obtain ⟨e, he, hv2⟩ := ocase_ne hv (by simp)
  clear hv
  unfold trEq at hk
  split at hk
  · rename_i hu
    have hu' := und_ok hT hu
    injection hk with hk; injection hk with h1 h2; subst h1; subst h2
    obtain ⟨b, eb, he⟩ := onB_ne (show onB (sv p) none (fun x => onB (sv q) none (fun y => some (bcase x (!y) y))) = some e from he) (by simp)
    obtain ⟨c, ec, he⟩ := onB_ne he (by simp)
    rw [eb] at hx; rw [ec] at hy
    simp only [VR] at hx hy
    refine p_eqC0 hc ho (by rw [hx, hy]; cases op <;> simp [eqGuard]) (by rw [hx]; simp) (by rw [hx]; simp) (by rw [hx]; simp) (by rw [hx]; simp) (e := e) ?_ hv2
    obtain rfl := Option.some.inj he
    rw [hx, hy, eqv_bool hu']
    cases b <;> cases c <;> rfl
  · cases hk
  · cases hk
  · rename_i el hu
    have hu' := und_ok hT hu
    split at hk
    · rename_i sz hsz
      have hs := size_ok (w := w) hT hsz
      injection hk with hk; injection hk with h1 h2; subst h1; subst h2
      have he' : eqP (sv p) (sv q) = some e := he
      have main : ∃ pa pb, a.eval x = .pointer pa ∧ a.eval y = .pointer pb ∧ (Op.equal t (.pointer pa) (.pointer pb)).run P w = .ok e w := by
        generalize sv p = vp at *; generalize sv q = vq at *
        cases vp <;> first | (cases he'; done) | skip
        · simp only [VR] at hx
          cases vq <;> first | (cases he'; done) | skip
          · obtain rfl := Option.some.inj he'; simp only [VR] at hy; exact ⟨_, _, hx, hy, eqv_pn hu' _⟩
          · obtain rfl := Option.some.inj he'; simp only [VR] at hy; obtain ⟨b, c, m, _, hy⟩ := hy; exact ⟨_, _, hx, hy, eqv_pn hu' _⟩
        · rename_i x1 o1
          simp only [VR] at hx
          obtain ⟨b, c, m, e1, hx⟩ := hx
          cases vq <;> first | (cases he'; done) | skip
          · obtain rfl := Option.some.inj he'; simp only [VR] at hy; exact ⟨_, _, hx, hy, eqv_ps hu' _⟩
          · rename_i x2 o2
            simp only [VR] at hy
            obtain ⟨b', c', m', e2, hy⟩ := hy
            obtain ⟨h3, h4⟩ := bcase_ne (show bcase (bpEq x1 x2) none (some (Nat.beq o1 o2)) = some e from he') (by simp)
            obtain rfl := (bpEq_iff _ _).1 h3
            rw [e1] at e2
            obtain ⟨rfl, rfl, rfl⟩ : b = b' ∧ c = c' ∧ m = m' := by simpa using e2
            obtain rfl := Option.some.inj h4
            refine ⟨_, _, hx, hy, ?_⟩
            rw [eqv_pp hu' hs]
            congr 1; rw [Bool.eq_iff_iff, Nat.beq_eq, Nat.beq_eq]; omega
      obtain ⟨pa, pb, e1, e2, e3⟩ := main
      exact p_eqC0 hc ho (by rw [e1, e2]; cases op <;> simp [eqGuard]) (by rw [e1]; simp) (by rw [e1]; simp) (by rw [e1]; simp) (by rw [e1]; simp) (e := e) (by rw [e1, e2]; exact e3) hv2
    · cases hk
  · rename_i el hu
    have hu' := und_ok hT hu
    injection hk with hk; injection hk with h1 h2; subst h1; subst h2
    obtain ⟨b, c, hb, hc', hor, rfl⟩ := eqNil_some (show eqNil nilS (sv p) (sv q) = some e from he)
    obtain ⟨pa, l, cp, e1, e1'⟩ := nilS_some hb hx
    obtain ⟨pb, l', cp', e2, e2'⟩ := nilS_some hc' hy
    refine p_eqC0 hc ho (by rw [e1, e2]; cases op <;> simp [eqGuard]) (by rw [e1]; simp) (by rw [e1]; simp) (by rw [e1]; simp) (by rw [e1]; simp) (e := b && c) ?_ hv2
    rw [e1, e2]
    subst e1' e2'
    exact eqv_sl hu' hor
  · rename_i kt el hu
    have hu' := und_ok hT hu
    injection hk with hk; injection hk with h1 h2; subst h1; subst h2
    obtain ⟨b, c, hb, hc', hor, rfl⟩ := eqNil_some (show eqNil nilM (sv p) (sv q) = some e from he)
    obtain ⟨pa, e1, e1'⟩ := nilM_some hb hx
    obtain ⟨pb, e2, e2'⟩ := nilM_some hc' hy
    refine p_eqC0 hc ho (by rw [e1, e2]; cases op <;> simp [eqGuard]) (by rw [e1]; simp) (by rw [e1]; simp) (by rw [e1]; simp) (by rw [e1]; simp) (e := b && c) ?_ hv2
    rw [e1, e2]
    subst e1' e2'
    exact eqv_m hu' hor
  · rename_i p1 p2 p3 hu
    have hu' := und_ok hT hu
    injection hk with hk; injection hk with h1 h2; subst h1; subst h2
    obtain ⟨b, c, hb, hc', hor, rfl⟩ := eqNil_some (show eqNil nilF (sv p) (sv q) = some e from he)
    rcases nilF_some hb hx with ⟨e1, rfl⟩ | ⟨f, z, z', e1, rfl⟩ <;> rcases nilF_some hc' hy with ⟨e2, rfl⟩ | ⟨f', y1, y2, e2, rfl⟩ <;> first
      | (simp at hor; done)
      | (refine p_eqC0 hc ho (by rw [e1, e2]; cases op <;> simp [eqGuard]) (by rw [e1]; simp) (by rw [e1]; simp) (by rw [e1]; simp) (by rw [e1]; simp) ?_ hv2
         rw [e1, e2]
         first | exact eqv_f1 hu' | exact eqv_f2 hu' _ _ _ | exact eqv_f3 hu' _ _ _)
  · rename_i p1 hu
    have hu' := und_ok hT hu
    cases hn : (isNilC x || isNilC y) with
    | false =>
      rw [hn] at hk
      have hk' : K.pu (.eq 6 (isNeq op) p q) = .pu (.eq n k p q) := hk
      injection hk' with hk'; injection hk' with h1 h2; subst h1; subst h2
      obtain ⟨b, c, hb, hc', hor, rfl⟩ := eqXor_some (show eqXor nilI (sv p) (sv q) = some e from he)
      rcases nilI_some hb hx with ⟨e1, rfl⟩ | ⟨f, z, e1, rfl⟩ <;> rcases nilI_some hc' hy with ⟨e2, rfl⟩ | ⟨f', y1, e2, rfl⟩ <;> first
        | (exact absurd rfl hor)
        | (refine p_eqC0 hc ho (by rw [e1, e2]; cases op <;> simp [eqGuard]) (by rw [e1]; simp) (by rw [e1]; simp) (by rw [e1]; simp) (by rw [e1]; simp) ?_ hv2
           rw [e1, e2]
           first | exact eqv_i2 hu' _ _ | exact eqv_i3 hu' _ _)
    | true =>
      rw [hn] at hk
      have hk' : K.pu (.eq 5 (isNeq op) p q) = .pu (.eq n k p q) := hk
      injection hk' with hk'; injection hk' with h1 h2; subst h1; subst h2
      obtain ⟨b, c, hb, hc', hor, rfl⟩ := eqNil_some (show eqNil nilI (sv p) (sv q) = some e from he)
      have hcx : ∀ z, isNilC z = true → z = .const .nilIface := by
        intro z hz
        cases z with
        | const u => cases u <;> first | rfl | cases hz
        | _ => cases hz
      have hcc : (x = .const .nilIface) ∨ (y = .const .nilIface) := by
        rcases Bool.or_eq_true_iff.1 hn with h | h
        · exact .inl (hcx _ h)
        · exact .inr (hcx _ h)
      rcases nilI_some hb hx with ⟨e1, rfl⟩ | ⟨f, z, e1, rfl⟩ <;> rcases nilI_some hc' hy with ⟨e2, rfl⟩ | ⟨f', y1, e2, rfl⟩ <;> first
        | (simp at hor; done)
        | (refine p_eqC0 hc ho (by rw [e1, e2]; rcases hcc with rfl | rfl <;> cases op <;> simp [eqGuard]) (by rw [e1]; simp) (by rw [e1]; simp) (by rw [e1]; simp) (by rw [e1]; simp) ?_ hv2
           rw [e1, e2]
           first | exact eqv_i1 hu' | exact eqv_i2 hu' _ _ | exact eqv_i3 hu' _ _)
  · rename_i fs hu
    have hu' := und_ok hT hu
    cases hfl : flatT tt t with
    | false => rw [hfl] at hk; cases hk
    | true =>
      rw [hfl] at hk
      have hk' : K.pu (.eq (7 + codeF tt fs.toList) (isNeq op) p q) = .pu (.eq n k p q) := hk
      injection hk' with hk'; injection hk' with h1 h2; subst h1; subst h2
      obtain ⟨hst, hgd⟩ := hT.flat t hfl
      have hff : flatF tt fs.toList 0 = true := by unfold flatT at hfl; rw [hu] at hfl; exact hfl
      rw [Nat.add_comm] at he
      obtain ⟨l, e1, he⟩ := onG_ne (show onG (sv p) none (fun l => onG (sv q) none (fun m => eqSs l (codeF tt fs.toList) m)) = some e from he) (by simp)
      obtain ⟨m, e2, he⟩ := onG_ne he (by simp)
      rw [e1] at hx; rw [e2] at hy
      simp only [VR] at hx hy
      obtain ⟨xs, hx, hxs⟩ := hx
      obtain ⟨ys, hy, hys⟩ := hy
      have hfo : P.fieldsOf t = fs := by unfold Program.fieldsOf; rw [hu']
      refine p_eqC0 hc ho (by rw [hx, hy]; exact run_eqGuard_agg w op t x y xs ys hgd) (by rw [hx]; simp) (by rw [hx]; simp) (by rw [hx]; simp) (by rw [hx]; simp) (e := e) ?_ hv2
      rw [hx, hy]
      suffices h' : ∀ n, (Op.equalIn (n + 1 + 1) t (.agg xs) (.agg ys)).run P w = .ok e w from h' 9998
      intro n
      rw [run_equalIn_struct w (n + 1) t xs ys (by rw [hfo]; exact hu') hst, hfo]
      exact eqSs_sound hT xs ys n fs.toList 0 l m e hff (by simpa using hxs) (by simpa using hys) he
  · cases hk
end Ev
end Go.Proofs.YtoinghomkcjkcaaGreatDoor
/- What only reckons, operation by operation: places, parts, slices. -/
namespace Go.Proofs.YtoinghomkcjkcaaGreatDoor
set_option linter.unusedSimpArgs false
set_option linter.unusedVariables false
set_option linter.constructorNameAsVariable false
open Go Go.RowKit
namespace Ev
variable {path : List (Cd × Bool)}
variable {P : Program} {tt : TT} {ν : Nat → Int} {ρ : Pl} {ds : List (Option Tmp)} {sv : Src → V} {a : Act} {en : En} {w : World} {o : Oper} {v : V}
theorem add_at (b c n : Nat) : (⟨b, c, none⟩ : Addr).add n = ⟨b, c + n, none⟩ := by unfold Addr.add; split <;> simp_all
theorem ti_size (hT : TTok P tt) {t n : Nat} (k : sizeT tt t = some n) : ∃ i, P.info? t = some i ∧ i.size = n := by
  unfold sizeT at k
  cases e : ti tt t with
  | none => rw [e] at k; cases k
  | some i => rw [e] at k; exact ⟨i, hT _ _ e, Option.some.inj k⟩
theorem fieldPl_some {fs : List Field} {i off n : Nat} (h : fieldPl tt fs i = some (off, n)) : ∃ f, fs[i]? = some f ∧ f.offset = off ∧ sizeT tt f.type = some n := by
  unfold fieldPl at h
  rw [nth_eq] at h
  split at h
  · rename_i f e
    split at h
    · rename_i m e'
      obtain ⟨rfl, rfl⟩ : f.offset = off ∧ m = n := by simpa using h
      exact ⟨f, e, rfl, e'⟩
    · cases h
  · cases h
theorem p_faddr (hT : TTok P tt) {t f off n : Nat} {x : Operand} {s : Src} {fs : Array Field} (ho : o.op = .fieldAddr t x f) (ht : und tt t = some (.struct fs)) (hf : fieldPl tt fs.toList f = some (off, n + 1)) (hx : VR ν ρ (sv s) (a.eval x))
    (hv : faddr off (sv s) = some v) : Gives P ν ρ a o w v := by
  obtain ⟨y, q, e, hv⟩ := onP_ne hv (by simp)
  rw [e] at hx; simp only [VR] at hx
  obtain ⟨b, c, m, e1, hx⟩ := hx
  rw [forceN_eq] at hv; obtain rfl := Option.some.inj hv
  obtain ⟨fd, e2, rfl, e3⟩ := fieldPl_some hf
  have hs := size_ok (w := w) hT e3
  refine ⟨.pointer (some ⟨b, c + (q + fd.offset), none⟩), ?_, by simp only [VR]; exact ⟨b, c, m, e1, rfl⟩⟩
  have e2' : fs[f]? = some fd := by simpa using e2
  simp [execOp, ho, hx, Instr.fieldAt, run_underlying (und_ok hT ht), e2', Instr.sureAddr, fieldPlace, hs, add_at, Nat.add_assoc]
theorem p_part1 (hT : TTok P tt) {t off : Nat} {cs : Array Value} {l : List V} (ht : aggT tt t = some false) (hl : VRs ν ρ l cs.toList) (hv : nth l off = some v) : ∃ u, (part t cs off).run P w = .ok u w ∧ VR ν ρ v u := by
  rw [nth_eq] at hv
  obtain ⟨u, hu, hr⟩ := hl.get hv
  have hu' : cs[off]? = some u := by simpa using hu
  exact ⟨u, by simp [part, agg_ok hT ht, hu'], hr⟩
theorem p_partn (hT : TTok P tt) {t off n : Nat} {cs : Array Value} {l : List V} (ht : aggT tt t = some true) (hs : sizeT tt t = some n) (hl : VRs ν ρ l cs.toList) (hv : partn off n (.g l) = some v) : ∃ u, (part t cs off).run P w = .ok u w ∧ VR ν ρ v u := by
  obtain ⟨hn, hv⟩ := bcase_ne (show bcase (lenIs n (Ev.take n (Ev.drop off l))) none (some (V.g (Ev.take n (Ev.drop off l)))) = some v from hv) (by simp)
  obtain rfl := Option.some.inj hv
  refine ⟨.agg (cs.extract off (off + n)), by simp [part, agg_ok hT ht, size_ok hT hs], ?_⟩
  simp only [VR]
  refine ⟨_, rfl, ?_⟩
  rw [take_eq, drop_eq]
  have : (cs.extract off (off + n)).toList = (cs.toList.drop off).take n := by simp [Array.toList_extract, List.extract, show off + n - off = n by omega]
  rw [this]
  exact (hl.drop off).take n
theorem p_field (hT : TTok P tt) {t f : Nat} {x : Operand} {s : Src} {k : KP} (ho : o.op = .field t x f) (hk : trField tt t f s = .pu k) (hx : VR ν ρ (sv s) (a.eval x)) (hv : doP k en sv = some v) : Gives P ν ρ a o w v := by
  unfold trField at hk
  split at hk
  · rename_i fs ht
    rw [nth_eq] at hk
    split at hk
    · rename_i fd e
      have e' : fs[f]? = some fd := by simpa using e
      unfold trPart at hk
      split at hk
      · rename_i ha
        split at hk
        · rename_i n hs
          injection hk with hk; subst hk
          have hv' : partn fd.offset n (sv s) = some v := hv
          obtain ⟨l, el, _⟩ := onG_ne hv' (by simp)
          rw [el] at hv' hx; simp only [VR] at hx
          obtain ⟨cs, e1, hl⟩ := hx
          obtain ⟨u, hu, hr⟩ := p_partn (w := w) hT ha hs hl hv'
          exact ⟨u, by simp [execOp, ho, Instr.field, run_underlying (und_ok hT ht), e', e1, asAgg, hu], hr⟩
        · cases hk
      · rename_i ha
        injection hk with hk; subst hk
        obtain ⟨l, el, hv'⟩ := onG_ne (show part1 fd.offset (sv s) = some v from hv) (by simp)
        rw [el] at hx; simp only [VR] at hx
        obtain ⟨cs, e1, hl⟩ := hx
        obtain ⟨u, hu, hr⟩ := p_part1 (w := w) hT ha hl hv'
        exact ⟨u, by simp [execOp, ho, Instr.field, run_underlying (und_ok hT ht), e', e1, asAgg, hu], hr⟩
      · cases hk
    · cases hk
  · cases hk
theorem p_iaddr (hT : TTok P tt) (he : EnOk ν en) {t : Nat} {x i : Operand} {p q : Src} {k : KP} (ho : o.op = .indexAddr t x i) (hk : trIAddr tt t p q = .pu k) (hx : VR ν ρ (sv p) (a.eval x)) (hi : VR ν ρ (sv q) (a.eval i)) (hv : doP k en sv = some v) : Gives P ν ρ a o w v := by
  unfold trIAddr at hk
  split at hk
  · rename_i e ht
    split at hk
    · rename_i sz hs
      injection hk with hk; subst hk
      rcases onSl_or (show iaddr en.path sz (sv p) (sv q) = some v from hv) with ⟨_, _, _, _, _, hv⟩ | hv
      case inr =>
        rcases onSy_or (show iaddrY en.path sz (sv p) (sv q) = some v from hv) with ⟨x, z, l, e1, hv⟩ | hv
        · obtain ⟨ki, y, e2, hv⟩ := onI_ne hv (by simp)
          obtain ⟨h1, hv⟩ := bcase_ne hv (by simp)
          obtain ⟨h2, hv⟩ := bcase_ne hv (by simp)
          obtain ⟨b, h3, hv⟩ := ocase_ne hv (by simp)
          obtain ⟨h4, hv⟩ := bcase_ne hv (by simp)
          obtain rfl := Option.some.inj hv
          obtain rfl : sz = 1 := Nat.eq_of_beq_eq_true h1
          obtain rfl := zBeq_eq _ _ h2
          subst h4
          have h5 := cmpZ_sound he.path h3
          rw [e1] at hx; rw [e2] at hi; simp only [VR] at hx hi
          obtain ⟨b, c, nn, len, cap, pp, e3, hx, hl, hz, hc⟩ := hx
          have h6 : zval ν z < zval ν l := by
            have h7 : ltI (zval ν z) (zval ν l) = true := h5
            rw [ltI_eq] at h7; exact of_decide_eq_true h7
          obtain ⟨c0, rfl, rfl⟩ := hc h6
          obtain ⟨m, hm⟩ := Int.eq_ofNat_of_zero_le hz
          have h1' : m < len := by omega
          rw [hm] at hi e3
          simp only [Int.toNat_natCast] at e3
          refine ⟨.pointer (some ⟨b, c0 + m + 0, none⟩), ?_, by simp only [VR]; exact ⟨b, _, nn, e3, rfl⟩⟩
          simp [execOp, ho, hx, hi, Instr.indexAt, asIntOf, run_underlying (und_ok hT ht), size_ok hT hs, add_at, Nat.add_assoc, h1']
        · cases hv
      obtain ⟨y, off, s, n, e1, hv⟩ := onSl_ne (show iaddr0 sz (sv p) (sv q) = some v from hv) (by simp)
      obtain ⟨ki, m, e2, hv⟩ := asNat_ne hv (by simp)
      obtain ⟨h1, hv⟩ := bcase_ne hv (by simp)
      obtain ⟨h2, hv⟩ := bcase_ne hv (by simp)
      rw [forceN_eq] at hv; obtain rfl := Option.some.inj hv
      obtain rfl : s = sz := Nat.eq_of_beq_eq_true h2
      have h1' := blt_iff.1 h1
      rw [e1] at hx; rw [e2] at hi; simp only [VR, zval] at hx hi
      obtain ⟨b, c, nn, cap, pp, e3, hx, hle, hc⟩ := hx
      obtain ⟨rfl, hfit⟩ := hc (by omega)
      refine ⟨.pointer (some ⟨b, c + (off + m * s), none⟩), ?_, by simp only [VR]; exact ⟨b, c, nn, e3, rfl⟩⟩
      simp [execOp, ho, hx, hi, Instr.indexAt, asIntOf, run_underlying (und_ok hT ht), size_ok hT hs, add_at, Nat.add_assoc, h1']
    · cases hk
  · rename_i len e ht
    split at hk
    · rename_i sz hs
      injection hk with hk; subst hk
      obtain ⟨y, off, e1, hv⟩ := onP_ne (show aaddr sz len (sv p) (sv q) = some v from hv) (by simp)
      obtain ⟨ki, m, e2, hv⟩ := asNat_ne hv (by simp)
      obtain ⟨h1, hv⟩ := bcase_ne hv (by simp)
      rw [forceN_eq] at hv; obtain rfl := Option.some.inj hv
      have h1' := blt_iff.1 h1
      rw [e1] at hx; rw [e2] at hi; simp only [VR, zval] at hx hi
      obtain ⟨b, c, nn, e3, hx⟩ := hx
      refine ⟨.pointer (some ⟨b, c + (off + m * sz), none⟩), ?_, by simp only [VR]; exact ⟨b, c, nn, e3, rfl⟩⟩
      simp [execOp, ho, hx, hi, Instr.indexAt, asIntOf, run_underlying (und_ok hT ht), size_ok hT hs, add_at, Nat.add_assoc, h1', Instr.sureAddr]
    · cases hk
  · cases hk
theorem p_index (hT : TTok P tt) {t : Nat} {x i : Operand} {p q : Src} {k : KP} (ho : o.op = .index t x i) (hk : trIndex tt t p q = .pu k) (hx : VR ν ρ (sv p) (a.eval x)) (hi : VR ν ρ (sv q) (a.eval i)) (hv : doP k en sv = some v) : Gives P ν ρ a o w v := by
  unfold trIndex at hk
  split at hk
  · rename_i ht
    injection hk with hk; subst hk
    obtain ⟨l, e1, hv⟩ := onS_ne (show istr (sv p) (sv q) = some v from hv) (by simp)
    obtain ⟨ki, m, e2, hv⟩ := asNat_ne hv (by simp)
    obtain ⟨z, hz, hv⟩ := ocase_ne hv (by simp)
    obtain rfl := Option.some.inj hv
    rw [nth_eq] at hz
    rw [e1] at hx; rw [e2] at hi; simp only [VR, zval] at hx hi
    obtain ⟨s, es, hs⟩ := hx
    obtain ⟨b, hb, hzb⟩ := hs.get hz
    have hm : m < s.size := by rw [size_eq]; exact (List.getElem?_eq_some_iff.1 hb).1
    have hbb : s[m]'hm = b := by
      have h3 := (List.getElem?_eq_some_iff.1 hb).2
      rw [← h3]; cases s; rfl
    refine ⟨.int .u8 b.toNat, ?_, by simp only [VR]; rw [hzb]⟩
    simp only [execOp, ho, hi, es, Sem.run_bind]
    rw [run_index_string w t s ki m (und_ok hT ht), dif_pos ⟨by omega, by omega⟩]
    simp [hbb]
  · rename_i len e ht
    split at hk
    · rename_i n ha hs
      injection hk with hk; subst hk
      obtain ⟨ki, m, e2, hv⟩ := asNat_ne (show ipartn len n (sv p) (sv q) = some v from hv) (by simp)
      obtain ⟨h1, hv⟩ := bcase_ne hv (by simp)
      have h1' := blt_iff.1 h1
      obtain ⟨l, el, _⟩ := onG_ne hv (by simp)
      rw [el] at hv hx; rw [e2] at hi; simp only [VR, zval] at hx hi
      obtain ⟨cs, e1, hl⟩ := hx
      obtain ⟨u, hu, hr⟩ := p_partn (w := w) hT ha hs hl hv
      exact ⟨u, by simp [execOp, ho, e1, hi, Instr.index, asIntOf, run_underlying (und_ok hT ht), h1', size_ok hT hs]; rw [show m * n = Nat.mul m n from rfl, hu]; rfl, hr⟩
    · rename_i n ha hs
      cases hn : Nat.beq n 1 with
      | false => rw [hn] at hk; cases hk
      | true =>
        rw [hn] at hk
        obtain rfl := Nat.eq_of_beq_eq_true hn
        have hk' : K.pu (.ipart1 len p q) = .pu k := hk
        injection hk' with hk'; subst hk'
        obtain ⟨ki, m, e2, hv⟩ := asNat_ne (show ipart1 len (sv p) (sv q) = some v from hv) (by simp)
        obtain ⟨h1, hv⟩ := bcase_ne hv (by simp)
        have h1' := blt_iff.1 h1
        obtain ⟨l, el, hv⟩ := onG_ne hv (by simp)
        rw [el] at hx; rw [e2] at hi; simp only [VR, zval] at hx hi
        obtain ⟨cs, e1, hl⟩ := hx
        obtain ⟨u, hu, hr⟩ := p_part1 (w := w) hT ha hl hv
        exact ⟨u, by simp [execOp, ho, e1, hi, Instr.index, asIntOf, run_underlying (und_ok hT ht), h1', size_ok hT hs, hu], hr⟩
    · cases hk
  · cases hk
-- lengths
theorem lenS_some {v : V} {u : Value} {n : Nat} (h : lenS v = some n) (k : VR ν ρ v u) : ∃ p c, u = .slice p n c ∧ n ≤ c := by
  cases v <;> first | (cases h; done) | skip
  · obtain rfl := Option.some.inj h; simp only [VR] at k; exact ⟨_, _, k, Nat.le_refl _⟩
  · obtain rfl := Option.some.inj h; simp only [VR] at k; obtain ⟨p, k⟩ := k; exact ⟨_, _, k, Nat.le_refl _⟩
  · obtain rfl := Option.some.inj h; simp only [VR] at k; obtain ⟨_, _, _, cap, p, _, k, hle, _⟩ := k; exact ⟨_, _, k, hle⟩
theorem run_builtin {b : Builtin} {args : Array Operand} {ts : Array TypeId} (ho : o.op = .call ⟨.builtin b, args, ts⟩) : (execOp a.eval o).run P w = (builtin b ts o.type (args.map fun | .const _ => true | _ => false) (args.map a.eval)).run P w := by
  simp only [execOp, ho, resolve, invoke, Sem.run_bind, Sem.run_pure, Result.andThen_ok]; rfl
theorem p_len (hT : TTok P tt) {x : Operand} {s : Src} {t : Nat} {k : KP} (ho : o.op = .call ⟨.builtin .len, #[x], #[t]⟩) (hk : trLen tt t s = .pu k) (hx : VR ν ρ (sv s) (a.eval x)) (hv : doP k en sv = some v) : Gives P ν ρ a o w v := by
  have hrun : ∀ u, (Builtin.len_ #[t] o.type #[a.eval x]).run P w = .ok u w → (execOp a.eval o).run P w = .ok (.value u) w := by
    intro u hu
    rw [run_builtin ho]
    simp [builtin, hu]
  have fin : ∀ (n : Nat) , okN n = some v → (Builtin.len_ #[t] o.type #[a.eval x]).run P w = .ok (goInt n) w → Gives P ν ρ a o w v := by
    intro n hn hu
    rw [okN_eq] at hn
    obtain rfl := Option.some.inj hn
    exact ⟨_, hrun _ hu, by simp only [VR, goInt, zval]⟩
  unfold trLen at hk
  split at hk
  · rename_i ht
    injection hk with hk; subst hk
    obtain ⟨l, el, hv⟩ := onS_ne (show onS (sv s) none (fun l => okN (Ev.len l)) = some v from hv) (by simp)
    rw [el] at hx; simp only [VR] at hx
    obtain ⟨b, eb, hb⟩ := hx
    refine fin _ hv ?_
    rw [len_eq, eb]
    have h2 : b.size = l.length := by rw [size_eq, hb.length]
    simp [Builtin.len_, run_underlying (und_ok hT ht), h2]
  · rename_i e ht
    injection hk with hk; subst hk
    rcases onSy_or (show lenV (sv s) = some v from hv) with ⟨x, z, l, e1, hv⟩ | hv
    · obtain rfl := Option.some.inj hv
      rw [e1] at hx; simp only [VR] at hx
      obtain ⟨b, c, nn, len, cap, pp, e3, hx, hl, _⟩ := hx
      refine ⟨goInt len, hrun _ ?_, by simp only [VR, goInt]; rw [hl]⟩
      rw [hx]
      simp [Builtin.len_, run_underlying (und_ok hT ht)]
    obtain ⟨n, hn, hv⟩ := ocase_ne hv (by simp)
    obtain ⟨p, c, e1, _⟩ := lenS_some hn hx
    refine fin _ hv ?_
    rw [e1]
    simp [Builtin.len_, run_underlying (und_ok hT ht)]
  · cases hk
  · rename_i n e ht
    injection hk with hk; subst hk
    refine fin _ (show okN n = some v from hv) ?_
    simp [Builtin.len_, run_underlying (und_ok hT ht)]
  · rename_i e ht
    split at hk
    · rename_i n e' ht'
      injection hk with hk; subst hk
      refine fin _ (show okN n = some v from hv) ?_
      simp [Builtin.len_, run_underlying (und_ok hT ht), run_underlying (und_ok hT ht')]
    · cases hk
  · cases hk
theorem p_cap (hT : TTok P tt) {x : Operand} {s : Src} {t : Nat} {k : KP} (ho : o.op = .call ⟨.builtin .cap, #[x], #[t]⟩) (hk : trCap tt t s = .pu k) (hx : VR ν ρ (sv s) (a.eval x)) (hv : doP k en sv = some v) : Gives P ν ρ a o w v := by
  unfold trCap at hk
  split at hk
  · rename_i e ht
    injection hk with hk; subst hk
    have hv' : bcase (isT 6 (sv s)) (onE (sv s) none (fun _ _ => okN 0)) (okN 0) = some v := hv
    have : v = .i .i64 (.lit 0) ∧ ∃ p, a.eval x = .slice p 0 0 := by
      cases hs : isT 6 (sv s) with
      | true =>
        rw [hs] at hv'; rw [bcase_t, okN_eq] at hv'
        have := isT_s0 hs
        rw [this] at hx; simp only [VR] at hx
        exact ⟨(Option.some.inj hv').symm, _, hx⟩
      | false =>
        rw [hs] at hv'
        obtain ⟨y, q, e1, h⟩ := onE_ne (show onE (sv s) none (fun _ _ => okN 0) = some v from hv') (by simp)
        rw [okN_eq] at h
        rw [e1] at hx; simp only [VR] at hx
        obtain ⟨p, hx⟩ := hx
        exact ⟨(Option.some.inj h).symm, _, hx⟩
    obtain ⟨rfl, p, hx'⟩ := this
    refine ⟨goInt 0, ?_, by simp only [VR, goInt, zval]⟩
    rw [run_builtin ho]
    simp [builtin, hx', Builtin.cap_, run_underlying (und_ok hT ht)]
  · cases hk
theorem mm_some (he : EnOk ν en) {mx : Bool} {x0 y r : V} {u u' : Value} (h : mm en.path mx x0 y = some r) (hx : VR ν ρ x0 u) (hy : VR ν ρ y u') :
    ∃ k m k' n, u = .int k m ∧ u' = .int k' n ∧ VR ν ρ r (.int k (if mx then (if n > m then n else m) else (if n < m then n else m))) := by
  obtain ⟨k, m, rfl, h⟩ := onI_ne h (by simp)
  obtain ⟨k', n, rfl, h⟩ := onI_ne h (by simp)
  obtain ⟨c, hc, h⟩ := ocase_ne h (by simp)
  simp only [VR] at hx hy
  refine ⟨k, _, k', _, hx, hy, ?_⟩
  cases mx with
  | false =>
    have := cmpZ_sound he.path (show cmpZ en.path .lss n m = some c from hc)
    simp only [cmpI, ltI_eq] at this
    cases c with
    | false => obtain rfl := Option.some.inj h; simp only [VR]; rw [if_neg (of_decide_eq_false this)]; rfl
    | true => obtain rfl := Option.some.inj h; simp only [VR]; rw [if_pos (of_decide_eq_true this)]; rfl
  | true =>
    have := cmpZ_sound he.path (show cmpZ en.path .gtr n m = some c from hc)
    simp only [cmpI, ltI_eq] at this
    cases c with
    | false => obtain rfl := Option.some.inj h; simp only [VR, if_true]; rw [if_neg (of_decide_eq_false this)]
    | true => obtain rfl := Option.some.inj h; simp only [VR, if_true]; rw [if_pos (of_decide_eq_true this)]
theorem p_mm (he : EnOk ν en) {x y : Operand} {p q : Src} {ts : Array TypeId} {mx : Bool} (ho : o.op = .call ⟨.builtin (if mx then .max else .min), #[x, y], ts⟩) (hx : VR ν ρ (sv p) (a.eval x)) (hy : VR ν ρ (sv q) (a.eval y)) (hv : mm en.path mx (sv p) (sv q) = some v) : Gives P ν ρ a o w v := by
  obtain ⟨k, m, k', n, e1, e2, hr⟩ := mm_some he hv hx hy
  cases mx with
  | false => refine ⟨_, ?_, hr⟩; rw [run_builtin ho]; simp [builtin, e1, e2, run_min_int2]
  | true => refine ⟨_, ?_, hr⟩; rw [run_builtin ho]; simp [builtin, e1, e2, run_max_int2]
theorem p_mm3 (he : EnOk ν en) {x y z : Operand} {p q r : Src} {ts : Array TypeId} {mx : Bool} (ho : o.op = .call ⟨.builtin (if mx then .max else .min), #[x, y, z], ts⟩) (hx : VR ν ρ (sv p) (a.eval x)) (hy : VR ν ρ (sv q) (a.eval y)) (hz : VR ν ρ (sv r) (a.eval z))
    (hv : ocase (mm en.path mx (sv p) (sv q)) none (fun t => mm en.path mx t (sv r)) = some v) : Gives P ν ρ a o w v := by
  obtain ⟨t, ht, hv⟩ := ocase_ne hv (by simp)
  obtain ⟨k, m, k', n, e1, e2, hr⟩ := mm_some he ht hx hy
  obtain ⟨k2, m2, k3, n3, e3, e4, hr2⟩ := mm_some he hv hr hz
  injection e3 with e3 e3'; subst e3; subst e3'
  cases mx with
  | false => refine ⟨_, ?_, hr2⟩; rw [run_builtin ho]; simp [builtin, e1, e2, e4, run_min_int3]
  | true => refine ⟨_, ?_, hr2⟩; rw [run_builtin ho]; simp [builtin, e1, e2, e4, run_max_int3]
theorem mmf_sound (he : EnOk ν en) {mx : Bool} : ∀ {l : List V} {us : List Value} {x0 r : V} {u : Value}, mmf en.path mx l x0 = some r → VR ν ρ x0 u → VRs ν ρ l us → ∃ u', (us.foldlM (if mx then Builtin.max2 else Builtin.min2) u).run P w = .ok u' w ∧ VR ν ρ r u'
  | [], us, x0, r, u, h, hx, hl => by
    simp only [VRs] at hl; subst hl
    obtain rfl := Option.some.inj (show some x0 = some r from h)
    exact ⟨u, by simp, hx⟩
  | y :: l, us, x0, r, u, h, hx, hl => by
    simp only [VRs] at hl
    obtain ⟨u1, us', rfl, h1, h2⟩ := hl
    obtain ⟨t, ht, h⟩ := ocase_ne (show ocase (mm en.path mx x0 y) none (fun t => mmf en.path mx l t) = some r from h) (by simp)
    obtain ⟨k, m, k', n, rfl, rfl, hr⟩ := mm_some he ht hx h1
    obtain ⟨u', h3, h4⟩ := mmf_sound he h hr h2
    refine ⟨u', ?_, h4⟩
    rw [List.foldlM_cons, Sem.run_bind]
    cases mx with
    | false => simp only [Bool.false_eq_true, if_false] at h3 ⊢; rw [show (Builtin.min2 (.int k m) (.int k' n)).run P w = .ok (.int k (if n < m then n else m)) w by simp [Builtin.min2]]; exact h3
    | true => simp only [if_true] at h3 ⊢; rw [show (Builtin.max2 (.int k m) (.int k' n)).run P w = .ok (.int k (if n > m then n else m)) w by simp [Builtin.max2]]; exact h3
theorem p_mmn (he : EnOk ν en) {xs : Array Operand} {ss : List Src} {ts : Array TypeId} {mx : Bool} (ho : o.op = .call ⟨.builtin (if mx then .max else .min), xs, ts⟩) (hx : VRs ν ρ (srcs sv ss) (xs.toList.map a.eval))
    (hv : lcase (srcs sv ss) none (fun x0 r => mmf en.path mx r x0) = some v) : Gives P ν ρ a o w v := by
  obtain ⟨x0, r, e1, hv⟩ := lcase_ne hv (by simp)
  rw [e1] at hx
  simp only [VRs] at hx
  obtain ⟨u, us, e2, h1, h2⟩ := hx
  obtain ⟨u', h3, h4⟩ := mmf_sound (P := P) (w := w) he hv h1 h2

  refine ⟨u', ?_, h4⟩
  rw [run_builtin ho]
  cases mx with
  | false => simp only [Bool.false_eq_true, if_false] at h3 ⊢; simp [builtin, Builtin.min_, e2, h3]
  | true => simp only [if_true] at h3 ⊢; simp [builtin, Builtin.max_, e2, h3]
theorem p_tas (hT : TTok P tt) {x : Operand} {s : Src} {t t' : Nat} {ok : Bool} {k : KP} (ho : o.op = .typeAssert x t' t ok) (hk : trTas tt t ok s = .pu k) (hx : VR ν ρ (sv s) (a.eval x)) (hv : doP k en sv = some v) : Gives P ν ρ a o w v := by
  unfold trTas at hk
  split at hk
  · cases hk
  · rename_i d hni ht
    split at hk
    · rename_i z hz
      injection hk with hk; subst hk
      unfold zeroV at hz
      cases hti : ti tt t with
      | none => rw [hti] at hz; cases hz
      | some i =>
        rw [hti] at hz
        cases hzz : i.zero with
        | none => simp only [hzz] at hz; cases hz
        | some zz =>
          simp only [hzz] at hz
          have hzv : (zeroValue t).run P w = .ok zz w := by simp [zeroValue, typeInfo, hT _ _ hti, hzz]
          have hvz : VR ν ρ z zz := trVal_sound zz z hz
          have hu := run_underlying (und_ok hT ht) w
          have hv' : tas t ok z (sv s) = some v := hv
          generalize sv s = vs at *
          cases vs <;> first | (cases hv'; done) | skip
          · simp only [VR] at hx
            obtain ⟨rfl, h⟩ := bcase_ne (show bcase ok none (some (V.u [z, V.b false])) = some v from hv') (by simp)
            obtain rfl := Option.some.inj h
            refine ⟨.tuple #[zz, .bool false], ?_, by simp only [VR, VRs]; exact ⟨_, rfl, _, _, rfl, hvz, _, _, rfl, by simp only [VR], rfl⟩⟩
            simp only [execOp, ho, hx, Instr.typeAssert, Sem.run_bind, hu, Result.andThen_ok]
            cases d <;> first | exact absurd rfl (hni _) | (simp [hzv])
          · rename_i t2 w2
            simp only [VR] at hx
            obtain ⟨u2, hx, hr⟩ := hx
            have hv2 : bcase (Nat.beq t2 t) (bcase ok none (some (V.u [z, V.b false]))) (bcase ok (some w2) (some (V.u [w2, V.b true]))) = some v := hv'
            cases hb : Nat.beq t2 t with
            | false =>
              rw [hb] at hv2
              obtain ⟨rfl, h⟩ := bcase_ne (show bcase ok none (some (V.u [z, V.b false])) = some v from hv2) (by simp)
              obtain rfl := Option.some.inj h
              have hne : ¬ t2 = t := fun e => by rw [e, Nat.beq_refl] at hb; cases hb
              refine ⟨.tuple #[zz, .bool false], ?_, by simp only [VR, VRs]; exact ⟨_, rfl, _, _, rfl, hvz, _, _, rfl, by simp only [VR], rfl⟩⟩
              simp only [execOp, ho, hx, Instr.typeAssert, Sem.run_bind, hu, Result.andThen_ok]
              cases d <;> first | exact absurd rfl (hni _) | (simp [hzv, hne])
            | true =>
              rw [hb] at hv2
              obtain rfl := Nat.eq_of_beq_eq_true hb
              cases ok with
              | false =>
                obtain rfl := Option.some.inj hv2
                refine ⟨u2, ?_, hr⟩
                simp only [execOp, ho, hx, Instr.typeAssert, Sem.run_bind, hu, Result.andThen_ok]
                cases d <;> first | exact absurd rfl (hni _) | (simp)
              | true =>
                obtain rfl := Option.some.inj hv2
                refine ⟨.tuple #[u2, .bool true], ?_, by simp only [VR, VRs]; exact ⟨_, rfl, _, _, rfl, hr, _, _, rfl, by simp only [VR], rfl⟩⟩
                simp only [execOp, ho, hx, Instr.typeAssert, Sem.run_bind, hu, Result.andThen_ok]
                cases d <;> first | exact absurd rfl (hni _) | (simp)
    · cases hk
  · cases hk
end Ev
end Go.Proofs.YtoinghomkcjkcaaGreatDoor
/- What only reckons, operation by operation: slices, what is built; and all of it in one law. -/
namespace Go.Proofs.YtoinghomkcjkcaaGreatDoor
set_option linter.unusedSimpArgs false
set_option linter.unusedVariables false
set_option linter.constructorNameAsVariable false
open Go Go.RowKit
namespace Ev
variable {path : List (Cd × Bool)}
variable {P : Program} {tt : TT} {ν : Nat → Int} {ρ : Pl} {ds : List (Option Tmp)} {sv : Src → V} {a : Act} {en : En} {w : World} {o : Oper} {v : V}
theorem run_sb {isS : Bool} {len cap l h : Nat} {lo hi : Option Value} (hh : (hi = none ∧ h = len) ∨ ∃ k : IntKind, hi = some (.int k (h : Int))) (hc : h ≤ cap) (hl : (lo = none ∧ l = 0) ∨ ∃ k : IntKind, lo = some (.int k (l : Int))) (hlh : l ≤ h) :
    (Instr.sliceBounds isS len cap lo hi none).run P w = .ok (l, h, cap) w := by
  have e1 : ∀ (k : IntKind) (y : Nat) (code : BoundsCode), h ≤ y → (Instr.sliceBound (.int k (h : Int)) y code).run P w = .ok h w := fun k y code hy => by
    rw [run_sliceBound w k _ y code (by omega) (by omega)]; simp
  have e2 : ∀ (k : IntKind) (code : BoundsCode), (Instr.sliceBound (.int k (l : Int)) h code).run P w = .ok l w := fun k code => by
    rw [run_sliceBound w k _ h code (by omega) (by omega)]; simp
  rcases hh with ⟨rfl, rfl⟩ | ⟨k, rfl⟩ <;> rcases hl with ⟨rfl, rfl⟩ | ⟨k', rfl⟩
  · simp [Instr.sliceBounds]
  · simp [Instr.sliceBounds, e2]
  · simp [Instr.sliceBounds, e1 k _ _ hc]
  · simp [Instr.sliceBounds, e1 k _ _ hc, e2]
theorem run_sb3 {len cap : Nat} {lo : Option Value} {k k' : IntKind} (hl : lo = none ∨ ∃ k : IntKind, lo = some (.int k 0)) :
    (Instr.sliceBounds true len cap lo (some (.int k 0)) (some (.int k' 0))).run P w = .ok (0, 0, 0) w := by
  have e : ∀ (k : IntKind) (y : Nat) (code : BoundsCode), (Instr.sliceBound (.int k 0) y code).run P w = .ok 0 w := fun k y code => by
    rw [run_sliceBound w k _ y code (by omega) (by omega)]; simp
  rcases hl with rfl | ⟨k2, rfl⟩ <;> simp [Instr.sliceBounds, e]
/-- An operand that may be left out. -/
def OptR (ν : Nat → Int) (ρ : Pl) (sv : Src → V) (a : Act) : Option Operand → Option Src → Prop
  | none, none => True
  | some x, some s => VR ν ρ (sv s) (a.eval x)
  | _, _ => False
theorem optN_ne {x : Option Operand} {s : Option Src} {d : Nat} {r : V} {f : Nat → Option V} (hr : OptR ν ρ sv a x s) (h : optN (srcO sv s) d none f = some r) :
    ∃ n : Nat, ((x.map a.eval = none ∧ n = d) ∨ ∃ k : IntKind, x.map a.eval = some (.int k (n : Int))) ∧ f n = some r := by
  cases x with
  | none => cases s with
    | none => exact ⟨d, .inl ⟨rfl, rfl⟩, h⟩
    | some s => exact hr.elim
  | some x => cases s with
    | none => exact hr.elim
    | some s =>
      obtain ⟨k, n, e, h⟩ := asNat_ne (show asNat (sv s) none f = some r from h) (by simp)
      have hr' : VR ν ρ (sv s) (a.eval x) := hr
      rw [e] at hr'; simp only [VR, zval] at hr'
      exact ⟨n, .inr ⟨k, by simp [hr']⟩, h⟩
theorem p_sstr (hT : TTok P tt) {t : Nat} {x : Operand} {lo hi : Option Operand} {s : Src} {l' h' : Option Src} (ho : o.op = .slice t x lo hi none) (ht : und tt t = some .string) (hx : VR ν ρ (sv s) (a.eval x)) (hl : OptR ν ρ sv a lo l') (hh : OptR ν ρ sv a hi h')
    (hv : sstr (sv s) (srcO sv l') (srcO sv h') = some v) : Gives P ν ρ a o w v := by
  obtain ⟨l, e1, hv⟩ := onS_ne hv (by simp)
  obtain ⟨h, eh, hv⟩ := optN_ne hh hv
  obtain ⟨n, el, hv⟩ := optN_ne hl hv
  obtain ⟨h1, hv⟩ := bcase_ne hv (by simp)
  obtain ⟨h2, hv⟩ := bcase_ne hv (by simp)
  obtain rfl := Option.some.inj hv
  rw [e1] at hx; simp only [VR] at hx
  obtain ⟨b, eb, hb⟩ := hx
  have hsz : b.size = l.length := by rw [size_eq, hb.length]
  have l1 := Nat.le_of_ble_eq_true h1; have l2 := Nat.le_of_ble_eq_true h2
  rw [len_eq] at l2 eh
  have hr := run_sb (P := P) (w := w) (isS := false) (len := b.size) (cap := b.size) (by rw [hsz]; exact eh) (by omega) el l1
  refine ⟨.string (b.extract n h), ?_, ?_⟩
  · simp [execOp, ho, eb, Instr.sliceAt, run_underlying (und_ok hT ht), Instr.slice, hr]
  · simp only [VR]
    refine ⟨_, rfl, ?_⟩
    have : (b.extract n h).data.toList = (b.data.toList.drop n).take (h - n) := by
      rw [ByteArray.data_extract, Array.toList_extract]
    rw [this, take_eq, drop_eq]
    exact (hb.drop n).take _
theorem p_slice (hT : TTok P tt) {t e sz : Nat} {x : Operand} {lo hi mx : Option Operand} {s : Src} {l' h' m' : Option Src} (ho : o.op = .slice t x lo hi mx) (ht : und tt t = some (.slice e)) (hs : sizeT tt e = some sz) (hx : VR ν ρ (sv s) (a.eval x))
    (hl : OptR ν ρ sv a lo l') (hh : OptR ν ρ sv a hi h') (hm : OptR ν ρ sv a mx m') (hv : slice sz (sv s) (srcO sv l') (srcO sv h') (srcO sv m') = some v) : Gives P ν ρ a o w v := by
  have hsz := size_ok (w := w) hT hs
  have hu := run_underlying (und_ok hT ht) w
  -- two places, of whatever slice
  have two : ∀ (p : Option Addr) (len cap n h : Nat), a.eval x = .slice p len cap → mx = none → ((hi.map a.eval = none ∧ h = len) ∨ ∃ k : IntKind, hi.map a.eval = some (.int k (h : Int))) → h ≤ cap → ((lo.map a.eval = none ∧ n = 0) ∨ ∃ k : IntKind, lo.map a.eval = some (.int k (n : Int))) → n ≤ h →
      (execOp a.eval o).run P w = .ok (.value (.slice (if cap = n then p else p.map (·.add (n * sz))) (h - n) (cap - n))) w := by
    intro p len cap n h ex em eh hc el hle
    subst em
    have hr := run_sb (P := P) (w := w) (isS := true) (len := len) eh hc el hle
    simp [execOp, ho, ex, Instr.sliceAt, hu, Instr.slice, hr, hsz]
  have three : ∀ (p : Option Addr) (len cap : Nat) {r : V}, a.eval x = .slice p len cap → (∃ c, srcO sv m' = some c ∧ slice3 (srcO sv l') (srcO sv h') c r = some v) → v = r ∧ (execOp a.eval o).run P w = .ok (.value (.slice p 0 0)) w := by
    rintro p len cap r ex ⟨c, ec, h3⟩
    obtain ⟨hv0, eh0, h3⟩ := ocase_ne h3 (by simp)
    obtain ⟨k1, nb, e1, h3⟩ := asNat_ne h3 (by simp)
    obtain ⟨na, el, h3⟩ := optN_ne hl h3
    obtain ⟨k2, nc, e2, h3⟩ := asNat_ne h3 (by simp)
    obtain ⟨q1, h3⟩ := bcase_ne h3 (by simp)
    obtain ⟨q2, h3⟩ := bcase_ne h3 (by simp)
    obtain ⟨q3, h3⟩ := bcase_ne h3 (by simp)
    obtain rfl := Nat.eq_of_beq_eq_true q1
    obtain rfl := Nat.eq_of_beq_eq_true q2
    obtain rfl := Nat.eq_of_beq_eq_true q3
    refine ⟨(Option.some.inj h3).symm, ?_⟩
    cases hi with
    | none => cases h' with
      | none => cases eh0
      | some _ => exact hh.elim
    | some hi => cases h' with
      | none => exact hh.elim
      | some h' => cases mx with
        | none => cases m' with
          | none => cases ec
          | some _ => exact hm.elim
        | some mx => cases m' with
          | none => exact hm.elim
          | some m' =>
            obtain rfl := Option.some.inj (show some (sv h') = some hv0 from eh0)
            obtain rfl := Option.some.inj (show some (sv m') = some c from ec)
            have hh' : VR ν ρ (sv h') (a.eval hi) := hh
            have hm' : VR ν ρ (sv m') (a.eval mx) := hm
            rw [e1] at hh'; rw [e2] at hm'; simp only [VR, zval] at hh' hm'
            have hr := run_sb3 (P := P) (w := w) (len := len) (cap := cap) (lo := lo.map a.eval) (k := k1) (k' := k2) (by
              rcases el with ⟨el, _⟩ | ⟨k, el⟩
              · exact .inl el
              · exact .inr ⟨k, el⟩)
            simp only [Int.natCast_zero] at hh' hm'
            simp [execOp, ho, ex, Instr.sliceAt, hu, Instr.slice, hh', hm', hr, hsz]
  unfold slice at hv
  by_cases hsl : ∃ y off s' n, sv s = .sl y off s' n
  · obtain ⟨y, off, s', n, es⟩ := hsl
    rw [es] at hv hx
    obtain ⟨h1, hv⟩ := bcase_ne (show bcase (Nat.beq s' sz) none _ = some v from hv) (by simp)
    obtain rfl := Nat.eq_of_beq_eq_true h1
    simp only [VR] at hx
    obtain ⟨b, c, nn, cap, p, e3, ex, hle, hc⟩ := hx
    cases em : srcO sv m' with
    | none =>
      rw [em, ocase_none] at hv
      have hmn : mx = none := by
        cases mx with
        | none => rfl
        | some mx => cases m' with
          | none => exact hm.elim
          | some m' => cases em
      obtain ⟨h, eh, hv⟩ := optN_ne hh hv
      obtain ⟨m, el, hv⟩ := optN_ne hl hv
      obtain ⟨h1, hv⟩ := bcase_ne hv (by simp)
      obtain ⟨h2, hv⟩ := bcase_ne hv (by simp)
      rw [forceN_eq, forceN_eq] at hv
      obtain rfl := Option.some.inj hv
      have l1 := Nat.le_of_ble_eq_true h1; have l2 := Nat.le_of_ble_eq_true h2
      refine ⟨_, two _ _ _ m h ex hmn eh (by omega) el l1, ?_⟩
      simp only [VR]
      by_cases hcm : cap = m
      · rw [if_pos hcm]
        exact ⟨b, c, nn, cap - m, p, e3, rfl, by show Nat.sub h m ≤ _; show h - m ≤ _; omega, fun h0 => absurd (by omega) h0⟩
      · rw [if_neg hcm]
        obtain ⟨rfl, hfit⟩ := hc (by omega)
        refine ⟨b, c, nn, cap - m, _, e3, rfl, by show h - m ≤ _; omega, fun _ => ⟨?_, ?_⟩⟩
        · show (⟨b, c + off, none⟩ : Addr).add (m * s') = ⟨b, c + (off + m * s'), none⟩
          rw [add_at, Nat.add_assoc]
        · show off + m * s' + (cap - m) * s' ≤ nn
          obtain ⟨d, rfl⟩ : ∃ d, cap = m + d := ⟨cap - m, by omega⟩
          rw [Nat.add_sub_cancel_left]; rw [Nat.add_mul] at hfit; omega
    | some cc =>
      rw [em, ocase_some] at hv
      obtain ⟨rfl, hr⟩ := three _ _ _ ex ⟨cc, em, hv⟩
      exact ⟨_, hr, by simp only [VR]; exact ⟨p, rfl⟩⟩
  · have hv2 : bcase (isT 6 (sv s)) none (ocase (srcO sv m') (optN (srcO sv h') 0 none (fun b => optN (srcO sv l') 0 none (fun a => z3 a b 0 V.s0))) (fun c => slice3 (srcO sv l') (srcO sv h') c V.s0)) = some v := by
      generalize sv s = vs at hv hsl
      cases vs <;> first | exact hv | exact absurd ⟨_, _, _, _, rfl⟩ hsl
    obtain ⟨h6, hv3⟩ := bcase_ne hv2 (by simp)
    rw [isT_s0 h6] at hx; simp only [VR] at hx
    cases em : srcO sv m' with
    | none =>
      rw [em, ocase_none] at hv3
      have hmn : mx = none := by
        cases mx with
        | none => rfl
        | some mx => cases m' with
          | none => exact hm.elim
          | some m' => cases em
      obtain ⟨h, eh, hv4⟩ := optN_ne hh hv3
      obtain ⟨m, el, hv4⟩ := optN_ne hl hv4
      obtain ⟨q1, hv4⟩ := bcase_ne hv4 (by simp)
      obtain ⟨q2, hv4⟩ := bcase_ne hv4 (by simp)
      obtain ⟨q3, hv4⟩ := bcase_ne hv4 (by simp)
      obtain rfl := Nat.eq_of_beq_eq_true q1
      obtain rfl := Nat.eq_of_beq_eq_true q2
      obtain rfl := Option.some.inj hv4
      exact ⟨_, two _ _ _ 0 0 hx hmn eh (Nat.le_refl _) el (Nat.le_refl _), by simp [VR]⟩
    | some cc =>
      rw [em, ocase_some] at hv3
      obtain ⟨rfl, hr⟩ := three _ _ _ hx ⟨cc, em, hv3⟩
      exact ⟨_, hr, by simp only [VR]⟩
end Ev
end Go.Proofs.YtoinghomkcjkcaaGreatDoor
/- What is built of parts. -/
namespace Go.Proofs.YtoinghomkcjkcaaGreatDoor
set_option linter.unusedSimpArgs false
set_option linter.unusedVariables false
set_option linter.constructorNameAsVariable false
open Go Go.RowKit
namespace Ev
variable {path : List (Cd × Bool)}
variable {P : Program} {tt : TT} {ν : Nat → Int} {ρ : Pl} {ds : List (Option Tmp)} {sv : Src → V} {a : Act} {en : En} {w : World} {o : Oper} {v : V}
theorem fold_splice (off : Nat) : ∀ (cs : List Value) (j : Nat) (b : Array Value), off + j + cs.length ≤ b.size →
    ((cs.zipIdx j).foldl (fun b p => b.setIfInBounds (off + p.2) p.1) b).toList = splice (off + j) cs b.toList
  | [], j, b, h => by simp only [List.zipIdx_nil, List.foldl_nil]; rw [splice_eq _ _ _ (by simpa using h)]; simp
  | c :: cs, j, b, h => by
    simp only [List.length_cons] at h
    rw [List.zipIdx_cons, List.foldl_cons, fold_splice off cs (j + 1) _ (by simp; omega)]
    apply List.ext_getElem?
    intro i
    rw [splice_get (by simp; omega), splice_get (by simp; omega)]
    simp only [Array.toList_setIfInBounds, List.getElem?_set, List.length_cons, Array.length_toList]
    by_cases h1 : off + (j + 1) ≤ i ∧ i < off + (j + 1) + cs.length
    · rw [if_pos h1, if_pos (by omega), show i - (off + j) = (i - (off + (j + 1))) + 1 by omega, List.getElem?_cons_succ]
    · rw [if_neg h1]
      by_cases h2 : off + j = i
      · subst h2; rw [if_pos rfl, if_pos (by omega), if_pos (by omega)]; simp
      · rw [if_neg h2, if_neg (by omega)]
theorem VRs.splice {l l' : List V} {m m' : List Value} (h : VRs ν ρ l m) (h' : VRs ν ρ l' m') {off : Nat} (hf : off + l'.length ≤ l.length) : VRs ν ρ (Ev.splice off l' l) (Ev.splice off m' m) := by
  rw [splice_eq off l' l hf, splice_eq off m' m (by rw [h.length, h'.length]; exact hf), h'.length]
  exact ((h.take off).app h').app (h.drop _)
theorem place_sound (pl : Nat → Option (Nat × Nat)) : ∀ (ps : List (Nat × Operand)) (ss : List (Nat × Nat × Src)) (z l : List V) (b : Array Value), trParts ds z.length pl ps = some ss → OpR ν ρ ds sv a (ps.map (·.2)) → VRs ν ρ z b.toList →
    place (srcP sv ss) z = some l → ∃ cs, Instr.fill pl b (ps.map fun p => (p.1, a.eval p.2)) = some cs ∧ VRs ν ρ l cs.toList
  | [], ss, z, l, b, h, _, hz, hv => by
    simp only [trParts, Option.some.injEq] at h; subst h
    obtain rfl := Option.some.inj (show some z = some l from hv)
    exact ⟨b, rfl, hz⟩
  | p :: ps, ss, z, l, b, h, hr, hz, hv => by
    simp only [trParts] at h
    split at h
    · rename_i off n s ss' e1 e2 e3
      cases hb : Nat.ble (off + n) z.length with
      | false => rw [hb] at h; cases h
      | true =>
        rw [hb] at h
        have hfit := Nat.le_of_ble_eq_true hb
        obtain rfl := Option.some.inj (show some ((off, n, s) :: ss') = some ss from h)
        obtain ⟨hx, hv⟩ := bcase_ne' (show bcase (isT 0 (sv s)) (bcase (lenIs n (cellsV (sv s))) none (place (srcP sv ss') (Ev.splice off (cellsV (sv s)) z))) none = some l from hv) (by simp)
        obtain ⟨hn, hv⟩ := bcase_ne hv (by simp)
        have hn' := lenIs_iff.1 hn
        have hvr : VR ν ρ (sv s) (a.eval p.2) := hr p.2 (by simp) s e2
        have hcs := cellsV_sound (fun e => by rw [e] at hx; cases hx) hvr
        have hlen : (a.eval p.2).cells.size = n := by have := hcs.length; simpa [hn'] using this
        have hzl : b.size = z.length := by simpa using hz.length
        have hl2 : (Ev.splice off (cellsV (sv s)) z).length = z.length := splice_len (by omega)
        obtain ⟨cs, hf, hl⟩ := place_sound pl ps ss' (Ev.splice off (cellsV (sv s)) z) l ((a.eval p.2).cells.zipIdx.foldl (fun b q => b.setIfInBounds (off + q.2) q.1) b) (by rw [hl2]; exact e3) (fun x hx => hr x (by simp at hx ⊢; exact .inr hx)) (by
            rw [← Array.foldl_toList, Array.toList_zipIdx, fold_splice off _ 0 b (by simp only [Nat.add_zero, Array.length_toList]; omega), Nat.add_zero]
            exact hz.splice hcs (by omega)) hv
        refine ⟨cs, ?_, hl⟩
        simp only [List.map_cons, Instr.fill, e1]
        rw [if_neg (by simp only [Bool.or_eq_true, decide_eq_true_eq]; omega)]
        exact hf
    · cases h
theorem run_places (hT : TTok P tt) : ∀ (fs : List Field), allSz tt fs = true → ∃ l : List (Nat × Nat), (fs.mapM (fun f => do pure (f.offset, ← Go.sizeOf f.type) : Field → Sem (Nat × Nat))).run P w = .ok l w ∧ ∀ i, l[i]? = fieldPl tt fs i
  | [], _ => ⟨[], by simp, fun i => by simp [fieldPl, nth_eq]⟩
  | f :: fs, h => by
    have h' : (sizeT tt f.type).isSome = true ∧ allSz tt fs = true := by simpa [allSz] using h
    obtain ⟨l, hl, hg⟩ := run_places hT fs h'.2
    obtain ⟨n, hn⟩ := Option.isSome_iff_exists.1 h'.1
    refine ⟨(f.offset, n) :: l, ?_, fun i => ?_⟩
    · rw [List.mapM_cons]
      simp only [Sem.run_bind, size_ok hT hn, hl, Result.andThen_ok, Sem.run_pure]
    · cases i with
      | zero => simp [fieldPl, nth_eq, hn]
      | succ i => rw [List.getElem?_cons_succ, hg i]; simp [fieldPl, nth_eq]
theorem zero_ok (hT : TTok P tt) {t : Nat} {z : V} (h : zeroV tt t = some z) : ∃ u, (zeroValue t).run P w = .ok u w ∧ VR ν ρ z u ∧ trVal u = some z := by
  unfold zeroV at h
  cases hti : ti tt t with
  | none => rw [hti] at h; cases h
  | some i =>
    rw [hti] at h
    cases hz : i.zero with
    | none => simp only [hz] at h; cases h
    | some u => simp only [hz] at h; exact ⟨u, by simp [zeroValue, typeInfo, hT _ _ hti, hz], trVal_sound u z h, h⟩
theorem trVal_nx {u : Value} {z : V} (h : trVal u = some z) : z ≠ .x := by
  rintro rfl
  unfold trVal at h
  split at h <;> first | (cases h; done) | (split at h <;> cases h; done)
theorem zeroC_ok (hT : TTok P tt) {t : Nat} {z : List V} (h : zeroC tt t = some z) : ∃ u, (zeroValue t).run P w = .ok u w ∧ VRs ν ρ z u.cells.toList := by
  unfold zeroC at h
  cases hz : zeroV tt t with
  | none => rw [hz] at h; cases h
  | some v =>
    rw [hz] at h
    obtain rfl := Option.some.inj h
    obtain ⟨u, hu, hr, hn⟩ := zero_ok (w := w) (ν := ν) (ρ := ρ) hT hz
    exact ⟨u, hu, cellsV_sound (trVal_nx hn) hr⟩
theorem p_build (hT : TTok P tt) {t : Nat} {ps : Array (Nat × Operand)} {k : KP} (ho : o.op = .build t ps) (hk : trBuild tt ds t ps.toList = .pu k) (hr : OpR ν ρ ds sv a (ps.toList.map (·.2))) (hv : doP k en sv = some v) : Gives P ν ρ a o w v := by
  unfold trBuild at hk
  split at hk
  · rename_i z hz
    obtain ⟨u, hu, hzr⟩ := zeroC_ok (w := w) (ν := ν) (ρ := ρ) hT hz
    split at hk
    · rename_i fs ht
      split at hk
      · rename_i ss hss
        cases ha : allSz tt fs.toList with
        | false => rw [ha] at hk; cases hk
        | true =>
          rw [ha] at hk
          have hk' : K.pu (.build z ss) = .pu k := hk
          injection hk' with hk'; subst hk'
          obtain ⟨l, hl, hv⟩ := ocase_ne (show ocase (place (srcP sv ss) z) none (fun l => some (V.g l)) = some v from hv) (by simp)
          obtain rfl := Option.some.inj hv
          obtain ⟨pl, hpl, hg⟩ := run_places (w := w) hT fs.toList ha
          obtain ⟨cs, hf, hcs⟩ := place_sound (fieldPl tt fs.toList) ps.toList ss z l u.cells hss hr hzr hl
          refine ⟨.agg cs, ?_, by simp only [VR]; exact ⟨cs, rfl, hcs⟩⟩
          have hpl' : (fs.mapM (fun f => do pure (f.offset, ← Go.sizeOf f.type) : Field → Sem (Nat × Nat))).run P w = .ok pl.toArray w := by
            rw [Array.mapM_eq_mapM_toList]; simp only [Sem.run_map, hpl, Result.andThen_ok]
          have hfun : (fun i => pl.toArray[i]?) = fieldPl tt fs.toList := funext fun i => by rw [← hg i]; simp
          simp only [execOp, ho, Instr.build, Sem.run_bind, hu, Result.andThen_ok, run_underlying (und_ok hT ht), hpl', hfun]
          rw [Array.toList_map, hf]; rfl
      · cases hk
    · rename_i n e ht
      split at hk
      · rename_i sz hs
        split at hk
        · rename_i ss hss
          injection hk with hk; subst hk
          obtain ⟨l, hl, hv⟩ := ocase_ne (show ocase (place (srcP sv ss) z) none (fun l => some (V.g l)) = some v from hv) (by simp)
          obtain rfl := Option.some.inj hv
          obtain ⟨cs, hf, hcs⟩ := place_sound (fun i => some (i * sz, sz)) ps.toList ss z l u.cells hss hr hzr hl
          refine ⟨.agg cs, ?_, by simp only [VR]; exact ⟨cs, rfl, hcs⟩⟩
          simp only [execOp, ho, Instr.build, Sem.run_bind, hu, Result.andThen_ok, run_underlying (und_ok hT ht), size_ok hT hs]
          rw [Array.toList_map, hf]; rfl
        · cases hk
      · cases hk
    · cases hk
  · cases hk
theorem opR_one {x : Operand} (h : OpR ν ρ ds sv a [x]) {s : Src} (e : trSrc ds x = some s) : VR ν ρ (sv s) (a.eval x) := h x (by simp) s e
theorem optR_of {xs : List Operand} (h : OpR ν ρ ds sv a xs) {x : Option Operand} {s : Option Src} (e : trOpt ds x = some s) (hm : ∀ y, x = some y → y ∈ xs) : OptR ν ρ sv a x s := by
  cases x with
  | none => obtain rfl := Option.some.inj (show some none = some s from e); trivial
  | some x =>
    obtain ⟨s', e', rfl⟩ := Option.map_eq_some_iff.1 (show (trSrc ds x).map some = some s from e)
    exact h x (hm x rfl) s' e'
theorem trSrcs_two {x y : Operand} {l : List Src} (h : trSrcs ds [x, y] = some l) : ∃ p q, l = [p, q] ∧ trSrc ds x = some p ∧ trSrc ds y = some q := by
  simp only [trSrcs] at h
  split at h
  · rename_i s t e1 e2
    split at e2
    · rename_i s' t' e3 e4
      obtain rfl := Option.some.inj e4
      obtain rfl := Option.some.inj e2
      obtain rfl := Option.some.inj h
      exact ⟨_, _, rfl, e1, e3⟩
    · cases e2
  · cases h
theorem trSrcs_len : ∀ {xs : List Operand} {l : List Src}, trSrcs ds xs = some l → l.length = xs.length
  | [], l, h => by simp only [trSrcs, Option.some.injEq] at h; subst h; rfl
  | x :: xs, l, h => by
    simp only [trSrcs] at h
    split at h
    · rename_i s t e1 e2
      obtain rfl := Option.some.inj h
      simp [trSrcs_len e2]
    · cases h
theorem trSrcs_cons {x : Operand} {xs : List Operand} {l : List Src} (h : trSrcs ds (x :: xs) = some l) : ∃ p q, l = p :: q ∧ trSrc ds x = some p ∧ trSrcs ds xs = some q := by
  simp only [trSrcs] at h
  split at h
  · rename_i s t e1 e2
    obtain rfl := Option.some.inj h
    exact ⟨s, t, rfl, e1, e2⟩
  · cases h
theorem bif_ne {c : Bool} {k1 k : K} {w : Nat} (h : (bif c then k1 else K.no w) = k) (hk : ∀ w, K.no w ≠ k) : c = true ∧ k1 = k := by
  cases c with
  | true => exact ⟨rfl, h⟩
  | false => exact absurd h (hk _)
theorem len_two {α : Type} {l : List α} (h : l.length = 2) : ∃ x y, l = [x, y] := by
  match l, h with
  | [x, y], _ => exact ⟨x, y, rfl⟩
theorem len_three {α : Type} {l : List α} (h : l.length = 3) : ∃ x y z, l = [x, y, z] := by
  match l, h with
  | [x, y, z], _ => exact ⟨x, y, z, rfl⟩
/-- What only reckons gives what it gives in the small machine. -/
theorem doP_sound (hT : TTok P tt) (he : EnOk ν en) {k : KP} (hk : trK tt ds o.op = .pu k) (hr : OpR ν ρ ds sv a o.op.operands.toList) (hv : doP k en sv = some v) : Gives P ν ρ a o w v := by
  have nw : ∀ w, K.no w ≠ .pu k := fun w h => by cases h
  generalize hop : o.op = op at hk hr
  cases op <;> simp only [trK, no] at hk <;> try (cases hk; done)
  case move x =>
    obtain ⟨s, e, hk⟩ := s1_ne hk nw
    injection hk with hk; subst hk
    obtain rfl := Option.some.inj (show some (sv s) = some v from hv)
    exact p_move (.inl hop) (opR_one hr e)
  case assign x =>
    obtain ⟨s, e, hk⟩ := s1_ne hk nw
    injection hk with hk; subst hk
    obtain rfl := Option.some.inj (show some (sv s) = some v from hv)
    exact p_move (.inr hop) (opR_one hr e)
  case pick c x y =>
    split at hk
    · rename_i s e
      obtain ⟨p, q, e1, e2, hk⟩ := s2_ne hk nw
      injection hk with hk; subst hk
      exact p_pick hop (hr c (by simp [Op.operands]) _ e) (hr x (by simp [Op.operands]) _ e1) (hr y (by simp [Op.operands]) _ e2) hv
    · cases hk
  case alloc t => split at hk <;> cases hk
  case box t x =>
    split at hk
    · obtain ⟨s, e, hk⟩ := s1_ne hk nw; cases hk
    · cases hk
  case build t ps => exact p_build hT hop hk (by simpa [Op.operands] using hr) hv
  case buildSlice t n ps =>
    unfold trBSlice at hk
    repeat' split at hk
    all_goals first | (cases hk; done) | (obtain ⟨_, hk⟩ := bif_ne hk nw; cases hk)
  case load t x =>
    obtain ⟨s, e, hk⟩ := s1_ne hk nw
    unfold trLoad at hk
    repeat' split at hk
    all_goals cases hk
  case store t x y =>
    split at hk
    · obtain ⟨p, q, e1, e2, hk⟩ := s2_ne hk nw; cases hk
    · cases hk
  case nilCheck x =>
    obtain ⟨s, e, hk⟩ := s1_ne hk nw
    injection hk with hk; subst hk
    exact p_nilck hop (opR_one hr e) hv
  case binOp op t x y ty =>
    obtain ⟨p, q, e1, e2, hk⟩ := s2_ne hk nw
    have hx := hr x (by simp [Op.operands]) _ e1
    have hy := hr y (by simp [Op.operands]) _ e2
    unfold trBin at hk
    cases hc : isCmp op with
    | false =>
      rw [hc] at hk
      have hk' : K.pu (.bin op p q) = .pu k := hk
      injection hk' with hk'; subst hk'
      exact p_bin he hop hx hy hv
    | true =>
      rw [hc] at hk
      have hk' : trEq tt op t x y p q = .pu k := hk
      have : k = .bin op p q ∨ ∃ n b, k = .eq n b p q := by
        unfold trEq at hk'
        split at hk' <;> first
          | (injection hk' with h; exact .inr ⟨_, _, h.symm⟩)
          | (injection hk' with h; exact .inl h.symm)
          | (split at hk' <;> first | (injection hk' with h; exact .inr ⟨_, _, h.symm⟩) | (cases hk'; done))
          | (cases hz : (isNilC x || isNilC y) with
              | true => rw [hz] at hk'; exact .inr ⟨5, isNeq op, by (have h2 : K.pu (.eq 5 (isNeq op) p q) = .pu k := hk'; injection h2 with h2; exact h2.symm)⟩
              | false => rw [hz] at hk'; exact .inr ⟨6, isNeq op, by (have h2 : K.pu (.eq 6 (isNeq op) p q) = .pu k := hk'; injection h2 with h2; exact h2.symm)⟩)
          | (cases hz : flatT tt t <;> rw [hz] at hk' <;> first | (cases hk'; done) | exact .inr ⟨_, isNeq op, by (have h2 : K.pu (.eq _ (isNeq op) p q) = .pu k := hk'; injection h2 with h2; exact h2.symm)⟩)
          | (cases hk'; done)
      rcases this with rfl | ⟨n, b, rfl⟩
      · exact p_bin he hop hx hy hv
      · exact p_eq hT hc hop hx hy hk' hv
  case unOp u t x =>
    cases u <;> simp only [trK, no] at hk <;> first | (cases hk; done) | skip
    · obtain ⟨s, e, hk⟩ := s1_ne hk nw
      injection hk with hk; subst hk
      exact p_neg he hop (opR_one hr e) hv
    · obtain ⟨s, e, hk⟩ := s1_ne hk nw
      injection hk with hk; subst hk
      exact p_inv he hop (opR_one hr e) hv
    · obtain ⟨s, e, hk⟩ := s1_ne hk nw
      injection hk with hk; subst hk
      exact p_not hop (opR_one hr e) hv
  case convert t t' x =>
    obtain ⟨s, e, hk⟩ := s1_ne hk nw
    unfold trConv at hk
    split at hk
    · rename_i e1 e2
      injection hk with hk; subst hk
      exact p_conv hT he hop e1 e2 (opR_one hr e) hv
    · rename_i e1 e2
      injection hk with hk; subst hk
      obtain ⟨l, el, hv'⟩ := onS_ne (show onS (sv s) none (fun l => some (V.s l)) = some v from hv) (by simp)
      obtain rfl := Option.some.inj hv'
      rw [← el]
      exact p_convS hT hop e1 e2 (opR_one hr e) ⟨l, el⟩
    · split at hk <;> cases hk
    · split at hk <;> cases hk
    · cases hk
  case makeInterface t x =>
    cases hi : ifaceT tt t with
    | true => rw [hi] at hk; cases hk
    | false =>
      rw [hi] at hk
      obtain ⟨s, e, hk⟩ := s1_ne (show s1 ds x (fun s => .pu (.mkif t s)) = .pu k from hk) nw
      injection hk with hk; subst hk
      obtain rfl := Option.some.inj (show some (V.n t (sv s)) = some v from hv)
      exact p_mkif hT hop hi (opR_one hr e)
  case makeFunc f x y =>
    cases f <;> simp only [trK, no] at hk <;> first | (cases hk; done) | skip
    split at hk
    · rename_i p q e1 e2
      injection hk with hk; subst hk
      obtain rfl := Option.some.inj (show some (V.f _ (srcs sv p) (srcs sv q)) = some v from hv)
      exact p_mkfn hop (trSrcs_sound e1 (fun z hz => hr z (by simp [Op.operands] at hz ⊢; exact .inl hz))) (trSrcs_sound e2 (fun z hz => hr z (by simp [Op.operands] at hz ⊢; exact .inr hz)))
    · cases hk
  case makeMap t r => cases r <;> simp only [trK, no] at hk <;> cases hk
  case makeSlice t x y =>
    obtain ⟨p, q, e1, e2, hk⟩ := s2_ne hk nw
    unfold trMkS at hk
    repeat' split at hk
    all_goals first | (cases hk; done) | (obtain ⟨_, hk⟩ := bif_ne hk nw; cases hk)
  case slice t x lo hi mx =>
    split at hk
    · rename_i l h m e1 e2 e3
      obtain ⟨s, e, hk⟩ := s1_ne hk nw
      have hx := hr x (by simp [Op.operands]) _ e
      have h1 := optR_of hr e1 (fun y hy => by subst hy; simp [Op.operands])
      have h2 := optR_of hr e2 (fun y hy => by subst hy; simp [Op.operands])
      have h3 := optR_of hr e3 (fun y hy => by subst hy; simp [Op.operands])
      unfold trSlice at hk
      split at hk
      · rename_i ht
        split at hk
        · injection hk with hk; subst hk
          have hm : mx = none := by
            cases mx with
            | none => rfl
            | some mx => exact h3.elim
          subst hm
          exact p_sstr hT hop ht hx h1 h2 hv
        · cases hk
      · rename_i e' ht
        split at hk
        · rename_i n hs
          injection hk with hk; subst hk
          exact p_slice hT hop ht hs hx h1 h2 h3 hv
        · cases hk
      · cases hk
    · cases hk
  case fieldAddr t x f =>
    obtain ⟨s, e, hk⟩ := s1_ne hk nw
    unfold trFAddr at hk
    split at hk
    · rename_i fs ht
      split at hk
      · rename_i off n hf
        injection hk with hk; subst hk
        exact p_faddr hT hop ht hf (opR_one hr e) hv
      · cases hk
    · cases hk
  case field t x f =>
    obtain ⟨s, e, hk⟩ := s1_ne hk nw
    exact p_field hT hop hk (opR_one hr e) hv
  case indexAddr t x i =>
    obtain ⟨p, q, e1, e2, hk⟩ := s2_ne hk nw
    exact p_iaddr hT he hop hk (hr x (by simp [Op.operands]) _ e1) (hr i (by simp [Op.operands]) _ e2) hv
  case index t x i =>
    obtain ⟨p, q, e1, e2, hk⟩ := s2_ne hk nw
    exact p_index hT hop hk (hr x (by simp [Op.operands]) _ e1) (hr i (by simp [Op.operands]) _ e2) hv
  case lookup t m i ok =>
    obtain ⟨p, q, e1, e2, hk⟩ := s2_ne hk nw
    unfold trLookup at hk
    repeat' split at hk
    all_goals cases hk
  case mapUpdate t m i x =>
    obtain ⟨p, q, e1, e2, hk⟩ := s2_ne hk nw
    obtain ⟨s, e3, hk⟩ := s1_ne hk nw
    unfold trUpd at hk
    repeat' split at hk
    all_goals cases hk
  case insert t m i x =>
    obtain ⟨p, q, e1, e2, hk⟩ := s2_ne hk nw
    obtain ⟨s, e3, hk⟩ := s1_ne hk nw
    unfold trUpd at hk
    repeat' split at hk
    all_goals cases hk
  case typeAssert x t' t ok =>
    obtain ⟨s, e, hk⟩ := s1_ne hk nw
    exact p_tas hT hop hk (opR_one hr e) hv
  case extract x i =>
    obtain ⟨s, e, hk⟩ := s1_ne hk nw
    injection hk with hk; subst hk
    exact p_ext hop (opR_one hr e) hv
  case call c =>
    obtain ⟨ce, args, ts⟩ := c
    unfold trCall at hk
    split at hk
    · rename_i as has
      simp only at has
      cases ce with
      | value f =>
        exfalso
        cases f <;> first | (cases hk; done) | (obtain ⟨s, e, hk⟩ := s1_ne hk nw; cases hk)
      | invoke r m => exfalso; obtain ⟨s, e, hk⟩ := s1_ne hk nw; cases hk
      | builtin b =>
        have hr' : OpR ν ρ ds sv a args.toList := fun x hx => hr x (by simpa [Op.operands, Call.operands] using hx)
        have hk' : trBuiltin tt b ts.toList as = .pu k := hk
        unfold trBuiltin at hk'
        split at hk'
        · rename_i t s eas
          have hl := trSrcs_len has
          obtain ⟨x, ex⟩ : ∃ x, args.toList = [x] := List.length_eq_one_iff.1 (by simpa using hl.symm)
          obtain ⟨p, q, e1, e2, _⟩ := trSrcs_cons (ex ▸ has)
          injection e1 with e1; subst e1
          have ea : args = #[x] := by cases args; simp_all
          have et : ts = #[t] := by cases ts; simp_all
          subst ea; subst et
          exact p_len hT hop hk' (hr' x (by simp) _ e2) hv
        · rename_i t s eas
          have hl := trSrcs_len has
          obtain ⟨x, ex⟩ : ∃ x, args.toList = [x] := List.length_eq_one_iff.1 (by simpa using hl.symm)
          obtain ⟨p, q, e1, e2, _⟩ := trSrcs_cons (ex ▸ has)
          injection e1 with e1; subst e1
          have ea : args = #[x] := by cases args; simp_all
          have et : ts = #[t] := by cases ts; simp_all
          subst ea; subst et
          exact p_cap hT hop hk' (hr' x (by simp) _ e2) hv
        · rename_i p q
          injection hk' with hk'; subst hk'
          obtain ⟨x, y, ex⟩ := len_two (trSrcs_len has).symm
          obtain ⟨p', q', e1, e2, e3⟩ := trSrcs_two (ex ▸ has)
          injection e1 with e1 e1'; injection e1' with e1'; subst e1; subst e1'
          have ea : args = #[x, y] := by cases args; simp_all
          subst ea
          exact p_mm (mx := false) he hop (hr' x (by simp) _ e2) (hr' y (by simp) _ e3) hv
        · rename_i p q
          injection hk' with hk'; subst hk'
          obtain ⟨x, y, ex⟩ := len_two (trSrcs_len has).symm
          obtain ⟨p', q', e1, e2, e3⟩ := trSrcs_two (ex ▸ has)
          injection e1 with e1 e1'; injection e1' with e1'; subst e1; subst e1'
          have ea : args = #[x, y] := by cases args; simp_all
          subst ea
          exact p_mm (mx := true) he hop (hr' x (by simp) _ e2) (hr' y (by simp) _ e3) hv
        · rename_i p q r
          injection hk' with hk'; subst hk'
          obtain ⟨x, y, z, ex⟩ := len_three (trSrcs_len has).symm
          obtain ⟨p', l', e1, e2, e3⟩ := trSrcs_cons (ex ▸ has)
          injection e1 with e1 e1'; subst e1; subst e1'
          obtain ⟨q', r', e1, e4, e5⟩ := trSrcs_two e3
          injection e1 with e1 e1'; injection e1' with e1'; subst e1; subst e1'
          have ea : args = #[x, y, z] := by cases args; simp_all
          subst ea
          exact p_mm3 (mx := false) he hop (hr' x (by simp) _ e2) (hr' y (by simp) _ e4) (hr' z (by simp) _ e5) hv
        · rename_i p q r
          injection hk' with hk'; subst hk'
          obtain ⟨x, y, z, ex⟩ := len_three (trSrcs_len has).symm
          obtain ⟨p', l', e1, e2, e3⟩ := trSrcs_cons (ex ▸ has)
          injection e1 with e1 e1'; subst e1; subst e1'
          obtain ⟨q', r', e1, e4, e5⟩ := trSrcs_two e3
          injection e1 with e1 e1'; injection e1' with e1'; subst e1; subst e1'
          have ea : args = #[x, y, z] := by cases args; simp_all
          subst ea
          exact p_mm3 (mx := true) he hop (hr' x (by simp) _ e2) (hr' y (by simp) _ e4) (hr' z (by simp) _ e5) hv
        · exfalso
          unfold trApp at hk'
          repeat' split at hk'
          all_goals first
            | (cases hk'; done)
            | (obtain ⟨_, h⟩ := bif_ne hk' nw; (repeat' split at h) <;> cases h)
        · exfalso
          unfold trCopy at hk'
          repeat' split at hk'
          all_goals (cases hk'; done)
        · exfalso
          unfold trClear at hk'
          repeat' split at hk'
          all_goals first
            | (cases hk'; done)
            | (obtain ⟨_, h⟩ := bif_ne hk' nw; cases h)
        · exfalso
          unfold trDel at hk'
          repeat' split at hk'
          all_goals (cases hk'; done)
        · injection hk' with hk'; subst hk'
          exact p_mmn (mx := false) he hop (trSrcs_sound has hr') hv
        · injection hk' with hk'; subst hk'
          exact p_mmn (mx := true) he hop (trSrcs_sound has hr') hv
        · cases hk'
    · cases hk
end Ev
end Go.Proofs.YtoinghomkcjkcaaGreatDoor
/- How the small machine's memory stands to the model's; what reads. -/
namespace Go.Proofs.YtoinghomkcjkcaaGreatDoor
set_option linter.unusedSimpArgs false
set_option linter.unusedVariables false
set_option linter.constructorNameAsVariable false
open Go Go.RowKit
namespace Ev
variable {path : List (Cd × Bool)}
variable {P : Program} {tt : TT} {ν : Nat → Int} {ρ : Pl} {ds : List (Option Tmp)} {sv : Src → V} {a : Act} {en : En} {w : World} {o : Oper} {v : V}
def EsR (ν : Nat → Int) (ρ : Pl) : List (V × V) → List MapEntry → Prop
  | [], [] => True
  | e :: es, m :: ms => VR ν ρ e.1 m.key ∧ VR ν ρ e.2 m.val ∧ EsR ν ρ es ms
  | _, _ => False
def ObjR (ν : Nat → Int) (ρ : Pl) (w : World) (b c n : Nat) : O → Prop
  | .c l _ wn => ∃ cs e fz, w.heap[b]? = some (.cells cs e fz) ∧ cs.size = c + n ∧ (wn = true → ∀ i, i < cs.size → ¬ (fz.1 ≤ i ∧ i < fz.2)) ∧ l.length ≤ n ∧ ∀ (i : Nat) (v : V), l[i]? = some v → ∃ u, cs[c + i]? = some u ∧ VR ν ρ v u
  | .m es => ∃ ms ck, w.heap[b]? = some (.map ms ck) ∧ EsR ν ρ es ms.toList
def parO : O → Option BP
  | .c _ p _ => p
  | .m _ => none
def ownO : O → Bool
  | .c _ _ w => w
  | .m _ => true
/-- The world at first, and where the listed variables lie. -/
structure Bas where
  w0 : World
  pl : Pl
  kp : List (Nat × Obj)
def Bas.of (w : World) (pl : Pl) : Bas := ⟨w, pl, []⟩
/-- what no operation here turns -/
def oddO : Obj → Bool
  | .loop _ => true
  | .deferred _ => true
  | _ => false
/-- The memory stands as it should; W: the world at first, of which nothing has turned. -/
structure Rel (ν : Nat → Int) (W : Bas) (ρ : Pl) (h : H) (w : World) : Prop where
  below : Below W.w0.heap.size W.w0 w
  ob : ∀ x o, obj h x = some o → ∀ b c n, ρ x = some (b, c, n) → ObjR ν ρ w b c n o
  lt : ∀ x b c n, ρ x = some (b, c, n) → b < w.heap.size ∧ bpN x < bpN (nx h)
  dom : ∀ x o, obj h x = some o → bpN x < bpN (nx h)
  mine : ∀ x o, obj h x = some o → ownO o = true → ∀ b c n, ρ x = some (b, c, n) → W.w0.heap.size ≤ b
  sep : ∀ x y ox oy, obj h x = some ox → obj h y = some oy → x ≠ y → ∀ b c n c' n', ρ x = some (b, c, n) → ρ y = some (b, c', n') → parO ox = some y ∨ parO oy = some x
  par : ∀ x o y, obj h x = some o → parO o = some y → ∀ oy, obj h y = some oy → ownO oy = false
  parlt : ∀ x o y, obj h x = some o → parO o = some y → bpN y < bpN (nx h)
  base : W.pl.le ρ
  kp : ∀ p ∈ W.kp, w.heap[p.1]? = some p.2 ∧ oddO p.2 = true
theorem ObjR.not_odd {b c n : Nat} {ob : O} (h : ObjR ν ρ w b c n ob) {o : Obj} (e : w.heap[b]? = some o) (ho : oddO o = true) : False := by
  cases ob with
  | c l p wn => obtain ⟨cs, e0, fz, hb, _⟩ := h; rw [hb] at e; obtain rfl := Option.some.inj e; cases ho
  | m es => obtain ⟨ms, ck, hb, _⟩ := h; rw [hb] at e; obtain rfl := Option.some.inj e; cases ho
theorem onC_ne {β : Type} {x : Option O} {g r : β} {f : List V → Option BP → Bool → β} (h : onC x g f = r) (hg : g ≠ r) : ∃ l p w, x = some (.c l p w) ∧ f l p w = r := by
  obtain ⟨o, rfl, h⟩ := ocase_ne h hg
  cases o with
  | c l p w => exact ⟨l, p, w, rfl, h⟩
  | m es => exact absurd h hg
theorem onMp_ne {β : Type} {x : Option O} {g r : β} {f : List (V × V) → β} (h : onMp x g f = r) (hg : g ≠ r) : ∃ es, x = some (.m es) ∧ f es = r := by
  obtain ⟨o, rfl, h⟩ := ocase_ne h hg
  cases o with
  | c l p w => exact absurd h hg
  | m es => exact ⟨es, rfl, h⟩
theorem cell_of {b c i : Nat} {cs : Array Value} {e : TypeId} {fz : Nat × Nat} (h : w.heap[b]? = some (.cells cs e fz)) : w.cell? ⟨b, c + i, none⟩ = cs[c + i]? := by simp [World.cell?, h]
/-- Cells of a place in a row. -/
theorem cellsAt_some {h : H} {W : Bas} (R : Rel ν W ρ h w) {x : BP} {off n b c m : Nat} {l : List V} (hx : ρ x = some (b, c, m)) (hv : cellsAt h x off n = some l) :
    l.length = n ∧ ∃ us : List Value, VRs ν ρ l us ∧ ∀ j u, us[j]? = some u → w.cell? ⟨b, c + off + j, none⟩ = some u := by
  obtain ⟨l0, p, wn, ho, hv⟩ := onC_ne hv (by simp)
  obtain ⟨hn, hv⟩ := bcase_ne hv (by simp)
  obtain rfl := Option.some.inj hv
  have hn' := lenIs_iff.1 hn
  obtain ⟨cs, e, fz, hb, hsz, _, hl, hg⟩ := R.ob x _ ho b c m hx
  refine ⟨hn', (cs.toList.drop (c + off)).take n, ?_, ?_⟩
  · rw [take_eq, drop_eq] at hn' ⊢
    simp only [List.length_take, List.length_drop] at hn'
    refine VRs.of_get ?_ (fun i v e => ?_)
    · simp only [List.length_take, List.length_drop, Array.length_toList]; omega
    · rw [List.getElem?_take] at e ⊢
      split at e
      · rename_i hi
        rw [if_pos hi, List.getElem?_drop] at *
        obtain ⟨u, hu, hr⟩ := hg _ _ e
        exact ⟨u, by rw [Array.getElem?_toList, ← hu, Nat.add_assoc], hr⟩
      · cases e
  · intro j u hu
    rw [List.getElem?_take] at hu
    split at hu
    · rw [List.getElem?_drop, Array.getElem?_toList] at hu
      simp [World.cell?, hb, hu]
    · cases hu
theorem r_load1 {h : H} {W : Bas} (R : Rel ν W ρ h w) (hT : TTok P tt) {t : Nat} {x : Operand} {s : Src} (ho : o.op = .load t x) (ht : aggT tt t = some false) (hx : VR ν ρ (sv s) (a.eval x))
    (hv : onP (sv s) none (fun x off => onC (obj h x) none (fun l _ _ => nth l off)) = some v) : Gives P ν ρ a o w v := by
  obtain ⟨y, off, e1, hv⟩ := onP_ne hv (by simp)
  obtain ⟨l, p, wn, e2, hv⟩ := onC_ne hv (by simp)
  rw [nth_eq] at hv
  rw [e1] at hx; simp only [VR] at hx
  obtain ⟨b, c, n, e3, hx⟩ := hx
  obtain ⟨cs, e, fz, hb, hsz, _, hl, hg⟩ := R.ob y _ e2 b c n e3
  obtain ⟨u, hu, hr⟩ := hg off v hv
  have hc : w.cell? ⟨b, c + off, none⟩ = some u := by rw [cell_of hb, hu]
  exact ⟨u, by simp [execOp, ho, hx, Instr.loadAt, Instr.sureAddr, loadVar, agg_ok hT ht, hc], hr⟩
theorem r_loadn {h : H} {W : Bas} (R : Rel ν W ρ h w) (hT : TTok P tt) {t n : Nat} {x : Operand} {s : Src} (ho : o.op = .load t x) (ht : aggT tt t = some true) (hs : sizeT tt t = some n) (hx : VR ν ρ (sv s) (a.eval x))
    (hv : onP (sv s) none (fun x off => ocase (cellsAt h x off n) none (fun l => some (V.g l))) = some v) : Gives P ν ρ a o w v := by
  obtain ⟨y, off, e1, hv⟩ := onP_ne hv (by simp)
  obtain ⟨l, e2, hv⟩ := ocase_ne hv (by simp)
  obtain rfl := Option.some.inj hv
  rw [e1] at hx; simp only [VR] at hx
  obtain ⟨b, c, m, e3, hx⟩ := hx
  obtain ⟨hl, us, hr, hc⟩ := cellsAt_some R e3 e2
  have hus : us.length = n := by rw [hr.length, hl]
  have hrun := run_loadCells_list (P := P) w ⟨b, c + off, none⟩ us (fun j u hj => by rw [add_at]; exact hc j u hj)
  rw [hus] at hrun
  exact ⟨.agg us.toArray, by simp [execOp, ho, hx, Instr.loadAt, Instr.sureAddr, loadVar, agg_ok hT ht, size_ok hT hs, hrun], by simp only [VR]; exact ⟨_, rfl, by simpa using hr⟩⟩
theorem EsR.length {es : List (V × V)} {ms : List MapEntry} (h : EsR ν ρ es ms) : ms.length = es.length := by
  induction es generalizing ms with
  | nil => cases ms with
    | nil => rfl
    | cons m ms => exact h.elim
  | cons e es ih => cases ms with
    | nil => exact h.elim
    | cons m ms => simp [ih h.2.2]
theorem r_mlen {h : H} {W : Bas} (R : Rel ν W ρ h w) (hT : TTok P tt) {t kt et : Nat} {x : Operand} {s : Src} (ho : o.op = .call ⟨.builtin .len, #[x], #[t]⟩) (ht : und tt t = some (.map kt et)) (hx : VR ν ρ (sv s) (a.eval x))
    (hv : onM (sv s) (bcase (isT 15 (sv s)) none (okN 0)) (fun x => onMp (obj h x) none (fun es => okN (Ev.len es))) = some v) : Gives P ν ρ a o w v := by
  by_cases hm : ∃ y, sv s = .m y
  · obtain ⟨y, e1⟩ := hm
    rw [e1] at hv hx
    obtain ⟨es, e2, hv⟩ := onMp_ne (show onMp (obj h y) none (fun es => okN (Ev.len es)) = some v from hv) (by simp)
    rw [okN_eq, len_eq] at hv
    obtain rfl := Option.some.inj hv
    simp only [VR] at hx
    obtain ⟨b, n, e3, hx⟩ := hx
    obtain ⟨ms, ck, hb, hes⟩ := R.ob y _ e2 b 0 n e3
    refine ⟨goInt es.length, ?_, by simp only [VR, goInt, zval]⟩
    rw [run_builtin ho]
    have hsz : ms.size = es.length := by have := hes.length; simpa using this
    simp [builtin, hx, Builtin.len_, run_underlying (und_ok hT ht), getObj, Sem.run, hb, hsz]
  · have hv2 : bcase (isT 15 (sv s)) none (okN 0) = some v := by
      generalize sv s = vs at hv hm
      cases vs <;> first | exact hv | exact absurd ⟨_, rfl⟩ hm
    obtain ⟨h1, hv3⟩ := bcase_ne hv2 (by simp)
    rw [okN_eq] at hv3
    obtain rfl := Option.some.inj hv3
    rw [isT_m0 h1] at hx; simp only [VR] at hx
    refine ⟨goInt 0, ?_, by simp only [VR, goInt, zval]; rfl⟩
    rw [run_builtin ho]
    simp [builtin, hx, Builtin.len_, run_underlying (und_ok hT ht)]
/-- Structs of scalars: equal as the small machine says. -/
theorem equal_flat (hT : TTok P tt) {t : TypeId} {fs : Array Field} (hu : und tt t = some (.struct fs)) (hfl : flatT tt t = true) {x y : V} {u u' : Value} {e : Bool} (hx : VR ν ρ x u) (hy : VR ν ρ y u') (he : eqGl (codeF tt fs.toList) x y = some e) :
    (Op.equal t u u').run P w = .ok e w := by
  have hu' := und_ok hT hu
  obtain ⟨hst, hgd⟩ := hT.flat t hfl
  have hff : flatF tt fs.toList 0 = true := by unfold flatT at hfl; rw [hu] at hfl; exact hfl
  obtain ⟨l, rfl, he1⟩ := onG_ne (show onG x none (fun l => onG y none (fun m => eqSs l (codeF tt fs.toList) m)) = some e from he) (by simp)
  obtain ⟨m, rfl, he2⟩ := onG_ne he1 (by simp)
  simp only [VR] at hx hy
  obtain ⟨xs, rfl, hxs⟩ := hx
  obtain ⟨ys, rfl, hys⟩ := hy
  have hfo : P.fieldsOf t = fs := by unfold Program.fieldsOf; rw [hu']
  suffices h' : ∀ n, (Op.equalIn (n + 1 + 1) t (.agg xs) (.agg ys)).run P w = .ok e w from h' 9998
  intro n
  rw [run_equalIn_struct w (n + 1) t xs ys (by rw [hfo]; exact hu') hst, hfo]
  exact eqSs_sound hT xs ys n fs.toList 0 l m e hff (by simpa using hxs) (by simpa using hys) he2
theorem eqS_bits {c : Nat} {x y : V} {u u' : Value} (h : eqS c x y = some true) (hx : VR ν ρ x u) (hy : VR ν ρ y u') (n : Nat) : Instr.sameBits n u' u = true := by
  have hp : PathOk ν [] := fun c hc => by cases hc
  rcases bcase_or (Nat.beq c 1) (bcase (Nat.beq c 2) (bcase (Nat.beq c 3) none (onS x none (fun s => onS y none (fun t => sEq [] s t)))) (onI x none (fun k m => onI y none (fun j n => bcase (Nat.beq (kN k) (kN j)) none (cmpZ [] .eql m n))))) (onB x none (fun x => onB y none (fun y => some (bcase x (!y) y)))) with h1 | h1
  · rw [show eqS c x y = _ from h1] at h
    rcases bcase_or (Nat.beq c 2) (bcase (Nat.beq c 3) none (onS x none (fun s => onS y none (fun t => sEq [] s t)))) (onI x none (fun k m => onI y none (fun j n => bcase (Nat.beq (kN k) (kN j)) none (cmpZ [] .eql m n)))) with h2 | h2
    · rw [h2] at h
      rcases bcase_or (Nat.beq c 3) none (onS x none (fun s => onS y none (fun t => sEq [] s t))) with h3 | h3
      · rw [h3] at h; cases h
      · rw [h3] at h
        obtain ⟨s, rfl, g1⟩ := onS_ne h (by simp)
        obtain ⟨t, rfl, g2⟩ := onS_ne g1 (by simp)
        simp only [VR] at hx hy
        obtain ⟨s1, rfl, hs⟩ := hx
        obtain ⟨s2, rfl, ht⟩ := hy
        have h2 := sEq_sound hp g2 hs ht
        simp only [Instr.sameBits]; rw [beq_toListBytes, toList_eq, toList_eq]; simpa using (by simpa using h2 : s1.data.toList = s2.data.toList).symm
    · rw [h2] at h
      obtain ⟨j, z, rfl, g1⟩ := onI_ne h (by simp)
      obtain ⟨j', z', rfl, g2⟩ := onI_ne g1 (by simp)
      obtain ⟨h1, g3⟩ := bcase_ne g2 (by simp)
      obtain rfl := kN_inj (Nat.eq_of_beq_eq_true h1)
      have h2 := cmpZ_sound hp g3
      simp only [cmpI, eqI_eq] at h2
      simp only [VR] at hx hy
      subst hx; subst hy
      simp [Instr.sameBits, of_decide_eq_true h2]
  · rw [show eqS c x y = _ from h1] at h
    obtain ⟨b, rfl, h2⟩ := onB_ne h (by simp)
    obtain ⟨b', rfl, h3⟩ := onB_ne h2 (by simp)
    simp only [VR] at hx hy
    subst hx; subst hy
    cases b <;> cases b' <;> first | (simp [Instr.sameBits]; done) | (exact absurd (Option.some.inj h3) (by decide))
theorem eqSs_bits (n : Nat) : ∀ {l m : List V} {c : Nat} {us us' : List Value}, eqSs l c m = some true → VRs ν ρ l us → VRs ν ρ m us' → us'.length = us.length ∧ (us'.zip us).all (fun (x, y) => Instr.sameBits n x y) = true
  | [], m, c, us, us', h, hx, hy => by
    obtain ⟨_, h⟩ := bcase_ne (show bcase (Nat.beq c 0) none (lcase m (some true) (fun _ _ => none)) = some true from h) (by simp)
    cases m with
    | cons b m => cases h
    | nil => simp only [VRs] at hx hy; subst hx; subst hy; simp
  | a :: l, m, c, us, us', h, hx, hy => by
    obtain ⟨b, m', rfl, h⟩ := lcase_ne (show lcase m none (fun b t => ocase (eqS (Nat.mod c 4) a b) none (fun x => bcase x (some false) (eqSs l (Nat.div c 4) t))) = some true from h) (by simp)
    obtain ⟨r, hr, h⟩ := ocase_ne h (by simp)
    cases r with
    | false => cases (show some false = some true from h)
    | true =>
      simp only [VRs] at hx hy
      obtain ⟨u, us1, rfl, h1, h2⟩ := hx
      obtain ⟨u', us2, rfl, h3, h4⟩ := hy
      obtain ⟨h5, h6⟩ := eqSs_bits n (show eqSs l (Nat.div c 4) m' = some true from h) h2 h4
      exact ⟨by simp [h5], by simp only [List.zip_cons_cons, List.all_cons, eqS_bits hr h1 h3 n, Bool.true_and]; exact h6⟩
/-- a type of keys, as the small machine sees it -/
def KeyT (P : Program) (tt : TT) (t : TypeId) (kt : TypeDesc) (ks : Nat) : Prop := P.underlying t = some kt ∧ ((ks = 0 ∧ ∃ i, kt = .int i) ∨ (ks = 1 ∧ kt = .string) ∨ ∃ fs, und tt t = some (.struct fs) ∧ kt = .struct fs ∧ flatT tt t = true ∧ ks = codeF tt fs.toList + 2)
/-- Two keys of a kind. -/
theorem keyEq_sound (hT : TTok P tt) (hp : PathOk ν path) {ks : Nat} {t : TypeId} {kt : TypeDesc} (hkt : KeyT P tt t kt ks) {k e : V} {u m : Value} {b : Bool} (hk : VR ν ρ k u) (hm : VR ν ρ e m) (h : keyEq ks path k e = some b) :
    (if ks ≤ 1 then Instr.sameNow kt u m = some b else Instr.sameNow kt u m = none ∧ (Op.equal t u m).run P w = .ok b w) ∧ (b = true → Instr.sameBits 10000 m u = true) := by
  obtain ⟨hkd, ⟨rfl, i, rfl⟩ | ⟨rfl, rfl⟩ | ⟨fs, hu, rfl, hfl, rfl⟩⟩ := hkt
  · obtain ⟨j, z, rfl, g1⟩ := onI_ne (show onI k none (fun k m => onI e none (fun j n => bcase (Nat.beq (kN k) (kN j)) none (cmpZ path .eql m n))) = some b from h) (by simp)
    obtain ⟨j', z', rfl, g2⟩ := onI_ne g1 (by simp)
    obtain ⟨h1, g3⟩ := bcase_ne g2 (by simp)
    obtain rfl := kN_inj (Nat.eq_of_beq_eq_true h1)
    have h2 := cmpZ_sound hp g3
    simp only [cmpI, eqI_eq] at h2
    simp only [VR] at hk hm
    subst hk; subst hm
    refine ⟨by rw [if_pos (by omega)]; simp only [Instr.sameNow, if_true, ← h2]; congr 1, fun hb => ?_⟩
    rw [hb] at h2
    simp [Instr.sameBits, of_decide_eq_true h2]
  · obtain ⟨s, rfl, g1⟩ := onS_ne (show onS k none (fun s => onS e none (fun t => sEq path s t)) = some b from h) (by simp)
    obtain ⟨t, rfl, g2⟩ := onS_ne g1 (by simp)
    simp only [VR] at hk hm
    obtain ⟨s1, rfl, hs⟩ := hk
    obtain ⟨s2, rfl, ht⟩ := hm
    have h2 := sEq_sound hp g2 hs ht
    refine ⟨by rw [if_pos (by omega)]; simp only [Instr.sameNow]; rw [beq_toListBytes, toList_eq, toList_eq, h2], fun hb => ?_⟩
    rw [hb] at h2
    simp only [Instr.sameBits]; rw [beq_toListBytes, toList_eq, toList_eq]; simpa using (by simpa using h2 : s1.data.toList = s2.data.toList).symm
  · have h' : eqGl (codeF tt fs.toList) k e = some b := h
    refine ⟨by rw [if_neg (by omega)]; exact ⟨by simp [Instr.sameNow], equal_flat hT hu hfl hk hm h'⟩, fun hb => ?_⟩
    subst hb
    obtain ⟨l, rfl, h1⟩ := onG_ne (show onG k none (fun l => onG e none (fun m => eqSs l (codeF tt fs.toList) m)) = some true from h') (by simp)
    obtain ⟨l', rfl, h2⟩ := onG_ne h1 (by simp)
    simp only [VR] at hk hm
    obtain ⟨xs, rfl, hxs⟩ := hk
    obtain ⟨ys, rfl, hys⟩ := hm
    obtain ⟨h3, h4⟩ := eqSs_bits 9999 h2 hxs hys
    show (ys.size == xs.size && (ys.toList.zip xs.toList).all fun (x, y) => Instr.sameBits 9999 x y) = true
    rw [h4, Bool.and_true]; simpa using h3
/-- A key is found, or not, as in the small machine. -/
theorem findK_sound (hT : TTok P tt) (hp : PathOk ν path) {ks : Nat} {t : TypeId} {kt : TypeDesc} (hkt : KeyT P tt t kt ks) {k : V} {u : Value} (hk : VR ν ρ k u) : ∀ {es : List (V × V)} {ms : List MapEntry} {r : Option V} {i : Nat}, EsR ν ρ es ms → findK ks path k es = some r →
    (if ks ≤ 1 then ∃ x, Instr.findNow kt u ms i = some x ∧ ((r = none ∧ x = none) ∨ ∃ v j uv, r = some v ∧ x = some (j, uv) ∧ VR ν ρ v uv)
      else ∃ x, (Instr.findAsking t u ms i).run P w = .ok x w ∧ ((r = none ∧ x = none) ∨ ∃ v j uv, r = some v ∧ x = some (j, uv) ∧ VR ν ρ v uv))
  | [], [], r, i, _, h => by
    obtain rfl := Option.some.inj h
    split
    · exact ⟨none, rfl, .inl ⟨rfl, rfl⟩⟩
    · exact ⟨none, by simp [Instr.findAsking], .inl ⟨rfl, rfl⟩⟩
  | [], _ :: _, _, _, h, _ => h.elim
  | _ :: _, [], _, _, h, _ => h.elim
  | e :: es, m :: ms, r, i, hr, h => by
    obtain ⟨b, hb, h⟩ := ocase_ne (show ocase (keyEq ks path k e.1) none (fun b => bcase b (findK ks path k es) (some (some e.2))) = some r from h) (by simp)
    have hn := (keyEq_sound (w := w) hT hp hkt hk hr.1 hb).1
    by_cases h1 : ks ≤ 1
    · rw [if_pos h1] at hn ⊢
      cases b with
      | true =>
        obtain rfl := Option.some.inj h
        exact ⟨some (i, m.val), by simp [Instr.findNow, hn], .inr ⟨_, i, m.val, rfl, rfl, hr.2.1⟩⟩
      | false =>
        have := findK_sound hT hp hkt hk (i := i + 1) hr.2.2 h
        rw [if_pos h1] at this
        obtain ⟨x, h2, h3⟩ := this
        exact ⟨x, by simp [Instr.findNow, hn, h2], h3⟩
    · rw [if_neg h1] at hn ⊢
      cases b with
      | true =>
        obtain rfl := Option.some.inj h
        exact ⟨some (i, m.val), by simp [Instr.findAsking, hn.2], .inr ⟨_, i, m.val, rfl, rfl, hr.2.1⟩⟩
      | false =>
        have := findK_sound hT hp hkt hk (i := i + 1) hr.2.2 h
        rw [if_neg h1] at this
        obtain ⟨x, h2, h3⟩ := this
        exact ⟨x, by simp [Instr.findAsking, hn.2, h2], h3⟩
/-- the search of a map as the model does it -/
theorem findKey_sound (hT : TTok P tt) (hp : PathOk ν path) {ks : Nat} {t : TypeId} {kt : TypeDesc} (hkt : KeyT P tt t kt ks) {k : V} {u : Value} (hk : VR ν ρ k u) {es : List (V × V)} {ms : List MapEntry} {r : Option V} (hr : EsR ν ρ es ms) (h : findK ks path k es = some r) :
    ∃ x, (Instr.findKey t u ms).run P w = .ok x w ∧ ((r = none ∧ x = none) ∨ ∃ v j uv, r = some v ∧ x = some (j, uv) ∧ VR ν ρ v uv) := by
  have := findK_sound (w := w) hT hp hkt hk (i := 0) hr h
  by_cases h1 : ks ≤ 1
  · rw [if_pos h1] at this
    obtain ⟨x, h2, h3⟩ := this
    exact ⟨x, by simp [Instr.findKey, run_underlying hkt.1, h2], h3⟩
  · rw [if_neg h1] at this
    obtain ⟨x, h2, h3⟩ := this
    refine ⟨x, ?_, h3⟩
    cases ms with
    | nil => simpa [Instr.findKey, run_underlying hkt.1, Instr.findNow, Instr.findAsking] using h2
    | cons m ms =>
      cases es with
      | nil => exact hr.elim
      | cons e es =>
        obtain ⟨b, hb, _⟩ := ocase_ne (show ocase (keyEq ks path k e.1) none (fun b => bcase b (findK ks path k es) (some (some e.2))) = some r from h) (by simp)
        have hn := (keyEq_sound (w := w) hT hp hkt hk hr.1 hb).1
        rw [if_neg h1] at hn
        simp [Instr.findKey, run_underlying hkt.1, Instr.findNow, hn.1, h2]
theorem keyOk_some (hT : TTok P tt) {t : Nat} {ks : Nat} (h : keyOk tt t = some ks) : ∃ kt, KeyT P tt t kt ks := by
  unfold keyOk at h
  split at h
  · rename_i i e; obtain rfl := Option.some.inj h; exact ⟨_, und_ok hT e, .inl ⟨rfl, i, rfl⟩⟩
  · rename_i e; obtain rfl := Option.some.inj h; exact ⟨_, und_ok hT e, .inr (.inl ⟨rfl, rfl⟩)⟩
  · rename_i fs e
    cases hf : flatT tt t with
    | false => rw [hf] at h; cases h
    | true =>
      rw [hf] at h
      have h' : some (2 + codeF tt fs.toList) = some ks := h
      obtain rfl := Option.some.inj h'
      exact ⟨_, und_ok hT e, .inr (.inr ⟨fs, e, rfl, hf, Nat.add_comm _ _⟩)⟩
  · cases h
theorem checkKey_fields (hT : TTok P tt) (cs : Array Value) (emp : Bool) (n : Nat) : ∀ (fs : List Field) (i : Nat), flatF tt fs i = true → (fs.length + i ≤ cs.size) → (do for f in fs do if f.name ≠ "_" then Instr.checkKey emp (n + 1) f.type (← part f.type cs f.offset) : Sem Unit).run P w = .ok () w
  | [], i, _, _ => by simp
  | f :: fs, i, hf, hl => by
    simp only [flatF, Bool.and_eq_true] at hf
    obtain ⟨⟨⟨h1, h2⟩, h3⟩, h4⟩ := hf
    have hk0 : 0 < kindT tt f.type := blt_iff.1 h3
    have h2 := Nat.eq_of_beq_eq_true h2
    have hnm : f.name ≠ "_" := by simpa using h1
    simp only [List.length_cons] at hl
    have ih := checkKey_fields hT cs emp n fs (i + 1) h4 (by omega)
    obtain ⟨ua, hua⟩ : ∃ ua, cs[f.offset]? = some ua := ⟨cs[f.offset]'(by omega), Array.getElem?_eq_getElem (by omega)⟩
    have hd : ∃ d, P.underlying f.type = some d ∧ aggT tt f.type = some false ∧ ∀ v, (Instr.checkKey emp (n + 1) f.type v).run P w = .ok () w := by
      unfold kindT at hk0
      unfold aggT
      cases hu : und tt f.type with
      | none => rw [hu] at hk0; simp at hk0
      | some d =>
        have hu' := und_ok hT hu
        rw [hu] at hk0
        cases d <;> first
          | (simp at hk0; done)
          | exact ⟨_, hu', rfl, fun v => by simp only [Instr.checkKey, Sem.run_bind, run_underlying hu', Result.andThen_ok]; rfl⟩
    obtain ⟨d, hd1, hd2, hd3⟩ := hd
    have hagg : (isAgg f.type).run P w = .ok false w := agg_ok hT hd2
    have hpa : (part f.type cs f.offset).run P w = .ok ua w := by simp [part, hagg, hua]
    simp only [List.forIn_cons] at ih ⊢
    simp only [hnm, ne_eq, not_false_eq_true, if_true, Sem.run_bind, hpa, hd3, Result.andThen_ok, Sem.run_pure] at ih ⊢
    simpa using ih
theorem digits_len : ∀ (fs : List Field) (i : Nat) (l : List V), flatF tt fs i = true → digits l (codeF tt fs) = true → fs.length ≤ l.length
  | [], _, _, _, _ => Nat.zero_le _
  | f :: fs, i, l, hf, h => by
    simp only [flatF, Bool.and_eq_true] at hf
    obtain ⟨⟨⟨h1, h2⟩, h3⟩, h4⟩ := hf
    have hk0 : 0 < kindT tt f.type := blt_iff.1 h3
    have hk4 : kindT tt f.type < 4 := by unfold kindT; split <;> omega
    cases l with
    | nil =>
      have := Nat.eq_of_beq_eq_true (show Nat.beq (codeF tt (f :: fs)) 0 = true from h)
      have h5 : kindT tt f.type + 4 * codeF tt fs = 0 := this
      omega
    | cons a l =>
      have h5 : digits l (Nat.div (codeF tt (f :: fs)) 4) = true := h
      rw [show Nat.div (codeF tt (f :: fs)) 4 = codeF tt fs by show (kindT tt f.type + 4 * codeF tt fs) / 4 = _; omega] at h5
      have := digits_len fs (i + 1) l h4 h5
      simp only [List.length_cons]; omega
theorem isKey_sound (hT : TTok P tt) {ks : Nat} {k : V} {u : Value} {kt : TypeDesc} {t : TypeId} (hkt : KeyT P tt t kt ks) (h : isKey ks k = true) (hk : VR ν ρ k u) (emp : Bool) : (Instr.checkKey emp 10000 t u).run P w = .ok () w := by
  have : ∀ n, (Instr.checkKey emp (n + 1 + 1) t u).run P w = .ok () w := by
    intro n
    obtain ⟨hu, ⟨rfl, i, rfl⟩ | ⟨rfl, rfl⟩ | ⟨fs, hut, rfl, hfl, rfl⟩⟩ := hkt
    · simp only [Instr.checkKey, Sem.run_bind, run_underlying hu, Result.andThen_ok]
      obtain ⟨j, z, rfl, _⟩ := onI_ne (show onI k false (fun _ _ => true) = true from h) (by simp)
      simp only [VR] at hk; subst hk; rfl
    · simp only [Instr.checkKey, Sem.run_bind, run_underlying hu, Result.andThen_ok]
      obtain ⟨s, rfl, _⟩ := onS_ne (show onS k false (fun _ => true) = true from h) (by simp)
      simp only [VR] at hk; obtain ⟨s1, rfl, _⟩ := hk; rfl
    · obtain ⟨l, rfl, h1⟩ := onG_ne (show onG k false (fun l => digits l (codeF tt fs.toList)) = true from h) (by simp)
      simp only [VR] at hk
      obtain ⟨cs, rfl, hcs⟩ := hk
      have hff : flatF tt fs.toList 0 = true := by unfold flatT at hfl; rw [hut] at hfl; exact hfl
      have hl := digits_len fs.toList 0 l hff h1
      have hsz : fs.toList.length + 0 ≤ cs.size := by have := hcs.length; simp at this hl ⊢; omega
      have := checkKey_fields (w := w) hT cs emp n fs.toList 0 hff hsz
      rw [Instr.checkKey]
      simp only [Sem.run_bind, run_underlying hu, Result.andThen_ok]
      simp at this ⊢
      rw [this]; rfl
  exact this 9998
theorem okV_sound {ok b : Bool} {z : V} {u : Value} (h : okV ok z b = some v) (hz : VR ν ρ z u) : VR ν ρ v (if ok then .tuple #[u, .bool b] else u) := by
  cases ok with
  | false => obtain rfl := Option.some.inj (show some z = some v from h); exact hz
  | true => obtain rfl := Option.some.inj (show some (V.u [z, V.b b]) = some v from h); simp only [VR, VRs]; exact ⟨_, rfl, _, _, rfl, hz, _, _, rfl, by simp only [VR], rfl⟩
theorem r_lookup {h : H} {W : Bas} (R : Rel ν W ρ h w) (he : EnOk ν en) (hT : TTok P tt) {t kt et : Nat} {x i : Operand} {p q : Src} {ok : Bool} {ks : Nat} {z : V} (ho : o.op = .lookup t x i ok) (ht : und tt t = some (.map kt et)) (hz : zeroV tt et = some z) (hks : keyOk tt kt = some ks)
    (hx : VR ν ρ (sv p) (a.eval x)) (hi : VR ν ρ (sv q) (a.eval i)) (hv : lookup ks en.path h z ok (sv p) (sv q) = some v) : Gives P ν ρ a o w v := by
  obtain ⟨kd, hkt⟩ := keyOk_some hT hks
  obtain ⟨hik, hv⟩ := bcase_ne hv (by simp)
  obtain ⟨zu, hzu, hzr, _⟩ := zero_ok (w := w) (ν := ν) (ρ := ρ) hT hz
  have hck := fun emp => isKey_sound (w := w) hT hkt hik hi emp
  by_cases hm : ∃ y, sv p = .m y
  · obtain ⟨y, e1⟩ := hm
    rw [e1] at hv hx
    obtain ⟨es, e2, hv⟩ := onMp_ne (show onMp (obj h y) none _ = some v from hv) (by simp)
    obtain ⟨r, hr, hv⟩ := ocase_ne hv (by simp)
    simp only [VR] at hx
    obtain ⟨b, n, e3, hx⟩ := hx
    obtain ⟨ms, ck, hb, hes⟩ := R.ob y _ e2 b 0 n e3
    obtain ⟨x0, hf, ⟨rfl, rfl⟩ | ⟨v', j, uv, rfl, rfl, hvr⟩⟩ := findKey_sound (w := w) hT he.path hkt hi hes hr
    · refine ⟨_, ?_, okV_sound hv hzr⟩
      simp [execOp, ho, hx, Instr.lookup, run_underlying (und_ok hT ht), getObj, Sem.run, hb, hck, hf, hzu]
    · refine ⟨_, ?_, okV_sound hv hvr⟩
      simp [execOp, ho, hx, Instr.lookup, run_underlying (und_ok hT ht), getObj, Sem.run, hb, hck, hf]
  · have hv2 : bcase (isT 15 (sv p)) none (okV ok z false) = some v := by
      generalize sv p = vs at hv hm
      cases vs <;> first | exact hv | exact absurd ⟨_, rfl⟩ hm
    obtain ⟨h1, hv3⟩ := bcase_ne hv2 (by simp)
    rw [isT_m0 h1] at hx; simp only [VR] at hx
    refine ⟨_, ?_, okV_sound hv3 hzr⟩
    simp [execOp, ho, hx, Instr.lookup, run_underlying (und_ok hT ht), hck, Instr.findKey, run_underlying hkt.1, Instr.findNow, hzu]
theorem byteOk_sound (hp : PathOk ν path) {z : Z} (h : byteOk path z = true) : 0 ≤ zval ν z ∧ zval ν z < 256 := by
  obtain ⟨h1, h2⟩ := bcase_ne h (by simp)
  obtain ⟨b, hb, rfl⟩ := ocase_ne h1 (by simp)
  obtain ⟨c, hc, rfl⟩ := ocase_ne h2 (by simp)
  have e1 := cmpZ_sound hp hb
  have e2 := cmpZ_sound hp hc
  simp only [cmpI, ltI_eq, zval, Bool.not_eq_true', decide_eq_false_iff_not, decide_eq_true_eq] at e1 e2
  omega
theorem bytesZ_sound (hp : PathOk ν path) : ∀ {l : List V} {zs : List Z} {us : List Value}, bytesZ path l = some zs → VRs ν ρ l us → ∃ m : List UInt8, SR ν zs m ∧ us = m.map fun b => Value.int .u8 (b.toNat : Int)
  | [], zs, us, h, hr => by
    obtain rfl := Option.some.inj (show some [] = some zs from h)
    simp only [VRs] at hr; subst hr
    exact ⟨[], trivial, rfl⟩
  | a :: l, zs, us, h, hr => by
    obtain ⟨k, z, rfl, h1⟩ := onI_ne (show onI a none (fun k z => bcase (Nat.beq (kN k) 4) none (bcase (byteOk path z) none (ocase (bytesZ path l) none (fun r => some (z :: r))))) = some zs from h) (by simp)
    obtain ⟨h2, h3⟩ := bcase_ne h1 (by simp)
    obtain ⟨h4, h5⟩ := bcase_ne h3 (by simp)
    obtain ⟨r, h6, h7⟩ := ocase_ne h5 (by simp)
    obtain rfl := Option.some.inj h7
    have hk : k = .u8 := by cases k <;> first | rfl | exact absurd (Nat.eq_of_beq_eq_true h2) (by decide)
    subst hk
    simp only [VRs, VR] at hr
    obtain ⟨u, us', rfl, rfl, hr⟩ := hr
    obtain ⟨m, hm, rfl⟩ := bytesZ_sound hp h6 hr
    obtain ⟨b1, b2⟩ := byteOk_sound hp h4
    have hb : (((UInt8.ofNat (zval ν z).toNat).toNat : Nat) : Int) = zval ν z := by
      rw [UInt8.toNat_ofNat']; omega
    exact ⟨UInt8.ofNat (zval ν z).toNat :: m, ⟨hb.symm, hm⟩, by simp only [List.map_cons, hb]⟩
/-- The cells of a slice of whatever kind. -/
theorem cellsOf_some {h : H} {W : Bas} (R : Rel ν W ρ h w) {sz : Nat} {x0 : V} {u : Value} {l : List V} (hv : cellsOf h sz x0 = some l) (hx : VR ν ρ x0 u) :
    ∃ p n cap us, u = .slice p n cap ∧ n ≤ cap ∧ l.length = n * sz ∧ VRs ν ρ l us ∧ us.length = n * sz ∧ (p = none → n = 0) ∧ ∀ q, p = some q → ∀ j v, us[j]? = some v → w.cell? (q.add j) = some v := by
  by_cases hs : ∃ y o s n, x0 = .sl y o s n
  · obtain ⟨y, off, s, n, rfl⟩ := hs
    obtain ⟨h1, h2⟩ := bcase_ne (show bcase (Nat.beq s sz) none (cellsAt h y off (Nat.mul n sz)) = some l from hv) (by simp)
    obtain rfl := Nat.eq_of_beq_eq_true h1
    simp only [VR] at hx
    obtain ⟨b, c, nn, cap, p, e3, rfl, hle, hc⟩ := hx
    obtain ⟨hl, us, hr, hcell⟩ := cellsAt_some R e3 h2
    refine ⟨some p, n, cap, us, rfl, hle, hl, hr, by rw [hr.length, hl]; rfl, fun e => (by cases e), fun q hq j v hj => ?_⟩
    obtain rfl := Option.some.inj hq
    have hj' := (List.getElem?_eq_some_iff.1 hj).1
    rw [hr.length, hl] at hj'
    have hn0 : n ≠ 0 := fun e => by subst e; simp at hj'
    obtain ⟨rfl, _⟩ := hc (by omega)
    rw [add_at]; exact hcell j v hj
  · have hv2 : onE x0 (bcase (isT 6 x0) none (some [])) (fun _ _ => some []) = some l := by
      cases x0 <;> first | exact hv | exact absurd ⟨_, _, _, _, rfl⟩ hs
    have hl : l = [] ∧ ∃ p, u = .slice p 0 0 := by
      by_cases he : ∃ y o, x0 = .e y o
      · obtain ⟨y, o, rfl⟩ := he
        simp only [VR] at hx; obtain ⟨p, hx⟩ := hx
        exact ⟨(Option.some.inj (show some [] = some l from hv2)).symm, _, hx⟩
      · have hv3 : bcase (isT 6 x0) none (some []) = some l := by
          cases x0 <;> first | exact hv2 | exact absurd ⟨_, _, rfl⟩ he
        obtain ⟨h6, h7⟩ := bcase_ne hv3 (by simp)
        rw [isT_s0 h6] at hx; simp only [VR] at hx
        exact ⟨(Option.some.inj h7).symm, _, hx⟩
    obtain ⟨rfl, p, rfl⟩ := hl
    exact ⟨p, 0, 0, [], rfl, Nat.le_refl _, by simp, by simp [VRs], by simp, fun _ => rfl, fun q _ j v hj => by simp at hj⟩
theorem r_str {h : H} {W : Bas} (R : Rel ν W ρ h w) (he : EnOk ν en) (hT : TTok P tt) {t t' e : Nat} {x : Operand} {s : Src} (ho : o.op = .convert t t' x) (ht : und tt t = some (.slice e)) (hte : und tt e = some (.int .u8)) (ht' : und tt t' = some .string) (hx : VR ν ρ (sv s) (a.eval x))
    (hv : ocase (cellsOf h 1 (sv s)) none (fun l => ocase (bytesZ en.path l) none (fun z => some (V.s z))) = some v) : Gives P ν ρ a o w v := by
  obtain ⟨l, hl, hv⟩ := ocase_ne hv (by simp)
  obtain ⟨z, hz, hv⟩ := ocase_ne hv (by simp)
  obtain rfl := Option.some.inj hv
  obtain ⟨p, n, cap, us, e1, hle, hln, hr, hul, hp0, hc⟩ := cellsOf_some R hl hx
  obtain ⟨m, hm, rfl⟩ := bytesZ_sound he.path hz hr
  have hml : m.length = n := by simpa using hul
  cases p with
  | none =>
    have hn := hp0 rfl
    subst hn
    obtain rfl := List.eq_nil_of_length_eq_zero hml
    refine ⟨.string .empty, ?_, by simp only [VR]; exact ⟨_, rfl, hm⟩⟩
    simp [execOp, ho, e1, convert, run_underlying (und_ok hT ht), run_underlying (und_ok hT ht'), run_underlying (und_ok hT hte), Conv.bytesToString]
  | some q =>
    have hrun := run_convert_bytes_back (P := P) w t t' e q cap m (und_ok hT ht) (und_ok hT hte) (und_ok hT ht') (fun j hj => hc q rfl j _ (by simp [hj]))
    rw [hml] at hrun
    refine ⟨.string ⟨m.toArray⟩, ?_, by simp only [VR]; exact ⟨_, rfl, hm⟩⟩
    simp only [execOp, ho, e1, Sem.run_bind, hrun]; rfl
/-- What reads gives what it gives in the small machine. -/
theorem doR_sound {h : H} {W : Bas} (R : Rel ν W ρ h w) (hT : TTok P tt) (he : EnOk ν en) {k : KR} (hk : trK tt ds o.op = .rd k) (hr : OpR ν ρ ds sv a o.op.operands.toList) (hv : doR k en sv h = some v) : Gives P ν ρ a o w v := by
  have nw : ∀ w, K.no w ≠ .rd k := fun w h => by cases h
  generalize hop : o.op = op at hk hr
  cases op <;> simp only [trK, no] at hk <;> try (cases hk; done)
  case load t x =>
    obtain ⟨s, e, hk⟩ := s1_ne hk nw
    unfold trLoad at hk
    split at hk
    · rename_i ht
      split at hk
      · rename_i n hs
        injection hk with hk; subst hk
        exact r_loadn R hT hop ht hs (opR_one hr e) hv
      · cases hk
    · rename_i ht
      injection hk with hk; subst hk
      exact r_load1 R hT hop ht (opR_one hr e) hv
    · cases hk
  case convert t t' x =>
    obtain ⟨s, e, hk⟩ := s1_ne hk nw
    unfold trConv at hk
    split at hk
    · cases hk
    · cases hk
    · rename_i el e1 e2
      split at hk
      · rename_i e3
        injection hk with hk; subst hk
        exact r_str R he hT hop e1 e3 e2 (opR_one hr e) hv
      · cases hk
    · split at hk <;> cases hk
    · cases hk
  case lookup t m i ok =>
    obtain ⟨p, q, e1, e2, hk⟩ := s2_ne hk nw
    unfold trLookup at hk
    split at hk
    · rename_i kt et ht
      split at hk
      · rename_i z ks hz hks
        injection hk with hk; subst hk
        exact r_lookup R he hT hop ht hz hks (hr m (by simp [Op.operands]) _ e1) (hr i (by simp [Op.operands]) _ e2) hv
      · cases hk
    · cases hk
  case call c =>
    obtain ⟨ce, args, ts⟩ := c
    unfold trCall at hk
    split at hk
    · rename_i as has
      simp only at has
      cases ce with
      | value f => exfalso; cases f <;> first | (cases hk; done) | (obtain ⟨s, e, hk⟩ := s1_ne hk nw; cases hk)
      | invoke r m => exfalso; obtain ⟨s, e, hk⟩ := s1_ne hk nw; cases hk
      | builtin b =>
        have hr' : OpR ν ρ ds sv a args.toList := fun x hx => hr x (by simpa [Op.operands, Call.operands] using hx)
        have hk' : trBuiltin tt b ts.toList as = .rd k := hk
        unfold trBuiltin at hk'
        split at hk'
        · rename_i t s eas
          obtain ⟨x, ex⟩ : ∃ x, args.toList = [x] := List.length_eq_one_iff.1 (trSrcs_len has).symm
          obtain ⟨p, q, e1, e2, _⟩ := trSrcs_cons (ex ▸ has)
          injection e1 with e1; subst e1
          have ea : args = #[x] := by cases args; simp_all
          have et : ts = #[t] := by cases ts; simp_all
          subst ea; subst et
          unfold trLen at hk'
          split at hk' <;> try (cases hk'; done)
          · rename_i kt et ht
            injection hk' with hk'; subst hk'
            exact r_mlen R hT hop ht (hr' x (by simp) _ e2) hv
          · split at hk' <;> cases hk'
        · rename_i t s eas
          unfold trCap at hk'
          split at hk' <;> cases hk'
        · cases hk'
        · cases hk'
        · cases hk'
        · cases hk'
        · exfalso
          unfold trApp at hk'
          repeat' split at hk'
          all_goals first
            | (cases hk'; done)
            | (obtain ⟨_, h⟩ := bif_ne hk' nw; (repeat' split at h) <;> cases h)
        · exfalso
          unfold trCopy at hk'
          repeat' split at hk'
          all_goals (cases hk'; done)
        · exfalso
          unfold trClear at hk'
          repeat' split at hk'
          all_goals first
            | (cases hk'; done)
            | (obtain ⟨_, h⟩ := bif_ne hk' nw; cases h)
        · exfalso
          unfold trDel at hk'
          repeat' split at hk'
          all_goals (cases hk'; done)
        · cases hk'
        · cases hk'
        · cases hk'
    · cases hk
  case unOp u t x => cases u <;> simp only [trK, no] at hk <;> first | (cases hk; done) | (obtain ⟨s, e, hk⟩ := s1_ne hk nw; cases hk)
  case makeFunc f x y =>
    cases f <;> simp only [trK, no] at hk <;> first | (cases hk; done) | (split at hk <;> cases hk)
  case makeMap t r => cases r <;> simp only [trK, no] at hk <;> cases hk
  case makeInterface t x =>
    cases hi : ifaceT tt t with
    | true => rw [hi] at hk; cases hk
    | false => rw [hi] at hk; obtain ⟨s, e, hk⟩ := s1_ne (show s1 ds x (fun s => .pu (.mkif t s)) = _ from hk) nw; cases hk
  all_goals first
    | (obtain ⟨s, e, hk⟩ := s1_ne hk nw; cases hk; done)
    | (obtain ⟨s, t, e1, e2, hk⟩ := s2_ne hk nw; cases hk; done)
    | (split at hk <;> first | (cases hk; done) | (obtain ⟨s, e, hk⟩ := s1_ne hk nw; cases hk; done) | (obtain ⟨s, t, e1, e2, hk⟩ := s2_ne hk nw; cases hk; done))
    | (unfold trBuild at hk; (repeat' split at hk) <;> first | (cases hk; done) | (obtain ⟨_, hk⟩ := bif_ne hk nw; cases hk; done))
    | (unfold trBSlice at hk; (repeat' split at hk) <;> first | (cases hk; done) | (obtain ⟨_, hk⟩ := bif_ne hk nw; cases hk; done))
    | (obtain ⟨s, t, e1, e2, hk⟩ := s2_ne hk nw; unfold trBin trEq at hk; simp only [Bool.cond_eq_ite] at hk; (repeat' split at hk) <;> first | (cases hk; done) | (obtain ⟨_, hk⟩ := bif_ne hk nw; cases hk; done))
    | (split at hk
       · obtain ⟨s, e, hk⟩ := s1_ne hk nw; unfold trSlice at hk; (repeat' split at hk) <;> (cases hk; done)
       · cases hk)
    | (obtain ⟨s, e, hk⟩ := s1_ne hk nw; unfold trFAddr at hk; (repeat' split at hk) <;> (cases hk; done))
    | (obtain ⟨s, e, hk⟩ := s1_ne hk nw; unfold trField trPart at hk; (repeat' split at hk) <;> (cases hk; done))
    | (obtain ⟨s, t, e1, e2, hk⟩ := s2_ne hk nw; unfold trIAddr at hk; (repeat' split at hk) <;> (cases hk; done))
    | (obtain ⟨s, t, e1, e2, hk⟩ := s2_ne hk nw; unfold trIndex at hk; (repeat' split at hk) <;> first | (cases hk; done) | (obtain ⟨_, hk⟩ := bif_ne hk nw; cases hk; done))
    | (obtain ⟨s, t, e1, e2, hk⟩ := s2_ne hk nw; unfold trMkS at hk; (repeat' split at hk) <;> first | (cases hk; done) | (obtain ⟨_, hk⟩ := bif_ne hk nw; cases hk; done))
    | (obtain ⟨s, t, e1, e2, hk⟩ := s2_ne hk nw; obtain ⟨s, e3, hk⟩ := s1_ne hk nw; unfold trUpd at hk; (repeat' split at hk) <;> (cases hk; done))
    | (obtain ⟨s, t, e1, e2, hk⟩ := s2_ne hk nw; unfold trLookup at hk; (repeat' split at hk) <;> (cases hk; done))
    | (obtain ⟨s, e, hk⟩ := s1_ne hk nw; unfold trTas at hk; (repeat' split at hk) <;> (cases hk; done))
    | (obtain ⟨s, e, hk⟩ := s1_ne hk nw; unfold trLoad at hk; (repeat' split at hk) <;> (cases hk; done))
    | (obtain ⟨s, e, hk⟩ := s1_ne hk nw; unfold trConv at hk; (repeat' split at hk) <;> (cases hk; done))
end Ev
end Go.Proofs.YtoinghomkcjkcaaGreatDoor
