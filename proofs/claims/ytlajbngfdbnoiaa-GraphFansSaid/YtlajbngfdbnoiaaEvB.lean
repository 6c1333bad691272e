/- What the small machine's parts come to: laws by which an answer is taken apart. -/
import Derived.Test.YtlajbngfdbnoiaaEvT
namespace Go.Proofs.Ytlajbngfdbnoiaa
set_option linter.unusedSimpArgs false
set_option linter.unusedVariables false
set_option linter.constructorNameAsVariable false
open Go Go.RowKit
namespace Ev
variable {α β : Type}
theorem ocase_ne {o : Option α} {g r : β} {f : α → β} (h : ocase o g f = r) (hg : g ≠ r) : ∃ a, o = some a ∧ f a = r := by
  cases o with
  | none => exact absurd h hg
  | some a => exact ⟨a, rfl, h⟩
theorem bcase_or (c : Bool) (g t : β) : bcase c g t = g ∨ bcase c g t = t := by cases c; exact .inl rfl; exact .inr rfl
theorem bcase_ne {c : Bool} {g r t : β} (h : bcase c g t = r) (hg : g ≠ r) : c = true ∧ t = r := by
  cases c with
  | false => exact absurd h hg
  | true => exact ⟨rfl, h⟩
theorem bcase_ne' {c : Bool} {g r t : β} (h : bcase c g t = r) (hg : t ≠ r) : c = false ∧ g = r := by
  cases c with
  | true => exact absurd h hg
  | false => exact ⟨rfl, h⟩
theorem lcase_ne {l : List α} {g r : β} {f : α → List α → β} (h : lcase l g f = r) (hg : g ≠ r) : ∃ a m, l = a :: m ∧ f a m = r := by
  cases l with
  | nil => exact absurd h hg
  | cons a m => exact ⟨a, m, rfl, h⟩
@[simp] theorem ocase_none {g : β} {f : α → β} : ocase none g f = g := rfl
@[simp] theorem ocase_some {a : α} {g : β} {f : α → β} : ocase (some a) g f = f a := rfl
@[simp] theorem bcase_f {g t : β} : bcase false g t = g := rfl
@[simp] theorem bcase_t {g t : β} : bcase true g t = t := rfl
@[simp] theorem lcase_nil {g : β} {f : α → List α → β} : lcase [] g f = g := rfl
@[simp] theorem lcase_cons {a : α} {m : List α} {g : β} {f : α → List α → β} : lcase (a :: m) g f = f a m := rfl
@[simp] theorem ncase_zero {g : β} {f : Nat → β} : ncase 0 g f = g := rfl
@[simp] theorem ncase_succ {n : Nat} {g : β} {f : Nat → β} : ncase (n + 1) g f = f n := rfl
theorem bcase_eq (c : Bool) (g t : β) : bcase c g t = bif c then t else g := by cases c <;> rfl
section
variable {v : V} {g r : β}
theorem onI_ne {f} (h : onI v g f = r) (hg : g ≠ r) : ∃ k z, v = .i k z ∧ f k z = r := by
  cases v <;> first | exact absurd h hg | exact ⟨_, _, rfl, h⟩
theorem onB_ne {f} (h : onB v g f = r) (hg : g ≠ r) : ∃ x, v = .b x ∧ f x = r := by
  cases v <;> first | exact absurd h hg | exact ⟨_, rfl, h⟩
theorem onS_ne {f} (h : onS v g f = r) (hg : g ≠ r) : ∃ x, v = .s x ∧ f x = r := by
  cases v <;> first | exact absurd h hg | exact ⟨_, rfl, h⟩
theorem onP_ne {f} (h : onP v g f = r) (hg : g ≠ r) : ∃ x o, v = .p x o ∧ f x o = r := by
  cases v <;> first | exact absurd h hg | exact ⟨_, _, rfl, h⟩
theorem onE_ne {f} (h : onE v g f = r) (hg : g ≠ r) : ∃ x o, v = .e x o ∧ f x o = r := by
  cases v <;> first | exact absurd h hg | exact ⟨_, _, rfl, h⟩
theorem onSl_ne {f} (h : onSl v g f = r) (hg : g ≠ r) : ∃ x o s n, v = .sl x o s n ∧ f x o s n = r := by
  cases v <;> first | exact absurd h hg | exact ⟨_, _, _, _, rfl, h⟩
theorem onF_ne {f} (h : onF v g f = r) (hg : g ≠ r) : ∃ x a b, v = .f x a b ∧ f x a b = r := by
  cases v <;> first | exact absurd h hg | exact ⟨_, _, _, rfl, h⟩
theorem onN_ne {f} (h : onN v g f = r) (hg : g ≠ r) : ∃ t w, v = .n t w ∧ f t w = r := by
  cases v <;> first | exact absurd h hg | exact ⟨_, _, rfl, h⟩
theorem onG_ne {f} (h : onG v g f = r) (hg : g ≠ r) : ∃ l, v = .g l ∧ f l = r := by
  cases v <;> first | exact absurd h hg | exact ⟨_, rfl, h⟩
theorem onU_ne {f} (h : onU v g f = r) (hg : g ≠ r) : ∃ l, v = .u l ∧ f l = r := by
  cases v <;> first | exact absurd h hg | exact ⟨_, rfl, h⟩
theorem onM_ne {f} (h : onM v g f = r) (hg : g ≠ r) : ∃ x, v = .m x ∧ f x = r := by
  cases v <;> first | exact absurd h hg | exact ⟨_, rfl, h⟩
end
theorem onLit_ne {z : Z} {g r : β} {f : Int → β} (h : onLit z g f = r) (hg : g ≠ r) : ∃ n, z = .lit n ∧ f n = r := by
  cases z <;> first | exact absurd h hg | exact ⟨_, rfl, h⟩
theorem ipos_ne {n : Int} {r c : β} {f : Nat → β} (h : ipos n f (fun _ => c) = r) (hg : c ≠ r) : ∃ m : Nat, n = (m : Int) ∧ f m = r := by
  cases n with
  | ofNat m => exact ⟨m, rfl, h⟩
  | negSucc m => exact absurd h hg
theorem asNat_ne {v : V} {g r : β} {f : Nat → β} (h : asNat v g f = r) (hg : g ≠ r) : ∃ (k : IntKind) (n : Nat), v = .i k (.lit (n : Int)) ∧ f n = r := by
  obtain ⟨k, z, rfl, h⟩ := onI_ne h hg
  obtain ⟨n, rfl, h⟩ := onLit_ne h hg
  obtain ⟨m, rfl, h⟩ := ipos_ne h hg
  exact ⟨k, m, rfl, h⟩
theorem forceN_eq {n : Nat} {g : β} {f : Nat → β} : forceN n g f = f n := by unfold forceN; rw [Nat.beq_refl]; rfl
theorem forceI_eq {n : Int} {g : β} {f : Int → β} : forceI n g f = f n := by unfold forceI; cases n <;> simp [ipos]
theorem okI_eq {k : IntKind} {n : Int} : okI k n = some (.i k (.lit n)) := by unfold okI; rw [forceI_eq]
theorem okB_eq {b : Bool} : okB b = some (.b b) := by cases b <;> rfl
theorem okN_eq {n : Nat} : okN n = some (.i .i64 (.lit (n : Int))) := by unfold okN; rw [forceN_eq]; rfl
theorem okOB_some {o : Option Bool} {v : V} (h : okOB o = some v) : ∃ b, o = some b ∧ v = .b b := by
  obtain ⟨b, e, h2⟩ := ocase_ne h (by simp)
  rw [okB_eq] at h2; exact ⟨b, e, (Option.some.inj h2).symm⟩
-- lists
theorem nth_eq (l : List α) : ∀ i, nth l i = l[i]? := by
  induction l with
  | nil => intro i; rfl
  | cons a l ih => intro i; cases i with
    | zero => rfl
    | succ i => simp only [List.getElem?_cons_succ]; exact ih i
theorem drop_eq (n : Nat) : ∀ l : List α, Ev.drop n l = l.drop n := by
  induction n with
  | zero => intro l; rfl
  | succ n ih => intro l; cases l with
    | nil => rfl
    | cons a l => exact ih l
theorem consS_eq (a : α) (l : List α) : consS l a = a :: l := by cases l <;> rfl
theorem take_eq (n : Nat) : ∀ l : List α, Ev.take n l = l.take n := by
  induction n with
  | zero => intro l; rfl
  | succ n ih => intro l; cases l with
    | nil => rfl
    | cons a l => show consS (Ev.take n l) a = _; rw [consS_eq, ih]; rfl
theorem app_eq (l : List α) : ∀ m, app l m = l ++ m := by
  induction l with
  | nil => intro m; rfl
  | cons a l ih => intro m; show consS (app l m) a = _; rw [consS_eq, ih]; rfl
theorem len_eq (l : List α) : Ev.len l = l.length := by
  induction l with
  | nil => rfl
  | cons a l ih => show Nat.succ (Ev.len l) = _; rw [ih]; rfl
theorem lenIs_iff {n : Nat} {l : List V} : lenIs n l = true ↔ l.length = n := by unfold lenIs; rw [len_eq, Nat.beq_eq]
theorem over_eq (vs : List α) : ∀ l : List α, over vs l = (vs.take l.length) ++ l.drop vs.length := by
  induction vs with
  | nil => intro l; show l = _; simp
  | cons v vs ih => intro l; cases l with
    | nil => rfl
    | cons a l => show consS (over vs l) v = _; rw [consS_eq, ih]; simp
theorem splice_eq (off : Nat) (vs : List α) : ∀ l : List α, off + vs.length ≤ l.length → splice off vs l = l.take off ++ vs ++ l.drop (off + vs.length) := by
  induction off with
  | zero => intro l h; show over vs l = _; rw [over_eq]; simp; exact List.take_of_length_le (by omega)
  | succ n ih => intro l h; cases l with
    | nil => simp at h
    | cons a l => show consS (splice n vs l) a = _; rw [consS_eq, ih l (by simp at h; omega)]; simp [Nat.succ_add]
theorem splice_get {off : Nat} {vs l : List α} (h : off + vs.length ≤ l.length) (i : Nat) : (splice off vs l)[i]? = if off ≤ i ∧ i < off + vs.length then vs[i - off]? else l[i]? := by
  rw [splice_eq off vs l h, List.append_assoc]
  by_cases h1 : i < off
  · rw [List.getElem?_append_left (by simp; omega), List.getElem?_take]; simp [h1]; omega
  · by_cases h2 : i < off + vs.length
    · rw [List.getElem?_append_right (by simp; omega), List.getElem?_append_left (by simp; omega)]
      simp [show off ≤ i by omega, h2, show min off l.length = off by omega]
    · rw [List.getElem?_append_right (by simp; omega), List.getElem?_append_right (by simp; omega)]
      simp only [List.length_take, List.getElem?_drop, show min off l.length = off by omega]
      rw [if_neg (by omega)]; congr 1; omega
theorem splice_len {off : Nat} {vs l : List α} (h : off + vs.length ≤ l.length) : (splice off vs l).length = l.length := by
  rw [splice_eq off vs l h]; simp; omega
theorem over_len (vs : List α) : ∀ l : List α, (over vs l).length = l.length := by
  induction vs with
  | nil => intro l; rfl
  | cons v vs ih => intro l; cases l with
    | nil => rfl
    | cons a l => show (consS (over vs l) v).length = _; rw [consS_eq]; simp [ih]
theorem splice_len' (off : Nat) (vs : List α) : ∀ l : List α, (splice off vs l).length = l.length := by
  induction off with
  | zero => intro l; exact over_len vs l
  | succ n ih => intro l; cases l with
    | nil => rfl
    | cons a l => show (consS (splice n vs l) a).length = _; rw [consS_eq]; simp [ih]
theorem rep_len (z : List α) (n : Nat) : (rep z n).length = n * z.length := by
  induction n with
  | zero => show ([] : List α).length = _; simp
  | succ n ih => show (app z (rep z n)).length = _; rw [app_eq, List.length_append, ih, Nat.succ_mul]; omega
-- trees
variable {t : Tr α} {p q : BP} {x : Option α}
theorem mkL_eq (l : Tr α) (v : Option α) (r : Tr α) : mkL l v r = .nd l v r := by cases l <;> rfl
theorem mkR_eq (l : Tr α) (v : Option α) (r : Tr α) : mkR r l v = .nd l v r := by cases r <;> rfl
theorem get_lf (p : BP) : get p (Tr.lf : Tr α) = none := by cases p <;> rfl
theorem get_set_same (p : BP) : ∀ t : Tr α, get p (Ev.set p x t) = x := by
  induction p with
  | one => intro t; cases t <;> rfl
  | e p ih => intro t; cases t with
    | lf => show get (.e p) (mkL (Ev.set p x .lf) none .lf) = x; rw [mkL_eq]; exact ih _
    | nd l v r => show get (.e p) (mkL (Ev.set p x l) v r) = x; rw [mkL_eq]; exact ih _
  | o p ih => intro t; cases t with
    | lf => show get (.o p) (mkR (Ev.set p x .lf) .lf none) = x; rw [mkR_eq]; exact ih _
    | nd l v r => show get (.o p) (mkR (Ev.set p x r) l v) = x; rw [mkR_eq]; exact ih _
theorem get_set_ne (p : BP) : ∀ (q : BP) (t : Tr α), q ≠ p → get q (Ev.set p x t) = get q t := by
  induction p with
  | one => intro q t h; cases q with
    | one => exact absurd rfl h
    | e q => cases t with
      | lf => exact get_lf q
      | nd l v r => rfl
    | o q => cases t with
      | lf => exact get_lf q
      | nd l v r => rfl
  | e p ih => intro q t h; cases t with
    | lf => show get q (mkL (Ev.set p x .lf) none .lf) = _; rw [mkL_eq]; cases q with
      | one => rfl
      | e q => exact (ih q .lf (fun e => h (by rw [e]))).trans (get_lf q)
      | o q => exact get_lf q
    | nd l v r => show get q (mkL (Ev.set p x l) v r) = _; rw [mkL_eq]; cases q with
      | one => rfl
      | e q => exact ih q l (fun e => h (by rw [e]))
      | o q => rfl
  | o p ih => intro q t h; cases t with
    | lf => show get q (mkR (Ev.set p x .lf) .lf none) = _; rw [mkR_eq]; cases q with
      | one => rfl
      | e q => exact get_lf q
      | o q => exact (ih q .lf (fun e => h (by rw [e]))).trans (get_lf q)
    | nd l v r => show get q (mkR (Ev.set p x r) l v) = _; rw [mkR_eq]; cases q with
      | one => rfl
      | e q => rfl
      | o q => exact ih q r (fun e => h (by rw [e]))
theorem get_set (p q : BP) (t : Tr α) (x : Option α) : get q (Ev.set p x t) = if q = p then x else get q t := by
  split
  · rename_i h; subst h; exact get_set_same q t
  · rename_i h; exact get_set_ne p q t h
-- numbers in twos
def bpN : BP → Nat
  | .one => 1
  | .e p => 2 * bpN p
  | .o p => 2 * bpN p + 1
theorem bpN_pos : ∀ p, 0 < bpN p
  | .one => by simp [bpN]
  | .e p => by have := bpN_pos p; simp [bpN]; omega
  | .o p => by simp [bpN]
theorem bpN_inj : ∀ p q, bpN p = bpN q → p = q
  | .one, .one, _ => rfl
  | .one, .e q, h => by have := bpN_pos q; simp [bpN] at h; omega
  | .one, .o q, h => by have := bpN_pos q; simp [bpN] at h; omega
  | .e p, .one, h => by have := bpN_pos p; simp [bpN] at h; omega
  | .e p, .e q, h => by rw [bpN_inj p q (by simp [bpN] at h; omega)]
  | .e p, .o q, h => by simp [bpN] at h; omega
  | .o p, .one, h => by have := bpN_pos p; simp [bpN] at h; omega
  | .o p, .e q, h => by simp [bpN] at h; omega
  | .o p, .o q, h => by rw [bpN_inj p q (by simp [bpN] at h; omega)]
theorem bpN_succ : ∀ p, bpN (succ p) = bpN p + 1
  | .one => rfl
  | .e p => by show bpN (.o p) = _; simp [bpN]
  | .o p => by show bpN (.e (succ p)) = _; simp [bpN, bpN_succ p]; omega
theorem bpOf'_N : ∀ (f m : Nat), 0 < m → m < 2 ^ f → bpN (bpOf' f m) = m := by
  intro f
  induction f with
  | zero => intro m h h'; omega
  | succ f ih =>
    intro m h h'
    show bpN (Bool.rec (Bool.rec (BP.e (bpOf' f (Nat.shiftRight m 1))) (BP.o (bpOf' f (Nat.shiftRight m 1))) (Nat.beq (Nat.land m 1) 1)) BP.one (Nat.ble m 1)) = m
    have hs : Nat.shiftRight m 1 = m / 2 := rfl
    have hl : Nat.land m 1 = m % 2 := by show m &&& 1 = m % 2; exact Nat.and_one_is_mod m
    have hp : 2 ^ (f + 1) = 2 ^ f * 2 := Nat.pow_succ ..
    rw [hs, hl]
    by_cases h1 : m ≤ 1
    · rw [Nat.ble_eq_true_of_le h1]; show (1 : Nat) = m; omega
    · have hb : Nat.ble m 1 = false := by cases hb : Nat.ble m 1 with
        | true => exact absurd (Nat.le_of_ble_eq_true hb) h1
        | false => rfl
      rw [hb]
      have ih' := ih (m / 2) (by omega) (by omega)
      by_cases h2 : m % 2 = 1
      · rw [h2]; show 2 * bpN (bpOf' f (m / 2)) + 1 = m; omega
      · have : Nat.beq (m % 2) 1 = false := by cases hb : Nat.beq (m % 2) 1 with
          | true => exact absurd (Nat.eq_of_beq_eq_true hb) h2
          | false => rfl
        rw [this]; show 2 * bpN (bpOf' f (m / 2)) = m; omega
theorem bpOf_inj {m n : Nat} (hm : m + 1 < 2 ^ 40) (hn : n + 1 < 2 ^ 40) (h : bpOf m = bpOf n) : m = n := by
  have := congrArg bpN h
  unfold bpOf at this
  rw [bpOf'_N 40 _ (by omega) hm, bpOf'_N 40 _ (by omega) hn] at this
  omega
theorem bpEq_iff : ∀ p q, bpEq p q = true ↔ p = q
  | .one, .one => ⟨fun _ => rfl, fun _ => rfl⟩
  | .one, .e q => ⟨fun h => (by cases h), fun h => (by cases h)⟩
  | .one, .o q => ⟨fun h => (by cases h), fun h => (by cases h)⟩
  | .e p, .one => ⟨fun h => (by cases h), fun h => (by cases h)⟩
  | .e p, .e q => (bpEq_iff p q).trans ⟨fun h => (by rw [h]), fun h => (by cases h; rfl)⟩
  | .e p, .o q => ⟨fun h => (by cases h), fun h => (by cases h)⟩
  | .o p, .one => ⟨fun h => (by cases h), fun h => (by cases h)⟩
  | .o p, .e q => ⟨fun h => (by cases h), fun h => (by cases h)⟩
  | .o p, .o q => (bpEq_iff p q).trans ⟨fun h => (by rw [h]), fun h => (by cases h; rfl)⟩
theorem ofL_get : ∀ (l : List (Option α)) (i : Nat) (t : Tr α) (n : Nat), i + l.length < 2 ^ 39 → n < 2 ^ 39 → get (bpOf n) (ofL l i t) = if i ≤ n ∧ n < i + l.length then (l[n - i]?).join else get (bpOf n) t
  | [], i, t, n, _, _ => by simp [ofL]; intro h h'; omega
  | a :: l, i, t, n, h, hn => by
    simp only [List.length_cons] at h ⊢
    show get (bpOf n) (ofL l (i + 1) (Ev.set (bpOf i) a t)) = _
    rw [ofL_get l (i + 1) _ n (by omega) hn, get_set]
    by_cases e : n = i
    · subst e; rw [if_neg (by omega), if_pos rfl, if_pos (by omega)]; simp
    · have : bpOf n ≠ bpOf i := fun e' => e (bpOf_inj (by omega) (by omega) e')
      rw [if_neg this]
      by_cases h1 : i + 1 ≤ n ∧ n < i + 1 + l.length
      · rw [if_pos h1, if_pos (by omega), show n - i = (n - (i + 1)) + 1 by omega]; rfl
      · rw [if_neg h1, if_neg (by omega)]
end Ev
end Go.Proofs.Ytlajbngfdbnoiaa
