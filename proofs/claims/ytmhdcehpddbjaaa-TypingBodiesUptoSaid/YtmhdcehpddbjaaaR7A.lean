/- The document's answers of chapter 7, in plain Lean, and why their codes are the program's. -/
import Derived.Test.YtmhdcehpddbjaaaTySpec
import Derived.Test.YtmhdcehpddbjaaaTyY
import Derived.Test.YtmhdcehpddbjaaaRefD
import Derived.WalkKit
import Derived.WalkSpells
import Derived.WalkLawsBesides
import Derived.LoopTactic
import Derived.Deep.QuietTactic
import Derived.BigQuiet
import Derived.Below
import Derived.Laws.ResultCell
import Derived.Laws.Tables
import Derived.Laws.Rows
import Derived.Deep.Cut
import Derived.KernelRfl
import Derived.Test.YtmhdcehpddbjaaaTabClone
import Derived.BigRegion
set_option linter.unusedSimpArgs false
set_option linter.unusedVariables false
namespace Go.Proofs.Ytmhdcehpddbjaaa

/-- An answer as the document gives it: what is wrong has no type. -/
def Rf.norm (r : Rs) : Rs := if r.2 = 0 then r else (Ty.none_, r.2)
theorem Rf.norm_code (r : Rs) : (Rf.norm r).2 = r.2 := by unfold Rf.norm; split <;> rfl
theorem Rf.norm_type {r : Rs} (h : r.2 = 0) : (Rf.norm r).1 = r.1 := by unfold Rf.norm; rw [if_pos h]
theorem Rf.norm_ok {r : Rs} (h : r.2 = 0) : Rf.norm r = r := by unfold Rf.norm; rw [if_pos h]
theorem Rf.norm_bad {r : Rs} (h : r.2 ≠ 0) : Rf.norm r = (Ty.none_, r.2) := by unfold Rf.norm; rw [if_neg h]
/-- How many arguments a form has. -/
def Rf.need (k : Int) : Int := if k < 1 ∨ 15 ≤ k then -1 else if k = 9 then 2 else if k = 6 ∨ k = 7 ∨ k = 8 ∨ k = 14 then 1 else 0
theorem Rf.need_args (k : Int) (h : k ≠ 13) : Rf.need k = Ty.args k := by
 unfold Rf.need Ty.args
 by_cases h1 : k < 1 ∨ 15 ≤ k
 ·
  rw [if_pos h1, if_neg (by omega), if_neg (by omega), if_neg (by omega)]
 ·
  rw [if_neg h1]
  by_cases h9 : k = 9
  ·
   rw [if_pos h9, if_pos h9]
  ·
   rw [if_neg h9, if_neg h9]
   by_cases h6 : k = 6 ∨ k = 7 ∨ k = 8 ∨ k = 14
   ·
    rw [if_pos h6, if_pos h6]
   ·
    rw [if_neg h6, if_neg h6, if_pos (by omega)]
def Rf.bin (n : Int) (a b : Ty) : Rs :=
 if 1 ≤ n ∧ n ≤ 5 ∧ a.k = 1 ∧ b.k = 1 then (Ty.of 1, 0)
 else if 8 ≤ n ∧ n ≤ 11 ∧ a.k = 1 ∧ b.k = 1 then (Ty.of 2, 0)
 else if 12 ≤ n ∧ n ≤ 14 ∧ a.k = 2 ∧ b.k = 2 then (Ty.of 2, 0)
 else if (n = 6 ∨ n = 7) ∧ a.k = b.k ∧ (a.k = 1 ∨ a.k = 2 ∨ a.k = 5) then (Ty.of 2, 0)
 else (Ty.none_, 14)
theorem Rf.bin_eq (n : Int) (a b : Ty) : Rf.bin n a b = Ty.bin n (a, 0) (b, 0) := by
 unfold Rf.bin Ty.bin Ty.opk
 simp only [ne_eq, not_true_eq_false, if_false]
 by_cases h1 : n = 1 ∨ n = 2 ∨ n = 3 ∨ n = 4 ∨ n = 5
 ·
  have e : n = 1 ∨ n = 2 ∨ n = 3 ∨ n = 4 ∨ n = 5 ∨ n = 8 ∨ n = 9 ∨ n = 10 ∨ n = 11 := by omega
  rw [if_pos e, if_pos h1]
  by_cases hab : a.k = 1 ∧ b.k = 1
  ·
   rw [if_pos (by omega), if_neg (by omega)]
  ·
   rw [if_neg (by omega), if_neg (by omega), if_neg (by omega), if_neg (by omega), if_pos (by omega)]
 ·
  by_cases h8 : n = 8 ∨ n = 9 ∨ n = 10 ∨ n = 11
  ·
   have e : n = 1 ∨ n = 2 ∨ n = 3 ∨ n = 4 ∨ n = 5 ∨ n = 8 ∨ n = 9 ∨ n = 10 ∨ n = 11 := by omega
   rw [if_pos e, if_neg h1]
   by_cases hab : a.k = 1 ∧ b.k = 1
   ·
    rw [if_neg (by omega), if_pos (by omega), if_neg (by omega)]
   ·
    rw [if_neg (by omega), if_neg (by omega), if_neg (by omega), if_neg (by omega), if_pos (by omega)]
  ·
   have e : ¬(n = 1 ∨ n = 2 ∨ n = 3 ∨ n = 4 ∨ n = 5 ∨ n = 8 ∨ n = 9 ∨ n = 10 ∨ n = 11) := by omega
   rw [if_neg e, if_neg h1]
   by_cases h12 : n = 12 ∨ n = 13 ∨ n = 14
   ·
    rw [if_pos h12]
    by_cases hab : a.k = 2 ∧ b.k = 2
    ·
     rw [if_neg (by omega), if_neg (by omega), if_pos (by omega), if_neg (by omega)]
    ·
     rw [if_neg (by omega), if_neg (by omega), if_neg (by omega), if_neg (by omega), if_pos (by omega)]
   ·
    rw [if_neg h12]
    by_cases h6 : (n = 6 ∨ n = 7) ∧ (a.k = 1 ∨ a.k = 2 ∨ a.k = 5)
    ·
     rw [if_pos h6]
     by_cases hab : a.k = b.k
     ·
      rw [if_neg (by omega), if_neg (by omega), if_neg (by omega), if_pos ⟨h6.1, hab, h6.2⟩, if_neg (by omega)]
     ·
      rw [if_neg (by omega), if_neg (by omega), if_neg (by omega), if_neg (by omega), if_pos (by omega)]
    ·
     rw [if_neg h6, if_neg (by omega), if_neg (by omega), if_neg (by omega), if_neg (by omega), if_pos (by omega)]
/-- The types of what is right; the first code. -/
def Rf.all (rs : List Rs) : List Ty × Int := match Ty.bad rs with | some c => ([], c) | none => (rs.map (·.1), 0)
def Rf.named (k : Int) (v : Vd) (a : Rs) : Rs :=
 if k = 5 then (if v.ty.k = 1 ∨ v.ty.k = 3 then (Ty.of 1, 0) else if v.ty.k = 2 then (Ty.of 2, 0) else if v.ty.k = 5 then (v.ty, 0) else (Ty.none_, 14))
 else if k = 6 then (if v.ty.k ≠ 4 then (Ty.none_, 14) else if a.2 ≠ 0 then (Ty.none_, a.2) else if a.1.k = 1 then (Ty.of 1, 0) else (Ty.none_, 14))
 else if k = 10 then (if v.ty.k = 6 then (⟨5, 0, 0, v.ty.name⟩, 0) else (Ty.none_, 14))
 else if k = 11 then (if v.ty.k = 7 then (Ty.of 2, 0) else (Ty.none_, 14))
 else if k = 12 then (if v.ty.k = 7 then (Ty.of 1, 0) else (Ty.none_, 14))
 else (Ty.none_, 14)
theorem Rf.named_eq (k : Int) (v : Vd) (a : Rs) : Rf.named k v a = Ty.named k (some v) a := by
 unfold Rf.named Ty.named Ty.same
 obtain ⟨t, c⟩ := a
 by_cases h5 : k = 5
 ·
  subst h5; simp
 ·
  by_cases h6 : k = 6
  ·
   subst h6; simp; by_cases h4 : v.ty.k = 4 <;> simp [h4] <;> by_cases hc : c = 0 <;> simp [hc] <;> by_cases h1 : t.k = 1 <;> simp [h1]
  ·
   by_cases h10 : k = 10
   ·
    subst h10; simp
   ·
    by_cases h11 : k = 11
    ·
     subst h11; simp
    ·
     by_cases h12 : k = 12
     ·
      subst h12; simp
     ·
      simp [h5, h6, h10, h11, h12]
/-- An Invoke's answer. -/
def Rf.call (p : Pl) (n : Int) (m : Md) (rs : List Rs) : Rs :=
 if n = 2 ∧ m.abs = true then (Ty.none_, 15)
 else if (Rf.all rs).2 ≠ 0 then (Ty.none_, (Rf.all rs).2)
 else if Ty.fitsAll p.u m.ps (Rf.all rs).1 = true then (m.res, 0) else (Ty.none_, 15)
theorem Ty.bad_ne : ∀ {rs : List Rs} {c : Int}, Ty.bad rs = some c → c ≠ 0
 | r :: rs, c, h => by
  rw [Ty.bad] at h
  split at h
  ·
   next h2 => obtain rfl := Option.some.inj h; exact h2
  ·
   exact Ty.bad_ne h
theorem Ty.bad_norm : ∀ rs : List Rs, Ty.bad (rs.map Rf.norm) = Ty.bad rs
 | [] => rfl
 | r :: rs => by simp only [List.map_cons, Ty.bad, Rf.norm_code, Ty.bad_norm rs]
theorem Ty.types_norm : ∀ {rs : List Rs}, Ty.bad rs = none → (rs.map Rf.norm).map (·.1) = rs.map (·.1)
 | [], _ => rfl
 | r :: rs, h => by
  rw [Ty.bad] at h
  split at h
  ·
   cases h
  ·
   next h2 =>
   have h2' : r.2 = 0 := by simpa using h2
   simp only [List.map_cons, Rf.norm_type h2', Ty.types_norm h]
theorem Rf.call_eq (p : Pl) (n : Int) (m : Md) (rs : List Rs) : Rf.call p n m (rs.map Rf.norm) = Ty.call p n m rs := by
 unfold Rf.call Ty.call Rf.all
 rw [Ty.bad_norm]
 split
 ·
  rfl
 ·
  cases h : Ty.bad rs with
  | some c => simp [Ty.bad_ne h]
  | none => simp only [ne_eq, not_true_eq_false, if_false, Ty.types_norm h]
/-- Of wrong answers the document has no type. -/
theorem Ty.call_norm (p : Pl) (n : Int) (m : Md) (rs : List Rs) : Rf.norm (Ty.call p n m rs) = Ty.call p n m rs := by
 unfold Ty.call
 split
 ·
  rfl
 ·
  cases h : Ty.bad rs with
  | some c => simp [Rf.norm]
  | none => simp only; split <;> rfl
def Rf.invoke (p : Pl) (n : Int) (name what : ByteArray) (rs : List Rs) : Rs :=
 if (Ty.whose p n name).2 ≠ 0 then (Ty.none_, (Ty.whose p n name).2) else
  let at_ := Tb.method p.u (Ty.whose p n name).1 what
  if at_.2.2 = false then (Ty.none_, 15) else
   match Tb.meth p.u at_.1 at_.2.1 with
   | none => (Ty.none_, 15)
   | some m => Rf.call p n m rs
theorem Rf.invoke_eq (p : Pl) (n : Int) (name what : ByteArray) (rs : List Rs) : Rf.invoke p n name what (rs.map Rf.norm) = Ty.invoke p n name what rs := by
 unfold Rf.invoke Ty.invoke
 simp only [Rf.call_eq]
 rfl
theorem Ty.invoke_norm (p : Pl) (n : Int) (name what : ByteArray) (rs : List Rs) : Rf.norm (Ty.invoke p n name what rs) = Ty.invoke p n name what rs := by
 unfold Ty.invoke
 split
 ·
  next h => rw [Rf.norm_bad h]
 ·
  simp only
  split
  ·
   rfl
  ·
   split
   ·
    rfl
   ·
    exact Ty.call_norm p n _ rs
theorem Ty.same_norm (a : Rs) (k : Int) : Ty.same (Rf.norm a) k = Ty.same a k := by
 unfold Ty.same
 by_cases h : a.2 = 0
 ·
  rw [Rf.norm_ok h]
 ·
  rw [Rf.norm_bad h]; simp [h]
theorem Ty.same_is (a : Rs) (k : Int) : Rf.norm (Ty.same a k) = Ty.same a k := by
 unfold Ty.same
 split
 ·
  next h => exact Rf.norm_bad h
 ·
  split <;> rfl
theorem Ty.named_norm (k : Int) (v : Option Vd) (a : Rs) : Ty.named k v (Rf.norm a) = Rf.norm (Ty.named k v a) := by
 unfold Ty.named
 cases v with
 | none => rfl
 | some v =>
  simp only [Ty.same_norm]
  repeat' split
  all_goals first | rfl | (next h => exact (Rf.norm_bad (r := (Ty.none_, (Ty.same a 1).2)) h).symm)
theorem Rf.all_nil : Rf.all [] = ([], 0) := rfl
theorem Rf.all_one (a : Rs) : Rf.all [a] = if a.2 ≠ 0 then ([], a.2) else ([a.1], 0) := by
 by_cases h : a.2 = 0 <;> simp [Rf.all, Ty.bad, h]
theorem Rf.all_two (a b : Rs) : Rf.all [a, b] = if a.2 ≠ 0 then ([], a.2) else if b.2 ≠ 0 then ([], b.2) else ([a.1, b.1], 0) := by
 by_cases h : a.2 = 0 <;> by_cases h2 : b.2 = 0 <;> simp [Rf.all, Ty.bad, h, h2]
def Rf.exprG (p : Pl) (k n : Int) (name what : ByteArray) (rs : List Rs) : Rs :=
 if k = 13 then (if (Rf.invoke p n name what rs).2 = 0 ∧ (Rf.invoke p n name what rs).1.k = 0 then (Ty.none_, 14) else Rf.invoke p n name what rs)
 else if Rf.need k < 0 ∨ (rs.length : Int) ≠ Rf.need k then (Ty.none_, 14)
 else if k = 1 then (Ty.of 1, 0)
 else if k = 2 ∨ k = 3 then (Ty.of 2, 0)
 else if k = 4 then (Ty.of 5, 0)
 else if k = 5 ∨ k = 6 ∨ k = 10 ∨ k = 11 ∨ k = 12 then (match p.var name with | none => (Ty.none_, 13) | some v => Rf.named k v (Ty.hd rs))
 else if k = 14 ∧ Tb.typed p.u name = false then (Ty.none_, 13)
 else if (Rf.all rs).2 ≠ 0 then (Ty.none_, (Rf.all rs).2)
 else if k = 7 ∧ (Ty.hd rs).1.k = 1 ∨ k = 8 ∧ (Ty.hd rs).1.k = 2 then ((Ty.hd rs).1, 0)
 else if k = 9 then Rf.bin n (Ty.hd rs).1 (Ty.hd2 rs).1
 else if k = 14 ∧ (Ty.hd rs).1.k = 5 then (⟨5, 0, 0, name⟩, 0)
 else (Ty.none_, 14)
theorem Ty.exprG_13 (p : Pl) (n : Int) (name what : ByteArray) (rs : List Rs) : Ty.exprG p 13 n name what rs = Ty.some_ (Ty.invoke p n name what rs) := by
 unfold Ty.exprG
 rw [if_neg (show ¬(Ty.args 13 < 0 ∨ ((rs.length : Int) ≠ Ty.args 13 ∧ (13 : Int) ≠ 13)) from fun h => (h.elim (fun h => absurd h (by decide)) (fun h => h.2 rfl)))]
 rfl
theorem Rf.exprG_eq (p : Pl) (k n : Int) (name what : ByteArray) (rs : List Rs) : Rf.exprG p k n name what (rs.map Rf.norm) = Rf.norm (Ty.exprG p k n name what rs) := by
 by_cases h13 : k = 13
 ·
  subst h13
  rw [Ty.exprG_13]
  have hn := Ty.invoke_norm p n name what rs
  show (if (Rf.invoke p n name what (rs.map Rf.norm)).2 = 0 ∧ (Rf.invoke p n name what (rs.map Rf.norm)).1.k = 0 then (Ty.none_, 14) else Rf.invoke p n name what (rs.map Rf.norm)) = _
  rw [Rf.invoke_eq]
  unfold Ty.some_
  by_cases h : (Ty.invoke p n name what rs).2 = 0 ∧ (Ty.invoke p n name what rs).1.k = 0
  ·
   rw [if_pos h, if_pos h]; rfl
  ·
   rw [if_neg h, if_neg h]; exact hn.symm
 ·
  by_cases ha : Ty.args k < 0 ∨ (rs.length : Int) ≠ Ty.args k
  ·
   have e : Ty.exprG p k n name what rs = (Ty.none_, 14) := by unfold Ty.exprG; rw [if_pos (ha.elim .inl (fun h => .inr ⟨h, h13⟩))]
   rw [e]
   unfold Rf.exprG
   rw [if_neg h13, Rf.need_args k h13, List.length_map, if_pos ha]; rfl
  ·
   have hk : k = 1 ∨ k = 2 ∨ k = 3 ∨ k = 4 ∨ k = 5 ∨ k = 10 ∨ k = 11 ∨ k = 12 ∨ k = 9 ∨ k = 6 ∨ k = 7 ∨ k = 8 ∨ k = 14 := by
    have h0 : ¬ Ty.args k < 0 := fun h => ha (.inl h)
    unfold Ty.args at h0
    by_cases q1 : k = 9
    ·
     omega
    ·
     rw [if_neg q1] at h0
     by_cases q2 : k = 6 ∨ k = 7 ∨ k = 8 ∨ k = 14
     ·
      omega
     ·
      rw [if_neg q2] at h0
      by_cases q3 : k = 1 ∨ k = 2 ∨ k = 3 ∨ k = 4 ∨ k = 5 ∨ k = 10 ∨ k = 11 ∨ k = 12 ∨ k = 13
      ·
       omega
      ·
       rw [if_neg q3] at h0; omega
   have hlen : (rs.length : Int) = Ty.args k := Decidable.byContradiction fun h => ha (.inr h)
   clear ha h13
   have h0 : Ty.args k = 0 → rs = [] := fun h => List.length_eq_zero_iff.1 (by omega)
   have h1 : Ty.args k = 1 → ∃ a, rs = [a] := fun h => by
    have : rs.length = 1 := by omega
    match rs, this with | [a], _ => exact ⟨a, rfl⟩
   have h2 : Ty.args k = 2 → ∃ a b, rs = [a, b] := fun h => by
    have : rs.length = 2 := by omega
    match rs, this with | [a, b], _ => exact ⟨a, b, rfl⟩
   clear hlen
   rcases hk with rfl | rfl | rfl | rfl | rfl | rfl | rfl | rfl | rfl | rfl | rfl | rfl | rfl
   iterate 4
    ·
     obtain rfl := h0 rfl; rfl
   iterate 4
    ·
     obtain rfl := h0 rfl
     show (match p.var name with | none => (Ty.none_, 13) | some v => Rf.named _ v (Ty.hd [])) = Rf.norm (Ty.named _ (p.var name) (Ty.hd []))
     rw [← Ty.named_norm]
     cases p.var name with
     | none => rfl
     | some v => exact Rf.named_eq _ v _
   ·
    obtain ⟨a, b, rfl⟩ := h2 rfl
    show (if (Rf.all [Rf.norm a, Rf.norm b]).2 ≠ 0 then (Ty.none_, (Rf.all [Rf.norm a, Rf.norm b]).2) else Rf.bin n (Rf.norm a).1 (Rf.norm b).1) = Rf.norm (Ty.bin n a b)
    rw [Rf.all_two, Rf.norm_code, Rf.norm_code]
    by_cases ha : a.2 = 0
    ·
     by_cases hb : b.2 = 0
     ·
      simp only [ha, hb, ne_eq, not_true_eq_false, not_false_eq_true, if_false, if_true]
      rw [Rf.bin_eq, Rf.norm_type ha, Rf.norm_type hb]
      have e : Ty.bin n (a.1, 0) (b.1, 0) = Ty.bin n a b := by obtain ⟨a1, a2⟩ := a; obtain ⟨b1, b2⟩ := b; simp at ha hb; subst ha hb; rfl
      rw [e, Rf.norm]
      unfold Ty.bin
      simp only [ha, hb]
      simp only [ne_eq, not_true_eq_false, if_false]
      split <;> split <;> simp_all
     ·
      have e : Ty.bin n a b = (Ty.none_, b.2) := by unfold Ty.bin; rw [if_neg (by simp [ha]), if_pos hb]
      simp only [ha, hb, ne_eq, not_true_eq_false, not_false_eq_true, if_false, if_true]; rw [e]; exact (Rf.norm_bad (r := (Ty.none_, b.2)) hb).symm
    ·
     have e : Ty.bin n a b = (Ty.none_, a.2) := by unfold Ty.bin; rw [if_pos ha]
     simp only [ha, ne_eq, not_true_eq_false, not_false_eq_true, if_false, if_true]; rw [e]; exact (Rf.norm_bad (r := (Ty.none_, a.2)) ha).symm
   ·
    obtain ⟨a, rfl⟩ := h1 rfl
    show (match p.var name with | none => (Ty.none_, 13) | some v => Rf.named 6 v (Rf.norm a)) = Rf.norm (Ty.named 6 (p.var name) a)
    rw [← Ty.named_norm]
    cases p.var name with
    | none => rfl
    | some v => exact Rf.named_eq _ v _
   ·
    obtain ⟨a, rfl⟩ := h1 rfl
    show (if (Rf.all [Rf.norm a]).2 ≠ 0 then (Ty.none_, (Rf.all [Rf.norm a]).2) else if (7 : Int) = 7 ∧ (Rf.norm a).1.k = 1 ∨ (7 : Int) = 8 ∧ (Rf.norm a).1.k = 2 then ((Rf.norm a).1, 0) else (Ty.none_, 14)) = Rf.norm (Ty.same a 1)
    rw [Ty.same_is, Rf.all_one, Rf.norm_code]
    by_cases ha : a.2 = 0
    ·
     simp only [ha, ne_eq, not_true_eq_false, not_false_eq_true, if_false, if_true]; rw [Rf.norm_type ha]
     unfold Ty.same
     by_cases h : a.1.k = 1 <;> simp [h, ha]
    ·
     simp only [ha, ne_eq, not_true_eq_false, not_false_eq_true, if_false, if_true]; unfold Ty.same; rw [if_pos ha]
   ·
    obtain ⟨a, rfl⟩ := h1 rfl
    show (if (Rf.all [Rf.norm a]).2 ≠ 0 then (Ty.none_, (Rf.all [Rf.norm a]).2) else if (8 : Int) = 7 ∧ (Rf.norm a).1.k = 1 ∨ (8 : Int) = 8 ∧ (Rf.norm a).1.k = 2 then ((Rf.norm a).1, 0) else (Ty.none_, 14)) = Rf.norm (Ty.same a 2)
    rw [Ty.same_is, Rf.all_one, Rf.norm_code]
    by_cases ha : a.2 = 0
    ·
     simp only [ha, ne_eq, not_true_eq_false, not_false_eq_true, if_false, if_true]; rw [Rf.norm_type ha]
     unfold Ty.same
     by_cases h : a.1.k = 2 <;> simp [h, ha]
    ·
     simp only [ha, ne_eq, not_true_eq_false, not_false_eq_true, if_false, if_true]; unfold Ty.same; rw [if_pos ha]
   ·
    obtain ⟨a, rfl⟩ := h1 rfl
    show (if (14 : Int) = 14 ∧ Tb.typed p.u name = false then (Ty.none_, 13) else if (Rf.all [Rf.norm a]).2 ≠ 0 then (Ty.none_, (Rf.all [Rf.norm a]).2) else if (14 : Int) = 14 ∧ (Rf.norm a).1.k = 5 then (⟨5, 0, 0, name⟩, 0) else (Ty.none_, 14)) = Rf.norm (Ty.cast p.u name a)
    unfold Ty.cast
    by_cases ht : Tb.typed p.u name = false
    ·
     rw [if_pos ⟨rfl, ht⟩, if_pos ht]; rfl
    ·
     rw [if_neg (fun h => ht h.2), if_neg ht, Rf.all_one, Rf.norm_code]
     by_cases ha : a.2 = 0
     ·
      simp only [ha, ne_eq, not_true_eq_false, not_false_eq_true, if_false, if_true]; rw [Rf.norm_type ha]
      unfold Ty.same
      by_cases h5 : a.1.k = 5
      ·
       simp [h5, ha, Rf.norm]
      ·
       simp [h5, ha, Rf.norm]
     ·
      simp only [ha, ne_eq, not_true_eq_false, not_false_eq_true, if_false, if_true]; unfold Ty.same; rw [if_pos ha]; simp [ha, Rf.norm]
/-- The document's answer of an expression. -/
def Rf.expr (p : Pl) (e : Ex) : Rs := Rf.norm (Ty.expr p e)
theorem Rf.expr_eq (p : Pl) (e : Ex) : Rf.expr p e = Rf.exprG p e.k e.n e.name e.what (e.args.map (Rf.expr p)) := by
 unfold Rf.expr
 rw [Ty.expr_eq, ← Rf.exprG_eq, List.map_map]; rfl
/-- The document's answer of an Invoke, which may be none. -/
theorem Rf.inv_eq (p : Pl) (e : Ex) : Rf.invoke p e.n e.name e.what (e.args.map (Rf.expr p)) = Ty.inv p e := by
 unfold Ty.inv
 rw [← Rf.invoke_eq, List.map_map]; rfl
end Go.Proofs.Ytmhdcehpddbjaaa
/- The document's parts of chapter 7, as walks: Method, Place, thing, Fits, need, bin. -/
namespace Go.Proofs.Ytmhdcehpddbjaaa
open Go.RowKit

theorem new1 (w : World) (x0 : List Value) (t0 : TypeId) :
  Aid.Has (w.alloc (.cells x0.toArray t0)) (w.heap.size) x0 t0 ∧ Below w.heap.size w (w.alloc (.cells x0.toArray t0)) := by
 exact ⟨Aid.Has.new _ _ _, below_new _ _⟩
theorem new2 (w : World) (x0 x1 : List Value) (t0 t1 : TypeId) :
  Aid.Has ((w.alloc (.cells x0.toArray t0)).alloc (.cells x1.toArray t1)) (w.heap.size) x0 t0 ∧ Aid.Has ((w.alloc (.cells x0.toArray t0)).alloc (.cells x1.toArray t1)) (w.heap.size + 1) x1 t1 ∧ Below w.heap.size w ((w.alloc (.cells x0.toArray t0)).alloc (.cells x1.toArray t1)) := by
 obtain ⟨h0, hb⟩ := new1 w x0 t0
 have e : (w.alloc (.cells x0.toArray t0)).heap.size = w.heap.size + 1 := by simp
 exact ⟨h0.alloc _, (by rw [← e]; exact Aid.Has.new _ _ _), hb.alloc hb.size _⟩
theorem new3 (w : World) (x0 x1 x2 : List Value) (t0 t1 t2 : TypeId) :
  Aid.Has (((w.alloc (.cells x0.toArray t0)).alloc (.cells x1.toArray t1)).alloc (.cells x2.toArray t2)) (w.heap.size) x0 t0 ∧ Aid.Has (((w.alloc (.cells x0.toArray t0)).alloc (.cells x1.toArray t1)).alloc (.cells x2.toArray t2)) (w.heap.size + 1) x1 t1 ∧ Aid.Has (((w.alloc (.cells x0.toArray t0)).alloc (.cells x1.toArray t1)).alloc (.cells x2.toArray t2)) (w.heap.size + 1 + 1) x2 t2 ∧ Below w.heap.size w (((w.alloc (.cells x0.toArray t0)).alloc (.cells x1.toArray t1)).alloc (.cells x2.toArray t2)) := by
 obtain ⟨h0, h1, hb⟩ := new2 w x0 x1 t0 t1
 have e : ((w.alloc (.cells x0.toArray t0)).alloc (.cells x1.toArray t1)).heap.size = w.heap.size + 1 + 1 := by simp
 exact ⟨h0.alloc _, h1.alloc _, (by rw [← e]; exact Aid.Has.new _ _ _), hb.alloc hb.size _⟩
theorem new4 (w : World) (x0 x1 x2 x3 : List Value) (t0 t1 t2 t3 : TypeId) :
  Aid.Has ((((w.alloc (.cells x0.toArray t0)).alloc (.cells x1.toArray t1)).alloc (.cells x2.toArray t2)).alloc (.cells x3.toArray t3)) (w.heap.size) x0 t0 ∧ Aid.Has ((((w.alloc (.cells x0.toArray t0)).alloc (.cells x1.toArray t1)).alloc (.cells x2.toArray t2)).alloc (.cells x3.toArray t3)) (w.heap.size + 1) x1 t1 ∧ Aid.Has ((((w.alloc (.cells x0.toArray t0)).alloc (.cells x1.toArray t1)).alloc (.cells x2.toArray t2)).alloc (.cells x3.toArray t3)) (w.heap.size + 1 + 1) x2 t2 ∧ Aid.Has ((((w.alloc (.cells x0.toArray t0)).alloc (.cells x1.toArray t1)).alloc (.cells x2.toArray t2)).alloc (.cells x3.toArray t3)) (w.heap.size + 1 + 1 + 1) x3 t3 ∧ Below w.heap.size w ((((w.alloc (.cells x0.toArray t0)).alloc (.cells x1.toArray t1)).alloc (.cells x2.toArray t2)).alloc (.cells x3.toArray t3)) := by
 obtain ⟨h0, h1, h2, hb⟩ := new3 w x0 x1 x2 t0 t1 t2
 have e : (((w.alloc (.cells x0.toArray t0)).alloc (.cells x1.toArray t1)).alloc (.cells x2.toArray t2)).heap.size = w.heap.size + 1 + 1 + 1 := by simp
 exact ⟨h0.alloc _, h1.alloc _, h2.alloc _, (by rw [← e]; exact Aid.Has.new _ _ _), hb.alloc hb.size _⟩
theorem new5 (w : World) (x0 x1 x2 x3 x4 : List Value) (t0 t1 t2 t3 t4 : TypeId) :
  Aid.Has (((((w.alloc (.cells x0.toArray t0)).alloc (.cells x1.toArray t1)).alloc (.cells x2.toArray t2)).alloc (.cells x3.toArray t3)).alloc (.cells x4.toArray t4)) (w.heap.size) x0 t0 ∧ Aid.Has (((((w.alloc (.cells x0.toArray t0)).alloc (.cells x1.toArray t1)).alloc (.cells x2.toArray t2)).alloc (.cells x3.toArray t3)).alloc (.cells x4.toArray t4)) (w.heap.size + 1) x1 t1 ∧ Aid.Has (((((w.alloc (.cells x0.toArray t0)).alloc (.cells x1.toArray t1)).alloc (.cells x2.toArray t2)).alloc (.cells x3.toArray t3)).alloc (.cells x4.toArray t4)) (w.heap.size + 1 + 1) x2 t2 ∧ Aid.Has (((((w.alloc (.cells x0.toArray t0)).alloc (.cells x1.toArray t1)).alloc (.cells x2.toArray t2)).alloc (.cells x3.toArray t3)).alloc (.cells x4.toArray t4)) (w.heap.size + 1 + 1 + 1) x3 t3 ∧ Aid.Has (((((w.alloc (.cells x0.toArray t0)).alloc (.cells x1.toArray t1)).alloc (.cells x2.toArray t2)).alloc (.cells x3.toArray t3)).alloc (.cells x4.toArray t4)) (w.heap.size + 1 + 1 + 1 + 1) x4 t4 ∧ Below w.heap.size w (((((w.alloc (.cells x0.toArray t0)).alloc (.cells x1.toArray t1)).alloc (.cells x2.toArray t2)).alloc (.cells x3.toArray t3)).alloc (.cells x4.toArray t4)) := by
 obtain ⟨h0, h1, h2, h3, hb⟩ := new4 w x0 x1 x2 x3 t0 t1 t2 t3
 have e : ((((w.alloc (.cells x0.toArray t0)).alloc (.cells x1.toArray t1)).alloc (.cells x2.toArray t2)).alloc (.cells x3.toArray t3)).heap.size = w.heap.size + 1 + 1 + 1 + 1 := by simp
 exact ⟨h0.alloc _, h1.alloc _, h2.alloc _, h3.alloc _, (by rw [← e]; exact Aid.Has.new _ _ _), hb.alloc hb.size _⟩
theorem new6 (w : World) (x0 x1 x2 x3 x4 x5 : List Value) (t0 t1 t2 t3 t4 t5 : TypeId) :
  Aid.Has ((((((w.alloc (.cells x0.toArray t0)).alloc (.cells x1.toArray t1)).alloc (.cells x2.toArray t2)).alloc (.cells x3.toArray t3)).alloc (.cells x4.toArray t4)).alloc (.cells x5.toArray t5)) (w.heap.size) x0 t0 ∧ Aid.Has ((((((w.alloc (.cells x0.toArray t0)).alloc (.cells x1.toArray t1)).alloc (.cells x2.toArray t2)).alloc (.cells x3.toArray t3)).alloc (.cells x4.toArray t4)).alloc (.cells x5.toArray t5)) (w.heap.size + 1) x1 t1 ∧ Aid.Has ((((((w.alloc (.cells x0.toArray t0)).alloc (.cells x1.toArray t1)).alloc (.cells x2.toArray t2)).alloc (.cells x3.toArray t3)).alloc (.cells x4.toArray t4)).alloc (.cells x5.toArray t5)) (w.heap.size + 1 + 1) x2 t2 ∧ Aid.Has ((((((w.alloc (.cells x0.toArray t0)).alloc (.cells x1.toArray t1)).alloc (.cells x2.toArray t2)).alloc (.cells x3.toArray t3)).alloc (.cells x4.toArray t4)).alloc (.cells x5.toArray t5)) (w.heap.size + 1 + 1 + 1) x3 t3 ∧ Aid.Has ((((((w.alloc (.cells x0.toArray t0)).alloc (.cells x1.toArray t1)).alloc (.cells x2.toArray t2)).alloc (.cells x3.toArray t3)).alloc (.cells x4.toArray t4)).alloc (.cells x5.toArray t5)) (w.heap.size + 1 + 1 + 1 + 1) x4 t4 ∧ Aid.Has ((((((w.alloc (.cells x0.toArray t0)).alloc (.cells x1.toArray t1)).alloc (.cells x2.toArray t2)).alloc (.cells x3.toArray t3)).alloc (.cells x4.toArray t4)).alloc (.cells x5.toArray t5)) (w.heap.size + 1 + 1 + 1 + 1 + 1) x5 t5 ∧ Below w.heap.size w ((((((w.alloc (.cells x0.toArray t0)).alloc (.cells x1.toArray t1)).alloc (.cells x2.toArray t2)).alloc (.cells x3.toArray t3)).alloc (.cells x4.toArray t4)).alloc (.cells x5.toArray t5)) := by
 obtain ⟨h0, h1, h2, h3, h4, hb⟩ := new5 w x0 x1 x2 x3 x4 t0 t1 t2 t3 t4
 have e : (((((w.alloc (.cells x0.toArray t0)).alloc (.cells x1.toArray t1)).alloc (.cells x2.toArray t2)).alloc (.cells x3.toArray t3)).alloc (.cells x4.toArray t4)).heap.size = w.heap.size + 1 + 1 + 1 + 1 + 1 := by simp
 exact ⟨h0.alloc _, h1.alloc _, h2.alloc _, h3.alloc _, h4.alloc _, (by rw [← e]; exact Aid.Has.new _ _ _), hb.alloc hb.size _⟩
theorem newn1 (w : World) (x0 : List Value) (t0 : TypeId) :
  ∃ W, (w.alloc (.cells x0.toArray t0)) = W ∧ Aid.Has W (w.heap.size) x0 t0 ∧ Below w.heap.size w W := ⟨_, rfl, new1 w x0 t0⟩
theorem newn2 (w : World) (x0 x1 : List Value) (t0 t1 : TypeId) :
  ∃ W, ((w.alloc (.cells x0.toArray t0)).alloc (.cells x1.toArray t1)) = W ∧ Aid.Has W (w.heap.size) x0 t0 ∧ Aid.Has W (w.heap.size + 1) x1 t1 ∧ Below w.heap.size w W := ⟨_, rfl, new2 w x0 x1 t0 t1⟩
theorem newn3 (w : World) (x0 x1 x2 : List Value) (t0 t1 t2 : TypeId) :
  ∃ W, (((w.alloc (.cells x0.toArray t0)).alloc (.cells x1.toArray t1)).alloc (.cells x2.toArray t2)) = W ∧ Aid.Has W (w.heap.size) x0 t0 ∧ Aid.Has W (w.heap.size + 1) x1 t1 ∧ Aid.Has W (w.heap.size + 1 + 1) x2 t2 ∧ Below w.heap.size w W := ⟨_, rfl, new3 w x0 x1 x2 t0 t1 t2⟩
theorem newn4 (w : World) (x0 x1 x2 x3 : List Value) (t0 t1 t2 t3 : TypeId) :
  ∃ W, ((((w.alloc (.cells x0.toArray t0)).alloc (.cells x1.toArray t1)).alloc (.cells x2.toArray t2)).alloc (.cells x3.toArray t3)) = W ∧ Aid.Has W (w.heap.size) x0 t0 ∧ Aid.Has W (w.heap.size + 1) x1 t1 ∧ Aid.Has W (w.heap.size + 1 + 1) x2 t2 ∧ Aid.Has W (w.heap.size + 1 + 1 + 1) x3 t3 ∧ Below w.heap.size w W := ⟨_, rfl, new4 w x0 x1 x2 x3 t0 t1 t2 t3⟩
theorem newn5 (w : World) (x0 x1 x2 x3 x4 : List Value) (t0 t1 t2 t3 t4 : TypeId) :
  ∃ W, (((((w.alloc (.cells x0.toArray t0)).alloc (.cells x1.toArray t1)).alloc (.cells x2.toArray t2)).alloc (.cells x3.toArray t3)).alloc (.cells x4.toArray t4)) = W ∧ Aid.Has W (w.heap.size) x0 t0 ∧ Aid.Has W (w.heap.size + 1) x1 t1 ∧ Aid.Has W (w.heap.size + 1 + 1) x2 t2 ∧ Aid.Has W (w.heap.size + 1 + 1 + 1) x3 t3 ∧ Aid.Has W (w.heap.size + 1 + 1 + 1 + 1) x4 t4 ∧ Below w.heap.size w W := ⟨_, rfl, new5 w x0 x1 x2 x3 x4 t0 t1 t2 t3 t4⟩
theorem newn6 (w : World) (x0 x1 x2 x3 x4 x5 : List Value) (t0 t1 t2 t3 t4 t5 : TypeId) :
  ∃ W, ((((((w.alloc (.cells x0.toArray t0)).alloc (.cells x1.toArray t1)).alloc (.cells x2.toArray t2)).alloc (.cells x3.toArray t3)).alloc (.cells x4.toArray t4)).alloc (.cells x5.toArray t5)) = W ∧ Aid.Has W (w.heap.size) x0 t0 ∧ Aid.Has W (w.heap.size + 1) x1 t1 ∧ Aid.Has W (w.heap.size + 1 + 1) x2 t2 ∧ Aid.Has W (w.heap.size + 1 + 1 + 1) x3 t3 ∧ Aid.Has W (w.heap.size + 1 + 1 + 1 + 1) x4 t4 ∧ Aid.Has W (w.heap.size + 1 + 1 + 1 + 1 + 1) x5 t5 ∧ Below w.heap.size w W := ⟨_, rfl, new6 w x0 x1 x2 x3 x4 x5 t0 t1 t2 t3 t4 t5⟩
theorem la0 {α : Type} {l : List α} {i : Nat} : l.toArray[i]? = l[i]? := List.getElem?_toArray
theorem la1 {α : Type} {a : α} {l : List α} {i : Nat} : (a :: l)[i + 1]? = l[i]? := List.getElem?_cons_succ
theorem la2 {α : Type} {a : α} {l : List α} : (a :: l)[0]? = some a := List.getElem?_cons_zero
theorem la3 {α : Type} {l : List α} {i : Nat} {a : α} : l.toArray.setIfInBounds i a = (l.set i a).toArray := List.setIfInBounds_toArray l i a
theorem la4 {α : Type} {x : α} {xs : List α} {a : α} : (x :: xs).set 0 a = a :: xs := List.set_cons_zero
theorem la5 {α : Type} {x : α} {xs : List α} {a : α} {i : Nat} : (x :: xs).set (i + 1) a = x :: xs.set i a := List.set_cons_succ
theorem new_at {w X : World} {xs : Array Value} {t : TypeId} (h : w.alloc (.cells xs t) = X) : Aid.Has X w.heap.size xs.toList t := by subst h; exact Aid.Has.new w xs.toList t
theorem all_at {w X : World} {o : Obj} {b : Nat} {ys : List Value} {t : TypeId} (h : w.alloc o = X) (hh : Aid.Has w b ys t) : Aid.Has X b ys t := by subst h; exact hh.alloc _
theorem below_at {w X : World} {o : Obj} {a : World} (h : w.alloc o = X) (hb : Below a.heap.size a w) : Below a.heap.size a X := by subst h; exact hb.alloc hb.size _
theorem below_at0 {w X : World} {o : Obj} (h : w.alloc o = X) : Below w.heap.size w X := by subst h; exact below_new w o
theorem newh1 (w : World) (x0 : List Value) (t0 : TypeId) :
  ∃ W, (w.alloc (.cells x0.toArray t0)) = W ∧ Hid (Aid.Has W (w.heap.size) x0 t0) ∧ Hid (Below w.heap.size w W) := by
 obtain ⟨W, e, h0, k⟩ := newn1 w x0 t0
 exact ⟨W, e, Aid.hid h0, Aid.hid k⟩
theorem newh2 (w : World) (x0 x1 : List Value) (t0 t1 : TypeId) :
  ∃ W, ((w.alloc (.cells x0.toArray t0)).alloc (.cells x1.toArray t1)) = W ∧ Hid (Aid.Has W (w.heap.size) x0 t0) ∧ Hid (Aid.Has W (w.heap.size + 1) x1 t1) ∧ Hid (Below w.heap.size w W) := by
 obtain ⟨W, e, h0, h1, k⟩ := newn2 w x0 x1 t0 t1
 exact ⟨W, e, Aid.hid h0, Aid.hid h1, Aid.hid k⟩
theorem newh3 (w : World) (x0 x1 x2 : List Value) (t0 t1 t2 : TypeId) :
  ∃ W, (((w.alloc (.cells x0.toArray t0)).alloc (.cells x1.toArray t1)).alloc (.cells x2.toArray t2)) = W ∧ Hid (Aid.Has W (w.heap.size) x0 t0) ∧ Hid (Aid.Has W (w.heap.size + 1) x1 t1) ∧ Hid (Aid.Has W (w.heap.size + 1 + 1) x2 t2) ∧ Hid (Below w.heap.size w W) := by
 obtain ⟨W, e, h0, h1, h2, k⟩ := newn3 w x0 x1 x2 t0 t1 t2
 exact ⟨W, e, Aid.hid h0, Aid.hid h1, Aid.hid h2, Aid.hid k⟩
theorem newh4 (w : World) (x0 x1 x2 x3 : List Value) (t0 t1 t2 t3 : TypeId) :
  ∃ W, ((((w.alloc (.cells x0.toArray t0)).alloc (.cells x1.toArray t1)).alloc (.cells x2.toArray t2)).alloc (.cells x3.toArray t3)) = W ∧ Hid (Aid.Has W (w.heap.size) x0 t0) ∧ Hid (Aid.Has W (w.heap.size + 1) x1 t1) ∧ Hid (Aid.Has W (w.heap.size + 1 + 1) x2 t2) ∧ Hid (Aid.Has W (w.heap.size + 1 + 1 + 1) x3 t3) ∧ Hid (Below w.heap.size w W) := by
 obtain ⟨W, e, h0, h1, h2, h3, k⟩ := newn4 w x0 x1 x2 x3 t0 t1 t2 t3
 exact ⟨W, e, Aid.hid h0, Aid.hid h1, Aid.hid h2, Aid.hid h3, Aid.hid k⟩
theorem newh5 (w : World) (x0 x1 x2 x3 x4 : List Value) (t0 t1 t2 t3 t4 : TypeId) :
  ∃ W, (((((w.alloc (.cells x0.toArray t0)).alloc (.cells x1.toArray t1)).alloc (.cells x2.toArray t2)).alloc (.cells x3.toArray t3)).alloc (.cells x4.toArray t4)) = W ∧ Hid (Aid.Has W (w.heap.size) x0 t0) ∧ Hid (Aid.Has W (w.heap.size + 1) x1 t1) ∧ Hid (Aid.Has W (w.heap.size + 1 + 1) x2 t2) ∧ Hid (Aid.Has W (w.heap.size + 1 + 1 + 1) x3 t3) ∧ Hid (Aid.Has W (w.heap.size + 1 + 1 + 1 + 1) x4 t4) ∧ Hid (Below w.heap.size w W) := by
 obtain ⟨W, e, h0, h1, h2, h3, h4, k⟩ := newn5 w x0 x1 x2 x3 x4 t0 t1 t2 t3 t4
 exact ⟨W, e, Aid.hid h0, Aid.hid h1, Aid.hid h2, Aid.hid h3, Aid.hid h4, Aid.hid k⟩
theorem newh6 (w : World) (x0 x1 x2 x3 x4 x5 : List Value) (t0 t1 t2 t3 t4 t5 : TypeId) :
  ∃ W, ((((((w.alloc (.cells x0.toArray t0)).alloc (.cells x1.toArray t1)).alloc (.cells x2.toArray t2)).alloc (.cells x3.toArray t3)).alloc (.cells x4.toArray t4)).alloc (.cells x5.toArray t5)) = W ∧ Hid (Aid.Has W (w.heap.size) x0 t0) ∧ Hid (Aid.Has W (w.heap.size + 1) x1 t1) ∧ Hid (Aid.Has W (w.heap.size + 1 + 1) x2 t2) ∧ Hid (Aid.Has W (w.heap.size + 1 + 1 + 1) x3 t3) ∧ Hid (Aid.Has W (w.heap.size + 1 + 1 + 1 + 1) x4 t4) ∧ Hid (Aid.Has W (w.heap.size + 1 + 1 + 1 + 1 + 1) x5 t5) ∧ Hid (Below w.heap.size w W) := by
 obtain ⟨W, e, h0, h1, h2, h3, h4, h5, k⟩ := newn6 w x0 x1 x2 x3 x4 x5 t0 t1 t2 t3 t4 t5
 exact ⟨W, e, Aid.hid h0, Aid.hid h1, Aid.hid h2, Aid.hid h3, Aid.hid h4, Aid.hid h5, Aid.hid k⟩
theorem nb {w w' : World} {b : Nat} {xs : List Value} {t : TypeId} (hb : Below w.heap.size w w') (h : Hid (Aid.Has w b xs t)) : Hid (Aid.Has w' b xs t) := Aid.hid (h.out.below hb h.out.lt)
theorem kb {a w w' : World} (h : Hid (Below a.heap.size a w)) (hb : Below w.heap.size w w') : Hid (Below a.heap.size a w') := Aid.hid (h.out.trans (hb.mono h.out.size))
theorem nw {w X : World} {xs : Array Value} {t : TypeId} (h : w.alloc (.cells xs t) = X) : Hid (Aid.Has X w.heap.size xs.toList t) := Aid.hid (new_at h)
theorem na {w X : World} {o : Obj} {b : Nat} {ys : List Value} {t : TypeId} (h : w.alloc o = X) (hh : Hid (Aid.Has w b ys t)) : Hid (Aid.Has X b ys t) := Aid.hid (all_at h hh.out)
theorem nk {w X : World} {o : Obj} {a : World} (h : w.alloc o = X) (hb : Hid (Below a.heap.size a w)) : Hid (Below a.heap.size a X) := Aid.hid (below_at h hb.out)
theorem nq {w X : World} {o : Obj} (h : w.alloc o = X) : Hid (Below w.heap.size w X) := Aid.hid (below_at0 h)
theorem kc {w w' : World} {B : Nat} {p : Addr} {v : Value} (hS : Below B w w') (hc : w.cell? p = some v) (hl : p.block < B) : w'.cell? p = some v := (hS.cell hl).trans hc
def nes (k : Int) : List Int → Prop | [] => True | m :: l => (k == m) = false ∧ nes k l
theorem stT {ops : Array Oper} {rest : List Oper} {o : Oper} {a : Act} {w : World} {Q : Exit → Act → World → Prop} {x y : Operand} {g : Nat} {xs : List Value} {cells : Array Value} (N : Hid (Aid.Has w g xs 36)) (hgd : o.guard = none) (ho : o.op = .store 36 x y)
  (hx : a.eval x = .pointer (some ⟨g, 0, none⟩)) (hy : a.eval y = .agg cells) (hi : cells.size = 4) (hold : xs.toArray.size = cells.size) (h1 : cells.all (·.oneCell') = true)
  (h : wpList Try.prog ops Q rest (a.put o.dst undef) (w.setRow g cells)) : wpList Try.prog ops Q (o :: rest) a w :=
 wpList_store_row hgd 36 x y ho g cells hx hy 36 _ N.out (by rw [hi]; kernel_rfl) hold h1 h
theorem rtT {fn : Func} {p u : Tmp} {a : Act} {w : World} {R : Ending → World → Prop} {g : Nat} {xs : List Value} {x : Value} {cs : Array Value} (N : Hid (Aid.Has w g xs 36)) (h : fn.results = #[.cell p 36, .tmp u]) (hp : a.tmps.getD p undef = .pointer (some ⟨g, 0, none⟩)) (hx : a.tmps.getD u undef = x)
  (hi : cs.size = 4) (hd : a.defers = []) (hR : R (.returned (.tuple #[.agg cs, x])) (w.setRow g cs)) : bodyPost Try.prog fn R .ret a (w.setRow g cs) :=
 bodyPost_ret (results_row2 h _ _ g 36 cs (0, 0) _ x hp hx (row_has (ys := cs.toList) N.out) Try.underlying36 rfl (by rw [hi]; kernel_rfl)) hd hR
theorem xc1 {w : World} {b : Nat} {t : TypeId} {a0 : Value} {l : List Value} (h : Hid (Aid.Has w b (a0 :: l) t)) : w.cell? ⟨b, 0, none⟩ = some a0 ∧ b < w.heap.size := ⟨h.out.cell 0 _ rfl, h.out.lt⟩
theorem xc2 {w : World} {b : Nat} {t : TypeId} {a0 a1 : Value} {l : List Value} (h : Hid (Aid.Has w b (a0 :: a1 :: l) t)) : w.cell? ⟨b, 0, none⟩ = some a0 ∧ w.cell? ⟨b, 1, none⟩ = some a1 ∧ b < w.heap.size := ⟨h.out.cell 0 _ rfl, h.out.cell 1 _ rfl, h.out.lt⟩
theorem xc3 {w : World} {b : Nat} {t : TypeId} {a0 a1 a2 : Value} {l : List Value} (h : Hid (Aid.Has w b (a0 :: a1 :: a2 :: l) t)) : w.cell? ⟨b, 0, none⟩ = some a0 ∧ w.cell? ⟨b, 1, none⟩ = some a1 ∧ w.cell? ⟨b, 2, none⟩ = some a2 ∧ b < w.heap.size := ⟨h.out.cell 0 _ rfl, h.out.cell 1 _ rfl, h.out.cell 2 _ rfl, h.out.lt⟩
theorem xc4 {w : World} {b : Nat} {t : TypeId} {a0 a1 a2 a3 : Value} {l : List Value} (h : Hid (Aid.Has w b (a0 :: a1 :: a2 :: a3 :: l) t)) : w.cell? ⟨b, 0, none⟩ = some a0 ∧ w.cell? ⟨b, 1, none⟩ = some a1 ∧ w.cell? ⟨b, 2, none⟩ = some a2 ∧ w.cell? ⟨b, 3, none⟩ = some a3 ∧ b < w.heap.size := ⟨h.out.cell 0 _ rfl, h.out.cell 1 _ rfl, h.out.cell 2 _ rfl, h.out.cell 3 _ rfl, h.out.lt⟩
theorem xc5 {w : World} {b : Nat} {t : TypeId} {a0 a1 a2 a3 a4 : Value} {l : List Value} (h : Hid (Aid.Has w b (a0 :: a1 :: a2 :: a3 :: a4 :: l) t)) : w.cell? ⟨b, 0, none⟩ = some a0 ∧ w.cell? ⟨b, 1, none⟩ = some a1 ∧ w.cell? ⟨b, 2, none⟩ = some a2 ∧ w.cell? ⟨b, 3, none⟩ = some a3 ∧ w.cell? ⟨b, 4, none⟩ = some a4 ∧ b < w.heap.size := ⟨h.out.cell 0 _ rfl, h.out.cell 1 _ rfl, h.out.cell 2 _ rfl, h.out.cell 3 _ rfl, h.out.cell 4 _ rfl, h.out.lt⟩
theorem xc6 {w : World} {b : Nat} {t : TypeId} {a0 a1 a2 a3 a4 a5 : Value} {l : List Value} (h : Hid (Aid.Has w b (a0 :: a1 :: a2 :: a3 :: a4 :: a5 :: l) t)) : w.cell? ⟨b, 0, none⟩ = some a0 ∧ w.cell? ⟨b, 1, none⟩ = some a1 ∧ w.cell? ⟨b, 2, none⟩ = some a2 ∧ w.cell? ⟨b, 3, none⟩ = some a3 ∧ w.cell? ⟨b, 4, none⟩ = some a4 ∧ w.cell? ⟨b, 5, none⟩ = some a5 ∧ b < w.heap.size := ⟨h.out.cell 0 _ rfl, h.out.cell 1 _ rfl, h.out.cell 2 _ rfl, h.out.cell 3 _ rfl, h.out.cell 4 _ rfl, h.out.cell 5 _ rfl, h.out.lt⟩
theorem xc7 {w : World} {b : Nat} {t : TypeId} {a0 a1 a2 a3 a4 a5 a6 : Value} {l : List Value} (h : Hid (Aid.Has w b (a0 :: a1 :: a2 :: a3 :: a4 :: a5 :: a6 :: l) t)) : w.cell? ⟨b, 0, none⟩ = some a0 ∧ w.cell? ⟨b, 1, none⟩ = some a1 ∧ w.cell? ⟨b, 2, none⟩ = some a2 ∧ w.cell? ⟨b, 3, none⟩ = some a3 ∧ w.cell? ⟨b, 4, none⟩ = some a4 ∧ w.cell? ⟨b, 5, none⟩ = some a5 ∧ w.cell? ⟨b, 6, none⟩ = some a6 ∧ b < w.heap.size := ⟨h.out.cell 0 _ rfl, h.out.cell 1 _ rfl, h.out.cell 2 _ rfl, h.out.cell 3 _ rfl, h.out.cell 4 _ rfl, h.out.cell 5 _ rfl, h.out.cell 6 _ rfl, h.out.lt⟩
theorem xc8 {w : World} {b : Nat} {t : TypeId} {a0 a1 a2 a3 a4 a5 a6 a7 : Value} {l : List Value} (h : Hid (Aid.Has w b (a0 :: a1 :: a2 :: a3 :: a4 :: a5 :: a6 :: a7 :: l) t)) : w.cell? ⟨b, 0, none⟩ = some a0 ∧ w.cell? ⟨b, 1, none⟩ = some a1 ∧ w.cell? ⟨b, 2, none⟩ = some a2 ∧ w.cell? ⟨b, 3, none⟩ = some a3 ∧ w.cell? ⟨b, 4, none⟩ = some a4 ∧ w.cell? ⟨b, 5, none⟩ = some a5 ∧ w.cell? ⟨b, 6, none⟩ = some a6 ∧ w.cell? ⟨b, 7, none⟩ = some a7 ∧ b < w.heap.size := ⟨h.out.cell 0 _ rfl, h.out.cell 1 _ rfl, h.out.cell 2 _ rfl, h.out.cell 3 _ rfl, h.out.cell 4 _ rfl, h.out.cell 5 _ rfl, h.out.cell 6 _ rfl, h.out.cell 7 _ rfl, h.out.lt⟩
def Rf.meth (u : List Dk) (x y : Int) : Bool := match u[x.toNat]? with | some d => decide (0 ≤ x ∧ d.kind = 2 ∧ 0 ≤ y ∧ y < (d.ms.length : Int)) | none => false
theorem Rf.meth_no {u : List Dk} {x y : Int} (h : Tb.kind u x ≠ 2) : Rf.meth u x y = false := by
 unfold Rf.meth
 cases hd : u[x.toNat]? with
 | none => rfl
 | some d =>
  refine decide_eq_false (fun h' => h ?_)
  unfold Tb.kind; rw [if_pos h'.1, hd]; exact h'.2.1
set_option maxRecDepth 100000 in
set_option maxHeartbeats 4000000 in
theorem rmeth_is (u : List Dk) (a : Option Addr) (B cap : Nat) (x y : Int) (r : Bool) (w : World) (hr : Rf.meth u x y = r) (hu : UnitAt w B a u) (hB : B ≤ w.heap.size) :
  Calls Try.prog 56 #[.agg #[.slice a u.length cap], .agg #[.int .i64 x, .int .i64 y]] w fun z w' => z = .returned (.bool r) ∧ Below w.heap.size w w' := by
 have HU := Aid.hid hu
 obtain ⟨k, hk⟩ : ∃ k, Tb.kind u x = k := ⟨_, rfl⟩
 have sm := hu.small
 obtain ⟨W, hW, Nu, Np, K0⟩ := newh2 w [.slice a u.length cap] [.int .i64 x, .int .i64 y] 24 26
 have HK := Aid.hid hk
 clear hu hk
 obtain ⟨xu0, lu⟩ := xc1 Nu
 obtain ⟨xp0, xp1, lp⟩ := xc2 Np
 go_enter Try.func56, Try.ntmps56
 try simp only [List.append_eq, List.cons_append, List.nil_append]
 go_wp2_with fail
 (try clear hW)
 by_cases h2 : k = 2
 ·
  subst h2
  obtain ⟨i, d, rfl, hd, hdk, hil⟩ := Tb.kind_in HK.out (by decide)
  obtain ⟨ub, uo, rfl, hub, hc⟩ := (HU.out.below K0.out hB).at_ (by omega)
  have cm := hc i d hd 7 _ rfl
  have lub : ub < W.heap.size := Nat.lt_of_lt_of_le hub (Nat.le_trans hB (K0.out).size)
  have HD := Aid.hid hd; have HDK := Aid.hid hdk
  have e0 : Rf.meth u i y = decide (0 ≤ y ∧ y < (d.ms.length : Int)) := by unfold Rf.meth; simp [HD.out, HDK.out]
  rw [e0] at hr
  clear hc hd hdk e0
  by_cases hy : 0 ≤ y
  ·
   have hy1 : decide ((0 : Int) ≤ y) = true := decide_eq_true hy
   have hii : (i : Int) < (u.length : Int) := by omega
   have hi0 : (0 : Int) ≤ (i : Int) := by omega
   have HR := Aid.hid hr
   clear hr
   have HZ := Aid.hid (fun (w' : World) (hSw : Below W.heap.size W w') => (⟨kc hSw xu0 lu, kc hSw xp0 lp, kc hSw xp1 lp, kc hSw cm lub⟩ : _ ∧ _ ∧ _ ∧ _))
   have hb : Below W.heap.size W W.drew := (Below.refl _ _).drew
   refine Ord.wp_region_walk (fun w' => Below W.heap.size W w') 23 [(true, 0), (true, 1), (true, 2), (false, 3), (true, 4), (true, 5), (true, 6), (true, 7), (true, 8), (true, 9), (true, 10), (true, 11), (true, 12), (true, 13), (true, 14), (true, 15), (true, 16), (true, 17), (true, 18), (true, 19), (true, 20), (true, 21), (true, 22)] (by kernel_rfl) (by kernel_rfl) (fun _ _ d _ _ h => by cases d <;> exact h) (hb) ?_
   clear hb
   have hb : Below W.heap.size W W.drew := (Below.refl _ _).drew
   generalize W.drew = wd0 at *
   iterate 3
    apply Ord.walk_light
    next => (simp only [la0, la1, la2]; rfl)
    next => rfl
    next => (intro w' hSw; have z := HZ.out w' hSw; clear hSw; go_simp; first | done | with_reducible rfl)
    simp only [Act.put, la3, la4, la5]
   apply Ord.walk_heavy
   next => (simp only [la0, la1, la2]; rfl)
   next => rfl
   intro K hK
   go_wp2_with fail
   refine (rkind_is u _ B cap _ _ _ HK.out (HU.out.below (((K0.out).trans (hb.mono (K0.out).size))) hB) (Nat.le_trans hB (((K0.out).trans (hb.mono (K0.out).size))).size)).mono ?_; rintro _ v0_1 ⟨rfl, hb'⟩; dsimp only
   refine hK.out _ _ (hb.trans (hb'.mono hb.size)) (fun hHeld => ?_)
   clear hb hb'
   have hb := hHeld
   clear hK K
   try simp only [Act.put, la3, la4, la5]
   iterate 19
    apply Ord.walk_light
    next => (simp only [la0, la1, la2]; rfl)
    next => rfl
    next => (intro w' hSw; have z := HZ.out w' hSw; clear hSw; go_simp; first | done | with_reducible rfl)
    simp only [Act.put, la3, la4, la5]
   refine Ord.walk_tail ?_; simp only [List.drop_succ_cons, List.drop_zero]
   have hbx := hb
   clear hb HZ
   have Kx1 := kb K0 hbx
   have Nu_1 := nb hbx Nu
   have Np_1 := nb hbx Np
   clear xu0 lu xp0 xp1 lp cm lub
   clear hbx
   go_wp2_with fail
   go_ret
   exact ⟨by rw [← HR.out]; simp [hy], Kx1.out⟩
  ·
   have hy1 : decide ((0 : Int) ≤ y) = false := decide_eq_false hy
   have HR := Aid.hid hr
   clear hr
   have HZ := Aid.hid (fun (w' : World) (hSw : Below W.heap.size W w') => (⟨kc hSw xu0 lu, kc hSw xp0 lp, kc hSw xp1 lp, kc hSw cm lub⟩ : _ ∧ _ ∧ _ ∧ _))
   have hb : Below W.heap.size W W.drew := (Below.refl _ _).drew
   refine Ord.wp_region_walk (fun w' => Below W.heap.size W w') 23 [(true, 0), (true, 1), (true, 2), (false, 3), (true, 4), (true, 5), (true, 6), (true, 7), (true, 8), (true, 9), (true, 10), (true, 11), (true, 12), (true, 13), (true, 14), (true, 15), (true, 16), (true, 17), (true, 18), (true, 19), (true, 20), (true, 21), (true, 22)] (by kernel_rfl) (by kernel_rfl) (fun _ _ d _ _ h => by cases d <;> exact h) (hb) ?_
   clear hb
   have hb : Below W.heap.size W W.drew := (Below.refl _ _).drew
   generalize W.drew = wd0 at *
   iterate 3
    apply Ord.walk_light
    next => (simp only [la0, la1, la2]; rfl)
    next => rfl
    next => (intro w' hSw; have z := HZ.out w' hSw; clear hSw; go_simp; first | done | with_reducible rfl)
    simp only [Act.put, la3, la4, la5]
   apply Ord.walk_heavy
   next => (simp only [la0, la1, la2]; rfl)
   next => rfl
   intro K hK
   go_wp2_with fail
   refine (rkind_is u _ B cap _ _ _ HK.out (HU.out.below (((K0.out).trans (hb.mono (K0.out).size))) hB) (Nat.le_trans hB (((K0.out).trans (hb.mono (K0.out).size))).size)).mono ?_; rintro _ v0_1 ⟨rfl, hb'⟩; dsimp only
   refine hK.out _ _ (hb.trans (hb'.mono hb.size)) (fun hHeld => ?_)
   clear hb hb'
   have hb := hHeld
   clear hK K
   try simp only [Act.put, la3, la4, la5]
   iterate 7
    apply Ord.walk_light
    next => (simp only [la0, la1, la2]; rfl)
    next => rfl
    next => (intro w' hSw; have z := HZ.out w' hSw; clear hSw; go_simp; first | done | with_reducible rfl)
    simp only [Act.put, la3, la4, la5]
   iterate 11
    apply Ord.walk_idle
    next => (simp only [la0, la1, la2]; rfl)
    next => rfl
    simp only [Act.put, la3, la4, la5]
   apply Ord.walk_light
   next => (simp only [la0, la1, la2]; rfl)
   next => rfl
   next => (intro w' hSw; have z := HZ.out w' hSw; clear hSw; go_simp; first | done | with_reducible rfl)
   simp only [Act.put, la3, la4, la5]
   refine Ord.walk_tail ?_; simp only [List.drop_succ_cons, List.drop_zero]
   have hbx := hb
   clear hb HZ
   have Kx1 := kb K0 hbx
   have Nu_1 := nb hbx Nu
   have Np_1 := nb hbx Np
   clear xu0 lu xp0 xp1 lp cm lub
   clear hbx
   go_wp2_with fail
   go_ret
   exact ⟨by rw [← HR.out]; simp; omega, Kx1.out⟩
 ·
  have hk2 : (k == 2) = false := by simpa using h2
  have HR : Hid (r = false) := Aid.hid (by rw [← hr]; exact Rf.meth_no (by rw [HK.out]; exact h2))
  clear hr h2
  have HZ := Aid.hid (fun (w' : World) (hSw : Below W.heap.size W w') => (⟨kc hSw xu0 lu, kc hSw xp0 lp, kc hSw xp1 lp⟩ : _ ∧ _ ∧ _))
  have hb : Below W.heap.size W W.drew := (Below.refl _ _).drew
  refine Ord.wp_region_walk (fun w' => Below W.heap.size W w') 23 [(true, 0), (true, 1), (true, 2), (false, 3), (true, 4), (true, 5), (true, 6), (true, 7), (true, 8), (true, 9), (true, 10), (true, 11), (true, 12), (true, 13), (true, 14), (true, 15), (true, 16), (true, 17), (true, 18), (true, 19), (true, 20), (true, 21), (true, 22)] (by kernel_rfl) (by kernel_rfl) (fun _ _ d _ _ h => by cases d <;> exact h) (hb) ?_
  clear hb
  have hb : Below W.heap.size W W.drew := (Below.refl _ _).drew
  generalize W.drew = wd0 at *
  iterate 3
   apply Ord.walk_light
   next => (simp only [la0, la1, la2]; rfl)
   next => rfl
   next => (intro w' hSw; have z := HZ.out w' hSw; clear hSw; go_simp; first | done | with_reducible rfl)
   simp only [Act.put, la3, la4, la5]
  apply Ord.walk_heavy
  next => (simp only [la0, la1, la2]; rfl)
  next => rfl
  intro K hK
  go_wp2_with fail
  refine (rkind_is u _ B cap _ _ _ HK.out (HU.out.below (((K0.out).trans (hb.mono (K0.out).size))) hB) (Nat.le_trans hB (((K0.out).trans (hb.mono (K0.out).size))).size)).mono ?_; rintro _ v0_1 ⟨rfl, hb'⟩; dsimp only
  refine hK.out _ _ (hb.trans (hb'.mono hb.size)) (fun hHeld => ?_)
  clear hb hb'
  have hb := hHeld
  clear hK K
  try simp only [Act.put, la3, la4, la5]
  iterate 2
   apply Ord.walk_light
   next => (simp only [la0, la1, la2]; rfl)
   next => rfl
   next => (intro w' hSw; have z := HZ.out w' hSw; clear hSw; go_simp; first | done | with_reducible rfl)
   simp only [Act.put, la3, la4, la5]
  iterate 3
   apply Ord.walk_idle
   next => (simp only [la0, la1, la2]; rfl)
   next => rfl
   simp only [Act.put, la3, la4, la5]
  iterate 2
   apply Ord.walk_light
   next => (simp only [la0, la1, la2]; rfl)
   next => rfl
   next => (intro w' hSw; have z := HZ.out w' hSw; clear hSw; go_simp; first | done | with_reducible rfl)
   simp only [Act.put, la3, la4, la5]
  iterate 11
   apply Ord.walk_idle
   next => (simp only [la0, la1, la2]; rfl)
   next => rfl
   simp only [Act.put, la3, la4, la5]
  apply Ord.walk_light
  next => (simp only [la0, la1, la2]; rfl)
  next => rfl
  next => (intro w' hSw; have z := HZ.out w' hSw; clear hSw; go_simp; first | done | with_reducible rfl)
  simp only [Act.put, la3, la4, la5]
  refine Ord.walk_tail ?_; simp only [List.drop_succ_cons, List.drop_zero]
  have hbx := hb
  clear hb HZ
  have Kx1 := kb K0 hbx
  have Nu_1 := nb hbx Nu
  have Np_1 := nb hbx Np
  clear xu0 lu xp0 xp1 lp
  clear hbx
  go_wp2_with fail
  go_ret
  exact ⟨by rw [HR.out]; rfl, Kx1.out⟩
def Rf.place (u : List Dk) (x y : Int) : Bool := Rf.meth u x y || (decide (Tb.kind u x = 3) && decide (y = -1))
theorem Rf.place_at (u : List Dk) (x y : Int) : Rf.place u x y = (Pl.at u x y).isSome := by
 unfold Rf.place Rf.meth Pl.at Tb.kind
 by_cases h0 : x < 0
 ·
  rw [if_pos h0, if_neg (by omega)]
  cases u[x.toNat]? with
  | none => simp
  | some d => simp; omega
 ·
  rw [if_neg h0, if_pos (by omega)]
  cases u[x.toNat]? with
  | none => simp
  | some d =>
   simp only
   by_cases h3 : d.kind = 3 ∧ y = -1
   ·
    rw [if_pos h3]; simp [h3.1, h3.2]
   ·
    rw [if_neg h3]
    have e3 : (decide (d.kind = 3) && decide (y = -1)) = false := by
     rw [← Bool.decide_and]; exact decide_eq_false h3
    rw [e3, Bool.or_false]
    by_cases h2 : d.kind = 2 ∧ 0 ≤ y
    ·
     rw [if_pos h2]
     cases hm : d.ms[y.toNat]? with
     | none =>
      have : d.ms.length ≤ y.toNat := by simpa using hm
      simp; omega
     | some m =>
      have : y.toNat < d.ms.length := (List.getElem?_eq_some_iff.1 hm).1
      simp [h2.1, h2.2]; omega
    ·
     rw [if_neg h2]; have : ¬(0 ≤ x ∧ d.kind = 2 ∧ 0 ≤ y ∧ y < (d.ms.length : Int)) := fun h' => h2 ⟨h'.2.1, h'.2.2.1⟩; simp only [decide_eq_false this]; rfl
set_option maxRecDepth 100000 in
set_option maxHeartbeats 4000000 in
theorem rplace_is (u : List Dk) (a : Option Addr) (B cap : Nat) (x y : Int) (r : Bool) (w : World) (hr : Rf.place u x y = r) (hu : UnitAt w B a u) (hB : B ≤ w.heap.size) :
  Calls Try.prog 32 #[.agg #[.slice a u.length cap], .agg #[.int .i64 x, .int .i64 y]] w fun z w' => z = .returned (.bool r) ∧ Below w.heap.size w w' := by
 have HU := Aid.hid hu
 obtain ⟨m, hm⟩ : ∃ m, Rf.meth u x y = m := ⟨_, rfl⟩
 obtain ⟨k, hk⟩ : ∃ k, Tb.kind u x = k := ⟨_, rfl⟩
 have hr2 : (m || (decide (k = 3) && decide (y = -1))) = r := by rw [← hm, ← hk]; exact hr
 obtain ⟨W, hW, Nu, Np, K0⟩ := newh2 w [.slice a u.length cap] [.int .i64 x, .int .i64 y] 24 26
 have HK := Aid.hid hk
 have HM := Aid.hid hm
 have HR := Aid.hid hr2
 clear hu hr hk hm hr2
 obtain ⟨xu0, lu⟩ := xc1 Nu
 obtain ⟨xp0, xp1, lp⟩ := xc2 Np
 go_enter Try.func32, Try.ntmps32
 try simp only [List.append_eq, List.cons_append, List.nil_append]
 go_wp2_with fail
 (try clear hW)
 refine (rmeth_is u a B cap x y m _ HM.out (HU.out.below (K0.out) hB) (Nat.le_trans hB (K0.out).size)).mono ?_; rintro _ w1 ⟨rfl, hb1⟩
 have Kx1 := kb K0 hb1
 have Nu_1 := nb hb1 Nu
 have Np_1 := nb hb1 Np
 clear xu0 lu xp0 xp1 lp
 clear hb1
 obtain ⟨xu0, lu⟩ := xc1 Nu_1
 obtain ⟨xp0, xp1, lp⟩ := xc2 Np_1
 cases m
 ·
  go_wp2_with fail
  refine (rkind_is u a B cap x k _ HK.out (HU.out.below (Kx1.out) hB) (Nat.le_trans hB (Kx1.out).size)).mono ?_; rintro _ w2 ⟨rfl, hb2⟩
  have Kx2 := kb Kx1 hb2
  have Nu_2 := nb hb2 Nu_1
  have Np_2 := nb hb2 Np_1
  clear xu0 lu xp0 xp1 lp
  clear hb2
  obtain ⟨xp0, xp1, lp⟩ := xc2 Np_2
  by_cases h3 : k = 3
  ·
   subst h3
   by_cases hy : y = -1
   ·
    subst hy
    go_wp2_with fail
    go_ret
    exact ⟨by rw [← HR.out]; rfl, Kx2.out⟩
   ·
    have hy2 : (y == -1) = false := by simpa using hy
    go_wp2_with fail
    go_ret
    exact ⟨by rw [← HR.out]; simp [hy], Kx2.out⟩
  ·
   have hk3 : (k == 3) = false := by simpa using h3
   go_wp2_with fail
   go_ret
   exact ⟨by rw [← HR.out]; simp [h3], Kx2.out⟩
 ·
  go_wp2_with fail
  go_ret
  exact ⟨by rw [← HR.out]; simp, Kx1.out⟩
set_option maxRecDepth 100000 in
set_option maxHeartbeats 4000000 in
theorem rthing_is (u : List Dk) (a : Option Addr) (B cap : Nat) (s : ByteArray) (r : Bool) (w : World) (hr : Tb.typed u s = r) (hu : UnitAt w B a u) (hB : B ≤ w.heap.size) :
  Calls Try.prog 37 #[.agg #[.slice a u.length cap], .string s] w fun z w' => z = .returned (.bool r) ∧ Below w.heap.size w w' := by
 have HU := Aid.hid hu
 obtain ⟨q, hq⟩ : ∃ q, Tb.find u s = q := ⟨_, rfl⟩
 obtain ⟨k, hk⟩ : ∃ k, Tb.kind u q = k := ⟨_, rfl⟩
 have hr2 : (k == 2 || k == 1) = r := by rw [← hr, Tb.typed, hq, hk]
 obtain ⟨W, hW, Nu, K0⟩ := newh1 w [.slice a u.length cap] 24
 have HQ := Aid.hid hq
 have HK := Aid.hid hk
 have HR := Aid.hid hr2
 clear hu hr hq hk hr2
 obtain ⟨xu0, lu⟩ := xc1 Nu
 go_enter Try.func37, Try.ntmps37
 try simp only [List.append_eq, List.cons_append, List.nil_append]
 go_wp2_with fail
 (try clear hW)
 have HZ := Aid.hid (fun (w' : World) (hSw : Below W.heap.size W w') => (kc hSw xu0 lu))
 have hb : Below W.heap.size W W.drew := (Below.refl _ _).drew
 refine Ord.wp_region_walk (fun w' => Below W.heap.size W w') 5 [(true, 0), (true, 1), (true, 2), (false, 3), (false, 4)] (by kernel_rfl) (by kernel_rfl) (fun _ _ d _ _ h => by cases d <;> exact h) (hb) ?_
 clear hb
 have hb : Below W.heap.size W W.drew := (Below.refl _ _).drew
 generalize W.drew = wd0 at *
 iterate 3
  apply Ord.walk_light
  next => (simp only [la0, la1, la2]; rfl)
  next => rfl
  next => (intro w' hSw; have z0 := HZ.out w' hSw; clear hSw; go_simp; first | done | with_reducible rfl)
  simp only [Act.put, la3, la4, la5]
 apply Ord.walk_heavy
 next => (simp only [la0, la1, la2]; rfl)
 next => rfl
 intro K hK
 go_wp2_with fail
 refine (rfind_is u a B cap s q _ HQ.out (HU.out.below (((K0.out).trans (hb.mono (K0.out).size))) hB) (Nat.le_trans hB (((K0.out).trans (hb.mono (K0.out).size))).size)).mono ?_; rintro _ v0_1 ⟨rfl, hb'⟩; dsimp only
 refine hK.out _ _ (hb.trans (hb'.mono hb.size)) (fun hHeld => ?_)
 clear hb hb'
 have hb := hHeld
 clear hK K
 try simp only [Act.put, la3, la4, la5]
 apply Ord.walk_heavy
 next => (simp only [la0, la1, la2]; rfl)
 next => rfl
 intro K hK
 go_wp2_with fail
 refine (rkind_is u a B cap q k _ HK.out (HU.out.below (((K0.out).trans (hb.mono (K0.out).size))) hB) (Nat.le_trans hB (((K0.out).trans (hb.mono (K0.out).size))).size)).mono ?_; rintro _ v0_2 ⟨rfl, hb'⟩; dsimp only
 refine hK.out _ _ (hb.trans (hb'.mono hb.size)) (fun hHeld => ?_)
 clear hb hb'
 have hb := hHeld
 clear hK K
 try simp only [Act.put, la3, la4, la5]
 refine Ord.walk_tail ?_; simp only [List.drop_succ_cons, List.drop_zero]
 have hbx := hb
 clear hb HZ
 have Kx1 := kb K0 hbx
 have Nu_1 := nb hbx Nu
 clear xu0 lu
 clear hbx
 by_cases h2 : k = 2
 ·
  subst h2
  go_wp2_with fail
  go_ret
  exact ⟨by rw [← HR.out]; rfl, Kx1.out⟩
 ·
  have hk2 : (k == 2) = false := by simpa using h2
  by_cases h1 : k = 1
  ·
   subst h1
   go_wp2_with fail
   go_ret
   exact ⟨by rw [← HR.out]; rfl, Kx1.out⟩
  ·
   have hk1 : (k == 1) = false := by simpa using h1
   go_wp2_with fail
   go_ret
   exact ⟨by rw [← HR.out, hk2, hk1]; rfl, Kx1.out⟩
set_option maxRecDepth 100000 in
set_option maxHeartbeats 4000000 in
theorem rfits_is (u : List Dk) (a : Option Addr) (B cap : Nat) (to fr : Ty) (r : Bool) (w : World) (hr : Ty.fits u to fr = r) (hu : UnitAt w B a u) (hB : B ≤ w.heap.size) :
  Calls Try.prog 22 #[.agg #[.slice a u.length cap], to.v, fr.v] w fun e w' => e = .returned (.bool r) ∧ Below w.heap.size w w' := by
 have HU := Aid.hid hu
 obtain ⟨q, hq⟩ : ∃ q, Tb.is u fr.name to.name = q := ⟨_, rfl⟩
 have HQ := Aid.hid hq
 have HR := Aid.hid hr
 have K0 : Hid (Below w.heap.size w (((w.alloc (.cells #[.slice a u.length cap] 24)).alloc (.cells #[.int .i64 to.k, .int .i64 to.lo, .int .i64 to.hi, .string to.name] 36)).alloc (.cells #[.int .i64 fr.k, .int .i64 fr.lo, .int .i64 fr.hi, .string fr.name] 36))) := Aid.hid ((((Below.refl _ w).alloc (Nat.le_refl _) _).alloc (by simp) _).alloc (by simp; omega) _)
 clear hu hr hq
 unfold Ty.v
 go_enter Try.func22, Try.ntmps22
 try simp only [List.append_eq, List.cons_append, List.nil_append]
 go_wp2_with fail
 all_goals first | (go_ret; refine ⟨?_, (((Below.refl _ w).alloc (Nat.le_refl _) _).alloc (by simp) _).alloc (by simp; omega) _⟩; rw [← HR.out]; clear HR HQ K0 HU; simp_all [Ty.fits]; done) | skip
 have K1 : ∀ x y z, Below w.heap.size w (((w.alloc x).alloc y).alloc z) := fun x y z => (((Below.refl _ w).alloc (Nat.le_refl _) _).alloc (by simp) _).alloc (by simp; omega) _
 refine (ris_is u a B cap fr.name to.name q _ HQ.out (HU.out.below (K1 _ _ _) hB) (Nat.le_trans hB (K1 _ _ _).size)).mono ?_
 rintro e w1 ⟨rfl, hb1⟩
 go_wp2_with fail
 go_ret
 refine ⟨?_, (K1 _ _ _).trans (hb1.mono (K1 _ _ _).size)⟩
 rw [← HR.out]; obtain rfl := HQ.out; clear HR HQ K0 HU hb1 K1; simp_all [Ty.fits, Bool.or_assoc]

set_option maxRecDepth 100000 in
set_option maxHeartbeats 4000000 in
theorem rneed_is (k n : Int) (w : World) (hn : Rf.need k = n) :
  Calls Try.prog 34 #[.int .i64 k] w fun z w' => z = .returned (.int .i64 n) ∧ Below w.heap.size w w' := by
 have HN := Aid.hid hn
 clear hn
 by_cases h1 : k < 1 ∨ 15 ≤ k
 ·
  go_enter Try.func34, Try.ntmps34
  try simp only [List.append_eq, List.cons_append, List.nil_append]
  go_wp2_with fail
  all_goals first | (exfalso; omega) | (go_ret; exact ⟨by rw [← HN.out, Rf.need, if_pos h1]; rfl, below_new _ _⟩)
 ·
  have hk : k = 1 ∨ k = 2 ∨ k = 3 ∨ k = 4 ∨ k = 5 ∨ k = 6 ∨ k = 7 ∨ k = 8 ∨ k = 9 ∨ k = 10 ∨ k = 11 ∨ k = 12 ∨ k = 13 ∨ k = 14 := by omega
  clear h1
  rcases hk with rfl | rfl | rfl | rfl | rfl | rfl | rfl | rfl | rfl | rfl | rfl | rfl | rfl | rfl
  all_goals
   go_enter Try.func34, Try.ntmps34
   try simp only [List.append_eq, List.cons_append, List.nil_append]
   go_wp2_with fail
   all_goals first | (exfalso; omega) | (go_ret; exact ⟨by rw [← HN.out]; rfl, below_new _ _⟩)
end Go.Proofs.Ytmhdcehpddbjaaa
/- The document's Visible, Var, bin, as walks. -/
namespace Go.Proofs.Ytmhdcehpddbjaaa
open Go.RowKit

theorem Pl.at_in {u : List Dk} {x y : Int} {p : Pl} (h : Pl.at u x y = some p) : ∃ (i : Nat) (d : Dk), x = i ∧ u[i]? = some d ∧ i < u.length ∧
  ((d.kind = 3 ∧ y = -1 ∧ p = ⟨u, -1, none, d.vs⟩) ∨ (d.kind = 2 ∧ ∃ (j : Nat) (m : Md), y = j ∧ d.ms[j]? = some m ∧ j < d.ms.length ∧ p = ⟨u, x, some m, m.ps ++ m.vs ++ Tb.fields u x⟩)) := by
 unfold Pl.at at h
 by_cases h0 : x < 0
 ·
  rw [if_pos h0] at h; cases h
 ·
  rw [if_neg h0] at h
  obtain ⟨i, rfl⟩ : ∃ i : Nat, x = i := ⟨x.toNat, by omega⟩
  simp only [Int.toNat_natCast] at h
  cases hd : u[i]? with
  | none => rw [hd] at h; cases h
  | some d =>
   rw [hd] at h
   refine ⟨i, d, rfl, hd, (List.getElem?_eq_some_iff.1 hd).1, ?_⟩
   simp only at h
   by_cases h3 : d.kind = 3 ∧ y = -1
   ·
    rw [if_pos h3] at h; exact .inl ⟨h3.1, h3.2, (Option.some.inj h).symm⟩
   ·
    rw [if_neg h3] at h
    by_cases h2 : d.kind = 2 ∧ 0 ≤ y
    ·
     rw [if_pos h2] at h
     obtain ⟨j, rfl⟩ : ∃ j : Nat, y = j := ⟨y.toNat, by omega⟩
     simp only [Int.toNat_natCast] at h
     cases hm : d.ms[j]? with
     | none => rw [hm] at h; cases h
     | some m =>
      rw [hm] at h
      exact .inr ⟨h2.1, j, m, rfl, hm, (List.getElem?_eq_some_iff.1 hm).1, (Option.some.inj h).symm⟩
    ·
     rw [if_neg h2] at h; cases h
theorem VC_reads {w : World} {B : Nat} {A : Option Addr} {l : List Vd} (h : Rows w B 8 A (l.map Vd.cells)) : Reads w B 8 A l.length (VC l) := by
 have h2 := Rows.reads (Vd.len l) h
 rwa [List.length_map] at h2
set_option maxRecDepth 100000 in
set_option maxHeartbeats 4000000 in
theorem rvisible_is (u : List Dk) (a : Option Addr) (B cap : Nat) (x y : Int) (p : Pl) (w : World) (hp : Pl.at u x y = some p) (hu : UnitAt w B a u) (hB : B ≤ w.heap.size) (hl : ULim u) :
  Calls Try.prog 19 #[.agg #[.slice a u.length cap], .agg #[.int .i64 x, .int .i64 y]] w fun z w' => ∃ A c, z = .returned (.slice A p.vs.length c) ∧ w'.ownsRow w.heap.size 74 8 (.slice A p.vs.length c) p.vs.length (VC p.vs) ∧ Below w.heap.size w w' := by
 obtain ⟨i0, hi, hz0, hz1, hz2⟩ := info_parts info_var
 have HU := Aid.hid hu; have HUL := Aid.hid hl
 have hpl : Rf.place u x y = true := by rw [Rf.place_at, hp]; rfl
 obtain ⟨i, d, rfl, hd, hil, hcase⟩ := Pl.at_in hp
 have sm := hu.small
 obtain ⟨W, hW, Nu, Np, K0⟩ := newh2 w [.slice a u.length cap] [.int .i64 (i : Int), .int .i64 y] 24 26
 have HPL := Aid.hid hpl
 have HD := Aid.hid hd
 have HC := Aid.hid hcase
 clear hu hl hp hpl hd hcase
 obtain ⟨xu0, lu⟩ := xc1 Nu
 obtain ⟨xp0, xp1, lp⟩ := xc2 Np
 go_enter Try.func19, Try.ntmps19
 try simp only [List.append_eq, List.cons_append, List.nil_append]
 go_wp2_with fail
 (try clear hW)
 refine (rplace_is u a B cap (i : Int) y true _ HPL.out (HU.out.below (K0.out) hB) (Nat.le_trans hB (K0.out).size)).mono ?_; rintro _ w1 ⟨rfl, hb1⟩
 have Kx1 := kb K0 hb1
 have Nu_1 := nb hb1 Nu
 have Np_1 := nb hb1 Np
 clear xu0 lu xp0 xp1 lp
 clear hb1
 obtain ⟨xu0, lu⟩ := xc1 Nu_1
 obtain ⟨xp0, xp1, lp⟩ := xc2 Np_1
 obtain ⟨ub, uo, hA, hub, hc⟩ := (HU.out.below Kx1.out hB).at_ (by omega)
 have hdd := (HU.out.below Kx1.out hB).decls d (List.mem_of_getElem? HD.out)
 rw [hA] at xu0
 have hi2 : (i : Int) < (u.length : Int) := by omega
 have hi0 : (0 : Int) ≤ (i : Int) := by omega
 have lub : ub < w1.heap.size := Nat.lt_of_lt_of_le hub (Nat.le_trans hB (Kx1.out).size)
 have SZ := Aid.hid (Kx1.out).size
 rcases HC.out with ⟨hk, rfl, hpe⟩ | ⟨hk, j, m, rfl, hm, hjl, hpe⟩
 ·
  have HPE : Hid (d.vs = p.vs) := Aid.hid (by rw [hpe])
  clear hpe
  have cvs := hc i d HD.out 6 _ rfl
  have HRV := Aid.hid (VC_reads hdd.vars)
  have hvl : d.vs.length ≤ 1048576 := HUL.out.v d (List.mem_of_getElem? HD.out)
  have szw := SZ.out
  clear hc hdd HC hA
  go_wp2_with (at_builtin; refine wpList_append_any _ rfl _ _ 39 rfl w.heap.size 74 i0 (.agg #[.string ⟨#[]⟩, .int .i64 0, .int .i64 0, .int .i64 0, .string ⟨#[]⟩, .int .i64 0, .int .i64 0, .int .i64 0]) 8 80 Try.underlying39 hi hz0 hz1 hz2 rfl (by decide) _ _ _ rfl (World.ownsRow_nil _ _ _ _) _ d.vA d.vs.length d.vc _ rfl (HRV.out) (Vd.one (l := _)) (by unfold maxLen; omega) (by omega) szw ?_)
  intro v' w5 hown' hgrow _
  (try simp only [Nat.zero_add, List.nil_append] at hown')
  obtain ⟨A5, c5, rfl⟩ := own_slice hown'
  have hb5 := (Kx1.out).grown hgrow szw (fun q hq => by simp [Value.ownBlock] at hq)
  have HO := Aid.hid hown'
  rw [HPE.out] at HO ⊢
  clear hown' hgrow
  go_wp2_with fail
  go_ret
  exact ⟨A5, c5, rfl, HO.out, hb5⟩
 ·
  have HPE : Hid (m.ps ++ m.vs ++ Tb.fields u (i : Int) = p.vs) := Aid.hid (by rw [hpe])
  clear hpe
  have hpm := HUL.out.p d (List.mem_of_getElem? HD.out) m (List.mem_of_getElem? hm)
  have hfl : (Tb.fields u (i : Int)).length ≤ 100000000 := by
   have h := Tb.fields_len HUL.out.v (i : Int)
   have hn := HUL.out.n
   have : (u.length + 1) * 1048576 ≤ 21 * 1048576 := Nat.mul_le_mul_right _ (by omega)
   omega
  have u7 := hc i d HD.out 7 _ rfl
  have smm := hdd.smallM
  have HMD := Aid.hid (hdd.each m (List.mem_of_getElem? hm))
  obtain ⟨mb, mo, hmA, hmb, hc2⟩ := hdd.meth (by omega)
  have m0 := hc2 j m hm 0 _ rfl
  have m1 := hc2 j m hm 1 _ rfl
  have m2 := hc2 j m hm 2 _ rfl
  have m3 := hc2 j m hm 3 _ rfl
  have m4 := hc2 j m hm 4 _ rfl
  have m5 := hc2 j m hm 5 _ rfl
  have m6 := hc2 j m hm 6 _ rfl
  have m7 := hc2 j m hm 7 _ rfl
  have m8 := hc2 j m hm 8 _ rfl
  have m9 := hc2 j m hm 9 _ rfl
  have m10 := hc2 j m hm 10 _ rfl
  simp only [Nat.add_zero] at m0
  rw [hmA] at u7
  have lmb : mb < w1.heap.size := Nat.lt_of_lt_of_le hmb (Nat.le_trans hB SZ.out)
  have hj0 : decide ((j : Int) < 0) = false := by simp
  have hj1 : (j : Int) < (d.ms.length : Int) := by omega
  have HM := Aid.hid hm; have HA := Aid.hid hA
  clear hc hc2 hdd HC hmA hm hA
  go_wp2_with fail
  go_region
  have n10 := (Aid.Has.new w1 [.string m.name, .bool m.over, .bool m.abs, .bool m.fin, .slice m.pA m.ps.length m.pc, .int .i64 m.res.k, .int .i64 m.res.lo, .int .i64 m.res.hi, .string m.res.name, .slice m.vA m.vs.length m.vc, .slice m.bA m.body.length m.bc] 50).drew
  have nu := (Nu_1.out.alloc (.cells #[.string m.name, .bool m.over, .bool m.abs, .bool m.fin, .slice m.pA m.ps.length m.pc, .int .i64 m.res.k, .int .i64 m.res.lo, .int .i64 m.res.hi, .string m.res.name, .slice m.vA m.vs.length m.vc, .slice m.bA m.body.length m.bc] 50)).drew
  have np := (Np_1.out.alloc (.cells #[.string m.name, .bool m.over, .bool m.abs, .bool m.fin, .slice m.pA m.ps.length m.pc, .int .i64 m.res.k, .int .i64 m.res.lo, .int .i64 m.res.hi, .string m.res.name, .slice m.vA m.vs.length m.vc, .slice m.bA m.body.length m.bc] 50)).drew
  have k3 := ((Kx1.out).alloc SZ.out (.cells #[.string m.name, .bool m.over, .bool m.abs, .bool m.fin, .slice m.pA m.ps.length m.pc, .int .i64 m.res.k, .int .i64 m.res.lo, .int .i64 m.res.hi, .string m.res.name, .slice m.vA m.vs.length m.vc, .slice m.bA m.body.length m.bc] 50)).drew
  have hmd := HMD.out.below ((below_new w1 (.cells #[.string m.name, .bool m.over, .bool m.abs, .bool m.fin, .slice m.pA m.ps.length m.pc, .int .i64 m.res.k, .int .i64 m.res.lo, .int .i64 m.res.hi, .string m.res.name, .slice m.vA m.vs.length m.vc, .slice m.bA m.body.length m.bc] 50)).drew) (Nat.le_trans hB SZ.out)
  have szm := (below_new w1 (.cells #[.string m.name, .bool m.over, .bool m.abs, .bool m.fin, .slice m.pA m.ps.length m.pc, .int .i64 m.res.k, .int .i64 m.res.lo, .int .i64 m.res.hi, .string m.res.name, .slice m.vA m.vs.length m.vc, .slice m.bA m.body.length m.bc] 50)).drew.size
  obtain ⟨w3, hw3⟩ : ∃ w3, (w1.alloc (.cells #[.string m.name, .bool m.over, .bool m.abs, .bool m.fin, .slice m.pA m.ps.length m.pc, .int .i64 m.res.k, .int .i64 m.res.lo, .int .i64 m.res.hi, .string m.res.name, .slice m.vA m.vs.length m.vc, .slice m.bA m.body.length m.bc] 50)).drew = w3 := ⟨_, rfl⟩
  rw [hw3] at n10 nu np k3 hmd szm ⊢
  have NU := Aid.hid nu; have NP := Aid.hid np; have N10 := Aid.hid n10; have K3 := Aid.hid k3; have HMD := Aid.hid hmd
  clear hw3 nu np k3 hmd smm u7 m0 m1 m2 m3 m4 m5 m6 m7 m8 m9 m10 lmb lub xu0 xp0 xp1 lu lp
  have g4 := n10.cell 4 _ rfl
  have g9 := n10.cell 9 _ rfl
  have lg := n10.lt
  have xu0 := NU.out.cell 0 _ rfl
  have xp0 := NP.out.cell 0 _ rfl
  have lu := NU.out.lt
  have lp := NP.out.lt
  have HRP := Aid.hid (VC_reads HMD.out.params)
  have HRV := Aid.hid (VC_reads HMD.out.vars)
  have sz3 := K3.out.size
  clear n10
  generalize w1.heap.size = mg at *
  obtain ⟨hpm1, hpm2⟩ := hpm
  go_wp2_with (at_builtin; refine wpList_append_any _ rfl _ _ 39 rfl w3.heap.size 74 i0 (.agg #[.string ⟨#[]⟩, .int .i64 0, .int .i64 0, .int .i64 0, .string ⟨#[]⟩, .int .i64 0, .int .i64 0, .int .i64 0]) 8 80 Try.underlying39 hi hz0 hz1 hz2 rfl (by decide) _ _ _ rfl (World.ownsRow_nil _ _ _ _) _ m.pA m.ps.length m.pc _ rfl (HRP.out) (Vd.one (l := _)) (by unfold maxLen; omega) (by omega) (Nat.le_refl _) ?_)
  intro v5 w5 own5 grow5 _
  (try simp only [Nat.zero_add, List.nil_append] at own5)
  (try simp only [Nat.zero_add])
  obtain ⟨A5, c5, rfl⟩ := own_slice own5
  have b5 := (Below.refl w3.heap.size w3).grown grow5 (Nat.le_refl _) (fun q hq => by simp [Value.ownBlock] at hq)
  have B5 := Aid.hid b5
  have HRV5 := Aid.hid (HRV.out.below (b5.mono (Nat.le_trans hB sz3)))
  have g9' := (b5.cell (p := ⟨mg, 9, none⟩) lg).trans g9
  have lg' := Nat.lt_of_lt_of_le lg b5.size
  have sz5 := b5.size
  have HO5 := Aid.hid own5
  clear own5 grow5 b5 g4 g9 lg xu0 xp0 HRV HRP N10
  go_wp2_with (at_builtin; refine wpList_append_any _ rfl _ _ 39 rfl w3.heap.size 74 i0 (.agg #[.string ⟨#[]⟩, .int .i64 0, .int .i64 0, .int .i64 0, .string ⟨#[]⟩, .int .i64 0, .int .i64 0, .int .i64 0]) 8 80 Try.underlying39 hi hz0 hz1 hz2 rfl (by decide) _ _ _ rfl (HO5.out) _ m.vA m.vs.length m.vc _ rfl (HRV5.out) (Vd.one (l := _)) (by unfold maxLen; omega) (by omega) sz5 ?_)
  intro v6 w6 own6 grow6 _
  obtain ⟨A6, c6, rfl⟩ := own_slice own6
  have b6 := B5.out.grown grow6 sz5 (fun q hq => (HO5.out.lt q hq).1)
  have B6 := Aid.hid b6
  have K6 := Aid.hid (K3.out.trans (b6.mono sz3))
  have HO6 := Aid.hid own6
  have xu0 := (NU.out.below b6 lu).cell 0 _ rfl
  have xp0 := (NP.out.below b6 lp).cell 0 _ rfl
  have lu6 := Nat.lt_of_lt_of_le lu b6.size
  have lp6 := Nat.lt_of_lt_of_le lp b6.size
  have HCF := Aid.hid (rfields_is u _ B cap (i : Int) _ w6 rfl (HU.out.below K6.out hB) (Nat.le_trans hB K6.out.size) HUL.out.n HUL.out.v)
  clear own6 grow6 b6 g9' lg' HRV5 lu lp HO5 sz5
  go_wp2_with fail
  refine HCF.out.mono ?_; rintro _ w7 ⟨A7, c7, rfl, own7, hb7⟩
  have HO7 := Aid.hid (own_keeps HO6.out hb7)
  have HRF := Aid.hid (Reads.of_own own7)
  have B7 := Aid.hid (B6.out.trans (hb7.mono B6.out.size))
  have sz7 := B7.out.size
  clear hb7 own7 HCF xu0 xp0 lu6 lp6 HO6
  go_wp2_with (at_builtin; refine wpList_append_any _ rfl _ _ 39 rfl w3.heap.size 74 i0 (.agg #[.string ⟨#[]⟩, .int .i64 0, .int .i64 0, .int .i64 0, .string ⟨#[]⟩, .int .i64 0, .int .i64 0, .int .i64 0]) 8 80 Try.underlying39 hi hz0 hz1 hz2 rfl (by decide) _ _ _ rfl (HO7.out) _ A7 (Tb.fields u (i : Int)).length c7 _ rfl (HRF.out) (Vd.one (l := _)) (by unfold maxLen; omega) (by omega) sz7 ?_)
  intro v8 w8 own8 grow8 _
  obtain ⟨A8, c8, rfl⟩ := own_slice own8
  have b8 := B7.out.grown grow8 sz7 (fun q hq => (HO7.out.lt q hq).1)
  have K8 := Aid.hid (K3.out.trans (b8.mono sz3))
  have e1 : m.ps.length + m.vs.length + (Tb.fields u (i : Int)).length = p.vs.length := by rw [← HPE.out]; simp only [List.length_append]
  have e2 : VC m.ps ++ (VC m.vs ++ VC (Tb.fields u (i : Int))) = VC p.vs := by rw [← HPE.out, VC_append, VC_append, List.append_assoc]
  rw [e2] at own8
  rw [e1] at own8 ⊢
  have HO8 := Aid.hid (own_lowers own8 sz3)
  have HE := Aid.hid e1
  clear own8 grow8 b8 e1 e2
  go_wp2_with fail
  go_ret
  exact ⟨A8, c8, rfl, HO8.out, K8.out⟩
theorem Pl.vs_len {u : List Dk} {x y : Int} {p : Pl} (h : Pl.at u x y = some p) (hl : ULim u) : p.vs.length ≤ 1000000000 := by
 obtain ⟨i, d, rfl, hd, _, hc⟩ := Pl.at_in h
 have hm := List.mem_of_getElem? hd
 rcases hc with ⟨_, _, rfl⟩ | ⟨_, j, m, rfl, hm2, _, rfl⟩
 ·
  exact Nat.le_trans (hl.v d hm) (by decide)
 ·
  have h1 := Tb.fields_len hl.v (i : Int)
  have hn := hl.n
  have h2 : (u.length + 1) * 1048576 ≤ 21 * 1048576 := Nat.mul_le_mul_right _ (by omega)
  have h3 := hl.p d hm m (List.mem_of_getElem? hm2)
  simp only [List.length_append]; omega
theorem Pl.var_hit {p : Pl} {s : ByteArray} {k : Nat} {d : Vd} (hd : p.vs[k]? = some d) (h : (d.name.toList == s.toList) = true) (hno : ∀ j, j < k → ∀ e, p.vs[j]? = some e → (e.name.toList == s.toList) = false) : p.var s = some d := by
 unfold Pl.var
 rw [List.find?_eq_some_iff_getElem]
 obtain ⟨hk, hd2⟩ := List.getElem?_eq_some_iff.1 hd
 refine ⟨h, k, hk, hd2, fun j hj => ?_⟩
 simp only [Bool.not_eq_true', Bool.not_eq_eq_eq_not, Bool.not_true]
 exact hno j hj _ (List.getElem?_eq_getElem (by omega))
theorem Pl.var_miss {p : Pl} {s : ByteArray} (hno : ∀ j, j < p.vs.length → ∀ e, p.vs[j]? = some e → (e.name.toList == s.toList) = false) : p.var s = none := by
 unfold Pl.var
 rw [List.find?_eq_none]
 intro v hv
 obtain ⟨j, hj⟩ := List.getElem?_of_mem hv
 rw [hno j (List.getElem?_eq_some_iff.1 hj).1 v hj]; decide
set_option maxRecDepth 100000 in
set_option maxHeartbeats 4000000 in
theorem rvar_is (u : List Dk) (a : Option Addr) (B cap : Nat) (x y : Int) (p : Pl) (s : ByteArray) (o : Option Vd) (w : World) (ho : p.var s = o) (hp : Pl.at u x y = some p) (hu : UnitAt w B a u) (hB : B ≤ w.heap.size) (hl : ULim u) :
  Calls Try.prog 35 #[.agg #[.slice a u.length cap], .agg #[.int .i64 x, .int .i64 y], .string s] w fun z w' => z = .returned (.tuple #[.agg #[.string (Ty.vof o).name, .int .i64 (Ty.vof o).ty.k, .int .i64 (Ty.vof o).ty.lo, .int .i64 (Ty.vof o).ty.hi, .string (Ty.vof o).ty.name, .int .i64 (Ty.vof o).init, .int .i64 (Ty.vof o).dir, .int .i64 (Ty.vof o).slot], .bool o.isSome]) ∧ Below w.heap.size w w' := by
 have HU := Aid.hid hu; have HUL := Aid.hid hl; have HPP := Aid.hid hp
 have hvl : p.vs.length ≤ 1000000000 := Pl.vs_len hp hl
 obtain ⟨W, hW, Nu, Np, Nz, K0⟩ := newh3 w [.slice a u.length cap] [.int .i64 x, .int .i64 y] [.string ⟨#[]⟩, .int .i64 0, .int .i64 0, .int .i64 0, .string ⟨#[]⟩, .int .i64 0, .int .i64 0, .int .i64 0] 24 26 74
 have HO := Aid.hid ho
 clear hu hl hp ho
 obtain ⟨xu0, lu⟩ := xc1 Nu
 obtain ⟨xp0, xp1, lp⟩ := xc2 Np
 go_enter Try.func35, Try.ntmps35
 try simp only [List.append_eq, List.cons_append, List.nil_append]
 go_wp2_with fail
 (try clear hW)
 refine (rvisible_is u a B cap x y p _ HPP.out (HU.out.below (K0.out) hB) (Nat.le_trans hB (K0.out).size) HUL.out).mono ?_; rintro _ w1 ⟨A1, c1, rfl, own1, hb1⟩
 have HRW := Aid.hid (Rows.of_own (rows := p.vs.map Vd.cells) (Vd.len _) (by rw [List.length_map]; exact own1))
 clear own1
 have Kx1 := kb K0 hb1
 have Nu_1 := nb hb1 Nu
 have Np_1 := nb hb1 Np
 have Nz_1 := nb hb1 Nz
 clear xu0 lu xp0 xp1 lp
 clear hb1
 go_wp2_with fail
 go_loopw [9] (fun vi wr => ∃ k : Nat, vi = .int .i64 k ∧ k ≤ p.vs.length ∧ Hid (∀ j, j < k → ∀ e, p.vs[j]? = some e → (e.name.toList == s.toList) = false) ∧ wr = w1) (fun vi _ => p.vs.length - (intOf vi).toNat)
 case atStart => exact ⟨0, rfl, Nat.zero_le _, Aid.hid (fun j hj => by omega), rfl⟩
 case round =>
  obtain ⟨k, rfl, hk, NO, rfl⟩ := hrel
  by_cases hkl : k < p.vs.length
  ·
   obtain ⟨vb, vo, hA, hvb, hc⟩ := HRW.out.vdr_ (by omega)
   obtain ⟨v, hv⟩ : ∃ v, p.vs[k]? = some v := ⟨_, List.getElem?_eq_getElem hkl⟩
   have c0 := hc k v hv 0 _ rfl
   have c1 := hc k v hv 1 _ rfl
   have c2 := hc k v hv 2 _ rfl
   have c3 := hc k v hv 3 _ rfl
   have c4 := hc k v hv 4 _ rfl
   have c5 := hc k v hv 5 _ rfl
   have c6 := hc k v hv 6 _ rfl
   have c7 := hc k v hv 7 _ rfl
   simp only [Nat.add_zero] at c0
   have HV := Aid.hid hv
   subst hA
   clear hc hv
   cases hr : (v.name.toList == s.toList)
   ·
    have NX : Hid (∀ j, j < k + 1 → ∀ e, p.vs[j]? = some e → (e.name.toList == s.toList) = false) := Aid.hid (fun j hj e he => by
     rcases Nat.lt_or_ge j k with h | h
     ·
      exact NO.out j h e he
     ·
      obtain rfl : j = k := by omega
      rw [HV.out] at he
      obtain rfl := Option.some.inj he
      exact hr)
    go_wp2_with fail
    go_roundw
    case rel => exact ⟨k + 1, by go_num, by omega, NX, by trivial⟩
    case measure => simp [intOf]; omega
   ·
    obtain rfl : some v = o := by rw [← HO.out]; exact (Pl.var_hit HV.out hr NO.out).symm
    go_wp2_with (refine wpList_store_row rfl 74 _ _ rfl (w.heap.size + 1 + 1) _ rfl rfl 74 _ (Nz_1.out) (by kernel_rfl) rfl (by simp [Value.oneCell']) ?_)
    refine bodyPost_ret (v := _) (results_row2 rfl _ _ (w.heap.size + 1 + 1) 74 _ (0, 0) _ _ rfl rfl (row_has (Nz_1.out)) Try.underlying74 rfl (by kernel_rfl)) rfl ⟨rfl, row_below (Kx1.out) (by omega) _⟩
  ·
   obtain rfl : none = o := by rw [← HO.out]; exact (Pl.var_miss (fun j hj => NO.out j (by omega))).symm
   go_wp2_with (refine wpList_store_row rfl 74 _ _ rfl (w.heap.size + 1 + 1) _ rfl rfl 74 _ (Nz_1.out) (by kernel_rfl) rfl (by simp [Value.oneCell']) ?_)
   refine bodyPost_ret (v := _) (results_row2 rfl _ _ (w.heap.size + 1 + 1) 74 _ (0, 0) _ _ rfl rfl (row_has (Nz_1.out)) Try.underlying74 rfl (by kernel_rfl)) rfl ⟨rfl, row_below (Kx1.out) (by omega) _⟩
end Go.Proofs.Ytmhdcehpddbjaaa
/- The document's all, as a walk. -/
namespace Go.Proofs.Ytmhdcehpddbjaaa
open Go.RowKit

/-- An expression's answer is the document's. -/
def RExOK (f : Nat) (u : List Dk) (a : Option Addr) (B cap : Nat) (x y : Int) (p : Pl) (e : Ex) : Prop :=
 ∀ (w : World) (t : Ty) (c : Int), Rf.expr p e = (t, c) → UnitAt w B a u → B ≤ w.heap.size → ExsAt f w B e.A e.args →
  Calls Try.prog 14 #[.agg #[.slice a u.length cap], .agg #[.int .i64 x, .int .i64 y], .agg #[.int .i64 e.k, .int .i64 e.n, .string e.name, .string e.what, .slice e.A e.args.length e.c]] w fun r w' => r = .returned (.tuple #[.agg #[.int .i64 t.k, .int .i64 t.lo, .int .i64 t.hi, .string t.name], .int .i64 c]) ∧ Below w.heap.size w w'
/-- What is left of 'all'. -/
def Rf.rest (ts : List Ty) (rs : List Rs) : List Ty × Int := match Ty.bad rs with | some c => ([], c) | none => (ts ++ rs.map (·.1), 0)
theorem Rf.rest_nil (rs : List Rs) : Rf.rest [] rs = Rf.all rs := rfl
theorem Rf.rest_good (ts : List Ty) (r : Rs) (rs : List Rs) (h : r.2 = 0) : Rf.rest ts (r :: rs) = Rf.rest (ts ++ [r.1]) rs := by
 unfold Rf.rest; rw [Ty.bad, if_neg (by simp [h])]
 cases Ty.bad rs <;> simp
theorem Rf.rest_bad (ts : List Ty) (r : Rs) (rs : List Rs) (h : r.2 ≠ 0) : Rf.rest ts (r :: rs) = ([], r.2) := by
 unfold Rf.rest; rw [Ty.bad, if_pos h]
theorem Rf.rest_end (ts : List Ty) : Rf.rest ts [] = (ts, 0) := by simp [Rf.rest, Ty.bad]
def TC (l : List Ty) : List Value := (l.map Ty.cells).flatten
theorem TC_snoc (l : List Ty) (t : Ty) : TC (l ++ [t]) = TC l ++ [.int .i64 t.k, .int .i64 t.lo, .int .i64 t.hi, .string t.name] := by unfold TC; simp [Ty.cells]
set_option maxRecDepth 100000 in
set_option maxHeartbeats 4000000 in
theorem rall_is (f : Nat) (u : List Dk) (a : Option Addr) (B cap : Nat) (x y : Int) (p : Pl) (l : List Ex) (A : Option Addr) (ec : Nat) (ts : List Ty) (c : Int) (w : World) (hr : Rf.all (l.map (Rf.expr p)) = (ts, c)) (hX : ∀ e ∈ l, RExOK f u a B cap x y p e) (hu : UnitAt w B a u) (hB : B ≤ w.heap.size) (he : ExsAt (f + 1) w B A l) (hlim : l.length ≤ 1000000000) :
  Calls Try.prog 38 #[.agg #[.slice a u.length cap], .agg #[.int .i64 x, .int .i64 y], .slice A l.length ec] w fun z w' => ∃ A' c', z = .returned (.tuple #[.slice A' ts.length c', .int .i64 c]) ∧ Rows w' w'.heap.size 4 A' (ts.map Ty.cells) ∧ Below w.heap.size w w' := by
 obtain ⟨i0, hi, hz0, hz1, hz2⟩ := info_parts Ty.info
 have HU := Aid.hid hu; have HE := Aid.hid he; have HX := Aid.hid hX; have lim := hlim
 obtain ⟨W, hW, Nu, Np, K0⟩ := newh2 w [.slice a u.length cap] [.int .i64 x, .int .i64 y] 24 26
 have HR := Aid.hid hr
 clear hu he hX hlim hr
 obtain ⟨xu0, lu⟩ := xc1 Nu
 obtain ⟨xp0, xp1, lp⟩ := xc2 Np
 go_enter Try.func38, Try.ntmps38
 try simp only [List.append_eq, List.cons_append, List.nil_append]
 go_wp2_with fail
 (try clear hW)
 clear xu0 lu xp0 xp1 lp
 have HKW := Aid.hid (K0.out)
 go_loopw [8, 9] (fun vl vi wr => ∃ (k : Nat) (A' : Option Addr) (c' : Nat) (zs : List Ty), vi = .int .i64 k ∧ vl = .slice A' k c' ∧ zs.length = k ∧ k ≤ l.length ∧ Hid (Rf.rest zs ((l.map (Rf.expr p)).drop k) = (ts, c)) ∧ Hid (wr.ownsRow W.heap.size 36 4 (.slice A' k c') k (TC zs)) ∧ Hid (Below W.heap.size W wr)) (fun _ vi _ => l.length - (intOf vi).toNat)
 case atStart => exact ⟨0, none, 0, [], rfl, rfl, rfl, Nat.zero_le _, HR, Aid.hid (World.ownsRow_nil W W.heap.size _ 4), Aid.hid (Below.refl _ _)⟩
 case round =>
  obtain ⟨k, A', c', zs, rfl, rfl, hzl, hk, HK, HO, HB⟩ := hrel
  have Kr := Aid.hid ((K0.out).trans (HB.out.mono (K0.out).size))
  have Mu := Aid.hid (Nu.out.below HB.out Nu.out.lt)
  have Mp := Aid.hid (Np.out.below HB.out Np.out.lt)
  by_cases hkl : k < l.length
  ·
   obtain ⟨e, hx⟩ : ∃ e, l[k]? = some e := ⟨_, List.getElem?_eq_getElem hkl⟩
   obtain ⟨eb, off, rfl, hebB, hc, hs⟩ := Ex.at1 (HE.out.below Kr.out hB) hx
   have c0 := hc 0 _ rfl
   have c1 := hc 1 _ rfl
   have c2 := hc 2 _ rfl
   have c3 := hc 3 _ rfl
   have c4 := hc 4 _ rfl
   simp only [Nat.add_zero] at c0
   have leb : eb < wr.heap.size := by have := Kr.out.size; omega
   obtain ⟨⟨t1, d1⟩, he1⟩ : ∃ r, Rf.expr p e = r := ⟨_, rfl⟩
   have HK2 := Aid.hid (show Rf.rest zs ((t1, d1) :: (l.map (Rf.expr p)).drop (k + 1)) = (ts, c) by
    have := HK.out
    rwa [drop_at (x := (t1, d1)) (by simp [hx, he1])] at this)
   have HX1 := Aid.hid (HX.out e (List.mem_of_getElem? hx)); have HE1 := Aid.hid he1; have HS := Aid.hid hs
   clear hc hx hs he1
   obtain ⟨xu0, lu⟩ := xc1 Mu
   obtain ⟨xp0, xp1, lp⟩ := xc2 Mp
   go_wp2_with fail
   refine wp_cut (fun a0 e a' w' => e = .normal ∧ Aid.Kept (∃ (g : Nat) (v19 v20 v21 v22 v23 v24 v25 v18 v26 v27 : Value), a' = putL a0 [(19, v19), (20, v20), (21, v21), (22, v22), (23, v23), (24, v24), (25, v25), (18, v18), (26, v26), (27, v27), (10, .pointer (some ⟨g, 0, none⟩)), (11, .int .i64 d1)] ∧ Aid.Has w' g [.int .i64 t1.k, .int .i64 t1.lo, .int .i64 t1.hi, .string t1.name] 36 ∧ wr.heap.size ≤ g ∧ Below wr.heap.size wr w')) ?_ ?_
   ·
    have HZ := Aid.hid (fun (w' : World) (hSw : Below wr.heap.size wr w') => (⟨kc hSw xu0 lu, kc hSw xp0 lp, kc hSw xp1 lp, kc hSw c0 leb, kc hSw c1 leb, kc hSw c2 leb, kc hSw c3 leb, kc hSw c4 leb⟩ : _ ∧ _ ∧ _ ∧ _ ∧ _ ∧ _ ∧ _ ∧ _))
    have hb : Below wr.heap.size wr wr.drew := (Below.refl _ _).drew
    refine Ord.wp_region_go (fun w' => Below wr.heap.size wr w') 12 [0, 1, 2, 3, 4, 5, 7, 8, 9] (by kernel_rfl) (by kernel_rfl) (fun _ _ _ _ _ h => by cases h.1) (hb) ?_
    clear hb
    have hb : Below wr.heap.size wr wr.drew := (Below.refl _ _).drew
    generalize wr.drew = wd0 at *
    apply Ord.go_light (i := 0) (by kernel_rfl)
    next => (simp only [la0, la1, la2]; rfl)
    next => rfl
    next => (intro w' hSw; have z := HZ.out w' hSw; clear hSw; go_simp; first | done | with_reducible rfl)
    simp only [Act.put, la3, la4, la5]
    apply Ord.go_light (i := 1) (by kernel_rfl)
    next => (simp only [la0, la1, la2]; rfl)
    next => rfl
    next => (intro w' hSw; have z := HZ.out w' hSw; clear hSw; go_simp; first | done | with_reducible rfl)
    simp only [Act.put, la3, la4, la5]
    apply Ord.go_light (i := 2) (by kernel_rfl)
    next => (simp only [la0, la1, la2]; rfl)
    next => rfl
    next => (intro w' hSw; have z := HZ.out w' hSw; clear hSw; go_simp; first | done | with_reducible rfl)
    simp only [Act.put, la3, la4, la5]
    apply Ord.go_light (i := 3) (by kernel_rfl)
    next => (simp only [la0, la1, la2]; rfl)
    next => rfl
    next => (intro w' hSw; have z := HZ.out w' hSw; clear hSw; go_simp; first | done | with_reducible rfl)
    simp only [Act.put, la3, la4, la5]
    apply Ord.go_light (i := 4) (by kernel_rfl)
    next => (simp only [la0, la1, la2]; rfl)
    next => rfl
    next => (intro w' hSw; have z := HZ.out w' hSw; clear hSw; go_simp; first | done | with_reducible rfl)
    simp only [Act.put, la3, la4, la5]
    apply Ord.go_light (i := 5) (by kernel_rfl)
    next => (simp only [la0, la1, la2]; rfl)
    next => rfl
    next => (intro w' hSw; have z := HZ.out w' hSw; clear hSw; go_simp; first | done | with_reducible rfl)
    simp only [Act.put, la3, la4, la5]
    refine Ord.go_two (i := 6) (j := 10) (by kernel_rfl) (by kernel_rfl) ?_ ?_
    ·
     apply Ord.go_done1
     next => (simp only [la0, la1, la2]; rfl)
     next => rfl
     intro K hK
     go_wp2_with fail
     refine (HX1.out _ t1 d1 HE1.out (HU.out.below (((Kr.out).trans (hb.mono (Kr.out).size))) hB) (Nat.le_trans hB (((Kr.out).trans (hb.mono (Kr.out).size))).size) (HS.out.below (hb.mono (Nat.le_trans hB (Kr.out).size)) (Nat.le_refl _))).mono ?_; rintro _ vc ⟨rfl, hb'⟩; dsimp only
     refine hK.out _ _ (hb.trans (hb'.mono hb.size)) (fun hHeld => ?_)
     clear hb hb'
     have hb := hHeld
     clear hK K
     try simp only [Act.put, la3, la4, la5]
     apply Ord.go_light (i := 7) (by kernel_rfl)
     next => (simp only [la0, la1, la2]; rfl)
     next => rfl
     next => (intro w' hSw; have z := HZ.out w' hSw; clear hSw; go_simp; first | done | with_reducible rfl)
     simp only [Act.put, la3, la4, la5]
     apply Ord.go_light (i := 8) (by kernel_rfl)
     next => (simp only [la0, la1, la2]; rfl)
     next => rfl
     next => (intro w' hSw; have z := HZ.out w' hSw; clear hSw; go_simp; first | done | with_reducible rfl)
     simp only [Act.put, la3, la4, la5]
     apply Ord.go_light (i := 9) (by kernel_rfl)
     next => (simp only [la0, la1, la2]; rfl)
     next => rfl
     next => (intro w' hSw; have z := HZ.out w' hSw; clear hSw; go_simp; first | done | with_reducible rfl)
     simp only [Act.put, la3, la4, la5]
     refine Ord.go_one (i := 10) (by kernel_rfl) (by kernel_rfl) ?_
     apply Ord.go_done1
     next => (simp only [la0, la1, la2]; rfl)
     next => rfl
     intro K hK
     go_wp2_with fail
     have hg := Aid.Has.new vc [.int .i64 0, .int .i64 0, .int .i64 0, .string ⟨#[]⟩] 36
     have hgs := hb.size
     refine hK.out _ _ (hb.alloc hb.size _) (fun hHeld => ?_)
     clear hb
     have hb := hHeld
     generalize hX : vc.alloc _ = wx at *
     clear hX
     clear hK K
     try simp only [Act.put, la3, la4, la5]
     refine Ord.go_one (i := 11) (by kernel_rfl) (by kernel_rfl) ?_
     apply Ord.go_done1
     next => (simp only [la0, la1, la2]; rfl)
     next => rfl
     intro K hK
     refine wp_store_row 36 _ _ rfl (vc.heap.size) _ rfl rfl 36 _ hg (by kernel_rfl) rfl (by simp [Value.oneCell']) ?_
     refine hK.out _ _ (row_below hb hgs _) (fun hHeld => ?_)
     have hg := row_has (ys := [.int .i64 t1.k, .int .i64 t1.lo, .int .i64 t1.hi, .string t1.name]) hg
     clear hb
     have hb := hHeld
     generalize hX : World.setRow _ _ _ = ws at *
     clear hX
     clear hK K
     refine Ord.go_tail ?_; simp only [List.drop_succ_cons, List.drop_zero]
     go_wp2_with fail
     (try refine ⟨rfl, ?_⟩)
     unfold Aid.Kept
     refine ⟨vc.heap.size, ?_⟩
     all_goals (repeat' apply And.intro)
     all_goals first | exact hg | exact hgs | exact hb | (simp only [putL, Act.put, la3, la4, la5]; exact ⟨_, _, _, _, _, _, _, _, _, _, rfl⟩)
    ·
     apply Ord.go_done1
     next => (simp only [la0, la1, la2]; rfl)
     next => rfl
     intro K hK
     go_wp2_with fail
     have hg := Aid.Has.new wd0 [.int .i64 0, .int .i64 0, .int .i64 0, .string ⟨#[]⟩] 36
     have hgs := hb.size
     refine hK.out _ _ (hb.alloc hb.size _) (fun hHeld => ?_)
     clear hb
     have hb := hHeld
     generalize hX : wd0.alloc _ = wx at *
     clear hX
     clear hK K
     try simp only [Act.put, la3, la4, la5]
     refine Ord.go_one (i := 6) (by kernel_rfl) (by kernel_rfl) ?_
     apply Ord.go_done1
     next => (simp only [la0, la1, la2]; rfl)
     next => rfl
     intro K hK
     go_wp2_with fail
     refine (HX1.out _ t1 d1 HE1.out (HU.out.below (((Kr.out).trans (hb.mono (Kr.out).size))) hB) (Nat.le_trans hB (((Kr.out).trans (hb.mono (Kr.out).size))).size) (HS.out.below (hb.mono (Nat.le_trans hB (Kr.out).size)) (Nat.le_refl _))).mono ?_; rintro _ vc ⟨rfl, hb'⟩; dsimp only
     refine hK.out _ _ (hb.trans (hb'.mono hb.size)) (fun hHeld => ?_)
     have hg := hg.below hb' hg.lt
     clear hb hb'
     have hb := hHeld
     clear hK K
     try simp only [Act.put, la3, la4, la5]
     apply Ord.go_light (i := 7) (by kernel_rfl)
     next => (simp only [la0, la1, la2]; rfl)
     next => rfl
     next => (intro w' hSw; have z := HZ.out w' hSw; clear hSw; go_simp; first | done | with_reducible rfl)
     simp only [Act.put, la3, la4, la5]
     apply Ord.go_light (i := 8) (by kernel_rfl)
     next => (simp only [la0, la1, la2]; rfl)
     next => rfl
     next => (intro w' hSw; have z := HZ.out w' hSw; clear hSw; go_simp; first | done | with_reducible rfl)
     simp only [Act.put, la3, la4, la5]
     apply Ord.go_light (i := 9) (by kernel_rfl)
     next => (simp only [la0, la1, la2]; rfl)
     next => rfl
     next => (intro w' hSw; have z := HZ.out w' hSw; clear hSw; go_simp; first | done | with_reducible rfl)
     simp only [Act.put, la3, la4, la5]
     refine Ord.go_one (i := 11) (by kernel_rfl) (by kernel_rfl) ?_
     apply Ord.go_done1
     next => (simp only [la0, la1, la2]; rfl)
     next => rfl
     intro K hK
     refine wp_store_row 36 _ _ rfl (wd0.heap.size) _ rfl rfl 36 _ hg (by kernel_rfl) rfl (by simp [Value.oneCell']) ?_
     refine hK.out _ _ (row_below hb hgs _) (fun hHeld => ?_)
     have hg := row_has (ys := [.int .i64 t1.k, .int .i64 t1.lo, .int .i64 t1.hi, .string t1.name]) hg
     clear hb
     have hb := hHeld
     generalize hX : World.setRow _ _ _ = ws at *
     clear hX
     clear hK K
     refine Ord.go_tail ?_; simp only [List.drop_succ_cons, List.drop_zero]
     go_wp2_with fail
     (try refine ⟨rfl, ?_⟩)
     unfold Aid.Kept
     refine ⟨wd0.heap.size, ?_⟩
     all_goals (repeat' apply And.intro)
     all_goals first | exact hg | exact hgs | exact hb | (simp only [putL, Act.put, la3, la4, la5]; exact ⟨_, _, _, _, _, _, _, _, _, _, rfl⟩)
   rintro e' a' w1 ⟨rfl, g1, v19, v20, v21, v22, v23, v24, v25, v18, v26, v27, rfl, hg1, hgl1, hb1⟩
   simp only [putL, Act.put, la3, la4, la5]
   have Nnew1 := Aid.hid hg1
   clear hg1
   have hbq1 := hb1
   have Kx1 := kb Kr hb1
   have Mu_1 := nb hb1 Mu
   have Mp_1 := nb hb1 Mp
   clear xu0 lu xp0 xp1 lp c0 c1 c2 c3 c4 leb
   clear hb1
   have HBz := Aid.hid (HB.out.trans (hbq1.mono HB.out.size))
   have HO2 := Aid.hid (own_keeps HO.out hbq1)
   clear hbq1
   obtain ⟨xnew10, xnew11, xnew12, xnew13, lnew1⟩ := xc4 Nnew1
   by_cases hd : d1 = 0
   ·
    subst hd
    have NX := Aid.hid ((Rf.rest_good zs (t1, 0) _ rfl).symm.trans HK2.out)
    have hnew := Aid.Has.new w1 [.int .i64 t1.k, .int .i64 t1.lo, .int .i64 t1.hi, .string t1.name] 36
    have k3 := below_new w1 (.cells #[.int .i64 t1.k, .int .i64 t1.lo, .int .i64 t1.hi, .string t1.name] 36)
    have ho3 := own_keeps HO2.out k3
    have hr3 : Reads (w1.alloc (.cells #[.int .i64 t1.k, .int .i64 t1.lo, .int .i64 t1.hi, .string t1.name] 36)) (w1.alloc (.cells #[.int .i64 t1.k, .int .i64 t1.lo, .int .i64 t1.hi, .string t1.name] 36)).heap.size 4 (some ⟨w1.heap.size, 0, none⟩) 1 [.int .i64 t1.k, .int .i64 t1.lo, .int .i64 t1.hi, .string t1.name] := ⟨by simp, fun _ => ⟨⟨w1.heap.size, 0, none⟩, rfl, by simp [World.size_alloc], fun j u hj => by
     rw [Go.WideShapes.add_plain, Nat.zero_add]; exact hnew.cell j u hj⟩⟩
    have hbs : W.heap.size ≤ (w1.alloc (.cells #[.int .i64 t1.k, .int .i64 t1.lo, .int .i64 t1.hi, .string t1.name] 36)).heap.size := Nat.le_trans HBz.out.size k3.size
    have K3b := Aid.hid k3
    clear k3 hnew
    go_wp2_with (at_builtin; refine wpList_append_any _ rfl _ _ 79 rfl W.heap.size 36 i0 (.agg #[.int .i64 0, .int .i64 0, .int .i64 0, .string ⟨#[]⟩]) 4 40 Try.underlying79 hi hz0 hz1 hz2 rfl (by decide) _ _ _ rfl ho3 _ (some ⟨w1.heap.size, 0, none⟩) 1 1 [.int .i64 t1.k, .int .i64 t1.lo, .int .i64 t1.hi, .string t1.name] rfl hr3 ?d1 ?d2 ?d3 hbs ?_)
    case d1 => first | exact ⟨rfl, rfl, rfl, rfl⟩ | (intro u hu; simp at hu; rcases hu with rfl | rfl | rfl | rfl <;> rfl)
    case d2 => unfold maxLen; omega
    case d3 => omega
    intro v9 w9 ho9 hg9 hob
    obtain ⟨A9, c9, rfl⟩ := own_slice ho9
    have HB9 := Aid.hid ((HBz.out.trans (K3b.out.mono HBz.out.size)).grown hg9 hbs (fun q hq => (ho3.lt q hq).1))
    have HO9 := Aid.hid (show w9.ownsRow W.heap.size 36 4 (.slice A9 (k + 1) c9) (k + 1) (TC (zs ++ [t1])) by rw [TC_snoc]; exact ho9)
    clear ho9 hg9 hob hr3 hbs ho3
    go_wp2_with fail
    go_roundw
    case rel => exact ⟨k + 1, A9, c9, zs ++ [t1], by go_num, rfl, by simp [hzl], by omega, NX, HO9, HB9⟩
    case measure => simp [intOf]; omega
   ·
    have hd2 : (d1 != 0) = true := by simpa using hd
    obtain ⟨rfl, rfl⟩ : [] = ts ∧ d1 = c := by
     have h := (Rf.rest_bad zs (t1, d1) _ hd).symm.trans HK2.out
     simpa using h
    go_wp2_with fail
    go_ret2
    exact ⟨none, 0, rfl, Rows.nil_ _ _ _ _, Kx1.out⟩
  ·
   have hek : k = l.length := by omega
   obtain ⟨rfl, rfl⟩ : zs = ts ∧ 0 = c := by
    have h := HK.out
    rw [List.drop_eq_nil_of_le (by simp; omega), Rf.rest_end] at h
    simpa using h
   have HRW : Hid (Rows wr wr.heap.size 4 A' (zs.map Ty.cells)) := Aid.hid (Rows.of_own (sz := 4) (rows := zs.map Ty.cells) (by intro r hr; obtain ⟨x, _, rfl⟩ := List.mem_map.1 hr; rfl) (by rw [List.length_map, hzl]; exact HO.out))
   subst hzl
   go_wp2_with fail
   go_ret2
   exact ⟨A', c', rfl, HRW.out, Kr.out⟩
end Go.Proofs.Ytmhdcehpddbjaaa
/- The document's Who, as a walk. -/
namespace Go.Proofs.Ytmhdcehpddbjaaa
open Go.RowKit

/-- Whose method it is, as the document tells it. -/
def Rf.who (p : Pl) (n : Int) (s : ByteArray) : Int × Int := (if (Ty.whose p n s).2 = 0 then (Ty.whose p n s).1 else 0, (Ty.whose p n s).2)
theorem Pl.at_u {u : List Dk} {x y : Int} {p : Pl} (h : Pl.at u x y = some p) : p.u = u := by
 obtain ⟨i, d, rfl, hd, hi, h3 | h2⟩ := Pl.at_in h
 ·
  rw [h3.2.2]
 ·
  obtain ⟨_, j, m, _, _, _, rfl⟩ := h2; rfl
theorem Pl.at_meth {u : List Dk} {x y : Int} {p : Pl} (h : Pl.at u x y = some p) : Rf.meth u x y = p.me.isSome := by
 obtain ⟨i, d, rfl, hd, hi, h3 | h2⟩ := Pl.at_in h
 ·
  rw [h3.2.2]; unfold Rf.meth; simp [hd, h3.1]
 ·
  obtain ⟨hk, j, m, rfl, hm, hj, rfl⟩ := h2; unfold Rf.meth; simp [hd, hk, hj]
theorem Pl.at_d {u : List Dk} {x y : Int} {p : Pl} (h : Pl.at u x y = some p) (hs : p.me.isSome = true) : p.d = x := by
 obtain ⟨i, d, rfl, hd, hi, h3 | h2⟩ := Pl.at_in h
 ·
  rw [h3.2.2] at hs; cases hs
 ·
  obtain ⟨_, j, m, _, _, _, rfl⟩ := h2; rfl
theorem Pl.at_meth_lt {u : List Dk} {x y : Int} {p : Pl} {m : Md} (h : Pl.at u x y = some p) (hs : p.me = some m) : ∃ (i j : Nat) (d : Dk), x = i ∧ y = j ∧ u[i]? = some d ∧ d.ms[j]? = some m ∧ d.kind = 2 := by
 obtain ⟨i, d, rfl, hd, hi, h3 | h2⟩ := Pl.at_in h
 ·
  rw [h3.2.2] at hs; cases hs
 ·
  obtain ⟨hk, j, m', rfl, hm, _, rfl⟩ := h2
  obtain rfl := Option.some.inj hs
  exact ⟨i, j, d, rfl, rfl, hd, hm, hk⟩
set_option maxRecDepth 100000 in
set_option maxHeartbeats 4000000 in
theorem rwho_is (u : List Dk) (a : Option Addr) (B cap : Nat) (x y : Int) (p : Pl) (e : Ex) (d c : Int) (w : World) (hr : Rf.who p e.n e.name = (d, c)) (hp : Pl.at u x y = some p) (hl : ULim u) (hu : UnitAt w B a u) (hB : B ≤ w.heap.size) :
  Calls Try.prog 58 #[.agg #[.slice a u.length cap], .agg #[.int .i64 x, .int .i64 y], .agg #[.int .i64 e.k, .int .i64 e.n, .string e.name, .string e.what, .slice e.A e.args.length e.c]] w fun z w' => z = .returned (.tuple #[.int .i64 d, .int .i64 c]) ∧ Below w.heap.size w w' := by
 have HU := Aid.hid hu; have HUL := Aid.hid hl; have HPP := Aid.hid hp
 have HPU := Aid.hid (Pl.at_u hp)
 obtain ⟨ch, hch⟩ : ∃ r, Tb.chain u x = r := ⟨_, rfl⟩
 have lch : ch.length ≤ 1000000000 := by have h1 := Tb.chain_len u x; have h2 := hl.n; rw [hch] at h1; omega
 obtain ⟨W, hW, Nu, Np, Ne, K0⟩ := newh3 w [.slice a u.length cap] [.int .i64 x, .int .i64 y] [.int .i64 e.k, .int .i64 e.n, .string e.name, .string e.what, .slice e.A e.args.length e.c] 24 26 29
 have HR := Aid.hid hr
 have HCH := Aid.hid hch
 clear hu hl hp hr hch
 obtain ⟨xu0, lu⟩ := xc1 Nu
 obtain ⟨xp0, lp⟩ := xc1 Np
 go_enter Try.func58, Try.ntmps58
 try simp only [List.append_eq, List.cons_append, List.nil_append]
 go_wp2_with fail
 (try clear hW)
 refine (rchain_is u a B cap x ch _ HCH.out (HU.out.below (K0.out) hB) (Nat.le_trans hB (K0.out).size)).mono ?_; rintro _ w1 ⟨A1, c1, rfl, own1, hb1⟩
 have HI1 := Aid.hid (IntsAt.of_own own1)
 clear own1
 have B1 := Aid.hid hb1
 have Kx1 := kb K0 hb1
 have Nu_1 := nb hb1 Nu
 have Np_1 := nb hb1 Np
 have Ne_1 := nb hb1 Ne
 clear xu0 lu xp0 lp
 clear hb1
 obtain ⟨xu0, lu⟩ := xc1 Nu_1
 obtain ⟨xp0, xp1, lp⟩ := xc2 Np_1
 have xe1 := Ne_1.out.cell 1 _ rfl
 have xe2 := Ne_1.out.cell 2 _ rfl
 have le := Ne_1.out.lt
 have hn : e.n = 0 ∨ e.n = 1 ∨ e.n = 2 ∨ (e.n ≠ 0 ∧ e.n ≠ 1 ∧ e.n ≠ 2) := by omega
 rcases hn with hn | hn | hn | ⟨h0, h1, h2⟩
 ·
  have q0 : (e.n == 0) = true := by simp [hn]
  obtain ⟨o, ho⟩ : ∃ o, p.var e.name = o := ⟨_, rfl⟩
  have HO := Aid.hid ho
  have HN := Aid.hid hn
  clear ho hn
  go_wp2_with fail
  refine (rvar_is u a B cap x y p e.name o _ HO.out HPP.out (HU.out.below (Kx1.out) hB) (Nat.le_trans hB (Kx1.out).size) HUL.out).mono ?_; rintro _ w2 ⟨rfl, hb2⟩
  have Kx2 := kb Kx1 hb2
  have Nu_2 := nb hb2 Nu_1
  have Np_2 := nb hb2 Np_1
  have Ne_2 := nb hb2 Ne_1
  clear xu0 lu xp0 xp1 lp xe1 xe2 le
  clear hb2
  cases o with
  | none =>
    obtain ⟨rfl, rfl⟩ : 0 = d ∧ 13 = c := by have h := HR.out; simp only [Rf.who, Ty.whose, HN.out, HO.out] at h; simpa using h
    simp only [Ty.vof, Vd.zero, Option.isSome]
    go_wp2_with fail
    go_ret2
    exact ⟨rfl, (Kx2.out).alloc (Kx2.out).size _⟩
  | some v =>
    simp only [Ty.vof, Option.isSome]
    obtain ⟨X3, hX⟩ : ∃ X, w2.alloc (.cells #[.string v.name, .int .i64 v.ty.k, .int .i64 v.ty.lo, .int .i64 v.ty.hi, .string v.ty.name, .int .i64 v.init, .int .i64 v.dir, .int .i64 v.slot] 74) = X := ⟨_, rfl⟩
    have Nu_3 := na hX Nu_2
    have Np_3 := na hX Np_2
    have Ne_3 := na hX Ne_2
    have Nv_3 := nw hX
    have Kx3 := nk hX Kx2
    have Qs3 := nq hX
    have xv1 := Nv_3.out.cell 1 _ rfl
    have xv4 := Nv_3.out.cell 4 _ rfl
    have lv := Nv_3.out.lt
    obtain ⟨xu0, lu⟩ := xc1 Nu_3
    have hk : v.ty.k = 6 ∨ (v.ty.k = 5 ∧ v.ty.name.toList.isEmpty = false) ∨ (v.ty.k ≠ 6 ∧ v.ty.k ≠ 5) ∨ (v.ty.k = 5 ∧ v.ty.name.toList.isEmpty = true) := by
     cases h : v.ty.name.toList.isEmpty
     ·
      by_cases h6 : v.ty.k = 6
      ·
       exact .inl h6
      ·
       by_cases h5 : v.ty.k = 5
       ·
        exact .inr (.inl ⟨h5, rfl⟩)
       ·
        exact .inr (.inr (.inl ⟨h6, h5⟩))
     ·
      by_cases h6 : v.ty.k = 6
      ·
       exact .inl h6
      ·
       by_cases h5 : v.ty.k = 5
       ·
        exact .inr (.inr (.inr ⟨h5, rfl⟩))
       ·
        exact .inr (.inr (.inl ⟨h6, h5⟩))
    rcases hk with h6 | ⟨h5, he⟩ | ⟨h6, h5⟩ | ⟨h5, he⟩
    ·
     have f6 : (v.ty.k == 6) = true := by simp [h6]
     have f6' : (v.ty.k != 6) = false := by simp [h6]
     have HC : Hid (¬(v.ty.k ≠ 6 ∧ (v.ty.k ≠ 5 ∨ v.ty.name.toList.isEmpty = true))) := Aid.hid (fun h => h.1 h6)
     clear h6
     obtain ⟨ty, hty⟩ : ∃ r, Tb.typed u v.ty.name = r := ⟨_, rfl⟩
     have HTY := Aid.hid hty
     clear hty
     go_wp2_with fail
     (try clear hX)
     refine (rthing_is u a B cap v.ty.name ty _ HTY.out (HU.out.below (Kx3.out) hB) (Nat.le_trans hB (Kx3.out).size)).mono ?_; rintro _ w4 ⟨rfl, hb4⟩
     have Kx4 := kb Kx3 hb4
     have Nu_4 := nb hb4 Nu_3
     have Np_4 := nb hb4 Np_3
     have Ne_4 := nb hb4 Ne_3
     have Nv_4 := nb hb4 Nv_3
     clear xv1 xv4 lv xu0 lu
     clear hb4
     obtain ⟨xu0, lu⟩ := xc1 Nu_4
     have xv4 := Nv_4.out.cell 4 _ rfl
     have lv := Nv_4.out.lt
     cases ty
     ·
      obtain ⟨rfl, rfl⟩ : 0 = d ∧ 13 = c := by have h := HR.out; simp only [Rf.who, Ty.whose, HN.out, HO.out, if_true, if_neg HC.out, HPU.out, HTY.out] at h; simpa using h
      go_wp2_with fail
      go_ret2
      exact ⟨rfl, Kx4.out⟩
     ·
      obtain ⟨fd, hfd⟩ : ∃ r, Tb.find u v.ty.name = r := ⟨_, rfl⟩
      have HFD := Aid.hid hfd
      clear hfd
      obtain ⟨rfl, rfl⟩ : fd = d ∧ 0 = c := by have h := HR.out; simp only [Rf.who, Ty.whose, HN.out, HO.out, if_true, if_neg HC.out, HPU.out, HTY.out, HFD.out] at h; simpa using h
      go_wp2_with fail
      refine (rfind_is u a B cap v.ty.name fd _ HFD.out (HU.out.below (Kx4.out) hB) (Nat.le_trans hB (Kx4.out).size)).mono ?_; rintro _ w5 ⟨rfl, hb5⟩
      have Kx5 := kb Kx4 hb5
      have Nu_5 := nb hb5 Nu_4
      have Np_5 := nb hb5 Np_4
      have Ne_5 := nb hb5 Ne_4
      have Nv_5 := nb hb5 Nv_4
      clear xu0 lu xv4 lv
      clear hb5
      go_wp2_with fail
      go_ret2
      exact ⟨rfl, Kx5.out⟩
    ·
     have f6' : (v.ty.k != 6) = true := by simp [h5]
     have f5' : (v.ty.k != 5) = false := by simp [h5]
     have HC : Hid (¬(v.ty.k ≠ 6 ∧ (v.ty.k ≠ 5 ∨ v.ty.name.toList.isEmpty = true))) := Aid.hid (fun h => h.2.elim (fun h => h h5) (fun h => by rw [he] at h; cases h))
     clear h5
     obtain ⟨ty, hty⟩ : ∃ r, Tb.typed u v.ty.name = r := ⟨_, rfl⟩
     have HTY := Aid.hid hty
     clear hty
     go_wp2_with fail
     (try clear hX)
     refine (rthing_is u a B cap v.ty.name ty _ HTY.out (HU.out.below (Kx3.out) hB) (Nat.le_trans hB (Kx3.out).size)).mono ?_; rintro _ w4 ⟨rfl, hb4⟩
     have Kx4 := kb Kx3 hb4
     have Nu_4 := nb hb4 Nu_3
     have Np_4 := nb hb4 Np_3
     have Ne_4 := nb hb4 Ne_3
     have Nv_4 := nb hb4 Nv_3
     clear xv1 xv4 lv xu0 lu
     clear hb4
     obtain ⟨xu0, lu⟩ := xc1 Nu_4
     have xv4 := Nv_4.out.cell 4 _ rfl
     have lv := Nv_4.out.lt
     cases ty
     ·
      obtain ⟨rfl, rfl⟩ : 0 = d ∧ 13 = c := by have h := HR.out; simp only [Rf.who, Ty.whose, HN.out, HO.out, if_true, if_neg HC.out, HPU.out, HTY.out] at h; simpa using h
      go_wp2_with fail
      go_ret2
      exact ⟨rfl, Kx4.out⟩
     ·
      obtain ⟨fd, hfd⟩ : ∃ r, Tb.find u v.ty.name = r := ⟨_, rfl⟩
      have HFD := Aid.hid hfd
      clear hfd
      obtain ⟨rfl, rfl⟩ : fd = d ∧ 0 = c := by have h := HR.out; simp only [Rf.who, Ty.whose, HN.out, HO.out, if_true, if_neg HC.out, HPU.out, HTY.out, HFD.out] at h; simpa using h
      go_wp2_with fail
      refine (rfind_is u a B cap v.ty.name fd _ HFD.out (HU.out.below (Kx4.out) hB) (Nat.le_trans hB (Kx4.out).size)).mono ?_; rintro _ w5 ⟨rfl, hb5⟩
      have Kx5 := kb Kx4 hb5
      have Nu_5 := nb hb5 Nu_4
      have Np_5 := nb hb5 Np_4
      have Ne_5 := nb hb5 Ne_4
      have Nv_5 := nb hb5 Nv_4
      clear xu0 lu xv4 lv
      clear hb5
      go_wp2_with fail
      go_ret2
      exact ⟨rfl, Kx5.out⟩
    ·
     have f6' : (v.ty.k != 6) = true := by simpa using h6
     have f5' : (v.ty.k != 5) = true := by simpa using h5
     have HC : Hid (v.ty.k ≠ 6 ∧ (v.ty.k ≠ 5 ∨ v.ty.name.toList.isEmpty = true)) := Aid.hid ⟨h6, .inl h5⟩
     clear h5 h6
     obtain ⟨rfl, rfl⟩ : 0 = d ∧ 14 = c := by have h := HR.out; simp only [Rf.who, Ty.whose, HN.out, HO.out, if_true] at h; rw [if_pos HC.out] at h; simpa using h
     go_wp2_with fail
     go_ret2
     exact ⟨rfl, Kx3.out⟩
    ·
     have f6' : (v.ty.k != 6) = true := by simp [h5]
     have f5' : (v.ty.k != 5) = false := by simp [h5]
     have HC : Hid (v.ty.k ≠ 6 ∧ (v.ty.k ≠ 5 ∨ v.ty.name.toList.isEmpty = true)) := Aid.hid ⟨by simp [h5], .inr he⟩
     clear h5
     obtain ⟨rfl, rfl⟩ : 0 = d ∧ 14 = c := by have h := HR.out; simp only [Rf.who, Ty.whose, HN.out, HO.out, if_true] at h; rw [if_pos HC.out] at h; simpa using h
     go_wp2_with fail
     go_ret2
     exact ⟨rfl, Kx3.out⟩
 ·
  have q0 : (e.n == 0) = false := by simp [hn]
  have q1 : (e.n == 1) = true := by simp [hn]
  obtain ⟨mm, hmm⟩ : ∃ r, Rf.meth u x y = r := ⟨_, rfl⟩
  have HM := Aid.hid hmm
  have HN := Aid.hid hn
  have HS : Hid (p.me.isSome = mm) := Aid.hid (by rw [← hmm]; exact (Pl.at_meth HPP.out).symm)
  clear hmm hn
  go_wp2_with fail
  refine (rmeth_is u a B cap x y mm _ HM.out (HU.out.below (Kx1.out) hB) (Nat.le_trans hB (Kx1.out).size)).mono ?_; rintro _ w2 ⟨rfl, hb2⟩
  have Kx2 := kb Kx1 hb2
  have Nu_2 := nb hb2 Nu_1
  have Np_2 := nb hb2 Np_1
  have Ne_2 := nb hb2 Ne_1
  clear xu0 lu xp0 xp1 lp xe1 xe2 le
  clear hb2
  obtain ⟨xp0, lp⟩ := xc1 Np_2
  cases mm
  ·
   obtain ⟨rfl, rfl⟩ : 0 = d ∧ 15 = c := by
    have h := HR.out
    have hi : p.me.isNone = true := by have := HS.out; cases hq : p.me <;> simp_all
    simp [Rf.who, Ty.whose, HN.out, hi] at h; exact h
   go_wp2_with fail
   go_ret2
   exact ⟨rfl, Kx2.out⟩
  ·
   obtain ⟨rfl, rfl⟩ : x = d ∧ 0 = c := by
    have h := HR.out
    have hi : p.me.isNone = false := by have := HS.out; cases hq : p.me <;> simp_all
    simp [Rf.who, Ty.whose, HN.out, hi, Pl.at_d HPP.out HS.out] at h; exact h
   go_wp2_with fail
   go_ret2
   exact ⟨rfl, Kx2.out⟩
 ·
  have q0 : (e.n == 0) = false := by simp [hn]
  have q1 : (e.n == 1) = false := by simp [hn]
  have q2 : (e.n == 2) = true := by simp [hn]
  obtain ⟨mm, hmm⟩ : ∃ r, Rf.meth u x y = r := ⟨_, rfl⟩
  have HM := Aid.hid hmm
  have HN := Aid.hid hn
  have HS : Hid (p.me.isSome = mm) := Aid.hid (by rw [← hmm]; exact (Pl.at_meth HPP.out).symm)
  clear hmm hn
  go_wp2_with fail
  have KQ := Aid.hid Kx1.out
  refine (rmeth_is u a B cap x y mm _ HM.out (HU.out.below (Kx1.out) hB) (Nat.le_trans hB (Kx1.out).size)).mono ?_; rintro _ w2 ⟨rfl, hb2⟩
  have HI2 := Aid.hid (show IntsAt w2 _ A1 ch from Reads.below HI1.out hb2)
  have Kx2 := kb Kx1 hb2
  have Nu_2 := nb hb2 Nu_1
  have Np_2 := nb hb2 Np_1
  have Ne_2 := nb hb2 Ne_1
  clear xu0 lu xp0 xp1 lp xe1 xe2 le
  clear hb2
  cases mm
  ·
   obtain ⟨rfl, rfl⟩ : 0 = d ∧ 15 = c := by
    have h := HR.out
    have hi : p.me.isNone = true := by have := HS.out; cases hq : p.me <;> simp_all
    simp [Rf.who, Ty.whose, HN.out, hi] at h; exact h
   go_wp2_with fail
   go_ret2
   exact ⟨rfl, Kx2.out⟩
  ·
   have hi : p.me.isNone = false := by have := HS.out; cases hq : p.me <;> simp_all
   have hpd := Pl.at_d HPP.out HS.out
   have hpc : Tb.chain p.u p.d = ch := by rw [HPU.out, hpd]; exact HCH.out
   by_cases hl2 : ch.length < 2
   ·
    obtain ⟨rfl, rfl⟩ : 0 = d ∧ 15 = c := by
     have h := HR.out
     simp [Rf.who, Ty.whose, HN.out, hi, hpc, hl2] at h; exact h
    have hl3 : decide ((ch.length : Int) < 2) = true := by simp; omega
    clear hi hpd hpc
    go_wp2_with fail
    go_ret2
    exact ⟨rfl, Kx2.out⟩
   ·
    obtain ⟨c1', hc1⟩ : ∃ q, ch[1]? = some q := ⟨_, List.getElem?_eq_getElem (by omega)⟩
    obtain ⟨rfl, rfl⟩ : c1' = d ∧ 0 = c := by
     have h := HR.out
     simp [Rf.who, Ty.whose, HN.out, hi, hpc, hl2, hc1] at h; exact h
    have hl3 : decide ((ch.length : Int) < 2) = false := by simp; omega
    obtain ⟨ad, rfl, _, hcc⟩ := HI2.out.at_ (k := 1) (by omega)
    have cc : w2.cell? ⟨ad.block, ad.off + 1, none⟩ = some (.int .i64 c1') := hcc 1 _ hc1
    have hl4 : (1 : Int) < (ch.length : Int) := by omega
    clear hi hpd hpc hcc hc1
    go_wp2_with fail
    go_ret2
    exact ⟨rfl, Kx2.out⟩
 ·
  obtain ⟨rfl, rfl⟩ : 0 = d ∧ 14 = c := by
   have h := HR.out
   simp [Rf.who, Ty.whose, h0, h1, h2] at h; exact h
  have q0 : (e.n == 0) = false := by simpa using h0
  have q1 : (e.n == 1) = false := by simpa using h1
  have q2 : (e.n == 2) = false := by simpa using h2
  go_wp2_with fail
  go_ret2
  exact ⟨rfl, Kx1.out⟩
end Go.Proofs.Ytmhdcehpddbjaaa
/- The document's Of and Invoke, as walks. -/
namespace Go.Proofs.Ytmhdcehpddbjaaa
open Go.RowKit

set_option maxRecDepth 100000 in
set_option maxHeartbeats 4000000 in
theorem rof_is (u : List Dk) (a : Option Addr) (B cap : Nat) (i j : Nat) (d : Dk) (m : Md) (w : World) (hd : u[i]? = some d) (hm : d.ms[j]? = some m) (hu : UnitAt w B a u) (hB : B ≤ w.heap.size) :
  Calls Try.prog 60 #[.agg #[.slice a u.length cap], .agg #[.int .i64 (i : Int), .int .i64 (j : Int)]] w fun z w' => z = .returned (.agg #[.string m.name, .bool m.over, .bool m.abs, .bool m.fin, .slice m.pA m.ps.length m.pc, .int .i64 m.res.k, .int .i64 m.res.lo, .int .i64 m.res.hi, .string m.res.name, .slice m.vA m.vs.length m.vc, .slice m.bA m.body.length m.bc]) ∧ Below w.heap.size w w' := by
 have HU := Aid.hid hu
 have sm := hu.small
 have hil : i < u.length := (List.getElem?_eq_some_iff.1 hd).1
 have hjl : j < d.ms.length := (List.getElem?_eq_some_iff.1 hm).1
 obtain ⟨W, hW, Nu, Np, Nz, K0⟩ := newh3 w [.slice a u.length cap] [.int .i64 (i : Int), .int .i64 (j : Int)] [.string ⟨#[]⟩, .bool false, .bool false, .bool false, .slice none 0 0, .int .i64 0, .int .i64 0, .int .i64 0, .string ⟨#[]⟩, .slice none 0 0, .slice none 0 0] 24 26 50
 clear hu
 obtain ⟨xu0, lu⟩ := xc1 Nu
 obtain ⟨xp0, xp1, lp⟩ := xc2 Np
 go_enter Try.func60, Try.ntmps60
 try simp only [List.append_eq, List.cons_append, List.nil_append]
 obtain ⟨ub, uo, hA, hub, hc⟩ := (HU.out.below K0.out hB).at_ (by omega)
 have hdd := (HU.out.below K0.out hB).decls d (List.mem_of_getElem? hd)
 have smm := hdd.smallM
 have u7 := hc i d hd 7 _ rfl
 obtain ⟨mb, mo, hmA, hmb, hc2⟩ := hdd.meth (by omega)
 have m0 := hc2 j m hm 0 _ rfl
 have m1 := hc2 j m hm 1 _ rfl
 have m2 := hc2 j m hm 2 _ rfl
 have m3 := hc2 j m hm 3 _ rfl
 have m4 := hc2 j m hm 4 _ rfl
 have m5 := hc2 j m hm 5 _ rfl
 have m6 := hc2 j m hm 6 _ rfl
 have m7 := hc2 j m hm 7 _ rfl
 have m8 := hc2 j m hm 8 _ rfl
 have m9 := hc2 j m hm 9 _ rfl
 have m10 := hc2 j m hm 10 _ rfl
 simp only [Nat.add_zero] at m0
 rw [hA] at xu0
 rw [hmA] at u7
 have lub : ub < W.heap.size := Nat.lt_of_lt_of_le hub (Nat.le_trans hB (K0.out).size)
 have lmb : mb < W.heap.size := Nat.lt_of_lt_of_le hmb (Nat.le_trans hB (K0.out).size)
 have hi1 : (i : Int) < (u.length : Int) := by omega
 have hj1 : (j : Int) < (d.ms.length : Int) := by omega
 have HA := Aid.hid hA
 rw [HA.out] at hW ⊢
 clear hc hc2 hdd hmA hm hd hA
 go_wp2_with fail
 (try clear hW)
 have HZ := Aid.hid (fun (w' : World) (hSw : Below W.heap.size W w') => (⟨kc hSw xu0 lu, kc hSw xp0 lp, kc hSw xp1 lp, kc hSw u7 lub, kc hSw m0 lmb, kc hSw m1 lmb, kc hSw m2 lmb, kc hSw m3 lmb, kc hSw m4 lmb, kc hSw m5 lmb, kc hSw m6 lmb, kc hSw m7 lmb, kc hSw m8 lmb, kc hSw m9 lmb, kc hSw m10 lmb⟩ : _ ∧ _ ∧ _ ∧ _ ∧ _ ∧ _ ∧ _ ∧ _ ∧ _ ∧ _ ∧ _ ∧ _ ∧ _ ∧ _ ∧ _))
 have hb : Below W.heap.size W W.drew := (Below.refl _ _).drew
 refine Ord.wp_region_walk (fun w' => Below W.heap.size W w') 11 [(true, 0), (true, 1), (true, 2), (true, 3), (true, 4), (true, 5), (true, 6), (true, 7), (true, 8), (true, 9), (true, 10)] (by kernel_rfl) (by kernel_rfl) (fun _ _ d _ _ h => by cases d <;> exact h) (hb) ?_
 clear hb
 have hb : Below W.heap.size W W.drew := (Below.refl _ _).drew
 generalize W.drew = wd0 at *
 iterate 11
  apply Ord.walk_light
  next => (simp only [la0, la1, la2]; rfl)
  next => rfl
  next => (intro w' hSw; have z := HZ.out w' hSw; clear hSw; go_simp; first | done | with_reducible rfl)
  simp only [Act.put, la3, la4, la5]
 refine Ord.walk_tail ?_; simp only [List.drop_succ_cons, List.drop_zero]
 have hbx := hb
 clear hb HZ
 have Kx1 := kb K0 hbx
 have Nu_1 := nb hbx Nu
 have Np_1 := nb hbx Np
 have Nz_1 := nb hbx Nz
 clear xu0 lu xp0 xp1 lp u7 lub m0 m1 m2 m3 m4 m5 m6 m7 m8 m9 m10 lmb
 clear hbx
 go_wp2_with (refine wpList_store_row rfl 50 _ _ rfl (w.heap.size + 1 + 1) _ rfl rfl 50 _ (Nz_1.out) (by kernel_rfl) rfl (by simp [Value.oneCell']) ?_)
 refine bodyPost_ret (v := _) (results_cell_row rfl _ _ (w.heap.size + 1 + 1) 50 _ (0, 0) _ rfl (row_has (Nz_1.out)) Try.underlying50 rfl (by kernel_rfl)) rfl ⟨rfl, row_below (Kx1.out) (by omega) _⟩
theorem Rows.tyr_ {w : World} {B : Nat} {A : Option Addr} {ts : List Ty} (h : Rows w B 4 A (ts.map Ty.cells)) (hn : 0 < ts.length) :
  ∃ b off, A = some ⟨b, off, none⟩ ∧ b < B ∧ ∀ (i : Nat) (v : Ty), ts[i]? = some v → ∀ j x, v.cells[j]? = some x → w.cell? ⟨b, off + i * 4 + j, none⟩ = some x := by
 obtain ⟨b, off, h1, h2, h3⟩ := h (by simpa using hn)
 exact ⟨b, off, h1, h2, fun i v hv j x hx => h3 i v.cells (by simp [hv]) j x hx⟩
theorem Rf.fits_len (u : List Dk) : ∀ (ps : List Vd) (ts : List Ty), ts.length ≠ ps.length → Ty.fitsAll u ps ts = false
 | [], [], h => absurd rfl h
 | [], _ :: _, _ => rfl
 | _ :: _, [], _ => rfl
 | v :: ps, t :: ts, h => by rw [Ty.fitsAll, Rf.fits_len u ps ts (fun e => h (by simp [e]))]; simp
theorem Rf.fits_drop (u : List Dk) {ps : List Vd} {ts : List Ty} {k : Nat} {v : Vd} {t : Ty} (hv : ps[k]? = some v) (ht : ts[k]? = some t) : Ty.fitsAll u (ps.drop k) (ts.drop k) = (Ty.fits u v.ty t && Ty.fitsAll u (ps.drop (k + 1)) (ts.drop (k + 1))) := by
 obtain ⟨h1, h2⟩ := List.getElem?_eq_some_iff.1 hv
 obtain ⟨h3, h4⟩ := List.getElem?_eq_some_iff.1 ht
 rw [List.drop_eq_getElem_cons h1, List.drop_eq_getElem_cons h3, h2, h4]; rfl
theorem Rf.all_len {rs : List Rs} {ts : List Ty} {c : Int} (h : Rf.all rs = (ts, c)) : ts.length ≤ rs.length := by
 unfold Rf.all at h
 cases hb : Ty.bad rs with
 | some q => rw [hb] at h; obtain ⟨rfl, _⟩ := Prod.mk.inj h; simp
 | none => rw [hb] at h; obtain ⟨rfl, _⟩ := Prod.mk.inj h; simp
set_option maxRecDepth 100000 in
set_option maxHeartbeats 20000000 in
theorem rinvoke_is (f : Nat) (u : List Dk) (a : Option Addr) (B cap : Nat) (x y : Int) (p : Pl) (e : Ex) (t : Ty) (c : Int) (w : World) (hr : Ty.inv p e = (t, c)) (hp : Pl.at u x y = some p) (hl : ULim u) (hX : ∀ q ∈ e.args, RExOK f u a B cap x y p q) (hu : UnitAt w B a u) (hB : B ≤ w.heap.size) (he : ExsAt (f + 1) w B e.A e.args) (hlim : e.args.length ≤ 1000000000) :
  Calls Try.prog 33 #[.agg #[.slice a u.length cap], .agg #[.int .i64 x, .int .i64 y], .agg #[.int .i64 e.k, .int .i64 e.n, .string e.name, .string e.what, .slice e.A e.args.length e.c]] w fun z w' => z = .returned (.tuple #[.agg #[.int .i64 t.k, .int .i64 t.lo, .int .i64 t.hi, .string t.name], .int .i64 c]) ∧ Below w.heap.size w w' := by
 have HU := Aid.hid hu; have HUL := Aid.hid hl; have HPP := Aid.hid hp; have HX := Aid.hid hX; have HE := Aid.hid he
 have HPU := Aid.hid (Pl.at_u hp)
 obtain ⟨⟨d0, c0⟩, hw0⟩ : ∃ r, Rf.who p e.n e.name = r := ⟨_, rfl⟩
 have HW0 := Aid.hid hw0
 have HI : Rf.invoke p e.n e.name e.what (e.args.map (Rf.expr p)) = (t, c) := by rw [Rf.inv_eq]; exact hr
 obtain ⟨W, hW, Nu, Np, Ne, Nz, K0⟩ := newh4 w [.slice a u.length cap] [.int .i64 x, .int .i64 y] [.int .i64 e.k, .int .i64 e.n, .string e.name, .string e.what, .slice e.A e.args.length e.c] [.int .i64 0, .int .i64 0, .int .i64 0, .string ⟨#[]⟩] 24 26 29 36
 have HR := Aid.hid HI
 clear hu hl hp hX he hw0 hr HI
 obtain ⟨xu0, lu⟩ := xc1 Nu
 obtain ⟨xp0, xp1, lp⟩ := xc2 Np
 obtain ⟨xe0, xe1, xe2, xe3, xe4, le⟩ := xc5 Ne
 go_enter Try.func33, Try.ntmps33
 try simp only [List.append_eq, List.cons_append, List.nil_append]
 go_wp2_with fail
 (try clear hW)
 refine (rwho_is u a B cap x y p e d0 c0 _ HW0.out HPP.out HUL.out (HU.out.below (K0.out) hB) (Nat.le_trans hB (K0.out).size)).mono ?_; rintro _ w1 ⟨rfl, hb1⟩
 have Kx1 := kb K0 hb1
 have Nu_1 := nb hb1 Nu
 have Np_1 := nb hb1 Np
 have Ne_1 := nb hb1 Ne
 have Nz_1 := nb hb1 Nz
 clear xu0 lu xp0 xp1 lp xe0 xe1 xe2 xe3 xe4 le
 clear hb1
 obtain ⟨xu0, lu⟩ := xc1 Nu_1
 obtain ⟨xe0, xe1, xe2, xe3, xe4, le⟩ := xc5 Ne_1
 by_cases hc0 : c0 = 0
 ·
  subst hc0
  have HWH : Hid (Ty.whose p e.n e.name = (d0, 0)) := Aid.hid (by
   have h := HW0.out
   unfold Rf.who at h
   have h2 : (Ty.whose p e.n e.name).2 = 0 := (Prod.mk.inj h).2
   have h1 := (Prod.mk.inj h).1
   rw [if_pos h2] at h1
   rw [← h1, ← h2])
  obtain ⟨⟨RD, RM, RK⟩, hm0⟩ : ∃ r, Tb.method u d0 e.what = r := ⟨_, rfl⟩
  have HM := Aid.hid hm0
  clear hm0
  go_wp2_with fail
  refine (rmethod_is u a B cap d0 e.what RD RM RK _ HM.out (HU.out.below (Kx1.out) hB) (Nat.le_trans hB (Kx1.out).size)).mono ?_; rintro _ w2 ⟨rfl, hb2⟩
  have Kx2 := kb Kx1 hb2
  have Nu_2 := nb hb2 Nu_1
  have Np_2 := nb hb2 Np_1
  have Ne_2 := nb hb2 Ne_1
  have Nz_2 := nb hb2 Nz_1
  clear xu0 lu xe0 xe1 xe2 xe3 xe4 le
  clear hb2
  obtain ⟨X3, hX⟩ : ∃ X, w2.alloc (.cells #[.int .i64 RD, .int .i64 RM] 26) = X := ⟨_, rfl⟩
  have Nu_3 := na hX Nu_2
  have Np_3 := na hX Np_2
  have Ne_3 := na hX Ne_2
  have Nz_3 := na hX Nz_2
  have Nwm_3 := nw hX
  have Kx3 := nk hX Kx2
  have Qs3 := nq hX
  obtain ⟨xu0, lu⟩ := xc1 Nu_3
  obtain ⟨xwm0, xwm1, lwm⟩ := xc2 Nwm_3
  cases RK
  ·
   obtain ⟨rfl, rfl⟩ : Ty.none_ = t ∧ 15 = c := by have h := HR.out; simp only [Rf.invoke, HWH.out, HPU.out, HM.out] at h; simpa using h
   go_wp2_with (refine stT Nz_3 rfl rfl rfl rfl rfl rfl (by simp [Value.oneCell']) ?_)
   refine rtT Nz_3 rfl rfl rfl rfl rfl ⟨rfl, row_below (Kx3.out) (by omega) _⟩
  ·
   obtain ⟨i, j, xd, m, rfl, rfl, hx, hmj, hmt⟩ := Tb.method_at HM.out
   have HR2 : Hid (Rf.call p e.n m (e.args.map (Rf.expr p)) = (t, c)) := Aid.hid (by have h := HR.out; simp only [Rf.invoke, HWH.out, HPU.out, HM.out] at h; rw [hmt] at h; simpa using h)
   have HXD := Aid.hid hx; have HMJ := Aid.hid hmj
   clear hx hmj hmt HR
   go_wp2_with fail
   (try clear hX)
   refine (rof_is u a B cap i j xd m _ HXD.out HMJ.out (HU.out.below (Kx3.out) hB) (Nat.le_trans hB (Kx3.out).size)).mono ?_; rintro _ w4 ⟨rfl, hb4⟩
   have Kx4 := kb Kx3 hb4
   have Nu_4 := nb hb4 Nu_3
   have Np_4 := nb hb4 Np_3
   have Ne_4 := nb hb4 Ne_3
   have Nz_4 := nb hb4 Nz_3
   have Nwm_4 := nb hb4 Nwm_3
   clear xu0 lu xwm0 xwm1 lwm
   clear hb4
   have HMD := Aid.hid (((HU.out.below Kx4.out hB).decls xd (List.mem_of_getElem? HXD.out)).each m (List.mem_of_getElem? HMJ.out))
   obtain ⟨X5, hX⟩ : ∃ X, w4.alloc (.cells #[.string m.name, .bool m.over, .bool m.abs, .bool m.fin, .slice m.pA m.ps.length m.pc, .int .i64 m.res.k, .int .i64 m.res.lo, .int .i64 m.res.hi, .string m.res.name, .slice m.vA m.vs.length m.vc, .slice m.bA m.body.length m.bc] 50) = X := ⟨_, rfl⟩
   have Nu_5 := na hX Nu_4
   have Np_5 := na hX Np_4
   have Ne_5 := na hX Ne_4
   have Nz_5 := na hX Nz_4
   have Nwm_5 := na hX Nwm_4
   have Nm_5 := nw hX
   have Kx5 := nk hX Kx4
   have Qs5 := nq hX
   have xe1 := Ne_5.out.cell 1 _ rfl
   have le := Ne_5.out.lt
   have xm2 := Nm_5.out.cell 2 _ rfl
   have lm := Nm_5.out.lt
   obtain ⟨ab, hab⟩ : ∃ q, m.abs = q := ⟨_, rfl⟩
   have HAB := Aid.hid hab
   rw [hab] at xm2
   clear hab
   by_cases hbad : e.n = 2 ∧ ab = true
   ·
    obtain ⟨hb2, rfl⟩ := hbad
    have q2 : (e.n == 2) = true := by simp [hb2]
    obtain ⟨rfl, rfl⟩ : Ty.none_ = t ∧ 15 = c := by have h := HR2.out; rw [Rf.call, if_pos ⟨hb2, HAB.out⟩] at h; simpa using h
    clear hb2
    go_wp2_with (refine stT Nz_5 rfl rfl rfl rfl rfl rfl (by simp [Value.oneCell']) ?_)
    refine rtT Nz_5 rfl rfl rfl rfl rfl ⟨rfl, row_below (Kx5.out) (by omega) _⟩
   ·
    have HR3 : Hid ((if (Rf.all (e.args.map (Rf.expr p))).2 ≠ 0 then (Ty.none_, (Rf.all (e.args.map (Rf.expr p))).2) else if Ty.fitsAll p.u m.ps (Rf.all (e.args.map (Rf.expr p))).1 = true then (m.res, 0) else (Ty.none_, 15)) = (t, c)) := Aid.hid (by have h := HR2.out; rwa [Rf.call, if_neg (fun h => hbad ⟨h.1, HAB.out.symm.trans h.2⟩)] at h)
    have hcase : ((e.n == 2) = true ∧ ab = false) ∨ ((e.n == 2) = false) := by
     by_cases h2 : e.n = 2
     ·
      left; refine ⟨by simp [h2], ?_⟩; cases hh : ab
      ·
       rfl
      ·
       exact absurd ⟨h2, hh⟩ hbad
     ·
      right; simpa using h2
    obtain ⟨⟨ts, c1⟩, ha⟩ : ∃ r, Rf.all (e.args.map (Rf.expr p)) = r := ⟨_, rfl⟩
    rw [ha] at HR3
    have HAL := Aid.hid ha
    clear ha hbad HR2
    obtain ⟨xu0, lu⟩ := xc1 Nu_5
    obtain ⟨xp0, xp1, lp⟩ := xc2 Np_5
    have xe0 := Ne_5.out.cell 0 _ rfl
    have xe2 := Ne_5.out.cell 2 _ rfl
    have xe3 := Ne_5.out.cell 3 _ rfl
    have xe4 := Ne_5.out.cell 4 _ rfl
    rcases hcase with ⟨q2, rfl⟩ | q2
    all_goals
     go_wp2_with fail
     (try clear hX)
     clear q2
     refine (rall_is f u a B cap x y p e.args e.A e.c ts c1 _ HAL.out HX.out (HU.out.below (Kx5.out) hB) (Nat.le_trans hB (Kx5.out).size) (HE.out.below (Kx5.out) hB) hlim).mono ?_; rintro _ w9 ⟨A9, c9, rfl, rw9, hb9⟩
     have HRW := Aid.hid rw9
     have HMD9 := Aid.hid (HMD.out.below (Qs5.out.trans (hb9.mono Qs5.out.size)) (Nat.le_trans hB (Kx4.out).size))
     clear rw9
     have Kx6 := kb Kx5 hb9
     have Nu_6 := nb hb9 Nu_5
     have Np_6 := nb hb9 Np_5
     have Ne_6 := nb hb9 Ne_5
     have Nz_6 := nb hb9 Nz_5
     have Nwm_6 := nb hb9 Nwm_5
     have Nm_6 := nb hb9 Nm_5
     clear xe1 le xm2 lm xu0 lu xp0 xp1 lp xe0 xe2 xe3 xe4
     clear hb9
     have xm4 := Nm_6.out.cell 4 _ rfl
     have lm := Nm_6.out.lt
     by_cases hc1 : c1 = 0
     ·
      subst hc1
      have HR4 : Hid ((if Ty.fitsAll u m.ps ts = true then (m.res, 0) else (Ty.none_, 15)) = (t, c)) := Aid.hid (by have h := HR3.out; rw [HPU.out] at h; simpa using h)
      have smp := HMD9.out.smallP
      have lts : ts.length ≤ 1000000000 := Nat.le_trans (Rf.all_len HAL.out) (by simpa using hlim)
      clear HR3
      by_cases hln : ts.length = m.ps.length
      ·
       have hn2 : ((ts.length : Int) != (m.ps.length : Int)) = false := by simp [hln]
       go_wp2_with fail
       clear xm4 lm
       go_loopw [14] (fun vi wr => ∃ k : Nat, vi = .int .i64 k ∧ k ≤ ts.length ∧ Hid (Ty.fitsAll u (m.ps.drop k) (ts.drop k) = Ty.fitsAll u m.ps ts) ∧ Hid (Below w9.heap.size w9 wr)) (fun vi _ => ts.length - (intOf vi).toNat)
       case atStart => exact ⟨0, rfl, Nat.zero_le _, Aid.hid rfl, Aid.hid (Below.refl _ _)⟩
       case round =>
        obtain ⟨k, rfl, hk, HK, HB⟩ := hrel
        have Kr := Aid.hid ((Kx6.out).trans (HB.out.mono (Kx6.out).size))
        have Mu := Aid.hid (Nu_6.out.below HB.out Nu_6.out.lt)
        have Mp := Aid.hid (Np_6.out.below HB.out Np_6.out.lt)
        have Me := Aid.hid (Ne_6.out.below HB.out Ne_6.out.lt)
        have Mz := Aid.hid (Nz_6.out.below HB.out Nz_6.out.lt)
        have Mwm := Aid.hid (Nwm_6.out.below HB.out Nwm_6.out.lt)
        have Mm := Aid.hid (Nm_6.out.below HB.out Nm_6.out.lt)
        by_cases hkl : k < ts.length
        ·
         obtain ⟨v, hv⟩ : ∃ v, m.ps[k]? = some v := ⟨_, List.getElem?_eq_getElem (by omega)⟩
         obtain ⟨t1, ht1⟩ : ∃ t1, ts[k]? = some t1 := ⟨_, List.getElem?_eq_getElem hkl⟩
         obtain ⟨vb, vo, hvA, hvb, hvc⟩ := (HMD9.out.params.below HB.out (Nat.le_trans hB Kx6.out.size)).vdr_ (by omega)
         obtain ⟨tb, to, hA9, htb, htc⟩ := (HRW.out.below HB.out (Nat.le_refl _)).tyr_ (by omega)
         have c1 := hvc k v hv 1 _ rfl
         have c2 := hvc k v hv 2 _ rfl
         have c3 := hvc k v hv 3 _ rfl
         have c4 := hvc k v hv 4 _ rfl
         have d0 := htc k t1 ht1 0 _ rfl
         have d1 := htc k t1 ht1 1 _ rfl
         have d2 := htc k t1 ht1 2 _ rfl
         have d3 := htc k t1 ht1 3 _ rfl
         simp only [Nat.add_zero] at d0
         have lvb : vb < wr.heap.size := Nat.lt_of_lt_of_le hvb (Nat.le_trans hB Kr.out.size)
         have ltb : tb < wr.heap.size := Nat.lt_of_lt_of_le htb HB.out.size
         have hki : (k : Int) < (m.ps.length : Int) := by omega
         have hkj : (k : Int) < (ts.length : Int) := by omega
         obtain ⟨fr, hfr⟩ : ∃ q, Ty.fits u v.ty t1 = q := ⟨_, rfl⟩
         have HF := Aid.hid hfr
         have HK2 := Aid.hid ((Rf.fits_drop u hv ht1).symm.trans HK.out)
         subst hA9
         clear hv ht1 hvc htc hfr
         obtain ⟨xu0, lu⟩ := xc1 Mu
         have xm4 := Mm.out.cell 4 _ rfl
         have lm := Mm.out.lt
         rw [hvA] at xm4
         have HVA := Aid.hid hvA
         clear hvA
         go_wp2_with fail
         have HZ := Aid.hid (fun (w' : World) (hSw : Below wr.heap.size wr w') => (⟨kc hSw xu0 lu, kc hSw xm4 lm, kc hSw c1 lvb, kc hSw c2 lvb, kc hSw c3 lvb, kc hSw c4 lvb, kc hSw d0 ltb, kc hSw d1 ltb, kc hSw d2 ltb, kc hSw d3 ltb⟩ : _ ∧ _ ∧ _ ∧ _ ∧ _ ∧ _ ∧ _ ∧ _ ∧ _ ∧ _))
         have hb : Below wr.heap.size wr wr.drew := (Below.refl _ _).drew
         refine Ord.wp_region_walk (fun w' => Below wr.heap.size wr w') 12 [(true, 0), (true, 1), (true, 2), (true, 3), (true, 4), (true, 5), (true, 6), (true, 7), (true, 8), (true, 9), (true, 10), (false, 11)] (by kernel_rfl) (by kernel_rfl) (fun _ _ d _ _ h => by cases d <;> exact h) (hb) ?_
         clear hb
         have hb : Below wr.heap.size wr wr.drew := (Below.refl _ _).drew
         generalize wr.drew = wd6 at *
         iterate 11
          apply Ord.walk_light
          next => (simp only [la0, la1, la2]; rfl)
          next => rfl
          next => (intro w' hSw; have z := HZ.out w' hSw; clear hSw; go_simp; first | done | with_reducible rfl)
          simp only [Act.put, la3, la4, la5]
         apply Ord.walk_heavy
         next => (simp only [la0, la1, la2]; rfl)
         next => rfl
         intro K hK
         go_wp2_with fail
         refine (rfits_is u _ B cap v.ty t1 fr _ HF.out (HU.out.below (((Kr.out).trans (hb.mono (Kr.out).size))) hB) (Nat.le_trans hB (((Kr.out).trans (hb.mono (Kr.out).size))).size)).mono ?_; rintro _ v6_1 ⟨rfl, hb'⟩; dsimp only
         refine hK.out _ _ (hb.trans (hb'.mono hb.size)) (fun hHeld => ?_)
         clear hb hb'
         have hb := hHeld
         clear hK K
         try simp only [Act.put, la3, la4, la5]
         refine Ord.walk_tail ?_; simp only [List.drop_succ_cons, List.drop_zero]
         have hbx := hb
         clear hb HZ
         have Kx7 := kb Kr hbx
         have Mu_7 := nb hbx Mu
         have Mp_7 := nb hbx Mp
         have Me_7 := nb hbx Me
         have Mz_7 := nb hbx Mz
         have Mwm_7 := nb hbx Mwm
         have Mm_7 := nb hbx Mm
         clear xu0 lu xm4 lm c1 c2 c3 c4 d0 d1 d2 d3 lvb ltb
         clear hbx
         cases fr
         ·
          obtain ⟨rfl, rfl⟩ : Ty.none_ = t ∧ 15 = c := by
           have h := HR4.out
           have h2 := HK2.out
           rw [HF.out, Bool.false_and] at h2
           rw [← h2] at h
           simpa using h
          go_wp2_with (refine stT Mz_7 rfl rfl rfl rfl rfl rfl (by simp [Value.oneCell']) ?_)
          refine rtT Mz_7 rfl rfl rfl rfl rfl ⟨rfl, row_below (Kx7.out) (by omega) _⟩
         ·
          have NX : Hid (Ty.fitsAll u (m.ps.drop (k + 1)) (ts.drop (k + 1)) = Ty.fitsAll u m.ps ts) := Aid.hid (by have h2 := HK2.out; rwa [HF.out, Bool.true_and] at h2)
          have HB9 := Aid.hid (HB.out.trans (hHeld.mono HB.out.size))
          go_wp2_with fail
          go_roundw
          case rel => exact ⟨k + 1, by go_num, by omega, NX, HB9⟩
          case measure => simp [intOf]; omega
        ·
         have HT : Hid (Ty.fitsAll u m.ps ts = true) := Aid.hid (by rw [← HK.out, List.drop_eq_nil_of_le (by omega), List.drop_eq_nil_of_le (by omega)]; rfl)
         obtain ⟨rfl, rfl⟩ : m.res = t ∧ 0 = c := by have h := HR4.out; rw [if_pos HT.out] at h; simpa using h
         have xm5 := Mm.out.cell 5 _ rfl
         have xm6 := Mm.out.cell 6 _ rfl
         have xm7 := Mm.out.cell 7 _ rfl
         have xm8 := Mm.out.cell 8 _ rfl
         have lm := Mm.out.lt
         go_wp2_with (refine stT Mz rfl rfl rfl rfl rfl rfl (by simp [Value.oneCell']) ?_)
         refine rtT Mz rfl rfl rfl rfl rfl ⟨rfl, row_below (Kr.out) (by omega) _⟩
      ·
       have hn2 : ((ts.length : Int) != (m.ps.length : Int)) = true := by simp; omega
       obtain ⟨rfl, rfl⟩ : Ty.none_ = t ∧ 15 = c := by have h := HR4.out; rw [Rf.fits_len u m.ps ts hln] at h; simpa using h
       go_wp2_with (refine stT Nz_6 rfl rfl rfl rfl rfl rfl (by simp [Value.oneCell']) ?_)
       refine rtT Nz_6 rfl rfl rfl rfl rfl ⟨rfl, row_below (Kx6.out) (by omega) _⟩
     ·
      have hc2 : (c1 != 0) = true := by simpa using hc1
      obtain ⟨rfl, rfl⟩ : Ty.none_ = t ∧ c1 = c := by have h := HR3.out; simpa [hc1] using h
      go_wp2_with (refine stT Nz_6 rfl rfl rfl rfl rfl rfl (by simp [Value.oneCell']) ?_)
      refine rtT Nz_6 rfl rfl rfl rfl rfl ⟨rfl, row_below (Kx6.out) (by omega) _⟩
 ·
  have hc2 : (c0 != 0) = true := by simpa using hc0
  obtain ⟨rfl, rfl⟩ : Ty.none_ = t ∧ c0 = c := by
   have h := HR.out
   have h2 : (Ty.whose p e.n e.name).2 = c0 := (Prod.mk.inj HW0.out).2
   rw [Rf.invoke, h2, if_pos hc0] at h
   simpa using h
  go_wp2_with (refine stT Nz_1 rfl rfl rfl rfl rfl rfl (by simp [Value.oneCell']) ?_)
  refine rtT Nz_1 rfl rfl rfl rfl rfl ⟨rfl, row_below (Kx1.out) (by omega) _⟩
end Go.Proofs.Ytmhdcehpddbjaaa
