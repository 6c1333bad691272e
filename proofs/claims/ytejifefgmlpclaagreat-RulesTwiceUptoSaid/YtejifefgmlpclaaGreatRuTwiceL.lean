/- A declaration of a unit once more, behind all others: what is told of the others is as it was. In plain Lean. -/
import Derived.Test.YtejifefgmlpclaaGreatRuSpec
set_option linter.unusedSimpArgs false
set_option linter.unusedVariables false
namespace Go.Proofs.YtejifefgmlpclaaGreat
open Go.RowKit

section
variable {u : List Dk} {e : Dk}
theorem Tb.find_dup (h : e ∈ u) (s : ByteArray) : Tb.find (u ++ [e]) s = Tb.find u s := by
  unfold Tb.find
  rw [List.findIdx?_append]
  cases hc : List.findIdx? (fun d => d.name.toList == s.toList) u with
  | some i => simp
  | none =>
    rw [List.findIdx?_eq_none_iff] at hc
    have := hc e h
    simp [this]
theorem Tb.at_dup {i : Nat} (h : i < u.length) : (u ++ [e])[i]? = u[i]? := List.getElem?_append_left h
theorem Tb.kind_dup {d : Int} (h : d < u.length) : Tb.kind (u ++ [e]) d = Tb.kind u d := by
  unfold Tb.kind
  by_cases h0 : 0 ≤ d
  · rw [if_pos h0, if_pos h0, Tb.at_dup (by omega)]
  · rw [if_neg h0, if_neg h0]
theorem Tb.chainGo_dup (hf : e ∈ u) : ∀ (f : Nat) (l : List Int) (c : Int), c < u.length → Tb.chainGo (u ++ [e]) f l c = Tb.chainGo u f l c
  | 0, _, _, _ => rfl
  | f + 1, l, c, hc => by
    unfold Tb.chainGo
    rw [Tb.kind_dup hc]
    by_cases h : Tb.kind u c = 2 ∧ c ∉ l
    · rw [if_pos h, if_pos h]
      obtain ⟨i, x, rfl, hx, _, hi⟩ := Tb.kind_in h.1 (by decide)
      have hb : Tb.base (u ++ [e]) i = Tb.base u i := by unfold Tb.base; rw [Tb.at_dup (by simpa using hi)]
      rw [hb, Tb.find_dup hf]
      exact Tb.chainGo_dup hf f _ _ (Tb.find_range u _).2
    · rw [if_neg h, if_neg h]
theorem Tb.chainGo_fuel2 {d : Int} : ∀ (f : Nat) (l : List Int) (c : Int), Tb.ChainAt u d l c → u.length - l.length < f → Tb.chainGo u f l c = Tb.chain u d
  | 0, _, _, _, h => absurd h (Nat.not_lt_zero _)
  | f + 1, l, c, hA, h => by
    unfold Tb.chainGo
    by_cases hs : Tb.kind u c = 2 ∧ c ∉ l
    · rw [if_pos hs]
      have hn := hA.next hs.1 hs.2
      have h1 := hn.len
      simp at h1
      exact Tb.chainGo_fuel2 f _ _ hn (by simp; omega)
    · rw [if_neg hs]; exact hA.stop hs
theorem Tb.chain_dup (hf : e ∈ u) {d : Int} (hd : d < u.length) : Tb.chain (u ++ [e]) d = Tb.chain u d := by
  show Tb.chainGo (u ++ [e]) ((u ++ [e]).length + 1) [] d = _
  rw [Tb.chainGo_dup hf _ _ _ hd]
  exact Tb.chainGo_fuel2 _ _ _ (Tb.ChainAt.start u d) (by simp; omega)
theorem Tb.foldl_eq {α β : Type} {f g : β → α → β} : ∀ (l : List α) (b : β), (∀ a ∈ l, ∀ b, f b a = g b a) → l.foldl f b = l.foldl g b
  | [], _, _ => rfl
  | a :: l, b, h => by
    rw [List.foldl_cons, List.foldl_cons, h a (by simp)]
    exact Tb.foldl_eq l _ fun x hx => h x (by simp [hx])
theorem Tb.addFace_dup (hf : e ∈ u) (s : ByteArray) (l : List Int) : Tb.addFace (u ++ [e]) l s = Tb.addFace u l s := by
  unfold Tb.addFace
  rw [Tb.find_dup hf, Tb.kind_dup (Tb.find_range u s).2]
theorem Tb.faces_dup (hf : e ∈ u) {d : Int} (hd : d < u.length) : Tb.faces (u ++ [e]) d = Tb.faces u d := by
  unfold Tb.faces
  rw [Tb.chain_dup hf hd]
  refine Tb.foldl_eq _ _ fun c hc l => ?_
  obtain ⟨h0, h1, _⟩ := Tb.chain_in u d c hc
  have e1 : Tb.facesOf (u ++ [e]) c = Tb.facesOf u c := by unfold Tb.facesOf; rw [Tb.at_dup (by omega)]
  rw [e1]
  exact Tb.foldl_eq _ _ fun s _ l => Tb.addFace_dup hf s l
theorem Tb.varsOf_dup {c : Int} (h0 : 0 ≤ c) (h : c < u.length) : Tb.varsOf (u ++ [e]) c = Tb.varsOf u c := by
  unfold Tb.varsOf; rw [Tb.at_dup (by omega)]
theorem Tb.msOf_dup {c : Int} (h : c.toNat < u.length) : Tb.msOf (u ++ [e]) c = Tb.msOf u c := by
  unfold Tb.msOf; rw [Tb.at_dup h]
theorem Tb.fields_dup (hf : e ∈ u) {d : Int} (hd : d < u.length) : Tb.fields (u ++ [e]) d = Tb.fields u d := by
  unfold Tb.fields
  rw [Tb.kind_dup hd, Tb.chain_dup hf hd]
  by_cases h2 : Tb.kind u d = 2
  · rw [if_pos h2, if_pos h2]
    congr 1
    refine List.map_congr_left fun c hc => ?_
    obtain ⟨h0, h1, _⟩ := Tb.chain_in u d c (by simpa using hc)
    exact Tb.varsOf_dup h0 h1
  · rw [if_neg h2, if_neg h2]
    by_cases h3 : Tb.kind u d = 3
    · rw [if_pos h3, if_pos h3]
      obtain ⟨i, x, rfl, _, _, hi⟩ := Tb.kind_in h3 (by decide)
      exact Tb.varsOf_dup (by omega) (by omega)
    · rw [if_neg h3, if_neg h3]
theorem Tb.is_dup (hf : e ∈ u) (a b : ByteArray) : Tb.is (u ++ [e]) a b = Tb.is u a b := by
  unfold Tb.is
  have h := (Tb.find_range u a).2
  rw [Tb.find_dup hf, Tb.find_dup hf, Tb.kind_dup h, Tb.chain_dup hf h, Tb.faces_dup hf h]
theorem Tb.methodIn_dup {s : ByteArray} : ∀ zs : List Int, (∀ z ∈ zs, 0 ≤ z ∧ z < u.length) → Tb.methodIn (u ++ [e]) s zs = Tb.methodIn u s zs
  | [], _ => rfl
  | c :: cs, h => by
    obtain ⟨h0, h1⟩ := h c (by simp)
    unfold Tb.methodIn
    rw [Tb.msOf_dup (by omega), Tb.methodIn_dup cs fun z hz => h z (by simp [hz])]
theorem Tb.method_dup (hf : e ∈ u) {d : Int} {s : ByteArray} (hd : d < u.length) : Tb.method (u ++ [e]) d s = Tb.method u d s := by
  unfold Tb.method
  rw [Tb.kind_dup hd, Tb.chain_dup hf hd]
  refine Tb.methodIn_dup _ fun z hz => ?_
  split at hz
  · rename_i h1
    obtain ⟨i, x, rfl, _, _, hi⟩ := Tb.kind_in h1 (by decide)
    have : z = i := by simpa using hz
    omega
  · obtain ⟨h0, h1, _⟩ := Tb.chain_in u d z hz
    exact ⟨h0, h1⟩
theorem Ru.kind_dup (hf : e ∈ u) (s : ByteArray) : Ru.kind (u ++ [e]) s = Ru.kind u s := by
  unfold Ru.kind; rw [Tb.find_dup hf, Tb.kind_dup (Tb.find_range u s).2]
theorem Tb.typed_dup (hf : e ∈ u) (s : ByteArray) : Tb.typed (u ++ [e]) s = Tb.typed u s := by
  unfold Tb.typed; rw [Tb.find_dup hf, Tb.kind_dup (Tb.find_range u s).2]
theorem Ty.fits_dup (hf : e ∈ u) (a b : Ty) : Ty.fits (u ++ [e]) a b = Ty.fits u a b := by
  unfold Ty.fits; rw [Tb.is_dup hf]
theorem Ty.fitsAll_dup (hf : e ∈ u) : ∀ (vs : List Vd) (ts : List Ty), Ty.fitsAll (u ++ [e]) vs ts = Ty.fitsAll u vs ts
  | [], [] => rfl
  | [], _ :: _ => rfl
  | _ :: _, [] => rfl
  | v :: vs, t :: ts => by rw [Ty.fitsAll, Ty.fitsAll, Ty.fits_dup hf, Ty.fitsAll_dup hf vs ts]
theorem Tb.methodIn_in {s : ByteArray} : ∀ zs : List Int, (Tb.methodIn u s zs).2.2 = true → (Tb.methodIn u s zs).1 ∈ zs
  | [], h => by rw [Tb.methodIn] at h; cases h
  | c :: cs, h => by
    rw [Tb.methodIn] at h ⊢
    by_cases hc : 0 ≤ Tb.mindex (Tb.msOf u c) s
    · rw [if_pos hc]; simp
    · rw [if_neg hc] at h ⊢; exact List.mem_cons_of_mem _ (Tb.methodIn_in cs h)
theorem Tb.method_in {d : Int} {s : ByteArray} (hd : d < u.length) (h : (Tb.method u d s).2.2 = true) : 0 ≤ (Tb.method u d s).1 ∧ (Tb.method u d s).1 < u.length := by
  unfold Tb.method at h ⊢
  have hm := Tb.methodIn_in _ h
  split at hm
  · rename_i h1
    obtain ⟨i, x, rfl, _, _, hi⟩ := Tb.kind_in h1 (by decide)
    rw [if_pos h1]
    have : (Tb.methodIn u s [(i : Int)]).1 = i := by simpa using hm
    rw [this]; omega
  · rename_i h1
    rw [if_neg h1]
    obtain ⟨h0, h2, _⟩ := Tb.chain_in u d _ hm
    exact ⟨h0, h2⟩
/-- A place, in the unit with a declaration more. -/
def Pl.dup (p : Pl) (e : Dk) : Pl := ⟨p.u ++ [e], p.d, p.me, p.vs⟩
variable {p : Pl}
theorem Ty.whose_dup (hf : e ∈ p.u) (hd : p.d < p.u.length) (n : Int) (s : ByteArray) : Ty.whose (p.dup e) n s = Ty.whose p n s := by
  have hv : (p.dup e).var s = p.var s := rfl
  have hu : (p.dup e).u = p.u ++ [e] := rfl
  have hm : (p.dup e).me = p.me := rfl
  have hdd : (p.dup e).d = p.d := rfl
  unfold Ty.whose
  rw [hv, hu, hm, hdd, Tb.chain_dup hf hd]
  simp only [Tb.typed_dup hf, Tb.find_dup hf]
theorem Ty.whose_lt (hd : p.d < p.u.length) (n : Int) (s : ByteArray) : (Ty.whose p n s).1 < p.u.length := by
  unfold Ty.whose
  by_cases h0 : n = 0
  · rw [if_pos h0]
    cases p.var s with
    | none => show (-1 : Int) < _; omega
    | some v =>
      show (if _ then ((-1 : Int), (14 : Int)) else if _ then (-1, 13) else (Tb.find p.u v.ty.name, 0)).1 < _
      split
      · show (-1 : Int) < _; omega
      · split
        · show (-1 : Int) < _; omega
        · exact (Tb.find_range p.u _).2
  · rw [if_neg h0]
    by_cases h1 : n = 1
    · rw [if_pos h1]
      split
      · show (-1 : Int) < _; omega
      · exact hd
    · rw [if_neg h1]
      by_cases h2 : n = 2
      · rw [if_pos h2]
        split
        · show (-1 : Int) < _; omega
        · rename_i hc
          have hl : 1 < (Tb.chain p.u p.d).length := by
            rcases Nat.lt_or_ge (Tb.chain p.u p.d).length 2 with h | h
            · exact absurd (Or.inr h) hc
            · omega
          show (Tb.chain p.u p.d)[1]?.getD 0 < _
          rw [List.getElem?_eq_getElem hl]
          exact (Tb.chain_in p.u p.d _ (List.getElem_mem hl)).2.1
      · rw [if_neg h2]; show (-1 : Int) < _; omega
theorem Ty.call_dup (hf : e ∈ p.u) (n : Int) (m : Md) (rs : List Rs) : Ty.call (p.dup e) n m rs = Ty.call p n m rs := by
  have hu : (p.dup e).u = p.u ++ [e] := rfl
  unfold Ty.call
  simp only [hu, Ty.fitsAll_dup hf]
theorem Ty.invoke_dup (hf : e ∈ p.u) (hd : p.d < p.u.length) (n : Int) (a b : ByteArray) (rs : List Rs) : Ty.invoke (p.dup e) n a b rs = Ty.invoke p n a b rs := by
  have hu : (p.dup e).u = p.u ++ [e] := rfl
  have hw := Ty.whose_lt hd n a
  unfold Ty.invoke
  rw [Ty.whose_dup hf hd, hu, Tb.method_dup hf hw]
  by_cases hc : (Ty.whose p n a).2 ≠ 0
  · rw [if_pos hc, if_pos hc]
  · rw [if_neg hc, if_neg hc]
    simp only
    by_cases ho : (Tb.method p.u (Ty.whose p n a).1 b).2.2 = false
    · rw [if_pos ho, if_pos ho]
    · rw [if_neg ho, if_neg ho]
      obtain ⟨g0, g1⟩ := Tb.method_in hw (by simpa using ho)
      have em : Tb.meth (p.u ++ [e]) (Tb.method p.u (Ty.whose p n a).1 b).1 (Tb.method p.u (Ty.whose p n a).1 b).2.1 = Tb.meth p.u (Tb.method p.u (Ty.whose p n a).1 b).1 (Tb.method p.u (Ty.whose p n a).1 b).2.1 := by
        unfold Tb.meth; rw [Tb.msOf_dup (by omega)]
      rw [em]
      cases Tb.meth p.u (Tb.method p.u (Ty.whose p n a).1 b).1 (Tb.method p.u (Ty.whose p n a).1 b).2.1 with
      | none => rfl
      | some m => exact Ty.call_dup hf n m rs
theorem Ty.exprG_dup (hf : e ∈ p.u) (hd : p.d < p.u.length) (k n : Int) (a b : ByteArray) (rs : List Rs) : Ty.exprG (p.dup e) k n a b rs = Ty.exprG p k n a b rs := by
  have hv : (p.dup e).var a = p.var a := rfl
  have hu : (p.dup e).u = p.u ++ [e] := rfl
  unfold Ty.exprG Ty.cast
  rw [hv, hu, Ty.invoke_dup hf hd, Tb.typed_dup hf]
mutual
theorem Ty.expr_dup (hf : e ∈ p.u) (hd : p.d < p.u.length) : ∀ x : Ex, Ty.expr (p.dup e) x = Ty.expr p x
  | .mk k n a b A args c => by rw [Ty.expr, Ty.expr, Ty.exprs_dup hf hd args, Ty.exprG_dup hf hd]
theorem Ty.exprs_dup (hf : e ∈ p.u) (hd : p.d < p.u.length) : ∀ l : List Ex, Ty.exprs (p.dup e) l = Ty.exprs p l
  | [] => by rw [Ty.exprs, Ty.exprs]
  | x :: l => by rw [Ty.exprs, Ty.exprs, Ty.expr_dup hf hd x, Ty.exprs_dup hf hd l]
end
theorem Ty.map_dup (hf : e ∈ p.u) (hd : p.d < p.u.length) (l : List Ex) : l.map (Ty.expr (p.dup e)) = l.map (Ty.expr p) := by
  rw [← Ty.exprs_eq, ← Ty.exprs_eq, Ty.exprs_dup hf hd]
theorem Ty.inv_dup (hf : e ∈ p.u) (hd : p.d < p.u.length) (x : Ex) : Ty.inv (p.dup e) x = Ty.inv p x := by
  unfold Ty.inv; rw [Ty.map_dup hf hd, Ty.invoke_dup hf hd]
theorem Ty.changed_dup (hf : e ∈ p.u) (k n : Int) (a : ByteArray) (rs : List Rs) (bt : List Int) : Ty.changed (p.dup e) k n a rs bt = Ty.changed p k n a rs bt := by
  have hv : (p.dup e).var a = p.var a := rfl
  have hu : (p.dup e).u = p.u ++ [e] := rfl
  unfold Ty.changed
  simp only [hv, hu, Ty.fits_dup hf]
theorem Ty.returned_dup (hf : e ∈ p.u) (rs : List Rs) : Ty.returned (p.dup e) rs = Ty.returned p rs := by
  have ha : (p.dup e).answers = p.answers := rfl
  have hr : (p.dup e).res = p.res := rfl
  have hu : (p.dup e).u = p.u ++ [e] := rfl
  unfold Ty.returned
  simp only [ha, hr, hu, Ty.fits_dup hf]
theorem Ty.stmtG_dup (hf : e ∈ p.u) (hd : p.d < p.u.length) (lo : Bool) (k n : Int) (a : ByteArray) (es : List Ex) (ls : List Lb) (bl bt : List Int) : Ty.stmtG (p.dup e) lo k n a es ls bl bt = Ty.stmtG p lo k n a es ls bl bt := by
  unfold Ty.stmtG
  simp only [Ty.map_dup hf hd, Ty.changed_dup hf, Ty.returned_dup hf, Ty.inv_dup hf hd]
mutual
theorem Ty.stmt_dup (hf : e ∈ p.u) (hd : p.d < p.u.length) (lo : Bool) : ∀ s : St, Ty.stmt (p.dup e) lo s = Ty.stmt p lo s
  | .mk k n a eA es ec lA ls lc bA bs bc => by rw [Ty.stmt, Ty.stmt, Ty.stmtG_dup hf hd, Ty.blocks_dup hf hd lo bs, Ty.blocks_dup hf hd true bs]
theorem Ty.blocks_dup (hf : e ∈ p.u) (hd : p.d < p.u.length) (lo : Bool) : ∀ l : List Bk, Ty.blocks (p.dup e) lo l = Ty.blocks p lo l
  | [] => by rw [Ty.blocks, Ty.blocks]
  | b :: l => by rw [Ty.blocks, Ty.blocks, Ty.block_dup hf hd lo b, Ty.blocks_dup hf hd lo l]
theorem Ty.block_dup (hf : e ∈ p.u) (hd : p.d < p.u.length) (lo : Bool) : ∀ b : Bk, Ty.block (p.dup e) lo b = Ty.block p lo b
  | .mk A l c => by rw [Ty.block, Ty.block, Ty.stmts_dup hf hd lo l]
theorem Ty.stmts_dup (hf : e ∈ p.u) (hd : p.d < p.u.length) (lo : Bool) : ∀ l : List St, Ty.stmts (p.dup e) lo l = Ty.stmts p lo l
  | [] => by rw [Ty.stmts, Ty.stmts]
  | s :: l => by rw [Ty.stmts, Ty.stmts, Ty.stmt_dup hf hd lo s, Ty.stmts_dup hf hd lo l]
end
end
end Go.Proofs.YtejifefgmlpclaaGreat
/- A declaration of a unit once more: what is wrong with the others is as it was; itself is told to be there twice. In plain Lean. -/
namespace Go.Proofs.YtejifefgmlpclaaGreat
open Go.RowKit

section
variable {u : List Dk} {e : Dk}
theorem Ru.pos (hf : e ∈ u) : 0 < u.length := List.length_pos_of_mem hf
theorem Tb.findNat (hf : e ∈ u) (s : ByteArray) : (Tb.find u s).toNat < u.length := by
  have := Tb.find_range u s; have := Ru.pos hf; omega
theorem Ru.may_dup (hf : e ∈ u) (t : Ty) (wh : Int) : Ru.may (u ++ [e]) t wh = Ru.may u t wh := by
  have ha : Ru.absAt (u ++ [e]) (Tb.find u t.name) = Ru.absAt u (Tb.find u t.name) := by unfold Ru.absAt; rw [Tb.at_dup (Tb.findNat hf _)]
  unfold Ru.may; rw [Ru.kind_dup hf, Tb.find_dup hf, ha]
theorem Ru.odd_dup (hf : e ∈ u) (wh : Int) : Ru.odd (u ++ [e]) wh = Ru.odd u wh := by
  funext v; unfold Ru.odd; rw [Ru.may_dup hf]
theorem Ru.face_dup (hf : e ∈ u) (x : Dk) : Ru.face (u ++ [e]) x = Ru.face u x := by
  unfold Ru.face; simp only [Ru.may_dup hf]
theorem Ru.base_dup (hf : e ∈ u) (d : Int) (x : Dk) : Ru.base (u ++ [e]) d x = Ru.base u d x := by
  unfold Ru.base; rw [Tb.find_dup hf, Ru.kind_dup hf, Tb.at_dup (Tb.findNat hf _)]
theorem Ru.strangeGo_dup (hf : e ∈ u) : ∀ (l seen : List ByteArray), Ru.strangeGo (u ++ [e]) seen l = Ru.strangeGo u seen l
  | [], _ => rfl
  | s :: l, seen => by rw [Ru.strangeGo, Ru.strangeGo, Ru.kind_dup hf, Ru.strangeGo_dup hf l]
theorem Ru.kinds_dup (hf : e ∈ u) (x : Dk) : Ru.kinds (u ++ [e]) x = Ru.kinds u x := by
  unfold Ru.kinds; simp only [Ru.odd_dup hf]
theorem Ru.names_dup (hf : e ∈ u) {d : Int} (hd : d < u.length) (x : Dk) : Ru.names (u ++ [e]) d x = Ru.names u d x := by
  unfold Ru.names; rw [Tb.fields_dup hf hd]
theorem Ru.method_dup (hf : e ∈ u) {d : Int} (hd : d < u.length) (s : ByteArray) : Ru.method (u ++ [e]) d s = Ru.method u d s := by
  unfold Ru.method
  rw [Tb.method_dup hf hd]
  by_cases h : (Tb.method u d s).2.2 = true
  · rw [if_pos h, if_pos h, Tb.msOf_dup (by have := Tb.method_in hd h; omega)]
  · rw [if_neg h, if_neg h]
theorem any_same {α : Type} {p q : α → Bool} : ∀ (l : List α), (∀ a ∈ l, p a = q a) → l.any p = l.any q
  | [], _ => rfl
  | a :: l, h => by rw [List.any_cons, List.any_cons, h a (by simp), any_same l fun x hx => h x (by simp [hx])]
theorem Ru.abstract_dup (hf : e ∈ u) {d : Int} (hd : d < u.length) (x : Dk) : Ru.abstract (u ++ [e]) d x = Ru.abstract u d x := by
  have h : ((Tb.chain u d).any fun c => (Tb.msOf (u ++ [e]) c).any fun m => Ru.isAbs (Ru.method (u ++ [e]) d m.name)) = (Tb.chain u d).any fun c => (Tb.msOf u c).any fun m => Ru.isAbs (Ru.method u d m.name) := by
    refine any_same _ fun c hc => ?_
    obtain ⟨h0, h1, _⟩ := Tb.chain_in u d c hc
    rw [Tb.msOf_dup (by omega)]
    simp only [Ru.method_dup hf hd]
  unfold Ru.abstract
  rw [Tb.chain_dup hf hd, h]
theorem Ru.above_lt {d : Int} : Ru.above u d < u.length := by
  unfold Ru.above
  rcases Nat.lt_or_ge 1 (Tb.chain u d ++ [-1]).length with h | h
  · rw [List.getElem?_eq_getElem h]
    show (Tb.chain u d ++ [-1])[1] < _
    rcases List.mem_append.1 (List.getElem_mem h) with hm | hm
    · exact (Tb.chain_in u d _ hm).2.1
    · have : (Tb.chain u d ++ [-1])[1] = -1 := by simpa using hm
      rw [this]; omega
  · rw [List.getElem?_eq_none h]; show (-1 : Int) < _; omega
theorem Ru.over_dup (hf : e ∈ u) {d : Int} (hd : d < u.length) (x : Dk) : Ru.over (u ++ [e]) d x = Ru.over u d x := by
  have ha : Ru.above (u ++ [e]) d = Ru.above u d := by unfold Ru.above; rw [Tb.chain_dup hf hd]
  unfold Ru.over
  congr 1
  funext m
  unfold Ru.overs
  rw [ha, Ru.method_dup hf Ru.above_lt]
theorem Ru.faces_dup (hf : e ∈ u) {d : Int} (hd : d < u.length) : Ru.faces (u ++ [e]) d = Ru.faces u d := by
  unfold Ru.faces
  rw [Tb.faces_dup hf hd]
  refine any_same _ fun c hc => ?_
  have h1 := (Tb.faces_at u d).inn c hc
  rw [Tb.msOf_dup (by have := h1.1; have := h1.2.1; omega)]
  simp only [Ru.method_dup hf hd]
theorem Ru.stmts_dup (hf : e ∈ u) {x : Int} (hx : x < u.length) (y : Int) (l : List St) : Ru.stmts (u ++ [e]) x y l = Ru.stmts u x y l := by
  unfold Ru.stmts Pl.at
  by_cases h0 : x < 0
  · rw [if_pos h0, if_pos h0]
  · rw [if_neg h0, if_neg h0, Tb.at_dup (by omega)]
    cases u[x.toNat]? with
    | none => rfl
    | some d =>
      simp only
      by_cases h3 : d.kind = 3 ∧ y = -1
      · rw [if_pos h3, if_pos h3]
        exact Ty.stmts_dup (p := ⟨u, -1, none, d.vs⟩) hf (by show (-1 : Int) < _; omega) false l
      · rw [if_neg h3, if_neg h3]
        by_cases h2 : d.kind = 2 ∧ 0 ≤ y
        · rw [if_pos h2, if_pos h2]
          cases d.ms[y.toNat]? with
          | none => rfl
          | some m =>
            simp only
            rw [Tb.fields_dup hf hx]
            exact Ty.stmts_dup (p := ⟨u, x, some m, m.ps ++ m.vs ++ Tb.fields u x⟩) hf hx false l
        · rw [if_neg h2, if_neg h2]
theorem Ru.bodies_dup (hf : e ∈ u) {d : Int} (hd : d < u.length) : ∀ (l : List Md) (k : Nat), Ru.bodiesFrom (u ++ [e]) d k l = Ru.bodiesFrom u d k l
  | [], _ => rfl
  | m :: l, k => by rw [Ru.bodiesFrom, Ru.bodiesFrom, Ru.stmts_dup hf hd, Ru.bodies_dup hf hd l]
theorem Ru.class_dup (hf : e ∈ u) {d : Int} (hd : d < u.length) (x : Dk) : Ru.class_ (u ++ [e]) d x = Ru.class_ u d x := by
  unfold Ru.class_ Ru.strange
  rw [Ru.base_dup hf, Ru.strangeGo_dup hf, Ru.kinds_dup hf, Ru.names_dup hf hd, Ru.abstract_dup hf hd, Ru.over_dup hf hd, Ru.faces_dup hf hd, Ru.bodies_dup hf hd]
theorem Ru.program_dup (hf : e ∈ u) {d : Nat} (hd : d < u.length) (x : Dk) : Ru.program (u ++ [e]) d x = Ru.program u d x := by
  have hb : Ru.badVar (u ++ [e]) = Ru.badVar u := by funext v; unfold Ru.badVar; rw [Ru.may_dup hf]
  unfold Ru.program Ru.slots
  rw [hb, Ru.stmts_dup hf (by omega), List.take_append_of_le_length (by omega)]
theorem Ru.task_dup (hf : e ∈ u) {d : Nat} (hd : d < u.length) (x : Dk) : Ru.task (u ++ [e]) d x = Ru.task u d x := by
  unfold Ru.task
  rw [Tb.find_dup hf, Ru.kind_dup hf, List.take_append_of_le_length (by omega)]
theorem Ru.declAt_dup (hf : e ∈ u) {d : Nat} (hd : d < u.length) (x : Dk) : Ru.declAt (u ++ [e]) d x = Ru.declAt u d x := by
  unfold Ru.declAt
  rw [Tb.find_dup hf, Ru.face_dup hf, Ru.class_dup hf (by omega), Ru.program_dup hf hd, Ru.task_dup hf hd]
theorem Ru.decl_dup (hf : e ∈ u) {d : Nat} (hd : d < u.length) : Ru.decl (u ++ [e]) d = Ru.decl u d := by
  unfold Ru.decl
  rw [if_neg (by omega), if_neg (by omega), Tb.at_dup (by simpa using hd)]
  cases u[(d : Int).toNat]? with
  | none => rfl
  | some x => exact Ru.declAt_dup hf (by simpa using hd) x
/-- It is there twice. -/
theorem Ru.decl_again (hf : e ∈ u) (hn : u.length ≤ 11) (hk : 1 ≤ e.kind ∧ e.kind ≤ 4) (hg : Ru.great e = false) : Ru.decl (u ++ [e]) u.length = 6 := by
  unfold Ru.decl
  have e1 : (u ++ [e])[(u.length : Int).toNat]? = some e := by simp
  rw [if_neg (by omega), e1]
  show Ru.declAt (u ++ [e]) _ e = 6
  unfold Ru.declAt
  have h2 : ¬(12 ≤ (u.length : Int).toNat ∨ Ru.great e = true) := by rw [hg]; simp; omega
  rw [if_neg (fun h => h hk), if_neg h2, Tb.find_dup hf]
  have := (Tb.find_range u e.name).2
  rw [if_pos (by simp; omega)]
theorem Ru.unitFrom_dup (hf : e ∈ u) : ∀ (n k : Nat), k + n ≤ u.length → Ru.unitFrom (u ++ [e]) n k = Ru.unitFrom u n k
  | 0, _, _ => rfl
  | n + 1, k, h => by rw [Ru.unitFrom, Ru.unitFrom, Ru.decl_dup hf (by omega), Ru.unitFrom_dup hf n (k + 1) (by omega)]
theorem Ru.unitFrom_more (u : List Dk) : ∀ (n k : Nat), Ru.unitFrom u (n + 1) k = Ru.unitFrom u n k ++ (if Ru.decl u ((k + n : Nat) : Int) ≠ 0 then [(Ru.decl u ((k + n : Nat) : Int), ((k + n : Nat) : Int))] else [])
  | 0, k => by rw [Ru.unitFrom, Ru.unitFrom, Ru.unitFrom]; simp
  | n + 1, k => by
    rw [Ru.unitFrom, Ru.unitFrom_more u n (k + 1), Ru.unitFrom, List.append_assoc, show k + 1 + n = k + (n + 1) by omega]
/-- What is told of the unit with a declaration once more. -/
theorem Ru.unit_again (hf : e ∈ u) (hn : u.length ≤ 11) (hk : 1 ≤ e.kind ∧ e.kind ≤ 4) (hg : Ru.great e = false) : Ru.unit (u ++ [e]) = Ru.unit u ++ [(6, (u.length : Int))] := by
  unfold Ru.unit
  rw [show (u ++ [e]).length = u.length + 1 by simp, Ru.unitFrom_more, Ru.unitFrom_dup hf _ _ (by omega), show 0 + u.length = u.length by omega, Ru.decl_again hf hn hk hg]
  rfl
end
end Go.Proofs.YtejifefgmlpclaaGreat
