/- The fields of a class, or of a program, in plain Lean. -/
import Derived.Test.YtejifefgmlpclaaGreatTabC
set_option linter.unusedSimpArgs false
set_option linter.unusedVariables false
namespace Go.Proofs.YtejifefgmlpclaaGreat

/-- The variables of declaration number c. -/
def Tb.varsOf (u : List Dk) (c : Int) : List Vd := match u[c.toNat]? with | some x => x.vs | none => []
/-- Those of its bases first; a program's. -/
def Tb.fields (u : List Dk) (d : Int) : List Vd :=
  if Tb.kind u d = 2 then ((Tb.chain u d).reverse.map (Tb.varsOf u)).flatten else if Tb.kind u d = 3 then Tb.varsOf u d else []
theorem Tb.varsOf_at {u : List Dk} {i : Nat} {x : Dk} (h : u[i]? = some x) : Tb.varsOf u i = x.vs := by unfold Tb.varsOf; simp [h]
theorem Tb.flat_len (f : Int → List Vd) (M : Nat) : ∀ l : List Int, (∀ c ∈ l, (f c).length ≤ M) → (l.map f).flatten.length ≤ l.length * M
  | [], _ => by simp
  | c :: l, h => by
    have h1 := Tb.flat_len f M l (fun x hx => h x (by simp [hx]))
    have h2 := h c (by simp)
    simp only [List.map_cons, List.flatten_cons, List.length_append, List.length_cons, Nat.succ_mul]
    omega
theorem Tb.varsOf_len {u : List Dk} {M : Nat} (h : ∀ x ∈ u, x.vs.length ≤ M) (c : Int) : (Tb.varsOf u c).length ≤ M := by
  unfold Tb.varsOf
  split
  · exact h _ (List.mem_of_getElem? ‹_›)
  · simp
theorem Tb.fields_len {u : List Dk} {M : Nat} (h : ∀ x ∈ u, x.vs.length ≤ M) (d : Int) : (Tb.fields u d).length ≤ (u.length + 1) * M := by
  unfold Tb.fields
  split
  · refine Nat.le_trans (Tb.flat_len _ M _ fun c _ => Tb.varsOf_len h c) ?_
    rw [List.length_reverse]
    exact Nat.mul_le_mul_right _ (Nat.le_trans (Tb.chain_len u d) (Nat.le_succ _))
  · split
    · refine Nat.le_trans (Tb.varsOf_len h d) ?_
      rw [Nat.succ_mul]; omega
    · simp
end Go.Proofs.YtejifefgmlpclaaGreat
