/- The interfaces of a class, in plain Lean. -/
import Derived.Test.YtmhdcehpddbjaaaTabChainSpec
namespace Go.Proofs.Ytmhdcehpddbjaaa

def Tb.facesOf (u : List Dk) (d : Int) : List ByteArray := match u[d.toNat]? with | some x => x.faces | none => []
def Tb.addFace (u : List Dk) (l : List Int) (s : ByteArray) : List Int := if Tb.kind u (Tb.find u s) = 1 ∧ Tb.find u s ∉ l then l ++ [Tb.find u s] else l
def Tb.faces (u : List Dk) (d : Int) : List Int := (Tb.chain u d).foldl (fun l c => (Tb.facesOf u c).foldl (Tb.addFace u) l) []
/-- What the walk keeps of the list. -/
structure Tb.FacesAt (u : List Dk) (l : List Int) : Prop where
  nodup : l.Nodup
  inn : ∀ x ∈ l, 0 ≤ x ∧ x < u.length ∧ Tb.kind u x = 1
theorem Tb.FacesAt.len {u : List Dk} {l : List Int} (h : Tb.FacesAt u l) : l.length ≤ u.length := Tb.nodup_len _ _ h.nodup (fun x hx => ⟨(h.inn x hx).1, (h.inn x hx).2.1⟩)
theorem Tb.FacesAt.add {u : List Dk} {l : List Int} (h : Tb.FacesAt u l) (s : ByteArray) : Tb.FacesAt u (Tb.addFace u l s) := by
  unfold Tb.addFace
  by_cases hc : Tb.kind u (Tb.find u s) = 1 ∧ Tb.find u s ∉ l
  · rw [if_pos hc]
    refine ⟨?_, fun x hx => ?_⟩
    · rw [List.nodup_append]
      exact ⟨h.nodup, by simp, fun a ha b hb => by
        have : b = Tb.find u s := by simpa using hb
        subst this
        exact fun e => hc.2 (e ▸ ha)⟩
    · rcases List.mem_append.1 hx with hx | hx
      · exact h.inn x hx
      · have : x = Tb.find u s := by simpa using hx
        subst this
        obtain ⟨i, y, e, _, _, hi⟩ := Tb.kind_in hc.1 (by decide)
        rw [e] at hc ⊢
        exact ⟨by omega, by omega, hc.1⟩
  · rw [if_neg hc]; exact h
theorem Tb.FacesAt.addAll {u : List Dk} : ∀ (fs : List ByteArray) (l : List Int), Tb.FacesAt u l → Tb.FacesAt u (fs.foldl (Tb.addFace u) l)
  | [], _, h => h
  | s :: fs, l, h => Tb.FacesAt.addAll fs _ (h.add s)
theorem Tb.FacesAt.all {u : List Dk} : ∀ (cs : List Int) (l : List Int), Tb.FacesAt u l → Tb.FacesAt u (cs.foldl (fun l c => (Tb.facesOf u c).foldl (Tb.addFace u) l) l)
  | [], _, h => h
  | c :: cs, l, h => Tb.FacesAt.all cs _ (Tb.FacesAt.addAll _ _ h)
theorem Tb.faces_at (u : List Dk) (d : Int) : Tb.FacesAt u (Tb.faces u d) := Tb.FacesAt.all _ _ ⟨List.nodup_nil, by simp⟩
theorem Tb.take_fold {α β : Type} (f : β → α → β) (b : β) (l : List α) (k : Nat) (x : α) (h : l[k]? = some x) : (l.take (k + 1)).foldl f b = f ((l.take k).foldl f b) x := by
  rw [List.take_add_one, h]
  simp [List.foldl_append]
end Go.Proofs.Ytmhdcehpddbjaaa
