/- A declaration more, in memory. -/
import Derived.Test.YtjhlcfaakhabfaaFresh
import Derived.Test.YtjhlcfaakhabfaaTabClone
import Derived.Test.YtjhlcfaakhabfaaInts
namespace Go.Proofs.Ytjhlcfaakhabfaa
open Go.RowKit

/-- A declaration of that kind and name, and of nothing else. -/
def Dk.bare (kind : Int) (name : ByteArray) : Dk := ⟨kind, name, ⟨#[]⟩, none, [], 0, false, false, none, [], 0, none, [], 0, none, [], 0, 0, 0⟩
theorem Dk.bareAt (kind : Int) (name : ByteArray) (w : World) (B : Nat) : DkAt w B (Dk.bare kind name) :=
  ⟨Rows.nil_ _ _ _ _, Rows.nil_ _ _ _ _, Rows.nil_ _ _ _ _, (fun m hm => by cases hm), Nat.zero_le _, Nat.zero_le _, Nat.zero_le _, ⟨0, rfl⟩⟩
theorem Dk.len (l : List Dk) : ∀ r ∈ l.map Dk.cells, r.length = 11 := by
  intro r hr; obtain ⟨p, _, rfl⟩ := List.mem_map.1 hr; rfl
theorem Dk.one {l : List Dk} : ∀ x ∈ (l.map Dk.cells).flatten, x.oneCell' = true := by
  intro x hx
  obtain ⟨r, hr, hx⟩ := List.mem_flatten.1 hx
  obtain ⟨v, _, rfl⟩ := List.mem_map.1 hr
  simp [Dk.cells] at hx
  rcases hx with rfl | rfl | rfl | rfl | rfl | rfl | rfl | rfl | rfl | rfl | rfl <;> rfl
theorem exsMore {w : World} {B C : Nat} (hC : B ≤ C) : ∀ {f : Nat} {A : Option Addr} {l : List Ex}, ExsAt f w B A l → ExsAt f w C A l
  | 0, _, _, h => h
  | _ + 1, _, _, h => ⟨h.1, h.2.1.more hC, fun e he => exsMore hC (h.2.2 e he)⟩
theorem stsMore {w : World} {B C : Nat} (hC : B ≤ C) : ∀ {f : Nat} {A : Option Addr} {l : List St}, StsAt f w B A l → StsAt f w C A l
  | 0, _, _, h => h
  | _ + 1, _, _, h => ⟨h.1, h.2.1.more hC, fun s hs => by
      obtain ⟨h1, ⟨h2, h3, h4⟩, h5, h6, h7⟩ := h.2.2 s hs
      exact ⟨exsMore hC h1, ⟨h2, h3.more hC, fun x hx => ⟨(h4 x hx).1, (h4 x hx).2.more hC⟩⟩, h5, h6.more hC, fun b hb => stsMore hC (h7 b hb)⟩⟩
theorem MdAt.more {w : World} {B C : Nat} {m : Md} (h : MdAt w B m) (hC : B ≤ C) : MdAt w C m :=
  ⟨h.params.more hC, h.vars.more hC, h.smallP, h.smallV, h.body.imp fun _ hf => stsMore hC hf⟩
theorem DkAt.more {w : World} {B C : Nat} {d : Dk} (h : DkAt w B d) (hC : B ≤ C) : DkAt w C d :=
  ⟨h.faces.more hC, h.vars.more hC, h.meths.more hC, fun m hm => (h.each m hm).more hC, h.smallF, h.smallV, h.smallM, h.body.imp fun _ hf => stsMore hC hf⟩
theorem loop_len (s : ByteArray) : ∀ (n i : Nat) (r : List UInt8), s.size - i ≤ n → (ByteArray.toList.loop s i r).length = r.length + (s.size - i)
  | 0, i, r, h => by
    unfold ByteArray.toList.loop
    rw [if_neg (by omega)]; simp; omega
  | n + 1, i, r, h => by
    unfold ByteArray.toList.loop
    split
    · rw [loop_len s n (i + 1) _ (by omega)]; simp; omega
    · simp; omega
theorem toList_len (s : ByteArray) : s.toList.length = s.size := by
  have h := loop_len s s.size 0 [] (by omega)
  unfold ByteArray.toList
  rw [h]; simp
/-- The same declarations and one more, as a row of their own: a unit. -/
theorem unit_more {w : World} {B base c : Nat} {A : Option Addr} {u : List Dk} {kind : Int} {name : ByteArray} (hd : ∀ d ∈ u, DkAt w B d) (hB : B ≤ w.heap.size) (hn : u.length ≤ 16)
    (ho : w.ownsRow base 32 11 (.slice A (u.length + 1) c) (u.length + 1) ((u.map Dk.cells).flatten ++ (Dk.bare kind name).cells)) : UnitAt w w.heap.size A (u ++ [Dk.bare kind name]) := by
  refine ⟨?_, fun d hm => ?_, by simp; omega⟩
  · refine Rows.of_own (rows := (u ++ [Dk.bare kind name]).map Dk.cells) (Dk.len _) (c := c) (base := base) (e := 32) ?_
    simpa using ho
  · rcases List.mem_append.1 hm with h | h
    · exact (hd d h).more hB
    · have : d = Dk.bare kind name := by simpa using h
      subst this
      exact Dk.bareAt _ _ _ _
theorem fresh_of {u : List Dk} {m : Nat} (h : ∀ d ∈ u, LenAt m d) : Tb.Fresh u (strOfNums (List.replicate (m + 1) 0)) := by
  have hl : (strOfNums (List.replicate (m + 1) 0)).size = m + 1 := by rw [strOfNums_size, List.length_replicate]
  have key : ∀ s : ByteArray, s.size ≤ m → s.toList ≠ (strOfNums (List.replicate (m + 1) 0)).toList := fun s hs he => by
    have h1 := congrArg List.length he
    rw [toList_len, toList_len, hl] at h1
    omega
  exact ⟨fun d hd => key _ (h d hd).name, fun d hd => key _ (h d hd).base, fun d hd f hf => key _ ((h d hd).faces f hf)⟩
end Go.Proofs.Ytjhlcfaakhabfaa
