/- Check. -/
import Derived.Test.YtcgfabnmkbiogaaDoorFlS
import Derived.RegionTactic
import Derived.BigRegion
import Derived.ChangeAlike
import Derived.Laws.MakeOwn
import Derived.LoopTactic
import Derived.WalkKit
import Derived.WalkSpells
import Derived.WalkLawsBesides
import Derived.LoopTactic
import Derived.Deep.QuietTactic
import Derived.BigQuiet
import Derived.Below
import Derived.Laws.ResultCell
import Derived.Laws.Tables
import Derived.Laws.Rows
import Derived.Deep.Cut
import Derived.KernelRfl
namespace Go.Proofs.YtcgfabnmkbiogaaDoor
open Go.RowKit

section
variable {w : World} {B B' : Nat} {A : Option Addr}
theorem Desc.At.more {x : Desc} (h : Desc.At w B x) (hB : B ≤ B') : Desc.At w B' x := ⟨⟨h.1.1, h.1.2.more hB⟩, ⟨h.2.1.1, h.2.1.2.more hB⟩, ⟨h.2.2.1.1, h.2.2.1.2.more hB⟩, ⟨h.2.2.2.1, h.2.2.2.2.1.more hB, fun y hy => ⟨(h.2.2.2.2.2 y hy).1, (h.2.2.2.2.2 y hy).2.more hB⟩⟩⟩
theorem Img.At.more {x : Img} (h : Img.At w B x) (hB : B ≤ B') : Img.At w B' x :=
  ⟨⟨h.faces.1, h.faces.2.1.more hB, fun y hy => ⟨(h.faces.2.2 y hy).1, (h.faces.2.2 y hy).2.more hB⟩⟩,
   ⟨h.classes.1, h.classes.2.1.more hB, fun y hy => (h.classes.2.2 y hy).more hB⟩,
   ⟨h.codes.1, h.codes.2.1.more hB, fun y hy => ⟨(h.codes.2.2 y hy).1, (h.codes.2.2 y hy).2.more hB⟩⟩,
   ⟨h.insts.1, h.insts.2.more hB⟩, ⟨h.init.1, h.init.2.more hB⟩, ⟨h.blocks.1, h.blocks.2.more hB⟩, ⟨h.ins.1, h.ins.2.more hB⟩, ⟨h.outs.1, h.outs.2.more hB⟩, ⟨h.jobs.1, h.jobs.2.more hB⟩⟩
end
/-- How much is left to do, at most. -/
def FSt.mu (s : FSt) : Nat := 2 * s.kn.count false + s.td.length
theorem FSt.reach_mu {s s' : FSt} {i : Int} {t : ByteArray} (h : s.reach i t = some s') : s'.mu < s.mu + 1 := by
  unfold FSt.reach at h
  split at h
  · rename_i hi
    split at h
    · split at h
      · cases h; omega
      · cases h
    · rename_i hk
      cases h
      have hq : i.toNat < s.kn.length := by omega
      obtain ⟨v, hv⟩ : ∃ v, s.kn[i.toNat]? = some v := ⟨_, List.getElem?_eq_getElem hq⟩
      cases v
      · have h2 : 0 < s.kn.count false := List.count_pos_iff.2 (List.mem_of_getElem? hv)
        have h3 : (s.kn.set i.toNat true).count false = s.kn.count false - 1 := by
          rw [List.count_set hq]
          have := (List.getElem?_eq_some_iff.1 hv).2
          simp [this]
        unfold FSt.mu
        simp only [List.length_append, List.length_singleton, h3]
        omega
      · exact absurd hv hk
  · cases h
theorem FSt.go_mu {s s' : FSt} {k a i : Int} {t : ByteArray} (h : s.go k a i t = some s') : s'.mu ≤ s.mu := by
  unfold FSt.go at h
  split at h
  · split at h
    · cases h; omega
    · cases h
  · split at h
    · cases hr : s.reach a t with
      | none => rw [hr] at h; cases h
      | some s2 =>
        rw [hr] at h
        have h1 := FSt.reach_mu hr
        have h2 := FSt.reach_mu h
        omega
    · split at h
      · have := FSt.reach_mu h; omega
      · have := FSt.reach_mu h; omega
theorem FSt.step_mu {x : Img} {c : Cod} {s s' : FSt} {i : Nat} (h : FSt.step x c s i = some s') : s'.mu ≤ s.mu := by
  unfold FSt.step at h
  split at h
  · split at h
    · cases h
    · split at h
      · have h1 := FSt.go_mu h; exact h1
      · cases h
  · cases h
/-- The same, read off the memory. -/
def isF : Value → Bool
  | .bool false => true
  | _ => false
def lenV : Option Value → Nat
  | some (.slice _ n _) => n
  | _ => 0
def cellsV : Option Obj → List Value
  | some (.cells cs _ _) => cs.toList
  | _ => []
def Fl.mu (w : World) (b g1 : Nat) : Nat := 2 * ((cellsV w.heap[g1]?).filter isF).length + lenV (w.cell? ⟨b, 20, none⟩)
theorem Fs.mu {w0 w : World} {b g1 g2 : Nat} {x : Img} {c : Cod} {s : FSt} {T : Option Addr} {tc : Nat} (h : Fs w0 w b g1 g2 x c s T tc) : Fl.mu w b g1 = s.mu := by
  unfold Fl.mu FSt.mu
  rw [h.has.cell 20 _ rfl]
  have : w.heap[g1]? = some (.cells (s.kn.map Value.bool).toArray 4 (0, 0)) := h.kn
  rw [this]
  have e : ((s.kn.map Value.bool).filter isF).length = s.kn.count false := by
    rw [List.count_eq_length_filter, List.filter_map, List.length_map]
    congr 1
    apply List.filter_congr
    intro v _
    cases v <;> rfl
  show 2 * ((s.kn.map Value.bool).filter isF).length + s.td.length = _
  rw [e]
/-- The last one taken off. -/
theorem own_last {w : World} {base e n c : Nat} {A : Option Addr} {xs : List Value} (h : w.ownsRow base e 1 (.slice A n c) n xs) (hn : 0 < n) : w.ownsRow base e 1 (.slice A (n - 1) c) (n - 1) (xs.take (n - 1)) := by
  have hl : xs.length = n * 1 := h.1
  refine ⟨by rw [List.length_take]; omega, ?_⟩
  rcases h.2 with ⟨h1, h2⟩ | ⟨g, cap, cur, h1, h2, h3, h4, h5, h6, h7⟩
  · cases h1; omega
  · cases h1
    refine Or.inr ⟨g, c, cur, rfl, h2, h3, by omega, h5, h6, ?_⟩
    rw [← h7, List.take_take]
    congr 1
    omega
theorem own_cap {w : World} {B e s c n : Nat} {A : Option Addr} {xs : List Value} (h : w.ownsRow B e s (.slice A n c) n xs) : n ≤ c := by
  rcases h.2 with ⟨h1, h2⟩ | ⟨g, cap, cur, h1, _, _, h2, _⟩
  · omega
  · cases h1; exact h2
/-- One is taken off what is to do. -/
theorem Fs.pop {w0 w : World} {b g1 g2 : Nat} {x : Img} {c : Cod} {s : FSt} {T : Option Addr} {tc : Nat} (h : Fs w0 w b g1 g2 x c s T tc) (l : List Nat) (i : Nat) (hs : s.td = l ++ [i]) :
    Fs w0 (w.setCell ⟨b, 20, none⟩ (.slice T l.length tc)) b g1 g2 x c { s with td := l } T tc := by
  have hlen : s.td.length = l.length + 1 := by rw [hs]; simp
  have hb := h.has.set 20 (.slice T l.length tc)
  have ho := own_last h.td (by omega)
  rw [show s.td.length - 1 = l.length by omega] at ho
  have hmap : (s.td.map fun n : Nat => Value.int .i64 (n : Int)).take l.length = l.map fun n : Nat => Value.int .i64 (n : Int) := by
    rw [hs, List.map_append, List.take_left' (by simp)]
  rw [hmap] at ho
  have hown : (Value.slice T l.length tc).ownBlock = (Value.slice T s.td.length tc).ownBlock := by cases T <;> rfl
  refine ⟨hb, h.kn.other ⟨b, 20, none⟩ _ (Ne.symm h.sep.1), h.st.other ⟨b, 20, none⟩ _ (Ne.symm h.sep.2.1), own_other ho (fun p hp => (h.sept p (hown ▸ hp)).1) 20 _, h.sep, fun p hp => h.sept p (hown ▸ hp), h.low, h.below.setCell (p := ⟨b, 20, none⟩) h.low.1 _, h.len, h.sz, ?_, h.img, h.sm, h.cm, h.ml⟩
  have := h.room
  show l.length + s.kn.count false ≤ _
  omega
end Go.Proofs.YtcgfabnmkbiogaaDoor
