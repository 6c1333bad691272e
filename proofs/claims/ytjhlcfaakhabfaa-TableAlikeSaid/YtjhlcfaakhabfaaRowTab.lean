/- Methods that were handed in, as the walks want them. -/
import Derived.Test.YtjhlcfaakhabfaaTabAlike3
import Derived.ProofKit
import Derived.Below
import Derived.Carry
import Derived.KernelRfl
import Derived.Deep.Slices
import Derived.Deep.Fields
import Derived.ChangeSame
namespace Go.Proofs.Ytjhlcfaakhabfaa
open Go.ChangeShapes Go.WideShapes Go.ChangeAt Go.RowKit Go.Deep

section
variable {H : Type} {enc : TypeId × Value → H} {W : World}

theorem list4 {l : List Value} (h : l.length = 4) : ∃ a b c d, l = [a, b, c, d] := by
  match l, h with
  | [a, b, c, d], _ => exact ⟨a, b, c, d, rfl⟩
theorem list8 {l : List Value} (h : l.length = 8) : ∃ a b c d e f g i, l = [a, b, c, d, e, f, g, i] := by
  match l, h with
  | [a, b, c, d, e, f, g, i], _ => exact ⟨a, b, c, d, e, f, g, i, rfl⟩
theorem list11 {l : List Value} (h : l.length = 11) : ∃ a b c d e f g i j k m, l = [a, b, c, d, e, f, g, i, j, k, m] := by
  match l, h with
  | [a, b, c, d, e, f, g, i, j, k, m], _ => exact ⟨a, b, c, d, e, f, g, i, j, k, m, rfl⟩

theorem cells_ty : Try.prog.cellsOf 40 = 4 := by kernel_rfl
theorem cells_vd : Try.prog.cellsOf 44 = 8 := by kernel_rfl
theorem cells_md : Try.prog.cellsOf 42 = 11 := by kernel_rfl
theorem cells_i : Try.prog.cellsOf 3 = 1 := by kernel_rfl
theorem cells_b : Try.prog.cellsOf 4 = 1 := by kernel_rfl
theorem cells_s : Try.prog.cellsOf 9 = 1 := by kernel_rfl
theorem cells_vs : Try.prog.cellsOf 28 = 1 := by kernel_rfl
theorem cells_st : Try.prog.cellsOf 30 = 1 := by kernel_rfl

theorem ty_open {fuel : Nat} {cs : List Value} {x : DataW H × List MemPlace} (h : DataW.trod enc Try.prog W 0 (fun _ => true) true fuel 40 cs = some x) : ∃ t : Ty, cs = t.cells := by
  obtain ⟨xs, n, _, _, hl, hxl, hf⟩ := DataW.trod_struct Try.underlying40 h
  rw [cells_ty] at hl
  obtain ⟨a, b, c, d, rfl⟩ := list4 hl
  have get : ∀ i, i < 4 → ∃ y, xs[i]? = some y := fun i hi => ⟨_, List.getElem?_eq_getElem (by rw [hxl]; exact hi)⟩
  obtain ⟨y0, e0⟩ := get 0 (by decide)
  obtain ⟨y1, e1⟩ := get 1 (by decide)
  obtain ⟨y2, e2⟩ := get 2 (by decide)
  obtain ⟨y3, e3⟩ := get 3 (by decide)
  have f0 := hf 0 _ rfl
  have f1 := hf 1 _ rfl
  have f2 := hf 2 _ rfl
  have f3 := hf 3 _ rfl
  rw [e0] at f0; rw [e1] at f1; rw [e2] at f2; rw [e3] at f3
  simp only [List.getElem_toArray, List.getElem_cons_zero, List.getElem_cons_succ, cells_i, cells_s, List.drop_succ_cons, List.drop_zero, List.take_succ_cons, List.take_zero] at f0 f1 f2 f3
  obtain ⟨k, g0, _, _⟩ := DataW.trod_int Try.underlying3 f0
  obtain ⟨lo, g1, _, _⟩ := DataW.trod_int Try.underlying3 f1
  obtain ⟨hi, g2, _, _⟩ := DataW.trod_int Try.underlying3 f2
  obtain ⟨s, g3, _, _⟩ := DataW.trod_string Try.underlying9 f3
  simp at g0 g1 g2 g3
  subst g0 g1 g2 g3
  exact ⟨⟨k, lo, hi, s⟩, rfl⟩

theorem vd_open {fuel : Nat} {cs : List Value} {x : DataW H × List MemPlace} (h : DataW.trod enc Try.prog W 0 (fun _ => true) true fuel 44 cs = some x) : ∃ v : Vd, cs = v.cells := by
  obtain ⟨xs, n, _, _, hl, hxl, hf⟩ := DataW.trod_struct Try.underlying44 h
  rw [cells_vd] at hl
  obtain ⟨a, b, c, d, e, f, g, i, rfl⟩ := list8 hl
  have get : ∀ i, i < 5 → ∃ y, xs[i]? = some y := fun i hi => ⟨_, List.getElem?_eq_getElem (by rw [hxl]; exact hi)⟩
  obtain ⟨y0, e0⟩ := get 0 (by decide)
  obtain ⟨y1, e1⟩ := get 1 (by decide)
  obtain ⟨y2, e2⟩ := get 2 (by decide)
  obtain ⟨y3, e3⟩ := get 3 (by decide)
  obtain ⟨y4, e4⟩ := get 4 (by decide)
  have f0 := hf 0 _ rfl
  have f1 := hf 1 _ rfl
  have f2 := hf 2 _ rfl
  have f3 := hf 3 _ rfl
  have f4 := hf 4 _ rfl
  rw [e0] at f0; rw [e1] at f1; rw [e2] at f2; rw [e3] at f3; rw [e4] at f4
  simp only [List.getElem_toArray, List.getElem_cons_zero, List.getElem_cons_succ, cells_i, cells_s, cells_ty, List.drop_succ_cons, List.drop_zero, List.take_succ_cons, List.take_zero] at f0 f1 f2 f3 f4
  obtain ⟨s, g0, _, _⟩ := DataW.trod_string Try.underlying9 f0
  obtain ⟨t, g1⟩ := ty_open f1
  obtain ⟨k2, g2, _, _⟩ := DataW.trod_int Try.underlying3 f2
  obtain ⟨k3, g3, _, _⟩ := DataW.trod_int Try.underlying3 f3
  obtain ⟨k4, g4, _, _⟩ := DataW.trod_int Try.underlying3 f4
  simp [Ty.cells] at g0 g1 g2 g3 g4
  obtain ⟨g1, g1b, g1c, g1d⟩ := g1
  subst g0 g1 g1b g1c g1d g2 g3 g4
  exact ⟨⟨s, t, k2, k3, k4⟩, rfl⟩

theorem vars_open {fuel : Nat} {A : Option Addr} {len cap : Nat} {d : DataW H} {p : List MemPlace}
    (hf : DataW.trod enc Try.prog W 0 (fun _ => true) true fuel 28 [.slice A len cap] = some (d, p)) (hlt : ∀ x ∈ p, x.block < W.heap.size) :
    ∃ vs : List Vd, vs.length = len ∧ Rows W W.heap.size 8 A (vs.map Vd.cells) := by
  rcases open_slice Try.underlying28 hf with ⟨hcs, _⟩ | ⟨a, len', cap', m, n, D, Pl, hcs, _, hl, hm, hmm, hx, hi⟩
  · simp at hcs
    obtain ⟨rfl, rfl, rfl⟩ := hcs
    exact ⟨[], rfl, Rows.nil_ _ _ _ _⟩
  · simp at hcs
    obtain ⟨rfl, rfl, rfl⟩ := hcs
    simp only [if_true] at hmm
    subst hmm
    simp only [Prod.mk.injEq] at hx
    rw [cells_vd] at hi hx
    haveI : Inhabited Vd := ⟨⟨.empty, ⟨0, 0, 0, .empty⟩, 0, 0, 0⟩⟩
    obtain ⟨V, hV⟩ := choose_lt (α := Vd) (n := m) (p := fun i v => W.cells? 0 (a.add (i * 8)) 8 = some v.cells) (fun i him => by
      obtain ⟨cs', hc, ht⟩ := hi i him
      obtain ⟨v, rfl⟩ := vd_open ht
      exact ⟨v, hc⟩)
    refine ⟨(List.range len).map V, by simp, fun hn => ?_⟩
    have hl0 : 0 < len := by simpa using hn
    have hc : ∀ i, i < m → ∀ j x, (V i).cells[j]? = some x → W.cell? (a.add (i * 8 + j)) = some x := fun i him j x hx => by
      obtain ⟨_, hlen, hat⟩ := World.cells?_some (hV i him)
      have hj : j < 8 := by rw [← hlen]; exact (List.getElem?_eq_some_iff.1 hx).1
      rw [← Go.Deep.add_add, hat j hj, hx]
    obtain ⟨b, off, spot⟩ := a
    have hspot : spot = none := by simpa [Addr.add] using World.cell?_spot (hc 0 (by omega) 0 _ rfl)
    subst hspot
    refine ⟨b, off, rfl, hlt (.cell b off) ?_, fun i r hr j x hx' => ?_⟩
    · rw [hx.2]
      exact List.mem_append_left _ (MemPlace.mem_row.2 ⟨0, Nat.mul_pos (by omega) (by decide), by simp⟩)
    · have hil : i < len := by
        have := (List.getElem?_eq_some_iff.1 hr).1
        simpa using this
      have hr2 : r = (V i).cells := by
        have : ((List.range len).map V)[i]? = some (V i) := by simp [hil]
        rw [List.getElem?_map, this] at hr
        exact (Option.some.inj hr).symm
      subst hr2
      rw [Nat.add_assoc, ← add_plain]
      exact hc i (by omega) j x hx'

/-- A method that was handed in by value. -/
theorem md_open {fuel : Nat} {cs : List Value} {d : DataW H} {p : List MemPlace} (h : DataW.trod enc Try.prog W 0 (fun _ => true) true fuel 42 cs = some (d, p)) (hlt : ∀ x ∈ p, x.block < W.heap.size) :
    ∃ m : Md, cs = m.cells ∧ Rows W W.heap.size 8 m.pA (m.ps.map Vd.cells) := by
  obtain ⟨xs, n, _, hx, hl, hxl, hf⟩ := DataW.trod_struct Try.underlying42 h
  rw [cells_md] at hl
  obtain ⟨c0, c1, c2, c3, c4, c5, c6, c7, c8, c9, c10, rfl⟩ := list11 hl
  have get : ∀ i, i < 8 → ∃ y, xs[i]? = some y := fun i hi => ⟨_, List.getElem?_eq_getElem (by rw [hxl]; exact hi)⟩
  obtain ⟨y0, e0⟩ := get 0 (by decide)
  obtain ⟨y1, e1⟩ := get 1 (by decide)
  obtain ⟨y2, e2⟩ := get 2 (by decide)
  obtain ⟨y3, e3⟩ := get 3 (by decide)
  obtain ⟨y4, e4⟩ := get 4 (by decide)
  obtain ⟨y5, e5⟩ := get 5 (by decide)
  obtain ⟨y6, e6⟩ := get 6 (by decide)
  obtain ⟨y7, e7⟩ := get 7 (by decide)
  have f0 := hf 0 _ rfl
  have f1 := hf 1 _ rfl
  have f2 := hf 2 _ rfl
  have f3 := hf 3 _ rfl
  have f4 := hf 4 _ rfl
  have f5 := hf 5 _ rfl
  have f6 := hf 6 _ rfl
  have f7 := hf 7 _ rfl
  rw [e0] at f0; rw [e1] at f1; rw [e2] at f2; rw [e3] at f3; rw [e4] at f4; rw [e5] at f5; rw [e6] at f6; rw [e7] at f7
  simp only [List.getElem_toArray, List.getElem_cons_zero, List.getElem_cons_succ, cells_s, cells_b, cells_vs, cells_st, cells_ty, List.drop_succ_cons, List.drop_zero, List.take_succ_cons, List.take_zero] at f0 f1 f2 f3 f4 f5 f6 f7
  obtain ⟨s, g0, _, _⟩ := DataW.trod_string Try.underlying9 f0
  obtain ⟨z1, g1, _⟩ := DataW.trod_bool Try.underlying4 f1
  obtain ⟨z2, g2, _⟩ := DataW.trod_bool Try.underlying4 f2
  obtain ⟨z3, g3, _⟩ := DataW.trod_bool Try.underlying4 f3
  obtain ⟨t, g5⟩ := ty_open f5
  have g4 : ∃ A l c, c4 = .slice A l c := by
    rcases open_slice Try.underlying28 f4 with ⟨q, _⟩ | ⟨a, l, c, _, _, _, _, q, _⟩
    · exact ⟨none, 0, 0, by simpa using q⟩
    · exact ⟨some a, l, c, by simpa using q⟩
  have g6 : ∃ A l c, c9 = .slice A l c := by
    rcases open_slice Try.underlying28 f6 with ⟨q, _⟩ | ⟨a, l, c, _, _, _, _, q, _⟩
    · exact ⟨none, 0, 0, by simpa using q⟩
    · exact ⟨some a, l, c, by simpa using q⟩
  have g7 : ∃ A l c, c10 = .slice A l c := by
    rcases open_slice Try.underlying30 f7 with ⟨q, _⟩ | ⟨a, l, c, _, _, _, _, q, _⟩
    · exact ⟨none, 0, 0, by simpa using q⟩
    · exact ⟨some a, l, c, by simpa using q⟩
  obtain ⟨A4, l4, k4, rfl⟩ := g4
  obtain ⟨A6, l6, k6, rfl⟩ := g6
  obtain ⟨A7, l7, k7, rfl⟩ := g7
  simp [Ty.cells] at g0 g1 g2 g3 g5
  obtain ⟨g5, g5b, g5c, g5d⟩ := g5
  subst g0 g1 g2 g3 g5 g5b g5c g5d
  simp only [Prod.mk.injEq] at hx
  have sub : ∀ (i : Nat) y, xs[i]? = some y → ∀ x ∈ y.2, x ∈ p := fun i y hy x hxm => by
    rw [hx.2]
    exact List.mem_flatMap.2 ⟨y, List.mem_of_getElem? hy, hxm⟩
  obtain ⟨vs, hvl, hvr⟩ := vars_open (d := y4.1) (p := y4.2) f4 (fun x hxm => hlt x (sub 4 y4 e4 x hxm))
  obtain ⟨us, hul, _⟩ := vars_open (d := y6.1) (p := y6.2) f6 (fun x hxm => hlt x (sub 6 y6 e6 x hxm))
  subst hvl hul
  exact ⟨⟨s, z1, z2, z3, A4, vs, k4, t, A6, us, k6, A7, l7, k7⟩, rfl, hvr⟩
end
end Go.Proofs.Ytjhlcfaakhabfaa
