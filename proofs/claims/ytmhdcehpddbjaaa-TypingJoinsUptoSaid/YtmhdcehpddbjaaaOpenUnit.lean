/- A unit that was handed in. -/
import Derived.Test.YtmhdcehpddbjaaaOpenTrees
namespace Go.Proofs.Ytmhdcehpddbjaaa
open Go.ChangeShapes Go.WideShapes Go.ChangeAt Go.RowKit Go.Deep

section
variable {H : Type} {enc : TypeId × Value → H} {W : World}
theorem olist4 {l : List Value} (h : l.length = 4) : ∃ a0 a1 a2 a3, l = [a0, a1, a2, a3] := by
  match l, h with
  | [a0, a1, a2, a3], _ => exact ⟨a0, a1, a2, a3, rfl⟩
theorem olist8 {l : List Value} (h : l.length = 8) : ∃ a0 a1 a2 a3 a4 a5 a6 a7, l = [a0, a1, a2, a3, a4, a5, a6, a7] := by
  match l, h with
  | [a0, a1, a2, a3, a4, a5, a6, a7], _ => exact ⟨a0, a1, a2, a3, a4, a5, a6, a7, rfl⟩
theorem olist11 {l : List Value} (h : l.length = 11) : ∃ a0 a1 a2 a3 a4 a5 a6 a7 a8 a9 a10, l = [a0, a1, a2, a3, a4, a5, a6, a7, a8, a9, a10] := by
  match l, h with
  | [a0, a1, a2, a3, a4, a5, a6, a7, a8, a9, a10], _ => exact ⟨a0, a1, a2, a3, a4, a5, a6, a7, a8, a9, a10, rfl⟩
theorem ocells_ty : Try.prog.cellsOf 36 = 4 := by kernel_rfl
theorem ocells_vd : Try.prog.cellsOf 74 = 8 := by kernel_rfl
theorem ocells_md : Try.prog.cellsOf 50 = 11 := by kernel_rfl
theorem ocells_dk : Try.prog.cellsOf 48 = 11 := by kernel_rfl
theorem ocells_b : Try.prog.cellsOf 4 = 1 := by kernel_rfl
theorem ocells_vs : Try.prog.cellsOf 39 = 1 := by kernel_rfl
theorem ocells_ss : Try.prog.cellsOf 45 = 1 := by kernel_rfl
theorem ocells_ms : Try.prog.cellsOf 46 = 1 := by kernel_rfl
theorem ocells_u : Try.prog.cellsOf 24 = 1 := by kernel_rfl
theorem ocells_ds : Try.prog.cellsOf 22 = 1 := by kernel_rfl

theorem oty {fuel : Nat} {cs : List Value} {y : DataW H × List MemPlace} (h : DataW.trod enc Try.prog W 0 (fun _ => true) true fuel 36 cs = some y) (hlt : ∀ x ∈ y.2, x.block < W.heap.size) : ∃ t : Ty, cs = t.cells := by
  obtain ⟨m, rfl, hl, hf⟩ := struct_open Try.underlying36 h hlt
  rw [ocells_ty] at hl
  obtain ⟨a0, a1, a2, a3, rfl⟩ := olist4 hl
  obtain ⟨z0, f0, _⟩ := hf 0 _ rfl
  obtain ⟨z1, f1, _⟩ := hf 1 _ rfl
  obtain ⟨z2, f2, _⟩ := hf 2 _ rfl
  obtain ⟨z3, f3, _⟩ := hf 3 _ rfl
  simp only [List.getElem_toArray, List.getElem_cons_zero, List.getElem_cons_succ, ocells_b, ocells_ty, ocells_vs, ocells_ss, ocells_ms, cells_int1, cells_str1, cells_smts, List.drop_succ_cons, List.drop_zero, List.take_succ_cons, List.take_zero] at f0 f1 f2 f3
  obtain ⟨k0, g0, _, _⟩ := DataW.trod_int Try.underlying3 f0
  obtain ⟨k1, g1, _, _⟩ := DataW.trod_int Try.underlying3 f1
  obtain ⟨k2, g2, _, _⟩ := DataW.trod_int Try.underlying3 f2
  obtain ⟨s, g3, _, _⟩ := DataW.trod_string Try.underlying9 f3
  simp at g0 g1 g2 g3
  subst g0 g1 g2 g3
  exact ⟨⟨k0, k1, k2, s⟩, rfl⟩
theorem ovd {fuel : Nat} {cs : List Value} {y : DataW H × List MemPlace} (h : DataW.trod enc Try.prog W 0 (fun _ => true) true fuel 74 cs = some y) (hlt : ∀ x ∈ y.2, x.block < W.heap.size) : ∃ v : Vd, cs = v.cells := by
  obtain ⟨m, rfl, hl, hf⟩ := struct_open Try.underlying74 h hlt
  rw [ocells_vd] at hl
  obtain ⟨a0, a1, a2, a3, a4, a5, a6, a7, rfl⟩ := olist8 hl
  obtain ⟨z0, f0, _⟩ := hf 0 _ rfl
  obtain ⟨z1, f1, p1⟩ := hf 1 _ rfl
  obtain ⟨z2, f2, _⟩ := hf 2 _ rfl
  obtain ⟨z3, f3, _⟩ := hf 3 _ rfl
  obtain ⟨z4, f4, _⟩ := hf 4 _ rfl
  simp only [List.getElem_toArray, List.getElem_cons_zero, List.getElem_cons_succ, ocells_b, ocells_ty, ocells_vs, ocells_ss, ocells_ms, cells_int1, cells_str1, cells_smts, List.drop_succ_cons, List.drop_zero, List.take_succ_cons, List.take_zero] at f0 f1 f2 f3 f4
  obtain ⟨s, g0, _, _⟩ := DataW.trod_string Try.underlying9 f0
  obtain ⟨t, g1⟩ := oty f1 p1
  obtain ⟨k2, g2, _, _⟩ := DataW.trod_int Try.underlying3 f2
  obtain ⟨k3, g3, _, _⟩ := DataW.trod_int Try.underlying3 f3
  obtain ⟨k4, g4, _, _⟩ := DataW.trod_int Try.underlying3 f4
  simp [Ty.cells] at g0 g1 g2 g3 g4
  obtain ⟨g1, g1b, g1c, g1d⟩ := g1
  subst g0 g1 g1b g1c g1d g2 g3 g4
  exact ⟨⟨s, t, k2, k3, k4⟩, rfl⟩
theorem ovs {fuel : Nat} {cs : List Value} {y : DataW H × List MemPlace} (h : DataW.trod enc Try.prog W 0 (fun _ => true) true fuel 39 cs = some y) (hlt : ∀ x ∈ y.2, x.block < W.heap.size) : ∃ (A : Option Addr) (l : List Vd) (c : Nat), cs = [.slice A l.length c] ∧ l.length ≤ 9223372036854775807 ∧ Rows W W.heap.size 8 A (l.map Vd.cells) := by
  obtain ⟨A, l, c, h1, h2, h3, _⟩ := rows_open (d := y.1) (p := y.2) Vd.cells (fun _ => True) Try.underlying39 ocells_vd (by decide) h hlt (by
    intro n cs' y' _ h' hlt'
    obtain ⟨v, hv⟩ := ovd h' hlt'
    exact ⟨v, hv, trivial⟩)
  exact ⟨A, l, c, h1, h2, h3⟩
theorem omd {fuel : Nat} {cs : List Value} {y : DataW H × List MemPlace} (h : DataW.trod enc Try.prog W 0 (fun _ => true) true fuel 50 cs = some y) (hlt : ∀ x ∈ y.2, x.block < W.heap.size) : ∃ m : Md, cs = m.cells ∧ MdAt W W.heap.size m := by
  obtain ⟨m, rfl, hl, hf⟩ := struct_open Try.underlying50 h hlt
  rw [ocells_md] at hl
  obtain ⟨a0, a1, a2, a3, a4, a5, a6, a7, a8, a9, a10, rfl⟩ := olist11 hl
  obtain ⟨z0, f0, _⟩ := hf 0 _ rfl
  obtain ⟨z1, f1, _⟩ := hf 1 _ rfl
  obtain ⟨z2, f2, _⟩ := hf 2 _ rfl
  obtain ⟨z3, f3, _⟩ := hf 3 _ rfl
  obtain ⟨z4, f4, p4⟩ := hf 4 _ rfl
  obtain ⟨z5, f5, p5⟩ := hf 5 _ rfl
  obtain ⟨z6, f6, p6⟩ := hf 6 _ rfl
  obtain ⟨z7, f7, p7⟩ := hf 7 _ rfl
  simp only [List.getElem_toArray, List.getElem_cons_zero, List.getElem_cons_succ, ocells_b, ocells_ty, ocells_vs, ocells_ss, ocells_ms, cells_int1, cells_str1, cells_smts, List.drop_succ_cons, List.drop_zero, List.take_succ_cons, List.take_zero] at f0 f1 f2 f3 f4 f5 f6 f7
  obtain ⟨s, g0, _, _⟩ := DataW.trod_string Try.underlying9 f0
  obtain ⟨b1, g1, _⟩ := DataW.trod_bool Try.underlying4 f1
  obtain ⟨b2, g2, _⟩ := DataW.trod_bool Try.underlying4 f2
  obtain ⟨b3, g3, _⟩ := DataW.trod_bool Try.underlying4 f3
  obtain ⟨A4, l4, c4, g4, q4, r4⟩ := ovs f4 p4
  obtain ⟨t, g5⟩ := oty f5 p5
  obtain ⟨A6, l6, c6, g6, q6, r6⟩ := ovs f6 p6
  obtain ⟨A7, l7, c7, g7, q7⟩ := sts_open _ _ _ f7 p7
  simp [Ty.cells] at g0 g1 g2 g3 g4 g5 g6 g7
  obtain ⟨g5, g5b, g5c, g5d⟩ := g5
  subst g0 g1 g2 g3 g4 g5 g5b g5c g5d g6 g7
  exact ⟨⟨s, b1, b2, b3, A4, l4, c4, t, A6, l6, c6, A7, l7, c7⟩, rfl, ⟨r4, r6, q4, q6, ⟨_, q7⟩⟩⟩
theorem odk {fuel : Nat} {cs : List Value} {y : DataW H × List MemPlace} (h : DataW.trod enc Try.prog W 0 (fun _ => true) true fuel 48 cs = some y) (hlt : ∀ x ∈ y.2, x.block < W.heap.size) : ∃ d : Dk, cs = d.cells ∧ DkAt W W.heap.size d := by
  obtain ⟨m, rfl, hl, hf⟩ := struct_open Try.underlying48 h hlt
  rw [ocells_dk] at hl
  obtain ⟨a0, a1, a2, a3, a4, a5, a6, a7, a8, a9, a10, rfl⟩ := olist11 hl
  obtain ⟨z0, f0, _⟩ := hf 0 _ rfl
  obtain ⟨z1, f1, _⟩ := hf 1 _ rfl
  obtain ⟨z2, f2, _⟩ := hf 2 _ rfl
  obtain ⟨z3, f3, p3⟩ := hf 3 _ rfl
  obtain ⟨z4, f4, _⟩ := hf 4 _ rfl
  obtain ⟨z5, f5, _⟩ := hf 5 _ rfl
  obtain ⟨z6, f6, p6⟩ := hf 6 _ rfl
  obtain ⟨z7, f7, p7⟩ := hf 7 _ rfl
  obtain ⟨z8, f8, p8⟩ := hf 8 _ rfl
  obtain ⟨z9, f9, _⟩ := hf 9 _ rfl
  obtain ⟨z10, f10, _⟩ := hf 10 _ rfl
  simp only [List.getElem_toArray, List.getElem_cons_zero, List.getElem_cons_succ, ocells_b, ocells_ty, ocells_vs, ocells_ss, ocells_ms, cells_int1, cells_str1, cells_smts, List.drop_succ_cons, List.drop_zero, List.take_succ_cons, List.take_zero] at f0 f1 f2 f3 f4 f5 f6 f7 f8 f9 f10
  obtain ⟨k0, g0, _, _⟩ := DataW.trod_int Try.underlying3 f0
  obtain ⟨s1, g1, _, _⟩ := DataW.trod_string Try.underlying9 f1
  obtain ⟨s2, g2, _, _⟩ := DataW.trod_string Try.underlying9 f2
  obtain ⟨A3, l3, c3, g3, q3, r3, _⟩ := rows_open (d := z3.1) (p := z3.2) (fun s : ByteArray => [Value.string s]) (fun _ => True) Try.underlying45 cells_str1 (by decide) f3 p3 (by
    intro n cs' y' _ h' _
    obtain ⟨s, g, _, _⟩ := DataW.trod_string Try.underlying9 h'
    exact ⟨s, g, trivial⟩)
  obtain ⟨b4, g4, _⟩ := DataW.trod_bool Try.underlying4 f4
  obtain ⟨b5, g5, _⟩ := DataW.trod_bool Try.underlying4 f5
  obtain ⟨A6, l6, c6, g6, q6, r6⟩ := ovs f6 p6
  obtain ⟨A7, l7, c7, g7, q7, r7, e7⟩ := rows_open (d := z7.1) (p := z7.2) Md.cells (fun m => MdAt W W.heap.size m) Try.underlying46 ocells_md (by decide) f7 p7 (by
    intro n cs' y' _ h' hlt'
    exact omd h' hlt')
  obtain ⟨A8, l8, c8, g8, q8⟩ := sts_open _ _ _ f8 p8
  obtain ⟨k9, g9, _, _⟩ := DataW.trod_int Try.underlying3 f9
  obtain ⟨k10, g10, _, _⟩ := DataW.trod_int Try.underlying3 f10
  simp at g0 g1 g2 g3 g4 g5 g6 g7 g8 g9 g10
  subst g0 g1 g2 g3 g4 g5 g6 g7 g8 g9 g10
  exact ⟨⟨k0, s1, s2, A3, l3, c3, b4, b5, A6, l6, c6, A7, l7, c7, A8, l8, c8, k9, k10⟩, rfl, ⟨r3, r6, r7, e7, q3, q6, q7, ⟨_, q8⟩⟩⟩
set_option maxRecDepth 100000 in
theorem unit_open {fuel : Nat} {cs : List Value} {y : DataW H × List MemPlace} (h : DataW.trod enc Try.prog W 0 (fun _ => true) true fuel 24 cs = some y) (hlt : ∀ x ∈ y.2, x.block < W.heap.size) :
    ∃ (a : Option Addr) (u : List Dk) (c : Nat), cs = [.slice a u.length c] ∧ u.length ≤ 9223372036854775807 ∧ (u.length ≤ 1000000000 → UnitAt W W.heap.size a u) := by
  obtain ⟨m, rfl, hl, hf⟩ := struct_open Try.underlying24 h hlt
  obtain ⟨z0, f0, p0⟩ := hf 0 _ rfl
  rw [ocells_u] at hl
  obtain ⟨a0, rfl⟩ : ∃ a0, cs = [a0] := by
    match cs, hl with
    | [a], _ => exact ⟨a, rfl⟩
  simp only [List.getElem_toArray, List.getElem_cons_zero, ocells_ds, List.drop_zero, List.take_succ_cons, List.take_zero] at f0
  obtain ⟨A, l, c, g, q, r, e⟩ := rows_open (d := z0.1) (p := z0.2) Dk.cells (fun d => DkAt W W.heap.size d) Try.underlying22 ocells_dk (by decide) f0 p0 (by
    intro n cs' y' _ h' hlt'
    exact odk h' hlt')
  exact ⟨A, l, c, g, q, fun hs => ⟨r, e, hs⟩⟩
end
end Go.Proofs.Ytmhdcehpddbjaaa
