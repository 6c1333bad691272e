/- Expressions and statements that were handed in. -/
import Derived.Test.YtmhdcehpddbjaaaOpenRows
namespace Go.Proofs.Ytmhdcehpddbjaaa
open Go.ChangeShapes Go.WideShapes Go.ChangeAt Go.RowKit Go.Deep

section
variable {H : Type} {enc : TypeId × Value → H} {W : World}
theorem struct_open {P : Program} {fs : Array Field} {t : TypeId} {fuel : Nat} {cs : List Value} {y : DataW H × List MemPlace} (ht : P.underlying t = some (.struct fs)) (h : DataW.trod enc P W 0 (fun _ => true) true fuel t cs = some y) (hlt : ∀ x ∈ y.2, x.block < W.heap.size) :
    ∃ n, fuel = n + 1 ∧ cs.length = P.cellsOf t ∧ ∀ (i : Nat) (f : Field), fs[i]? = some f → ∃ z : DataW H × List MemPlace, DataW.trod enc P W 0 (fun _ => true) true n f.type ((cs.drop f.offset).take (P.cellsOf f.type)) = some z ∧ ∀ x ∈ z.2, x.block < W.heap.size := by
  obtain ⟨xs, n, hfu, hy, hl, hxl, hf⟩ := DataW.trod_struct ht h
  refine ⟨n, hfu, hl, fun i f hi => ?_⟩
  obtain ⟨z, hz⟩ : ∃ z, xs[i]? = some z := ⟨_, List.getElem?_eq_getElem (by rw [hxl]; exact (Array.getElem?_eq_some_iff.1 hi).1)⟩
  refine ⟨z, (hf i f hi).trans hz, fun x hx => hlt x ?_⟩
  rw [hy]
  exact List.mem_flatMap.2 ⟨z, List.mem_of_getElem? hz, hx⟩

theorem ExsAt.more : ∀ {f f' : Nat} {B : Nat} {A : Option Addr} {l : List Ex}, ExsAt f W B A l → f ≤ f' → ExsAt f' W B A l
  | 0, 0, _, _, _, h, _ => h
  | 0, _ + 1, _, _, _, h, _ => by
    obtain rfl : _ = [] := h
    exact ⟨by simp, Rows.nil_ _ _ _ _, fun e he => by cases he⟩
  | _ + 1, _ + 1, _, _, _, h, hf => ⟨h.1, h.2.1, fun e he => ExsAt.more (h.2.2 e he) (by omega)⟩
theorem StsAt.more : ∀ {f f' : Nat} {B : Nat} {A : Option Addr} {l : List St}, StsAt f W B A l → f ≤ f' → StsAt f' W B A l
  | 0, 0, _, _, _, h, _ => h
  | 0, _ + 1, _, _, _, h, _ => by
    obtain rfl : _ = [] := h
    exact ⟨by simp, Rows.nil_ _ _ _ _, fun e he => by cases he⟩
  | _ + 1, _ + 1, _, _, _, h, hf => ⟨h.1, h.2.1, fun s hs => by
      obtain ⟨h1, h2, h5, h6, h7⟩ := h.2.2 s hs
      exact ⟨h1.more (by omega), h2, h5, h6, fun b hb => StsAt.more (h7 b hb) (by omega)⟩⟩

theorem list5 {l : List Value} (h : l.length = 5) : ∃ a b c d e, l = [a, b, c, d, e] := by
  match l, h with
  | [a, b, c, d, e], _ => exact ⟨a, b, c, d, e, rfl⟩
theorem list6 {l : List Value} (h : l.length = 6) : ∃ a b c d e f, l = [a, b, c, d, e, f] := by
  match l, h with
  | [a, b, c, d, e, f], _ => exact ⟨a, b, c, d, e, f, rfl⟩
theorem cells_ex : Try.prog.cellsOf 29 = 5 := by kernel_rfl
theorem cells_exs : Try.prog.cellsOf 27 = 1 := by kernel_rfl
theorem cells_smt : Try.prog.cellsOf 58 = 6 := by kernel_rfl
theorem cells_smts : Try.prog.cellsOf 30 = 1 := by kernel_rfl
theorem cells_bks : Try.prog.cellsOf 55 = 1 := by kernel_rfl
theorem cells_lbs : Try.prog.cellsOf 56 = 1 := by kernel_rfl
theorem cells_ints : Try.prog.cellsOf 92 = 1 := by kernel_rfl
theorem cells_int1 : Try.prog.cellsOf 3 = 1 := by kernel_rfl
theorem cells_str1 : Try.prog.cellsOf 9 = 1 := by kernel_rfl

theorem exs_open : ∀ (fuel : Nat) (cs : List Value) (y : DataW H × List MemPlace), DataW.trod enc Try.prog W 0 (fun _ => true) true fuel 27 cs = some y → (∀ x ∈ y.2, x.block < W.heap.size) →
    ∃ (A : Option Addr) (l : List Ex) (c : Nat), cs = [.slice A l.length c] ∧ ExsAt fuel W W.heap.size A l := by
  intro fuel
  induction fuel using Nat.strongRecOn with
  | ind fuel ih =>
  intro cs y h hlt
  obtain ⟨A, l, c, h1, h2, h3, h4⟩ := rows_open (d := y.1) (p := y.2) Ex.cells (fun e => ExsAt (fuel - 1) W W.heap.size e.A e.args) Try.underlying27 cells_ex (by decide) h hlt (by
    intro n cs' y' hn h' hlt'
    obtain ⟨m, rfl, hl, hf⟩ := struct_open Try.underlying29 h' hlt'
    rw [cells_ex] at hl
    obtain ⟨a0, a1, a2, a3, a4, rfl⟩ := list5 hl
    obtain ⟨z0, f0, _⟩ := hf 0 _ rfl
    obtain ⟨z1, f1, _⟩ := hf 1 _ rfl
    obtain ⟨z2, f2, _⟩ := hf 2 _ rfl
    obtain ⟨z3, f3, _⟩ := hf 3 _ rfl
    obtain ⟨z4, f4, p4⟩ := hf 4 _ rfl
    simp only [List.getElem_toArray, List.getElem_cons_zero, List.getElem_cons_succ, cells_int1, cells_str1, cells_exs, List.drop_succ_cons, List.drop_zero, List.take_succ_cons, List.take_zero] at f0 f1 f2 f3 f4
    obtain ⟨k, g0, _, _⟩ := DataW.trod_int Try.underlying3 f0
    obtain ⟨k1, g1, _, _⟩ := DataW.trod_int Try.underlying3 f1
    obtain ⟨s2, g2, _, _⟩ := DataW.trod_string Try.underlying9 f2
    obtain ⟨s3, g3, _, _⟩ := DataW.trod_string Try.underlying9 f3
    obtain ⟨A4, l4, c4, g4, q4⟩ := ih m (by omega) _ _ f4 p4
    simp at g0 g1 g2 g3 g4
    subst g0 g1 g2 g3 g4
    exact ⟨.mk k k1 s2 s3 A4 l4 c4, rfl, q4.more (by omega)⟩)
  refine ⟨A, l, c, h1, ?_⟩
  cases fuel with
  | zero => simp [DataW.trod] at h
  | succ f => exact ⟨h2, h3, h4⟩
theorem lbs_open {fuel : Nat} {cs : List Value} {y : DataW H × List MemPlace} (h : DataW.trod enc Try.prog W 0 (fun _ => true) true fuel 56 cs = some y) (hlt : ∀ x ∈ y.2, x.block < W.heap.size) :
    ∃ (A : Option Addr) (l : List Lb) (c : Nat), cs = [.slice A l.length c] ∧ l.length ≤ 9223372036854775807 ∧ Rows W W.heap.size 1 A (l.map Lb.cells) ∧ ∀ x ∈ l, x.xs.length ≤ 9223372036854775807 ∧ Rows W W.heap.size 1 x.A (x.xs.map fun n => [Value.int .i64 n]) := by
  refine rows_open (d := y.1) (p := y.2) Lb.cells (fun x => x.xs.length ≤ 9223372036854775807 ∧ Rows W W.heap.size 1 x.A (x.xs.map fun n => [Value.int .i64 n])) Try.underlying56 cells_ints (by decide) h hlt ?_
  intro n cs' y' _ h' hlt'
  obtain ⟨A, l, c, h1, h2, h3, _⟩ := rows_open (d := y'.1) (p := y'.2) (fun n : Int => [Value.int .i64 n]) (fun _ => True) Try.underlying92 cells_int1 (by decide) h' hlt' (by
    intro n2 cs2 y2 _ h2 _
    obtain ⟨k, g, _, _⟩ := DataW.trod_int Try.underlying3 h2
    exact ⟨k, g, trivial⟩)
  exact ⟨⟨A, l, c⟩, h1, h2, h3⟩

theorem sts_open : ∀ (fuel : Nat) (cs : List Value) (y : DataW H × List MemPlace), DataW.trod enc Try.prog W 0 (fun _ => true) true fuel 30 cs = some y → (∀ x ∈ y.2, x.block < W.heap.size) →
    ∃ (A : Option Addr) (l : List St) (c : Nat), cs = [.slice A l.length c] ∧ StsAt fuel W W.heap.size A l := by
  intro fuel
  induction fuel using Nat.strongRecOn with
  | ind fuel ih =>
  intro cs y h hlt
  obtain ⟨A, l, c, h1, h2, h3, h4⟩ := rows_open (d := y.1) (p := y.2) St.cells (fun s => ExsAt (fuel - 1) W W.heap.size s.eA s.es ∧
      (s.ls.length ≤ 9223372036854775807 ∧ Rows W W.heap.size 1 s.lA (s.ls.map Lb.cells) ∧ ∀ x ∈ s.ls, x.xs.length ≤ 9223372036854775807 ∧ Rows W W.heap.size 1 x.A (x.xs.map fun n => [Value.int .i64 n])) ∧
      s.bs.length ≤ 9223372036854775807 ∧ Rows W W.heap.size 1 s.bA (s.bs.map Bk.cells) ∧ ∀ b ∈ s.bs, StsAt (fuel - 1) W W.heap.size b.A b.l) Try.underlying30 cells_smt (by decide) h hlt (by
    intro n cs' y' hn h' hlt'
    obtain ⟨m, rfl, hl, hf⟩ := struct_open Try.underlying58 h' hlt'
    rw [cells_smt] at hl
    obtain ⟨a0, a1, a2, a3, a4, a5, rfl⟩ := list6 hl
    obtain ⟨z0, f0, _⟩ := hf 0 _ rfl
    obtain ⟨z1, f1, _⟩ := hf 1 _ rfl
    obtain ⟨z2, f2, _⟩ := hf 2 _ rfl
    obtain ⟨z3, f3, p3⟩ := hf 3 _ rfl
    obtain ⟨z4, f4, p4⟩ := hf 4 _ rfl
    obtain ⟨z5, f5, p5⟩ := hf 5 _ rfl
    simp only [List.getElem_toArray, List.getElem_cons_zero, List.getElem_cons_succ, cells_int1, cells_str1, cells_exs, cells_lbs, cells_bks, List.drop_succ_cons, List.drop_zero, List.take_succ_cons, List.take_zero] at f0 f1 f2 f3 f4 f5
    obtain ⟨k, g0, _, _⟩ := DataW.trod_int Try.underlying3 f0
    obtain ⟨k1, g1, _, _⟩ := DataW.trod_int Try.underlying3 f1
    obtain ⟨s2, g2, _, _⟩ := DataW.trod_string Try.underlying9 f2
    obtain ⟨A3, l3, c3, g3, q3⟩ := exs_open m _ _ f3 p3
    obtain ⟨A4, l4, c4, g4, q4⟩ := lbs_open f4 p4
    obtain ⟨A5, l5, c5, g5, q5, q6, q7⟩ := rows_open (d := z5.1) (p := z5.2) Bk.cells (fun b => StsAt (fuel - 1) W W.heap.size b.A b.l) Try.underlying55 cells_smts (by decide) f5 p5 (by
      intro n2 cs2 y2 hn2 h2 hlt2
      obtain ⟨A, l, c, e1, e2⟩ := ih n2 (by omega) _ _ h2 hlt2
      exact ⟨.mk A l c, e1, e2.more (by omega)⟩)
    simp at g0 g1 g2 g3 g4 g5
    subst g0 g1 g2 g3 g4 g5
    exact ⟨.mk k k1 s2 A3 l3 c3 A4 l4 c4 A5 l5 c5, rfl, q3.more (by omega), q4, q5, q6, q7⟩)
  refine ⟨A, l, c, h1, ?_⟩
  cases fuel with
  | zero => simp [DataW.trod] at h
  | succ f => exact ⟨h2, h3, h4⟩
end
end Go.Proofs.Ytmhdcehpddbjaaa
