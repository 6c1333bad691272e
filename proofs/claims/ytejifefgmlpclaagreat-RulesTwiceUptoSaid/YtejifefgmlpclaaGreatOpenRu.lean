/- A slice that was handed in, as rows: given what each element's cells are. -/
import Derived.Test.YtejifefgmlpclaaGreatTabA
import Derived.ProofKit
import Derived.Below
import Derived.Carry
import Derived.KernelRfl
import Derived.Deep.Slices
import Derived.Deep.Fields
import Derived.Deep.Grids
import Derived.ChangeSame
import Derived.Test.YtejifefgmlpclaaGreatRows
import Derived.Test.YtejifefgmlpclaaGreatRuR
set_option linter.unusedSimpArgs false
set_option linter.unusedVariables false
namespace Go.Proofs.YtejifefgmlpclaaGreat
open Go.ChangeShapes Go.WideShapes Go.ChangeAt Go.RowKit Go.Deep

theorem rows_open {H : Type} {enc : TypeId × Value → H} {P : Program} {W : World} {α : Type} (F : α → List Value) (Q : α → Prop) {t e : TypeId} {sz fuel : Nat} {cs : List Value} {d : DataW H} {p : List MemPlace}
    (ht : P.underlying t = some (.slice e)) (hsz : P.cellsOf e = sz) (h0 : 0 < sz)
    (hf : DataW.trod enc P W 0 (fun _ => true) true fuel t cs = some (d, p)) (hlt : ∀ x ∈ p, x.block < W.heap.size)
    (hel : ∀ n cs' y, n < fuel → DataW.trod enc P W 0 (fun _ => true) true n e cs' = some y → (∀ x ∈ y.2, x.block < W.heap.size) → ∃ r, cs' = F r ∧ Q r) :
    ∃ (A : Option Addr) (l : List α) (c : Nat), cs = [.slice A l.length c] ∧ l.length ≤ 9223372036854775807 ∧ Rows W W.heap.size sz A (l.map F) ∧ ∀ r ∈ l, Q r := by
  rcases DataW.trod_slice ht hf with ⟨hcs, _⟩ | ⟨a, len, cap, elems, rest, n, hfu, hcs, hx, _, hl, hm, hlen, hel2, _, _⟩
  · exact ⟨none, [], 0, hcs, by simp, Rows.nil_ _ _ _ _, fun r hr => by cases hr⟩
  · simp only [Prod.mk.injEq] at hx
    rw [hsz] at hx hel2
    obtain ⟨V, hV⟩ : ∃ V : List α, V.length = len ∧ ∀ i r, V[i]? = some r → W.cells? 0 (a.add (i * sz)) sz = some (F r) ∧ Q r := by
      have key : ∀ k, k ≤ len → ∃ V : List α, V.length = k ∧ ∀ i r, V[i]? = some r → W.cells? 0 (a.add (i * sz)) sz = some (F r) ∧ Q r := by
        intro k
        induction k with
        | zero => exact fun _ => ⟨[], rfl, fun i r h => by simp at h⟩
        | succ k ih =>
          intro hk
          obtain ⟨V, h1, h2⟩ := ih (by omega)
          obtain ⟨y, hy⟩ : ∃ y, elems[k]? = some y := ⟨_, List.getElem?_eq_getElem (by omega)⟩
          have h3 := (hel2 k (by omega)).trans hy
          obtain ⟨cs', hc, ht'⟩ := Option.bind_eq_some_iff.1 h3
          obtain ⟨r, rfl, hq⟩ := hel n cs' y (by omega) ht' (fun x hxm => hlt x (by
            rw [hx.2]
            exact List.mem_append_right _ (List.mem_flatMap.2 ⟨y, List.mem_append_left _ (List.mem_of_getElem? hy), hxm⟩)))
          refine ⟨V ++ [r], by simp [h1], fun i r' hr' => ?_⟩
          rcases Nat.lt_or_ge i k with h | h
          · rw [List.getElem?_append_left (by omega)] at hr'; exact h2 i r' hr'
          · rw [List.getElem?_append_right (by omega)] at hr'
            have hi0 : i - V.length = 0 := by
              have := (List.getElem?_eq_some_iff.1 hr').1
              simp at this; omega
            rw [hi0] at hr'
            obtain rfl : r = r' := by simpa using hr'
            obtain rfl : i = k := by omega
            exact ⟨hc, hq⟩
      exact key len (Nat.le_refl _)
    obtain ⟨hVl, hV⟩ := hV
    have hmx : len ≤ 9223372036854775807 := Nat.le_trans hl (Nat.le_trans hm (by decide))
    refine ⟨some a, V, cap, by rw [hVl]; exact hcs, by omega, fun hn => ?_, fun r hr => ?_⟩
    · have hl0 : 0 < len := by rw [← hVl]; simpa using hn
      have hc : ∀ i r, V[i]? = some r → ∀ j x, (F r)[j]? = some x → j < sz ∧ W.cell? (a.add (i * sz + j)) = some x := fun i r hr j x hx => by
        obtain ⟨_, hlen', hat⟩ := World.cells?_some (hV i r hr).1
        have hj : j < sz := by rw [← hlen']; exact (List.getElem?_eq_some_iff.1 hx).1
        refine ⟨hj, ?_⟩
        rw [← Go.Deep.add_add, hat j hj, hx]
      obtain ⟨r0, hr0⟩ : ∃ r, V[0]? = some r := ⟨_, List.getElem?_eq_getElem (by omega)⟩
      obtain ⟨_, hlen0, _⟩ := World.cells?_some (hV 0 r0 hr0).1
      obtain ⟨x0, hx0⟩ : ∃ x, (F r0)[0]? = some x := ⟨_, List.getElem?_eq_getElem (by omega)⟩
      obtain ⟨b, off, spot⟩ := a
      have hspot : spot = none := by simpa [Addr.add] using World.cell?_spot (hc 0 r0 hr0 0 x0 hx0).2
      subst hspot
      refine ⟨b, off, rfl, hlt (.cell b off) ?_, fun i r hr j x hx' => ?_⟩
      · rw [hx.2]
        exact List.mem_append_left _ (MemPlace.mem_row.2 ⟨0, Nat.mul_pos (by omega) h0, by simp⟩)
      · rw [List.getElem?_map] at hr
        obtain ⟨r', hr', rfl⟩ := Option.map_eq_some_iff.1 hr
        rw [Nat.add_assoc, ← add_plain]
        exact (hc i r' hr' j x hx').2
    · obtain ⟨i, hi⟩ := List.getElem?_of_mem hr
      exact (hV i r hi).2
end Go.Proofs.YtejifefgmlpclaaGreat
/- Expressions and statements that were handed in. -/
namespace Go.Proofs.YtejifefgmlpclaaGreat
open Go.ChangeShapes Go.WideShapes Go.ChangeAt Go.RowKit Go.Deep

section
variable {H : Type} {enc : TypeId × Value → H} {W : World}
theorem struct_open {P : Program} {fs : Array Field} {t : TypeId} {fuel : Nat} {cs : List Value} {y : DataW H × List MemPlace} (ht : P.underlying t = some (.struct fs)) (h : DataW.trod enc P W 0 (fun _ => true) true fuel t cs = some y) (hlt : ∀ x ∈ y.2, x.block < W.heap.size) :
    ∃ n, fuel = n + 1 ∧ cs.length = P.cellsOf t ∧ ∀ (i : Nat) (f : Field), fs[i]? = some f → ∃ z : DataW H × List MemPlace, DataW.trod enc P W 0 (fun _ => true) true n f.type ((cs.drop f.offset).take (P.cellsOf f.type)) = some z ∧ ∀ x ∈ z.2, x.block < W.heap.size := by
  obtain ⟨xs, n, hfu, hy, hl, hxl, hf⟩ := DataW.trod_struct ht h
  refine ⟨n, hfu, hl, fun i f hi => ?_⟩
  obtain ⟨z, hz⟩ : ∃ z, xs[i]? = some z := ⟨_, List.getElem?_eq_getElem (by rw [hxl]; exact (Array.getElem?_eq_some_iff.1 hi).1)⟩
  refine ⟨z, (hf i f hi).trans hz, fun x hx => hlt x ?_⟩
  rw [hy]
  exact List.mem_flatMap.2 ⟨z, List.mem_of_getElem? hz, hx⟩

theorem ExsAt.more : ∀ {f f' : Nat} {B : Nat} {A : Option Addr} {l : List Ex}, ExsAt f W B A l → f ≤ f' → ExsAt f' W B A l
  | 0, 0, _, _, _, h, _ => h
  | 0, _ + 1, _, _, _, h, _ => by
    obtain rfl : _ = [] := h
    exact ⟨by simp, Rows.nil_ _ _ _ _, fun e he => by cases he⟩
  | _ + 1, _ + 1, _, _, _, h, hf => ⟨h.1, h.2.1, fun e he => ExsAt.more (h.2.2 e he) (by omega)⟩
theorem StsAt.more : ∀ {f f' : Nat} {B : Nat} {A : Option Addr} {l : List St}, StsAt f W B A l → f ≤ f' → StsAt f' W B A l
  | 0, 0, _, _, _, h, _ => h
  | 0, _ + 1, _, _, _, h, _ => by
    obtain rfl : _ = [] := h
    exact ⟨by simp, Rows.nil_ _ _ _ _, fun e he => by cases he⟩
  | _ + 1, _ + 1, _, _, _, h, hf => ⟨h.1, h.2.1, fun s hs => by
      obtain ⟨h1, h2, h5, h6, h7⟩ := h.2.2 s hs
      exact ⟨h1.more (by omega), h2, h5, h6, fun b hb => StsAt.more (h7 b hb) (by omega)⟩⟩

theorem list5 {l : List Value} (h : l.length = 5) : ∃ a b c d e, l = [a, b, c, d, e] := by
  match l, h with
  | [a, b, c, d, e], _ => exact ⟨a, b, c, d, e, rfl⟩
theorem list6 {l : List Value} (h : l.length = 6) : ∃ a b c d e f, l = [a, b, c, d, e, f] := by
  match l, h with
  | [a, b, c, d, e, f], _ => exact ⟨a, b, c, d, e, f, rfl⟩
theorem cells_ex : Tryz.prog.cellsOf 79 = 5 := by kernel_rfl
theorem cells_exs : Tryz.prog.cellsOf 56 = 1 := by kernel_rfl
theorem cells_smt : Tryz.prog.cellsOf 60 = 6 := by kernel_rfl
theorem cells_smts : Tryz.prog.cellsOf 32 = 1 := by kernel_rfl
theorem cells_bks : Tryz.prog.cellsOf 58 = 1 := by kernel_rfl
theorem cells_lbs : Tryz.prog.cellsOf 57 = 1 := by kernel_rfl
theorem cells_ints : Tryz.prog.cellsOf 62 = 1 := by kernel_rfl
theorem cells_int1 : Tryz.prog.cellsOf 3 = 1 := by kernel_rfl
theorem cells_str1 : Tryz.prog.cellsOf 9 = 1 := by kernel_rfl

theorem exs_open : ∀ (fuel : Nat) (cs : List Value) (y : DataW H × List MemPlace), DataW.trod enc Tryz.prog W 0 (fun _ => true) true fuel 56 cs = some y → (∀ x ∈ y.2, x.block < W.heap.size) →
    ∃ (A : Option Addr) (l : List Ex) (c : Nat), cs = [.slice A l.length c] ∧ ExsAt fuel W W.heap.size A l := by
  intro fuel
  induction fuel using Nat.strongRecOn with
  | ind fuel ih =>
  intro cs y h hlt
  obtain ⟨A, l, c, h1, h2, h3, h4⟩ := rows_open (d := y.1) (p := y.2) Ex.cells (fun e => ExsAt (fuel - 1) W W.heap.size e.A e.args) Tryz.underlying56 cells_ex (by decide) h hlt (by
    intro n cs' y' hn h' hlt'
    obtain ⟨m, rfl, hl, hf⟩ := struct_open Tryz.underlying79 h' hlt'
    rw [cells_ex] at hl
    obtain ⟨a0, a1, a2, a3, a4, rfl⟩ := list5 hl
    obtain ⟨z0, f0, _⟩ := hf 0 _ rfl
    obtain ⟨z1, f1, _⟩ := hf 1 _ rfl
    obtain ⟨z2, f2, _⟩ := hf 2 _ rfl
    obtain ⟨z3, f3, _⟩ := hf 3 _ rfl
    obtain ⟨z4, f4, p4⟩ := hf 4 _ rfl
    simp only [List.getElem_toArray, List.getElem_cons_zero, List.getElem_cons_succ, cells_int1, cells_str1, cells_exs, List.drop_succ_cons, List.drop_zero, List.take_succ_cons, List.take_zero] at f0 f1 f2 f3 f4
    obtain ⟨k, g0, _, _⟩ := DataW.trod_int Tryz.underlying3 f0
    obtain ⟨k1, g1, _, _⟩ := DataW.trod_int Tryz.underlying3 f1
    obtain ⟨s2, g2, _, _⟩ := DataW.trod_string Tryz.underlying9 f2
    obtain ⟨s3, g3, _, _⟩ := DataW.trod_string Tryz.underlying9 f3
    obtain ⟨A4, l4, c4, g4, q4⟩ := ih m (by omega) _ _ f4 p4
    simp at g0 g1 g2 g3 g4
    subst g0 g1 g2 g3 g4
    exact ⟨.mk k k1 s2 s3 A4 l4 c4, rfl, q4.more (by omega)⟩)
  refine ⟨A, l, c, h1, ?_⟩
  cases fuel with
  | zero => simp [DataW.trod] at h
  | succ f => exact ⟨h2, h3, h4⟩
theorem lbs_open {fuel : Nat} {cs : List Value} {y : DataW H × List MemPlace} (h : DataW.trod enc Tryz.prog W 0 (fun _ => true) true fuel 57 cs = some y) (hlt : ∀ x ∈ y.2, x.block < W.heap.size) :
    ∃ (A : Option Addr) (l : List Lb) (c : Nat), cs = [.slice A l.length c] ∧ l.length ≤ 9223372036854775807 ∧ Rows W W.heap.size 1 A (l.map Lb.cells) ∧ ∀ x ∈ l, x.xs.length ≤ 9223372036854775807 ∧ Rows W W.heap.size 1 x.A (x.xs.map fun n => [Value.int .i64 n]) := by
  refine rows_open (d := y.1) (p := y.2) Lb.cells (fun x => x.xs.length ≤ 9223372036854775807 ∧ Rows W W.heap.size 1 x.A (x.xs.map fun n => [Value.int .i64 n])) Tryz.underlying57 cells_ints (by decide) h hlt ?_
  intro n cs' y' _ h' hlt'
  obtain ⟨A, l, c, h1, h2, h3, _⟩ := rows_open (d := y'.1) (p := y'.2) (fun n : Int => [Value.int .i64 n]) (fun _ => True) Tryz.underlying62 cells_int1 (by decide) h' hlt' (by
    intro n2 cs2 y2 _ h2 _
    obtain ⟨k, g, _, _⟩ := DataW.trod_int Tryz.underlying3 h2
    exact ⟨k, g, trivial⟩)
  exact ⟨⟨A, l, c⟩, h1, h2, h3⟩

theorem sts_open : ∀ (fuel : Nat) (cs : List Value) (y : DataW H × List MemPlace), DataW.trod enc Tryz.prog W 0 (fun _ => true) true fuel 32 cs = some y → (∀ x ∈ y.2, x.block < W.heap.size) →
    ∃ (A : Option Addr) (l : List St) (c : Nat), cs = [.slice A l.length c] ∧ StsAt fuel W W.heap.size A l := by
  intro fuel
  induction fuel using Nat.strongRecOn with
  | ind fuel ih =>
  intro cs y h hlt
  obtain ⟨A, l, c, h1, h2, h3, h4⟩ := rows_open (d := y.1) (p := y.2) St.cells (fun s => ExsAt (fuel - 1) W W.heap.size s.eA s.es ∧
      (s.ls.length ≤ 9223372036854775807 ∧ Rows W W.heap.size 1 s.lA (s.ls.map Lb.cells) ∧ ∀ x ∈ s.ls, x.xs.length ≤ 9223372036854775807 ∧ Rows W W.heap.size 1 x.A (x.xs.map fun n => [Value.int .i64 n])) ∧
      s.bs.length ≤ 9223372036854775807 ∧ Rows W W.heap.size 1 s.bA (s.bs.map Bk.cells) ∧ ∀ b ∈ s.bs, StsAt (fuel - 1) W W.heap.size b.A b.l) Tryz.underlying32 cells_smt (by decide) h hlt (by
    intro n cs' y' hn h' hlt'
    obtain ⟨m, rfl, hl, hf⟩ := struct_open Tryz.underlying60 h' hlt'
    rw [cells_smt] at hl
    obtain ⟨a0, a1, a2, a3, a4, a5, rfl⟩ := list6 hl
    obtain ⟨z0, f0, _⟩ := hf 0 _ rfl
    obtain ⟨z1, f1, _⟩ := hf 1 _ rfl
    obtain ⟨z2, f2, _⟩ := hf 2 _ rfl
    obtain ⟨z3, f3, p3⟩ := hf 3 _ rfl
    obtain ⟨z4, f4, p4⟩ := hf 4 _ rfl
    obtain ⟨z5, f5, p5⟩ := hf 5 _ rfl
    simp only [List.getElem_toArray, List.getElem_cons_zero, List.getElem_cons_succ, cells_int1, cells_str1, cells_exs, cells_lbs, cells_bks, List.drop_succ_cons, List.drop_zero, List.take_succ_cons, List.take_zero] at f0 f1 f2 f3 f4 f5
    obtain ⟨k, g0, _, _⟩ := DataW.trod_int Tryz.underlying3 f0
    obtain ⟨k1, g1, _, _⟩ := DataW.trod_int Tryz.underlying3 f1
    obtain ⟨s2, g2, _, _⟩ := DataW.trod_string Tryz.underlying9 f2
    obtain ⟨A3, l3, c3, g3, q3⟩ := exs_open m _ _ f3 p3
    obtain ⟨A4, l4, c4, g4, q4⟩ := lbs_open f4 p4
    obtain ⟨A5, l5, c5, g5, q5, q6, q7⟩ := rows_open (d := z5.1) (p := z5.2) Bk.cells (fun b => StsAt (fuel - 1) W W.heap.size b.A b.l) Tryz.underlying58 cells_smts (by decide) f5 p5 (by
      intro n2 cs2 y2 hn2 h2 hlt2
      obtain ⟨A, l, c, e1, e2⟩ := ih n2 (by omega) _ _ h2 hlt2
      exact ⟨.mk A l c, e1, e2.more (by omega)⟩)
    simp at g0 g1 g2 g3 g4 g5
    subst g0 g1 g2 g3 g4 g5
    exact ⟨.mk k k1 s2 A3 l3 c3 A4 l4 c4 A5 l5 c5, rfl, q3.more (by omega), q4, q5, q6, q7⟩)
  refine ⟨A, l, c, h1, ?_⟩
  cases fuel with
  | zero => simp [DataW.trod] at h
  | succ f => exact ⟨h2, h3, h4⟩
end
end Go.Proofs.YtejifefgmlpclaaGreat
/- A unit that was handed in. -/
namespace Go.Proofs.YtejifefgmlpclaaGreat
open Go.ChangeShapes Go.WideShapes Go.ChangeAt Go.RowKit Go.Deep

section
variable {H : Type} {enc : TypeId × Value → H} {W : World}
theorem olist4 {l : List Value} (h : l.length = 4) : ∃ a0 a1 a2 a3, l = [a0, a1, a2, a3] := by
  match l, h with
  | [a0, a1, a2, a3], _ => exact ⟨a0, a1, a2, a3, rfl⟩
theorem olist8 {l : List Value} (h : l.length = 8) : ∃ a0 a1 a2 a3 a4 a5 a6 a7, l = [a0, a1, a2, a3, a4, a5, a6, a7] := by
  match l, h with
  | [a0, a1, a2, a3, a4, a5, a6, a7], _ => exact ⟨a0, a1, a2, a3, a4, a5, a6, a7, rfl⟩
theorem olist11 {l : List Value} (h : l.length = 11) : ∃ a0 a1 a2 a3 a4 a5 a6 a7 a8 a9 a10, l = [a0, a1, a2, a3, a4, a5, a6, a7, a8, a9, a10] := by
  match l, h with
  | [a0, a1, a2, a3, a4, a5, a6, a7, a8, a9, a10], _ => exact ⟨a0, a1, a2, a3, a4, a5, a6, a7, a8, a9, a10, rfl⟩
theorem ocells_ty : Tryz.prog.cellsOf 44 = 4 := by kernel_rfl
theorem ocells_vd : Tryz.prog.cellsOf 55 = 8 := by kernel_rfl
theorem ocells_md : Tryz.prog.cellsOf 46 = 11 := by kernel_rfl
theorem ocells_dk : Tryz.prog.cellsOf 34 = 11 := by kernel_rfl
theorem ocells_b : Tryz.prog.cellsOf 4 = 1 := by kernel_rfl
theorem ocells_vs : Tryz.prog.cellsOf 30 = 1 := by kernel_rfl
theorem ocells_ss : Tryz.prog.cellsOf 29 = 1 := by kernel_rfl
theorem ocells_ms : Tryz.prog.cellsOf 31 = 1 := by kernel_rfl
theorem ocells_u : Tryz.prog.cellsOf 24 = 1 := by kernel_rfl
theorem ocells_ds : Tryz.prog.cellsOf 22 = 1 := by kernel_rfl

theorem oty {fuel : Nat} {cs : List Value} {y : DataW H × List MemPlace} (h : DataW.trod enc Tryz.prog W 0 (fun _ => true) true fuel 44 cs = some y) (hlt : ∀ x ∈ y.2, x.block < W.heap.size) : ∃ t : Ty, cs = t.cells := by
  obtain ⟨m, rfl, hl, hf⟩ := struct_open Tryz.underlying44 h hlt
  rw [ocells_ty] at hl
  obtain ⟨a0, a1, a2, a3, rfl⟩ := olist4 hl
  obtain ⟨z0, f0, _⟩ := hf 0 _ rfl
  obtain ⟨z1, f1, _⟩ := hf 1 _ rfl
  obtain ⟨z2, f2, _⟩ := hf 2 _ rfl
  obtain ⟨z3, f3, _⟩ := hf 3 _ rfl
  simp only [List.getElem_toArray, List.getElem_cons_zero, List.getElem_cons_succ, ocells_b, ocells_ty, ocells_vs, ocells_ss, ocells_ms, cells_int1, cells_str1, cells_smts, List.drop_succ_cons, List.drop_zero, List.take_succ_cons, List.take_zero] at f0 f1 f2 f3
  obtain ⟨k0, g0, _, _⟩ := DataW.trod_int Tryz.underlying3 f0
  obtain ⟨k1, g1, _, _⟩ := DataW.trod_int Tryz.underlying3 f1
  obtain ⟨k2, g2, _, _⟩ := DataW.trod_int Tryz.underlying3 f2
  obtain ⟨s, g3, _, _⟩ := DataW.trod_string Tryz.underlying9 f3
  simp at g0 g1 g2 g3
  subst g0 g1 g2 g3
  exact ⟨⟨k0, k1, k2, s⟩, rfl⟩
theorem ovd {fuel : Nat} {cs : List Value} {y : DataW H × List MemPlace} (h : DataW.trod enc Tryz.prog W 0 (fun _ => true) true fuel 55 cs = some y) (hlt : ∀ x ∈ y.2, x.block < W.heap.size) : ∃ v : Vd, cs = v.cells := by
  obtain ⟨m, rfl, hl, hf⟩ := struct_open Tryz.underlying55 h hlt
  rw [ocells_vd] at hl
  obtain ⟨a0, a1, a2, a3, a4, a5, a6, a7, rfl⟩ := olist8 hl
  obtain ⟨z0, f0, _⟩ := hf 0 _ rfl
  obtain ⟨z1, f1, p1⟩ := hf 1 _ rfl
  obtain ⟨z2, f2, _⟩ := hf 2 _ rfl
  obtain ⟨z3, f3, _⟩ := hf 3 _ rfl
  obtain ⟨z4, f4, _⟩ := hf 4 _ rfl
  simp only [List.getElem_toArray, List.getElem_cons_zero, List.getElem_cons_succ, ocells_b, ocells_ty, ocells_vs, ocells_ss, ocells_ms, cells_int1, cells_str1, cells_smts, List.drop_succ_cons, List.drop_zero, List.take_succ_cons, List.take_zero] at f0 f1 f2 f3 f4
  obtain ⟨s, g0, _, _⟩ := DataW.trod_string Tryz.underlying9 f0
  obtain ⟨t, g1⟩ := oty f1 p1
  obtain ⟨k2, g2, _, _⟩ := DataW.trod_int Tryz.underlying3 f2
  obtain ⟨k3, g3, _, _⟩ := DataW.trod_int Tryz.underlying3 f3
  obtain ⟨k4, g4, _, _⟩ := DataW.trod_int Tryz.underlying3 f4
  simp [Ty.cells] at g0 g1 g2 g3 g4
  obtain ⟨g1, g1b, g1c, g1d⟩ := g1
  subst g0 g1 g1b g1c g1d g2 g3 g4
  exact ⟨⟨s, t, k2, k3, k4⟩, rfl⟩
theorem ovs {fuel : Nat} {cs : List Value} {y : DataW H × List MemPlace} (h : DataW.trod enc Tryz.prog W 0 (fun _ => true) true fuel 30 cs = some y) (hlt : ∀ x ∈ y.2, x.block < W.heap.size) : ∃ (A : Option Addr) (l : List Vd) (c : Nat), cs = [.slice A l.length c] ∧ l.length ≤ 9223372036854775807 ∧ Rows W W.heap.size 8 A (l.map Vd.cells) := by
  obtain ⟨A, l, c, h1, h2, h3, _⟩ := rows_open (d := y.1) (p := y.2) Vd.cells (fun _ => True) Tryz.underlying30 ocells_vd (by decide) h hlt (by
    intro n cs' y' _ h' hlt'
    obtain ⟨v, hv⟩ := ovd h' hlt'
    exact ⟨v, hv, trivial⟩)
  exact ⟨A, l, c, h1, h2, h3⟩
theorem omd {fuel : Nat} {cs : List Value} {y : DataW H × List MemPlace} (h : DataW.trod enc Tryz.prog W 0 (fun _ => true) true fuel 46 cs = some y) (hlt : ∀ x ∈ y.2, x.block < W.heap.size) : ∃ m : Md, cs = m.cells ∧ MdAt W W.heap.size m := by
  obtain ⟨m, rfl, hl, hf⟩ := struct_open Tryz.underlying46 h hlt
  rw [ocells_md] at hl
  obtain ⟨a0, a1, a2, a3, a4, a5, a6, a7, a8, a9, a10, rfl⟩ := olist11 hl
  obtain ⟨z0, f0, _⟩ := hf 0 _ rfl
  obtain ⟨z1, f1, _⟩ := hf 1 _ rfl
  obtain ⟨z2, f2, _⟩ := hf 2 _ rfl
  obtain ⟨z3, f3, _⟩ := hf 3 _ rfl
  obtain ⟨z4, f4, p4⟩ := hf 4 _ rfl
  obtain ⟨z5, f5, p5⟩ := hf 5 _ rfl
  obtain ⟨z6, f6, p6⟩ := hf 6 _ rfl
  obtain ⟨z7, f7, p7⟩ := hf 7 _ rfl
  simp only [List.getElem_toArray, List.getElem_cons_zero, List.getElem_cons_succ, ocells_b, ocells_ty, ocells_vs, ocells_ss, ocells_ms, cells_int1, cells_str1, cells_smts, List.drop_succ_cons, List.drop_zero, List.take_succ_cons, List.take_zero] at f0 f1 f2 f3 f4 f5 f6 f7
  obtain ⟨s, g0, _, _⟩ := DataW.trod_string Tryz.underlying9 f0
  obtain ⟨b1, g1, _⟩ := DataW.trod_bool Tryz.underlying4 f1
  obtain ⟨b2, g2, _⟩ := DataW.trod_bool Tryz.underlying4 f2
  obtain ⟨b3, g3, _⟩ := DataW.trod_bool Tryz.underlying4 f3
  obtain ⟨A4, l4, c4, g4, q4, r4⟩ := ovs f4 p4
  obtain ⟨t, g5⟩ := oty f5 p5
  obtain ⟨A6, l6, c6, g6, q6, r6⟩ := ovs f6 p6
  obtain ⟨A7, l7, c7, g7, q7⟩ := sts_open _ _ _ f7 p7
  simp [Ty.cells] at g0 g1 g2 g3 g4 g5 g6 g7
  obtain ⟨g5, g5b, g5c, g5d⟩ := g5
  subst g0 g1 g2 g3 g4 g5 g5b g5c g5d g6 g7
  exact ⟨⟨s, b1, b2, b3, A4, l4, c4, t, A6, l6, c6, A7, l7, c7⟩, rfl, ⟨r4, r6, q4, q6, ⟨_, q7⟩⟩⟩
theorem odk {fuel : Nat} {cs : List Value} {y : DataW H × List MemPlace} (h : DataW.trod enc Tryz.prog W 0 (fun _ => true) true fuel 34 cs = some y) (hlt : ∀ x ∈ y.2, x.block < W.heap.size) : ∃ d : Dk, cs = d.cells ∧ DkAt W W.heap.size d := by
  obtain ⟨m, rfl, hl, hf⟩ := struct_open Tryz.underlying34 h hlt
  rw [ocells_dk] at hl
  obtain ⟨a0, a1, a2, a3, a4, a5, a6, a7, a8, a9, a10, rfl⟩ := olist11 hl
  obtain ⟨z0, f0, _⟩ := hf 0 _ rfl
  obtain ⟨z1, f1, _⟩ := hf 1 _ rfl
  obtain ⟨z2, f2, _⟩ := hf 2 _ rfl
  obtain ⟨z3, f3, p3⟩ := hf 3 _ rfl
  obtain ⟨z4, f4, _⟩ := hf 4 _ rfl
  obtain ⟨z5, f5, _⟩ := hf 5 _ rfl
  obtain ⟨z6, f6, p6⟩ := hf 6 _ rfl
  obtain ⟨z7, f7, p7⟩ := hf 7 _ rfl
  obtain ⟨z8, f8, p8⟩ := hf 8 _ rfl
  obtain ⟨z9, f9, _⟩ := hf 9 _ rfl
  obtain ⟨z10, f10, _⟩ := hf 10 _ rfl
  simp only [List.getElem_toArray, List.getElem_cons_zero, List.getElem_cons_succ, ocells_b, ocells_ty, ocells_vs, ocells_ss, ocells_ms, cells_int1, cells_str1, cells_smts, List.drop_succ_cons, List.drop_zero, List.take_succ_cons, List.take_zero] at f0 f1 f2 f3 f4 f5 f6 f7 f8 f9 f10
  obtain ⟨k0, g0, _, _⟩ := DataW.trod_int Tryz.underlying3 f0
  obtain ⟨s1, g1, _, _⟩ := DataW.trod_string Tryz.underlying9 f1
  obtain ⟨s2, g2, _, _⟩ := DataW.trod_string Tryz.underlying9 f2
  obtain ⟨A3, l3, c3, g3, q3, r3, _⟩ := rows_open (d := z3.1) (p := z3.2) (fun s : ByteArray => [Value.string s]) (fun _ => True) Tryz.underlying29 cells_str1 (by decide) f3 p3 (by
    intro n cs' y' _ h' _
    obtain ⟨s, g, _, _⟩ := DataW.trod_string Tryz.underlying9 h'
    exact ⟨s, g, trivial⟩)
  obtain ⟨b4, g4, _⟩ := DataW.trod_bool Tryz.underlying4 f4
  obtain ⟨b5, g5, _⟩ := DataW.trod_bool Tryz.underlying4 f5
  obtain ⟨A6, l6, c6, g6, q6, r6⟩ := ovs f6 p6
  obtain ⟨A7, l7, c7, g7, q7, r7, e7⟩ := rows_open (d := z7.1) (p := z7.2) Md.cells (fun m => MdAt W W.heap.size m) Tryz.underlying31 ocells_md (by decide) f7 p7 (by
    intro n cs' y' _ h' hlt'
    exact omd h' hlt')
  obtain ⟨A8, l8, c8, g8, q8⟩ := sts_open _ _ _ f8 p8
  obtain ⟨k9, g9, _, _⟩ := DataW.trod_int Tryz.underlying3 f9
  obtain ⟨k10, g10, _, _⟩ := DataW.trod_int Tryz.underlying3 f10
  simp at g0 g1 g2 g3 g4 g5 g6 g7 g8 g9 g10
  subst g0 g1 g2 g3 g4 g5 g6 g7 g8 g9 g10
  exact ⟨⟨k0, s1, s2, A3, l3, c3, b4, b5, A6, l6, c6, A7, l7, c7, A8, l8, c8, k9, k10⟩, rfl, ⟨r3, r6, r7, e7, q3, q6, q7, ⟨_, q8⟩⟩⟩
set_option maxRecDepth 100000 in
theorem unit_open {fuel : Nat} {cs : List Value} {y : DataW H × List MemPlace} (h : DataW.trod enc Tryz.prog W 0 (fun _ => true) true fuel 24 cs = some y) (hlt : ∀ x ∈ y.2, x.block < W.heap.size) :
    ∃ (a : Option Addr) (u : List Dk) (c : Nat), cs = [.slice a u.length c] ∧ u.length ≤ 9223372036854775807 ∧ (u.length ≤ 1000000000 → UnitAt W W.heap.size a u) := by
  obtain ⟨m, rfl, hl, hf⟩ := struct_open Tryz.underlying24 h hlt
  obtain ⟨z0, f0, p0⟩ := hf 0 _ rfl
  rw [ocells_u] at hl
  obtain ⟨a0, rfl⟩ : ∃ a0, cs = [a0] := by
    match cs, hl with
    | [a], _ => exact ⟨a, rfl⟩
  simp only [List.getElem_toArray, List.getElem_cons_zero, ocells_ds, List.drop_zero, List.take_succ_cons, List.take_zero] at f0
  obtain ⟨A, l, c, g, q, r, e⟩ := rows_open (d := z0.1) (p := z0.2) Dk.cells (fun d => DkAt W W.heap.size d) Tryz.underlying22 ocells_dk (by decide) f0 p0 (by
    intro n cs' y' _ h' hlt'
    exact odk h' hlt')
  exact ⟨A, l, c, g, q, fun hs => ⟨r, e, hs⟩⟩
end
end Go.Proofs.YtejifefgmlpclaaGreat
/- A unit that was handed in, of bulk at most so much: so long are its lists of variables at most. -/
namespace Go.Proofs.YtejifefgmlpclaaGreat
open Go.ChangeShapes Go.WideShapes Go.ChangeAt Go.RowKit Go.Deep

section
variable {H : Type}
theorem bulk_one (d : DataW H) : 1 ≤ Rows.uptoBulk d := by
  cases d with
  | lit l => cases l <;> simp [Rows.uptoBulk]
  | _ => simp [Rows.uptoBulk]
theorem bulk_part {d : DataW H} : ∀ {l : List (DataW H)}, d ∈ l → Rows.uptoBulk d ≤ Rows.uptoBulkAll l
  | x :: r, h => by
    simp only [Rows.uptoBulkAll]
    rcases List.mem_cons.1 h with rfl | h
    · omega
    · have := bulk_part h; omega
theorem bulk_len : ∀ l : List (DataW H), l.length ≤ Rows.uptoBulkAll l
  | [] => by simp
  | x :: r => by
    have h1 := bulk_len r
    have h2 := bulk_one x
    simp only [Rows.uptoBulkAll, List.length_cons]; omega
variable {enc : TypeId × Value → H} {W : World} {P : Program}
theorem slice_bulk {t e : TypeId} {fuel n c : Nat} {A : Option Addr} {z : DataW H × List MemPlace} {M : Nat} (ht : P.underlying t = some (.slice e))
    (hf : DataW.trod enc P W 0 (fun _ => true) true fuel t [.slice A n c] = some z) (hb : Rows.uptoBulk z.1 ≤ M) :
    n ≤ M ∧ ∀ i, i < n → ∃ (a : Addr) (m : Nat) (cs' : List Value) (y : DataW H × List MemPlace), A = some a ∧ W.cells? 0 (a.add (i * P.cellsOf e)) (P.cellsOf e) = some cs' ∧ DataW.trod enc P W 0 (fun _ => true) true m e cs' = some y ∧ Rows.uptoBulk y.1 ≤ M := by
  obtain ⟨d, p⟩ := z
  rcases DataW.trod_slice ht hf with ⟨hcs, _⟩ | ⟨a, len, cap, elems, rest, m, hfu, hcs, hx, _, hl, hm, hlen, hel2, _, _⟩
  · obtain ⟨_, rfl, _⟩ : A = none ∧ n = 0 ∧ c = 0 := by simpa using hcs
    exact ⟨Nat.zero_le _, fun i hi => absurd hi (Nat.not_lt_zero _)⟩
  · obtain ⟨rfl, rfl, rfl⟩ : A = some a ∧ n = len ∧ c = cap := by simpa using hcs
    simp only [Prod.mk.injEq] at hx
    have hb' := hb
    simp only [hx.1, Rows.uptoBulk] at hb'
    have h1 := bulk_len (elems.map (·.1))
    rw [List.length_map] at h1
    refine ⟨by omega, fun i hi => ?_⟩
    obtain ⟨y, hy⟩ : ∃ y, elems[i]? = some y := ⟨_, List.getElem?_eq_getElem (by omega)⟩
    have h3 := (hel2 i hi).trans hy
    obtain ⟨cs', hc, ht'⟩ := Option.bind_eq_some_iff.1 h3
    have h4 := bulk_part (List.mem_map_of_mem (f := (·.1)) (List.mem_of_getElem? hy))
    exact ⟨a, m, cs', y, rfl, hc, ht', by omega⟩
theorem struct_bulk {fs : Array Field} {t : TypeId} {fuel : Nat} {cs : List Value} {y : DataW H × List MemPlace} {M : Nat} (ht : P.underlying t = some (.struct fs)) (h : DataW.trod enc P W 0 (fun _ => true) true fuel t cs = some y) (hb : Rows.uptoBulk y.1 ≤ M) :
    ∃ n, ∀ (i : Nat) (f : Field), fs[i]? = some f → ∃ z : DataW H × List MemPlace, DataW.trod enc P W 0 (fun _ => true) true n f.type ((cs.drop f.offset).take (P.cellsOf f.type)) = some z ∧ Rows.uptoBulk z.1 ≤ M := by
  obtain ⟨xs, n, hfu, hy, hl, hxl, hf⟩ := DataW.trod_struct ht h
  refine ⟨n, fun i f hi => ?_⟩
  obtain ⟨z, hz⟩ : ∃ z, xs[i]? = some z := ⟨_, List.getElem?_eq_getElem (by rw [hxl]; exact (Array.getElem?_eq_some_iff.1 hi).1)⟩
  have h4 := bulk_part (List.mem_map_of_mem (f := (·.1)) (List.mem_of_getElem? hz))
  rw [hy] at hb
  simp only [Rows.uptoBulk] at hb
  exact ⟨z, (hf i f hi).trans hz, by omega⟩
end
set_option maxRecDepth 100000 in
theorem unit_bulk {H : Type} {enc : TypeId × Value → H} {W : World} {fuel c M : Nat} {a : Option Addr} {u : List Dk} {y : DataW H × List MemPlace}
    (h : DataW.trod enc Tryz.prog W 0 (fun _ => true) true fuel 24 [.slice a u.length c] = some y) (hb : Rows.uptoBulk y.1 ≤ M) (hu : UnitAt W W.heap.size a u) : ∀ x ∈ u, x.vs.length ≤ M := by
  intro x hx
  obtain ⟨i, hi⟩ := List.getElem?_of_mem hx
  have hil : i < u.length := (List.getElem?_eq_some_iff.1 hi).1
  obtain ⟨n, hs⟩ := struct_bulk Tryz.underlying24 h hb
  obtain ⟨z, hz, hzb⟩ := hs 0 _ rfl
  obtain ⟨b, off, rfl, _, hc⟩ := hu.at_ (by omega)
  have hz' : DataW.trod enc Tryz.prog W 0 (fun _ => true) true n 22 [.slice (some ⟨b, off, none⟩) u.length c] = some z := hz
  obtain ⟨_, hel⟩ := slice_bulk Tryz.underlying22 hz' hzb
  obtain ⟨ad, m, cs', y', had, hcs', hy', hyb⟩ := hel i hil
  obtain rfl : ⟨b, off, none⟩ = ad := by simpa using had
  have e11 : Tryz.prog.cellsOf 34 = 11 := by kernel_rfl
  rw [e11] at hcs'
  obtain ⟨_, hlen, hat⟩ := World.cells?_some hcs'
  obtain ⟨n2, hs2⟩ := struct_bulk Tryz.underlying34 hy' hyb
  obtain ⟨z6, hz6, hzb6⟩ := hs2 6 _ rfl
  have h6 : cs'[6]? = some (.slice x.vA x.vs.length x.vc) := by
    rw [← hat 6 (by omega), Go.WideShapes.add_plain, Go.WideShapes.add_plain]
    exact hc i x hi 6 _ rfl
  have e1 : Tryz.prog.cellsOf 30 = 1 := by kernel_rfl
  have hl6 : (cs'.drop 6).take 1 = [.slice x.vA x.vs.length x.vc] := by
    obtain ⟨h61, h62⟩ := List.getElem?_eq_some_iff.1 h6
    rw [List.drop_eq_getElem_cons h61, h62]; rfl
  have hz6' : DataW.trod enc Tryz.prog W 0 (fun _ => true) true n2 30 ((cs'.drop 6).take (Tryz.prog.cellsOf 30)) = some z6 := hz6
  rw [e1, hl6] at hz6'
  exact (slice_bulk Tryz.underlying30 hz6' hzb6).1
theorem string_bulk {H : Type} {enc : TypeId × Value → H} {W : World} {n M : Nat} {s : ByteArray} {z : DataW H × List MemPlace}
    (h : DataW.trod enc Tryz.prog W 0 (fun _ => true) true n 9 [.string s] = some z) (hb : Rows.uptoBulk z.1 ≤ M) : s.size ≤ M := by
  obtain ⟨d, p⟩ := z
  obtain ⟨s', g, hd, _⟩ := DataW.trod_string Tryz.underlying9 h
  obtain rfl : s = s' := by simpa using g
  have hd' : d = .lit (.string s.data.toList) := (Prod.mk.inj hd).1
  subst hd'
  simp only [Rows.uptoBulk] at hb
  have e : s.data.toList.length = s.size := by rw [Array.length_toList]; rfl
  omega
/-- What is known of each declaration: how long its lists and names are. -/
structure BulkAt (M : Nat) (d : Dk) : Prop where
  vars : d.vs.length ≤ M
  name : d.name.size ≤ M
  base : d.base.size ≤ M
  many : d.faces.length ≤ M
  faces : ∀ f ∈ d.faces, f.size ≤ M
set_option maxRecDepth 100000 in
theorem unit_bulks {H : Type} {enc : TypeId × Value → H} {W : World} {fuel c M : Nat} {a : Option Addr} {u : List Dk} {y : DataW H × List MemPlace}
    (h : DataW.trod enc Tryz.prog W 0 (fun _ => true) true fuel 24 [.slice a u.length c] = some y) (hb : Rows.uptoBulk y.1 ≤ M) (hu : UnitAt W W.heap.size a u) : ∀ x ∈ u, BulkAt M x := by
  intro x hx
  have hv := unit_bulk h hb hu x hx
  have hdk := hu.decls x hx
  obtain ⟨i, hi⟩ := List.getElem?_of_mem hx
  have hil : i < u.length := (List.getElem?_eq_some_iff.1 hi).1
  obtain ⟨n, hs⟩ := struct_bulk Tryz.underlying24 h hb
  obtain ⟨z, hz, hzb⟩ := hs 0 _ rfl
  obtain ⟨b, off, rfl, _, hc⟩ := hu.at_ (by omega)
  have hz' : DataW.trod enc Tryz.prog W 0 (fun _ => true) true n 22 [.slice (some ⟨b, off, none⟩) u.length c] = some z := hz
  obtain ⟨_, hel⟩ := slice_bulk Tryz.underlying22 hz' hzb
  obtain ⟨ad, m, cs', y', had, hcs', hy', hyb⟩ := hel i hil
  obtain rfl : ⟨b, off, none⟩ = ad := by simpa using had
  have e11 : Tryz.prog.cellsOf 34 = 11 := by kernel_rfl
  rw [e11] at hcs'
  obtain ⟨_, hlen, hat⟩ := World.cells?_some hcs'
  obtain ⟨n2, hs2⟩ := struct_bulk Tryz.underlying34 hy' hyb
  have at_ : ∀ j, j < 11 → ∀ v, x.cells[j]? = some v → (cs'.drop j).take 1 = [v] := fun j hj v hv => by
    have h6 : cs'[j]? = some v := by
      rw [← hat j (by omega), Go.WideShapes.add_plain, Go.WideShapes.add_plain]
      exact hc i x hi j _ hv
    obtain ⟨h61, h62⟩ := List.getElem?_eq_some_iff.1 h6
    rw [List.drop_eq_getElem_cons h61, h62]; rfl
  have eS : Tryz.prog.cellsOf 9 = 1 := by kernel_rfl
  have eF : Tryz.prog.cellsOf 29 = 1 := by kernel_rfl
  obtain ⟨z1, hz1, hb1⟩ := hs2 1 _ rfl
  obtain ⟨z2, hz2, hb2⟩ := hs2 2 _ rfl
  obtain ⟨z3, hz3, hb3⟩ := hs2 3 _ rfl
  have g1 : DataW.trod enc Tryz.prog W 0 (fun _ => true) true n2 9 ((cs'.drop 1).take (Tryz.prog.cellsOf 9)) = some z1 := hz1
  have g2 : DataW.trod enc Tryz.prog W 0 (fun _ => true) true n2 9 ((cs'.drop 2).take (Tryz.prog.cellsOf 9)) = some z2 := hz2
  have g3 : DataW.trod enc Tryz.prog W 0 (fun _ => true) true n2 29 ((cs'.drop 3).take (Tryz.prog.cellsOf 29)) = some z3 := hz3
  rw [eS, at_ 1 (by omega) _ rfl] at g1
  rw [eS, at_ 2 (by omega) _ rfl] at g2
  rw [eF, at_ 3 (by omega) _ rfl] at g3
  obtain ⟨f1, f2⟩ := slice_bulk Tryz.underlying29 g3 hb3
  refine ⟨hv, string_bulk g1 hb1, string_bulk g2 hb2, f1, fun f hf => ?_⟩
  obtain ⟨j, hj⟩ := List.getElem?_of_mem hf
  have hjl : j < x.faces.length := (List.getElem?_eq_some_iff.1 hj).1
  obtain ⟨ad, m2, cs2, y2, had2, hcs2, hy2, hyb2⟩ := f2 j hjl
  obtain ⟨b2, off2, hfa, _, hcf⟩ := hdk.face (by omega)
  rw [hfa] at had2
  obtain rfl : ⟨b2, off2, none⟩ = ad := by simpa using had2
  rw [eS] at hcs2
  obtain ⟨_, hlen2, hat2⟩ := World.cells?_some hcs2
  have h0 : cs2[0]? = some (.string f) := by
    rw [← hat2 0 (by omega), Go.WideShapes.add_plain, Go.WideShapes.add_plain]
    simpa using hcf j f hj
  have hcs : cs2 = [.string f] := by
    match cs2, hlen2, h0 with
    | [v], _, h0 => simpa using h0
  rw [hcs] at hy2
  exact string_bulk hy2 hyb2
end Go.Proofs.YtejifefgmlpclaaGreat
/- A unit that was handed in, of bulk at most M: how it lies, how long its lists are, that no slice is longer than its room, that slots are numbers of 64 bits. -/
namespace Go.Proofs.YtejifefgmlpclaaGreat
open Go.ChangeShapes Go.WideShapes Go.ChangeAt Go.RowKit Go.Deep

theorem bulk_appc {H : Type} : ∀ (a b : List (DataW H)), Rows.uptoBulkAll (a ++ b) = Rows.uptoBulkAll a + Rows.uptoBulkAll b
  | [], b => by simp [Rows.uptoBulkAll]
  | x :: a, b => by simp only [List.cons_append, Rows.uptoBulkAll, bulk_appc a b]; omega
theorem rows_openc {H : Type} {enc : TypeId × Value → H} {P : Program} {W : World} {α : Type} {M : Nat} (g : α → Nat) (F : α → List Value) (Q : α → Prop) {t e : TypeId} {sz fuel : Nat} {cs : List Value} {d : DataW H} {p : List MemPlace}
    (ht : P.underlying t = some (.slice e)) (hsz : P.cellsOf e = sz) (h0 : 0 < sz)
    (hf : DataW.trod enc P W 0 (fun _ => true) true fuel t cs = some (d, p)) (hlt : ∀ x ∈ p, x.block < W.heap.size) (hb : Rows.uptoBulk d ≤ M)
    (hel : ∀ n cs' y, n < fuel → DataW.trod enc P W 0 (fun _ => true) true n e cs' = some y → (∀ x ∈ y.2, x.block < W.heap.size) → Rows.uptoBulk y.1 ≤ M → ∃ r, cs' = F r ∧ Q r ∧ g r ≤ Rows.uptoBulk y.1) :
    ∃ (A : Option Addr) (l : List α) (c : Nat), cs = [.slice A l.length c] ∧ l.length ≤ 9223372036854775807 ∧ Rows W W.heap.size sz A (l.map F) ∧ (∀ r ∈ l, Q r) ∧ l.length ≤ M ∧ (l.map g).sum ≤ M ∧ l.length ≤ c := by
  rcases DataW.trod_slice ht hf with ⟨hcs, _⟩ | ⟨a, len, cap, elems, rest, n, hfu, hcs, hx, _, hl, hm, hlen, hel2, _, _⟩
  · exact ⟨none, [], 0, hcs, by simp, Rows.nil_ _ _ _ _, (fun r hr => by cases hr), Nat.zero_le _, Nat.zero_le _, Nat.le_refl _⟩
  · simp only [Prod.mk.injEq] at hx
    rw [hsz] at hx hel2
    have hb' := hb
    simp only [hx.1, Rows.uptoBulk] at hb'
    have hbl := bulk_len (elems.map (·.1))
    rw [List.length_map] at hbl
    obtain ⟨V, hV⟩ : ∃ V : List α, (V.length = len ∧ ∀ i r, V[i]? = some r → W.cells? 0 (a.add (i * sz)) sz = some (F r) ∧ Q r) ∧ (V.map g).sum ≤ Rows.uptoBulkAll ((elems.take len).map (·.1)) := by
      have key : ∀ k, k ≤ len → ∃ V : List α, (V.length = k ∧ ∀ i r, V[i]? = some r → W.cells? 0 (a.add (i * sz)) sz = some (F r) ∧ Q r) ∧ (V.map g).sum ≤ Rows.uptoBulkAll ((elems.take k).map (·.1)) := by
        intro k
        induction k with
        | zero => exact fun _ => ⟨[], ⟨rfl, fun i r h => by simp at h⟩, by simp⟩
        | succ k ih =>
          intro hk
          obtain ⟨V, ⟨h1, h2⟩, hsum⟩ := ih (by omega)
          obtain ⟨y, hy⟩ : ∃ y, elems[k]? = some y := ⟨_, List.getElem?_eq_getElem (by omega)⟩
          have h3 := (hel2 k (by omega)).trans hy
          obtain ⟨cs', hc, ht'⟩ := Option.bind_eq_some_iff.1 h3
          have hby := bulk_part (List.mem_map_of_mem (f := (·.1)) (List.mem_of_getElem? hy))
          obtain ⟨r, rfl, hq, hgr⟩ := hel n cs' y (by omega) ht' (fun x hxm => hlt x (by
            rw [hx.2]
            exact List.mem_append_right _ (List.mem_flatMap.2 ⟨y, List.mem_append_left _ (List.mem_of_getElem? hy), hxm⟩))) (by omega)
          refine ⟨V ++ [r], ⟨by simp [h1], fun i r' hr' => ?_⟩, by
            simp only [List.map_append, List.sum_append, bulk_appc, List.take_add_one, hy, Option.toList_some, List.map_cons, List.map_nil, List.sum_cons, List.sum_nil, Rows.uptoBulkAll]
            omega⟩
          rcases Nat.lt_or_ge i k with h | h
          · rw [List.getElem?_append_left (by omega)] at hr'; exact h2 i r' hr'
          · rw [List.getElem?_append_right (by omega)] at hr'
            have hi0 : i - V.length = 0 := by
              have := (List.getElem?_eq_some_iff.1 hr').1
              simp at this; omega
            rw [hi0] at hr'
            obtain rfl : r = r' := by simpa using hr'
            obtain rfl : i = k := by omega
            exact ⟨hc, hq⟩
      exact key len (Nat.le_refl _)
    obtain ⟨⟨hVl, hV⟩, hVs⟩ := hV
    have htk : Rows.uptoBulkAll ((elems.take len).map (·.1)) ≤ Rows.uptoBulkAll (elems.map (·.1)) := by
      have h := congrArg (fun l => Rows.uptoBulkAll (l.map (·.1))) (List.take_append_drop len elems)
      simp only [List.map_append, bulk_appc] at h
      omega
    have hmx : len ≤ 9223372036854775807 := Nat.le_trans hl (Nat.le_trans hm (by decide))
    refine ⟨some a, V, cap, by rw [hVl]; exact hcs, by omega, fun hn => ?_, fun r hr => ?_, by omega, by omega, by omega⟩
    · have hl0 : 0 < len := by rw [← hVl]; simpa using hn
      have hc : ∀ i r, V[i]? = some r → ∀ j x, (F r)[j]? = some x → j < sz ∧ W.cell? (a.add (i * sz + j)) = some x := fun i r hr j x hx => by
        obtain ⟨_, hlen', hat⟩ := World.cells?_some (hV i r hr).1
        have hj : j < sz := by rw [← hlen']; exact (List.getElem?_eq_some_iff.1 hx).1
        refine ⟨hj, ?_⟩
        rw [← Go.Deep.add_add, hat j hj, hx]
      obtain ⟨r0, hr0⟩ : ∃ r, V[0]? = some r := ⟨_, List.getElem?_eq_getElem (by omega)⟩
      obtain ⟨_, hlen0, _⟩ := World.cells?_some (hV 0 r0 hr0).1
      obtain ⟨x0, hx0⟩ : ∃ x, (F r0)[0]? = some x := ⟨_, List.getElem?_eq_getElem (by omega)⟩
      obtain ⟨b, off, spot⟩ := a
      have hspot : spot = none := by simpa [Addr.add] using World.cell?_spot (hc 0 r0 hr0 0 x0 hx0).2
      subst hspot
      refine ⟨b, off, rfl, hlt (.cell b off) ?_, fun i r hr j x hx' => ?_⟩
      · rw [hx.2]
        exact List.mem_append_left _ (MemPlace.mem_row.2 ⟨0, Nat.mul_pos (by omega) h0, by simp⟩)
      · rw [List.getElem?_map] at hr
        obtain ⟨r', hr', rfl⟩ := Option.map_eq_some_iff.1 hr
        rw [Nat.add_assoc, ← add_plain]
        exact (hc i r' hr' j x hx').2
    · obtain ⟨i, hi⟩ := List.getElem?_of_mem hr
      exact (hV i r hi).2
section
variable {H : Type} {enc : TypeId × Value → H} {W : World}
theorem struct_openc {P : Program} {M : Nat} {fs : Array Field} {t : TypeId} {fuel : Nat} {cs : List Value} {y : DataW H × List MemPlace} (ht : P.underlying t = some (.struct fs)) (h : DataW.trod enc P W 0 (fun _ => true) true fuel t cs = some y) (hlt : ∀ x ∈ y.2, x.block < W.heap.size) (hb : Rows.uptoBulk y.1 ≤ M) :
    ∃ n, fuel = n + 1 ∧ cs.length = P.cellsOf t ∧ ∀ (i : Nat) (f : Field), fs[i]? = some f → ∃ z : DataW H × List MemPlace, DataW.trod enc P W 0 (fun _ => true) true n f.type ((cs.drop f.offset).take (P.cellsOf f.type)) = some z ∧ (∀ x ∈ z.2, x.block < W.heap.size) ∧ Rows.uptoBulk z.1 ≤ M := by
  obtain ⟨xs, n, hfu, hy, hl, hxl, hf⟩ := DataW.trod_struct ht h
  refine ⟨n, hfu, hl, fun i f hi => ?_⟩
  obtain ⟨z, hz⟩ : ∃ z, xs[i]? = some z := ⟨_, List.getElem?_eq_getElem (by rw [hxl]; exact (Array.getElem?_eq_some_iff.1 hi).1)⟩
  have h4 := bulk_part (List.mem_map_of_mem (f := (·.1)) (List.mem_of_getElem? hz))
  rw [hy] at hb
  simp only [Rows.uptoBulk] at hb
  refine ⟨z, (hf i f hi).trans hz, fun x hx => hlt x ?_, by omega⟩
  rw [hy]
  exact List.mem_flatMap.2 ⟨z, List.mem_of_getElem? hz, hx⟩

theorem exs_openc {M : Nat} (hM : M ≤ 1000000000) : ∀ (fuel : Nat) (cs : List Value) (y : DataW H × List MemPlace), DataW.trod enc Tryz.prog W 0 (fun _ => true) true fuel 56 cs = some y → (∀ x ∈ y.2, x.block < W.heap.size) → Rows.uptoBulk y.1 ≤ M →
    ∃ (A : Option Addr) (l : List Ex) (c : Nat), cs = [.slice A l.length c] ∧ ExsAt fuel W W.heap.size A l ∧ ∀ k, ExLim k l := by
  intro fuel
  induction fuel using Nat.strongRecOn with
  | ind fuel ih =>
  intro cs y h hlt hb
  obtain ⟨A, l, c, h1, h2, h3, h4, h5, _⟩ := rows_openc (fun _ => 0) (d := y.1) (p := y.2) Ex.cells (fun e => ExsAt (fuel - 1) W W.heap.size e.A e.args ∧ ∀ k, ExLim k e.args) Tryz.underlying56 cells_ex (by decide) h hlt hb (by
    intro n cs' y' hn h' hlt' hb'
    obtain ⟨m, rfl, hl, hf⟩ := struct_openc Tryz.underlying79 h' hlt' hb'
    rw [cells_ex] at hl
    obtain ⟨a0, a1, a2, a3, a4, rfl⟩ := list5 hl
    obtain ⟨z0, f0, _⟩ := hf 0 _ rfl
    obtain ⟨z1, f1, _⟩ := hf 1 _ rfl
    obtain ⟨z2, f2, _⟩ := hf 2 _ rfl
    obtain ⟨z3, f3, _⟩ := hf 3 _ rfl
    obtain ⟨z4, f4, p4, b4⟩ := hf 4 _ rfl
    simp only [List.getElem_toArray, List.getElem_cons_zero, List.getElem_cons_succ, cells_int1, cells_str1, cells_exs, List.drop_succ_cons, List.drop_zero, List.take_succ_cons, List.take_zero] at f0 f1 f2 f3 f4
    obtain ⟨k, g0, _, _⟩ := DataW.trod_int Tryz.underlying3 f0
    obtain ⟨k1, g1, _, _⟩ := DataW.trod_int Tryz.underlying3 f1
    obtain ⟨s2, g2, _, _⟩ := DataW.trod_string Tryz.underlying9 f2
    obtain ⟨s3, g3, _, _⟩ := DataW.trod_string Tryz.underlying9 f3
    obtain ⟨A4, l4, c4, g4, q4, q5⟩ := ih m (by omega) _ _ f4 p4 b4
    simp at g0 g1 g2 g3 g4
    subst g0 g1 g2 g3 g4
    exact ⟨.mk k k1 s2 s3 A4 l4 c4, rfl, ⟨q4.more (by omega), q5⟩, Nat.zero_le _⟩)
  refine ⟨A, l, c, h1, ?_, fun k => ?_⟩
  · cases fuel with
    | zero => simp [DataW.trod] at h
    | succ f => exact ⟨h2, h3, fun e he => (h4 e he).1⟩
  · cases k with
    | zero => trivial
    | succ k => exact ⟨by omega, fun e he => (h4 e he).2 k⟩
theorem lbs_openc {M : Nat} {fuel : Nat} {cs : List Value} {y : DataW H × List MemPlace} (h : DataW.trod enc Tryz.prog W 0 (fun _ => true) true fuel 57 cs = some y) (hlt : ∀ x ∈ y.2, x.block < W.heap.size) (hb : Rows.uptoBulk y.1 ≤ M) :
    ∃ (A : Option Addr) (l : List Lb) (c : Nat), cs = [.slice A l.length c] ∧ l.length ≤ 9223372036854775807 ∧ Rows W W.heap.size 1 A (l.map Lb.cells) ∧ (∀ x ∈ l, x.xs.length ≤ 9223372036854775807 ∧ Rows W W.heap.size 1 x.A (x.xs.map fun n => [Value.int .i64 n])) ∧ (∀ n ∈ (l.map (·.xs)).flatten, (Lit.int .i64 n).wf = true) ∧ l.length ≤ M ∧ (l.map (·.xs)).flatten.length ≤ M := by
  obtain ⟨A, l, c, h1, h2, h3, h4, h5, h6, _⟩ := rows_openc (fun x : Lb => x.xs.length) (d := y.1) (p := y.2) Lb.cells (fun x => (x.xs.length ≤ 9223372036854775807 ∧ Rows W W.heap.size 1 x.A (x.xs.map fun n => [Value.int .i64 n])) ∧ ∀ n ∈ x.xs, (Lit.int .i64 n).wf = true) Tryz.underlying57 cells_ints (by decide) h hlt hb (by
    intro n cs' y' _ h' hlt' _
    obtain ⟨A, l, c, h1, h2, h3, h4, h5, _⟩ := rows_openc (fun _ => 0) (d := y'.1) (p := y'.2) (fun n : Int => [Value.int .i64 n]) (fun n => (Lit.int .i64 n).wf = true) Tryz.underlying62 cells_int1 (by decide) h' hlt' (Nat.le_refl _) (by
      intro n2 cs2 y2 _ h2 _ _
      obtain ⟨k, g, g1, g2⟩ := DataW.trod_int Tryz.underlying3 h2
      exact ⟨k, g, by first | exact g1 | exact g2 | exact g2.1 | exact g1.1 | simp_all, Nat.zero_le _⟩)
    exact ⟨⟨A, l, c⟩, h1, ⟨⟨h2, h3⟩, h4⟩, h5⟩)
  refine ⟨A, l, c, h1, h2, h3, fun x hx => (h4 x hx).1, fun n hn => ?_, h5, ?_⟩
  · obtain ⟨q, hq, hnq⟩ := List.mem_flatten.1 hn
    obtain ⟨x, hx, rfl⟩ := List.mem_map.1 hq
    exact (h4 x hx).2 n hnq
  · rw [List.length_flatten, List.map_map]
    exact h6

theorem sts_openc {M : Nat} (hM : M ≤ 1000000000) : ∀ (fuel : Nat) (cs : List Value) (y : DataW H × List MemPlace), DataW.trod enc Tryz.prog W 0 (fun _ => true) true fuel 32 cs = some y → (∀ x ∈ y.2, x.block < W.heap.size) → Rows.uptoBulk y.1 ≤ M →
    ∃ (A : Option Addr) (l : List St) (c : Nat), cs = [.slice A l.length c] ∧ StsAt fuel W W.heap.size A l ∧ l.length ≤ M ∧ ∀ k, StsLim k l := by
  intro fuel
  induction fuel using Nat.strongRecOn with
  | ind fuel ih =>
  intro cs y h hlt hb
  obtain ⟨A, l, c, h1, h2, h3, h4, h5, _⟩ := rows_openc (fun _ => 0) (d := y.1) (p := y.2) St.cells (fun s => (ExsAt (fuel - 1) W W.heap.size s.eA s.es ∧
      (s.ls.length ≤ 9223372036854775807 ∧ Rows W W.heap.size 1 s.lA (s.ls.map Lb.cells) ∧ ∀ x ∈ s.ls, x.xs.length ≤ 9223372036854775807 ∧ Rows W W.heap.size 1 x.A (x.xs.map fun n => [Value.int .i64 n])) ∧
      s.bs.length ≤ 9223372036854775807 ∧ Rows W W.heap.size 1 s.bA (s.bs.map Bk.cells) ∧ ∀ b ∈ s.bs, StsAt (fuel - 1) W W.heap.size b.A b.l) ∧ (StLim s ∧ (∀ k, ExLim k s.es) ∧ (∀ n ∈ (s.ls.map (·.xs)).flatten, (Lit.int .i64 n).wf = true) ∧ ∀ b ∈ s.bs, ∀ k, StsLim k b.l)) Tryz.underlying32 cells_smt (by decide) h hlt hb (by
    intro n cs' y' hn h' hlt' hb'
    obtain ⟨m, rfl, hl, hf⟩ := struct_openc Tryz.underlying60 h' hlt' hb'
    rw [cells_smt] at hl
    obtain ⟨a0, a1, a2, a3, a4, a5, rfl⟩ := list6 hl
    obtain ⟨z0, f0, _⟩ := hf 0 _ rfl
    obtain ⟨z1, f1, _⟩ := hf 1 _ rfl
    obtain ⟨z2, f2, _⟩ := hf 2 _ rfl
    obtain ⟨z3, f3, p3, b3⟩ := hf 3 _ rfl
    obtain ⟨z4, f4, p4, b4⟩ := hf 4 _ rfl
    obtain ⟨z5, f5, p5, b5⟩ := hf 5 _ rfl
    simp only [List.getElem_toArray, List.getElem_cons_zero, List.getElem_cons_succ, cells_int1, cells_str1, cells_exs, cells_lbs, cells_bks, List.drop_succ_cons, List.drop_zero, List.take_succ_cons, List.take_zero] at f0 f1 f2 f3 f4 f5
    obtain ⟨k, g0, _, _⟩ := DataW.trod_int Tryz.underlying3 f0
    obtain ⟨k1, g1, _, _⟩ := DataW.trod_int Tryz.underlying3 f1
    obtain ⟨s2, g2, _, _⟩ := DataW.trod_string Tryz.underlying9 f2
    obtain ⟨A3, l3, c3, g3, q3, x3⟩ := exs_openc hM m _ _ f3 p3 b3
    obtain ⟨A4, l4, c4, g4, q41, q42, q43, x4, y4, z4'⟩ := lbs_openc f4 p4 b4
    obtain ⟨A5, l5, c5, g5, q5, q6, q7, x5, _⟩ := rows_openc (fun _ => 0) (d := z5.1) (p := z5.2) Bk.cells (fun b => StsAt (fuel - 1) W W.heap.size b.A b.l ∧ ∀ k, StsLim k b.l) Tryz.underlying58 cells_smts (by decide) f5 p5 b5 (by
      intro n2 cs2 y2 hn2 h2 hlt2 hb2
      obtain ⟨A, l, c, e1, e2, _, e3⟩ := ih n2 (by omega) _ _ h2 hlt2 hb2
      exact ⟨.mk A l c, e1, ⟨e2.more (by omega), e3⟩, Nat.zero_le _⟩)
    simp at g0 g1 g2 g3 g4 g5
    subst g0 g1 g2 g3 g4 g5
    refine ⟨.mk k k1 s2 A3 l3 c3 A4 l4 c4 A5 l5 c5, rfl, ⟨⟨q3.more (by omega), ⟨q41, q42, q43⟩, q5, q6, fun b hb => (q7 b hb).1⟩, ⟨?_, ?_, ?_, ?_⟩, x3, x4, fun b hb => (q7 b hb).2⟩, Nat.zero_le _⟩
    · exact (x3 1).1
    · show l4.length ≤ _; omega
    · show l5.length ≤ _; omega
    · show (l4.map (·.xs)).flatten.length ≤ _; omega)
  refine ⟨A, l, c, h1, ?_, h5, fun k => ?_⟩
  · cases fuel with
    | zero => simp [DataW.trod] at h
    | succ f => exact ⟨h2, h3, fun s hs => (h4 s hs).1⟩
  · cases k with
    | zero => trivial
    | succ k => exact fun s hs => ⟨(h4 s hs).2.1, (h4 s hs).2.2.1 (k + 1), (h4 s hs).2.2.2.1, fun x hx => (h4 s hs).2.2.2.2 x hx k⟩
/-- A variable, a method, a declaration with their bounds. -/
structure MdUp (M : Nat) (W : World) (m : Md) : Prop where
  at_ : MdAt W W.heap.size m
  ps : m.ps.length ≤ M
  vs : m.vs.length ≤ M
  pc : m.ps.length ≤ m.pc
  bl : m.body.length ≤ M
  body : RBody W W.heap.size m.bA m.body
structure DkUp (M : Nat) (W : World) (d : Dk) : Prop where
  at_ : DkAt W W.heap.size d
  vs : d.vs.length ≤ M
  ms : ∀ m ∈ d.ms, MdUp M W m
  fc : d.faces.length ≤ d.fc
  vc : d.vs.length ≤ d.vc
  mc : d.ms.length ≤ d.mc
  wf : ∀ v ∈ d.vs, (Lit.int .i64 v.slot).wf = true
  body : RBody W W.heap.size d.bA d.body
theorem ovdc {fuel : Nat} {cs : List Value} {y : DataW H × List MemPlace} (h : DataW.trod enc Tryz.prog W 0 (fun _ => true) true fuel 55 cs = some y) (hlt : ∀ x ∈ y.2, x.block < W.heap.size) : ∃ v : Vd, cs = v.cells ∧ (Lit.int .i64 v.slot).wf = true := by
  obtain ⟨m, rfl, hl, hf⟩ := struct_open Tryz.underlying55 h hlt
  rw [ocells_vd] at hl
  obtain ⟨a0, a1, a2, a3, a4, a5, a6, a7, rfl⟩ := olist8 hl
  obtain ⟨z0, f0, _⟩ := hf 0 _ rfl
  obtain ⟨z1, f1, p1⟩ := hf 1 _ rfl
  obtain ⟨z2, f2, _⟩ := hf 2 _ rfl
  obtain ⟨z3, f3, _⟩ := hf 3 _ rfl
  obtain ⟨z4, f4, _⟩ := hf 4 _ rfl
  simp only [List.getElem_toArray, List.getElem_cons_zero, List.getElem_cons_succ, ocells_b, ocells_ty, ocells_vs, ocells_ss, ocells_ms, cells_int1, cells_str1, cells_smts, List.drop_succ_cons, List.drop_zero, List.take_succ_cons, List.take_zero] at f0 f1 f2 f3 f4
  obtain ⟨s, g0, _, _⟩ := DataW.trod_string Tryz.underlying9 f0
  obtain ⟨t, g1⟩ := oty f1 p1
  obtain ⟨k2, g2, _, _⟩ := DataW.trod_int Tryz.underlying3 f2
  obtain ⟨k3, g3, _, _⟩ := DataW.trod_int Tryz.underlying3 f3
  obtain ⟨k4, g4, _, w4⟩ := DataW.trod_int Tryz.underlying3 f4
  simp [Ty.cells] at g0 g1 g2 g3 g4
  obtain ⟨g1, g1b, g1c, g1d⟩ := g1
  subst g0 g1 g1b g1c g1d g2 g3 g4
  exact ⟨⟨s, t, k2, k3, k4⟩, rfl, w4⟩
theorem ovsc {M fuel : Nat} {cs : List Value} {y : DataW H × List MemPlace} (h : DataW.trod enc Tryz.prog W 0 (fun _ => true) true fuel 30 cs = some y) (hlt : ∀ x ∈ y.2, x.block < W.heap.size) (hb : Rows.uptoBulk y.1 ≤ M) : ∃ (A : Option Addr) (l : List Vd) (c : Nat), cs = [.slice A l.length c] ∧ l.length ≤ 9223372036854775807 ∧ Rows W W.heap.size 8 A (l.map Vd.cells) ∧ l.length ≤ M ∧ l.length ≤ c ∧ ∀ v ∈ l, (Lit.int .i64 v.slot).wf = true := by
  obtain ⟨A, l, c, h1, h2, h3, h4, h5, _, h7⟩ := rows_openc (fun _ => 0) (d := y.1) (p := y.2) Vd.cells (fun v => (Lit.int .i64 v.slot).wf = true) Tryz.underlying30 ocells_vd (by decide) h hlt hb (by
    intro n cs' y' _ h' hlt' _
    obtain ⟨v, hv, hw⟩ := ovdc h' hlt'
    exact ⟨v, hv, hw, Nat.zero_le _⟩)
  exact ⟨A, l, c, h1, h2, h3, h5, h7, h4⟩
theorem omdc {M : Nat} (hM : M ≤ 1000000000) {fuel : Nat} {cs : List Value} {y : DataW H × List MemPlace} (h : DataW.trod enc Tryz.prog W 0 (fun _ => true) true fuel 46 cs = some y) (hlt : ∀ x ∈ y.2, x.block < W.heap.size) (hb : Rows.uptoBulk y.1 ≤ M) : ∃ m : Md, cs = m.cells ∧ MdUp M W m := by
  obtain ⟨m, rfl, hl, hf⟩ := struct_openc Tryz.underlying46 h hlt hb
  rw [ocells_md] at hl
  obtain ⟨a0, a1, a2, a3, a4, a5, a6, a7, a8, a9, a10, rfl⟩ := olist11 hl
  obtain ⟨z0, f0, _⟩ := hf 0 _ rfl
  obtain ⟨z1, f1, _⟩ := hf 1 _ rfl
  obtain ⟨z2, f2, _⟩ := hf 2 _ rfl
  obtain ⟨z3, f3, _⟩ := hf 3 _ rfl
  obtain ⟨z4, f4, p4, b4'⟩ := hf 4 _ rfl
  obtain ⟨z5, f5, p5, b5'⟩ := hf 5 _ rfl
  obtain ⟨z6, f6, p6, b6'⟩ := hf 6 _ rfl
  obtain ⟨z7, f7, p7, b7'⟩ := hf 7 _ rfl
  simp only [List.getElem_toArray, List.getElem_cons_zero, List.getElem_cons_succ, ocells_b, ocells_ty, ocells_vs, ocells_ss, ocells_ms, cells_int1, cells_str1, cells_smts, List.drop_succ_cons, List.drop_zero, List.take_succ_cons, List.take_zero] at f0 f1 f2 f3 f4 f5 f6 f7
  obtain ⟨s, g0, _, _⟩ := DataW.trod_string Tryz.underlying9 f0
  obtain ⟨b1, g1, _⟩ := DataW.trod_bool Tryz.underlying4 f1
  obtain ⟨b2, g2, _⟩ := DataW.trod_bool Tryz.underlying4 f2
  obtain ⟨b3, g3, _⟩ := DataW.trod_bool Tryz.underlying4 f3
  obtain ⟨A4, l4, c4, g4, q4, r4, s4, t4, _⟩ := ovsc f4 p4 b4'
  obtain ⟨t, g5⟩ := oty f5 p5
  obtain ⟨A6, l6, c6, g6, q6, r6, s6, _, _⟩ := ovsc f6 p6 b6'
  obtain ⟨A7, l7, c7, g7, q7, m7, s7⟩ := sts_openc hM _ _ _ f7 p7 b7'
  simp [Ty.cells] at g0 g1 g2 g3 g4 g5 g6 g7
  obtain ⟨g5, g5b, g5c, g5d⟩ := g5
  subst g0 g1 g2 g3 g4 g5 g5b g5c g5d g6 g7
  exact ⟨⟨s, b1, b2, b3, A4, l4, c4, t, A6, l6, c6, A7, l7, c7⟩, rfl, ⟨⟨r4, r6, q4, q6, ⟨_, q7⟩⟩, s4, s6, t4, m7, ⟨_, q7, s7 _⟩⟩⟩
theorem odkc {M : Nat} (hM : M ≤ 1000000000) {fuel : Nat} {cs : List Value} {y : DataW H × List MemPlace} (h : DataW.trod enc Tryz.prog W 0 (fun _ => true) true fuel 34 cs = some y) (hlt : ∀ x ∈ y.2, x.block < W.heap.size) (hb : Rows.uptoBulk y.1 ≤ M) : ∃ d : Dk, cs = d.cells ∧ DkUp M W d := by
  obtain ⟨m, rfl, hl, hf⟩ := struct_openc Tryz.underlying34 h hlt hb
  rw [ocells_dk] at hl
  obtain ⟨a0, a1, a2, a3, a4, a5, a6, a7, a8, a9, a10, rfl⟩ := olist11 hl
  obtain ⟨z0, f0, _⟩ := hf 0 _ rfl
  obtain ⟨z1, f1, _⟩ := hf 1 _ rfl
  obtain ⟨z2, f2, _⟩ := hf 2 _ rfl
  obtain ⟨z3, f3, p3, b3'⟩ := hf 3 _ rfl
  obtain ⟨z4, f4, _⟩ := hf 4 _ rfl
  obtain ⟨z5, f5, _⟩ := hf 5 _ rfl
  obtain ⟨z6, f6, p6, b6'⟩ := hf 6 _ rfl
  obtain ⟨z7, f7, p7, b7'⟩ := hf 7 _ rfl
  obtain ⟨z8, f8, p8, b8'⟩ := hf 8 _ rfl
  obtain ⟨z9, f9, _⟩ := hf 9 _ rfl
  obtain ⟨z10, f10, _⟩ := hf 10 _ rfl
  simp only [List.getElem_toArray, List.getElem_cons_zero, List.getElem_cons_succ, ocells_b, ocells_ty, ocells_vs, ocells_ss, ocells_ms, cells_int1, cells_str1, cells_smts, List.drop_succ_cons, List.drop_zero, List.take_succ_cons, List.take_zero] at f0 f1 f2 f3 f4 f5 f6 f7 f8 f9 f10
  obtain ⟨k0, g0, _, _⟩ := DataW.trod_int Tryz.underlying3 f0
  obtain ⟨s1, g1, _, _⟩ := DataW.trod_string Tryz.underlying9 f1
  obtain ⟨s2, g2, _, _⟩ := DataW.trod_string Tryz.underlying9 f2
  obtain ⟨A3, l3, c3, g3, q3, r3, _, _, _, t3⟩ := rows_openc (fun _ => 0) (d := z3.1) (p := z3.2) (fun s : ByteArray => [Value.string s]) (fun _ => True) Tryz.underlying29 cells_str1 (by decide) f3 p3 b3' (by
    intro n cs' y' _ h' _ _
    obtain ⟨s, g, _, _⟩ := DataW.trod_string Tryz.underlying9 h'
    exact ⟨s, g, trivial, Nat.zero_le _⟩)
  obtain ⟨b4, g4, _⟩ := DataW.trod_bool Tryz.underlying4 f4
  obtain ⟨b5, g5, _⟩ := DataW.trod_bool Tryz.underlying4 f5
  obtain ⟨A6, l6, c6, g6, q6, r6, s6, t6, w6⟩ := ovsc f6 p6 b6'
  obtain ⟨A7, l7, c7, g7, q7, r7, e7, _, _, t7⟩ := rows_openc (fun _ => 0) (d := z7.1) (p := z7.2) Md.cells (fun m => MdUp M W m) Tryz.underlying31 ocells_md (by decide) f7 p7 b7' (by
    intro n cs' y' _ h' hlt' hb'
    obtain ⟨m, h1, h2⟩ := omdc hM h' hlt' hb'
    exact ⟨m, h1, h2, Nat.zero_le _⟩)
  obtain ⟨A8, l8, c8, g8, q8, _, s8⟩ := sts_openc hM _ _ _ f8 p8 b8'
  obtain ⟨k9, g9, _, _⟩ := DataW.trod_int Tryz.underlying3 f9
  obtain ⟨k10, g10, _, _⟩ := DataW.trod_int Tryz.underlying3 f10
  simp at g0 g1 g2 g3 g4 g5 g6 g7 g8 g9 g10
  subst g0 g1 g2 g3 g4 g5 g6 g7 g8 g9 g10
  exact ⟨⟨k0, s1, s2, A3, l3, c3, b4, b5, A6, l6, c6, A7, l7, c7, A8, l8, c8, k9, k10⟩, rfl, ⟨⟨r3, r6, r7, fun m hm => (e7 m hm).at_, q3, q6, q7, ⟨_, q8⟩⟩, s6, e7, t3, t6, t7, w6, ⟨_, q8, s8 _⟩⟩⟩
set_option maxRecDepth 100000 in
theorem unit_openc {M : Nat} (hM : M ≤ 1000000000) {fuel : Nat} {cs : List Value} {y : DataW H × List MemPlace} (h : DataW.trod enc Tryz.prog W 0 (fun _ => true) true fuel 24 cs = some y) (hlt : ∀ x ∈ y.2, x.block < W.heap.size) (hb : Rows.uptoBulk y.1 ≤ M) :
    ∃ (a : Option Addr) (u : List Dk) (c : Nat), cs = [.slice a u.length c] ∧ UnitAt W W.heap.size a u ∧ (∀ d ∈ u, DkUp M W d) ∧ u.length ≤ c := by
  obtain ⟨m, rfl, hl, hf⟩ := struct_openc Tryz.underlying24 h hlt hb
  obtain ⟨z0, f0, p0, b0⟩ := hf 0 _ rfl
  rw [ocells_u] at hl
  obtain ⟨a0, rfl⟩ : ∃ a0, cs = [a0] := by
    match cs, hl with
    | [a], _ => exact ⟨a, rfl⟩
  simp only [List.getElem_toArray, List.getElem_cons_zero, ocells_ds, List.drop_zero, List.take_succ_cons, List.take_zero] at f0
  obtain ⟨A, l, c, g, q, r, e, hl5, _, hl7⟩ := rows_openc (fun _ => 0) (d := z0.1) (p := z0.2) Dk.cells (fun d => DkUp M W d) Tryz.underlying22 ocells_dk (by decide) f0 p0 b0 (by
    intro n cs' y' _ h' hlt' hb'
    obtain ⟨m, h1, h2⟩ := odkc hM h' hlt' hb'
    exact ⟨m, h1, h2, Nat.zero_le _⟩)
  exact ⟨A, l, c, g, ⟨r, fun d hd => (e d hd).at_, by omega⟩, e, hl7⟩
theorem rall_up {u : List Dk} {c : Nat} {W : World} (hd : ∀ d ∈ u, DkUp 1048576 W d) (hc : u.length ≤ c) (hn : u.length ≤ 16) : RAll u c :=
  ⟨⟨⟨by omega, fun d hm => (hd d hm).vs, fun d hm m hmm => ⟨Nat.le_trans ((hd d hm).ms m hmm).ps (by decide), Nat.le_trans ((hd d hm).ms m hmm).vs (by decide)⟩⟩, fun d hm m hmm => Nat.le_trans ((hd d hm).ms m hmm).bl (by decide)⟩,
    ⟨by omega, fun d hm => (hd d hm).vs, fun d hm => (hd d hm).wf⟩, ⟨hc, fun d hm => (hd d hm).fc, fun d hm => (hd d hm).vc, fun d hm => (hd d hm).mc, fun d hm m hmm => ((hd d hm).ms m hmm).pc⟩⟩
end
end Go.Proofs.YtejifefgmlpclaaGreat
