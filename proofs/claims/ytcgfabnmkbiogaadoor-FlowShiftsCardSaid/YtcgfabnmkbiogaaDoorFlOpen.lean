/- An image that was handed in, opened. -/
import Derived.Test.YtcgfabnmkbiogaaDoorFlImg
import Derived.ProofKit
import Derived.Below
import Derived.Carry
import Derived.KernelRfl
import Derived.Deep.Slices
import Derived.Deep.Fields
import Derived.Deep.Grids
import Derived.ChangeSame
namespace Go.Proofs.YtcgfabnmkbiogaaDoor
open Go.ChangeShapes Go.WideShapes Go.ChangeAt Go.RowKit Go.Deep

theorem rows_open {H : Type} {enc : TypeId × Value → H} {P : Program} {W : World} {α : Type} (F : α → List Value) (Q : α → Prop) {t e : TypeId} {sz fuel : Nat} {cs : List Value} {d : DataW H} {p : List MemPlace}
    (ht : P.underlying t = some (.slice e)) (hsz : P.cellsOf e = sz) (h0 : 0 < sz)
    (hf : DataW.trod enc P W 0 (fun _ => true) true fuel t cs = some (d, p)) (hlt : ∀ x ∈ p, x.block < W.heap.size)
    (hel : ∀ n cs' y, n < fuel → DataW.trod enc P W 0 (fun _ => true) true n e cs' = some y → (∀ x ∈ y.2, x.block < W.heap.size) → ∃ r, cs' = F r ∧ Q r) :
    ∃ (A : Option Addr) (l : List α) (c : Nat), cs = [.slice A l.length c] ∧ l.length ≤ 9223372036854775807 ∧ Rows W W.heap.size sz A (l.map F) ∧ ∀ r ∈ l, Q r := by
  rcases DataW.trod_slice ht hf with ⟨hcs, _⟩ | ⟨a, len, cap, elems, rest, n, hfu, hcs, hx, _, hl, hm, hlen, hel2, _, _⟩
  · exact ⟨none, [], 0, hcs, by simp, Rows.nil_ _ _ _ _, fun r hr => by cases hr⟩
  · simp only [Prod.mk.injEq] at hx
    rw [hsz] at hx hel2
    obtain ⟨V, hV⟩ : ∃ V : List α, V.length = len ∧ ∀ i r, V[i]? = some r → W.cells? 0 (a.add (i * sz)) sz = some (F r) ∧ Q r := by
      have key : ∀ k, k ≤ len → ∃ V : List α, V.length = k ∧ ∀ i r, V[i]? = some r → W.cells? 0 (a.add (i * sz)) sz = some (F r) ∧ Q r := by
        intro k
        induction k with
        | zero => exact fun _ => ⟨[], rfl, fun i r h => by simp at h⟩
        | succ k ih =>
          intro hk
          obtain ⟨V, h1, h2⟩ := ih (by omega)
          obtain ⟨y, hy⟩ : ∃ y, elems[k]? = some y := ⟨_, List.getElem?_eq_getElem (by omega)⟩
          have h3 := (hel2 k (by omega)).trans hy
          obtain ⟨cs', hc, ht'⟩ := Option.bind_eq_some_iff.1 h3
          obtain ⟨r, rfl, hq⟩ := hel n cs' y (by omega) ht' (fun x hxm => hlt x (by
            rw [hx.2]
            exact List.mem_append_right _ (List.mem_flatMap.2 ⟨y, List.mem_append_left _ (List.mem_of_getElem? hy), hxm⟩)))
          refine ⟨V ++ [r], by simp [h1], fun i r' hr' => ?_⟩
          rcases Nat.lt_or_ge i k with h | h
          · rw [List.getElem?_append_left (by omega)] at hr'; exact h2 i r' hr'
          · rw [List.getElem?_append_right (by omega)] at hr'
            have hi0 : i - V.length = 0 := by
              have := (List.getElem?_eq_some_iff.1 hr').1
              simp at this; omega
            rw [hi0] at hr'
            obtain rfl : r = r' := by simpa using hr'
            obtain rfl : i = k := by omega
            exact ⟨hc, hq⟩
      exact key len (Nat.le_refl _)
    obtain ⟨hVl, hV⟩ := hV
    have hmx : len ≤ 9223372036854775807 := Nat.le_trans hl (Nat.le_trans hm (by decide))
    refine ⟨some a, V, cap, by rw [hVl]; exact hcs, by omega, fun hn => ?_, fun r hr => ?_⟩
    · have hl0 : 0 < len := by rw [← hVl]; simpa using hn
      have hc : ∀ i r, V[i]? = some r → ∀ j x, (F r)[j]? = some x → j < sz ∧ W.cell? (a.add (i * sz + j)) = some x := fun i r hr j x hx => by
        obtain ⟨_, hlen', hat⟩ := World.cells?_some (hV i r hr).1
        have hj : j < sz := by rw [← hlen']; exact (List.getElem?_eq_some_iff.1 hx).1
        refine ⟨hj, ?_⟩
        rw [← Go.Deep.add_add, hat j hj, hx]
      obtain ⟨r0, hr0⟩ : ∃ r, V[0]? = some r := ⟨_, List.getElem?_eq_getElem (by omega)⟩
      obtain ⟨_, hlen0, _⟩ := World.cells?_some (hV 0 r0 hr0).1
      obtain ⟨x0, hx0⟩ : ∃ x, (F r0)[0]? = some x := ⟨_, List.getElem?_eq_getElem (by omega)⟩
      obtain ⟨b, off, spot⟩ := a
      have hspot : spot = none := by simpa [Addr.add] using World.cell?_spot (hc 0 r0 hr0 0 x0 hx0).2
      subst hspot
      refine ⟨b, off, rfl, hlt (.cell b off) ?_, fun i r hr j x hx' => ?_⟩
      · rw [hx.2]
        exact List.mem_append_left _ (MemPlace.mem_row.2 ⟨0, Nat.mul_pos (by omega) h0, by simp⟩)
      · rw [List.getElem?_map] at hr
        obtain ⟨r', hr', rfl⟩ := Option.map_eq_some_iff.1 hr
        rw [Nat.add_assoc, ← add_plain]
        exact (hc i r' hr' j x hx').2
    · obtain ⟨i, hi⟩ := List.getElem?_of_mem hr
      exact (hV i r hi).2

section
variable {H : Type} {enc : TypeId × Value → H} {W : World}
theorem struct_open {P : Program} {fs : Array Field} {t : TypeId} {fuel : Nat} {cs : List Value} {y : DataW H × List MemPlace} (ht : P.underlying t = some (.struct fs)) (h : DataW.trod enc P W 0 (fun _ => true) true fuel t cs = some y) (hlt : ∀ x ∈ y.2, x.block < W.heap.size) :
    ∃ n, fuel = n + 1 ∧ cs.length = P.cellsOf t ∧ ∀ (i : Nat) (f : Field), fs[i]? = some f → ∃ z : DataW H × List MemPlace, DataW.trod enc P W 0 (fun _ => true) true n f.type ((cs.drop f.offset).take (P.cellsOf f.type)) = some z ∧ ∀ x ∈ z.2, x.block < W.heap.size := by
  obtain ⟨xs, n, hfu, hy, hl, hxl, hf⟩ := DataW.trod_struct ht h
  refine ⟨n, hfu, hl, fun i f hi => ?_⟩
  obtain ⟨z, hz⟩ : ∃ z, xs[i]? = some z := ⟨_, List.getElem?_eq_getElem (by rw [hxl]; exact (Array.getElem?_eq_some_iff.1 hi).1)⟩
  refine ⟨z, (hf i f hi).trans hz, fun x hx => hlt x ?_⟩
  rw [hy]
  exact List.mem_flatMap.2 ⟨z, List.mem_of_getElem? hz, hx⟩

theorem olist2 {l : List Value} (h : l.length = 2) : ∃ a0 a1, l = [a0, a1] := by
  match l, h with
  | [a0, a1], _ => exact ⟨a0, a1, rfl⟩
theorem olist3 {l : List Value} (h : l.length = 3) : ∃ a0 a1 a2, l = [a0, a1, a2] := by
  match l, h with
  | [a0, a1, a2], _ => exact ⟨a0, a1, a2, rfl⟩
theorem olist6 {l : List Value} (h : l.length = 6) : ∃ a0 a1 a2 a3 a4 a5, l = [a0, a1, a2, a3, a4, a5] := by
  match l, h with
  | [a0, a1, a2, a3, a4, a5], _ => exact ⟨a0, a1, a2, a3, a4, a5, rfl⟩
theorem olist12 {l : List Value} (h : l.length = 12) : ∃ a0 a1 a2 a3 a4 a5 a6 a7 a8 a9 a10 a11, l = [a0, a1, a2, a3, a4, a5, a6, a7, a8, a9, a10, a11] := by
  match l, h with
  | [a0, a1, a2, a3, a4, a5, a6, a7, a8, a9, a10, a11], _ => exact ⟨a0, a1, a2, a3, a4, a5, a6, a7, a8, a9, a10, a11, rfl⟩
theorem ocells_int : Tryd.prog.cellsOf 3 = 1 := by kernel_rfl
theorem ocells_string : Tryd.prog.cellsOf 9 = 1 := by kernel_rfl
theorem ocells_bool : Tryd.prog.cellsOf 4 = 1 := by kernel_rfl
theorem ocells_lint : Tryd.prog.cellsOf 31 = 1 := by kernel_rfl
theorem ocells_lstring : Tryd.prog.cellsOf 50 = 1 := by kernel_rfl
theorem ocells_llstring : Tryd.prog.cellsOf 28 = 1 := by kernel_rfl
theorem ocells_ltable : Tryd.prog.cellsOf 56 = 1 := by kernel_rfl
theorem ocells_lop : Tryd.prog.cellsOf 23 = 1 := by kernel_rfl
theorem ocells_ldesc : Tryd.prog.cellsOf 29 = 1 := by kernel_rfl
theorem ocells_lcode : Tryd.prog.cellsOf 30 = 1 := by kernel_rfl
theorem ocells_llink : Tryd.prog.cellsOf 32 = 1 := by kernel_rfl
theorem ocells_ljob : Tryd.prog.cellsOf 33 = 1 := by kernel_rfl
theorem ocells_table : Tryd.prog.cellsOf 60 = 2 := by kernel_rfl
theorem ocells_op : Tryd.prog.cellsOf 25 = 3 := by kernel_rfl
theorem ocells_job : Tryd.prog.cellsOf 120 = 3 := by kernel_rfl
theorem ocells_link : Tryd.prog.cellsOf 118 = 3 := by kernel_rfl
theorem ocells_desc : Tryd.prog.cellsOf 58 = 6 := by kernel_rfl
theorem ocells_code : Tryd.prog.cellsOf 45 = 6 := by kernel_rfl
theorem ocells_image : Tryd.prog.cellsOf 35 = 12 := by kernel_rfl
theorem onums {fuel : Nat} {cs : List Value} {y : DataW H × List MemPlace} (h : DataW.trod enc Tryd.prog W 0 (fun _ => true) true fuel 31 cs = some y) (hlt : ∀ x ∈ y.2, x.block < W.heap.size) : ∃ (A : Option Addr) (l : List Int) (c : Nat), cs = [.slice A l.length c] ∧ LNums W W.heap.size A l := by
  obtain ⟨A, l, c, h1, h2, h3, h4⟩ := rows_open (d := y.1) (p := y.2) (fun n : Int => [Value.int .i64 n]) (fun _ => True) Tryd.underlying31 ocells_int (by decide) h hlt (by
    intro n cs' y' _ h' hlt'
    obtain ⟨k, g, _, _⟩ := DataW.trod_int Tryd.underlying3 h'
    exact ⟨k, g, trivial⟩)
  exact ⟨A, l, c, h1, h2, h3⟩
theorem otexts {fuel : Nat} {cs : List Value} {y : DataW H × List MemPlace} (h : DataW.trod enc Tryd.prog W 0 (fun _ => true) true fuel 50 cs = some y) (hlt : ∀ x ∈ y.2, x.block < W.heap.size) : ∃ (A : Option Addr) (l : List ByteArray) (c : Nat), cs = [.slice A l.length c] ∧ LTexts W W.heap.size A l := by
  obtain ⟨A, l, c, h1, h2, h3, h4⟩ := rows_open (d := y.1) (p := y.2) (fun s : ByteArray => [Value.string s]) (fun _ => True) Tryd.underlying50 ocells_string (by decide) h hlt (by
    intro n cs' y' _ h' hlt'
    obtain ⟨s, g, _, _⟩ := DataW.trod_string Tryd.underlying9 h'
    exact ⟨s, g, trivial⟩)
  exact ⟨A, l, c, h1, h2, h3⟩
theorem ofcs {fuel : Nat} {cs : List Value} {y : DataW H × List MemPlace} (h : DataW.trod enc Tryd.prog W 0 (fun _ => true) true fuel 28 cs = some y) (hlt : ∀ x ∈ y.2, x.block < W.heap.size) : ∃ (A : Option Addr) (l : List Fc) (c : Nat), cs = [.slice A l.length c] ∧ LFcs W W.heap.size A l := by
  obtain ⟨A, l, c, h1, h2, h3, h4⟩ := rows_open (d := y.1) (p := y.2) (Fc.cells) (fun x => Fc.At W W.heap.size x) Tryd.underlying28 ocells_lstring (by decide) h hlt (by
    intro n cs' y' _ h' hlt'
    obtain ⟨A, l, c, g, q⟩ := otexts h' hlt'
    exact ⟨⟨A, l, c⟩, g, q⟩)
  exact ⟨A, l, c, h1, h2, h3, h4⟩
theorem otab {fuel : Nat} {cs : List Value} {y : DataW H × List MemPlace} (h : DataW.trod enc Tryd.prog W 0 (fun _ => true) true fuel 60 cs = some y) (hlt : ∀ x ∈ y.2, x.block < W.heap.size) : ∃ x : Tab, cs = x.cells ∧ Tab.At W W.heap.size x := by
  obtain ⟨m, rfl, hl, hf⟩ := struct_open Tryd.underlying60 h hlt
  rw [ocells_table] at hl
  obtain ⟨a0, a1, rfl⟩ := olist2 hl
  obtain ⟨z0, f0, p0⟩ := hf 0 _ rfl
  obtain ⟨z1, f1, p1⟩ := hf 1 _ rfl
  simp only [List.getElem_toArray, List.getElem_cons_zero, List.getElem_cons_succ, ocells_int, ocells_string, ocells_bool, ocells_lint, ocells_lstring, ocells_llstring, ocells_ltable, ocells_lop, ocells_ldesc, ocells_lcode, ocells_llink, ocells_ljob, List.drop_succ_cons, List.drop_zero, List.take_succ_cons, List.take_zero] at f0 f1
  obtain ⟨k0, g0, _, _⟩ := DataW.trod_int Tryd.underlying3 f0
  obtain ⟨A1, l1, c1, g1, q1⟩ := onums f1 p1
  simp at g0 g1
  subst g0 g1
  exact ⟨⟨k0, A1, l1, c1⟩, rfl, q1⟩
theorem oop {fuel : Nat} {cs : List Value} {y : DataW H × List MemPlace} (h : DataW.trod enc Tryd.prog W 0 (fun _ => true) true fuel 25 cs = some y) (hlt : ∀ x ∈ y.2, x.block < W.heap.size) : ∃ x : Opr, cs = x.cells := by
  obtain ⟨m, rfl, hl, hf⟩ := struct_open Tryd.underlying25 h hlt
  rw [ocells_op] at hl
  obtain ⟨a0, a1, a2, rfl⟩ := olist3 hl
  obtain ⟨z0, f0, p0⟩ := hf 0 _ rfl
  obtain ⟨z1, f1, p1⟩ := hf 1 _ rfl
  obtain ⟨z2, f2, p2⟩ := hf 2 _ rfl
  simp only [List.getElem_toArray, List.getElem_cons_zero, List.getElem_cons_succ, ocells_int, ocells_string, ocells_bool, ocells_lint, ocells_lstring, ocells_llstring, ocells_ltable, ocells_lop, ocells_ldesc, ocells_lcode, ocells_llink, ocells_ljob, List.drop_succ_cons, List.drop_zero, List.take_succ_cons, List.take_zero] at f0 f1 f2
  obtain ⟨k0, g0, _, _⟩ := DataW.trod_int Tryd.underlying3 f0
  obtain ⟨k1, g1, _, _⟩ := DataW.trod_int Tryd.underlying3 f1
  obtain ⟨k2, g2, _, _⟩ := DataW.trod_int Tryd.underlying3 f2
  simp at g0 g1 g2
  subst g0 g1 g2
  exact ⟨⟨k0, k1, k2⟩, rfl⟩
theorem ojob {fuel : Nat} {cs : List Value} {y : DataW H × List MemPlace} (h : DataW.trod enc Tryd.prog W 0 (fun _ => true) true fuel 120 cs = some y) (hlt : ∀ x ∈ y.2, x.block < W.heap.size) : ∃ x : Opr, cs = x.cells := by
  obtain ⟨m, rfl, hl, hf⟩ := struct_open Tryd.underlying120 h hlt
  rw [ocells_job] at hl
  obtain ⟨a0, a1, a2, rfl⟩ := olist3 hl
  obtain ⟨z0, f0, p0⟩ := hf 0 _ rfl
  obtain ⟨z1, f1, p1⟩ := hf 1 _ rfl
  obtain ⟨z2, f2, p2⟩ := hf 2 _ rfl
  simp only [List.getElem_toArray, List.getElem_cons_zero, List.getElem_cons_succ, ocells_int, ocells_string, ocells_bool, ocells_lint, ocells_lstring, ocells_llstring, ocells_ltable, ocells_lop, ocells_ldesc, ocells_lcode, ocells_llink, ocells_ljob, List.drop_succ_cons, List.drop_zero, List.take_succ_cons, List.take_zero] at f0 f1 f2
  obtain ⟨k0, g0, _, _⟩ := DataW.trod_int Tryd.underlying3 f0
  obtain ⟨k1, g1, _, _⟩ := DataW.trod_int Tryd.underlying3 f1
  obtain ⟨k2, g2, _, _⟩ := DataW.trod_int Tryd.underlying3 f2
  simp at g0 g1 g2
  subst g0 g1 g2
  exact ⟨⟨k0, k1, k2⟩, rfl⟩
theorem olnk {fuel : Nat} {cs : List Value} {y : DataW H × List MemPlace} (h : DataW.trod enc Tryd.prog W 0 (fun _ => true) true fuel 118 cs = some y) (hlt : ∀ x ∈ y.2, x.block < W.heap.size) : ∃ x : Lnk, cs = x.cells := by
  obtain ⟨m, rfl, hl, hf⟩ := struct_open Tryd.underlying118 h hlt
  rw [ocells_link] at hl
  obtain ⟨a0, a1, a2, rfl⟩ := olist3 hl
  obtain ⟨z0, f0, p0⟩ := hf 0 _ rfl
  obtain ⟨z1, f1, p1⟩ := hf 1 _ rfl
  obtain ⟨z2, f2, p2⟩ := hf 2 _ rfl
  simp only [List.getElem_toArray, List.getElem_cons_zero, List.getElem_cons_succ, ocells_int, ocells_string, ocells_bool, ocells_lint, ocells_lstring, ocells_llstring, ocells_ltable, ocells_lop, ocells_ldesc, ocells_lcode, ocells_llink, ocells_ljob, List.drop_succ_cons, List.drop_zero, List.take_succ_cons, List.take_zero] at f0 f1 f2
  obtain ⟨k0, g0, _, _⟩ := DataW.trod_int Tryd.underlying3 f0
  obtain ⟨k1, g1, _, _⟩ := DataW.trod_int Tryd.underlying3 f1
  obtain ⟨k2, g2, _⟩ := DataW.trod_bool Tryd.underlying4 f2
  simp at g0 g1 g2
  subst g0 g1 g2
  exact ⟨⟨k0, k1, k2⟩, rfl⟩
theorem otabs {fuel : Nat} {cs : List Value} {y : DataW H × List MemPlace} (h : DataW.trod enc Tryd.prog W 0 (fun _ => true) true fuel 56 cs = some y) (hlt : ∀ x ∈ y.2, x.block < W.heap.size) : ∃ (A : Option Addr) (l : List Tab) (c : Nat), cs = [.slice A l.length c] ∧ LTabs W W.heap.size A l := by
  obtain ⟨A, l, c, h1, h2, h3, h4⟩ := rows_open (d := y.1) (p := y.2) (Tab.cells) (fun x => Tab.At W W.heap.size x) Tryd.underlying56 ocells_table (by decide) h hlt (by
    intro n cs' y' _ h' hlt'
    exact otab h' hlt')
  exact ⟨A, l, c, h1, h2, h3, h4⟩
theorem oops {fuel : Nat} {cs : List Value} {y : DataW H × List MemPlace} (h : DataW.trod enc Tryd.prog W 0 (fun _ => true) true fuel 23 cs = some y) (hlt : ∀ x ∈ y.2, x.block < W.heap.size) : ∃ (A : Option Addr) (l : List Opr) (c : Nat), cs = [.slice A l.length c] ∧ LOps W W.heap.size A l := by
  obtain ⟨A, l, c, h1, h2, h3, h4⟩ := rows_open (d := y.1) (p := y.2) (Opr.cells) (fun _ => True) Tryd.underlying23 ocells_op (by decide) h hlt (by
    intro n cs' y' _ h' hlt'
    obtain ⟨x, g⟩ := oop h' hlt'
    exact ⟨x, g, trivial⟩)
  exact ⟨A, l, c, h1, h2, h3⟩
theorem ojobs {fuel : Nat} {cs : List Value} {y : DataW H × List MemPlace} (h : DataW.trod enc Tryd.prog W 0 (fun _ => true) true fuel 33 cs = some y) (hlt : ∀ x ∈ y.2, x.block < W.heap.size) : ∃ (A : Option Addr) (l : List Opr) (c : Nat), cs = [.slice A l.length c] ∧ LOps W W.heap.size A l := by
  obtain ⟨A, l, c, h1, h2, h3, h4⟩ := rows_open (d := y.1) (p := y.2) (Opr.cells) (fun _ => True) Tryd.underlying33 ocells_job (by decide) h hlt (by
    intro n cs' y' _ h' hlt'
    obtain ⟨x, g⟩ := ojob h' hlt'
    exact ⟨x, g, trivial⟩)
  exact ⟨A, l, c, h1, h2, h3⟩
theorem olnks {fuel : Nat} {cs : List Value} {y : DataW H × List MemPlace} (h : DataW.trod enc Tryd.prog W 0 (fun _ => true) true fuel 32 cs = some y) (hlt : ∀ x ∈ y.2, x.block < W.heap.size) : ∃ (A : Option Addr) (l : List Lnk) (c : Nat), cs = [.slice A l.length c] ∧ LLnks W W.heap.size A l := by
  obtain ⟨A, l, c, h1, h2, h3, h4⟩ := rows_open (d := y.1) (p := y.2) (Lnk.cells) (fun _ => True) Tryd.underlying32 ocells_link (by decide) h hlt (by
    intro n cs' y' _ h' hlt'
    obtain ⟨x, g⟩ := olnk h' hlt'
    exact ⟨x, g, trivial⟩)
  exact ⟨A, l, c, h1, h2, h3⟩
theorem odesc {fuel : Nat} {cs : List Value} {y : DataW H × List MemPlace} (h : DataW.trod enc Tryd.prog W 0 (fun _ => true) true fuel 58 cs = some y) (hlt : ∀ x ∈ y.2, x.block < W.heap.size) : ∃ x : Desc, cs = x.cells ∧ Desc.At W W.heap.size x := by
  obtain ⟨m, rfl, hl, hf⟩ := struct_open Tryd.underlying58 h hlt
  rw [ocells_desc] at hl
  obtain ⟨a0, a1, a2, a3, a4, a5, rfl⟩ := olist6 hl
  obtain ⟨z0, f0, p0⟩ := hf 0 _ rfl
  obtain ⟨z1, f1, p1⟩ := hf 1 _ rfl
  obtain ⟨z2, f2, p2⟩ := hf 2 _ rfl
  obtain ⟨z3, f3, p3⟩ := hf 3 _ rfl
  obtain ⟨z4, f4, p4⟩ := hf 4 _ rfl
  obtain ⟨z5, f5, p5⟩ := hf 5 _ rfl
  simp only [List.getElem_toArray, List.getElem_cons_zero, List.getElem_cons_succ, ocells_int, ocells_string, ocells_bool, ocells_lint, ocells_lstring, ocells_llstring, ocells_ltable, ocells_lop, ocells_ldesc, ocells_lcode, ocells_llink, ocells_ljob, List.drop_succ_cons, List.drop_zero, List.take_succ_cons, List.take_zero] at f0 f1 f2 f3 f4 f5
  obtain ⟨k0, g0, _, _⟩ := DataW.trod_int Tryd.underlying3 f0
  obtain ⟨k1, g1, _, _⟩ := DataW.trod_string Tryd.underlying9 f1
  obtain ⟨A2, l2, c2, g2, q2⟩ := onums f2 p2
  obtain ⟨A3, l3, c3, g3, q3⟩ := onums f3 p3
  obtain ⟨A4, l4, c4, g4, q4⟩ := otexts f4 p4
  obtain ⟨A5, l5, c5, g5, q5⟩ := otabs f5 p5
  simp at g0 g1 g2 g3 g4 g5
  subst g0 g1 g2 g3 g4 g5
  exact ⟨⟨k0, k1, A2, l2, c2, A3, l3, c3, A4, l4, c4, A5, l5, c5⟩, rfl, ⟨q2, q3, q4, q5⟩⟩
theorem ocod {fuel : Nat} {cs : List Value} {y : DataW H × List MemPlace} (h : DataW.trod enc Tryd.prog W 0 (fun _ => true) true fuel 45 cs = some y) (hlt : ∀ x ∈ y.2, x.block < W.heap.size) : ∃ x : Cod, cs = x.cells ∧ Cod.At W W.heap.size x := by
  obtain ⟨m, rfl, hl, hf⟩ := struct_open Tryd.underlying45 h hlt
  rw [ocells_code] at hl
  obtain ⟨a0, a1, a2, a3, a4, a5, rfl⟩ := olist6 hl
  obtain ⟨z0, f0, p0⟩ := hf 0 _ rfl
  obtain ⟨z1, f1, p1⟩ := hf 1 _ rfl
  obtain ⟨z2, f2, p2⟩ := hf 2 _ rfl
  obtain ⟨z3, f3, p3⟩ := hf 3 _ rfl
  obtain ⟨z4, f4, p4⟩ := hf 4 _ rfl
  obtain ⟨z5, f5, p5⟩ := hf 5 _ rfl
  simp only [List.getElem_toArray, List.getElem_cons_zero, List.getElem_cons_succ, ocells_int, ocells_string, ocells_bool, ocells_lint, ocells_lstring, ocells_llstring, ocells_ltable, ocells_lop, ocells_ldesc, ocells_lcode, ocells_llink, ocells_ljob, List.drop_succ_cons, List.drop_zero, List.take_succ_cons, List.take_zero] at f0 f1 f2 f3 f4 f5
  obtain ⟨k0, g0, _, _⟩ := DataW.trod_int Tryd.underlying3 f0
  obtain ⟨k1, g1, _, _⟩ := DataW.trod_string Tryd.underlying9 f1
  obtain ⟨k2, g2, _, _⟩ := DataW.trod_string Tryd.underlying9 f2
  obtain ⟨k3, g3, _⟩ := DataW.trod_bool Tryd.underlying4 f3
  obtain ⟨k4, g4, _, _⟩ := DataW.trod_int Tryd.underlying3 f4
  obtain ⟨A5, l5, c5, g5, q5⟩ := oops f5 p5
  simp at g0 g1 g2 g3 g4 g5
  subst g0 g1 g2 g3 g4 g5
  exact ⟨⟨k0, k1, k2, k3, k4, A5, l5, c5⟩, rfl, q5⟩
theorem odescs {fuel : Nat} {cs : List Value} {y : DataW H × List MemPlace} (h : DataW.trod enc Tryd.prog W 0 (fun _ => true) true fuel 29 cs = some y) (hlt : ∀ x ∈ y.2, x.block < W.heap.size) : ∃ (A : Option Addr) (l : List Desc) (c : Nat), cs = [.slice A l.length c] ∧ LDescs W W.heap.size A l := by
  obtain ⟨A, l, c, h1, h2, h3, h4⟩ := rows_open (d := y.1) (p := y.2) (Desc.cells) (fun x => Desc.At W W.heap.size x) Tryd.underlying29 ocells_desc (by decide) h hlt (by
    intro n cs' y' _ h' hlt'
    exact odesc h' hlt')
  exact ⟨A, l, c, h1, h2, h3, h4⟩
theorem ocods {fuel : Nat} {cs : List Value} {y : DataW H × List MemPlace} (h : DataW.trod enc Tryd.prog W 0 (fun _ => true) true fuel 30 cs = some y) (hlt : ∀ x ∈ y.2, x.block < W.heap.size) : ∃ (A : Option Addr) (l : List Cod) (c : Nat), cs = [.slice A l.length c] ∧ LCods W W.heap.size A l := by
  obtain ⟨A, l, c, h1, h2, h3, h4⟩ := rows_open (d := y.1) (p := y.2) (Cod.cells) (fun x => Cod.At W W.heap.size x) Tryd.underlying30 ocells_code (by decide) h hlt (by
    intro n cs' y' _ h' hlt'
    exact ocod h' hlt')
  exact ⟨A, l, c, h1, h2, h3, h4⟩
theorem oimg {fuel : Nat} {cs : List Value} {y : DataW H × List MemPlace} (h : DataW.trod enc Tryd.prog W 0 (fun _ => true) true fuel 35 cs = some y) (hlt : ∀ x ∈ y.2, x.block < W.heap.size) : ∃ x : Img, cs = x.cells ∧ Img.At W W.heap.size x := by
  obtain ⟨m, rfl, hl, hf⟩ := struct_open Tryd.underlying35 h hlt
  rw [ocells_image] at hl
  obtain ⟨a0, a1, a2, a3, a4, a5, a6, a7, a8, a9, a10, a11, rfl⟩ := olist12 hl
  obtain ⟨z0, f0, p0⟩ := hf 0 _ rfl
  obtain ⟨z1, f1, p1⟩ := hf 1 _ rfl
  obtain ⟨z2, f2, p2⟩ := hf 2 _ rfl
  obtain ⟨z3, f3, p3⟩ := hf 3 _ rfl
  obtain ⟨z4, f4, p4⟩ := hf 4 _ rfl
  obtain ⟨z5, f5, p5⟩ := hf 5 _ rfl
  obtain ⟨z6, f6, p6⟩ := hf 6 _ rfl
  obtain ⟨z7, f7, p7⟩ := hf 7 _ rfl
  obtain ⟨z8, f8, p8⟩ := hf 8 _ rfl
  obtain ⟨z9, f9, p9⟩ := hf 9 _ rfl
  obtain ⟨z10, f10, p10⟩ := hf 10 _ rfl
  obtain ⟨z11, f11, p11⟩ := hf 11 _ rfl
  simp only [List.getElem_toArray, List.getElem_cons_zero, List.getElem_cons_succ, ocells_int, ocells_string, ocells_bool, ocells_lint, ocells_lstring, ocells_llstring, ocells_ltable, ocells_lop, ocells_ldesc, ocells_lcode, ocells_llink, ocells_ljob, List.drop_succ_cons, List.drop_zero, List.take_succ_cons, List.take_zero] at f0 f1 f2 f3 f4 f5 f6 f7 f8 f9 f10 f11
  obtain ⟨A0, l0, c0, g0, q0⟩ := ofcs f0 p0
  obtain ⟨A1, l1, c1, g1, q1⟩ := odescs f1 p1
  obtain ⟨A2, l2, c2, g2, q2⟩ := ocods f2 p2
  obtain ⟨A3, l3, c3, g3, q3⟩ := onums f3 p3
  obtain ⟨k4, g4, _, _⟩ := DataW.trod_string Tryd.underlying9 f4
  obtain ⟨A5, l5, c5, g5, q5⟩ := onums f5 p5
  obtain ⟨A6, l6, c6, g6, q6⟩ := onums f6 p6
  obtain ⟨A7, l7, c7, g7, q7⟩ := olnks f7 p7
  obtain ⟨A8, l8, c8, g8, q8⟩ := olnks f8 p8
  obtain ⟨A9, l9, c9, g9, q9⟩ := ojobs f9 p9
  obtain ⟨k10, g10, _, _⟩ := DataW.trod_int Tryd.underlying3 f10
  obtain ⟨k11, g11, _, _⟩ := DataW.trod_int Tryd.underlying3 f11
  simp at g0 g1 g2 g3 g4 g5 g6 g7 g8 g9 g10 g11
  subst g0 g1 g2 g3 g4 g5 g6 g7 g8 g9 g10 g11
  exact ⟨⟨A0, l0, c0, A1, l1, c1, A2, l2, c2, A3, l3, c3, k4, A5, l5, c5, A6, l6, c6, A7, l7, c7, A8, l8, c8, A9, l9, c9, k10, k11⟩, rfl, ⟨q0, q1, q2, q3, q5, q6, q7, q8, q9⟩⟩
end
end Go.Proofs.YtcgfabnmkbiogaaDoor
