import Derived.Test.YtmhdcehpddbjaaaOpenTrees
import Derived.Test.YtmhdcehpddbjaaaOpenBulk
import Derived.Test.YtmhdcehpddbjaaaTyV
import Derived.Test.YtmhdcehpddbjaaaTyJoins
/- Expressions and statements that were handed in, of bulk at most M: how they lie, how long their lists are. -/
namespace Go.Proofs.Ytmhdcehpddbjaaa
open Go.ChangeShapes Go.WideShapes Go.ChangeAt Go.RowKit Go.Deep

theorem bulk_app {H : Type} : ∀ (a b : List (DataW H)), Rows.uptoBulkAll (a ++ b) = Rows.uptoBulkAll a + Rows.uptoBulkAll b
  | [], b => by simp [Rows.uptoBulkAll]
  | x :: a, b => by simp only [List.cons_append, Rows.uptoBulkAll, bulk_app a b]; omega
theorem rows_opens {H : Type} {enc : TypeId × Value → H} {P : Program} {W : World} {α : Type} {M : Nat} (g : α → Nat) (F : α → List Value) (Q : α → Prop) {t e : TypeId} {sz fuel : Nat} {cs : List Value} {d : DataW H} {p : List MemPlace}
    (ht : P.underlying t = some (.slice e)) (hsz : P.cellsOf e = sz) (h0 : 0 < sz)
    (hf : DataW.trod enc P W 0 (fun _ => true) true fuel t cs = some (d, p)) (hlt : ∀ x ∈ p, x.block < W.heap.size) (hb : Rows.uptoBulk d ≤ M)
    (hel : ∀ n cs' y, n < fuel → DataW.trod enc P W 0 (fun _ => true) true n e cs' = some y → (∀ x ∈ y.2, x.block < W.heap.size) → Rows.uptoBulk y.1 ≤ M → ∃ r, cs' = F r ∧ Q r ∧ g r ≤ Rows.uptoBulk y.1) :
    ∃ (A : Option Addr) (l : List α) (c : Nat), cs = [.slice A l.length c] ∧ l.length ≤ 9223372036854775807 ∧ Rows W W.heap.size sz A (l.map F) ∧ (∀ r ∈ l, Q r) ∧ l.length ≤ M ∧ (l.map g).sum ≤ M := by
  rcases DataW.trod_slice ht hf with ⟨hcs, _⟩ | ⟨a, len, cap, elems, rest, n, hfu, hcs, hx, _, hl, hm, hlen, hel2, _, _⟩
  · exact ⟨none, [], 0, hcs, by simp, Rows.nil_ _ _ _ _, (fun r hr => by cases hr), Nat.zero_le _, Nat.zero_le _⟩
  · simp only [Prod.mk.injEq] at hx
    rw [hsz] at hx hel2
    have hb' := hb
    simp only [hx.1, Rows.uptoBulk] at hb'
    have hbl := bulk_len (elems.map (·.1))
    rw [List.length_map] at hbl
    obtain ⟨V, hV⟩ : ∃ V : List α, (V.length = len ∧ ∀ i r, V[i]? = some r → W.cells? 0 (a.add (i * sz)) sz = some (F r) ∧ Q r) ∧ (V.map g).sum ≤ Rows.uptoBulkAll ((elems.take len).map (·.1)) := by
      have key : ∀ k, k ≤ len → ∃ V : List α, (V.length = k ∧ ∀ i r, V[i]? = some r → W.cells? 0 (a.add (i * sz)) sz = some (F r) ∧ Q r) ∧ (V.map g).sum ≤ Rows.uptoBulkAll ((elems.take k).map (·.1)) := by
        intro k
        induction k with
        | zero => exact fun _ => ⟨[], ⟨rfl, fun i r h => by simp at h⟩, by simp⟩
        | succ k ih =>
          intro hk
          obtain ⟨V, ⟨h1, h2⟩, hsum⟩ := ih (by omega)
          obtain ⟨y, hy⟩ : ∃ y, elems[k]? = some y := ⟨_, List.getElem?_eq_getElem (by omega)⟩
          have h3 := (hel2 k (by omega)).trans hy
          obtain ⟨cs', hc, ht'⟩ := Option.bind_eq_some_iff.1 h3
          have hby := bulk_part (List.mem_map_of_mem (f := (·.1)) (List.mem_of_getElem? hy))
          obtain ⟨r, rfl, hq, hgr⟩ := hel n cs' y (by omega) ht' (fun x hxm => hlt x (by
            rw [hx.2]
            exact List.mem_append_right _ (List.mem_flatMap.2 ⟨y, List.mem_append_left _ (List.mem_of_getElem? hy), hxm⟩))) (by omega)
          refine ⟨V ++ [r], ⟨by simp [h1], fun i r' hr' => ?_⟩, by
            simp only [List.map_append, List.sum_append, bulk_app, List.take_add_one, hy, Option.toList_some, List.map_cons, List.map_nil, List.sum_cons, List.sum_nil, Rows.uptoBulkAll]
            omega⟩
          rcases Nat.lt_or_ge i k with h | h
          · rw [List.getElem?_append_left (by omega)] at hr'; exact h2 i r' hr'
          · rw [List.getElem?_append_right (by omega)] at hr'
            have hi0 : i - V.length = 0 := by
              have := (List.getElem?_eq_some_iff.1 hr').1
              simp at this; omega
            rw [hi0] at hr'
            obtain rfl : r = r' := by simpa using hr'
            obtain rfl : i = k := by omega
            exact ⟨hc, hq⟩
      exact key len (Nat.le_refl _)
    obtain ⟨⟨hVl, hV⟩, hVs⟩ := hV
    have htk : Rows.uptoBulkAll ((elems.take len).map (·.1)) ≤ Rows.uptoBulkAll (elems.map (·.1)) := by
      have h := congrArg (fun l => Rows.uptoBulkAll (l.map (·.1))) (List.take_append_drop len elems)
      simp only [List.map_append, bulk_app] at h
      omega
    have hmx : len ≤ 9223372036854775807 := Nat.le_trans hl (Nat.le_trans hm (by decide))
    refine ⟨some a, V, cap, by rw [hVl]; exact hcs, by omega, fun hn => ?_, fun r hr => ?_, by omega, by omega⟩
    · have hl0 : 0 < len := by rw [← hVl]; simpa using hn
      have hc : ∀ i r, V[i]? = some r → ∀ j x, (F r)[j]? = some x → j < sz ∧ W.cell? (a.add (i * sz + j)) = some x := fun i r hr j x hx => by
        obtain ⟨_, hlen', hat⟩ := World.cells?_some (hV i r hr).1
        have hj : j < sz := by rw [← hlen']; exact (List.getElem?_eq_some_iff.1 hx).1
        refine ⟨hj, ?_⟩
        rw [← Go.Deep.add_add, hat j hj, hx]
      obtain ⟨r0, hr0⟩ : ∃ r, V[0]? = some r := ⟨_, List.getElem?_eq_getElem (by omega)⟩
      obtain ⟨_, hlen0, _⟩ := World.cells?_some (hV 0 r0 hr0).1
      obtain ⟨x0, hx0⟩ : ∃ x, (F r0)[0]? = some x := ⟨_, List.getElem?_eq_getElem (by omega)⟩
      obtain ⟨b, off, spot⟩ := a
      have hspot : spot = none := by simpa [Addr.add] using World.cell?_spot (hc 0 r0 hr0 0 x0 hx0).2
      subst hspot
      refine ⟨b, off, rfl, hlt (.cell b off) ?_, fun i r hr j x hx' => ?_⟩
      · rw [hx.2]
        exact List.mem_append_left _ (MemPlace.mem_row.2 ⟨0, Nat.mul_pos (by omega) h0, by simp⟩)
      · rw [List.getElem?_map] at hr
        obtain ⟨r', hr', rfl⟩ := Option.map_eq_some_iff.1 hr
        rw [Nat.add_assoc, ← add_plain]
        exact (hc i r' hr' j x hx').2
    · obtain ⟨i, hi⟩ := List.getElem?_of_mem hr
      exact (hV i r hi).2
section
variable {H : Type} {enc : TypeId × Value → H} {W : World}
theorem struct_opens {P : Program} {M : Nat} {fs : Array Field} {t : TypeId} {fuel : Nat} {cs : List Value} {y : DataW H × List MemPlace} (ht : P.underlying t = some (.struct fs)) (h : DataW.trod enc P W 0 (fun _ => true) true fuel t cs = some y) (hlt : ∀ x ∈ y.2, x.block < W.heap.size) (hb : Rows.uptoBulk y.1 ≤ M) :
    ∃ n, fuel = n + 1 ∧ cs.length = P.cellsOf t ∧ ∀ (i : Nat) (f : Field), fs[i]? = some f → ∃ z : DataW H × List MemPlace, DataW.trod enc P W 0 (fun _ => true) true n f.type ((cs.drop f.offset).take (P.cellsOf f.type)) = some z ∧ (∀ x ∈ z.2, x.block < W.heap.size) ∧ Rows.uptoBulk z.1 ≤ M := by
  obtain ⟨xs, n, hfu, hy, hl, hxl, hf⟩ := DataW.trod_struct ht h
  refine ⟨n, hfu, hl, fun i f hi => ?_⟩
  obtain ⟨z, hz⟩ : ∃ z, xs[i]? = some z := ⟨_, List.getElem?_eq_getElem (by rw [hxl]; exact (Array.getElem?_eq_some_iff.1 hi).1)⟩
  have h4 := bulk_part (List.mem_map_of_mem (f := (·.1)) (List.mem_of_getElem? hz))
  rw [hy] at hb
  simp only [Rows.uptoBulk] at hb
  refine ⟨z, (hf i f hi).trans hz, fun x hx => hlt x ?_, by omega⟩
  rw [hy]
  exact List.mem_flatMap.2 ⟨z, List.mem_of_getElem? hz, hx⟩

theorem exs_opens {M : Nat} (hM : M ≤ 1000000000) : ∀ (fuel : Nat) (cs : List Value) (y : DataW H × List MemPlace), DataW.trod enc Try.prog W 0 (fun _ => true) true fuel 27 cs = some y → (∀ x ∈ y.2, x.block < W.heap.size) → Rows.uptoBulk y.1 ≤ M →
    ∃ (A : Option Addr) (l : List Ex) (c : Nat), cs = [.slice A l.length c] ∧ ExsAt fuel W W.heap.size A l ∧ ∀ k, ExLim k l := by
  intro fuel
  induction fuel using Nat.strongRecOn with
  | ind fuel ih =>
  intro cs y h hlt hb
  obtain ⟨A, l, c, h1, h2, h3, h4, h5, _⟩ := rows_opens (fun _ => 0) (d := y.1) (p := y.2) Ex.cells (fun e => ExsAt (fuel - 1) W W.heap.size e.A e.args ∧ ∀ k, ExLim k e.args) Try.underlying27 cells_ex (by decide) h hlt hb (by
    intro n cs' y' hn h' hlt' hb'
    obtain ⟨m, rfl, hl, hf⟩ := struct_opens Try.underlying29 h' hlt' hb'
    rw [cells_ex] at hl
    obtain ⟨a0, a1, a2, a3, a4, rfl⟩ := list5 hl
    obtain ⟨z0, f0, _⟩ := hf 0 _ rfl
    obtain ⟨z1, f1, _⟩ := hf 1 _ rfl
    obtain ⟨z2, f2, _⟩ := hf 2 _ rfl
    obtain ⟨z3, f3, _⟩ := hf 3 _ rfl
    obtain ⟨z4, f4, p4, b4⟩ := hf 4 _ rfl
    simp only [List.getElem_toArray, List.getElem_cons_zero, List.getElem_cons_succ, cells_int1, cells_str1, cells_exs, List.drop_succ_cons, List.drop_zero, List.take_succ_cons, List.take_zero] at f0 f1 f2 f3 f4
    obtain ⟨k, g0, _, _⟩ := DataW.trod_int Try.underlying3 f0
    obtain ⟨k1, g1, _, _⟩ := DataW.trod_int Try.underlying3 f1
    obtain ⟨s2, g2, _, _⟩ := DataW.trod_string Try.underlying9 f2
    obtain ⟨s3, g3, _, _⟩ := DataW.trod_string Try.underlying9 f3
    obtain ⟨A4, l4, c4, g4, q4, q5⟩ := ih m (by omega) _ _ f4 p4 b4
    simp at g0 g1 g2 g3 g4
    subst g0 g1 g2 g3 g4
    exact ⟨.mk k k1 s2 s3 A4 l4 c4, rfl, ⟨q4.more (by omega), q5⟩, Nat.zero_le _⟩)
  refine ⟨A, l, c, h1, ?_, fun k => ?_⟩
  · cases fuel with
    | zero => simp [DataW.trod] at h
    | succ f => exact ⟨h2, h3, fun e he => (h4 e he).1⟩
  · cases k with
    | zero => trivial
    | succ k => exact ⟨by omega, fun e he => (h4 e he).2 k⟩
theorem lbs_opens {M : Nat} {fuel : Nat} {cs : List Value} {y : DataW H × List MemPlace} (h : DataW.trod enc Try.prog W 0 (fun _ => true) true fuel 56 cs = some y) (hlt : ∀ x ∈ y.2, x.block < W.heap.size) (hb : Rows.uptoBulk y.1 ≤ M) :
    ∃ (A : Option Addr) (l : List Lb) (c : Nat), cs = [.slice A l.length c] ∧ l.length ≤ 9223372036854775807 ∧ Rows W W.heap.size 1 A (l.map Lb.cells) ∧ (∀ x ∈ l, x.xs.length ≤ 9223372036854775807 ∧ Rows W W.heap.size 1 x.A (x.xs.map fun n => [Value.int .i64 n])) ∧ (∀ n ∈ (l.map (·.xs)).flatten, (Lit.int .i64 n).wf = true) ∧ l.length ≤ M ∧ (l.map (·.xs)).flatten.length ≤ M := by
  obtain ⟨A, l, c, h1, h2, h3, h4, h5, h6⟩ := rows_opens (fun x : Lb => x.xs.length) (d := y.1) (p := y.2) Lb.cells (fun x => (x.xs.length ≤ 9223372036854775807 ∧ Rows W W.heap.size 1 x.A (x.xs.map fun n => [Value.int .i64 n])) ∧ ∀ n ∈ x.xs, (Lit.int .i64 n).wf = true) Try.underlying56 cells_ints (by decide) h hlt hb (by
    intro n cs' y' _ h' hlt' _
    obtain ⟨A, l, c, h1, h2, h3, h4, h5, _⟩ := rows_opens (fun _ => 0) (d := y'.1) (p := y'.2) (fun n : Int => [Value.int .i64 n]) (fun n => (Lit.int .i64 n).wf = true) Try.underlying92 cells_int1 (by decide) h' hlt' (Nat.le_refl _) (by
      intro n2 cs2 y2 _ h2 _ _
      obtain ⟨k, g, g1, g2⟩ := DataW.trod_int Try.underlying3 h2
      exact ⟨k, g, by first | exact g1 | exact g2 | exact g2.1 | exact g1.1 | simp_all, Nat.zero_le _⟩)
    exact ⟨⟨A, l, c⟩, h1, ⟨⟨h2, h3⟩, h4⟩, h5⟩)
  refine ⟨A, l, c, h1, h2, h3, fun x hx => (h4 x hx).1, fun n hn => ?_, h5, ?_⟩
  · obtain ⟨q, hq, hnq⟩ := List.mem_flatten.1 hn
    obtain ⟨x, hx, rfl⟩ := List.mem_map.1 hq
    exact (h4 x hx).2 n hnq
  · rw [List.length_flatten, List.map_map]
    exact h6

theorem sts_opens {M : Nat} (hM : M ≤ 1000000000) : ∀ (fuel : Nat) (cs : List Value) (y : DataW H × List MemPlace), DataW.trod enc Try.prog W 0 (fun _ => true) true fuel 30 cs = some y → (∀ x ∈ y.2, x.block < W.heap.size) → Rows.uptoBulk y.1 ≤ M →
    ∃ (A : Option Addr) (l : List St) (c : Nat), cs = [.slice A l.length c] ∧ StsAt fuel W W.heap.size A l ∧ l.length ≤ M ∧ ∀ k, StsLim k l := by
  intro fuel
  induction fuel using Nat.strongRecOn with
  | ind fuel ih =>
  intro cs y h hlt hb
  obtain ⟨A, l, c, h1, h2, h3, h4, h5, _⟩ := rows_opens (fun _ => 0) (d := y.1) (p := y.2) St.cells (fun s => (ExsAt (fuel - 1) W W.heap.size s.eA s.es ∧
      (s.ls.length ≤ 9223372036854775807 ∧ Rows W W.heap.size 1 s.lA (s.ls.map Lb.cells) ∧ ∀ x ∈ s.ls, x.xs.length ≤ 9223372036854775807 ∧ Rows W W.heap.size 1 x.A (x.xs.map fun n => [Value.int .i64 n])) ∧
      s.bs.length ≤ 9223372036854775807 ∧ Rows W W.heap.size 1 s.bA (s.bs.map Bk.cells) ∧ ∀ b ∈ s.bs, StsAt (fuel - 1) W W.heap.size b.A b.l) ∧ (StLim s ∧ (∀ k, ExLim k s.es) ∧ (∀ n ∈ (s.ls.map (·.xs)).flatten, (Lit.int .i64 n).wf = true) ∧ ∀ b ∈ s.bs, ∀ k, StsLim k b.l)) Try.underlying30 cells_smt (by decide) h hlt hb (by
    intro n cs' y' hn h' hlt' hb'
    obtain ⟨m, rfl, hl, hf⟩ := struct_opens Try.underlying58 h' hlt' hb'
    rw [cells_smt] at hl
    obtain ⟨a0, a1, a2, a3, a4, a5, rfl⟩ := list6 hl
    obtain ⟨z0, f0, _⟩ := hf 0 _ rfl
    obtain ⟨z1, f1, _⟩ := hf 1 _ rfl
    obtain ⟨z2, f2, _⟩ := hf 2 _ rfl
    obtain ⟨z3, f3, p3, b3⟩ := hf 3 _ rfl
    obtain ⟨z4, f4, p4, b4⟩ := hf 4 _ rfl
    obtain ⟨z5, f5, p5, b5⟩ := hf 5 _ rfl
    simp only [List.getElem_toArray, List.getElem_cons_zero, List.getElem_cons_succ, cells_int1, cells_str1, cells_exs, cells_lbs, cells_bks, List.drop_succ_cons, List.drop_zero, List.take_succ_cons, List.take_zero] at f0 f1 f2 f3 f4 f5
    obtain ⟨k, g0, _, _⟩ := DataW.trod_int Try.underlying3 f0
    obtain ⟨k1, g1, _, _⟩ := DataW.trod_int Try.underlying3 f1
    obtain ⟨s2, g2, _, _⟩ := DataW.trod_string Try.underlying9 f2
    obtain ⟨A3, l3, c3, g3, q3, x3⟩ := exs_opens hM m _ _ f3 p3 b3
    obtain ⟨A4, l4, c4, g4, q41, q42, q43, x4, y4, z4'⟩ := lbs_opens f4 p4 b4
    obtain ⟨A5, l5, c5, g5, q5, q6, q7, x5, _⟩ := rows_opens (fun _ => 0) (d := z5.1) (p := z5.2) Bk.cells (fun b => StsAt (fuel - 1) W W.heap.size b.A b.l ∧ ∀ k, StsLim k b.l) Try.underlying55 cells_smts (by decide) f5 p5 b5 (by
      intro n2 cs2 y2 hn2 h2 hlt2 hb2
      obtain ⟨A, l, c, e1, e2, _, e3⟩ := ih n2 (by omega) _ _ h2 hlt2 hb2
      exact ⟨.mk A l c, e1, ⟨e2.more (by omega), e3⟩, Nat.zero_le _⟩)
    simp at g0 g1 g2 g3 g4 g5
    subst g0 g1 g2 g3 g4 g5
    refine ⟨.mk k k1 s2 A3 l3 c3 A4 l4 c4 A5 l5 c5, rfl, ⟨⟨q3.more (by omega), ⟨q41, q42, q43⟩, q5, q6, fun b hb => (q7 b hb).1⟩, ⟨?_, ?_, ?_, ?_⟩, x3, x4, fun b hb => (q7 b hb).2⟩, Nat.zero_le _⟩
    · exact (x3 1).1
    · show l4.length ≤ _; omega
    · show l5.length ≤ _; omega
    · show (l4.map (·.xs)).flatten.length ≤ _; omega)
  refine ⟨A, l, c, h1, ?_, h5, fun k => ?_⟩
  · cases fuel with
    | zero => simp [DataW.trod] at h
    | succ f => exact ⟨h2, h3, fun s hs => (h4 s hs).1⟩
  · cases k with
    | zero => trivial
    | succ k => exact fun s hs => ⟨(h4 s hs).2.1, (h4 s hs).2.2.1 (k + 1), (h4 s hs).2.2.2.1, fun x hx => (h4 s hs).2.2.2.2 x hx k⟩
end
end Go.Proofs.Ytmhdcehpddbjaaa
/- TypingJoins, for what was handed in of bulk at most 2^20. -/
namespace Go.Proofs.Ytmhdcehpddbjaaa
open Go.ChangeShapes Go.WideShapes Go.ChangeAt Go.RowKit Go.Deep

set_option maxRecDepth 100000 in
theorem unit_meths {H : Type} {enc : TypeId × Value → H} {W : World} {fuel c M : Nat} {a : Option Addr} {u : List Dk} {y : DataW H × List MemPlace}
    (h : DataW.trod enc Try.prog W 0 (fun _ => true) true fuel 24 [.slice a u.length c] = some y) (hb : Rows.uptoBulk y.1 ≤ M) (hu : UnitAt W W.heap.size a u) : ∀ x ∈ u, ∀ m ∈ x.ms, m.ps.length ≤ M ∧ m.vs.length ≤ M := by
  intro x hx m0 hm0
  obtain ⟨i, hi⟩ := List.getElem?_of_mem hx
  have hil : i < u.length := (List.getElem?_eq_some_iff.1 hi).1
  obtain ⟨n, hs⟩ := struct_bulk Try.underlying24 h hb
  obtain ⟨z, hz, hzb⟩ := hs 0 _ rfl
  obtain ⟨b, off, rfl, _, hc⟩ := hu.at_ (by omega)
  have hz' : DataW.trod enc Try.prog W 0 (fun _ => true) true n 22 [.slice (some ⟨b, off, none⟩) u.length c] = some z := hz
  obtain ⟨_, hel⟩ := slice_bulk Try.underlying22 hz' hzb
  obtain ⟨ad, m, cs', y', had, hcs', hy', hyb⟩ := hel i hil
  obtain rfl : ⟨b, off, none⟩ = ad := by simpa using had
  have e11 : Try.prog.cellsOf 48 = 11 := by kernel_rfl
  rw [e11] at hcs'
  obtain ⟨_, hlen, hat⟩ := World.cells?_some hcs'
  obtain ⟨n2, hs2⟩ := struct_bulk Try.underlying48 hy' hyb
  obtain ⟨z7, hz7, hzb7⟩ := hs2 7 _ rfl
  have h7 : cs'[7]? = some (.slice x.mA x.ms.length x.mc) := by
    rw [← hat 7 (by omega), Go.WideShapes.add_plain, Go.WideShapes.add_plain]
    exact hc i x hi 7 _ rfl
  have e1 : Try.prog.cellsOf 46 = 1 := by kernel_rfl
  have hl7 : (cs'.drop 7).take 1 = [.slice x.mA x.ms.length x.mc] := by
    obtain ⟨h61, h62⟩ := List.getElem?_eq_some_iff.1 h7
    rw [List.drop_eq_getElem_cons h61, h62]; rfl
  have hz7' : DataW.trod enc Try.prog W 0 (fun _ => true) true n2 46 ((cs'.drop 7).take (Try.prog.cellsOf 46)) = some z7 := hz7
  rw [e1, hl7] at hz7'
  obtain ⟨_, hel7⟩ := slice_bulk Try.underlying46 hz7' hzb7
  obtain ⟨j, hj⟩ := List.getElem?_of_mem hm0
  have hjl : j < x.ms.length := (List.getElem?_eq_some_iff.1 hj).1
  obtain ⟨ad2, m2, cs2, y2, had2, hcs2, hy2, hyb2⟩ := hel7 j hjl
  obtain ⟨mb, mo, hmA, _, hmc⟩ := (hu.decls x hx).meths (by simp; omega)
  have e12 : Try.prog.cellsOf 50 = 11 := by kernel_rfl
  rw [e12] at hcs2
  obtain ⟨_, hlen2, hat2⟩ := World.cells?_some hcs2
  rw [hmA] at had2
  obtain rfl : ⟨mb, mo, none⟩ = ad2 := by simpa using had2
  obtain ⟨n3, hs3⟩ := struct_bulk Try.underlying50 hy2 hyb2
  have at_ : ∀ q, q < 11 → ∀ v, m0.cells[q]? = some v → (cs2.drop q).take 1 = [v] := fun q hq v hv => by
    have h6 : cs2[q]? = some v := by
      rw [← hat2 q (by omega), Go.WideShapes.add_plain, Go.WideShapes.add_plain]
      exact hmc j m0.cells (by simp [hj]) q v hv
    obtain ⟨h61, h62⟩ := List.getElem?_eq_some_iff.1 h6
    rw [List.drop_eq_getElem_cons h61, h62]; rfl
  have eV : Try.prog.cellsOf 39 = 1 := by kernel_rfl
  obtain ⟨zp, hzp, hbp⟩ := hs3 4 _ rfl
  obtain ⟨zv, hzv, hbv⟩ := hs3 6 _ rfl
  have gp : DataW.trod enc Try.prog W 0 (fun _ => true) true n3 39 ((cs2.drop 4).take (Try.prog.cellsOf 39)) = some zp := hzp
  have gv : DataW.trod enc Try.prog W 0 (fun _ => true) true n3 39 ((cs2.drop 9).take (Try.prog.cellsOf 39)) = some zv := hzv
  rw [eV, at_ 4 (by omega) _ rfl] at gp
  rw [eV, at_ 9 (by omega) _ rfl] at gv
  exact ⟨(slice_bulk Try.underlying39 gp hbp).1, (slice_bulk Try.underlying39 gv hbv).1⟩

set_option maxRecDepth 100000 in
theorem where_open {H : Type} {enc : TypeId × Value → H} {W : World} {fuel : Nat} {cs : List Value} {y : DataW H × List MemPlace} (h : DataW.trod enc Try.prog W 0 (fun _ => true) true fuel 26 cs = some y) (hlt : ∀ x ∈ y.2, x.block < W.heap.size) :
    ∃ a b : Int, cs = [.int .i64 a, .int .i64 b] := by
  obtain ⟨m, rfl, hl, hf⟩ := struct_open Try.underlying26 h hlt
  have e2 : Try.prog.cellsOf 26 = 2 := by kernel_rfl
  rw [e2] at hl
  obtain ⟨a0, a1, rfl⟩ : ∃ a0 a1, cs = [a0, a1] := by
    match cs, hl with
    | [a, b], _ => exact ⟨a, b, rfl⟩
  obtain ⟨z0, f0, _⟩ := hf 0 _ rfl
  obtain ⟨z1, f1, _⟩ := hf 1 _ rfl
  have e1 : Try.prog.cellsOf 3 = 1 := by kernel_rfl
  simp only [List.getElem_toArray, List.getElem_cons_zero, List.getElem_cons_succ, e1, List.drop_succ_cons, List.drop_zero, List.take_succ_cons, List.take_zero] at f0 f1
  obtain ⟨k, g0, _, _⟩ := DataW.trod_int Try.underlying3 f0
  obtain ⟨k1, g1, _, _⟩ := DataW.trod_int Try.underlying3 f1
  simp at g0 g1
  subst g0 g1
  exact ⟨k, k1, rfl⟩
set_option maxRecDepth 100000 in
theorem unit_short {H : Type} {enc : TypeId × Value → H} {W : World} {fuel n c M : Nat} {a : Option Addr} {y : DataW H × List MemPlace}
    (h : DataW.trod enc Try.prog W 0 (fun _ => true) true fuel 24 [.slice a n c] = some y) (hb : Rows.uptoBulk y.1 ≤ M) : n ≤ M := by
  obtain ⟨q, hs⟩ := struct_bulk Try.underlying24 h hb
  obtain ⟨z, hz, hzb⟩ := hs 0 _ rfl
  have hz' : DataW.trod enc Try.prog W 0 (fun _ => true) true q 22 [.slice a n c] = some z := hz
  exact (slice_bulk Try.underlying22 hz' hzb).1
end Go.Proofs.Ytmhdcehpddbjaaa
