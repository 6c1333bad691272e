/- slices.Grow of nothing, and slices.Concat. -/
import Derived.Test.YtejifefgmlpclaaGreatTyJ
import Derived.Test.YtejifefgmlpclaaGreatTabClone
import Derived.Lib.AppendZerosOnto
import Derived.Lib.SliceRun
import Derived.Lib.Walk
import Derived.WalkKit
import Derived.WalkSpells
import Derived.WalkLawsBesides
import Derived.LoopTactic
import Derived.Deep.QuietTactic
import Derived.BigQuiet
import Derived.Below
import Derived.Laws.ResultCell
import Derived.Laws.Tables
import Derived.Laws.Rows
import Derived.Deep.Cut
import Derived.KernelRfl
import Derived.Test.YtejifefgmlpclaaGreatTyQ
import Derived.Maps.OwnSet
import Derived.Test.YtejifefgmlpclaaGreatTyR
set_option linter.unusedSimpArgs false
set_option linter.unusedVariables false
namespace Go.Proofs.YtejifefgmlpclaaGreat
open Go.RowKit

theorem infoCI : (Tryz.prog.info? 3).map (fun i => (i.zero, i.size, i.bytes)) = some (some (.int .i64 0), 1, 8) := by kernel_rfl
set_option maxRecDepth 100000 in
set_option maxHeartbeats 4000000 in
theorem growI_is (n : Nat) (w : World) (hn : n ≤ 1000000000) :
    Calls Tryz.prog 105 #[.slice none 0 0, .int .i64 (n : Int)] w fun z w' => ∃ A c, z = .returned (.slice A 0 c) ∧ w'.ownsRow w.heap.size 3 1 (.slice A 0 c) 0 [] ∧ Below w.heap.size w w' := by
  rcases Nat.eq_zero_or_pos n with h0 | h0
  · subst h0
    go_enter Tryz.func105, Tryz.ntmps105
    try simp only [List.append_eq, List.cons_append, List.nil_append]
    go_wp2_with fail
    go_ret
    exact ⟨none, 0, rfl, World.ownsRow_nil _ _ _ _, Below.refl _ _⟩
  · obtain ⟨i0, hi, hz0, hz1, hz2⟩ := info_parts infoCI
    have hrz : ∀ ty, (Builtin.append_ #[62, 3] ty #[.slice none 0 0, .int .i64 (n : Int)]).run Tryz.prog w =
        .ok (.slice (some ⟨w.heap.size, 0, none⟩) n (grownCap w n 0 3)) (w.drew.alloc (.cells (#[] ++ Builtin.zeroCells (.int .i64 0 : Value).cells n ++ Builtin.zeroCells (.int .i64 0 : Value).cells (grownCap w n 0 3 - n)) 3)) := fun ty => by
      have h := Lib.run_append_grow_zeros (P := Tryz.prog) w 62 3 ty 3 i0 (.int .i64 0) .i64 .i64 Tryz.underlying62 Tryz.underlying3 hi hz0 none 0 0 [] (run_firstCells_none w.drew i0.size 0 0 0) n h0 (by omega) (by omega) (by omega) (by rw [hz2]; omega)
        (by have := growslice_fits (need := 0 + n) (old := 0) (bytes := i0.bytes) (by omega) (by rw [hz2]; omega); simpa using this)
      simpa using h
    obtain ⟨G, hG⟩ : ∃ G, grownCap w n 0 3 = G := ⟨_, rfl⟩
    have hG1 : n ≤ G := hG ▸ grownCap_ge w n 0 3
    have hG2 : G ≤ maxLen := hG ▸ grownCap_le_maxLen w n 0 3 (by simp [maxLen]; omega)
    rw [hG] at hrz
    go_enter Tryz.func105, Tryz.ntmps105
    try simp only [List.append_eq, List.cons_append, List.nil_append]
    go_wp2_with (at_builtin; refine Lib.wpList_append_run _ rfl _ _ _ _ rfl _ _ rfl rfl _ _ (hrz _) ?_)
    go_ret
    exact ⟨some ⟨w.heap.size, 0, none⟩, G, rfl, ⟨by simp, .inr ⟨w.heap.size, G, _, rfl, Nat.le_refl _, World.alloc_heap_new w _, Nat.zero_le _, hG2, by simp only [Array.size_append, size_zeroCells, List.size_toArray, List.length_cons, List.length_nil]; omega, by simp⟩⟩, ((Below.refl w.heap.size w).alloc (Nat.le_refl _) _).drew⟩
theorem infoCV : (Tryz.prog.info? 55).map (fun i => (i.zero, i.size, i.bytes)) = some (some (.agg #[.string ⟨#[]⟩, .int .i64 0, .int .i64 0, .int .i64 0, .string ⟨#[]⟩, .int .i64 0, .int .i64 0, .int .i64 0]), 8, 80) := by kernel_rfl
set_option maxRecDepth 100000 in
set_option maxHeartbeats 4000000 in
theorem growV_is (n : Nat) (w : World) (hn : n ≤ 1000000000) :
    Calls Tryz.prog 76 #[.slice none 0 0, .int .i64 (n : Int)] w fun z w' => ∃ A c, z = .returned (.slice A 0 c) ∧ w'.ownsRow w.heap.size 55 8 (.slice A 0 c) 0 [] ∧ Below w.heap.size w w' := by
  rcases Nat.eq_zero_or_pos n with h0 | h0
  · subst h0
    go_enter Tryz.func76, Tryz.ntmps76
    try simp only [List.append_eq, List.cons_append, List.nil_append]
    go_wp2_with fail
    go_ret
    exact ⟨none, 0, rfl, World.ownsRow_nil _ _ _ _, Below.refl _ _⟩
  · obtain ⟨i0, hi, hz0, hz1, hz2⟩ := info_parts infoCV
    have hrz : ∀ ty, (Builtin.append_ #[30, 3] ty #[.slice none 0 0, .int .i64 (n : Int)]).run Tryz.prog w =
        .ok (.slice (some ⟨w.heap.size, 0, none⟩) n (grownCap w n 0 55)) (w.drew.alloc (.cells (#[] ++ Builtin.zeroCells (.agg #[.string ⟨#[]⟩, .int .i64 0, .int .i64 0, .int .i64 0, .string ⟨#[]⟩, .int .i64 0, .int .i64 0, .int .i64 0] : Value).cells n ++ Builtin.zeroCells (.agg #[.string ⟨#[]⟩, .int .i64 0, .int .i64 0, .int .i64 0, .string ⟨#[]⟩, .int .i64 0, .int .i64 0, .int .i64 0] : Value).cells (grownCap w n 0 55 - n)) 55)) := fun ty => by
      have h := Lib.run_append_grow_zeros (P := Tryz.prog) w 30 3 ty 55 i0 (.agg #[.string ⟨#[]⟩, .int .i64 0, .int .i64 0, .int .i64 0, .string ⟨#[]⟩, .int .i64 0, .int .i64 0, .int .i64 0]) .i64 .i64 Tryz.underlying30 Tryz.underlying3 hi hz0 none 0 0 [] (run_firstCells_none w.drew i0.size 0 0 0) n h0 (by omega) (by omega) (by omega) (by rw [hz2]; omega)
        (by have := growslice_fits (need := 0 + n) (old := 0) (bytes := i0.bytes) (by omega) (by rw [hz2]; omega); simpa using this)
      simpa using h
    obtain ⟨G, hG⟩ : ∃ G, grownCap w n 0 55 = G := ⟨_, rfl⟩
    have hG1 : n ≤ G := hG ▸ grownCap_ge w n 0 55
    have hG2 : G ≤ maxLen := hG ▸ grownCap_le_maxLen w n 0 55 (by simp [maxLen]; omega)
    rw [hG] at hrz
    go_enter Tryz.func76, Tryz.ntmps76
    try simp only [List.append_eq, List.cons_append, List.nil_append]
    go_wp2_with (at_builtin; refine Lib.wpList_append_run _ rfl _ _ _ _ rfl _ _ rfl rfl _ _ (hrz _) ?_)
    go_ret
    exact ⟨some ⟨w.heap.size, 0, none⟩, G, rfl, ⟨by simp, .inr ⟨w.heap.size, G, _, rfl, Nat.le_refl _, World.alloc_heap_new w _, Nat.zero_le _, hG2, by simp only [Array.size_append, size_zeroCells, List.size_toArray, List.length_cons, List.length_nil]; omega, by simp⟩⟩, ((Below.refl w.heap.size w).alloc (Nat.le_refl _) _).drew⟩
/-- A list that is laid into another: where it lies, its capacity, its rows. -/
structure Pt where
  A : Option Addr
  c : Nat
  rows : List (List Value)
def Pt.cells (x : Pt) : List Value := [.slice x.A x.rows.length x.c]
def Pt.flat (S : List Pt) : List (List Value) := (S.map Pt.rows).flatten
def Pt.n (S : List Pt) : Nat := (Pt.flat S).length
theorem Pt.n_cons (x : Pt) (S : List Pt) : Pt.n (x :: S) = x.rows.length + Pt.n S := by simp [Pt.n, Pt.flat]
theorem Pt.n_drop {S : List Pt} {k : Nat} {x : Pt} (h : S[k]? = some x) : Pt.n (S.drop k) = x.rows.length + Pt.n (S.drop (k + 1)) := by rw [tdrop_at h, Pt.n_cons]
theorem Pt.n_end {S : List Pt} {k : Nat} (h : S.length ≤ k) : Pt.n (S.drop k) = 0 := by rw [List.drop_eq_nil_of_le h]; rfl
theorem Pt.flat_take {S : List Pt} {k : Nat} {x : Pt} (h : S[k]? = some x) : Pt.flat (S.take (k + 1)) = Pt.flat (S.take k) ++ x.rows := by
  rw [List.take_add_one, h]
  simp [Pt.flat]
theorem Pt.n_take {S : List Pt} (k : Nat) : Pt.n (S.take k) + Pt.n (S.drop k) = Pt.n S := by
  have h : Pt.flat S = Pt.flat (S.take k) ++ Pt.flat (S.drop k) := by
    simp only [Pt.flat]
    rw [← List.flatten_append, ← List.map_append, List.take_append_drop]
  simp only [Pt.n]
  rw [h, List.length_append]
theorem Pt.at1 {w : World} {B : Nat} {A : Option Addr} {S : List Pt} (h : Rows w B 1 A (S.map Pt.cells)) {i : Nat} {x : Pt} (hi : S[i]? = some x) :
    ∃ g off, A = some ⟨g, off, none⟩ ∧ g < B ∧ w.cell? ⟨g, off + i, none⟩ = some (.slice x.A x.rows.length x.c) := by
  obtain ⟨g, off, h1, h2, h3⟩ := h (by have := (List.getElem?_eq_some_iff.1 hi).1; simp; omega)
  have h4 := h3 i x.cells (by simp [hi]) 0 _ rfl
  simp only [Nat.add_zero, Nat.mul_one] at h4
  exact ⟨g, off, h1, h2, h4⟩
set_option maxRecDepth 100000 in
set_option maxHeartbeats 4000000 in
theorem concatI_is (AS : Option Addr) (cS B : Nat) (S : List Pt) (w : World) (hR : Rows w B 1 AS (S.map Pt.cells)) (hP : ∀ x ∈ S, Rows w B 1 x.A x.rows) (hs : ∀ x ∈ S, ∀ r ∈ x.rows, r.length = 1 ∧ ∀ u ∈ r, u.oneCell' = true) (hB : B ≤ w.heap.size) (lS : S.length ≤ 1000000000) (lX : Pt.n S ≤ 1000000000) :
    Calls Tryz.prog 94 #[.slice AS S.length cS] w fun z w' => ∃ A c, z = .returned (.slice A (Pt.n S) c) ∧ w'.ownsRow w.heap.size 3 1 (.slice A (Pt.n S) c) (Pt.n S) (Pt.flat S).flatten ∧ Below w.heap.size w w' := by
  have HR := Aid.hid hR
  have HP := Aid.hid hP
  have HS := Aid.hid hs
  obtain ⟨T, hT⟩ : ∃ T, Pt.n S = T := ⟨_, rfl⟩
  rw [hT] at lX ⊢
  have HT := Aid.hid hT
  clear hR hP hs hT
  go_enter Tryz.func94, Tryz.ntmps94
  try simp only [List.append_eq, List.cons_append, List.nil_append]
  go_wp2_with fail
  go_loopw [3, 11] (fun vn vi wr => ∃ (j n : Nat), vn = .int .i64 n ∧ vi = .int .i64 j ∧ j ≤ S.length ∧ Hid (n + Pt.n (S.drop j) = T) ∧ w = wr) (fun _ vi _ => S.length - (intOf vi).toNat)
  case atStart => exact ⟨0, 0, rfl, rfl, Nat.zero_le _, Aid.hid (by simpa using HT.out), rfl⟩
  case round =>
    obtain ⟨j, n, rfl, rfl, hj, HN, rfl⟩ := hrel
    by_cases hlt : j < S.length
    · obtain ⟨x, hx⟩ : ∃ x, S[j]? = some x := ⟨_, List.getElem?_eq_getElem hlt⟩
      obtain ⟨g, off, rfl, hgB, hc⟩ := Pt.at1 HR.out hx
      have hn1 := Pt.n_drop hx
      have HN2 := Aid.hid (show n + x.rows.length + Pt.n (S.drop (j + 1)) = T by have := HN.out; omega)
      have hm : n + x.rows.length ≤ 1000000000 := by have := HN2.out; omega
      clear hx hn1
      go_wp2_with fail
      go_roundw
      case rel => exact ⟨j + 1, n + x.rows.length, by go_num, by go_num, by omega, HN2, trivial⟩
      case measure => simp [intOf]; omega
    · have hjE : j = S.length := by omega
      have hnT : n = T := by have := HN.out; rw [Pt.n_end (by omega)] at this; omega
      subst hnT
      clear hj HN
      have HC := Aid.hid (growI_is n w lX)
      go_wp2_with fail
      refine HC.out.mono ?_; rintro _ w1 ⟨A0, c0, rfl, hown0, hb0⟩
      have HO := Aid.hid hown0
      have HB := Aid.hid hb0
      clear hown0 hb0
      go_wp2_with fail
      go_loopw [6, 27] (fun vo vi wi => ∃ (j m : Nat) (A : Option Addr) (c : Nat), vo = .slice A m c ∧ vi = .int .i64 j ∧ j ≤ S.length ∧ Hid (m = Pt.n (S.take j)) ∧ Hid (wi.ownsRow w.heap.size 3 1 (.slice A m c) m (Pt.flat (S.take j)).flatten) ∧ Hid (Below w.heap.size w wi)) (fun _ vi _ => S.length - (intOf vi).toNat)
      case atStart => exact ⟨0, 0, A0, c0, rfl, rfl, Nat.zero_le _, Aid.hid rfl, HO, HB⟩
      case round =>
        clear HO HB
        obtain ⟨j, m, A, c, rfl, rfl, hj, HM, HO, HB⟩ := hrel
        by_cases hlt : j < S.length
        · obtain ⟨x, hx⟩ : ∃ x, S[j]? = some x := ⟨_, List.getElem?_eq_getElem hlt⟩
          have hmx := List.mem_of_getElem? hx
          have HRw : Rows wr B 1 AS (S.map Pt.cells) := HR.out.below HB.out hB
          obtain ⟨g, off, rfl, hgB, hc⟩ := Pt.at1 HRw hx
          have hrd : Reads wr B 1 x.A x.rows.length x.rows.flatten := Rows.reads (fun r hr => (HS.out x hmx r hr).1) ((HP.out x hmx).below HB.out hB)
          have h1c : ∀ u ∈ x.rows.flatten, u.oneCell' = true := fun u hu => by
            obtain ⟨r, hr, hur⟩ := List.mem_flatten.1 hu
            exact (HS.out x hmx r hr).2 u hur
          have hmn : m + x.rows.length ≤ 1000000000 := by
            have h1 := Pt.n_take (S := S) j; have h2 := Pt.n_drop hx; have := HM.out; have := HT.out; omega
          have HT2 := Aid.hid (Pt.flat_take hx)
          obtain ⟨i0, hi, hz0, hz1, hz2⟩ := info_parts infoCI
          have szw := HB.out.size
          have hown := HO.out
          have HRD := Aid.hid hrd
          have H1C := Aid.hid h1c
          have HOW := Aid.hid hown
          clear hx hmx HRw hrd h1c hown
          go_wp2_with (at_builtin; refine wpList_append_any _ rfl _ _ 62 rfl w.heap.size 3 i0 (.int .i64 0) 1 8 Tryz.underlying62 hi hz0 hz1 hz2 rfl (by decide) _ _ _ rfl HOW.out B _ x.rows.length x.c _ rfl HRD.out H1C.out (by unfold maxLen; omega) (by omega) szw ?_)
          rintro v' w' hown' hgrow -
          obtain ⟨A', c', rfl⟩ := own_slice hown'
          have HM' := Aid.hid (show m + x.rows.length = Pt.n (S.take (j + 1)) by rw [HM.out, Pt.n, Pt.n, HT2.out, List.length_append])
          have HO' := Aid.hid (show w'.ownsRow w.heap.size 3 1 (.slice A' (m + x.rows.length) c') (m + x.rows.length) (Pt.flat (S.take (j + 1))).flatten by rw [HT2.out, List.flatten_append]; exact hown')
          have HB' := Aid.hid (HB.out.grown hgrow szw (fun q hq => (HOW.out.lt q hq).1))
          clear hown' hgrow
          go_wp2_with fail
          go_roundw
          case rel => exact ⟨j + 1, m + x.rows.length, A', c', rfl, by go_num, by omega, HM', HO', HB'⟩
          case measure => simp [intOf]; omega
        · have hjE2 : j = S.length := by omega
          have hmT : m = n := by have := HM.out; rw [hjE2, List.take_length] at this; exact this.trans HT.out
          have HF := Aid.hid (show Pt.flat (S.take j) = Pt.flat S by rw [hjE2, List.take_length])
          subst hmT
          clear hj
          go_wp2_with fail
          go_ret
          exact ⟨A, c, rfl, by rw [← HF.out]; exact HO.out, HB.out⟩
set_option maxRecDepth 100000 in
set_option maxHeartbeats 4000000 in
theorem concatV_is (AS : Option Addr) (cS B : Nat) (S : List Pt) (w : World) (hR : Rows w B 1 AS (S.map Pt.cells)) (hP : ∀ x ∈ S, Rows w B 8 x.A x.rows) (hs : ∀ x ∈ S, ∀ r ∈ x.rows, r.length = 8 ∧ ∀ u ∈ r, u.oneCell' = true) (hB : B ≤ w.heap.size) (lS : S.length ≤ 1000000000) (lX : Pt.n S ≤ 1000000000) :
    Calls Tryz.prog 71 #[.slice AS S.length cS] w fun z w' => ∃ A c, z = .returned (.slice A (Pt.n S) c) ∧ w'.ownsRow w.heap.size 55 8 (.slice A (Pt.n S) c) (Pt.n S) (Pt.flat S).flatten ∧ Below w.heap.size w w' := by
  have HR := Aid.hid hR
  have HP := Aid.hid hP
  have HS := Aid.hid hs
  obtain ⟨T, hT⟩ : ∃ T, Pt.n S = T := ⟨_, rfl⟩
  rw [hT] at lX ⊢
  have HT := Aid.hid hT
  clear hR hP hs hT
  go_enter Tryz.func71, Tryz.ntmps71
  try simp only [List.append_eq, List.cons_append, List.nil_append]
  go_wp2_with fail
  go_loopw [3, 11] (fun vn vi wr => ∃ (j n : Nat), vn = .int .i64 n ∧ vi = .int .i64 j ∧ j ≤ S.length ∧ Hid (n + Pt.n (S.drop j) = T) ∧ w = wr) (fun _ vi _ => S.length - (intOf vi).toNat)
  case atStart => exact ⟨0, 0, rfl, rfl, Nat.zero_le _, Aid.hid (by simpa using HT.out), rfl⟩
  case round =>
    obtain ⟨j, n, rfl, rfl, hj, HN, rfl⟩ := hrel
    by_cases hlt : j < S.length
    · obtain ⟨x, hx⟩ : ∃ x, S[j]? = some x := ⟨_, List.getElem?_eq_getElem hlt⟩
      obtain ⟨g, off, rfl, hgB, hc⟩ := Pt.at1 HR.out hx
      have hn1 := Pt.n_drop hx
      have HN2 := Aid.hid (show n + x.rows.length + Pt.n (S.drop (j + 1)) = T by have := HN.out; omega)
      have hm : n + x.rows.length ≤ 1000000000 := by have := HN2.out; omega
      clear hx hn1
      go_wp2_with fail
      go_roundw
      case rel => exact ⟨j + 1, n + x.rows.length, by go_num, by go_num, by omega, HN2, trivial⟩
      case measure => simp [intOf]; omega
    · have hjE : j = S.length := by omega
      have hnT : n = T := by have := HN.out; rw [Pt.n_end (by omega)] at this; omega
      subst hnT
      clear hj HN
      have HC := Aid.hid (growV_is n w lX)
      go_wp2_with fail
      refine HC.out.mono ?_; rintro _ w1 ⟨A0, c0, rfl, hown0, hb0⟩
      have HO := Aid.hid hown0
      have HB := Aid.hid hb0
      clear hown0 hb0
      go_wp2_with fail
      go_loopw [6, 27] (fun vo vi wi => ∃ (j m : Nat) (A : Option Addr) (c : Nat), vo = .slice A m c ∧ vi = .int .i64 j ∧ j ≤ S.length ∧ Hid (m = Pt.n (S.take j)) ∧ Hid (wi.ownsRow w.heap.size 55 8 (.slice A m c) m (Pt.flat (S.take j)).flatten) ∧ Hid (Below w.heap.size w wi)) (fun _ vi _ => S.length - (intOf vi).toNat)
      case atStart => exact ⟨0, 0, A0, c0, rfl, rfl, Nat.zero_le _, Aid.hid rfl, HO, HB⟩
      case round =>
        clear HO HB
        obtain ⟨j, m, A, c, rfl, rfl, hj, HM, HO, HB⟩ := hrel
        by_cases hlt : j < S.length
        · obtain ⟨x, hx⟩ : ∃ x, S[j]? = some x := ⟨_, List.getElem?_eq_getElem hlt⟩
          have hmx := List.mem_of_getElem? hx
          have HRw : Rows wr B 1 AS (S.map Pt.cells) := HR.out.below HB.out hB
          obtain ⟨g, off, rfl, hgB, hc⟩ := Pt.at1 HRw hx
          have hrd : Reads wr B 8 x.A x.rows.length x.rows.flatten := Rows.reads (fun r hr => (HS.out x hmx r hr).1) ((HP.out x hmx).below HB.out hB)
          have h1c : ∀ u ∈ x.rows.flatten, u.oneCell' = true := fun u hu => by
            obtain ⟨r, hr, hur⟩ := List.mem_flatten.1 hu
            exact (HS.out x hmx r hr).2 u hur
          have hmn : m + x.rows.length ≤ 1000000000 := by
            have h1 := Pt.n_take (S := S) j; have h2 := Pt.n_drop hx; have := HM.out; have := HT.out; omega
          have HT2 := Aid.hid (Pt.flat_take hx)
          obtain ⟨i0, hi, hz0, hz1, hz2⟩ := info_parts infoCV
          have szw := HB.out.size
          have hown := HO.out
          have HRD := Aid.hid hrd
          have H1C := Aid.hid h1c
          have HOW := Aid.hid hown
          clear hx hmx HRw hrd h1c hown
          go_wp2_with (at_builtin; refine wpList_append_any _ rfl _ _ 30 rfl w.heap.size 55 i0 (.agg #[.string ⟨#[]⟩, .int .i64 0, .int .i64 0, .int .i64 0, .string ⟨#[]⟩, .int .i64 0, .int .i64 0, .int .i64 0]) 8 80 Tryz.underlying30 hi hz0 hz1 hz2 rfl (by decide) _ _ _ rfl HOW.out B _ x.rows.length x.c _ rfl HRD.out H1C.out (by unfold maxLen; omega) (by omega) szw ?_)
          rintro v' w' hown' hgrow -
          obtain ⟨A', c', rfl⟩ := own_slice hown'
          have HM' := Aid.hid (show m + x.rows.length = Pt.n (S.take (j + 1)) by rw [HM.out, Pt.n, Pt.n, HT2.out, List.length_append])
          have HO' := Aid.hid (show w'.ownsRow w.heap.size 55 8 (.slice A' (m + x.rows.length) c') (m + x.rows.length) (Pt.flat (S.take (j + 1))).flatten by rw [HT2.out, List.flatten_append]; exact hown')
          have HB' := Aid.hid (HB.out.grown hgrow szw (fun q hq => (HOW.out.lt q hq).1))
          clear hown' hgrow
          go_wp2_with fail
          go_roundw
          case rel => exact ⟨j + 1, m + x.rows.length, A', c', rfl, by go_num, by omega, HM', HO', HB'⟩
          case measure => simp [intOf]; omega
        · have hjE2 : j = S.length := by omega
          have hmT : m = n := by have := HM.out; rw [hjE2, List.take_length] at this; exact this.trans HT.out
          have HF := Aid.hid (show Pt.flat (S.take j) = Pt.flat S by rw [hjE2, List.take_length])
          subst hmT
          clear hj
          go_wp2_with fail
          go_ret
          exact ⟨A, c, rfl, by rw [← HF.out]; exact HO.out, HB.out⟩
end Go.Proofs.YtejifefgmlpclaaGreat
/- The numbers that a Case has had; what is wrong with a Case. -/
namespace Go.Proofs.YtejifefgmlpclaaGreat
open Go.RowKit

/-- The map at block b holds true for these numbers, and for no other; it has n entries at most. -/
def Seen (w : World) (b n : Nat) (xs : List Int) : Prop :=
  ∃ D : DataW Unit, w.ownsMap Tryz.prog 3 (plainElem Tryz.prog 4) b n D ∧ Maps.IsMap D ∧ ∀ m : Int, D.atKey (.int .i64 m) (.lit (.bool false)) = .lit (.bool (decide (m ∈ xs)))
theorem Seen.made (w : World) : Seen (w.alloc (.map #[] 0)) w.heap.size 0 [] :=
  ⟨.map [], World.ownsMap_made w _ _ _, Maps.isMap_empty, fun m => by simp [DataW.atKey]⟩
theorem Seen.kept {w w' : World} {b n : Nat} {xs : List Int} {row : Option Nat} (h : Seen w b n xs) (hg : w.grownBy w' row) (hne : some b ≠ row) : Seen w' b n xs := by
  obtain ⟨D, h1, h2, h3⟩ := h
  exact ⟨D, h1.kept hg hne, h2, h3⟩
theorem zero_bool (w : World) : (zeroValue 4).run Tryz.prog w = .ok (.bool false) w := by
  have hi : (Tryz.prog.info? 4).map (fun i => i.zero) = some (some (.bool false)) := by kernel_rfl
  cases h : Tryz.prog.info? 4 with
  | none => rw [h] at hi; cases hi
  | some i => rw [h] at hi; simp at hi; simp [zeroValue, typeInfo, h, hi]
set_option maxRecDepth 100000 in
theorem plainElem_bool_inv {v : Value} {x : Bool} {ps : List MemPlace} (h : plainElem (H := Unit) Tryz.prog 4 v = some (.lit (.bool x), ps)) : v = .bool x := by
  unfold plainElem at h
  rw [Tryz.underlying4] at h
  cases v <;> simp at h
  exact congrArg Value.bool h.1
theorem Seen.look {w : World} {b n : Nat} {xs : List Int} (h : Seen w b n xs) (m : Int) (hm : (Lit.int .i64 m).wf = true) :
    (Instr.lookup 93 (.map (some b)) (.int .i64 m) false).run Tryz.prog w = .ok (.bool (decide (m ∈ xs))) w := by
  obtain ⟨D, h1, h2, h3⟩ := h
  obtain ⟨v, ps, h4, h5⟩ := h1.lookup (Maps.int_keyed Tryz.underlying3) Tryz.underlying93 (zero_bool w) (plainElem_bool Tryz.underlying4 false) (Maps.keyOf_int_mk Tryz.underlying3 hm)
  rw [h3 m] at h5
  rw [h4, plainElem_bool_inv h5]
theorem Seen.put {w : World} {b n : Nat} {xs : List Int} (h : Seen w b n xs) (m : Int) (hm : (Lit.int .i64 m).wf = true) (hn : n < maxLen) :
    ∃ w', (Instr.mapUpdate 93 (.map (some b)) (.int .i64 m) (.bool true)).run Tryz.prog w = .ok () w' ∧ Seen w' b (n + 1) (m :: xs) ∧ w.grownBy w' (some b) := by
  obtain ⟨D, h1, h2, h3⟩ := h
  obtain ⟨w', h4, h5, h6⟩ := h1.update (Maps.int_keyed Tryz.underlying3) Tryz.underlying93 hn (Maps.keyOf_int_mk Tryz.underlying3 hm) (plainElem_bool Tryz.underlying4 true)
  refine ⟨w', h4, ⟨_, h5, h2.put _ _, fun k => ?_⟩, h6⟩
  by_cases hk : k = m
  · subst hk
    rw [Maps.atKey_put_same h2 (by trivial)]
    simp
  · rw [Maps.atKey_put_other (by simpa using hk), h3 k]
    simp [hk]
/-- A list of statement's label lists, as what is laid together. -/
def Lb.pt (x : Lb) : Pt := ⟨x.A, x.c, x.xs.map fun n => [Value.int .i64 n]⟩
theorem Lb.flat (ls : List Lb) : Pt.flat (ls.map Lb.pt) = ((ls.map (·.xs)).flatten).map fun n => [Value.int .i64 n] := by
  induction ls with
  | nil => rfl
  | cons x t ih => simp only [Pt.flat, List.map_cons, List.flatten_cons, List.map_append] at ih ⊢; rw [ih]; rfl
theorem Lb.n (ls : List Lb) : Pt.n (ls.map Lb.pt) = ((ls.map (·.xs)).flatten).length := by rw [Pt.n, Lb.flat, List.length_map]
theorem Lb.cells_pt (ls : List Lb) : (ls.map Lb.pt).map Pt.cells = ls.map Lb.cells := by
  rw [List.map_map]
  exact List.map_congr_left fun x _ => by simp [Lb.pt, Pt.cells, Lb.cells]
theorem single_flat (l : List Int) : (l.map fun n => [Value.int .i64 n]).flatten = l.map (Value.int .i64) := by
  induction l with
  | nil => rfl
  | cons x t ih => simp [ih]
set_option maxRecDepth 100000 in
set_option maxHeartbeats 4000000 in
theorem labels_is (ls : List Lb) (A : Option Addr) (c B : Nat) (w : World) (hR : Rows w B 1 A (ls.map Lb.cells)) (hP : ∀ x ∈ ls, Rows w B 1 x.A (x.xs.map fun n => [Value.int .i64 n])) (hB : B ≤ w.heap.size) (l1 : ls.length ≤ 1000000000) (l2 : (ls.map (·.xs)).flatten.length ≤ 1000000000) :
    Calls Tryz.prog 94 #[.slice A ls.length c] w fun z w' => ∃ A' c', z = .returned (.slice A' (ls.map (·.xs)).flatten.length c') ∧ w'.ownsRow w.heap.size 3 1 (.slice A' (ls.map (·.xs)).flatten.length c') (ls.map (·.xs)).flatten.length ((ls.map (·.xs)).flatten.map (Value.int .i64)) ∧ Below w.heap.size w w' := by
  have h := concatI_is A c B (ls.map Lb.pt) w (by rw [Lb.cells_pt]; exact hR) (fun x hx => by
    obtain ⟨y, hy, rfl⟩ := List.mem_map.1 hx
    exact hP y hy) (fun x hx r hr => by
    obtain ⟨y, hy, rfl⟩ := List.mem_map.1 hx
    obtain ⟨n, _, rfl⟩ := List.mem_map.1 hr
    exact ⟨rfl, fun u hu => by simp at hu; subst hu; rfl⟩) hB (by simpa using l1) (by rw [Lb.n]; exact l2)
  rw [List.length_map, Lb.n, Lb.flat, single_flat] at h
  exact h
set_option maxRecDepth 100000 in
set_option maxHeartbeats 4000000 in
theorem ca_ok (f B b : Nat) (p : Pl) (a : Pa) (s : St) (hX : ∀ x ∈ s.es, ExOK f B b p a x) (hS : ∀ x ∈ s.bs, StsOK f B b p a x.l) (hl : StLim s) (hw : ∀ n ∈ (s.ls.map (·.xs)).flatten, (Lit.int .i64 n).wf = true) : CaOK f B b p a s := by
  intro w lo r hr h he hn1 hnb
  obtain ⟨x, hes⟩ : ∃ x, s.es = [x] := by
    match h1 : s.es, hn1 with
    | [x], _ => exact ⟨x, rfl⟩
  have hr2 : Ty.cases (Ty.expr p x) s.ls (s.bs.map fun x => Ty.stmts p lo x.l) = r := by rw [hes] at hr; exact hr
  obtain ⟨⟨t1, d1⟩, hsm⟩ : ∃ q, Ty.same (Ty.expr p x) 1 = q := ⟨_, rfl⟩
  obtain ⟨XS, hXS⟩ : ∃ XS, (s.ls.map (·.xs)).flatten = XS := ⟨_, rfl⟩
  obtain ⟨lb, hlb⟩ : ∃ lb, Ty.labels [] XS = lb := ⟨_, rfl⟩
  have HR := Aid.hid (show (if d1 ≠ 0 then d1 else if lb = true then 6 else Ty.firstOf (s.bs.map fun x => Ty.stmts p lo x.l)) = r by rw [Ty.cases, hsm, hXS, hlb] at hr2; exact hr2)
  obtain ⟨eb, off, hA, hebB, hc, hs⟩ := Ex.at1 he.ex (i := 0) (e := x) (by rw [hes]; rfl)
  obtain ⟨BA, hBA⟩ : ∃ BA, s.bA = BA := ⟨_, rfl⟩
  have hbr := he.br
  rw [hBA] at hbr ⊢
  rw [hA, hn1]
  have n4 := Aid.Has.new w [.int .i64 s.k, .int .i64 s.n, .string s.name, .slice (some ⟨eb, off, none⟩) 1 s.ec, .slice s.lA s.ls.length s.lc, .slice BA s.bs.length s.bc] 60
  have k0 := below_new w (.cells #[.int .i64 s.k, .int .i64 s.n, .string s.name, .slice (some ⟨eb, off, none⟩) 1 s.ec, .slice s.lA s.ls.length s.lc, .slice BA s.bs.length s.bc] 60)
  obtain ⟨W, hW⟩ : ∃ W, w.alloc (.cells #[.int .i64 s.k, .int .i64 s.n, .string s.name, .slice (some ⟨eb, off, none⟩) 1 s.ec, .slice s.lA s.ls.length s.lc, .slice BA s.bs.length s.bc] 60) = W := ⟨_, rfl⟩
  rw [hW] at n4 k0
  have hB := h.le
  have cc := fun j v hj => (k0.cell (p := ⟨eb, off + 0 * 5 + j, none⟩) (by show eb < _; omega)).trans (hc j v hj)
  have c0 := cc 0 _ rfl
  have c1 := cc 1 _ rfl
  have c2 := cc 2 _ rfl
  have c3 := cc 3 _ rfl
  have c4 := cc 4 _ rfl
  simp only [Nat.add_zero, Nat.zero_mul] at c0 c1 c2 c3 c4
  have b3 := n4.cell 3 _ rfl
  have l4 := n4.lt
  have leb : eb < W.heap.size := by have := k0.size; omega
  have HC := Aid.hid (same_is f B b p a x 1 t1 d1 W (hX x (by rw [hes]; simp)) hsm (h.below k0) (hs.below k0 hB))
  have N4 := Aid.hid n4; have K0 := Aid.hid k0
  have HX := Aid.hid hX; have HS := Aid.hid hS; have HH := Aid.hid h; have HBR := Aid.hid hbr; have HBA := Aid.hid he.ba
  have HLR := Aid.hid he.lr; have HLE := Aid.hid he.le; have HNB := Aid.hid hnb; have HW := Aid.hid hw; have HXS := Aid.hid hXS; have HLB := Aid.hid hlb; have HL := Aid.hid hl
  have le2 := hl.b
  clear hX hS hr hr2 h he hl hn1 hnb hes hA hBA hbr n4 k0 hsm hXS hlb hc hs cc hw
  go_enter Tryz.func81, Tryz.ntmps81
  try simp only [List.append_eq, List.cons_append, List.nil_append]
  go_wp2_with fail
  clear hW
  refine HC.out.mono ?_; rintro _ w5 ⟨rfl, hb5⟩
  have KB5 := Aid.hid (K0.out.trans (hb5.mono K0.out.size))
  have n5 := N4.out.below hb5 N4.out.lt
  clear hb5 c0 c1 c2 c3 c4
  have hk7 := KB5.out.alloc KB5.out.size (.cells #[.int .i64 t1.k, .int .i64 t1.lo, .int .i64 t1.hi, .string t1.name] 44)
  have n7 := n5.alloc (.cells #[.int .i64 t1.k, .int .i64 t1.lo, .int .i64 t1.hi, .string t1.name] 44)
  obtain ⟨X, hX⟩ : ∃ X, w5.alloc (.cells #[.int .i64 t1.k, .int .i64 t1.lo, .int .i64 t1.hi, .string t1.name] 44) = X := ⟨_, rfl⟩
  rw [hX] at hk7 n7
  have KX := Aid.hid hk7
  have NX := Aid.hid n7
  have x4 := n7.cell 4 _ rfl
  have lx4 := n7.lt
  clear hk7 n7 n5
  by_cases hd : d1 = 0
  · subst hd
    have hmk := @run_makeMap Tryz.prog
    have KY := Aid.hid (KX.out.alloc KX.out.size (.map #[] 0))
    have NY := Aid.hid (NX.out.alloc (.map #[] 0))
    have HSE := Aid.hid (Seen.made X)
    have y4 := NY.out.cell 4 _ rfl
    have ly4 := NY.out.lt
    have hXm : w.heap.size ≤ X.heap.size := KX.out.size
    have HLC := Aid.hid (labels_is s.ls s.lA s.lc B (X.alloc (.map #[] 0)) (HLR.out.below KY.out hB) (fun x hx => (HLE.out x hx).below KY.out hB) (Nat.le_trans hB KY.out.size) HL.out.l HL.out.x)
    obtain ⟨Y, hY⟩ : ∃ Y, X.alloc (.map #[] 0) = Y := ⟨_, rfl⟩
    obtain ⟨mb, hmb⟩ : ∃ mb, X.heap.size = mb := ⟨_, rfl⟩
    rw [hY] at KY NY HSE y4 ly4 HLC
    rw [HXS.out] at HLC
    have hmY : mb < Y.heap.size := by rw [← hY, ← hmb]; simp
    have HMY := Aid.hid hmY
    clear hmY
    rw [hmb] at HSE
    have hmk2 : (Instr.makeMap 93 none).run Tryz.prog X = .ok (.map (some mb)) Y := by rw [hmk, hmb, hY]
    have HYH := Aid.hid hY
    have HMH := Aid.hid hmb
    clear hY hmb hmk x4 lx4
    go_wp2_with fail
    refine HLC.out.mono ?_; rintro _ w6 ⟨LA, lc, rfl, hown6, hb6⟩
    have K6 := Aid.hid (KY.out.trans (hb6.mono KY.out.size))
    have HO6 := Aid.hid hown6
    have HS6 := Aid.hid (HSE.out.kept (row := none) ⟨hb6.os, hb6.tape, hb6.output, hb6.size, fun k hk _ => hb6.block k hk⟩ (by simp))
    clear hown6
    have HB6 := Aid.hid hb6
    clear hb6
    go_wp2_with fail
    have lXS : XS.length ≤ 1000000000 := by have := HL.out.x; rwa [HXS.out] at this
    have N6 := Aid.hid (NY.out.below HB6.out NY.out.lt)
    go_loopw [32] (fun vi wr => ∃ (k : Nat) (seen : List Int), vi = .int .i64 k ∧ k ≤ XS.length ∧ Hid (Ty.labels seen (XS.drop k) = lb) ∧ Hid (Seen wr mb k seen) ∧ Hid (wr.ownsRow Y.heap.size 3 1 (.slice LA XS.length lc) XS.length (XS.map (Value.int .i64))) ∧ Hid (Aid.Has wr w.heap.size [.int .i64 s.k, .int .i64 s.n, .string s.name, .slice (some ⟨eb, off, none⟩) 1 s.ec, .slice s.lA s.ls.length s.lc, .slice BA s.bs.length s.bc] 60) ∧ Hid (Below w.heap.size w wr)) (fun vi _ => XS.length - (intOf vi).toNat)
    case atStart => exact ⟨0, [], rfl, Nat.zero_le _, HLB, HS6, HO6, N6, K6⟩
    case round =>
      clear HO6 HS6 N6 K6 HB6 HLB
      obtain ⟨k, seen, rfl, hk, HLBk, HSk, HOk, HNk, HBk⟩ := hrel
      by_cases hlt : k < XS.length
      · obtain ⟨n, hn⟩ : ∃ n, XS[k]? = some n := ⟨_, List.getElem?_eq_getElem hlt⟩
        have hwf : (Lit.int .i64 n).wf = true := HW.out n (by rw [HXS.out]; exact List.mem_of_getElem? hn)
        have hlook := HSk.out.look n hwf
        obtain ⟨g, go, rfl, hgB, hc⟩ := (Rows.of_own (sz := 1) (rows := XS.map fun n => [Value.int .i64 n]) (by simp) (by rw [List.length_map, single_flat]; exact HOk.out)) (by simp; omega)
        have e0 := hc k [.int .i64 n] (by simp [hn]) 0 _ rfl
        simp only [Nat.mul_one, Nat.add_zero] at e0
        have hlabels : (decide (n ∈ seen) || (decide (n < -32768) || decide (32767 < n)) || Ty.labels (n :: seen) (XS.drop (k + 1))) = lb := by
          have := HLBk.out
          rw [tdrop_at hn, Ty.labels] at this
          exact this
        obtain ⟨w9, hrun9, hs9, hg9⟩ := HSk.out.put n hwf (by unfold maxLen; omega)
        obtain ⟨q, hq⟩ : ∃ q, decide (n ∈ seen) = q := ⟨_, rfl⟩
        rw [hq] at hlook hlabels
        have HS9 := Aid.hid hs9
        have HO9 := Aid.hid (HOk.out.kept hg9 (.inr fun e => by have := (HOk.out.lt mb e).1; have := HMY.out; omega))
        have hNe : w.heap.size ≠ mb := by have := HMH.out; have := NX.out.lt; omega
        have HN9 : Hid (Aid.Has w9 w.heap.size [.int .i64 s.k, .int .i64 s.n, .string s.name, .slice (some ⟨eb, off, none⟩) 1 s.ec, .slice s.lA s.ls.length s.lc, .slice BA s.bs.length s.bc] 60) := Aid.hid ((hg9.block w.heap.size HNk.out.lt (fun e => hNe (Option.some.inj e))).trans HNk.out)
        have HB9 := Aid.hid (HBk.out.grown hg9 HBk.out.size (fun q hq => by cases hq; have := HMH.out; have := KX.out.size; omega))
        have HLA := Aid.hid hlabels
        clear hn hwf hc hlabels hq hs9 hg9 hNe HLBk HSk HOk HNk
        have done6 : lb = true → (6 : Int) = r := fun e => by have := HR.out; rw [e] at this; simpa using this
        have D6 := Aid.hid done6
        clear done6
        cases q
        · by_cases h1 : n < -32768
          · obtain rfl := D6.out (by rw [← HLA.out]; simp [h1])
            go_wp2_with fail
            go_ret
            exact ⟨rfl, HBk.out⟩
          · by_cases h2 : 32767 < n
            · obtain rfl := D6.out (by rw [← HLA.out]; simp [h2])
              go_wp2_with fail
              go_ret
              exact ⟨rfl, HBk.out⟩
            · have HLN := Aid.hid (show Ty.labels (n :: seen) (XS.drop (k + 1)) = lb by rw [← HLA.out]; simp [h1, h2])
              go_wp2_with fail
              go_roundw
              case rel => exact ⟨k + 1, n :: seen, by go_num, by omega, HLN, HS9, HO9, HN9, HB9⟩
              case measure => simp [intOf]; omega
        · obtain rfl := D6.out (by rw [← HLA.out]; simp)
          go_wp2_with fail
          go_ret
          exact ⟨rfl, HBk.out⟩
      · have hkE : k = XS.length := by omega
        have hlF : lb = false := by
          rw [← HLBk.out, List.drop_eq_nil_of_le (by omega)]
          rfl
        have HF := Aid.hid (show Ty.firstOf (s.bs.map fun x => Ty.stmts p lo x.l) = r by have := HR.out; rw [hlF] at this; simpa using this)
        have f5 := HNk.out.cell 5 _ rfl
        have lf5 := HNk.out.lt
        clear hlF HLBk HSk HOk HNk
        go_wp2_with fail
        clear hkE
        go_loopw [53] (fun vi wi => ∃ k : Nat, vi = .int .i64 k ∧ k ≤ s.bs.length ∧ Hid (Ty.firstOf ((s.bs.map fun x => Ty.stmts p lo x.l).drop k) = r) ∧ Hid (Below w.heap.size w wi)) (fun vi _ => s.bs.length - (intOf vi).toNat)
        case atStart => exact ⟨0, rfl, Nat.zero_le _, HF, HBk⟩
        case round =>
          clear HF HBk
          obtain ⟨k, rfl, hk, HFk, HBk⟩ := hrel
          by_cases hlt : k < s.bs.length
          · obtain ⟨blk, hblk⟩ : ∃ blk, s.bs[k]? = some blk := ⟨_, List.getElem?_eq_getElem hlt⟩
            obtain ⟨cb, hcb⟩ : ∃ c, Ty.stmts p lo blk.l = c := ⟨_, rfl⟩
            obtain ⟨gb, go, rfl, hgB, cg⟩ := Bk.at1 (HBR.out.below HBk.out hB) hblk
            have lgb : gb < wr.heap.size := by have := HBk.out.size; omega
            have hm := List.mem_of_getElem? hblk
            have HFN := Aid.hid (show (if cb ≠ 0 then cb else Ty.firstOf ((s.bs.map fun x => Ty.stmts p lo x.l).drop (k + 1))) = r by
              have := HFk.out
              rw [tdrop_at (x := cb) (by simp [hblk, hcb]), Ty.firstOf] at this
              exact this)
            have HC2 := Aid.hid (HS.out blk hm wr blk.A blk.c lo cb hcb (HH.out.below HBk.out) ((HBA.out blk hm).below HBk.out hB))
            clear hblk hcb hm HFk
            go_wp2_with fail
            refine HC2.out.mono ?_; rintro _ w8 ⟨rfl, hb8⟩
            have KB8 := Aid.hid (HBk.out.trans (hb8.mono HBk.out.size))
            clear hb8
            by_cases hcz : cb = 0
            · subst hcz
              have HFM := Aid.hid (show Ty.firstOf ((s.bs.map fun x => Ty.stmts p lo x.l).drop (k + 1)) = r by have := HFN.out; simpa using this)
              go_wp2_with fail
              go_roundw
              case rel => exact ⟨k + 1, by go_num, by omega, HFM, KB8⟩
              case measure => simp [intOf]; omega
            · obtain rfl : cb = r := by have := HFN.out; simpa [hcz] using this
              go_wp2_with fail
              go_ret
              exact ⟨rfl, KB8.out⟩
          · obtain rfl : (0 : Int) = r := by
              have := HFk.out
              rw [List.drop_eq_nil_of_le (by simp; omega)] at this
              exact this
            have hkE : k = s.bs.length := by omega
            clear HFk
            go_wp2_with fail
            go_ret
            exact ⟨rfl, HBk.out⟩
  · obtain rfl : d1 = r := by have := HR.out; simpa [hd] using this
    go_wp2_with fail
    clear hX
    go_ret
    exact ⟨rfl, KX.out⟩
end Go.Proofs.YtejifefgmlpclaaGreat
/- Statements of any depth. -/
namespace Go.Proofs.YtejifefgmlpclaaGreat
open Go.RowKit

/-- No list below these statements is too long, and labels are numbers of the machine. -/
def StsLim : Nat → List St → Prop
  | 0, _ => True
  | f + 1, l => ∀ s ∈ l, StLim s ∧ ExLim (f + 1) s.es ∧ (∀ n ∈ (s.ls.map (·.xs)).flatten, (Lit.int .i64 n).wf = true) ∧ ∀ x ∈ s.bs, StsLim f x.l
theorem stmts_ok (B b : Nat) (p : Pl) (a : Pa) : ∀ (f : Nat) (l : List St), StsLim f l → StsOK f B b p a l
  | 0, l, _ => fun w A cap lo r hr h he => by
    have hl : l = [] := he
    subst hl
    exact stmts_step 0 B b p a [] A cap lo r w (fun s hs => by simp at hs) hr h ⟨by simp, Rows.nil_ _ _ _ _, by simp⟩
  | f + 1, l, hl => fun w A cap lo r hr h he =>
    stmts_step f B b p a l A cap lo r w (fun s hs lo r w hr h he => by
      obtain ⟨h1, h2, h3, h4⟩ := hl s hs
      have hX : ∀ x ∈ s.es, ExOK f B b p a x := fun x hx => expr_is B b p a f x (h2.2 x hx)
      have hS : ∀ x ∈ s.bs, StsOK f B b p a x.l := fun x hx => stmts_ok B b p a f x.l (h4 x hx)
      exact stmt_is f B b p a s lo hX (fun x hx => inv_ok B b p a f x (h2.2 x hx)) hS (ca_ok f B b p a s hX hS h1 h3) r w hr h he h1) hr h he
end Go.Proofs.YtejifefgmlpclaaGreat
