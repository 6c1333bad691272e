/- Lists of diagnostics: SameWrongs, OverWrongs, as walks. -/
import Derived.Test.YtblkcgbifecemaaDoorRowsK
import Derived.WalkSpells
import Derived.WalkLawsBesides
import Derived.LoopTactic
import Derived.Deep.QuietTactic
import Derived.BigQuiet
import Derived.OwnWalk
namespace Go.Proofs.YtblkcgbifecemaaDoor
open Go.RowKit

def Wr.cells (p : Int × Int) : List Value := [.int .i64 p.1, .int .i64 p.2]
theorem Wr.len (l : List (Int × Int)) : ∀ r ∈ l.map Wr.cells, r.length = 2 := by
  intro r hr; obtain ⟨p, _, rfl⟩ := List.mem_map.1 hr; rfl
theorem drewN_more (w : World) (m n : Nat) : (w.drewN m).drewN n = w.drewN (m + n) := by simp [World.drewN, Nat.add_assoc]
theorem info_wrong : (Tryd.prog.info? 37).map (fun i => (i.zero, i.size, i.bytes)) = some (some (.agg #[.int .i64 0, .int .i64 0]), 2, 16) := by kernel_rfl
theorem Rows.pair {w : World} {B : Nat} {A : Option Addr} {l : List (Int × Int)} (h : Rows w B 2 A (l.map Wr.cells)) (hn : 0 < l.length) :
    ∃ b off, A = some ⟨b, off, none⟩ ∧ b < B ∧ ∀ i p, l[i]? = some p → w.cell? ⟨b, off + i * 2, none⟩ = some (.int .i64 p.1) ∧ w.cell? ⟨b, off + i * 2 + 1, none⟩ = some (.int .i64 p.2) := by
  obtain ⟨b, off, h1, h2, h3⟩ := h (by simpa using hn)
  exact ⟨b, off, h1, h2, fun i p hp => ⟨h3 i (Wr.cells p) (by simp [hp]) 0 _ rfl, h3 i (Wr.cells p) (by simp [hp]) 1 _ rfl⟩⟩

set_option maxRecDepth 100000 in
set_option maxHeartbeats 2000000 in
theorem sameWrongs_walk (A C : Option Addr) (c d B B' : Nat) (xs ys : List (Int × Int)) (w : World) (hx : Rows w B 2 A (xs.map Wr.cells)) (hy : Rows w B' 2 C (ys.map Wr.cells)) (lx : xs.length < 1000000000) (ly : ys.length < 1000000000) :
    Calls Tryd.prog 14 #[.slice A xs.length c, .slice C ys.length d] w fun e w' => e = .returned (.bool (decide (xs = ys))) ∧ ∃ n, w' = w.drewN n := by
  have HX := Aid.hid hx; have HY := Aid.hid hy
  clear hx hy
  by_cases hl : xs.length = ys.length
  · go_enter Tryd.func14, Tryd.ntmps14
    try simp only [List.append_eq, List.cons_append, List.nil_append]
    rw [← hl]
    have HL := Aid.hid hl
    clear hl
    go_wp2_with fail
    go_loopw [5] (fun i wr => ∃ k : Nat, i = .int .i64 k ∧ k ≤ xs.length ∧ Hid (xs.take k = ys.take k) ∧ ∃ n, wr = w.drewN n) (fun i _ => xs.length - (intOf i).toNat)
    case atStart => exact ⟨0, rfl, Nat.zero_le _, Aid.hid (by simp), 0, rfl⟩
    case round =>
      obtain ⟨k, rfl, hk, E, n, rfl⟩ := hrel
      by_cases hlt : k < xs.length
      · obtain ⟨b1, o1, rfl, _, hc1⟩ := Rows.pair HX.out (by omega)
        obtain ⟨b2, o2, rfl, _, hc2⟩ := Rows.pair HY.out (by have := HL.out; omega)
        obtain ⟨x, hx⟩ : ∃ x, xs[k]? = some x := ⟨_, List.getElem?_eq_getElem hlt⟩
        obtain ⟨y, hy⟩ : ∃ y, ys[k]? = some y := ⟨_, List.getElem?_eq_getElem (by have := HL.out; omega)⟩
        have NX : Hid (x = y → xs.take (k + 1) = ys.take (k + 1)) := Aid.hid (fun h => by rw [List.take_add_one, List.take_add_one, E.out, hx, hy, h])
        have NE : Hid (x ≠ y → decide (xs = ys) = false) := Aid.hid (fun h => decide_eq_false (fun e => h (by subst e; rw [hx] at hy; exact Option.some.inj hy)))
        obtain ⟨wr, hwr⟩ : ∃ wr, wr = w.drewN n := ⟨_, rfl⟩
        obtain ⟨x1, x2⟩ := x
        obtain ⟨y1, y2⟩ := y
        have c1 : wr.cell? ⟨b1, o1 + k * 2, none⟩ = some (.int .i64 x1) := by rw [hwr]; exact (hc1 k _ hx).1
        have c2 : wr.cell? ⟨b1, o1 + k * 2 + 1, none⟩ = some (.int .i64 x2) := by rw [hwr]; exact (hc1 k _ hx).2
        have d1 : wr.cell? ⟨b2, o2 + k * 2, none⟩ = some (.int .i64 y1) := by rw [hwr]; exact (hc2 k _ hy).1
        have d2 : wr.cell? ⟨b2, o2 + k * 2 + 1, none⟩ = some (.int .i64 y2) := by rw [hwr]; exact (hc2 k _ hy).2
        rw [← hwr]
        have HW := Aid.hid hwr
        clear hc1 hc2 E hwr hx hy
        by_cases h1 : x1 = y1
        · by_cases h2 : x2 = y2
          · subst h1 h2
            have NR := Aid.hid (NX.out rfl)
            clear NX NE
            go_wp2_with fail
            go_quiet (fail)
            go_wp2_with fail
            go_roundw
            case rel => exact ⟨k + 1, by go_num, by omega, NR, n + nq, by rw [HW.out]; exact drewN_more _ _ _⟩
            case measure => simp [intOf]; omega
          · have g2 : (x2 == y2) = false := by simpa using h2
            subst h1
            have N2 := Aid.hid (NE.out (fun e => h2 (Prod.mk.inj e).2))
            go_wp2_with fail
            go_quiet (fail)
            go_wp2_with fail
            go_ret
            exact ⟨by rw [N2.out]; rfl, n + nq, by rw [HW.out]; exact drewN_more _ _ _⟩
        · have g1 : (x1 == y1) = false := by simpa using h1
          have N2 := Aid.hid (NE.out (fun e => h1 (Prod.mk.inj e).1))
          go_wp2_with fail
          go_quiet (fail)
          go_wp2_with fail
          go_ret
          exact ⟨by rw [N2.out]; rfl, n + nq, by rw [HW.out]; exact drewN_more _ _ _⟩
      · go_wp2_with fail
        go_ret
        exact ⟨Aid.ret_bool (by
          have h := E.out
          have := HL.out
          rw [List.take_of_length_le (by omega), List.take_of_length_le (by omega)] at h
          simp [h]), n, rfl⟩
  · have hl2 : ((xs.length : Int) != (ys.length : Int)) = true := by simpa using (by omega : ¬ (xs.length : Int) = ys.length)
    have E := Aid.hid (show decide (xs = ys) = false from decide_eq_false (fun e => hl (by rw [e])))
    go_enter Tryd.func14, Tryd.ntmps14
    try simp only [List.append_eq, List.cons_append, List.nil_append]
    go_wp2_with fail
    go_ret
    exact ⟨by rw [E.out]; rfl, 0, rfl⟩
set_option maxRecDepth 100000 in
set_option maxHeartbeats 2000000 in
theorem overWrongs_walk (A : Option Addr) (c base n : Nat) (xs : List Value) (w0 w : World) (hx : w.ownsRow base 37 2 (.slice A n c) n xs) (h1' : ∀ y ∈ xs, y.oneCell' = true) (lx : n < 1000000000) (hB : Below base w0 w) (hs : base ≤ w.heap.size) :
    Calls Tryd.prog 15 #[.slice A n c] w fun e w' => e = .returned (.tuple #[]) ∧ Below base w0 w' := by
  go_enter Tryd.func15, Tryd.ntmps15
  try simp only [List.append_eq, List.cons_append, List.nil_append]
  obtain ⟨i0, hi, hz0, hz1, hz2⟩ := info_parts info_wrong
  go_wp2_with fail
  go_loopw [2] (fun i wr => ∃ (k : Nat) (ys : List Value), i = .int .i64 k ∧ k ≤ n ∧ (∀ y ∈ ys, y.oneCell' = true) ∧ wr.ownsRow base 37 2 (.slice A n c) n ys ∧ Below base w0 wr ∧ base ≤ wr.heap.size) (fun i _ => n - (intOf i).toNat)
  case atStart => exact ⟨0, _, rfl, Nat.zero_le _, h1', hx, hB, hs⟩
  case round =>
    obtain ⟨k, ys, rfl, hk, h1, hown, hb, hsz⟩ := hrel
    clear hx hB hs h1'
    by_cases hlt : k < n
    · obtain ⟨g, cap, hv, hg, hgs⟩ := hown.form (by omega)
      obtain ⟨rfl, rfl⟩ : A = some ⟨g, 0, none⟩ ∧ c = cap := by simpa using hv
      have hl : ys.length = n * 2 := hown.1
      have hst := hown.stored (k * 2) (.int .i64 (-9))
      have hst2 := hst.1.stored (k * 2 + 1) (.int .i64 0)
      have HB2 := (hb.grown hst.2 hsz (fun q hq => by cases hq; exact hg)).grown hst2.2 (by simpa [World.setCell] using hsz) (fun q hq => by cases hq; exact hg)
      have hc0 := hown.cellAt (k * 2) (by omega)
      have hc1 := hown.cellAt (k * 2 + 1) (by omega)
      have hf := hown.frozenAt
      obtain ⟨u, hu⟩ : ∃ u, ys[k * 2]? = some u := ⟨_, List.getElem?_eq_getElem (by omega)⟩
      obtain ⟨u', hu'⟩ : ∃ u, ys[k * 2 + 1]? = some u := ⟨_, List.getElem?_eq_getElem (by omega)⟩
      rw [hu] at hc0
      rw [hu'] at hc1
      go_wp2_with fail
      go_roundw
      case rel => exact ⟨k + 1, _, by go_num, by omega, (fun y hy => by
        rcases List.mem_or_eq_of_mem_set hy with h | h
        · rcases List.mem_or_eq_of_mem_set h with h | h
          · exact h1 y h
          · subst h; rfl
        · subst h; rfl), hst2.1, HB2, by simpa [World.setCell] using hsz⟩
      case measure => simp [intOf]; omega
    · go_wp2_with (at_builtin; refine wpList_append_own _ rfl _ _ 30 rfl base 37 i0 (.agg #[.int .i64 0, .int .i64 0]) 2 16 Tryd.underlying30 hi hz0 hz1 hz2 rfl (by decide) _ _ _ rfl (hown.alloc _) ⟨wr.heap.size, 0, none⟩ 1 1 [.int .i64 (-9), .int .i64 0] rfl rfl ?c1 ?c2 ?c3 ?c4 ?c5 ?_)
      case c1 =>
        intro j u hj
        match j, hj with
        | 0, hj => simp at hj; subst hj; simp [Addr.add]
        | 1, hj => simp at hj; subst hj; simp [Addr.add]
      case c2 => intro u hu; simp at hu; rcases hu with rfl | rfl <;> rfl
      case c3 => unfold maxLen; omega
      case c4 => omega
      case c5 => simp; omega
      · intro v' w1 hown' hgrow _
        go_wp2_with fail
        go_end0
        exact ⟨rfl, (hb.alloc hsz _).grown hgrow (by simp; omega) (fun q hq => (hown.lt q hq).1)⟩
end Go.Proofs.YtblkcgbifecemaaDoor
