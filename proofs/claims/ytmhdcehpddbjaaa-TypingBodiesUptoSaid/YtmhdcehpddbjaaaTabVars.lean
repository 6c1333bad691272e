/- Lists of variables: SameVars of two that are the same, OverVars, as walks. -/
import Derived.Test.YtmhdcehpddbjaaaTabSpec
import Derived.Test.YtmhdcehpddbjaaaRowsK
import Derived.Test.YtmhdcehpddbjaaaInts
import Derived.WalkSpells
import Derived.WalkLawsBesides
import Derived.LoopTactic
import Derived.Deep.QuietTactic
import Derived.BigQuiet
import Derived.OwnWalk
namespace Go.Proofs.Ytmhdcehpddbjaaa
open Go.RowKit

theorem Vd.len (l : List Vd) : ∀ r ∈ l.map Vd.cells, r.length = 8 := by
  intro r hr; obtain ⟨p, _, rfl⟩ := List.mem_map.1 hr; rfl
theorem info_var : (Try.prog.info? 74).map (fun i => (i.zero, i.size, i.bytes)) = some (some (.agg #[.string ⟨#[]⟩, .int .i64 0, .int .i64 0, .int .i64 0, .string ⟨#[]⟩, .int .i64 0, .int .i64 0, .int .i64 0]), 8, 80) := by kernel_rfl
theorem Vd.one {l : List Vd} : ∀ x ∈ (l.map Vd.cells).flatten, x.oneCell' = true := by
  intro x hx
  obtain ⟨r, hr, hx⟩ := List.mem_flatten.1 hx
  obtain ⟨v, _, rfl⟩ := List.mem_map.1 hr
  simp [Vd.cells] at hx
  rcases hx with rfl | rfl | rfl | rfl | rfl | rfl | rfl | rfl <;> rfl
theorem Rows.var {w : World} {B : Nat} {A : Option Addr} {l : List Vd} (h : Rows w B 8 A (l.map Vd.cells)) (hn : 0 < l.length) :
    ∃ b off, A = some ⟨b, off, none⟩ ∧ b < B ∧ ∀ i v, l[i]? = some v → ∀ j x, v.cells[j]? = some x → w.cell? ⟨b, off + i * 8 + j, none⟩ = some x := by
  obtain ⟨b, off, h1, h2, h3⟩ := h (by simpa using hn)
  exact ⟨b, off, h1, h2, fun i p hp j x hx => h3 i (Vd.cells p) (by simp [hp]) j x hx⟩

set_option maxRecDepth 100000 in
set_option maxHeartbeats 2000000 in
/-- Two lists of the same variables are the same. -/
theorem sameVars_self (A C : Option Addr) (c d B B' : Nat) (zs : List Vd) (w : World) (hx : Rows w B 8 A (zs.map Vd.cells)) (hy : Rows w B' 8 C (zs.map Vd.cells)) (lx : zs.length < 1000000000) :
    Calls Try.prog 18 #[.slice A zs.length c, .slice C zs.length d] w fun e w' => e = .returned (.bool true) ∧ ∃ n, w' = w.drewN n := by
  have HX := Aid.hid hx; have HY := Aid.hid hy
  clear hx hy
  go_enter Try.func18, Try.ntmps18
  try simp only [List.append_eq, List.cons_append, List.nil_append]
  go_wp2_with fail
  go_loopw [5] (fun i wr => ∃ k : Nat, i = .int .i64 k ∧ k ≤ zs.length ∧ ∃ n, wr = w.drewN n) (fun i _ => zs.length - (intOf i).toNat)
  case atStart => exact ⟨0, rfl, Nat.zero_le _, 0, rfl⟩
  case round =>
    obtain ⟨k, rfl, hk, n, rfl⟩ := hrel
    by_cases hlt : k < zs.length
    · obtain ⟨b1, o1, rfl, _, hc1⟩ := Rows.var HX.out (by omega)
      obtain ⟨b2, o2, rfl, _, hc2⟩ := Rows.var HY.out (by omega)
      obtain ⟨x, hx⟩ : ∃ x, zs[k]? = some x := ⟨_, List.getElem?_eq_getElem hlt⟩
      obtain ⟨wr, hwr⟩ : ∃ wr, wr = w.drewN n := ⟨_, rfl⟩
      have c0 : wr.cell? ⟨b1, o1 + k * 8, none⟩ = some (.string x.name) := by rw [hwr]; exact hc1 k x hx 0 _ rfl
      have c1 : wr.cell? ⟨b1, o1 + k * 8 + 1, none⟩ = some (.int .i64 x.ty.k) := by rw [hwr]; exact hc1 k x hx 1 _ rfl
      have c2 : wr.cell? ⟨b1, o1 + k * 8 + 2, none⟩ = some (.int .i64 x.ty.lo) := by rw [hwr]; exact hc1 k x hx 2 _ rfl
      have c3 : wr.cell? ⟨b1, o1 + k * 8 + 3, none⟩ = some (.int .i64 x.ty.hi) := by rw [hwr]; exact hc1 k x hx 3 _ rfl
      have c4 : wr.cell? ⟨b1, o1 + k * 8 + 4, none⟩ = some (.string x.ty.name) := by rw [hwr]; exact hc1 k x hx 4 _ rfl
      have c5 : wr.cell? ⟨b1, o1 + k * 8 + 5, none⟩ = some (.int .i64 x.init) := by rw [hwr]; exact hc1 k x hx 5 _ rfl
      have c6 : wr.cell? ⟨b1, o1 + k * 8 + 6, none⟩ = some (.int .i64 x.dir) := by rw [hwr]; exact hc1 k x hx 6 _ rfl
      have c7 : wr.cell? ⟨b1, o1 + k * 8 + 7, none⟩ = some (.int .i64 x.slot) := by rw [hwr]; exact hc1 k x hx 7 _ rfl
      have d0 : wr.cell? ⟨b2, o2 + k * 8, none⟩ = some (.string x.name) := by rw [hwr]; exact hc2 k x hx 0 _ rfl
      have d1 : wr.cell? ⟨b2, o2 + k * 8 + 1, none⟩ = some (.int .i64 x.ty.k) := by rw [hwr]; exact hc2 k x hx 1 _ rfl
      have d2 : wr.cell? ⟨b2, o2 + k * 8 + 2, none⟩ = some (.int .i64 x.ty.lo) := by rw [hwr]; exact hc2 k x hx 2 _ rfl
      have d3 : wr.cell? ⟨b2, o2 + k * 8 + 3, none⟩ = some (.int .i64 x.ty.hi) := by rw [hwr]; exact hc2 k x hx 3 _ rfl
      have d4 : wr.cell? ⟨b2, o2 + k * 8 + 4, none⟩ = some (.string x.ty.name) := by rw [hwr]; exact hc2 k x hx 4 _ rfl
      have d5 : wr.cell? ⟨b2, o2 + k * 8 + 5, none⟩ = some (.int .i64 x.init) := by rw [hwr]; exact hc2 k x hx 5 _ rfl
      have d6 : wr.cell? ⟨b2, o2 + k * 8 + 6, none⟩ = some (.int .i64 x.dir) := by rw [hwr]; exact hc2 k x hx 6 _ rfl
      have d7 : wr.cell? ⟨b2, o2 + k * 8 + 7, none⟩ = some (.int .i64 x.slot) := by rw [hwr]; exact hc2 k x hx 7 _ rfl
      rw [← hwr]
      have HW := Aid.hid hwr
      clear hc1 hc2 hwr hx
      go_wp2_with fail
      go_quiet (fail)
      go_wp2_with fail
      go_roundw
      case rel => exact ⟨k + 1, by go_num, by omega, n + nq, by rw [HW.out]; exact drewN_more _ _ _⟩
      case measure => simp [intOf]; omega
    · go_wp2_with fail
      go_ret
      exact ⟨rfl, n, rfl⟩
set_option maxRecDepth 100000 in
set_option maxHeartbeats 4000000 in
theorem overVars_walk (A : Option Addr) (c base n : Nat) (xs : List Value) (w0 w : World) (hx : w.ownsRow base 74 8 (.slice A n c) n xs) (h1' : ∀ y ∈ xs, y.oneCell' = true) (lx : n < 1000000000) (hB : Below base w0 w) (hs : base ≤ w.heap.size) :
    Calls Try.prog 20 #[.slice A n c] w fun e w' => e = .returned (.tuple #[]) ∧ Below base w0 w' := by
  go_enter Try.func20, Try.ntmps20
  try simp only [List.append_eq, List.cons_append, List.nil_append]
  obtain ⟨i0, hi, hz0, hz1, hz2⟩ := info_parts info_var
  go_wp2_with fail
  go_loopw [2] (fun i wr => ∃ (k : Nat) (ys : List Value), i = .int .i64 k ∧ k ≤ n ∧ (∀ y ∈ ys, y.oneCell' = true) ∧ wr.ownsRow base 74 8 (.slice A n c) n ys ∧ Below base w0 wr ∧ base ≤ wr.heap.size) (fun i _ => n - (intOf i).toNat)
  case atStart => exact ⟨0, _, rfl, Nat.zero_le _, h1', hx, hB, hs⟩
  case round =>
    obtain ⟨k, ys, rfl, hk, h1, hown, hb, hsz⟩ := hrel
    clear hx hB hs h1'
    by_cases hlt : k < n
    · obtain ⟨g, cap, hv, hg, hgs⟩ := hown.form (by omega)
      obtain ⟨rfl, rfl⟩ : A = some ⟨g, 0, none⟩ ∧ c = cap := by simpa using hv
      have hl : ys.length = n * 8 := hown.1
      have st0 := hown.stored (k * 8) (.string ⟨#[111, 118, 101, 114]⟩)
      have st1 := st0.1.stored (k * 8 + 1) (.int .i64 0)
      have st2 := st1.1.stored (k * 8 + 2) (.int .i64 0)
      have st3 := st2.1.stored (k * 8 + 3) (.int .i64 0)
      have st4 := st3.1.stored (k * 8 + 4) (.string ⟨#[]⟩)
      have st5 := st4.1.stored (k * 8 + 5) (.int .i64 0)
      have st6 := st5.1.stored (k * 8 + 6) (.int .i64 0)
      have st7 := st6.1.stored (k * 8 + 7) (.int .i64 0)
      have hsz2 : ∀ (W : World) p v, base ≤ W.heap.size → base ≤ (W.setCell p v).heap.size := fun W p v h => by simpa [World.setCell] using h
      have HB0 := hb.grown st0.2 hsz (fun q hq => by cases hq; exact hg)
      have z0 := hsz2 _ ⟨g, k * 8, none⟩ (.string ⟨#[111, 118, 101, 114]⟩) hsz
      have HB1 := HB0.grown st1.2 z0 (fun q hq => by cases hq; exact hg)
      have z1 := hsz2 _ ⟨g, k * 8 + 1, none⟩ (.int .i64 0) z0
      have HB2 := HB1.grown st2.2 z1 (fun q hq => by cases hq; exact hg)
      have z2 := hsz2 _ ⟨g, k * 8 + 2, none⟩ (.int .i64 0) z1
      have HB3 := HB2.grown st3.2 z2 (fun q hq => by cases hq; exact hg)
      have z3 := hsz2 _ ⟨g, k * 8 + 3, none⟩ (.int .i64 0) z2
      have HB4 := HB3.grown st4.2 z3 (fun q hq => by cases hq; exact hg)
      have z4 := hsz2 _ ⟨g, k * 8 + 4, none⟩ (.string ⟨#[]⟩) z3
      have HB5 := HB4.grown st5.2 z4 (fun q hq => by cases hq; exact hg)
      have z5 := hsz2 _ ⟨g, k * 8 + 5, none⟩ (.int .i64 0) z4
      have HB6 := HB5.grown st6.2 z5 (fun q hq => by cases hq; exact hg)
      have z6 := hsz2 _ ⟨g, k * 8 + 6, none⟩ (.int .i64 0) z5
      have HB7 := HB6.grown st7.2 z6 (fun q hq => by cases hq; exact hg)
      have z7 := hsz2 _ ⟨g, k * 8 + 7, none⟩ (.int .i64 0) z6
      have hf := hown.frozenAt
      obtain ⟨u0, hu0⟩ : ∃ u, ys[k * 8]? = some u := ⟨_, List.getElem?_eq_getElem (by omega)⟩
      have hc0 := hown.cellAt (k * 8) (by omega)
      rw [hu0] at hc0
      obtain ⟨u1, hu1⟩ : ∃ u, ys[k * 8 + 1]? = some u := ⟨_, List.getElem?_eq_getElem (by omega)⟩
      have hc1 := hown.cellAt (k * 8 + 1) (by omega)
      rw [hu1] at hc1
      obtain ⟨u2, hu2⟩ : ∃ u, ys[k * 8 + 2]? = some u := ⟨_, List.getElem?_eq_getElem (by omega)⟩
      have hc2 := hown.cellAt (k * 8 + 2) (by omega)
      rw [hu2] at hc2
      obtain ⟨u3, hu3⟩ : ∃ u, ys[k * 8 + 3]? = some u := ⟨_, List.getElem?_eq_getElem (by omega)⟩
      have hc3 := hown.cellAt (k * 8 + 3) (by omega)
      rw [hu3] at hc3
      obtain ⟨u4, hu4⟩ : ∃ u, ys[k * 8 + 4]? = some u := ⟨_, List.getElem?_eq_getElem (by omega)⟩
      have hc4 := hown.cellAt (k * 8 + 4) (by omega)
      rw [hu4] at hc4
      obtain ⟨u5, hu5⟩ : ∃ u, ys[k * 8 + 5]? = some u := ⟨_, List.getElem?_eq_getElem (by omega)⟩
      have hc5 := hown.cellAt (k * 8 + 5) (by omega)
      rw [hu5] at hc5
      obtain ⟨u6, hu6⟩ : ∃ u, ys[k * 8 + 6]? = some u := ⟨_, List.getElem?_eq_getElem (by omega)⟩
      have hc6 := hown.cellAt (k * 8 + 6) (by omega)
      rw [hu6] at hc6
      obtain ⟨u7, hu7⟩ : ∃ u, ys[k * 8 + 7]? = some u := ⟨_, List.getElem?_eq_getElem (by omega)⟩
      have hc7 := hown.cellAt (k * 8 + 7) (by omega)
      rw [hu7] at hc7
      go_wp2_with fail
      go_roundw
      case rel => exact ⟨k + 1, _, by go_num, by omega, (fun y hy => by
        rcases List.mem_or_eq_of_mem_set hy with hy | h
        rotate_left
        · subst h; rfl
        rcases List.mem_or_eq_of_mem_set hy with hy | h
        rotate_left
        · subst h; rfl
        rcases List.mem_or_eq_of_mem_set hy with hy | h
        rotate_left
        · subst h; rfl
        rcases List.mem_or_eq_of_mem_set hy with hy | h
        rotate_left
        · subst h; rfl
        rcases List.mem_or_eq_of_mem_set hy with hy | h
        rotate_left
        · subst h; rfl
        rcases List.mem_or_eq_of_mem_set hy with hy | h
        rotate_left
        · subst h; rfl
        rcases List.mem_or_eq_of_mem_set hy with hy | h
        rotate_left
        · subst h; rfl
        rcases List.mem_or_eq_of_mem_set hy with hy | h
        rotate_left
        · subst h; rfl
        exact h1 y hy), st7.1, HB7, z7⟩
      case measure => simp [intOf]; omega
    · go_wp2_with (at_builtin; refine wpList_append_own _ rfl _ _ 39 rfl base 74 i0 (.agg #[.string ⟨#[]⟩, .int .i64 0, .int .i64 0, .int .i64 0, .string ⟨#[]⟩, .int .i64 0, .int .i64 0, .int .i64 0]) 8 80 Try.underlying39 hi hz0 hz1 hz2 rfl (by decide) _ _ _ rfl (hown.alloc _) ⟨wr.heap.size, 0, none⟩ 1 1 [.string ⟨#[111, 118, 101, 114]⟩, .int .i64 0, .int .i64 0, .int .i64 0, .string ⟨#[]⟩, .int .i64 0, .int .i64 0, .int .i64 0] rfl rfl ?c1 ?c2 ?c3 ?c4 ?c5 ?_)
      case c1 =>
        intro j u hj
        match j, hj with
        | 0, hj => simp at hj; subst hj; simp [Addr.add]
        | 1, hj => simp at hj; subst hj; simp [Addr.add]
        | 2, hj => simp at hj; subst hj; simp [Addr.add]
        | 3, hj => simp at hj; subst hj; simp [Addr.add]
        | 4, hj => simp at hj; subst hj; simp [Addr.add]
        | 5, hj => simp at hj; subst hj; simp [Addr.add]
        | 6, hj => simp at hj; subst hj; simp [Addr.add]
        | 7, hj => simp at hj; subst hj; simp [Addr.add]
      case c2 => exact fun u hu => (List.all_eq_true (l := [.string ⟨#[111, 118, 101, 114]⟩, .int .i64 0, .int .i64 0, .int .i64 0, .string ⟨#[]⟩, .int .i64 0, .int .i64 0, .int .i64 0]) (p := Value.oneCell')).1 rfl u hu
      case c3 => unfold maxLen; omega
      case c4 => omega
      case c5 => simp; omega
      · intro v' w1 hown' hgrow _
        go_wp2_with fail
        go_end0
        exact ⟨rfl, (hb.alloc hsz _).grown hgrow (by simp; omega) (fun q hq => (hown.lt q hq).1)⟩
end Go.Proofs.Ytmhdcehpddbjaaa
