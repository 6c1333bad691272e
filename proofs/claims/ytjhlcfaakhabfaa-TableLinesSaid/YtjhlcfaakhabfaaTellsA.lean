/- What TableTells wants: the Over.. by the block that they write; SameInts of one list; rows made one behind the other; slots put at once. -/
import Derived.Test.YtjhlcfaakhabfaaRefD
namespace Go.Proofs.Ytjhlcfaakhabfaa
open Go.RowKit

theorem gtrans {a b c : World} {r : Option Nat} (h : a.grownBy b r) (k : b.grownBy c r) : a.grownBy c r :=
  ⟨k.1.trans h.1, k.2.trans h.2, k.3.trans h.3, Nat.le_trans h.size k.size, fun i hi hn => (k.block i (by have := h.size; omega) hn).trans (h.block i hi hn)⟩

set_option maxRecDepth 100000 in
set_option maxHeartbeats 4000000 in
theorem overInts_z (A : Option Addr) (c base : Nat) (xs : List Int) (w : World) (hx : w.ownsRow base 3 1 (.slice A xs.length c) xs.length (xs.map (Value.int .i64))) (lx : xs.length < 1000000000) (hs : base ≤ w.heap.size) :
    Calls Try.prog 27 #[.slice A xs.length c] w fun e w' => e = .returned (.tuple #[]) ∧ w.grownBy w' (Value.slice A xs.length c).ownBlock := by
  go_enter Try.func27, Try.ntmps27
  try simp only [List.append_eq, List.cons_append, List.nil_append]
  obtain ⟨i0, hi, hz0, hz1, hz2⟩ := info_parts info_int
  go_wp2_with fail
  go_loopw [2] (fun i wr => ∃ (k : Nat) (ys : List Value), i = .int .i64 k ∧ k ≤ xs.length ∧ (∀ y ∈ ys, y.oneCell' = true) ∧ wr.ownsRow base 3 1 (.slice A xs.length c) xs.length ys ∧ w.grownBy wr (Value.slice A xs.length c).ownBlock ∧ base ≤ wr.heap.size) (fun i _ => xs.length - (intOf i).toNat)
  case atStart => exact ⟨0, _, rfl, Nat.zero_le _, (by intro y hy; obtain ⟨z, _, rfl⟩ := List.mem_map.1 hy; rfl), hx, World.grownBy.refl _ _, hs⟩
  case round =>
    obtain ⟨k, ys, rfl, hk, h1, hown, hb, hsz⟩ := hrel
    clear hx hs
    by_cases hlt : k < xs.length
    · obtain ⟨g, cap, hv, hg, hgs⟩ := hown.form (by omega)
      obtain ⟨rfl, rfl⟩ : A = some ⟨g, 0, none⟩ ∧ c = cap := by simpa using hv
      have hl : ys.length = xs.length := by have := hown.1; omega
      have hc := hown.cellAt k (by omega)
      have hf := hown.frozenAt k
      obtain ⟨u, hu⟩ : ∃ u, ys[k]? = some u := ⟨_, List.getElem?_eq_getElem (by omega)⟩
      rw [hu] at hc
      have hst := hown.stored k (.int .i64 (-999))
      have HB2 := gtrans hb hst.2
      go_wp2_with fail
      go_roundw
      case rel => exact ⟨k + 1, _, by go_num, by omega, (fun y hy => by rcases List.mem_or_eq_of_mem_set hy with h | h; exact h1 y h; subst h; rfl), hst.1, HB2, by simpa [World.setCell] using hsz⟩
      case measure => simp [intOf]; omega
    · go_wp2_with (at_builtin; refine wpList_append_own _ rfl _ _ 36 rfl base 3 i0 (.int .i64 0) 1 8 Try.underlying36 hi hz0 hz1 hz2 rfl (by decide) _ _ _ rfl (hown.alloc _) ⟨wr.heap.size, 0, none⟩ 1 1 [.int .i64 (-999)] rfl rfl ?c1 ?c2 ?c3 ?c4 ?c5 ?_)
      case c1 =>
        intro j u hj
        match j, hj with
        | 0, hj => simp at hj; subst hj; simp [Addr.add]
      case c2 => intro u hu; simp at hu; subst hu; rfl
      case c3 => unfold maxLen; omega
      case c4 => omega
      case c5 => simp; omega
      · intro v' w1 hown' hgrow _
        go_wp2_with fail
        go_end0
        exact ⟨rfl, gtrans (gtrans hb (World.grownBy_alloc _ _ _)) hgrow⟩
set_option maxRecDepth 100000 in
set_option maxHeartbeats 4000000 in
theorem overVars_z (A : Option Addr) (c base n : Nat) (xs : List Value) (w : World) (hx : w.ownsRow base 44 8 (.slice A n c) n xs) (h1' : ∀ y ∈ xs, y.oneCell' = true) (lx : n < 1000000000) (hs : base ≤ w.heap.size) :
    Calls Try.prog 28 #[.slice A n c] w fun e w' => e = .returned (.tuple #[]) ∧ w.grownBy w' (Value.slice A n c).ownBlock := by
  go_enter Try.func28, Try.ntmps28
  try simp only [List.append_eq, List.cons_append, List.nil_append]
  obtain ⟨i0, hi, hz0, hz1, hz2⟩ := info_parts info_var
  go_wp2_with fail
  go_loopw [2] (fun i wr => ∃ (k : Nat) (ys : List Value), i = .int .i64 k ∧ k ≤ n ∧ (∀ y ∈ ys, y.oneCell' = true) ∧ wr.ownsRow base 44 8 (.slice A n c) n ys ∧ w.grownBy wr (Value.slice A n c).ownBlock ∧ base ≤ wr.heap.size) (fun i _ => n - (intOf i).toNat)
  case atStart => exact ⟨0, _, rfl, Nat.zero_le _, h1', hx, World.grownBy.refl _ _, hs⟩
  case round =>
    obtain ⟨k, ys, rfl, hk, h1, hown, hb, hsz⟩ := hrel
    clear hx hs h1'
    by_cases hlt : k < n
    · obtain ⟨g, cap, hv, hg, hgs⟩ := hown.form (by omega)
      obtain ⟨rfl, rfl⟩ : A = some ⟨g, 0, none⟩ ∧ c = cap := by simpa using hv
      have hl : ys.length = n * 8 := hown.1
      have st0 := hown.stored (k * 8) (.string ⟨#[111, 118, 101, 114]⟩)
      have st1 := st0.1.stored (k * 8 + 1) (.int .i64 0)
      have st2 := st1.1.stored (k * 8 + 2) (.int .i64 0)
      have st3 := st2.1.stored (k * 8 + 3) (.int .i64 0)
      have st4 := st3.1.stored (k * 8 + 4) (.string ⟨#[]⟩)
      have st5 := st4.1.stored (k * 8 + 5) (.int .i64 0)
      have st6 := st5.1.stored (k * 8 + 6) (.int .i64 0)
      have st7 := st6.1.stored (k * 8 + 7) (.int .i64 0)
      have hsz2 : ∀ (W : World) p v, base ≤ W.heap.size → base ≤ (W.setCell p v).heap.size := fun W p v h => by simpa [World.setCell] using h
      have HB0 := gtrans hb st0.2
      have z0 := hsz2 _ ⟨g, k * 8, none⟩ (.string ⟨#[111, 118, 101, 114]⟩) hsz
      have HB1 := gtrans HB0 st1.2
      have z1 := hsz2 _ ⟨g, k * 8 + 1, none⟩ (.int .i64 0) z0
      have HB2 := gtrans HB1 st2.2
      have z2 := hsz2 _ ⟨g, k * 8 + 2, none⟩ (.int .i64 0) z1
      have HB3 := gtrans HB2 st3.2
      have z3 := hsz2 _ ⟨g, k * 8 + 3, none⟩ (.int .i64 0) z2
      have HB4 := gtrans HB3 st4.2
      have z4 := hsz2 _ ⟨g, k * 8 + 4, none⟩ (.string ⟨#[]⟩) z3
      have HB5 := gtrans HB4 st5.2
      have z5 := hsz2 _ ⟨g, k * 8 + 5, none⟩ (.int .i64 0) z4
      have HB6 := gtrans HB5 st6.2
      have z6 := hsz2 _ ⟨g, k * 8 + 6, none⟩ (.int .i64 0) z5
      have HB7 := gtrans HB6 st7.2
      have z7 := hsz2 _ ⟨g, k * 8 + 7, none⟩ (.int .i64 0) z6
      have hf := hown.frozenAt
      obtain ⟨u0, hu0⟩ : ∃ u, ys[k * 8]? = some u := ⟨_, List.getElem?_eq_getElem (by omega)⟩
      have hc0 := hown.cellAt (k * 8) (by omega)
      rw [hu0] at hc0
      obtain ⟨u1, hu1⟩ : ∃ u, ys[k * 8 + 1]? = some u := ⟨_, List.getElem?_eq_getElem (by omega)⟩
      have hc1 := hown.cellAt (k * 8 + 1) (by omega)
      rw [hu1] at hc1
      obtain ⟨u2, hu2⟩ : ∃ u, ys[k * 8 + 2]? = some u := ⟨_, List.getElem?_eq_getElem (by omega)⟩
      have hc2 := hown.cellAt (k * 8 + 2) (by omega)
      rw [hu2] at hc2
      obtain ⟨u3, hu3⟩ : ∃ u, ys[k * 8 + 3]? = some u := ⟨_, List.getElem?_eq_getElem (by omega)⟩
      have hc3 := hown.cellAt (k * 8 + 3) (by omega)
      rw [hu3] at hc3
      obtain ⟨u4, hu4⟩ : ∃ u, ys[k * 8 + 4]? = some u := ⟨_, List.getElem?_eq_getElem (by omega)⟩
      have hc4 := hown.cellAt (k * 8 + 4) (by omega)
      rw [hu4] at hc4
      obtain ⟨u5, hu5⟩ : ∃ u, ys[k * 8 + 5]? = some u := ⟨_, List.getElem?_eq_getElem (by omega)⟩
      have hc5 := hown.cellAt (k * 8 + 5) (by omega)
      rw [hu5] at hc5
      obtain ⟨u6, hu6⟩ : ∃ u, ys[k * 8 + 6]? = some u := ⟨_, List.getElem?_eq_getElem (by omega)⟩
      have hc6 := hown.cellAt (k * 8 + 6) (by omega)
      rw [hu6] at hc6
      obtain ⟨u7, hu7⟩ : ∃ u, ys[k * 8 + 7]? = some u := ⟨_, List.getElem?_eq_getElem (by omega)⟩
      have hc7 := hown.cellAt (k * 8 + 7) (by omega)
      rw [hu7] at hc7
      go_wp2_with fail
      go_roundw
      case rel => exact ⟨k + 1, _, by go_num, by omega, (fun y hy => by
        rcases List.mem_or_eq_of_mem_set hy with hy | h
        rotate_left
        · subst h; rfl
        rcases List.mem_or_eq_of_mem_set hy with hy | h
        rotate_left
        · subst h; rfl
        rcases List.mem_or_eq_of_mem_set hy with hy | h
        rotate_left
        · subst h; rfl
        rcases List.mem_or_eq_of_mem_set hy with hy | h
        rotate_left
        · subst h; rfl
        rcases List.mem_or_eq_of_mem_set hy with hy | h
        rotate_left
        · subst h; rfl
        rcases List.mem_or_eq_of_mem_set hy with hy | h
        rotate_left
        · subst h; rfl
        rcases List.mem_or_eq_of_mem_set hy with hy | h
        rotate_left
        · subst h; rfl
        rcases List.mem_or_eq_of_mem_set hy with hy | h
        rotate_left
        · subst h; rfl
        exact h1 y hy), st7.1, HB7, z7⟩
      case measure => simp [intOf]; omega
    · go_wp2_with (at_builtin; refine wpList_append_own _ rfl _ _ 28 rfl base 44 i0 (.agg #[.string ⟨#[]⟩, .int .i64 0, .int .i64 0, .int .i64 0, .string ⟨#[]⟩, .int .i64 0, .int .i64 0, .int .i64 0]) 8 80 Try.underlying28 hi hz0 hz1 hz2 rfl (by decide) _ _ _ rfl (hown.alloc _) ⟨wr.heap.size, 0, none⟩ 1 1 [.string ⟨#[111, 118, 101, 114]⟩, .int .i64 0, .int .i64 0, .int .i64 0, .string ⟨#[]⟩, .int .i64 0, .int .i64 0, .int .i64 0] rfl rfl ?c1 ?c2 ?c3 ?c4 ?c5 ?_)
      case c1 =>
        intro j u hj
        match j, hj with
        | 0, hj => simp at hj; subst hj; simp [Addr.add]
        | 1, hj => simp at hj; subst hj; simp [Addr.add]
        | 2, hj => simp at hj; subst hj; simp [Addr.add]
        | 3, hj => simp at hj; subst hj; simp [Addr.add]
        | 4, hj => simp at hj; subst hj; simp [Addr.add]
        | 5, hj => simp at hj; subst hj; simp [Addr.add]
        | 6, hj => simp at hj; subst hj; simp [Addr.add]
        | 7, hj => simp at hj; subst hj; simp [Addr.add]
      case c2 => exact fun u hu => (List.all_eq_true (l := [.string ⟨#[111, 118, 101, 114]⟩, .int .i64 0, .int .i64 0, .int .i64 0, .string ⟨#[]⟩, .int .i64 0, .int .i64 0, .int .i64 0]) (p := Value.oneCell')).1 rfl u hu
      case c3 => unfold maxLen; omega
      case c4 => omega
      case c5 => simp; omega
      · intro v' w1 hown' hgrow _
        go_wp2_with fail
        go_end0
        exact ⟨rfl, gtrans (gtrans hb (World.grownBy_alloc _ _ _)) hgrow⟩
theorem overInts_g (A : Option Addr) (c base : Nat) (xs : List Int) (w : World) (hx : w.ownsRow base 3 1 (.slice A xs.length c) xs.length (xs.map (Value.int .i64))) (lx : xs.length < 1000000000) :
    Calls Try.prog 27 #[.slice A xs.length c] w fun e w' => e = .returned (.tuple #[]) ∧ w.grownBy w' (Value.slice A xs.length c).ownBlock :=
  overInts_z A c 0 xs w (own_lowers hx (Nat.zero_le _)) lx (Nat.zero_le _)
theorem overVars_g (A : Option Addr) (c base n : Nat) (xs : List Value) (w : World) (hx : w.ownsRow base 44 8 (.slice A n c) n xs) (h1' : ∀ y ∈ xs, y.oneCell' = true) (lx : n < 1000000000) :
    Calls Try.prog 28 #[.slice A n c] w fun e w' => e = .returned (.tuple #[]) ∧ w.grownBy w' (Value.slice A n c).ownBlock :=
  overVars_z A c 0 n xs w (own_lowers hx (Nat.zero_le _)) h1' lx (Nat.zero_le _)
theorem sameInts_self (A C : Option Addr) (c d B B' : Nat) (xs : List Int) (w : World) (hx : IntsAt w B A xs) (hy : IntsAt w B' C xs) (lx : xs.length < 1000000000) :
    Calls Try.prog 21 #[.slice A xs.length c, .slice C xs.length d] w fun e w' => e = .returned (.bool true) ∧ ∃ n, w' = w.drewN n := by
  refine (sameInts_walk A C c d B B' xs xs w hx hy lx lx).mono ?_
  rintro e w' ⟨rfl, h⟩
  exact ⟨by simp, h⟩
/-- Slice v is not made of slice u's block. -/
def Apart (v u : Value) : Prop := v = .slice none 0 0 ∨ v.ownBlock ≠ u.ownBlock
theorem own_apart {w1 w2 : World} {b1 e1 s1 n1 e2 s2 n2 : Nat} {v1 v2 : Value} {x1 x2 : List Value} (h1 : w1.ownsRow b1 e1 s1 v1 n1 x1) (h2 : w2.ownsRow w1.heap.size e2 s2 v2 n2 x2) : Apart v1 v2 ∧ Apart v2 v1 := by
  rcases h1.2 with ⟨rfl, h0⟩ | ⟨g1, cp1, cur1, rfl, p1, p2, _⟩
  · refine ⟨Or.inl rfl, ?_⟩
    rcases h2.2 with ⟨rfl, _⟩ | ⟨g2, cp2, cur2, rfl, q1, q2, _⟩
    · exact Or.inl rfl
    · exact Or.inr (by simp [Value.ownBlock])
  · have hg1 := (Array.getElem?_eq_some_iff.1 p2).1
    rcases h2.2 with ⟨rfl, _⟩ | ⟨g2, cp2, cur2, rfl, q1, q2, _⟩
    · exact ⟨Or.inr (by simp [Value.ownBlock]), Or.inl rfl⟩
    · exact ⟨Or.inr (by simp [Value.ownBlock]; omega), Or.inr (by simp [Value.ownBlock]; omega)⟩
theorem grown_below {w w' : World} {B C e s n : Nat} {v : Value} {xs : List Value} (h : w.ownsRow B e s v n xs) (hg : w.grownBy w' v.ownBlock) (hB : C ≤ B) (hC : C ≤ w.heap.size) : Below C w w' :=
  (Below.refl C w).grown hg hC (fun q hq => Nat.le_trans hB (h.lt q hq).1)
/-- Many slots put at once. -/
def putL (a : Act) : List (Nat × Value) → Act
  | [] => a
  | (i, v) :: r => putL (a.put (some i) v) r
end Go.Proofs.Ytjhlcfaakhabfaa
