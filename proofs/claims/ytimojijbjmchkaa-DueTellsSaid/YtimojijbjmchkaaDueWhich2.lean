/- Which, as a walk. -/
import Derived.Test.YtimojijbjmchkaaDueWhich
namespace Go.Proofs.Ytimojijbjmchkaa
open Go.RowKit

/-- The jobs that were handed in: each one's three cells. -/
structure JobsIn (w : World) (a : Option Addr) (b off len : Nat) (e f : Int → Int) : Prop where
  addr : 0 < len → a = some ⟨b, off, none⟩
  lt : 0 < len → b < w.heap.size
  prog : ∀ i : Nat, i < len → ∃ x, w.cell? ⟨b, off + i * 3, none⟩ = some (.int .i64 x)
  every : ∀ i : Nat, i < len → w.cell? ⟨b, off + i * 3 + 1, none⟩ = some (.int .i64 (e i))
  first : ∀ i : Nat, i < len → w.cell? ⟨b, off + i * 3 + 2, none⟩ = some (.int .i64 (f i))
theorem JobsIn.below {w w' : World} {a : Option Addr} {b off len : Nat} {e f : Int → Int} (h : JobsIn w a b off len e f) (hb : Below w.heap.size w w') : JobsIn w' a b off len e f := by
  have hk : ∀ j i : Nat, i < len → w'.cell? ⟨b, j, none⟩ = w.cell? ⟨b, j, none⟩ := fun j i hi => hb.cell (p := ⟨b, j, none⟩) (h.lt (by omega))
  exact ⟨h.addr, fun hl => Nat.lt_of_lt_of_le (h.lt hl) hb.size, fun i hi => by rw [hk _ i hi]; exact h.prog i hi, fun i hi => by rw [hk _ i hi]; exact h.every i hi, fun i hi => by rw [hk _ i hi]; exact h.first i hi⟩

/-- The numbers of those that are due, of the first k. -/
def Du.list (e : Int → Int) (b a : Int) (k : Nat) : List Int := ((List.range k).filter fun i : Nat => Du.due (e i) b a).map fun i : Nat => (i : Int)
theorem Du.list_yes {e : Int → Int} {b a : Int} {k : Nat} (h : Du.due (e k) b a = true) : Du.list e b a (k + 1) = Du.list e b a k ++ [(k : Int)] := by
  simp [Du.list, List.range_succ, List.filter_append, h]
theorem Du.list_no {e : Int → Int} {b a : Int} {k : Nat} (h : Du.due (e k) b a = false) : Du.list e b a (k + 1) = Du.list e b a k := by
  simp [Du.list, List.range_succ, List.filter_append, h]
theorem Du.list_len (e : Int → Int) (b a : Int) (k : Nat) : (Du.list e b a k).length ≤ k := by
  simp only [Du.list, List.length_map]
  exact Nat.le_trans (List.length_filter_le _ _) (by simp)
theorem Du.list_mem {e : Int → Int} {b a : Int} {k : Nat} {y : Int} (h : y ∈ Du.list e b a k) : 0 ≤ y ∧ y < k ∧ Du.due (e y) b a = true := by
  simp only [Du.list, List.mem_map, List.mem_filter, List.mem_range] at h
  obtain ⟨i, ⟨h1, h2⟩, rfl⟩ := h
  exact ⟨by omega, by omega, h2⟩
theorem Du.list_up (e : Int → Int) (b a : Int) (k : Nat) : (Du.list e b a k).Pairwise (· < ·) := by
  unfold Du.list
  rw [List.pairwise_map]
  exact (List.Pairwise.filter _ List.pairwise_lt_range).imp (fun h => by omega)
/-- What Which answers: those that are due, by First, of one First by their numbers. -/
def Du.Is (e f : Int → Int) (b a : Int) (len : Nat) (zs : List Int) : Prop := zs.Perm (Du.list e b a len) ∧ zs.Pairwise (Du.Lt f)
theorem Du.Is.unique {e f : Int → Int} {b a : Int} {len : Nat} {zs ys : List Int} (h : Du.Is e f b a len zs) (k : Du.Is e f b a len ys) : zs = ys :=
  Du.sorted_unique zs ys h.2 k.2 (h.1.trans k.1.symm)

theorem due_isN (e b a : Int) (r : Bool) (h : Du.due e b a = r) (w : World) (ha : a ≤ 9223372036854775807) :
    Calls Try.prog 11 #[.int .i64 e, .int .i64 b, .int .i64 a] w fun x w' => x = .returned (.bool r) ∧ ∃ n, w' = w.drewN n := by
  rw [← h]; exact due_walk e b a w ha

set_option maxRecDepth 100000 in
set_option maxHeartbeats 4000000 in
theorem which_any (a : Option Addr) (b off len cap : Nat) (e f : Int → Int) (x y : Int) (w : World) (hlen : len ≤ 20) (hj : JobsIn w a b off len e f) (hy : y ≤ 9223372036854775807) :
    Calls Try.prog 8 #[.slice a len cap, .int .i64 x, .int .i64 y] w fun r w' => ∃ A c zs, r = .returned (.slice A zs.length c) ∧ Du.Is e f x y len zs ∧
      w'.ownsRow w.heap.size 3 1 (.slice A zs.length c) zs.length (zs.map (Value.int .i64)) ∧ Below w.heap.size w w' := by
  have HJ := Aid.hid hj
  clear hj
  go_enter Try.func8, Try.ntmps8
  try simp only [List.append_eq, List.cons_append, List.nil_append]
  obtain ⟨i0, hi, hz0, hz1, hz2⟩ := info_parts info_int
  go_wp2_with fail
  obtain ⟨pj, hpj⟩ : ∃ pj, w.heap.size = pj := ⟨_, rfl⟩
  have B0 : Below w.heap.size w (w.alloc (.cells #[.slice a len cap] 22)) := (Below.refl _ _).alloc (Nat.le_refl _) _
  have P0 : Aid.Has (w.alloc (.cells #[.slice a len cap] 22)) pj [.slice a len cap] 22 := by rw [← hpj]; exact Aid.Has.new _ _ _
  have S0 : (w.alloc (.cells #[.slice a len cap] 22)).heap.size = pj + 1 := by simp [hpj]
  have O0 : (w.alloc (.cells #[.slice a len cap] 22)).ownsRow (pj + 1) 3 1 (.slice none (Du.list e x y 0).length 0) (Du.list e x y 0).length ((Du.list e x y 0).map (Value.int .i64)) := World.ownsRow_nil _ _ _ _
  generalize (w.alloc (.cells #[.slice a len cap] 22)) = w1 at *
  rw [hpj]
  go_loopw [7, 12] (fun v i wr => ∃ (k : Nat) (A : Option Addr) (c : Nat), k ≤ len ∧ i = .int .i64 k ∧ v = .slice A (Du.list e x y k).length c ∧ wr.ownsRow (pj + 1) 3 1 (.slice A (Du.list e x y k).length c) (Du.list e x y k).length ((Du.list e x y k).map (Value.int .i64)) ∧
      Aid.Has wr pj [.slice a len cap] 22 ∧ Below w.heap.size w wr ∧ pj + 1 ≤ wr.heap.size) (fun _ i _ => len - (intOf i).toNat)
  case atStart => exact ⟨0, none, 0, Nat.zero_le _, rfl, rfl, O0, P0, B0, Nat.le_of_eq S0.symm⟩
  case round =>
    clear O0 P0 B0 S0
    obtain ⟨k, A, c, hk, rfl, rfl, hown, hp, hb, hsz⟩ := hrel
    have NL := Aid.hid (Du.list_len e x y k)
    by_cases hlt : k < len
    · obtain rfl := HJ.out.addr (by omega)
      have HJ2 := HJ.out.below hb
      obtain ⟨t0, c0⟩ := HJ2.prog k hlt
      have c1 := HJ2.every k hlt
      have c2 := HJ2.first k hlt
      clear HJ2
      obtain ⟨r, hr⟩ : ∃ r, Du.due (e k) x y = r := ⟨_, rfl⟩
      have HR := Aid.hid hr
      clear hr
      go_wp2_with fail
      refine (due_isN _ _ _ r HR.out _ hy).mono ?_; rintro e' w2 ⟨rfl, n, hw⟩
      clear c0 c1 c2
      replace hown : w2.ownsRow (pj + 1) 3 1 (.slice A (Du.list e x y k).length c) (Du.list e x y k).length ((Du.list e x y k).map (Value.int .i64)) := by rw [hw]; exact hown.alloc _
      replace hp : Aid.Has w2 pj [.slice (some ⟨b, off, none⟩) len cap] 22 := by rw [hw]; exact hp.alloc _
      replace hb : Below w.heap.size w w2 := by rw [hw]; exact below_drewN' (hb.alloc hb.size _) _
      replace hsz : pj + 1 ≤ w2.heap.size := by rw [hw]; simp; omega
      clear hw
      cases r
      · have EL := Aid.hid (Du.list_no HR.out)
        go_wp2_with fail
        go_roundw
        case rel => exact ⟨k + 1, A, c, by omega, by go_num, by rw [EL.out], by rw [EL.out]; exact hown, hp, hb, hsz⟩
        case measure => simp [intOf]; omega
      · have EL := Aid.hid (Du.list_yes HR.out)
        go_wp2_with (at_builtin; refine wpList_append_own _ rfl _ _ 24 rfl (pj + 1) 3 i0 (.int .i64 0) 1 8 Try.underlying24 hi hz0 hz1 hz2 rfl (by decide) _ _ _ rfl (hown.alloc _) ⟨w2.heap.size, 0, none⟩ 1 1 [.int .i64 k] rfl rfl ?c1 ?c2 ?c3 ?c4 ?c5 ?_)
        case c1 =>
          intro j u hj
          match j, hj with
          | 0, hj => simp at hj; subst hj; simp [Addr.add]
        case c2 => intro u hu; simp at hu; subst hu; rfl
        case c3 => have := NL.out; unfold maxLen; omega
        case c4 => have := NL.out; omega
        case c5 => simp; omega
        · intro v' w3 hown' hgrow _
          have hp3 : Aid.Has w3 pj [.slice (some ⟨b, off, none⟩) len cap] 22 := (hgrow.block pj (by simp; omega) (fun h => by have := (hown.lt pj h.symm).1; omega)).trans (hp.alloc _)
          have hb3 : Below w.heap.size w w3 := (hb.alloc hb.size _).grown hgrow (by have := hb.size; simp; omega) (fun q hq => by have := (hown.lt q hq).1; omega)
          have hsz3 : pj + 1 ≤ w3.heap.size := by have := hgrow.size; simp at this; omega
          obtain ⟨g, cap', rfl, _, _⟩ := hown'.form (by omega)
          clear hown hp hb hsz hgrow
          go_wp2_with fail
          go_roundw
          case rel => exact ⟨k + 1, some ⟨g, 0, none⟩, cap', by omega, by go_num, by rw [EL.out]; simp, by rw [EL.out]; simpa using hown', hp3, hb3, hsz3⟩
          case measure => simp [intOf]; omega
    · obtain rfl : k = len := by omega
      have HS := Aid.hid (sort_own A pj b off k cap c (pj + 1) f (Du.list e x y k) w.heap.size w wr hlen (by have := NL.out; omega) (fun y hy => by obtain ⟨h1, h2, _⟩ := Du.list_mem hy; exact ⟨h1, h2⟩) (Du.list_up e x y k) hown
        (fun h0 => by
          obtain rfl := HJ.out.addr h0
          exact ⟨hp.cell 0 _ rfl, fun i hi => (HJ.out.below hb).first i hi⟩) (fun h0 => by have := HJ.out.lt h0; omega) (by omega) hb (by omega))
      clear hown hp hb
      go_wp2_with fail
      refine HS.out.mono ?_; rintro e' w' ⟨rfl, zs, hl, ho, hperm, hs, hb'⟩
      replace ho : w'.ownsRow w.heap.size 3 1 (.slice A zs.length c) zs.length (zs.map (Value.int .i64)) := by
        rw [hl]
        rcases ho with ⟨o1, o2 | ⟨g, cp, cur, p1, p2, p3⟩⟩
        · exact ⟨o1, Or.inl o2⟩
        · exact ⟨o1, Or.inr ⟨g, cp, cur, p1, by omega, p3⟩⟩
      rw [← hl]
      have Q := Aid.hid (And.intro (show Du.Is e f x y k zs from ⟨hperm, hs⟩) (And.intro ho hb'))
      clear hl ho hperm hs hb'
      go_wp2_with fail
      go_ret
      exact ⟨A, c, zs, rfl, Q.out⟩
end Go.Proofs.Ytimojijbjmchkaa
