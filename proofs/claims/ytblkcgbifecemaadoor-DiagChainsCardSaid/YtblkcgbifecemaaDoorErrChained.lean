/- chained, as a walk. -/
import Derived.Test.YtblkcgbifecemaaDoorErrChain
import Derived.Laws.OwnMore
namespace Go.Proofs.YtblkcgbifecemaaDoor
open Go.RowKit Go.Extern.Stop Go.Stop Go.Extern

/-- A link: a code, a place, whether something else wraps it. -/
def Lk.cells (p : Int × Int × Bool) : List Value := [.int .i64 p.1, .int .i64 p.2.1, .bool p.2.2]
theorem wr_one (l : List (Int × Int)) : ∀ u ∈ (l.map Wr.cells).flatten, u.oneCell' = true := by
  intro u hu
  obtain ⟨r, hr, hur⟩ := List.mem_flatten.1 hu
  obtain ⟨p, _, rfl⟩ := List.mem_map.1 hr
  simp [Wr.cells] at hur
  rcases hur with rfl | rfl <;> rfl
set_option maxRecDepth 100000 in
set_option maxHeartbeats 8000000 in
theorem chained_er (L : Option Addr) (lc : Nat) (ls : List (Int × Int × Bool)) (w : World) (hL : Rows w w.heap.size 3 L (ls.map Lk.cells)) (hn : 0 < ls.length) (hl : ls.length ≤ 20) :
    Calls Tryd.prog 12 #[.slice L ls.length lc] w fun e w' => ∃ (E : Er) (A : Option Addr) (c : Nat), e = .returned (.tuple #[E.v, .slice A E.chain.length c]) ∧ Hid (E.At w') ∧ Hid (w'.ownsRow w.heap.size 37 2 (.slice A E.chain.length c) E.chain.length ((E.chain.map Wr.cells).flatten)) ∧ Hid (E.chain.length = ls.length) ∧ Hid (E ≠ .nil) ∧ Hid (Below w.heap.size w w') := by
  obtain ⟨lb, lo, rfl, hlb, hcl⟩ := hL (by simpa using hn)
  have HCL := Aid.hid hcl
  obtain ⟨i0, hi, hz0, hz1, hz2⟩ := info_parts info_wrong
  clear hL hcl
  go_enter Tryd.func12, Tryd.ntmps12
  try simp only [List.append_eq, List.cons_append, List.nil_append]
  go_wp2_with fail
  go_loopw [4, 5, 6] (fun ve vw vi wr => ∃ (k : Nat) (E : Er) (A : Option Addr) (c : Nat) (ch : List (Int × Int)), vi = .int .i64 k ∧ k ≤ ls.length ∧ ve = E.v ∧ vw = .slice A ch.length c ∧ Hid (E.At wr) ∧
    Hid (wr.ownsRow w.heap.size 37 2 (.slice A ch.length c) ch.length ((ch.map Wr.cells).flatten)) ∧ Hid (E.chain = ch) ∧ (Hid (ch.length = k) ∧ ch.length ≤ 20) ∧ Hid (0 < k → E ≠ .nil) ∧ Hid (Below w.heap.size w wr)) (fun _ _ vi _ => ls.length - (intOf vi).toNat)
  case atStart => exact ⟨0, .nil, none, 0, [], rfl, Nat.zero_le _, rfl, rfl, Aid.hid trivial, Aid.hid (World.ownsRow_nil _ _ _ _), Aid.hid rfl, ⟨Aid.hid rfl, by simp⟩, Aid.hid (fun h => absurd h (by omega)), Aid.hid (Below.refl _ _)⟩
  case round =>
    obtain ⟨k, E, A, c, ch, rfl, hk, rfl, rfl, HA, O, HCH, ⟨HCK, hck⟩, HN, HB⟩ := hrel
    by_cases hlt : k < ls.length
    · obtain ⟨p, hp⟩ : ∃ p, ls[k]? = some p := ⟨_, List.getElem?_eq_getElem hlt⟩
      obtain ⟨k1, k2, oth⟩ := p
      have L0 := Aid.hid (HCL.out k (Lk.cells (k1, k2, oth)) (by simp [hp]) 0 _ rfl)
      have L1 := Aid.hid (HCL.out k (Lk.cells (k1, k2, oth)) (by simp [hp]) 1 _ rfl)
      have L2 := Aid.hid (HCL.out k (Lk.cells (k1, k2, oth)) (by simp [hp]) 2 _ rfl)
      simp only [Nat.add_zero] at L0
      clear hp
      have hb := HB.out
      cases E with
      | nil =>
        dsimp only [Er.v]
        go_wp2_with fail
        refine Ord.wp_region_walk (fun w' => Below w.heap.size w w') 11 [(true, 0), (true, 1), (true, 2), (true, 3), (true, 4), (true, 5), (true, 6), (true, 7), (true, 8), (true, 9), (false, 10)] (by kernel_rfl) (by kernel_rfl) (fun _ _ d _ _ h => by cases d <;> exact h) (hb.drew) ?_
        apply Ord.walk_light
        next => (simp only [List.getElem?_toArray, List.getElem?_cons_zero]; rfl)
        next => rfl
        next => (intro w' hSw; clear hSw; go_simp; first | done | with_reducible rfl)
        simp only [Act.put, List.setIfInBounds_toArray, List.set_cons_zero, List.set_cons_succ]
        apply Ord.walk_light
        next => (simp only [List.getElem?_toArray, List.getElem?_cons_succ, List.getElem?_cons_zero]; rfl)
        next => rfl
        next => (intro w' hSw; clear hSw; go_simp; first | done | with_reducible rfl)
        simp only [Act.put, List.setIfInBounds_toArray, List.set_cons_zero, List.set_cons_succ]
        apply Ord.walk_light
        next => (simp only [List.getElem?_toArray, List.getElem?_cons_succ, List.getElem?_cons_zero]; rfl)
        next => rfl
        next => (intro w' hSw; clear hSw; go_simp; first | done | with_reducible rfl)
        simp only [Act.put, List.setIfInBounds_toArray, List.set_cons_zero, List.set_cons_succ]
        apply Ord.walk_light
        next => (simp only [List.getElem?_toArray, List.getElem?_cons_succ, List.getElem?_cons_zero]; rfl)
        next => rfl
        next => (intro w' hSw; clear hSw; go_simp; first | done | with_reducible rfl)
        simp only [Act.put, List.setIfInBounds_toArray, List.set_cons_zero, List.set_cons_succ]
        apply Ord.walk_light
        next => (simp only [List.getElem?_toArray, List.getElem?_cons_succ, List.getElem?_cons_zero]; rfl)
        next => rfl
        next => (intro w' hSw; have g0 := (hSw.cell (p := ⟨lb, lo + k * 3, none⟩) hlb).trans L0.out; have g1 := (hSw.cell (p := ⟨lb, lo + k * 3 + 1, none⟩) hlb).trans L1.out; go_simp; first | done | with_reducible rfl)
        simp only [Act.put, List.setIfInBounds_toArray, List.set_cons_zero, List.set_cons_succ]
        apply Ord.walk_light
        next => (simp only [List.getElem?_toArray, List.getElem?_cons_succ, List.getElem?_cons_zero]; rfl)
        next => rfl
        next => (intro w' hSw; clear hSw; go_simp; first | done | with_reducible rfl)
        simp only [Act.put, List.setIfInBounds_toArray, List.set_cons_zero, List.set_cons_succ]
        apply Ord.walk_light
        next => (simp only [List.getElem?_toArray, List.getElem?_cons_succ, List.getElem?_cons_zero]; rfl)
        next => rfl
        next => (intro w' hSw; clear hSw; go_simp; first | done | with_reducible rfl)
        simp only [Act.put, List.setIfInBounds_toArray, List.set_cons_zero, List.set_cons_succ]
        apply Ord.walk_light
        next => (simp only [List.getElem?_toArray, List.getElem?_cons_succ, List.getElem?_cons_zero]; rfl)
        next => rfl
        next => (intro w' hSw; clear hSw; go_simp; first | done | with_reducible rfl)
        simp only [Act.put, List.setIfInBounds_toArray, List.set_cons_zero, List.set_cons_succ]
        apply Ord.walk_light
        next => (simp only [List.getElem?_toArray, List.getElem?_cons_succ, List.getElem?_cons_zero]; rfl)
        next => rfl
        next => (intro w' hSw; clear hSw; go_simp; first | done | with_reducible rfl)
        simp only [Act.put, List.setIfInBounds_toArray, List.set_cons_zero, List.set_cons_succ]
        apply Ord.walk_light
        next => (simp only [List.getElem?_toArray, List.getElem?_cons_succ, List.getElem?_cons_zero]; rfl)
        next => rfl
        next => (intro w' hSw; have g0 := (hSw.cell (p := ⟨lb, lo + k * 3, none⟩) hlb).trans L0.out; have g1 := (hSw.cell (p := ⟨lb, lo + k * 3 + 1, none⟩) hlb).trans L1.out; go_simp; first | done | with_reducible rfl)
        simp only [Act.put, List.setIfInBounds_toArray, List.set_cons_zero, List.set_cons_succ]
        apply Ord.walk_heavy
        next => (simp only [List.getElem?_toArray, List.getElem?_cons_succ, List.getElem?_cons_zero]; rfl)
        next => rfl
        intro K hK
        go_wp2_with fail
        refine (new_er k1 k2 _).mono ?_; rintro x w1 ⟨eb, rfl, _, hE, hx⟩; dsimp only
        refine hK.out _ _ (hb.drew.trans (hx.mono hb.size)) (fun hHeld => ?_)
        clear hHeld
        clear hK K
        try simp only [Act.put, List.setIfInBounds_toArray, List.set_cons_zero, List.set_cons_succ]
        refine Ord.walk_tail ?_; simp only [List.drop_succ_cons, List.drop_zero]
        have HA1 : Hid ((Er.own eb k1 k2 Er.nil).At w1) := Aid.hid hE
        have HB1 := Aid.hid (hb.drew.trans (hx.mono hb.size))
        have O1 : Hid (w1.ownsRow w.heap.size 37 2 (.slice A ch.length c) ch.length ((ch.map Wr.cells).flatten)) := Aid.hid (own_keeps (O.out.drew) hx)
        clear hE hx hb O HA HB
        have hb := HB1.out
        go_wp2_with fail
        refine Ord.wp_region_walk (fun w' => Below w.heap.size w w') 13 [(true, 0), (true, 1), (true, 2), (true, 3), (true, 4), (true, 5), (true, 6), (true, 7), (true, 8), (true, 9), (true, 10), (true, 12), (false, 11)] (by kernel_rfl) (by kernel_rfl) (fun _ _ d _ _ h => by cases d <;> exact h) (hb.drew) ?_
        apply Ord.walk_light
        next => (simp only [List.getElem?_toArray, List.getElem?_cons_zero]; rfl)
        next => rfl
        next => (intro w' hSw; clear hSw; go_simp; first | done | with_reducible rfl)
        simp only [Act.put, List.setIfInBounds_toArray, List.set_cons_zero, List.set_cons_succ]
        apply Ord.walk_light
        next => (simp only [List.getElem?_toArray, List.getElem?_cons_succ, List.getElem?_cons_zero]; rfl)
        next => rfl
        next => (intro w' hSw; clear hSw; go_simp; first | done | with_reducible rfl)
        simp only [Act.put, List.setIfInBounds_toArray, List.set_cons_zero, List.set_cons_succ]
        apply Ord.walk_light
        next => (simp only [List.getElem?_toArray, List.getElem?_cons_succ, List.getElem?_cons_zero]; rfl)
        next => rfl
        next => (intro w' hSw; clear hSw; go_simp; first | done | with_reducible rfl)
        simp only [Act.put, List.setIfInBounds_toArray, List.set_cons_zero, List.set_cons_succ]
        apply Ord.walk_light
        next => (simp only [List.getElem?_toArray, List.getElem?_cons_succ, List.getElem?_cons_zero]; rfl)
        next => rfl
        next => (intro w' hSw; clear hSw; go_simp; first | done | with_reducible rfl)
        simp only [Act.put, List.setIfInBounds_toArray, List.set_cons_zero, List.set_cons_succ]
        apply Ord.walk_light
        next => (simp only [List.getElem?_toArray, List.getElem?_cons_succ, List.getElem?_cons_zero]; rfl)
        next => rfl
        next => (intro w' hSw; have g0 := (hSw.cell (p := ⟨lb, lo + k * 3, none⟩) hlb).trans L0.out; have g1 := (hSw.cell (p := ⟨lb, lo + k * 3 + 1, none⟩) hlb).trans L1.out; go_simp; first | done | with_reducible rfl)
        simp only [Act.put, List.setIfInBounds_toArray, List.set_cons_zero, List.set_cons_succ]
        apply Ord.walk_light
        next => (simp only [List.getElem?_toArray, List.getElem?_cons_succ, List.getElem?_cons_zero]; rfl)
        next => rfl
        next => (intro w' hSw; clear hSw; go_simp; first | done | with_reducible rfl)
        simp only [Act.put, List.setIfInBounds_toArray, List.set_cons_zero, List.set_cons_succ]
        apply Ord.walk_light
        next => (simp only [List.getElem?_toArray, List.getElem?_cons_succ, List.getElem?_cons_zero]; rfl)
        next => rfl
        next => (intro w' hSw; clear hSw; go_simp; first | done | with_reducible rfl)
        simp only [Act.put, List.setIfInBounds_toArray, List.set_cons_zero, List.set_cons_succ]
        apply Ord.walk_light
        next => (simp only [List.getElem?_toArray, List.getElem?_cons_succ, List.getElem?_cons_zero]; rfl)
        next => rfl
        next => (intro w' hSw; clear hSw; go_simp; first | done | with_reducible rfl)
        simp only [Act.put, List.setIfInBounds_toArray, List.set_cons_zero, List.set_cons_succ]
        apply Ord.walk_light
        next => (simp only [List.getElem?_toArray, List.getElem?_cons_succ, List.getElem?_cons_zero]; rfl)
        next => rfl
        next => (intro w' hSw; clear hSw; go_simp; first | done | with_reducible rfl)
        simp only [Act.put, List.setIfInBounds_toArray, List.set_cons_zero, List.set_cons_succ]
        apply Ord.walk_light
        next => (simp only [List.getElem?_toArray, List.getElem?_cons_succ, List.getElem?_cons_zero]; rfl)
        next => rfl
        next => (intro w' hSw; have g0 := (hSw.cell (p := ⟨lb, lo + k * 3, none⟩) hlb).trans L0.out; have g1 := (hSw.cell (p := ⟨lb, lo + k * 3 + 1, none⟩) hlb).trans L1.out; go_simp; first | done | with_reducible rfl)
        simp only [Act.put, List.setIfInBounds_toArray, List.set_cons_zero, List.set_cons_succ]
        apply Ord.walk_light
        next => (simp only [List.getElem?_toArray, List.getElem?_cons_succ, List.getElem?_cons_zero]; rfl)
        next => rfl
        next => (intro w' hSw; clear hSw; go_simp; first | done | with_reducible rfl)
        simp only [Act.put, List.setIfInBounds_toArray, List.set_cons_zero, List.set_cons_succ]
        apply Ord.walk_light
        next => (simp only [List.getElem?_toArray, List.getElem?_cons_succ, List.getElem?_cons_zero]; rfl)
        next => rfl
        next => (intro w' hSw; clear hSw; go_simp; first | done | with_reducible rfl)
        simp only [Act.put, List.setIfInBounds_toArray, List.set_cons_zero, List.set_cons_succ]
        apply Ord.walk_heavy
        next => (simp only [List.getElem?_toArray, List.getElem?_cons_succ, List.getElem?_cons_zero]; rfl)
        next => rfl
        intro K hK
        go_wp2_with fail
        refine hK.out _ _ (by repeat' (first | exact hb | refine Below.drew ?_ | refine Below.alloc ?_ ?_ _ | exact hb.size | (simp; exact hb.size))) (fun hHeld => ?_)
        clear hHeld
        clear hK K
        try simp only [Act.put, List.setIfInBounds_toArray, List.set_cons_zero, List.set_cons_succ]
        refine Ord.walk_tail ?_; simp only [List.drop_succ_cons, List.drop_zero]
        have hs0 := hb.size
        have ON : ((w1.alloc (.cells #[.int .i64 k1, .int .i64 k2] 37)).drew).ownsRow w.heap.size 37 2 (.slice (some ⟨w1.heap.size, 0, none⟩) 1 1) 1 [.int .i64 k1, .int .i64 k2] :=
          (World.ownsRow_lit w1 #[.int .i64 k1, .int .i64 k2] 1 hs0 (by decide) rfl).drew
        have RD : Reads ((w1.alloc (.cells #[.int .i64 k1, .int .i64 k2] 37)).drew) w1.heap.size 2 A ch.length ((ch.map Wr.cells).flatten) := ((Reads.of_own O1.out).alloc (Nat.le_refl _) _).drew
        go_wp2_with (at_builtin; refine wpList_append_any _ rfl _ _ 30 rfl w.heap.size 37 i0 (.agg #[.int .i64 0, .int .i64 0]) 2 16 Tryd.underlying30 hi hz0 hz1 hz2 rfl (by decide) _ 1 _ rfl ON w1.heap.size _ _ _ _ rfl RD (wr_one _) (by unfold maxLen; omega) (by omega) (by simp; omega) ?_)
        intro v' w2 hown' hgrow hblk
        have HB2 : Hid (Below w.heap.size w w2) := Aid.hid ((hb.alloc hb.size _).drew.grown hgrow (by simp; omega) (fun q hq => by cases hq; exact hs0))
        have HB3 : Below w1.heap.size w1 w2 := ((Below.refl _ _).alloc (Nat.le_refl _) _).drew.grown hgrow (by simp) (fun q hq => by cases hq; exact Nat.le_refl _)
        obtain ⟨g, cap', rfl, _, _⟩ := hown'.form (by omega)
        have O3 : Hid (w2.ownsRow w.heap.size 37 2 (.slice (some ⟨g, 0, none⟩) (((k1, k2) :: ch).length) cap') (((k1, k2) :: ch).length) ((((k1, k2) :: ch).map Wr.cells).flatten)) := Aid.hid (by rw [show ((k1, k2) :: ch).length = 1 + ch.length by simp; omega]; exact hown')
        have HA2 := Aid.hid (HA1.out.below HB3)
        have c2 := (HB2.out.cell (p := ⟨lb, lo + k * 3 + 2, none⟩) hlb).trans L2.out
        have CE : Hid (((.own eb k1 k2 Er.nil) : Er).chain = (k1, k2) :: ch) := Aid.hid (congrArg ((k1, k2) :: ·) HCH.out)
        have SV : Hid (Value.slice (some ⟨g, 0, none⟩) (1 + ch.length) cap' = .slice (some ⟨g, 0, none⟩) (((k1, k2) :: ch).length) cap') := Aid.hid (by rw [show ((k1, k2) :: ch).length = 1 + ch.length by simp; omega])
        clear ON RD hown' hgrow hblk HB3 hb hs0 O1 HA1 HB1
        cases oth
        · go_wp2_with fail
          go_roundw
          case rel => exact ⟨k + 1, (.own eb k1 k2 Er.nil), some ⟨g, 0, none⟩, cap', (k1, k2) :: ch, by go_num, by omega, rfl, SV.out, HA2, O3, CE, ⟨Aid.hid (by have := HCK.out; simp; omega), by have := HCK.out; simp; omega⟩, Aid.hid (by simp), HB2⟩
          case measure => simp [intOf]; omega
        · go_wp2_with fail
          go_roundw
          case rel => exact ⟨k + 1, .other (.own eb k1 k2 Er.nil), some ⟨g, 0, none⟩, cap', (k1, k2) :: ch, by go_num, by omega, rfl, SV.out, HA2, O3, CE, ⟨Aid.hid (by have := HCK.out; simp; omega), by have := HCK.out; simp; omega⟩, Aid.hid (by simp), HB2⟩
          case measure => simp [intOf]; omega
      | own b0 c0 a0 s0 =>
        dsimp only [Er.v]
        go_wp2_with fail
        refine Ord.wp_region_walk (fun w' => Below w.heap.size w w') 12 [(true, 0), (true, 1), (true, 2), (true, 3), (true, 4), (true, 5), (true, 6), (true, 7), (true, 8), (true, 9), (true, 10), (false, 11)] (by kernel_rfl) (by kernel_rfl) (fun _ _ d _ _ h => by cases d <;> exact h) (hb.drew) ?_
        apply Ord.walk_light
        next => (simp only [List.getElem?_toArray, List.getElem?_cons_zero]; rfl)
        next => rfl
        next => (intro w' hSw; clear hSw; go_simp; first | done | with_reducible rfl)
        simp only [Act.put, List.setIfInBounds_toArray, List.set_cons_zero, List.set_cons_succ]
        apply Ord.walk_light
        next => (simp only [List.getElem?_toArray, List.getElem?_cons_succ, List.getElem?_cons_zero]; rfl)
        next => rfl
        next => (intro w' hSw; clear hSw; go_simp; first | done | with_reducible rfl)
        simp only [Act.put, List.setIfInBounds_toArray, List.set_cons_zero, List.set_cons_succ]
        apply Ord.walk_light
        next => (simp only [List.getElem?_toArray, List.getElem?_cons_succ, List.getElem?_cons_zero]; rfl)
        next => rfl
        next => (intro w' hSw; clear hSw; go_simp; first | done | with_reducible rfl)
        simp only [Act.put, List.setIfInBounds_toArray, List.set_cons_zero, List.set_cons_succ]
        apply Ord.walk_light
        next => (simp only [List.getElem?_toArray, List.getElem?_cons_succ, List.getElem?_cons_zero]; rfl)
        next => rfl
        next => (intro w' hSw; clear hSw; go_simp; first | done | with_reducible rfl)
        simp only [Act.put, List.setIfInBounds_toArray, List.set_cons_zero, List.set_cons_succ]
        apply Ord.walk_light
        next => (simp only [List.getElem?_toArray, List.getElem?_cons_succ, List.getElem?_cons_zero]; rfl)
        next => rfl
        next => (intro w' hSw; clear hSw; go_simp; first | done | with_reducible rfl)
        simp only [Act.put, List.setIfInBounds_toArray, List.set_cons_zero, List.set_cons_succ]
        apply Ord.walk_light
        next => (simp only [List.getElem?_toArray, List.getElem?_cons_succ, List.getElem?_cons_zero]; rfl)
        next => rfl
        next => (intro w' hSw; have g0 := (hSw.cell (p := ⟨lb, lo + k * 3, none⟩) hlb).trans L0.out; have g1 := (hSw.cell (p := ⟨lb, lo + k * 3 + 1, none⟩) hlb).trans L1.out; go_simp; first | done | with_reducible rfl)
        simp only [Act.put, List.setIfInBounds_toArray, List.set_cons_zero, List.set_cons_succ]
        apply Ord.walk_light
        next => (simp only [List.getElem?_toArray, List.getElem?_cons_succ, List.getElem?_cons_zero]; rfl)
        next => rfl
        next => (intro w' hSw; clear hSw; go_simp; first | done | with_reducible rfl)
        simp only [Act.put, List.setIfInBounds_toArray, List.set_cons_zero, List.set_cons_succ]
        apply Ord.walk_light
        next => (simp only [List.getElem?_toArray, List.getElem?_cons_succ, List.getElem?_cons_zero]; rfl)
        next => rfl
        next => (intro w' hSw; clear hSw; go_simp; first | done | with_reducible rfl)
        simp only [Act.put, List.setIfInBounds_toArray, List.set_cons_zero, List.set_cons_succ]
        apply Ord.walk_light
        next => (simp only [List.getElem?_toArray, List.getElem?_cons_succ, List.getElem?_cons_zero]; rfl)
        next => rfl
        next => (intro w' hSw; clear hSw; go_simp; first | done | with_reducible rfl)
        simp only [Act.put, List.setIfInBounds_toArray, List.set_cons_zero, List.set_cons_succ]
        apply Ord.walk_light
        next => (simp only [List.getElem?_toArray, List.getElem?_cons_succ, List.getElem?_cons_zero]; rfl)
        next => rfl
        next => (intro w' hSw; clear hSw; go_simp; first | done | with_reducible rfl)
        simp only [Act.put, List.setIfInBounds_toArray, List.set_cons_zero, List.set_cons_succ]
        apply Ord.walk_light
        next => (simp only [List.getElem?_toArray, List.getElem?_cons_succ, List.getElem?_cons_zero]; rfl)
        next => rfl
        next => (intro w' hSw; have g0 := (hSw.cell (p := ⟨lb, lo + k * 3, none⟩) hlb).trans L0.out; have g1 := (hSw.cell (p := ⟨lb, lo + k * 3 + 1, none⟩) hlb).trans L1.out; go_simp; first | done | with_reducible rfl)
        simp only [Act.put, List.setIfInBounds_toArray, List.set_cons_zero, List.set_cons_succ]
        apply Ord.walk_heavy
        next => (simp only [List.getElem?_toArray, List.getElem?_cons_succ, List.getElem?_cons_zero]; rfl)
        next => rfl
        intro K hK
        go_wp2_with fail
        refine (wrap_er (Er.own b0 c0 a0 s0) (by simp) k1 k2 _ (HA.out.below (below_drewN (Below.refl _ _) 1))).mono ?_; rintro x w1 ⟨eb, rfl, _, hE, hx⟩; dsimp only
        refine hK.out _ _ (hb.drew.trans (hx.mono hb.size)) (fun hHeld => ?_)
        clear hHeld
        clear hK K
        try simp only [Act.put, List.setIfInBounds_toArray, List.set_cons_zero, List.set_cons_succ]
        refine Ord.walk_tail ?_; simp only [List.drop_succ_cons, List.drop_zero]
        have HA1 : Hid ((Er.own eb k1 k2 (Er.own b0 c0 a0 s0)).At w1) := Aid.hid hE
        have HB1 := Aid.hid (hb.drew.trans (hx.mono hb.size))
        have O1 : Hid (w1.ownsRow w.heap.size 37 2 (.slice A ch.length c) ch.length ((ch.map Wr.cells).flatten)) := Aid.hid (own_keeps (O.out.drew) hx)
        clear hE hx hb O HA HB
        have hb := HB1.out
        go_wp2_with fail
        refine Ord.wp_region_walk (fun w' => Below w.heap.size w w') 13 [(true, 0), (true, 1), (true, 2), (true, 3), (true, 4), (true, 5), (true, 6), (true, 7), (true, 8), (true, 9), (true, 10), (true, 12), (false, 11)] (by kernel_rfl) (by kernel_rfl) (fun _ _ d _ _ h => by cases d <;> exact h) (hb.drew) ?_
        apply Ord.walk_light
        next => (simp only [List.getElem?_toArray, List.getElem?_cons_zero]; rfl)
        next => rfl
        next => (intro w' hSw; clear hSw; go_simp; first | done | with_reducible rfl)
        simp only [Act.put, List.setIfInBounds_toArray, List.set_cons_zero, List.set_cons_succ]
        apply Ord.walk_light
        next => (simp only [List.getElem?_toArray, List.getElem?_cons_succ, List.getElem?_cons_zero]; rfl)
        next => rfl
        next => (intro w' hSw; clear hSw; go_simp; first | done | with_reducible rfl)
        simp only [Act.put, List.setIfInBounds_toArray, List.set_cons_zero, List.set_cons_succ]
        apply Ord.walk_light
        next => (simp only [List.getElem?_toArray, List.getElem?_cons_succ, List.getElem?_cons_zero]; rfl)
        next => rfl
        next => (intro w' hSw; clear hSw; go_simp; first | done | with_reducible rfl)
        simp only [Act.put, List.setIfInBounds_toArray, List.set_cons_zero, List.set_cons_succ]
        apply Ord.walk_light
        next => (simp only [List.getElem?_toArray, List.getElem?_cons_succ, List.getElem?_cons_zero]; rfl)
        next => rfl
        next => (intro w' hSw; clear hSw; go_simp; first | done | with_reducible rfl)
        simp only [Act.put, List.setIfInBounds_toArray, List.set_cons_zero, List.set_cons_succ]
        apply Ord.walk_light
        next => (simp only [List.getElem?_toArray, List.getElem?_cons_succ, List.getElem?_cons_zero]; rfl)
        next => rfl
        next => (intro w' hSw; have g0 := (hSw.cell (p := ⟨lb, lo + k * 3, none⟩) hlb).trans L0.out; have g1 := (hSw.cell (p := ⟨lb, lo + k * 3 + 1, none⟩) hlb).trans L1.out; go_simp; first | done | with_reducible rfl)
        simp only [Act.put, List.setIfInBounds_toArray, List.set_cons_zero, List.set_cons_succ]
        apply Ord.walk_light
        next => (simp only [List.getElem?_toArray, List.getElem?_cons_succ, List.getElem?_cons_zero]; rfl)
        next => rfl
        next => (intro w' hSw; clear hSw; go_simp; first | done | with_reducible rfl)
        simp only [Act.put, List.setIfInBounds_toArray, List.set_cons_zero, List.set_cons_succ]
        apply Ord.walk_light
        next => (simp only [List.getElem?_toArray, List.getElem?_cons_succ, List.getElem?_cons_zero]; rfl)
        next => rfl
        next => (intro w' hSw; clear hSw; go_simp; first | done | with_reducible rfl)
        simp only [Act.put, List.setIfInBounds_toArray, List.set_cons_zero, List.set_cons_succ]
        apply Ord.walk_light
        next => (simp only [List.getElem?_toArray, List.getElem?_cons_succ, List.getElem?_cons_zero]; rfl)
        next => rfl
        next => (intro w' hSw; clear hSw; go_simp; first | done | with_reducible rfl)
        simp only [Act.put, List.setIfInBounds_toArray, List.set_cons_zero, List.set_cons_succ]
        apply Ord.walk_light
        next => (simp only [List.getElem?_toArray, List.getElem?_cons_succ, List.getElem?_cons_zero]; rfl)
        next => rfl
        next => (intro w' hSw; clear hSw; go_simp; first | done | with_reducible rfl)
        simp only [Act.put, List.setIfInBounds_toArray, List.set_cons_zero, List.set_cons_succ]
        apply Ord.walk_light
        next => (simp only [List.getElem?_toArray, List.getElem?_cons_succ, List.getElem?_cons_zero]; rfl)
        next => rfl
        next => (intro w' hSw; have g0 := (hSw.cell (p := ⟨lb, lo + k * 3, none⟩) hlb).trans L0.out; have g1 := (hSw.cell (p := ⟨lb, lo + k * 3 + 1, none⟩) hlb).trans L1.out; go_simp; first | done | with_reducible rfl)
        simp only [Act.put, List.setIfInBounds_toArray, List.set_cons_zero, List.set_cons_succ]
        apply Ord.walk_light
        next => (simp only [List.getElem?_toArray, List.getElem?_cons_succ, List.getElem?_cons_zero]; rfl)
        next => rfl
        next => (intro w' hSw; clear hSw; go_simp; first | done | with_reducible rfl)
        simp only [Act.put, List.setIfInBounds_toArray, List.set_cons_zero, List.set_cons_succ]
        apply Ord.walk_light
        next => (simp only [List.getElem?_toArray, List.getElem?_cons_succ, List.getElem?_cons_zero]; rfl)
        next => rfl
        next => (intro w' hSw; clear hSw; go_simp; first | done | with_reducible rfl)
        simp only [Act.put, List.setIfInBounds_toArray, List.set_cons_zero, List.set_cons_succ]
        apply Ord.walk_heavy
        next => (simp only [List.getElem?_toArray, List.getElem?_cons_succ, List.getElem?_cons_zero]; rfl)
        next => rfl
        intro K hK
        go_wp2_with fail
        refine hK.out _ _ (by repeat' (first | exact hb | refine Below.drew ?_ | refine Below.alloc ?_ ?_ _ | exact hb.size | (simp; exact hb.size))) (fun hHeld => ?_)
        clear hHeld
        clear hK K
        try simp only [Act.put, List.setIfInBounds_toArray, List.set_cons_zero, List.set_cons_succ]
        refine Ord.walk_tail ?_; simp only [List.drop_succ_cons, List.drop_zero]
        have hs0 := hb.size
        have ON : ((w1.alloc (.cells #[.int .i64 k1, .int .i64 k2] 37)).drew).ownsRow w.heap.size 37 2 (.slice (some ⟨w1.heap.size, 0, none⟩) 1 1) 1 [.int .i64 k1, .int .i64 k2] :=
          (World.ownsRow_lit w1 #[.int .i64 k1, .int .i64 k2] 1 hs0 (by decide) rfl).drew
        have RD : Reads ((w1.alloc (.cells #[.int .i64 k1, .int .i64 k2] 37)).drew) w1.heap.size 2 A ch.length ((ch.map Wr.cells).flatten) := ((Reads.of_own O1.out).alloc (Nat.le_refl _) _).drew
        go_wp2_with (at_builtin; refine wpList_append_any _ rfl _ _ 30 rfl w.heap.size 37 i0 (.agg #[.int .i64 0, .int .i64 0]) 2 16 Tryd.underlying30 hi hz0 hz1 hz2 rfl (by decide) _ 1 _ rfl ON w1.heap.size _ _ _ _ rfl RD (wr_one _) (by unfold maxLen; omega) (by omega) (by simp; omega) ?_)
        intro v' w2 hown' hgrow hblk
        have HB2 : Hid (Below w.heap.size w w2) := Aid.hid ((hb.alloc hb.size _).drew.grown hgrow (by simp; omega) (fun q hq => by cases hq; exact hs0))
        have HB3 : Below w1.heap.size w1 w2 := ((Below.refl _ _).alloc (Nat.le_refl _) _).drew.grown hgrow (by simp) (fun q hq => by cases hq; exact Nat.le_refl _)
        obtain ⟨g, cap', rfl, _, _⟩ := hown'.form (by omega)
        have O3 : Hid (w2.ownsRow w.heap.size 37 2 (.slice (some ⟨g, 0, none⟩) (((k1, k2) :: ch).length) cap') (((k1, k2) :: ch).length) ((((k1, k2) :: ch).map Wr.cells).flatten)) := Aid.hid (by rw [show ((k1, k2) :: ch).length = 1 + ch.length by simp; omega]; exact hown')
        have HA2 := Aid.hid (HA1.out.below HB3)
        have c2 := (HB2.out.cell (p := ⟨lb, lo + k * 3 + 2, none⟩) hlb).trans L2.out
        have CE : Hid (((.own eb k1 k2 (Er.own b0 c0 a0 s0)) : Er).chain = (k1, k2) :: ch) := Aid.hid (congrArg ((k1, k2) :: ·) HCH.out)
        have SV : Hid (Value.slice (some ⟨g, 0, none⟩) (1 + ch.length) cap' = .slice (some ⟨g, 0, none⟩) (((k1, k2) :: ch).length) cap') := Aid.hid (by rw [show ((k1, k2) :: ch).length = 1 + ch.length by simp; omega])
        clear ON RD hown' hgrow hblk HB3 hb hs0 O1 HA1 HB1
        cases oth
        · go_wp2_with fail
          go_roundw
          case rel => exact ⟨k + 1, (.own eb k1 k2 (Er.own b0 c0 a0 s0)), some ⟨g, 0, none⟩, cap', (k1, k2) :: ch, by go_num, by omega, rfl, SV.out, HA2, O3, CE, ⟨Aid.hid (by have := HCK.out; simp; omega), by have := HCK.out; simp; omega⟩, Aid.hid (by simp), HB2⟩
          case measure => simp [intOf]; omega
        · go_wp2_with fail
          go_roundw
          case rel => exact ⟨k + 1, .other (.own eb k1 k2 (Er.own b0 c0 a0 s0)), some ⟨g, 0, none⟩, cap', (k1, k2) :: ch, by go_num, by omega, rfl, SV.out, HA2, O3, CE, ⟨Aid.hid (by have := HCK.out; simp; omega), by have := HCK.out; simp; omega⟩, Aid.hid (by simp), HB2⟩
          case measure => simp [intOf]; omega
      | other s0 =>
        dsimp only [Er.v]
        go_wp2_with fail
        refine Ord.wp_region_walk (fun w' => Below w.heap.size w w') 12 [(true, 0), (true, 1), (true, 2), (true, 3), (true, 4), (true, 5), (true, 6), (true, 7), (true, 8), (true, 9), (true, 10), (false, 11)] (by kernel_rfl) (by kernel_rfl) (fun _ _ d _ _ h => by cases d <;> exact h) (hb.drew) ?_
        apply Ord.walk_light
        next => (simp only [List.getElem?_toArray, List.getElem?_cons_zero]; rfl)
        next => rfl
        next => (intro w' hSw; clear hSw; go_simp; first | done | with_reducible rfl)
        simp only [Act.put, List.setIfInBounds_toArray, List.set_cons_zero, List.set_cons_succ]
        apply Ord.walk_light
        next => (simp only [List.getElem?_toArray, List.getElem?_cons_succ, List.getElem?_cons_zero]; rfl)
        next => rfl
        next => (intro w' hSw; clear hSw; go_simp; first | done | with_reducible rfl)
        simp only [Act.put, List.setIfInBounds_toArray, List.set_cons_zero, List.set_cons_succ]
        apply Ord.walk_light
        next => (simp only [List.getElem?_toArray, List.getElem?_cons_succ, List.getElem?_cons_zero]; rfl)
        next => rfl
        next => (intro w' hSw; clear hSw; go_simp; first | done | with_reducible rfl)
        simp only [Act.put, List.setIfInBounds_toArray, List.set_cons_zero, List.set_cons_succ]
        apply Ord.walk_light
        next => (simp only [List.getElem?_toArray, List.getElem?_cons_succ, List.getElem?_cons_zero]; rfl)
        next => rfl
        next => (intro w' hSw; clear hSw; go_simp; first | done | with_reducible rfl)
        simp only [Act.put, List.setIfInBounds_toArray, List.set_cons_zero, List.set_cons_succ]
        apply Ord.walk_light
        next => (simp only [List.getElem?_toArray, List.getElem?_cons_succ, List.getElem?_cons_zero]; rfl)
        next => rfl
        next => (intro w' hSw; clear hSw; go_simp; first | done | with_reducible rfl)
        simp only [Act.put, List.setIfInBounds_toArray, List.set_cons_zero, List.set_cons_succ]
        apply Ord.walk_light
        next => (simp only [List.getElem?_toArray, List.getElem?_cons_succ, List.getElem?_cons_zero]; rfl)
        next => rfl
        next => (intro w' hSw; have g0 := (hSw.cell (p := ⟨lb, lo + k * 3, none⟩) hlb).trans L0.out; have g1 := (hSw.cell (p := ⟨lb, lo + k * 3 + 1, none⟩) hlb).trans L1.out; go_simp; first | done | with_reducible rfl)
        simp only [Act.put, List.setIfInBounds_toArray, List.set_cons_zero, List.set_cons_succ]
        apply Ord.walk_light
        next => (simp only [List.getElem?_toArray, List.getElem?_cons_succ, List.getElem?_cons_zero]; rfl)
        next => rfl
        next => (intro w' hSw; clear hSw; go_simp; first | done | with_reducible rfl)
        simp only [Act.put, List.setIfInBounds_toArray, List.set_cons_zero, List.set_cons_succ]
        apply Ord.walk_light
        next => (simp only [List.getElem?_toArray, List.getElem?_cons_succ, List.getElem?_cons_zero]; rfl)
        next => rfl
        next => (intro w' hSw; clear hSw; go_simp; first | done | with_reducible rfl)
        simp only [Act.put, List.setIfInBounds_toArray, List.set_cons_zero, List.set_cons_succ]
        apply Ord.walk_light
        next => (simp only [List.getElem?_toArray, List.getElem?_cons_succ, List.getElem?_cons_zero]; rfl)
        next => rfl
        next => (intro w' hSw; clear hSw; go_simp; first | done | with_reducible rfl)
        simp only [Act.put, List.setIfInBounds_toArray, List.set_cons_zero, List.set_cons_succ]
        apply Ord.walk_light
        next => (simp only [List.getElem?_toArray, List.getElem?_cons_succ, List.getElem?_cons_zero]; rfl)
        next => rfl
        next => (intro w' hSw; clear hSw; go_simp; first | done | with_reducible rfl)
        simp only [Act.put, List.setIfInBounds_toArray, List.set_cons_zero, List.set_cons_succ]
        apply Ord.walk_light
        next => (simp only [List.getElem?_toArray, List.getElem?_cons_succ, List.getElem?_cons_zero]; rfl)
        next => rfl
        next => (intro w' hSw; have g0 := (hSw.cell (p := ⟨lb, lo + k * 3, none⟩) hlb).trans L0.out; have g1 := (hSw.cell (p := ⟨lb, lo + k * 3 + 1, none⟩) hlb).trans L1.out; go_simp; first | done | with_reducible rfl)
        simp only [Act.put, List.setIfInBounds_toArray, List.set_cons_zero, List.set_cons_succ]
        apply Ord.walk_heavy
        next => (simp only [List.getElem?_toArray, List.getElem?_cons_succ, List.getElem?_cons_zero]; rfl)
        next => rfl
        intro K hK
        go_wp2_with fail
        refine (wrap_er (Er.other s0) (by simp) k1 k2 _ (HA.out.below (below_drewN (Below.refl _ _) 1))).mono ?_; rintro x w1 ⟨eb, rfl, _, hE, hx⟩; dsimp only
        refine hK.out _ _ (hb.drew.trans (hx.mono hb.size)) (fun hHeld => ?_)
        clear hHeld
        clear hK K
        try simp only [Act.put, List.setIfInBounds_toArray, List.set_cons_zero, List.set_cons_succ]
        refine Ord.walk_tail ?_; simp only [List.drop_succ_cons, List.drop_zero]
        have HA1 : Hid ((Er.own eb k1 k2 (Er.other s0)).At w1) := Aid.hid hE
        have HB1 := Aid.hid (hb.drew.trans (hx.mono hb.size))
        have O1 : Hid (w1.ownsRow w.heap.size 37 2 (.slice A ch.length c) ch.length ((ch.map Wr.cells).flatten)) := Aid.hid (own_keeps (O.out.drew) hx)
        clear hE hx hb O HA HB
        have hb := HB1.out
        go_wp2_with fail
        refine Ord.wp_region_walk (fun w' => Below w.heap.size w w') 13 [(true, 0), (true, 1), (true, 2), (true, 3), (true, 4), (true, 5), (true, 6), (true, 7), (true, 8), (true, 9), (true, 10), (true, 12), (false, 11)] (by kernel_rfl) (by kernel_rfl) (fun _ _ d _ _ h => by cases d <;> exact h) (hb.drew) ?_
        apply Ord.walk_light
        next => (simp only [List.getElem?_toArray, List.getElem?_cons_zero]; rfl)
        next => rfl
        next => (intro w' hSw; clear hSw; go_simp; first | done | with_reducible rfl)
        simp only [Act.put, List.setIfInBounds_toArray, List.set_cons_zero, List.set_cons_succ]
        apply Ord.walk_light
        next => (simp only [List.getElem?_toArray, List.getElem?_cons_succ, List.getElem?_cons_zero]; rfl)
        next => rfl
        next => (intro w' hSw; clear hSw; go_simp; first | done | with_reducible rfl)
        simp only [Act.put, List.setIfInBounds_toArray, List.set_cons_zero, List.set_cons_succ]
        apply Ord.walk_light
        next => (simp only [List.getElem?_toArray, List.getElem?_cons_succ, List.getElem?_cons_zero]; rfl)
        next => rfl
        next => (intro w' hSw; clear hSw; go_simp; first | done | with_reducible rfl)
        simp only [Act.put, List.setIfInBounds_toArray, List.set_cons_zero, List.set_cons_succ]
        apply Ord.walk_light
        next => (simp only [List.getElem?_toArray, List.getElem?_cons_succ, List.getElem?_cons_zero]; rfl)
        next => rfl
        next => (intro w' hSw; clear hSw; go_simp; first | done | with_reducible rfl)
        simp only [Act.put, List.setIfInBounds_toArray, List.set_cons_zero, List.set_cons_succ]
        apply Ord.walk_light
        next => (simp only [List.getElem?_toArray, List.getElem?_cons_succ, List.getElem?_cons_zero]; rfl)
        next => rfl
        next => (intro w' hSw; have g0 := (hSw.cell (p := ⟨lb, lo + k * 3, none⟩) hlb).trans L0.out; have g1 := (hSw.cell (p := ⟨lb, lo + k * 3 + 1, none⟩) hlb).trans L1.out; go_simp; first | done | with_reducible rfl)
        simp only [Act.put, List.setIfInBounds_toArray, List.set_cons_zero, List.set_cons_succ]
        apply Ord.walk_light
        next => (simp only [List.getElem?_toArray, List.getElem?_cons_succ, List.getElem?_cons_zero]; rfl)
        next => rfl
        next => (intro w' hSw; clear hSw; go_simp; first | done | with_reducible rfl)
        simp only [Act.put, List.setIfInBounds_toArray, List.set_cons_zero, List.set_cons_succ]
        apply Ord.walk_light
        next => (simp only [List.getElem?_toArray, List.getElem?_cons_succ, List.getElem?_cons_zero]; rfl)
        next => rfl
        next => (intro w' hSw; clear hSw; go_simp; first | done | with_reducible rfl)
        simp only [Act.put, List.setIfInBounds_toArray, List.set_cons_zero, List.set_cons_succ]
        apply Ord.walk_light
        next => (simp only [List.getElem?_toArray, List.getElem?_cons_succ, List.getElem?_cons_zero]; rfl)
        next => rfl
        next => (intro w' hSw; clear hSw; go_simp; first | done | with_reducible rfl)
        simp only [Act.put, List.setIfInBounds_toArray, List.set_cons_zero, List.set_cons_succ]
        apply Ord.walk_light
        next => (simp only [List.getElem?_toArray, List.getElem?_cons_succ, List.getElem?_cons_zero]; rfl)
        next => rfl
        next => (intro w' hSw; clear hSw; go_simp; first | done | with_reducible rfl)
        simp only [Act.put, List.setIfInBounds_toArray, List.set_cons_zero, List.set_cons_succ]
        apply Ord.walk_light
        next => (simp only [List.getElem?_toArray, List.getElem?_cons_succ, List.getElem?_cons_zero]; rfl)
        next => rfl
        next => (intro w' hSw; have g0 := (hSw.cell (p := ⟨lb, lo + k * 3, none⟩) hlb).trans L0.out; have g1 := (hSw.cell (p := ⟨lb, lo + k * 3 + 1, none⟩) hlb).trans L1.out; go_simp; first | done | with_reducible rfl)
        simp only [Act.put, List.setIfInBounds_toArray, List.set_cons_zero, List.set_cons_succ]
        apply Ord.walk_light
        next => (simp only [List.getElem?_toArray, List.getElem?_cons_succ, List.getElem?_cons_zero]; rfl)
        next => rfl
        next => (intro w' hSw; clear hSw; go_simp; first | done | with_reducible rfl)
        simp only [Act.put, List.setIfInBounds_toArray, List.set_cons_zero, List.set_cons_succ]
        apply Ord.walk_light
        next => (simp only [List.getElem?_toArray, List.getElem?_cons_succ, List.getElem?_cons_zero]; rfl)
        next => rfl
        next => (intro w' hSw; clear hSw; go_simp; first | done | with_reducible rfl)
        simp only [Act.put, List.setIfInBounds_toArray, List.set_cons_zero, List.set_cons_succ]
        apply Ord.walk_heavy
        next => (simp only [List.getElem?_toArray, List.getElem?_cons_succ, List.getElem?_cons_zero]; rfl)
        next => rfl
        intro K hK
        go_wp2_with fail
        refine hK.out _ _ (by repeat' (first | exact hb | refine Below.drew ?_ | refine Below.alloc ?_ ?_ _ | exact hb.size | (simp; exact hb.size))) (fun hHeld => ?_)
        clear hHeld
        clear hK K
        try simp only [Act.put, List.setIfInBounds_toArray, List.set_cons_zero, List.set_cons_succ]
        refine Ord.walk_tail ?_; simp only [List.drop_succ_cons, List.drop_zero]
        have hs0 := hb.size
        have ON : ((w1.alloc (.cells #[.int .i64 k1, .int .i64 k2] 37)).drew).ownsRow w.heap.size 37 2 (.slice (some ⟨w1.heap.size, 0, none⟩) 1 1) 1 [.int .i64 k1, .int .i64 k2] :=
          (World.ownsRow_lit w1 #[.int .i64 k1, .int .i64 k2] 1 hs0 (by decide) rfl).drew
        have RD : Reads ((w1.alloc (.cells #[.int .i64 k1, .int .i64 k2] 37)).drew) w1.heap.size 2 A ch.length ((ch.map Wr.cells).flatten) := ((Reads.of_own O1.out).alloc (Nat.le_refl _) _).drew
        go_wp2_with (at_builtin; refine wpList_append_any _ rfl _ _ 30 rfl w.heap.size 37 i0 (.agg #[.int .i64 0, .int .i64 0]) 2 16 Tryd.underlying30 hi hz0 hz1 hz2 rfl (by decide) _ 1 _ rfl ON w1.heap.size _ _ _ _ rfl RD (wr_one _) (by unfold maxLen; omega) (by omega) (by simp; omega) ?_)
        intro v' w2 hown' hgrow hblk
        have HB2 : Hid (Below w.heap.size w w2) := Aid.hid ((hb.alloc hb.size _).drew.grown hgrow (by simp; omega) (fun q hq => by cases hq; exact hs0))
        have HB3 : Below w1.heap.size w1 w2 := ((Below.refl _ _).alloc (Nat.le_refl _) _).drew.grown hgrow (by simp) (fun q hq => by cases hq; exact Nat.le_refl _)
        obtain ⟨g, cap', rfl, _, _⟩ := hown'.form (by omega)
        have O3 : Hid (w2.ownsRow w.heap.size 37 2 (.slice (some ⟨g, 0, none⟩) (((k1, k2) :: ch).length) cap') (((k1, k2) :: ch).length) ((((k1, k2) :: ch).map Wr.cells).flatten)) := Aid.hid (by rw [show ((k1, k2) :: ch).length = 1 + ch.length by simp; omega]; exact hown')
        have HA2 := Aid.hid (HA1.out.below HB3)
        have c2 := (HB2.out.cell (p := ⟨lb, lo + k * 3 + 2, none⟩) hlb).trans L2.out
        have CE : Hid (((.own eb k1 k2 (Er.other s0)) : Er).chain = (k1, k2) :: ch) := Aid.hid (congrArg ((k1, k2) :: ·) HCH.out)
        have SV : Hid (Value.slice (some ⟨g, 0, none⟩) (1 + ch.length) cap' = .slice (some ⟨g, 0, none⟩) (((k1, k2) :: ch).length) cap') := Aid.hid (by rw [show ((k1, k2) :: ch).length = 1 + ch.length by simp; omega])
        clear ON RD hown' hgrow hblk HB3 hb hs0 O1 HA1 HB1
        cases oth
        · go_wp2_with fail
          go_roundw
          case rel => exact ⟨k + 1, (.own eb k1 k2 (Er.other s0)), some ⟨g, 0, none⟩, cap', (k1, k2) :: ch, by go_num, by omega, rfl, SV.out, HA2, O3, CE, ⟨Aid.hid (by have := HCK.out; simp; omega), by have := HCK.out; simp; omega⟩, Aid.hid (by simp), HB2⟩
          case measure => simp [intOf]; omega
        · go_wp2_with fail
          go_roundw
          case rel => exact ⟨k + 1, .other (.own eb k1 k2 (Er.other s0)), some ⟨g, 0, none⟩, cap', (k1, k2) :: ch, by go_num, by omega, rfl, SV.out, HA2, O3, CE, ⟨Aid.hid (by have := HCK.out; simp; omega), by have := HCK.out; simp; omega⟩, Aid.hid (by simp), HB2⟩
          case measure => simp [intOf]; omega
      | es b0 s0 =>
        dsimp only [Er.v]
        go_wp2_with fail
        refine Ord.wp_region_walk (fun w' => Below w.heap.size w w') 12 [(true, 0), (true, 1), (true, 2), (true, 3), (true, 4), (true, 5), (true, 6), (true, 7), (true, 8), (true, 9), (true, 10), (false, 11)] (by kernel_rfl) (by kernel_rfl) (fun _ _ d _ _ h => by cases d <;> exact h) (hb.drew) ?_
        apply Ord.walk_light
        next => (simp only [List.getElem?_toArray, List.getElem?_cons_zero]; rfl)
        next => rfl
        next => (intro w' hSw; clear hSw; go_simp; first | done | with_reducible rfl)
        simp only [Act.put, List.setIfInBounds_toArray, List.set_cons_zero, List.set_cons_succ]
        apply Ord.walk_light
        next => (simp only [List.getElem?_toArray, List.getElem?_cons_succ, List.getElem?_cons_zero]; rfl)
        next => rfl
        next => (intro w' hSw; clear hSw; go_simp; first | done | with_reducible rfl)
        simp only [Act.put, List.setIfInBounds_toArray, List.set_cons_zero, List.set_cons_succ]
        apply Ord.walk_light
        next => (simp only [List.getElem?_toArray, List.getElem?_cons_succ, List.getElem?_cons_zero]; rfl)
        next => rfl
        next => (intro w' hSw; clear hSw; go_simp; first | done | with_reducible rfl)
        simp only [Act.put, List.setIfInBounds_toArray, List.set_cons_zero, List.set_cons_succ]
        apply Ord.walk_light
        next => (simp only [List.getElem?_toArray, List.getElem?_cons_succ, List.getElem?_cons_zero]; rfl)
        next => rfl
        next => (intro w' hSw; clear hSw; go_simp; first | done | with_reducible rfl)
        simp only [Act.put, List.setIfInBounds_toArray, List.set_cons_zero, List.set_cons_succ]
        apply Ord.walk_light
        next => (simp only [List.getElem?_toArray, List.getElem?_cons_succ, List.getElem?_cons_zero]; rfl)
        next => rfl
        next => (intro w' hSw; clear hSw; go_simp; first | done | with_reducible rfl)
        simp only [Act.put, List.setIfInBounds_toArray, List.set_cons_zero, List.set_cons_succ]
        apply Ord.walk_light
        next => (simp only [List.getElem?_toArray, List.getElem?_cons_succ, List.getElem?_cons_zero]; rfl)
        next => rfl
        next => (intro w' hSw; have g0 := (hSw.cell (p := ⟨lb, lo + k * 3, none⟩) hlb).trans L0.out; have g1 := (hSw.cell (p := ⟨lb, lo + k * 3 + 1, none⟩) hlb).trans L1.out; go_simp; first | done | with_reducible rfl)
        simp only [Act.put, List.setIfInBounds_toArray, List.set_cons_zero, List.set_cons_succ]
        apply Ord.walk_light
        next => (simp only [List.getElem?_toArray, List.getElem?_cons_succ, List.getElem?_cons_zero]; rfl)
        next => rfl
        next => (intro w' hSw; clear hSw; go_simp; first | done | with_reducible rfl)
        simp only [Act.put, List.setIfInBounds_toArray, List.set_cons_zero, List.set_cons_succ]
        apply Ord.walk_light
        next => (simp only [List.getElem?_toArray, List.getElem?_cons_succ, List.getElem?_cons_zero]; rfl)
        next => rfl
        next => (intro w' hSw; clear hSw; go_simp; first | done | with_reducible rfl)
        simp only [Act.put, List.setIfInBounds_toArray, List.set_cons_zero, List.set_cons_succ]
        apply Ord.walk_light
        next => (simp only [List.getElem?_toArray, List.getElem?_cons_succ, List.getElem?_cons_zero]; rfl)
        next => rfl
        next => (intro w' hSw; clear hSw; go_simp; first | done | with_reducible rfl)
        simp only [Act.put, List.setIfInBounds_toArray, List.set_cons_zero, List.set_cons_succ]
        apply Ord.walk_light
        next => (simp only [List.getElem?_toArray, List.getElem?_cons_succ, List.getElem?_cons_zero]; rfl)
        next => rfl
        next => (intro w' hSw; clear hSw; go_simp; first | done | with_reducible rfl)
        simp only [Act.put, List.setIfInBounds_toArray, List.set_cons_zero, List.set_cons_succ]
        apply Ord.walk_light
        next => (simp only [List.getElem?_toArray, List.getElem?_cons_succ, List.getElem?_cons_zero]; rfl)
        next => rfl
        next => (intro w' hSw; have g0 := (hSw.cell (p := ⟨lb, lo + k * 3, none⟩) hlb).trans L0.out; have g1 := (hSw.cell (p := ⟨lb, lo + k * 3 + 1, none⟩) hlb).trans L1.out; go_simp; first | done | with_reducible rfl)
        simp only [Act.put, List.setIfInBounds_toArray, List.set_cons_zero, List.set_cons_succ]
        apply Ord.walk_heavy
        next => (simp only [List.getElem?_toArray, List.getElem?_cons_succ, List.getElem?_cons_zero]; rfl)
        next => rfl
        intro K hK
        go_wp2_with fail
        refine (wrap_er (Er.es b0 s0) (by simp) k1 k2 _ (HA.out.below (below_drewN (Below.refl _ _) 1))).mono ?_; rintro x w1 ⟨eb, rfl, _, hE, hx⟩; dsimp only
        refine hK.out _ _ (hb.drew.trans (hx.mono hb.size)) (fun hHeld => ?_)
        clear hHeld
        clear hK K
        try simp only [Act.put, List.setIfInBounds_toArray, List.set_cons_zero, List.set_cons_succ]
        refine Ord.walk_tail ?_; simp only [List.drop_succ_cons, List.drop_zero]
        have HA1 : Hid ((Er.own eb k1 k2 (Er.es b0 s0)).At w1) := Aid.hid hE
        have HB1 := Aid.hid (hb.drew.trans (hx.mono hb.size))
        have O1 : Hid (w1.ownsRow w.heap.size 37 2 (.slice A ch.length c) ch.length ((ch.map Wr.cells).flatten)) := Aid.hid (own_keeps (O.out.drew) hx)
        clear hE hx hb O HA HB
        have hb := HB1.out
        go_wp2_with fail
        refine Ord.wp_region_walk (fun w' => Below w.heap.size w w') 13 [(true, 0), (true, 1), (true, 2), (true, 3), (true, 4), (true, 5), (true, 6), (true, 7), (true, 8), (true, 9), (true, 10), (true, 12), (false, 11)] (by kernel_rfl) (by kernel_rfl) (fun _ _ d _ _ h => by cases d <;> exact h) (hb.drew) ?_
        apply Ord.walk_light
        next => (simp only [List.getElem?_toArray, List.getElem?_cons_zero]; rfl)
        next => rfl
        next => (intro w' hSw; clear hSw; go_simp; first | done | with_reducible rfl)
        simp only [Act.put, List.setIfInBounds_toArray, List.set_cons_zero, List.set_cons_succ]
        apply Ord.walk_light
        next => (simp only [List.getElem?_toArray, List.getElem?_cons_succ, List.getElem?_cons_zero]; rfl)
        next => rfl
        next => (intro w' hSw; clear hSw; go_simp; first | done | with_reducible rfl)
        simp only [Act.put, List.setIfInBounds_toArray, List.set_cons_zero, List.set_cons_succ]
        apply Ord.walk_light
        next => (simp only [List.getElem?_toArray, List.getElem?_cons_succ, List.getElem?_cons_zero]; rfl)
        next => rfl
        next => (intro w' hSw; clear hSw; go_simp; first | done | with_reducible rfl)
        simp only [Act.put, List.setIfInBounds_toArray, List.set_cons_zero, List.set_cons_succ]
        apply Ord.walk_light
        next => (simp only [List.getElem?_toArray, List.getElem?_cons_succ, List.getElem?_cons_zero]; rfl)
        next => rfl
        next => (intro w' hSw; clear hSw; go_simp; first | done | with_reducible rfl)
        simp only [Act.put, List.setIfInBounds_toArray, List.set_cons_zero, List.set_cons_succ]
        apply Ord.walk_light
        next => (simp only [List.getElem?_toArray, List.getElem?_cons_succ, List.getElem?_cons_zero]; rfl)
        next => rfl
        next => (intro w' hSw; have g0 := (hSw.cell (p := ⟨lb, lo + k * 3, none⟩) hlb).trans L0.out; have g1 := (hSw.cell (p := ⟨lb, lo + k * 3 + 1, none⟩) hlb).trans L1.out; go_simp; first | done | with_reducible rfl)
        simp only [Act.put, List.setIfInBounds_toArray, List.set_cons_zero, List.set_cons_succ]
        apply Ord.walk_light
        next => (simp only [List.getElem?_toArray, List.getElem?_cons_succ, List.getElem?_cons_zero]; rfl)
        next => rfl
        next => (intro w' hSw; clear hSw; go_simp; first | done | with_reducible rfl)
        simp only [Act.put, List.setIfInBounds_toArray, List.set_cons_zero, List.set_cons_succ]
        apply Ord.walk_light
        next => (simp only [List.getElem?_toArray, List.getElem?_cons_succ, List.getElem?_cons_zero]; rfl)
        next => rfl
        next => (intro w' hSw; clear hSw; go_simp; first | done | with_reducible rfl)
        simp only [Act.put, List.setIfInBounds_toArray, List.set_cons_zero, List.set_cons_succ]
        apply Ord.walk_light
        next => (simp only [List.getElem?_toArray, List.getElem?_cons_succ, List.getElem?_cons_zero]; rfl)
        next => rfl
        next => (intro w' hSw; clear hSw; go_simp; first | done | with_reducible rfl)
        simp only [Act.put, List.setIfInBounds_toArray, List.set_cons_zero, List.set_cons_succ]
        apply Ord.walk_light
        next => (simp only [List.getElem?_toArray, List.getElem?_cons_succ, List.getElem?_cons_zero]; rfl)
        next => rfl
        next => (intro w' hSw; clear hSw; go_simp; first | done | with_reducible rfl)
        simp only [Act.put, List.setIfInBounds_toArray, List.set_cons_zero, List.set_cons_succ]
        apply Ord.walk_light
        next => (simp only [List.getElem?_toArray, List.getElem?_cons_succ, List.getElem?_cons_zero]; rfl)
        next => rfl
        next => (intro w' hSw; have g0 := (hSw.cell (p := ⟨lb, lo + k * 3, none⟩) hlb).trans L0.out; have g1 := (hSw.cell (p := ⟨lb, lo + k * 3 + 1, none⟩) hlb).trans L1.out; go_simp; first | done | with_reducible rfl)
        simp only [Act.put, List.setIfInBounds_toArray, List.set_cons_zero, List.set_cons_succ]
        apply Ord.walk_light
        next => (simp only [List.getElem?_toArray, List.getElem?_cons_succ, List.getElem?_cons_zero]; rfl)
        next => rfl
        next => (intro w' hSw; clear hSw; go_simp; first | done | with_reducible rfl)
        simp only [Act.put, List.setIfInBounds_toArray, List.set_cons_zero, List.set_cons_succ]
        apply Ord.walk_light
        next => (simp only [List.getElem?_toArray, List.getElem?_cons_succ, List.getElem?_cons_zero]; rfl)
        next => rfl
        next => (intro w' hSw; clear hSw; go_simp; first | done | with_reducible rfl)
        simp only [Act.put, List.setIfInBounds_toArray, List.set_cons_zero, List.set_cons_succ]
        apply Ord.walk_heavy
        next => (simp only [List.getElem?_toArray, List.getElem?_cons_succ, List.getElem?_cons_zero]; rfl)
        next => rfl
        intro K hK
        go_wp2_with fail
        refine hK.out _ _ (by repeat' (first | exact hb | refine Below.drew ?_ | refine Below.alloc ?_ ?_ _ | exact hb.size | (simp; exact hb.size))) (fun hHeld => ?_)
        clear hHeld
        clear hK K
        try simp only [Act.put, List.setIfInBounds_toArray, List.set_cons_zero, List.set_cons_succ]
        refine Ord.walk_tail ?_; simp only [List.drop_succ_cons, List.drop_zero]
        have hs0 := hb.size
        have ON : ((w1.alloc (.cells #[.int .i64 k1, .int .i64 k2] 37)).drew).ownsRow w.heap.size 37 2 (.slice (some ⟨w1.heap.size, 0, none⟩) 1 1) 1 [.int .i64 k1, .int .i64 k2] :=
          (World.ownsRow_lit w1 #[.int .i64 k1, .int .i64 k2] 1 hs0 (by decide) rfl).drew
        have RD : Reads ((w1.alloc (.cells #[.int .i64 k1, .int .i64 k2] 37)).drew) w1.heap.size 2 A ch.length ((ch.map Wr.cells).flatten) := ((Reads.of_own O1.out).alloc (Nat.le_refl _) _).drew
        go_wp2_with (at_builtin; refine wpList_append_any _ rfl _ _ 30 rfl w.heap.size 37 i0 (.agg #[.int .i64 0, .int .i64 0]) 2 16 Tryd.underlying30 hi hz0 hz1 hz2 rfl (by decide) _ 1 _ rfl ON w1.heap.size _ _ _ _ rfl RD (wr_one _) (by unfold maxLen; omega) (by omega) (by simp; omega) ?_)
        intro v' w2 hown' hgrow hblk
        have HB2 : Hid (Below w.heap.size w w2) := Aid.hid ((hb.alloc hb.size _).drew.grown hgrow (by simp; omega) (fun q hq => by cases hq; exact hs0))
        have HB3 : Below w1.heap.size w1 w2 := ((Below.refl _ _).alloc (Nat.le_refl _) _).drew.grown hgrow (by simp) (fun q hq => by cases hq; exact Nat.le_refl _)
        obtain ⟨g, cap', rfl, _, _⟩ := hown'.form (by omega)
        have O3 : Hid (w2.ownsRow w.heap.size 37 2 (.slice (some ⟨g, 0, none⟩) (((k1, k2) :: ch).length) cap') (((k1, k2) :: ch).length) ((((k1, k2) :: ch).map Wr.cells).flatten)) := Aid.hid (by rw [show ((k1, k2) :: ch).length = 1 + ch.length by simp; omega]; exact hown')
        have HA2 := Aid.hid (HA1.out.below HB3)
        have c2 := (HB2.out.cell (p := ⟨lb, lo + k * 3 + 2, none⟩) hlb).trans L2.out
        have CE : Hid (((.own eb k1 k2 (Er.es b0 s0)) : Er).chain = (k1, k2) :: ch) := Aid.hid (congrArg ((k1, k2) :: ·) HCH.out)
        have SV : Hid (Value.slice (some ⟨g, 0, none⟩) (1 + ch.length) cap' = .slice (some ⟨g, 0, none⟩) (((k1, k2) :: ch).length) cap') := Aid.hid (by rw [show ((k1, k2) :: ch).length = 1 + ch.length by simp; omega])
        clear ON RD hown' hgrow hblk HB3 hb hs0 O1 HA1 HB1
        cases oth
        · go_wp2_with fail
          go_roundw
          case rel => exact ⟨k + 1, (.own eb k1 k2 (Er.es b0 s0)), some ⟨g, 0, none⟩, cap', (k1, k2) :: ch, by go_num, by omega, rfl, SV.out, HA2, O3, CE, ⟨Aid.hid (by have := HCK.out; simp; omega), by have := HCK.out; simp; omega⟩, Aid.hid (by simp), HB2⟩
          case measure => simp [intOf]; omega
        · go_wp2_with fail
          go_roundw
          case rel => exact ⟨k + 1, .other (.own eb k1 k2 (Er.es b0 s0)), some ⟨g, 0, none⟩, cap', (k1, k2) :: ch, by go_num, by omega, rfl, SV.out, HA2, O3, CE, ⟨Aid.hid (by have := HCK.out; simp; omega), by have := HCK.out; simp; omega⟩, Aid.hid (by simp), HB2⟩
          case measure => simp [intOf]; omega
    · obtain rfl : k = ls.length := by omega
      go_wp2_with fail
      go_ret2
      have hch := HCH.out
      subst hch
      exact ⟨E, A, c, by first | rfl | simp, HA, O, HCK, Aid.hid (HN.out hn), HB⟩
end Go.Proofs.YtblkcgbifecemaaDoor
