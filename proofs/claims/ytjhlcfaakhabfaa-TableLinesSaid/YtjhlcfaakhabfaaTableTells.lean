/- The law TableTells. -/
import Derived.Test.YtjhlcfaakhabfaaTellsA
import Derived.Test.YtjhlcfaakhabfaaGreatU
import Derived.Test.YtjhlcfaakhabfaaTabAwake
import Derived.Test.YtjhlcfaakhabfaaLow
import Derived.Test.YtjhlcfaakhabfaaOrd
namespace Go.Proofs.Ytjhlcfaakhabfaa
open Go.RowKit

set_option maxRecDepth 100000 in
set_option maxHeartbeats 4000000 in
theorem tableTells_big (u : List Dk) (a : Option Addr) (cap : Nat) (d : Int) (s t : ByteArray) (w : World) (hn : 16 < u.length) :
    Calls Try.prog 5 #[.agg #[.slice a u.length cap], .int .i64 d, .string s, .string t] w fun e w' => e = .returned (.bool true) ∧ Below w.heap.size w w' := by
  have HB1 : Hid (Below w.heap.size w (w.alloc (.cells #[.slice a u.length cap] 24))) := Aid.hid ((Below.refl _ _).alloc (Nat.le_refl _) _)
  have P0 := Aid.hid (Aid.Has.new w [.slice a u.length cap] 24)
  go_enter Try.func5, Try.ntmps5
  try simp only [List.append_eq, List.cons_append, List.nil_append]
  go_wp2_with fail
  refine (greatUnit_big a u.length cap _ hn).mono ?_; rintro e w2 ⟨rfl, hb2⟩
  have HB2 := Aid.hid (HB1.out.trans (hb2.mono HB1.out.size))
  clear hb2
  go_wp2_with fail
  refine (awake_any _).mono ?_; rintro e w3 ⟨rfl, hb3⟩
  have HB3 := Aid.hid (HB2.out.trans (hb3.mono HB2.out.size))
  clear hb3
  go_wp2_with fail
  go_ret
  exact ⟨rfl, HB3.out⟩
set_option maxRecDepth 100000 in
set_option maxHeartbeats 4000000 in
theorem tableTells_longA (u : List Dk) (a : Option Addr) (cap : Nat) (d : Int) (s t : ByteArray) (w : World) (hu : UnitAt w w.heap.size a u) (hn : u.length ≤ 16) (hs : 60 < s.size) :
    Calls Try.prog 5 #[.agg #[.slice a u.length cap], .int .i64 d, .string s, .string t] w fun e w' => e = .returned (.bool true) ∧ Below w.heap.size w w' := by
  have HB1 : Hid (Below w.heap.size w (w.alloc (.cells #[.slice a u.length cap] 24))) := Aid.hid ((Below.refl _ _).alloc (Nat.le_refl _) _)
  have P0 := Aid.hid (Aid.Has.new w [.slice a u.length cap] 24)
  have HU := Aid.hid hu
  have a60 : decide ((60 : Int) < (s.size : Int)) = true := decide_eq_true (by omega)
  clear hu
  go_enter Try.func5, Try.ntmps5
  try simp only [List.append_eq, List.cons_append, List.nil_append]
  go_wp2_with fail
  generalize hW : w.alloc (.cells #[.slice a u.length cap] 24) = W at *
  clear hW
  have hu1 := HU.out.below HB1.out (Nat.le_refl _)
  refine (greatUnit_is u a w.heap.size cap W hu1 HB1.out.size hn).mono ?_; rintro e w2 ⟨r, rfl, hb2⟩
  have HB2 := Aid.hid (HB1.out.trans (hb2.mono HB1.out.size))
  clear hb2 hu1
  cases r
  all_goals
    go_wp2_with fail
    refine (awake_any _).mono ?_; rintro e w3 ⟨rfl, hb3⟩
    have HB3 := Aid.hid (HB2.out.trans (hb3.mono HB2.out.size))
    clear hb3
    go_wp2_with fail
    go_ret
    exact ⟨rfl, HB3.out⟩
set_option maxRecDepth 100000 in
set_option maxHeartbeats 4000000 in
theorem tableTells_longB (u : List Dk) (a : Option Addr) (cap : Nat) (d : Int) (s t : ByteArray) (w : World) (hu : UnitAt w w.heap.size a u) (hn : u.length ≤ 16) (hs : s.size ≤ 60) (ht : 60 < t.size) :
    Calls Try.prog 5 #[.agg #[.slice a u.length cap], .int .i64 d, .string s, .string t] w fun e w' => e = .returned (.bool true) ∧ Below w.heap.size w w' := by
  have HB1 : Hid (Below w.heap.size w (w.alloc (.cells #[.slice a u.length cap] 24))) := Aid.hid ((Below.refl _ _).alloc (Nat.le_refl _) _)
  have P0 := Aid.hid (Aid.Has.new w [.slice a u.length cap] 24)
  have HU := Aid.hid hu
  have a60 : decide ((60 : Int) < (s.size : Int)) = false := decide_eq_false (by omega)
  have b60 : decide ((60 : Int) < (t.size : Int)) = true := decide_eq_true (by omega)
  clear hu
  go_enter Try.func5, Try.ntmps5
  try simp only [List.append_eq, List.cons_append, List.nil_append]
  go_wp2_with fail
  generalize hW : w.alloc (.cells #[.slice a u.length cap] 24) = W at *
  clear hW
  have hu1 := HU.out.below HB1.out (Nat.le_refl _)
  refine (greatUnit_is u a w.heap.size cap W hu1 HB1.out.size hn).mono ?_; rintro e w2 ⟨r, rfl, hb2⟩
  have HB2 := Aid.hid (HB1.out.trans (hb2.mono HB1.out.size))
  clear hb2 hu1
  cases r
  all_goals
    go_wp2_with fail
    refine (awake_any _).mono ?_; rintro e w3 ⟨rfl, hb3⟩
    have HB3 := Aid.hid (HB2.out.trans (hb3.mono HB2.out.size))
    clear hb3
    go_wp2_with fail
    go_ret
    exact ⟨rfl, HB3.out⟩
theorem rows_own {w : World} {base c : Nat} {A : Option Addr} {vs : List Vd} (h : w.ownsRow base 44 8 (.slice A vs.length c) vs.length (VC vs)) : Rows w w.heap.size 8 A (vs.map Vd.cells) := by
  refine Rows.of_own (rows := vs.map Vd.cells) (Vd.len vs) (c := c) (base := base) (e := 44) ?_
  rw [List.length_map]; exact h
theorem apart_kept {v u : Value} (h : Apart v u) : v.ownBlock = none ∨ v.ownBlock ≠ u.ownBlock := h.imp (fun h => by rw [h]; rfl) id
theorem sameInts_b (A C : Option Addr) (c d B B' : Nat) (xs : List Int) (w : World) (hx : IntsAt w B A xs) (hy : IntsAt w B' C xs) (lx : xs.length < 1000000000) :
    Calls Try.prog 21 #[.slice A xs.length c, .slice C xs.length d] w fun e w' => e = .returned (.bool true) ∧ Below w.heap.size w w' := by
  refine (sameInts_self A C c d B B' xs w hx hy lx).mono ?_
  rintro e w' ⟨rfl, n, rfl⟩
  exact ⟨rfl, below_drewN_k (Below.refl _ _) n⟩
theorem sameVars_b (A C : Option Addr) (c d B B' : Nat) (xs : List Vd) (w : World) (hx : Rows w B 8 A (xs.map Vd.cells)) (hy : Rows w B' 8 C (xs.map Vd.cells)) (lx : xs.length < 1000000000) :
    Calls Try.prog 25 #[.slice A xs.length c, .slice C xs.length d] w fun e w' => e = .returned (.bool true) ∧ Below w.heap.size w w' := by
  refine (sameVars_self A C c d B B' xs w hx hy lx).mono ?_
  rintro e w' ⟨rfl, n, rfl⟩
  exact ⟨rfl, below_drewN_k (Below.refl _ _) n⟩
theorem tells_low (x : Int) (n : Nat) : ∃ r : Nat, low x ((n : Int) + 3) = r ∧ (r : Int) < n + 3 := by
  obtain ⟨h1, h2⟩ := low_in x ((n : Int) + 3) (by omega)
  obtain ⟨r, hr⟩ := Int.eq_ofNat_of_zero_le h1
  exact ⟨r, hr, by omega⟩
set_option maxRecDepth 100000 in
set_option maxHeartbeats 4000000 in
theorem tableTells_main (u : List Dk) (a : Option Addr) (cap : Nat) (d : Int) (s t : ByteArray) (w : World) (hu : UnitAt w w.heap.size a u) (hn : u.length ≤ 16) (hM : ∀ x ∈ u, x.vs.length ≤ 1048576) (hs : s.size ≤ 60) (ht : t.size ≤ 60) :
    Calls Try.prog 5 #[.agg #[.slice a u.length cap], .int .i64 d, .string s, .string t] w fun e w' => e = .returned (.bool true) ∧ Below w.heap.size w w' := by
  have HB1 : Hid (Below w.heap.size w (w.alloc (.cells #[.slice a u.length cap] 24))) := Aid.hid ((Below.refl _ _).alloc (Nat.le_refl _) _)
  have P0 := Aid.hid (Aid.Has.new w [.slice a u.length cap] 24)
  have HU := Aid.hid hu
  have HM := Aid.hid hM
  have a60 : decide ((60 : Int) < (s.size : Int)) = false := decide_eq_false (by omega)
  have b60 : decide ((60 : Int) < (t.size : Int)) = false := decide_eq_false (by omega)
  obtain ⟨nr, hnr, lr⟩ := tells_low d u.length
  have LR := Aid.hid hnr
  clear hnr hu hM
  go_enter Try.func5, Try.ntmps5
  try simp only [List.append_eq, List.cons_append, List.nil_append]
  go_wp2_with fail
  obtain ⟨pb, hpb⟩ : ∃ pb, w.heap.size = pb := ⟨_, rfl⟩
  have HPB := Aid.hid hpb
  rw [hpb] at P0 ⊢
  clear hpb
  generalize w.alloc (.cells #[.slice a u.length cap] 24) = W at *
  have hpl := P0.out.lt
  have hu1 := HU.out.below HB1.out (Nat.le_refl _)
  refine (greatUnit_is u a w.heap.size cap W hu1 HB1.out.size hn).mono ?_; rintro e w2 ⟨r, rfl, hb2⟩
  have HB2 := Aid.hid hb2
  have p0 := (P0.out.below hb2 hpl).cell 0 _ rfl
  clear hb2 hu1
  cases r
  · go_wp2_with fail
    refine (low_is d ((u.length : Int) + 3) nr LR.out (by omega) (by omega) _).mono ?_; rintro e w3 ⟨rfl, rfl⟩
    go_wp2_with fail
    generalize ((nr : Int) - 1) = d1
    obtain ⟨RD, RM, RK, hme⟩ : ∃ RD RM RK, Tb.method u d1 s = (RD, RM, RK) := ⟨_, _, _, rfl⟩
    obtain ⟨ch, hch⟩ : ∃ r, Tb.chain u d1 = r := ⟨_, rfl⟩
    obtain ⟨fs, hfs⟩ : ∃ r, Tb.faces u d1 = r := ⟨_, rfl⟩
    obtain ⟨vs, hvs⟩ : ∃ r, Tb.fields u d1 = r := ⟨_, rfl⟩
    obtain ⟨fnd, hfn⟩ : ∃ r, Tb.find u s = r := ⟨_, rfl⟩
    obtain ⟨ris, his⟩ : ∃ r, Tb.is u s t = r := ⟨_, rfl⟩
    have ME := Aid.hid hme; have CH := Aid.hid hch; have FS := Aid.hid hfs; have VS := Aid.hid hvs; have FN := Aid.hid hfn; have IS := Aid.hid his
    have lc : ch.length < 1000000000 := by have := Tb.chain_len u d1; rw [hch] at this; omega
    have lf : fs.length < 1000000000 := by have := (Tb.faces_at u d1).len; rw [hfs] at this; omega
    have lv : vs.length < 1000000000 := by
      have h := Tb.fields_len HM.out d1
      rw [hvs] at h
      have h2 : (u.length + 1) * 1048576 ≤ 17 * 1048576 := Nat.mul_le_mul_right _ (by omega)
      omega
    clear hme hch hfs hvs hfn his
    have HUW := Aid.hid (HU.out.below HB1.out (Nat.le_refl _))
    have hBW := HB1.out.size
    refine (method_is u a w.heap.size cap d1 s RD RM RK _ ME.out (HUW.out.below HB2.out hBW) (Nat.le_trans hBW HB2.out.size)).mono ?_; rintro e w4 ⟨rfl, hb4⟩
    have HB4 := Aid.hid (HB2.out.trans (hb4.mono HB2.out.size))
    have XA : Aid.Has (w4.alloc (.cells #[.int .i64 RD, .int .i64 RM] 48)) w4.heap.size [.int .i64 RD, .int .i64 RM] 48 := Aid.Has.new w4 [.int .i64 RD, .int .i64 RM] 48
    have HB5 : Below W.heap.size W (w4.alloc (.cells #[.int .i64 RD, .int .i64 RM] 48)) := HB4.out.alloc HB4.out.size _
    have p0 : (w4.alloc (.cells #[.int .i64 RD, .int .i64 RM] 48)).cell? ⟨pb, 0, none⟩ = some (.slice a u.length cap) := (P0.out.below HB5 hpl).cell 0 _ rfl
    clear hb4
    go_wp2_with fail
    generalize w4.alloc (.cells #[.int .i64 RD, .int .i64 RM] 48) = w5 at XA HB5 p0 ⊢
    obtain ⟨qa, hqa⟩ : ∃ q, w4.heap.size = q := ⟨_, rfl⟩
    rw [hqa] at XA ⊢
    clear hqa HB4 HB2
    refine (rmethod_is u a w.heap.size cap d1 s RD RM RK _ ME.out (HUW.out.below HB5 hBW) (Nat.le_trans hBW HB5.size)).mono ?_; rintro e w6 ⟨rfl, hb6⟩
    have HB6 := Aid.hid (HB5.trans (hb6.mono HB5.size))
    have XA6 := XA.below hb6 XA.lt
    have hla := XA6.lt
    have XB : Aid.Has (w6.alloc (.cells #[.int .i64 RD, .int .i64 RM] 48)) w6.heap.size [.int .i64 RD, .int .i64 RM] 48 := Aid.Has.new w6 [.int .i64 RD, .int .i64 RM] 48
    have HB7 : Below W.heap.size W (w6.alloc (.cells #[.int .i64 RD, .int .i64 RM] 48)) := HB6.out.alloc HB6.out.size _
    have XA7 : Aid.Has (w6.alloc (.cells #[.int .i64 RD, .int .i64 RM] 48)) qa [.int .i64 RD, .int .i64 RM] 48 := XA6.alloc _
    clear hb6 HB5 XA XA6 p0
    go_wp2_with fail
    generalize w6.alloc (.cells #[.int .i64 RD, .int .i64 RM] 48) = W8 at XB XA7 HB7 ⊢
    obtain ⟨qb, hqb⟩ : ∃ q, w6.heap.size = q := ⟨_, rfl⟩
    rw [hqb] at XB ⊢
    clear hqb HB6 hla
    have PC := Aid.hid ((P0.out.below HB7 hpl).cell 0 _ rfl)
    have hp8 : pb < W8.heap.size := Nat.lt_of_lt_of_le hpl HB7.size
    have ha8 := XA7.lt
    have hb8 := XB.lt
    have XA0 := Aid.hid (XA7.cell 0 _ rfl); have XA1 := Aid.hid (XA7.cell 1 _ rfl); have XB0 := Aid.hid (XB.cell 0 _ rfl); have XB1 := Aid.hid (XB.cell 1 _ rfl)
    have HU8 := Aid.hid (HUW.out.below HB7 hBW)
    have hB8 := Nat.le_trans hBW HB7.size
    have B8 := Aid.hid (HB1.out.trans (HB7.mono HB1.out.size))
    clear XA7 XB HB7
    have hb : Below W8.heap.size W8 W8.drew := (Below.refl _ _).drew
    refine Ord.wp_region_walk (fun w' => Below W8.heap.size W8 w') 9 [(true, 0), (true, 1), (true, 3), (true, 4), (true, 6), (true, 7), (false, 2), (false, 5), (false, 8)] (by kernel_rfl) (by kernel_rfl) (fun _ _ d _ _ h => by cases d <;> exact h) (hb) ?_
    apply Ord.walk_light
    next => (simp only [List.getElem?_toArray, List.getElem?_cons_zero]; rfl)
    next => rfl
    next => (intro w' hSw; have k0 := (hSw.cell (p := ⟨pb, 0, none⟩) hp8).trans PC.out; have k1 := (hSw.cell (p := ⟨qa, 0, none⟩) ha8).trans XA0.out; have k2 := (hSw.cell (p := ⟨qa, 1, none⟩) ha8).trans XA1.out; have k3 := (hSw.cell (p := ⟨qb, 0, none⟩) hb8).trans XB0.out; have k4 := (hSw.cell (p := ⟨qb, 1, none⟩) hb8).trans XB1.out; go_simp; first | done | with_reducible rfl)
    simp only [Act.put, List.setIfInBounds_toArray, List.set_cons_zero, List.set_cons_succ]
    apply Ord.walk_light
    next => (simp only [List.getElem?_toArray, List.getElem?_cons_succ, List.getElem?_cons_zero]; rfl)
    next => rfl
    next => (intro w' hSw; have k0 := (hSw.cell (p := ⟨pb, 0, none⟩) hp8).trans PC.out; have k1 := (hSw.cell (p := ⟨qa, 0, none⟩) ha8).trans XA0.out; have k2 := (hSw.cell (p := ⟨qa, 1, none⟩) ha8).trans XA1.out; have k3 := (hSw.cell (p := ⟨qb, 0, none⟩) hb8).trans XB0.out; have k4 := (hSw.cell (p := ⟨qb, 1, none⟩) hb8).trans XB1.out; go_simp; first | done | with_reducible rfl)
    simp only [Act.put, List.setIfInBounds_toArray, List.set_cons_zero, List.set_cons_succ]
    apply Ord.walk_light
    next => (simp only [List.getElem?_toArray, List.getElem?_cons_succ, List.getElem?_cons_zero]; rfl)
    next => rfl
    next => (intro w' hSw; have k0 := (hSw.cell (p := ⟨pb, 0, none⟩) hp8).trans PC.out; have k1 := (hSw.cell (p := ⟨qa, 0, none⟩) ha8).trans XA0.out; have k2 := (hSw.cell (p := ⟨qa, 1, none⟩) ha8).trans XA1.out; have k3 := (hSw.cell (p := ⟨qb, 0, none⟩) hb8).trans XB0.out; have k4 := (hSw.cell (p := ⟨qb, 1, none⟩) hb8).trans XB1.out; go_simp; first | done | with_reducible rfl)
    simp only [Act.put, List.setIfInBounds_toArray, List.set_cons_zero, List.set_cons_succ]
    apply Ord.walk_light
    next => (simp only [List.getElem?_toArray, List.getElem?_cons_succ, List.getElem?_cons_zero]; rfl)
    next => rfl
    next => (intro w' hSw; have k0 := (hSw.cell (p := ⟨pb, 0, none⟩) hp8).trans PC.out; have k1 := (hSw.cell (p := ⟨qa, 0, none⟩) ha8).trans XA0.out; have k2 := (hSw.cell (p := ⟨qa, 1, none⟩) ha8).trans XA1.out; have k3 := (hSw.cell (p := ⟨qb, 0, none⟩) hb8).trans XB0.out; have k4 := (hSw.cell (p := ⟨qb, 1, none⟩) hb8).trans XB1.out; go_simp; first | done | with_reducible rfl)
    simp only [Act.put, List.setIfInBounds_toArray, List.set_cons_zero, List.set_cons_succ]
    apply Ord.walk_light
    next => (simp only [List.getElem?_toArray, List.getElem?_cons_succ, List.getElem?_cons_zero]; rfl)
    next => rfl
    next => (intro w' hSw; have k0 := (hSw.cell (p := ⟨pb, 0, none⟩) hp8).trans PC.out; have k1 := (hSw.cell (p := ⟨qa, 0, none⟩) ha8).trans XA0.out; have k2 := (hSw.cell (p := ⟨qa, 1, none⟩) ha8).trans XA1.out; have k3 := (hSw.cell (p := ⟨qb, 0, none⟩) hb8).trans XB0.out; have k4 := (hSw.cell (p := ⟨qb, 1, none⟩) hb8).trans XB1.out; go_simp; first | done | with_reducible rfl)
    simp only [Act.put, List.setIfInBounds_toArray, List.set_cons_zero, List.set_cons_succ]
    apply Ord.walk_light
    next => (simp only [List.getElem?_toArray, List.getElem?_cons_succ, List.getElem?_cons_zero]; rfl)
    next => rfl
    next => (intro w' hSw; have k0 := (hSw.cell (p := ⟨pb, 0, none⟩) hp8).trans PC.out; have k1 := (hSw.cell (p := ⟨qa, 0, none⟩) ha8).trans XA0.out; have k2 := (hSw.cell (p := ⟨qa, 1, none⟩) ha8).trans XA1.out; have k3 := (hSw.cell (p := ⟨qb, 0, none⟩) hb8).trans XB0.out; have k4 := (hSw.cell (p := ⟨qb, 1, none⟩) hb8).trans XB1.out; go_simp; first | done | with_reducible rfl)
    simp only [Act.put, List.setIfInBounds_toArray, List.set_cons_zero, List.set_cons_succ]
    apply Ord.walk_heavy
    next => (simp only [List.getElem?_toArray, List.getElem?_cons_succ, List.getElem?_cons_zero]; rfl)
    next => rfl
    intro K hK
    go_wp2_with fail
    refine (chain_is u a w.heap.size cap d1 ch _ CH.out (HU8.out.below hb hB8) (Nat.le_trans hB8 hb.size)).mono ?_; rintro e w' ⟨A1, c1, rfl, o1, hb'⟩; dsimp only
    have O1 := Aid.hid (own_lowers o1 hb.size)
    clear o1
    refine hK.out _ _ (hb.trans (hb'.mono hb.size)) (fun hHeld => ?_)
    clear hb hb'
    have hb := hHeld
    clear hK K
    try simp only [Act.put, List.setIfInBounds_toArray, List.set_cons_zero, List.set_cons_succ]
    apply Ord.walk_heavy
    next => (simp only [List.getElem?_toArray, List.getElem?_cons_succ, List.getElem?_cons_zero]; rfl)
    next => rfl
    intro K hK
    go_wp2_with fail
    refine (faces_is u a w.heap.size cap d1 fs _ FS.out (HU8.out.below hb hB8) (Nat.le_trans hB8 hb.size)).mono ?_; rintro e w' ⟨A2, c2, rfl, o2, hb'⟩; dsimp only
    have P21 := Aid.hid (own_apart O1.out o2).2
    replace O1 := Aid.hid (own_keeps O1.out hb')
    have O2 := Aid.hid (own_lowers o2 hb.size)
    clear o2
    refine hK.out _ _ (hb.trans (hb'.mono hb.size)) (fun hHeld => ?_)
    clear hb hb'
    have hb := hHeld
    clear hK K
    try simp only [Act.put, List.setIfInBounds_toArray, List.set_cons_zero, List.set_cons_succ]
    apply Ord.walk_heavy
    next => (simp only [List.getElem?_toArray, List.getElem?_cons_succ, List.getElem?_cons_zero]; rfl)
    next => rfl
    intro K hK
    go_wp2_with fail
    refine (fields_is u a w.heap.size cap d1 vs _ VS.out (HU8.out.below hb hB8) (Nat.le_trans hB8 hb.size) (by omega) HM.out).mono ?_; rintro e w' ⟨A3, c3, rfl, o3, hb'⟩; dsimp only
    have P31 := Aid.hid (own_apart O1.out o3).2
    have P32 := Aid.hid (own_apart O2.out o3).2
    replace O1 := Aid.hid (own_keeps O1.out hb')
    replace O2 := Aid.hid (own_keeps O2.out hb')
    have O3 := Aid.hid (own_lowers o3 hb.size)
    clear o3
    refine hK.out _ _ (hb.trans (hb'.mono hb.size)) (fun hHeld => ?_)
    clear hb hb'
    have hb := hHeld
    clear hK K
    try simp only [Act.put, List.setIfInBounds_toArray, List.set_cons_zero, List.set_cons_succ]
    refine Ord.walk_tail ?_; simp only [List.drop_succ_cons, List.drop_zero]
    go_wp2_with fail
    replace hb := hb.drew
    refine Ord.wp_region_walk (fun w' => Below W8.heap.size W8 w') 49 [(true, 0), (true, 1), (true, 3), (true, 4), (false, 2), (false, 5), (true, 6), (true, 7), (true, 8), (true, 9), (true, 10), (false, 11), (false, 12), (true, 13), (true, 14), (true, 15), (true, 16), (true, 17), (false, 18), (false, 19), (true, 20), (true, 21), (true, 22), (true, 23), (true, 24), (true, 26), (true, 27), (true, 28), (false, 25), (false, 29), (true, 30), (true, 31), (true, 32), (true, 33), (true, 34), (true, 35), (true, 36), (true, 37), (true, 38), (true, 39), (true, 40), (true, 41), (true, 42), (true, 43), (true, 44), (true, 45), (false, 46), (false, 47), (true, 48)] (by kernel_rfl) (by kernel_rfl) (fun _ _ d _ _ h => by cases d <;> exact h) (hb) ?_
    clear hHeld
    replace O1 : Hid (w'.drew.ownsRow W8.heap.size 3 1 (.slice A1 ch.length c1) ch.length (ch.map (Value.int .i64))) := O1
    replace O2 : Hid (w'.drew.ownsRow W8.heap.size 3 1 (.slice A2 fs.length c2) fs.length (fs.map (Value.int .i64))) := O2
    replace O3 : Hid (w'.drew.ownsRow W8.heap.size 44 8 (.slice A3 vs.length c3) vs.length (VC vs)) := O3
    generalize w'.drew = wd at O1 O2 O3 hb ⊢
    apply Ord.walk_light
    next => (simp only [List.getElem?_toArray, List.getElem?_cons_zero]; rfl)
    next => rfl
    next => (intro w' hSw; have k0 := (hSw.cell (p := ⟨pb, 0, none⟩) hp8).trans PC.out; have k1 := (hSw.cell (p := ⟨qa, 0, none⟩) ha8).trans XA0.out; have k2 := (hSw.cell (p := ⟨qa, 1, none⟩) ha8).trans XA1.out; have k3 := (hSw.cell (p := ⟨qb, 0, none⟩) hb8).trans XB0.out; have k4 := (hSw.cell (p := ⟨qb, 1, none⟩) hb8).trans XB1.out; go_simp; first | done | with_reducible rfl)
    simp only [Act.put, List.setIfInBounds_toArray, List.set_cons_zero, List.set_cons_succ]
    apply Ord.walk_light
    next => (simp only [List.getElem?_toArray, List.getElem?_cons_succ, List.getElem?_cons_zero]; rfl)
    next => rfl
    next => (intro w' hSw; have k0 := (hSw.cell (p := ⟨pb, 0, none⟩) hp8).trans PC.out; have k1 := (hSw.cell (p := ⟨qa, 0, none⟩) ha8).trans XA0.out; have k2 := (hSw.cell (p := ⟨qa, 1, none⟩) ha8).trans XA1.out; have k3 := (hSw.cell (p := ⟨qb, 0, none⟩) hb8).trans XB0.out; have k4 := (hSw.cell (p := ⟨qb, 1, none⟩) hb8).trans XB1.out; go_simp; first | done | with_reducible rfl)
    simp only [Act.put, List.setIfInBounds_toArray, List.set_cons_zero, List.set_cons_succ]
    apply Ord.walk_light
    next => (simp only [List.getElem?_toArray, List.getElem?_cons_succ, List.getElem?_cons_zero]; rfl)
    next => rfl
    next => (intro w' hSw; have k0 := (hSw.cell (p := ⟨pb, 0, none⟩) hp8).trans PC.out; have k1 := (hSw.cell (p := ⟨qa, 0, none⟩) ha8).trans XA0.out; have k2 := (hSw.cell (p := ⟨qa, 1, none⟩) ha8).trans XA1.out; have k3 := (hSw.cell (p := ⟨qb, 0, none⟩) hb8).trans XB0.out; have k4 := (hSw.cell (p := ⟨qb, 1, none⟩) hb8).trans XB1.out; go_simp; first | done | with_reducible rfl)
    simp only [Act.put, List.setIfInBounds_toArray, List.set_cons_zero, List.set_cons_succ]
    apply Ord.walk_light
    next => (simp only [List.getElem?_toArray, List.getElem?_cons_succ, List.getElem?_cons_zero]; rfl)
    next => rfl
    next => (intro w' hSw; have k0 := (hSw.cell (p := ⟨pb, 0, none⟩) hp8).trans PC.out; have k1 := (hSw.cell (p := ⟨qa, 0, none⟩) ha8).trans XA0.out; have k2 := (hSw.cell (p := ⟨qa, 1, none⟩) ha8).trans XA1.out; have k3 := (hSw.cell (p := ⟨qb, 0, none⟩) hb8).trans XB0.out; have k4 := (hSw.cell (p := ⟨qb, 1, none⟩) hb8).trans XB1.out; go_simp; first | done | with_reducible rfl)
    simp only [Act.put, List.setIfInBounds_toArray, List.set_cons_zero, List.set_cons_succ]
    apply Ord.walk_heavy
    next => (simp only [List.getElem?_toArray, List.getElem?_cons_succ, List.getElem?_cons_zero]; rfl)
    next => rfl
    intro K hK
    go_wp2_with fail
    refine (find_is u a w.heap.size cap s fnd _ FN.out (HU8.out.below hb hB8) (Nat.le_trans hB8 hb.size)).mono ?_; rintro e w' ⟨rfl, hb'⟩; dsimp only
    replace O1 := Aid.hid (own_keeps O1.out hb')
    replace O2 := Aid.hid (own_keeps O2.out hb')
    replace O3 := Aid.hid (own_keeps O3.out hb')
    refine hK.out _ _ (hb.trans (hb'.mono hb.size)) (fun hHeld => ?_)
    clear hb hb'
    have hb := hHeld
    clear hK K
    try simp only [Act.put, List.setIfInBounds_toArray, List.set_cons_zero, List.set_cons_succ]
    apply Ord.walk_heavy
    next => (simp only [List.getElem?_toArray, List.getElem?_cons_succ, List.getElem?_cons_zero]; rfl)
    next => rfl
    intro K hK
    go_wp2_with fail
    refine (rfind_is u a w.heap.size cap s fnd _ FN.out (HU8.out.below hb hB8) (Nat.le_trans hB8 hb.size)).mono ?_; rintro e w' ⟨rfl, hb'⟩; dsimp only
    replace O1 := Aid.hid (own_keeps O1.out hb')
    replace O2 := Aid.hid (own_keeps O2.out hb')
    replace O3 := Aid.hid (own_keeps O3.out hb')
    refine hK.out _ _ (hb.trans (hb'.mono hb.size)) (fun hHeld => ?_)
    clear hb hb'
    have hb := hHeld
    clear hK K
    try simp only [Act.put, List.setIfInBounds_toArray, List.set_cons_zero, List.set_cons_succ]
    apply Ord.walk_light
    next => (simp only [List.getElem?_toArray, List.getElem?_cons_succ, List.getElem?_cons_zero]; rfl)
    next => rfl
    next => (intro w' hSw; have k0 := (hSw.cell (p := ⟨pb, 0, none⟩) hp8).trans PC.out; have k1 := (hSw.cell (p := ⟨qa, 0, none⟩) ha8).trans XA0.out; have k2 := (hSw.cell (p := ⟨qa, 1, none⟩) ha8).trans XA1.out; have k3 := (hSw.cell (p := ⟨qb, 0, none⟩) hb8).trans XB0.out; have k4 := (hSw.cell (p := ⟨qb, 1, none⟩) hb8).trans XB1.out; go_simp; first | done | with_reducible rfl)
    simp only [Act.put, List.setIfInBounds_toArray, List.set_cons_zero, List.set_cons_succ]
    apply Ord.walk_light
    next => (simp only [List.getElem?_toArray, List.getElem?_cons_succ, List.getElem?_cons_zero]; rfl)
    next => rfl
    next => (intro w' hSw; have k0 := (hSw.cell (p := ⟨pb, 0, none⟩) hp8).trans PC.out; have k1 := (hSw.cell (p := ⟨qa, 0, none⟩) ha8).trans XA0.out; have k2 := (hSw.cell (p := ⟨qa, 1, none⟩) ha8).trans XA1.out; have k3 := (hSw.cell (p := ⟨qb, 0, none⟩) hb8).trans XB0.out; have k4 := (hSw.cell (p := ⟨qb, 1, none⟩) hb8).trans XB1.out; go_simp; first | done | with_reducible rfl)
    simp only [Act.put, List.setIfInBounds_toArray, List.set_cons_zero, List.set_cons_succ]
    apply Ord.walk_light
    next => (simp only [List.getElem?_toArray, List.getElem?_cons_succ, List.getElem?_cons_zero]; rfl)
    next => rfl
    next => (intro w' hSw; have k0 := (hSw.cell (p := ⟨pb, 0, none⟩) hp8).trans PC.out; have k1 := (hSw.cell (p := ⟨qa, 0, none⟩) ha8).trans XA0.out; have k2 := (hSw.cell (p := ⟨qa, 1, none⟩) ha8).trans XA1.out; have k3 := (hSw.cell (p := ⟨qb, 0, none⟩) hb8).trans XB0.out; have k4 := (hSw.cell (p := ⟨qb, 1, none⟩) hb8).trans XB1.out; go_simp; first | done | with_reducible rfl)
    simp only [Act.put, List.setIfInBounds_toArray, List.set_cons_zero, List.set_cons_succ]
    apply Ord.walk_light
    next => (simp only [List.getElem?_toArray, List.getElem?_cons_succ, List.getElem?_cons_zero]; rfl)
    next => rfl
    next => (intro w' hSw; have k0 := (hSw.cell (p := ⟨pb, 0, none⟩) hp8).trans PC.out; have k1 := (hSw.cell (p := ⟨qa, 0, none⟩) ha8).trans XA0.out; have k2 := (hSw.cell (p := ⟨qa, 1, none⟩) ha8).trans XA1.out; have k3 := (hSw.cell (p := ⟨qb, 0, none⟩) hb8).trans XB0.out; have k4 := (hSw.cell (p := ⟨qb, 1, none⟩) hb8).trans XB1.out; go_simp; first | done | with_reducible rfl)
    simp only [Act.put, List.setIfInBounds_toArray, List.set_cons_zero, List.set_cons_succ]
    apply Ord.walk_light
    next => (simp only [List.getElem?_toArray, List.getElem?_cons_succ, List.getElem?_cons_zero]; rfl)
    next => rfl
    next => (intro w' hSw; have k0 := (hSw.cell (p := ⟨pb, 0, none⟩) hp8).trans PC.out; have k1 := (hSw.cell (p := ⟨qa, 0, none⟩) ha8).trans XA0.out; have k2 := (hSw.cell (p := ⟨qa, 1, none⟩) ha8).trans XA1.out; have k3 := (hSw.cell (p := ⟨qb, 0, none⟩) hb8).trans XB0.out; have k4 := (hSw.cell (p := ⟨qb, 1, none⟩) hb8).trans XB1.out; go_simp; first | done | with_reducible rfl)
    simp only [Act.put, List.setIfInBounds_toArray, List.set_cons_zero, List.set_cons_succ]
    apply Ord.walk_heavy
    next => (simp only [List.getElem?_toArray, List.getElem?_cons_succ, List.getElem?_cons_zero]; rfl)
    next => rfl
    intro K hK
    go_wp2_with fail
    refine (rchain_is u a w.heap.size cap d1 ch _ CH.out (HU8.out.below hb hB8) (Nat.le_trans hB8 hb.size)).mono ?_; rintro e w' ⟨A4, c4, rfl, o4, hb'⟩; dsimp only
    replace O1 := Aid.hid (own_keeps O1.out hb')
    replace O2 := Aid.hid (own_keeps O2.out hb')
    replace O3 := Aid.hid (own_keeps O3.out hb')
    have O4 := Aid.hid (own_lowers o4 hb.size)
    clear o4
    refine hK.out _ _ (hb.trans (hb'.mono hb.size)) (fun hHeld => ?_)
    clear hb hb'
    have hb := hHeld
    clear hK K
    try simp only [Act.put, List.setIfInBounds_toArray, List.set_cons_zero, List.set_cons_succ]
    apply Ord.walk_heavy
    next => (simp only [List.getElem?_toArray, List.getElem?_cons_succ, List.getElem?_cons_zero]; rfl)
    next => rfl
    intro K hK
    go_wp2_with fail
    refine (sameInts_b A1 A4 c1 c4 _ _ ch _ (IntsAt.of_own O1.out) (IntsAt.of_own O4.out) (by omega)).mono ?_; rintro e w' ⟨rfl, hb'⟩; dsimp only
    replace O1 := Aid.hid (own_keeps O1.out hb')
    replace O2 := Aid.hid (own_keeps O2.out hb')
    replace O3 := Aid.hid (own_keeps O3.out hb')
    refine hK.out _ _ (hb.trans (hb'.mono hb.size)) (fun hHeld => ?_)
    clear hb hb'
    have hb := hHeld
    clear O4
    clear hK K
    try simp only [Act.put, List.setIfInBounds_toArray, List.set_cons_zero, List.set_cons_succ]
    apply Ord.walk_light
    next => (simp only [List.getElem?_toArray, List.getElem?_cons_succ, List.getElem?_cons_zero]; rfl)
    next => rfl
    next => (intro w' hSw; have k0 := (hSw.cell (p := ⟨pb, 0, none⟩) hp8).trans PC.out; have k1 := (hSw.cell (p := ⟨qa, 0, none⟩) ha8).trans XA0.out; have k2 := (hSw.cell (p := ⟨qa, 1, none⟩) ha8).trans XA1.out; have k3 := (hSw.cell (p := ⟨qb, 0, none⟩) hb8).trans XB0.out; have k4 := (hSw.cell (p := ⟨qb, 1, none⟩) hb8).trans XB1.out; go_simp; first | done | with_reducible rfl)
    simp only [Act.put, List.setIfInBounds_toArray, List.set_cons_zero, List.set_cons_succ]
    apply Ord.walk_light
    next => (simp only [List.getElem?_toArray, List.getElem?_cons_succ, List.getElem?_cons_zero]; rfl)
    next => rfl
    next => (intro w' hSw; have k0 := (hSw.cell (p := ⟨pb, 0, none⟩) hp8).trans PC.out; have k1 := (hSw.cell (p := ⟨qa, 0, none⟩) ha8).trans XA0.out; have k2 := (hSw.cell (p := ⟨qa, 1, none⟩) ha8).trans XA1.out; have k3 := (hSw.cell (p := ⟨qb, 0, none⟩) hb8).trans XB0.out; have k4 := (hSw.cell (p := ⟨qb, 1, none⟩) hb8).trans XB1.out; go_simp; first | done | with_reducible rfl)
    simp only [Act.put, List.setIfInBounds_toArray, List.set_cons_zero, List.set_cons_succ]
    apply Ord.walk_light
    next => (simp only [List.getElem?_toArray, List.getElem?_cons_succ, List.getElem?_cons_zero]; rfl)
    next => rfl
    next => (intro w' hSw; have k0 := (hSw.cell (p := ⟨pb, 0, none⟩) hp8).trans PC.out; have k1 := (hSw.cell (p := ⟨qa, 0, none⟩) ha8).trans XA0.out; have k2 := (hSw.cell (p := ⟨qa, 1, none⟩) ha8).trans XA1.out; have k3 := (hSw.cell (p := ⟨qb, 0, none⟩) hb8).trans XB0.out; have k4 := (hSw.cell (p := ⟨qb, 1, none⟩) hb8).trans XB1.out; go_simp; first | done | with_reducible rfl)
    simp only [Act.put, List.setIfInBounds_toArray, List.set_cons_zero, List.set_cons_succ]
    apply Ord.walk_light
    next => (simp only [List.getElem?_toArray, List.getElem?_cons_succ, List.getElem?_cons_zero]; rfl)
    next => rfl
    next => (intro w' hSw; have k0 := (hSw.cell (p := ⟨pb, 0, none⟩) hp8).trans PC.out; have k1 := (hSw.cell (p := ⟨qa, 0, none⟩) ha8).trans XA0.out; have k2 := (hSw.cell (p := ⟨qa, 1, none⟩) ha8).trans XA1.out; have k3 := (hSw.cell (p := ⟨qb, 0, none⟩) hb8).trans XB0.out; have k4 := (hSw.cell (p := ⟨qb, 1, none⟩) hb8).trans XB1.out; go_simp; first | done | with_reducible rfl)
    simp only [Act.put, List.setIfInBounds_toArray, List.set_cons_zero, List.set_cons_succ]
    apply Ord.walk_light
    next => (simp only [List.getElem?_toArray, List.getElem?_cons_succ, List.getElem?_cons_zero]; rfl)
    next => rfl
    next => (intro w' hSw; have k0 := (hSw.cell (p := ⟨pb, 0, none⟩) hp8).trans PC.out; have k1 := (hSw.cell (p := ⟨qa, 0, none⟩) ha8).trans XA0.out; have k2 := (hSw.cell (p := ⟨qa, 1, none⟩) ha8).trans XA1.out; have k3 := (hSw.cell (p := ⟨qb, 0, none⟩) hb8).trans XB0.out; have k4 := (hSw.cell (p := ⟨qb, 1, none⟩) hb8).trans XB1.out; go_simp; first | done | with_reducible rfl)
    simp only [Act.put, List.setIfInBounds_toArray, List.set_cons_zero, List.set_cons_succ]
    apply Ord.walk_heavy
    next => (simp only [List.getElem?_toArray, List.getElem?_cons_succ, List.getElem?_cons_zero]; rfl)
    next => rfl
    intro K hK
    go_wp2_with fail
    refine (rfaces_is u a w.heap.size cap d1 fs _ FS.out (HU8.out.below hb hB8) (Nat.le_trans hB8 hb.size)).mono ?_; rintro e w' ⟨A5, c5, rfl, o5, hb'⟩; dsimp only
    replace O1 := Aid.hid (own_keeps O1.out hb')
    replace O2 := Aid.hid (own_keeps O2.out hb')
    replace O3 := Aid.hid (own_keeps O3.out hb')
    have O5 := Aid.hid (own_lowers o5 hb.size)
    clear o5
    refine hK.out _ _ (hb.trans (hb'.mono hb.size)) (fun hHeld => ?_)
    clear hb hb'
    have hb := hHeld
    clear hK K
    try simp only [Act.put, List.setIfInBounds_toArray, List.set_cons_zero, List.set_cons_succ]
    apply Ord.walk_heavy
    next => (simp only [List.getElem?_toArray, List.getElem?_cons_succ, List.getElem?_cons_zero]; rfl)
    next => rfl
    intro K hK
    go_wp2_with fail
    refine (sameInts_b A2 A5 c2 c5 _ _ fs _ (IntsAt.of_own O2.out) (IntsAt.of_own O5.out) (by omega)).mono ?_; rintro e w' ⟨rfl, hb'⟩; dsimp only
    replace O1 := Aid.hid (own_keeps O1.out hb')
    replace O2 := Aid.hid (own_keeps O2.out hb')
    replace O3 := Aid.hid (own_keeps O3.out hb')
    refine hK.out _ _ (hb.trans (hb'.mono hb.size)) (fun hHeld => ?_)
    clear hb hb'
    have hb := hHeld
    clear O5
    clear hK K
    try simp only [Act.put, List.setIfInBounds_toArray, List.set_cons_zero, List.set_cons_succ]
    apply Ord.walk_light
    next => (simp only [List.getElem?_toArray, List.getElem?_cons_succ, List.getElem?_cons_zero]; rfl)
    next => rfl
    next => (intro w' hSw; have k0 := (hSw.cell (p := ⟨pb, 0, none⟩) hp8).trans PC.out; have k1 := (hSw.cell (p := ⟨qa, 0, none⟩) ha8).trans XA0.out; have k2 := (hSw.cell (p := ⟨qa, 1, none⟩) ha8).trans XA1.out; have k3 := (hSw.cell (p := ⟨qb, 0, none⟩) hb8).trans XB0.out; have k4 := (hSw.cell (p := ⟨qb, 1, none⟩) hb8).trans XB1.out; go_simp; first | done | with_reducible rfl)
    simp only [Act.put, List.setIfInBounds_toArray, List.set_cons_zero, List.set_cons_succ]
    apply Ord.walk_light
    next => (simp only [List.getElem?_toArray, List.getElem?_cons_succ, List.getElem?_cons_zero]; rfl)
    next => rfl
    next => (intro w' hSw; have k0 := (hSw.cell (p := ⟨pb, 0, none⟩) hp8).trans PC.out; have k1 := (hSw.cell (p := ⟨qa, 0, none⟩) ha8).trans XA0.out; have k2 := (hSw.cell (p := ⟨qa, 1, none⟩) ha8).trans XA1.out; have k3 := (hSw.cell (p := ⟨qb, 0, none⟩) hb8).trans XB0.out; have k4 := (hSw.cell (p := ⟨qb, 1, none⟩) hb8).trans XB1.out; go_simp; first | done | with_reducible rfl)
    simp only [Act.put, List.setIfInBounds_toArray, List.set_cons_zero, List.set_cons_succ]
    apply Ord.walk_light
    next => (simp only [List.getElem?_toArray, List.getElem?_cons_succ, List.getElem?_cons_zero]; rfl)
    next => rfl
    next => (intro w' hSw; have k0 := (hSw.cell (p := ⟨pb, 0, none⟩) hp8).trans PC.out; have k1 := (hSw.cell (p := ⟨qa, 0, none⟩) ha8).trans XA0.out; have k2 := (hSw.cell (p := ⟨qa, 1, none⟩) ha8).trans XA1.out; have k3 := (hSw.cell (p := ⟨qb, 0, none⟩) hb8).trans XB0.out; have k4 := (hSw.cell (p := ⟨qb, 1, none⟩) hb8).trans XB1.out; go_simp; first | done | with_reducible rfl)
    simp only [Act.put, List.setIfInBounds_toArray, List.set_cons_zero, List.set_cons_succ]
    apply Ord.walk_light
    next => (simp only [List.getElem?_toArray, List.getElem?_cons_succ, List.getElem?_cons_zero]; rfl)
    next => rfl
    next => (intro w' hSw; have k0 := (hSw.cell (p := ⟨pb, 0, none⟩) hp8).trans PC.out; have k1 := (hSw.cell (p := ⟨qa, 0, none⟩) ha8).trans XA0.out; have k2 := (hSw.cell (p := ⟨qa, 1, none⟩) ha8).trans XA1.out; have k3 := (hSw.cell (p := ⟨qb, 0, none⟩) hb8).trans XB0.out; have k4 := (hSw.cell (p := ⟨qb, 1, none⟩) hb8).trans XB1.out; go_simp; first | done | with_reducible rfl)
    simp only [Act.put, List.setIfInBounds_toArray, List.set_cons_zero, List.set_cons_succ]
    apply Ord.walk_light
    next => (simp only [List.getElem?_toArray, List.getElem?_cons_succ, List.getElem?_cons_zero]; rfl)
    next => rfl
    next => (intro w' hSw; have k0 := (hSw.cell (p := ⟨pb, 0, none⟩) hp8).trans PC.out; have k1 := (hSw.cell (p := ⟨qa, 0, none⟩) ha8).trans XA0.out; have k2 := (hSw.cell (p := ⟨qa, 1, none⟩) ha8).trans XA1.out; have k3 := (hSw.cell (p := ⟨qb, 0, none⟩) hb8).trans XB0.out; have k4 := (hSw.cell (p := ⟨qb, 1, none⟩) hb8).trans XB1.out; go_simp; first | done | with_reducible rfl)
    simp only [Act.put, List.setIfInBounds_toArray, List.set_cons_zero, List.set_cons_succ]
    apply Ord.walk_light
    next => (simp only [List.getElem?_toArray, List.getElem?_cons_succ, List.getElem?_cons_zero]; rfl)
    next => rfl
    next => (intro w' hSw; have k0 := (hSw.cell (p := ⟨pb, 0, none⟩) hp8).trans PC.out; have k1 := (hSw.cell (p := ⟨qa, 0, none⟩) ha8).trans XA0.out; have k2 := (hSw.cell (p := ⟨qa, 1, none⟩) ha8).trans XA1.out; have k3 := (hSw.cell (p := ⟨qb, 0, none⟩) hb8).trans XB0.out; have k4 := (hSw.cell (p := ⟨qb, 1, none⟩) hb8).trans XB1.out; go_simp; first | done | with_reducible rfl)
    simp only [Act.put, List.setIfInBounds_toArray, List.set_cons_zero, List.set_cons_succ]
    apply Ord.walk_light
    next => (simp only [List.getElem?_toArray, List.getElem?_cons_succ, List.getElem?_cons_zero]; rfl)
    next => rfl
    next => (intro w' hSw; have k0 := (hSw.cell (p := ⟨pb, 0, none⟩) hp8).trans PC.out; have k1 := (hSw.cell (p := ⟨qa, 0, none⟩) ha8).trans XA0.out; have k2 := (hSw.cell (p := ⟨qa, 1, none⟩) ha8).trans XA1.out; have k3 := (hSw.cell (p := ⟨qb, 0, none⟩) hb8).trans XB0.out; have k4 := (hSw.cell (p := ⟨qb, 1, none⟩) hb8).trans XB1.out; go_simp; first | done | with_reducible rfl)
    simp only [Act.put, List.setIfInBounds_toArray, List.set_cons_zero, List.set_cons_succ]
    apply Ord.walk_light
    next => (simp only [List.getElem?_toArray, List.getElem?_cons_succ, List.getElem?_cons_zero]; rfl)
    next => rfl
    next => (intro w' hSw; have k0 := (hSw.cell (p := ⟨pb, 0, none⟩) hp8).trans PC.out; have k1 := (hSw.cell (p := ⟨qa, 0, none⟩) ha8).trans XA0.out; have k2 := (hSw.cell (p := ⟨qa, 1, none⟩) ha8).trans XA1.out; have k3 := (hSw.cell (p := ⟨qb, 0, none⟩) hb8).trans XB0.out; have k4 := (hSw.cell (p := ⟨qb, 1, none⟩) hb8).trans XB1.out; go_simp; first | done | with_reducible rfl)
    simp only [Act.put, List.setIfInBounds_toArray, List.set_cons_zero, List.set_cons_succ]
    apply Ord.walk_heavy
    next => (simp only [List.getElem?_toArray, List.getElem?_cons_succ, List.getElem?_cons_zero]; rfl)
    next => rfl
    intro K hK
    go_wp2_with fail
    refine (is_is u a w.heap.size cap s t ris _ IS.out (HU8.out.below hb hB8) (Nat.le_trans hB8 hb.size)).mono ?_; rintro e w' ⟨rfl, hb'⟩; dsimp only
    replace O1 := Aid.hid (own_keeps O1.out hb')
    replace O2 := Aid.hid (own_keeps O2.out hb')
    replace O3 := Aid.hid (own_keeps O3.out hb')
    refine hK.out _ _ (hb.trans (hb'.mono hb.size)) (fun hHeld => ?_)
    clear hb hb'
    have hb := hHeld
    clear hK K
    try simp only [Act.put, List.setIfInBounds_toArray, List.set_cons_zero, List.set_cons_succ]
    apply Ord.walk_heavy
    next => (simp only [List.getElem?_toArray, List.getElem?_cons_succ, List.getElem?_cons_zero]; rfl)
    next => rfl
    intro K hK
    go_wp2_with fail
    refine (ris_is u a w.heap.size cap s t ris _ IS.out (HU8.out.below hb hB8) (Nat.le_trans hB8 hb.size)).mono ?_; rintro e w' ⟨rfl, hb'⟩; dsimp only
    replace O1 := Aid.hid (own_keeps O1.out hb')
    replace O2 := Aid.hid (own_keeps O2.out hb')
    replace O3 := Aid.hid (own_keeps O3.out hb')
    refine hK.out _ _ (hb.trans (hb'.mono hb.size)) (fun hHeld => ?_)
    clear hb hb'
    have hb := hHeld
    clear hK K
    try simp only [Act.put, List.setIfInBounds_toArray, List.set_cons_zero, List.set_cons_succ]
    apply Ord.walk_light
    next => (simp only [List.getElem?_toArray, List.getElem?_cons_succ, List.getElem?_cons_zero]; rfl)
    next => rfl
    next => (intro w' hSw; have k0 := (hSw.cell (p := ⟨pb, 0, none⟩) hp8).trans PC.out; have k1 := (hSw.cell (p := ⟨qa, 0, none⟩) ha8).trans XA0.out; have k2 := (hSw.cell (p := ⟨qa, 1, none⟩) ha8).trans XA1.out; have k3 := (hSw.cell (p := ⟨qb, 0, none⟩) hb8).trans XB0.out; have k4 := (hSw.cell (p := ⟨qb, 1, none⟩) hb8).trans XB1.out; go_simp; first | done | with_reducible rfl)
    simp only [Act.put, List.setIfInBounds_toArray, List.set_cons_zero, List.set_cons_succ]
    apply Ord.walk_light
    next => (simp only [List.getElem?_toArray, List.getElem?_cons_succ, List.getElem?_cons_zero]; rfl)
    next => rfl
    next => (intro w' hSw; have k0 := (hSw.cell (p := ⟨pb, 0, none⟩) hp8).trans PC.out; have k1 := (hSw.cell (p := ⟨qa, 0, none⟩) ha8).trans XA0.out; have k2 := (hSw.cell (p := ⟨qa, 1, none⟩) ha8).trans XA1.out; have k3 := (hSw.cell (p := ⟨qb, 0, none⟩) hb8).trans XB0.out; have k4 := (hSw.cell (p := ⟨qb, 1, none⟩) hb8).trans XB1.out; go_simp; first | done | with_reducible rfl)
    simp only [Act.put, List.setIfInBounds_toArray, List.set_cons_zero, List.set_cons_succ]
    apply Ord.walk_light
    next => (simp only [List.getElem?_toArray, List.getElem?_cons_succ, List.getElem?_cons_zero]; rfl)
    next => rfl
    next => (intro w' hSw; have k0 := (hSw.cell (p := ⟨pb, 0, none⟩) hp8).trans PC.out; have k1 := (hSw.cell (p := ⟨qa, 0, none⟩) ha8).trans XA0.out; have k2 := (hSw.cell (p := ⟨qa, 1, none⟩) ha8).trans XA1.out; have k3 := (hSw.cell (p := ⟨qb, 0, none⟩) hb8).trans XB0.out; have k4 := (hSw.cell (p := ⟨qb, 1, none⟩) hb8).trans XB1.out; go_simp; first | done | with_reducible rfl)
    simp only [Act.put, List.setIfInBounds_toArray, List.set_cons_zero, List.set_cons_succ]
    apply Ord.walk_light
    next => (simp only [List.getElem?_toArray, List.getElem?_cons_succ, List.getElem?_cons_zero]; rfl)
    next => rfl
    next => (intro w' hSw; have k0 := (hSw.cell (p := ⟨pb, 0, none⟩) hp8).trans PC.out; have k1 := (hSw.cell (p := ⟨qa, 0, none⟩) ha8).trans XA0.out; have k2 := (hSw.cell (p := ⟨qa, 1, none⟩) ha8).trans XA1.out; have k3 := (hSw.cell (p := ⟨qb, 0, none⟩) hb8).trans XB0.out; have k4 := (hSw.cell (p := ⟨qb, 1, none⟩) hb8).trans XB1.out; go_simp; first | done | with_reducible rfl)
    simp only [Act.put, List.setIfInBounds_toArray, List.set_cons_zero, List.set_cons_succ]
    apply Ord.walk_light
    next => (simp only [List.getElem?_toArray, List.getElem?_cons_succ, List.getElem?_cons_zero]; rfl)
    next => rfl
    next => (intro w' hSw; have k0 := (hSw.cell (p := ⟨pb, 0, none⟩) hp8).trans PC.out; have k1 := (hSw.cell (p := ⟨qa, 0, none⟩) ha8).trans XA0.out; have k2 := (hSw.cell (p := ⟨qa, 1, none⟩) ha8).trans XA1.out; have k3 := (hSw.cell (p := ⟨qb, 0, none⟩) hb8).trans XB0.out; have k4 := (hSw.cell (p := ⟨qb, 1, none⟩) hb8).trans XB1.out; go_simp; first | done | with_reducible rfl)
    simp only [Act.put, List.setIfInBounds_toArray, List.set_cons_zero, List.set_cons_succ]
    apply Ord.walk_light
    next => (simp only [List.getElem?_toArray, List.getElem?_cons_succ, List.getElem?_cons_zero]; rfl)
    next => rfl
    next => (intro w' hSw; have k0 := (hSw.cell (p := ⟨pb, 0, none⟩) hp8).trans PC.out; have k1 := (hSw.cell (p := ⟨qa, 0, none⟩) ha8).trans XA0.out; have k2 := (hSw.cell (p := ⟨qa, 1, none⟩) ha8).trans XA1.out; have k3 := (hSw.cell (p := ⟨qb, 0, none⟩) hb8).trans XB0.out; have k4 := (hSw.cell (p := ⟨qb, 1, none⟩) hb8).trans XB1.out; go_simp; first | done | with_reducible rfl)
    simp only [Act.put, List.setIfInBounds_toArray, List.set_cons_zero, List.set_cons_succ]
    apply Ord.walk_light
    next => (simp only [List.getElem?_toArray, List.getElem?_cons_succ, List.getElem?_cons_zero]; rfl)
    next => rfl
    next => (intro w' hSw; have k0 := (hSw.cell (p := ⟨pb, 0, none⟩) hp8).trans PC.out; have k1 := (hSw.cell (p := ⟨qa, 0, none⟩) ha8).trans XA0.out; have k2 := (hSw.cell (p := ⟨qa, 1, none⟩) ha8).trans XA1.out; have k3 := (hSw.cell (p := ⟨qb, 0, none⟩) hb8).trans XB0.out; have k4 := (hSw.cell (p := ⟨qb, 1, none⟩) hb8).trans XB1.out; go_simp; first | done | with_reducible rfl)
    simp only [Act.put, List.setIfInBounds_toArray, List.set_cons_zero, List.set_cons_succ]
    apply Ord.walk_light
    next => (simp only [List.getElem?_toArray, List.getElem?_cons_succ, List.getElem?_cons_zero]; rfl)
    next => rfl
    next => (intro w' hSw; have k0 := (hSw.cell (p := ⟨pb, 0, none⟩) hp8).trans PC.out; have k1 := (hSw.cell (p := ⟨qa, 0, none⟩) ha8).trans XA0.out; have k2 := (hSw.cell (p := ⟨qa, 1, none⟩) ha8).trans XA1.out; have k3 := (hSw.cell (p := ⟨qb, 0, none⟩) hb8).trans XB0.out; have k4 := (hSw.cell (p := ⟨qb, 1, none⟩) hb8).trans XB1.out; go_simp; first | done | with_reducible rfl)
    simp only [Act.put, List.setIfInBounds_toArray, List.set_cons_zero, List.set_cons_succ]
    apply Ord.walk_light
    next => (simp only [List.getElem?_toArray, List.getElem?_cons_succ, List.getElem?_cons_zero]; rfl)
    next => rfl
    next => (intro w' hSw; have k0 := (hSw.cell (p := ⟨pb, 0, none⟩) hp8).trans PC.out; have k1 := (hSw.cell (p := ⟨qa, 0, none⟩) ha8).trans XA0.out; have k2 := (hSw.cell (p := ⟨qa, 1, none⟩) ha8).trans XA1.out; have k3 := (hSw.cell (p := ⟨qb, 0, none⟩) hb8).trans XB0.out; have k4 := (hSw.cell (p := ⟨qb, 1, none⟩) hb8).trans XB1.out; go_simp; first | done | with_reducible rfl)
    simp only [Act.put, List.setIfInBounds_toArray, List.set_cons_zero, List.set_cons_succ]
    apply Ord.walk_light
    next => (simp only [List.getElem?_toArray, List.getElem?_cons_succ, List.getElem?_cons_zero]; rfl)
    next => rfl
    next => (intro w' hSw; have k0 := (hSw.cell (p := ⟨pb, 0, none⟩) hp8).trans PC.out; have k1 := (hSw.cell (p := ⟨qa, 0, none⟩) ha8).trans XA0.out; have k2 := (hSw.cell (p := ⟨qa, 1, none⟩) ha8).trans XA1.out; have k3 := (hSw.cell (p := ⟨qb, 0, none⟩) hb8).trans XB0.out; have k4 := (hSw.cell (p := ⟨qb, 1, none⟩) hb8).trans XB1.out; go_simp; first | done | with_reducible rfl)
    simp only [Act.put, List.setIfInBounds_toArray, List.set_cons_zero, List.set_cons_succ]
    apply Ord.walk_light
    next => (simp only [List.getElem?_toArray, List.getElem?_cons_succ, List.getElem?_cons_zero]; rfl)
    next => rfl
    next => (intro w' hSw; have k0 := (hSw.cell (p := ⟨pb, 0, none⟩) hp8).trans PC.out; have k1 := (hSw.cell (p := ⟨qa, 0, none⟩) ha8).trans XA0.out; have k2 := (hSw.cell (p := ⟨qa, 1, none⟩) ha8).trans XA1.out; have k3 := (hSw.cell (p := ⟨qb, 0, none⟩) hb8).trans XB0.out; have k4 := (hSw.cell (p := ⟨qb, 1, none⟩) hb8).trans XB1.out; go_simp; first | done | with_reducible rfl)
    simp only [Act.put, List.setIfInBounds_toArray, List.set_cons_zero, List.set_cons_succ]
    apply Ord.walk_light
    next => (simp only [List.getElem?_toArray, List.getElem?_cons_succ, List.getElem?_cons_zero]; rfl)
    next => rfl
    next => (intro w' hSw; have k0 := (hSw.cell (p := ⟨pb, 0, none⟩) hp8).trans PC.out; have k1 := (hSw.cell (p := ⟨qa, 0, none⟩) ha8).trans XA0.out; have k2 := (hSw.cell (p := ⟨qa, 1, none⟩) ha8).trans XA1.out; have k3 := (hSw.cell (p := ⟨qb, 0, none⟩) hb8).trans XB0.out; have k4 := (hSw.cell (p := ⟨qb, 1, none⟩) hb8).trans XB1.out; go_simp; first | done | with_reducible rfl)
    simp only [Act.put, List.setIfInBounds_toArray, List.set_cons_zero, List.set_cons_succ]
    apply Ord.walk_light
    next => (simp only [List.getElem?_toArray, List.getElem?_cons_succ, List.getElem?_cons_zero]; rfl)
    next => rfl
    next => (intro w' hSw; have k0 := (hSw.cell (p := ⟨pb, 0, none⟩) hp8).trans PC.out; have k1 := (hSw.cell (p := ⟨qa, 0, none⟩) ha8).trans XA0.out; have k2 := (hSw.cell (p := ⟨qa, 1, none⟩) ha8).trans XA1.out; have k3 := (hSw.cell (p := ⟨qb, 0, none⟩) hb8).trans XB0.out; have k4 := (hSw.cell (p := ⟨qb, 1, none⟩) hb8).trans XB1.out; go_simp; first | done | with_reducible rfl)
    simp only [Act.put, List.setIfInBounds_toArray, List.set_cons_zero, List.set_cons_succ]
    apply Ord.walk_light
    next => (simp only [List.getElem?_toArray, List.getElem?_cons_succ, List.getElem?_cons_zero]; rfl)
    next => rfl
    next => (intro w' hSw; have k0 := (hSw.cell (p := ⟨pb, 0, none⟩) hp8).trans PC.out; have k1 := (hSw.cell (p := ⟨qa, 0, none⟩) ha8).trans XA0.out; have k2 := (hSw.cell (p := ⟨qa, 1, none⟩) ha8).trans XA1.out; have k3 := (hSw.cell (p := ⟨qb, 0, none⟩) hb8).trans XB0.out; have k4 := (hSw.cell (p := ⟨qb, 1, none⟩) hb8).trans XB1.out; go_simp; first | done | with_reducible rfl)
    simp only [Act.put, List.setIfInBounds_toArray, List.set_cons_zero, List.set_cons_succ]
    apply Ord.walk_light
    next => (simp only [List.getElem?_toArray, List.getElem?_cons_succ, List.getElem?_cons_zero]; rfl)
    next => rfl
    next => (intro w' hSw; have k0 := (hSw.cell (p := ⟨pb, 0, none⟩) hp8).trans PC.out; have k1 := (hSw.cell (p := ⟨qa, 0, none⟩) ha8).trans XA0.out; have k2 := (hSw.cell (p := ⟨qa, 1, none⟩) ha8).trans XA1.out; have k3 := (hSw.cell (p := ⟨qb, 0, none⟩) hb8).trans XB0.out; have k4 := (hSw.cell (p := ⟨qb, 1, none⟩) hb8).trans XB1.out; go_simp; first | done | with_reducible rfl)
    simp only [Act.put, List.setIfInBounds_toArray, List.set_cons_zero, List.set_cons_succ]
    apply Ord.walk_light
    next => (simp only [List.getElem?_toArray, List.getElem?_cons_succ, List.getElem?_cons_zero]; rfl)
    next => rfl
    next => (intro w' hSw; have k0 := (hSw.cell (p := ⟨pb, 0, none⟩) hp8).trans PC.out; have k1 := (hSw.cell (p := ⟨qa, 0, none⟩) ha8).trans XA0.out; have k2 := (hSw.cell (p := ⟨qa, 1, none⟩) ha8).trans XA1.out; have k3 := (hSw.cell (p := ⟨qb, 0, none⟩) hb8).trans XB0.out; have k4 := (hSw.cell (p := ⟨qb, 1, none⟩) hb8).trans XB1.out; go_simp; first | done | with_reducible rfl)
    simp only [Act.put, List.setIfInBounds_toArray, List.set_cons_zero, List.set_cons_succ]
    apply Ord.walk_heavy
    next => (simp only [List.getElem?_toArray, List.getElem?_cons_succ, List.getElem?_cons_zero]; rfl)
    next => rfl
    intro K hK
    go_wp2_with fail
    refine (rfields_is u a w.heap.size cap d1 vs _ VS.out (HU8.out.below hb hB8) (Nat.le_trans hB8 hb.size) (by omega) HM.out).mono ?_; rintro e w' ⟨A6, c6, rfl, o6, hb'⟩; dsimp only
    replace O1 := Aid.hid (own_keeps O1.out hb')
    replace O2 := Aid.hid (own_keeps O2.out hb')
    replace O3 := Aid.hid (own_keeps O3.out hb')
    have O6 := Aid.hid (own_lowers o6 hb.size)
    clear o6
    refine hK.out _ _ (hb.trans (hb'.mono hb.size)) (fun hHeld => ?_)
    clear hb hb'
    have hb := hHeld
    clear hK K
    try simp only [Act.put, List.setIfInBounds_toArray, List.set_cons_zero, List.set_cons_succ]
    apply Ord.walk_heavy
    next => (simp only [List.getElem?_toArray, List.getElem?_cons_succ, List.getElem?_cons_zero]; rfl)
    next => rfl
    intro K hK
    go_wp2_with fail
    refine (sameVars_b A3 A6 c3 c6 _ _ vs _ (rows_own O3.out) (rows_own O6.out) (by omega)).mono ?_; rintro e w' ⟨rfl, hb'⟩; dsimp only
    replace O1 := Aid.hid (own_keeps O1.out hb')
    replace O2 := Aid.hid (own_keeps O2.out hb')
    replace O3 := Aid.hid (own_keeps O3.out hb')
    refine hK.out _ _ (hb.trans (hb'.mono hb.size)) (fun hHeld => ?_)
    clear hb hb'
    have hb := hHeld
    clear O6
    clear hK K
    try simp only [Act.put, List.setIfInBounds_toArray, List.set_cons_zero, List.set_cons_succ]
    apply Ord.walk_light
    next => (simp only [List.getElem?_toArray, List.getElem?_cons_succ, List.getElem?_cons_zero]; rfl)
    next => rfl
    next => (intro w' hSw; have k0 := (hSw.cell (p := ⟨pb, 0, none⟩) hp8).trans PC.out; have k1 := (hSw.cell (p := ⟨qa, 0, none⟩) ha8).trans XA0.out; have k2 := (hSw.cell (p := ⟨qa, 1, none⟩) ha8).trans XA1.out; have k3 := (hSw.cell (p := ⟨qb, 0, none⟩) hb8).trans XB0.out; have k4 := (hSw.cell (p := ⟨qb, 1, none⟩) hb8).trans XB1.out; go_simp; first | done | with_reducible rfl)
    simp only [Act.put, List.setIfInBounds_toArray, List.set_cons_zero, List.set_cons_succ]
    refine Ord.walk_tail ?_; simp only [List.drop_succ_cons, List.drop_zero]
    go_wp2_with fail
    refine (overInts_g A1 c1 _ ch _ O1.out lc).mono ?_; rintro e w9 ⟨rfl, hg9⟩
    have O2b := Aid.hid (O2.out.kept hg9 (apart_kept P21.out))
    have O3b := Aid.hid (O3.out.kept hg9 (apart_kept P31.out))
    have hb9 := hb.trans ((grown_below O1.out hg9 (Nat.le_refl _) hb.size))
    clear hb hg9 O1 O2 O3
    go_wp2_with fail
    refine (overInts_g A2 c2 _ fs _ O2b.out lf).mono ?_; rintro e w10 ⟨rfl, hg10⟩
    have O3c := Aid.hid (O3b.out.kept hg10 (apart_kept P32.out))
    have hb10 := hb9.trans (grown_below O2b.out hg10 (Nat.le_refl _) hb9.size)
    clear hb9 hg10 O2b O3b
    go_wp2_with fail
    refine (overVars_g A3 c3 _ vs.length _ _ O3c.out (Vd.one (l := vs)) lv).mono ?_; rintro e w11 ⟨rfl, hg11⟩
    have hb := (hb10.trans (grown_below O3c.out hg11 (Nat.le_refl _) hb10.size)).drew
    clear hb10 hg11 O3c
    go_wp2_with fail
    refine Ord.wp_region_walk (fun w' => Below W8.heap.size W8 w') 13 [(true, 0), (true, 1), (true, 2), (true, 3), (true, 5), (true, 6), (false, 4), (false, 7), (false, 8), (true, 9), (true, 10), (false, 11), (true, 12)] (by kernel_rfl) (by kernel_rfl) (fun _ _ d _ _ h => by cases d <;> exact h) (hb) ?_
    apply Ord.walk_light
    next => (simp only [List.getElem?_toArray, List.getElem?_cons_zero]; rfl)
    next => rfl
    next => (intro w' hSw; have k0 := (hSw.cell (p := ⟨pb, 0, none⟩) hp8).trans PC.out; have k1 := (hSw.cell (p := ⟨qa, 0, none⟩) ha8).trans XA0.out; have k2 := (hSw.cell (p := ⟨qa, 1, none⟩) ha8).trans XA1.out; have k3 := (hSw.cell (p := ⟨qb, 0, none⟩) hb8).trans XB0.out; have k4 := (hSw.cell (p := ⟨qb, 1, none⟩) hb8).trans XB1.out; go_simp; first | done | with_reducible rfl)
    simp only [Act.put, List.setIfInBounds_toArray, List.set_cons_zero, List.set_cons_succ]
    apply Ord.walk_light
    next => (simp only [List.getElem?_toArray, List.getElem?_cons_succ, List.getElem?_cons_zero]; rfl)
    next => rfl
    next => (intro w' hSw; have k0 := (hSw.cell (p := ⟨pb, 0, none⟩) hp8).trans PC.out; have k1 := (hSw.cell (p := ⟨qa, 0, none⟩) ha8).trans XA0.out; have k2 := (hSw.cell (p := ⟨qa, 1, none⟩) ha8).trans XA1.out; have k3 := (hSw.cell (p := ⟨qb, 0, none⟩) hb8).trans XB0.out; have k4 := (hSw.cell (p := ⟨qb, 1, none⟩) hb8).trans XB1.out; go_simp; first | done | with_reducible rfl)
    simp only [Act.put, List.setIfInBounds_toArray, List.set_cons_zero, List.set_cons_succ]
    apply Ord.walk_light
    next => (simp only [List.getElem?_toArray, List.getElem?_cons_succ, List.getElem?_cons_zero]; rfl)
    next => rfl
    next => (intro w' hSw; have k0 := (hSw.cell (p := ⟨pb, 0, none⟩) hp8).trans PC.out; have k1 := (hSw.cell (p := ⟨qa, 0, none⟩) ha8).trans XA0.out; have k2 := (hSw.cell (p := ⟨qa, 1, none⟩) ha8).trans XA1.out; have k3 := (hSw.cell (p := ⟨qb, 0, none⟩) hb8).trans XB0.out; have k4 := (hSw.cell (p := ⟨qb, 1, none⟩) hb8).trans XB1.out; go_simp; first | done | with_reducible rfl)
    simp only [Act.put, List.setIfInBounds_toArray, List.set_cons_zero, List.set_cons_succ]
    apply Ord.walk_light
    next => (simp only [List.getElem?_toArray, List.getElem?_cons_succ, List.getElem?_cons_zero]; rfl)
    next => rfl
    next => (intro w' hSw; have k0 := (hSw.cell (p := ⟨pb, 0, none⟩) hp8).trans PC.out; have k1 := (hSw.cell (p := ⟨qa, 0, none⟩) ha8).trans XA0.out; have k2 := (hSw.cell (p := ⟨qa, 1, none⟩) ha8).trans XA1.out; have k3 := (hSw.cell (p := ⟨qb, 0, none⟩) hb8).trans XB0.out; have k4 := (hSw.cell (p := ⟨qb, 1, none⟩) hb8).trans XB1.out; go_simp; first | done | with_reducible rfl)
    simp only [Act.put, List.setIfInBounds_toArray, List.set_cons_zero, List.set_cons_succ]
    apply Ord.walk_light
    next => (simp only [List.getElem?_toArray, List.getElem?_cons_succ, List.getElem?_cons_zero]; rfl)
    next => rfl
    next => (intro w' hSw; have k0 := (hSw.cell (p := ⟨pb, 0, none⟩) hp8).trans PC.out; have k1 := (hSw.cell (p := ⟨qa, 0, none⟩) ha8).trans XA0.out; have k2 := (hSw.cell (p := ⟨qa, 1, none⟩) ha8).trans XA1.out; have k3 := (hSw.cell (p := ⟨qb, 0, none⟩) hb8).trans XB0.out; have k4 := (hSw.cell (p := ⟨qb, 1, none⟩) hb8).trans XB1.out; go_simp; first | done | with_reducible rfl)
    simp only [Act.put, List.setIfInBounds_toArray, List.set_cons_zero, List.set_cons_succ]
    apply Ord.walk_light
    next => (simp only [List.getElem?_toArray, List.getElem?_cons_succ, List.getElem?_cons_zero]; rfl)
    next => rfl
    next => (intro w' hSw; have k0 := (hSw.cell (p := ⟨pb, 0, none⟩) hp8).trans PC.out; have k1 := (hSw.cell (p := ⟨qa, 0, none⟩) ha8).trans XA0.out; have k2 := (hSw.cell (p := ⟨qa, 1, none⟩) ha8).trans XA1.out; have k3 := (hSw.cell (p := ⟨qb, 0, none⟩) hb8).trans XB0.out; have k4 := (hSw.cell (p := ⟨qb, 1, none⟩) hb8).trans XB1.out; go_simp; first | done | with_reducible rfl)
    simp only [Act.put, List.setIfInBounds_toArray, List.set_cons_zero, List.set_cons_succ]
    apply Ord.walk_heavy
    next => (simp only [List.getElem?_toArray, List.getElem?_cons_succ, List.getElem?_cons_zero]; rfl)
    next => rfl
    intro K hK
    go_wp2_with fail
    refine (fields_is u a w.heap.size cap d1 vs _ VS.out (HU8.out.below hb hB8) (Nat.le_trans hB8 hb.size) (by omega) HM.out).mono ?_; rintro e w' ⟨A7, c7, rfl, o7, hb'⟩; dsimp only
    have O7 := Aid.hid (own_lowers o7 hb.size)
    clear o7
    refine hK.out _ _ (hb.trans (hb'.mono hb.size)) (fun hHeld => ?_)
    clear hb hb'
    have hb := hHeld
    clear hK K
    try simp only [Act.put, List.setIfInBounds_toArray, List.set_cons_zero, List.set_cons_succ]
    apply Ord.walk_heavy
    next => (simp only [List.getElem?_toArray, List.getElem?_cons_succ, List.getElem?_cons_zero]; rfl)
    next => rfl
    intro K hK
    go_wp2_with fail
    refine (rfields_is u a w.heap.size cap d1 vs _ VS.out (HU8.out.below hb hB8) (Nat.le_trans hB8 hb.size) (by omega) HM.out).mono ?_; rintro e w' ⟨A8, c8, rfl, o8, hb'⟩; dsimp only
    replace O7 := Aid.hid (own_keeps O7.out hb')
    have O8 := Aid.hid (own_lowers o8 hb.size)
    clear o8
    refine hK.out _ _ (hb.trans (hb'.mono hb.size)) (fun hHeld => ?_)
    clear hb hb'
    have hb := hHeld
    clear hK K
    try simp only [Act.put, List.setIfInBounds_toArray, List.set_cons_zero, List.set_cons_succ]
    apply Ord.walk_heavy
    next => (simp only [List.getElem?_toArray, List.getElem?_cons_succ, List.getElem?_cons_zero]; rfl)
    next => rfl
    intro K hK
    go_wp2_with fail
    refine (sameVars_b A7 A8 c7 c8 _ _ vs _ (rows_own O7.out) (rows_own O8.out) (by omega)).mono ?_; rintro e w' ⟨rfl, hb'⟩; dsimp only
    replace O7 := Aid.hid (own_keeps O7.out hb')
    refine hK.out _ _ (hb.trans (hb'.mono hb.size)) (fun hHeld => ?_)
    clear hb hb'
    have hb := hHeld
    clear O8
    clear hK K
    try simp only [Act.put, List.setIfInBounds_toArray, List.set_cons_zero, List.set_cons_succ]
    apply Ord.walk_light
    next => (simp only [List.getElem?_toArray, List.getElem?_cons_succ, List.getElem?_cons_zero]; rfl)
    next => rfl
    next => (intro w' hSw; have k0 := (hSw.cell (p := ⟨pb, 0, none⟩) hp8).trans PC.out; have k1 := (hSw.cell (p := ⟨qa, 0, none⟩) ha8).trans XA0.out; have k2 := (hSw.cell (p := ⟨qa, 1, none⟩) ha8).trans XA1.out; have k3 := (hSw.cell (p := ⟨qb, 0, none⟩) hb8).trans XB0.out; have k4 := (hSw.cell (p := ⟨qb, 1, none⟩) hb8).trans XB1.out; go_simp; first | done | with_reducible rfl)
    simp only [Act.put, List.setIfInBounds_toArray, List.set_cons_zero, List.set_cons_succ]
    apply Ord.walk_light
    next => (simp only [List.getElem?_toArray, List.getElem?_cons_succ, List.getElem?_cons_zero]; rfl)
    next => rfl
    next => (intro w' hSw; have k0 := (hSw.cell (p := ⟨pb, 0, none⟩) hp8).trans PC.out; have k1 := (hSw.cell (p := ⟨qa, 0, none⟩) ha8).trans XA0.out; have k2 := (hSw.cell (p := ⟨qa, 1, none⟩) ha8).trans XA1.out; have k3 := (hSw.cell (p := ⟨qb, 0, none⟩) hb8).trans XB0.out; have k4 := (hSw.cell (p := ⟨qb, 1, none⟩) hb8).trans XB1.out; go_simp; first | done | with_reducible rfl)
    simp only [Act.put, List.setIfInBounds_toArray, List.set_cons_zero, List.set_cons_succ]
    apply Ord.walk_heavy
    next => (simp only [List.getElem?_toArray, List.getElem?_cons_succ, List.getElem?_cons_zero]; rfl)
    next => rfl
    intro K hK
    go_wp2_with fail
    refine (awake_any _).mono ?_; rintro e w' ⟨rfl, hb'⟩; dsimp only
    refine hK.out _ _ (hb.trans (hb'.mono hb.size)) (fun hHeld => ?_)
    clear hb hb'
    have hb := hHeld
    clear hK K
    try simp only [Act.put, List.setIfInBounds_toArray, List.set_cons_zero, List.set_cons_succ]
    apply Ord.walk_light
    next => (simp only [List.getElem?_toArray, List.getElem?_cons_succ, List.getElem?_cons_zero]; rfl)
    next => rfl
    next => (intro w' hSw; have k0 := (hSw.cell (p := ⟨pb, 0, none⟩) hp8).trans PC.out; have k1 := (hSw.cell (p := ⟨qa, 0, none⟩) ha8).trans XA0.out; have k2 := (hSw.cell (p := ⟨qa, 1, none⟩) ha8).trans XA1.out; have k3 := (hSw.cell (p := ⟨qb, 0, none⟩) hb8).trans XB0.out; have k4 := (hSw.cell (p := ⟨qb, 1, none⟩) hb8).trans XB1.out; go_simp; first | done | with_reducible rfl)
    simp only [Act.put, List.setIfInBounds_toArray, List.set_cons_zero, List.set_cons_succ]
    refine Ord.walk_tail ?_; simp only [List.drop_succ_cons, List.drop_zero]
    have FB := Aid.hid (B8.out.trans (hb.mono B8.out.size))
    clear hb
    go_wp2_with fail
    go_ret
    exact ⟨rfl, FB.out⟩
  · go_wp2_with fail
    refine (awake_any _).mono ?_; rintro e w3 ⟨rfl, hb3⟩
    have HB3 := Aid.hid (HB1.out.trans ((HB2.out.trans (hb3.mono HB2.out.size)).mono HB1.out.size))
    clear hb3
    go_wp2_with fail
    go_ret
    exact ⟨rfl, HB3.out⟩
/-- The law, of any unit whose lists of variables are of at most 2^20. -/
theorem tableTells_any (u : List Dk) (a : Option Addr) (cap : Nat) (d : Int) (s t : ByteArray) (w : World) (hu : u.length ≤ 1000000000 → UnitAt w w.heap.size a u) (hM : u.length ≤ 1000000000 → ∀ x ∈ u, x.vs.length ≤ 1048576) :
    Calls Try.prog 5 #[.agg #[.slice a u.length cap], .int .i64 d, .string s, .string t] w fun e w' => e = .returned (.bool true) ∧ Below w.heap.size w w' := by
  by_cases hb : 16 < u.length
  · exact tableTells_big u a cap d s t w hb
  · by_cases hs : s.size ≤ 60
    · by_cases ht : t.size ≤ 60
      · exact tableTells_main u a cap d s t w (hu (by omega)) (by omega) (hM (by omega)) hs ht
      · exact tableTells_longB u a cap d s t w (hu (by omega)) (by omega) hs (by omega)
    · exact tableTells_longA u a cap d s t w (hu (by omega)) (by omega) (by omega)
end Go.Proofs.Ytjhlcfaakhabfaa
