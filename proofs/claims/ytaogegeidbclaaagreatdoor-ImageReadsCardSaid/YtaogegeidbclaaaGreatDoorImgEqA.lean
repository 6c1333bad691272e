/- Lists of flat things, compared: by the library, by the laws. -/
import Derived.Test.YtaogegeidbclaaaGreatDoorImgEqL
namespace Go.Proofs.YtaogegeidbclaaaGreatDoor
open Go.RowKit

set_option maxRecDepth 100000 in
set_option maxHeartbeats 2000000 in
theorem eqInts (A C : Option Addr) (c d B B' : Nat) (xs ys : List Int) (w : World) (hx : LNums w B A xs) (hy : LNums w B' C ys) :
    Calls Tryz.prog 34 #[.slice A xs.length c, .slice C ys.length d] w fun e w' => e = .returned (.bool (eqAll Int.eqb xs ys)) ∧ ∃ n, w' = w.drewN n := by
  have lx : xs.length ≤ 9223372036854775807 := hx.1
  have HX := Aid.hid hx; have HY := Aid.hid hy
  clear hx hy
  by_cases hl : xs.length = ys.length
  · have FIN : Hid (EqTo Int.eqb xs ys xs.length → eqAll Int.eqb xs ys = true) := Aid.hid (fun h => EqTo.all hl h)
    have HLY : Hid (∀ k, k < xs.length → ∃ y, ys[k]? = some y) := Aid.hid (fun k h => ⟨_, List.getElem?_eq_getElem (by omega)⟩)
    go_enter Tryz.func34, Tryz.ntmps34
    try simp only [List.append_eq, List.cons_append, List.nil_append]
    rw [← hl]
    clear hl
    go_wp2_with fail
    go_loopw [13] (fun i wr => ∃ k : Nat, i = .int .i64 k ∧ k ≤ xs.length ∧ Hid (EqTo Int.eqb xs ys k) ∧ ∃ n, wr = w.drewN n) (fun i _ => xs.length - (intOf i).toNat)
    case atStart => exact ⟨0, rfl, Nat.zero_le _, Aid.hid (EqTo.zero _ _), 0, rfl⟩
    case round =>
      obtain ⟨k, rfl, hk, E, n, rfl⟩ := hrel
      by_cases hlt : k < xs.length
      · obtain ⟨x, hx⟩ : ∃ x, xs[k]? = some x := ⟨_, List.getElem?_eq_getElem hlt⟩
        obtain ⟨y, hy⟩ := HLY.out k hlt
        obtain ⟨b1, o1, rfl, _, hc1⟩ := Rows.get HX.out.2 hx
        obtain ⟨b2, o2, rfl, _, hc2⟩ := Rows.get HY.out.2 hy
        have NX : Hid (Int.eqb x y = true → EqTo Int.eqb xs ys (k + 1)) := Aid.hid (fun h => EqTo.next E.out hx hy h)
        have NE : Hid (Int.eqb x y = false → eqAll Int.eqb xs ys = false) := Aid.hid (fun h => eqAll_no hx hy h)
        obtain ⟨wr, hwr⟩ : ∃ wr, wr = w.drewN n := ⟨_, rfl⟩
        have c0 : wr.cell? ⟨b1, o1 + k * 1 + 0, none⟩ = some (.int .i64 x) := by rw [hwr]; exact hc1 0 _ rfl
        have d0 : wr.cell? ⟨b2, o2 + k * 1 + 0, none⟩ = some (.int .i64 y) := by rw [hwr]; exact hc2 0 _ rfl
        simp only [Nat.mul_one, Nat.add_zero] at c0 d0
        rw [← hwr]
        have HW := Aid.hid hwr
        clear hc1 hc2 E hwr hx hy
        by_cases h0 : x = y
        · subst h0
          have NR := Aid.hid (NX.out (by simp [Int.eqb]))
          clear NX NE
          go_wp2_with fail
          go_quiet (fail)
          go_wp2_with fail
          go_roundw
          case rel => exact ⟨k + 1, by go_num, by omega, NR, n + nq, by rw [HW.out]; exact drewN_more _ _ _⟩
          case measure => simp [intOf]; omega
        · have g0 : (x == y) = false := by simpa using h0
          have NR := Aid.hid (NE.out (by simp [Int.eqb, h0]))
          clear NX NE
          go_wp2_with fail
          go_quiet (fail)
          go_wp2_with fail
          go_ret
          exact ⟨by rw [NR.out]; rfl, n + nq, by rw [HW.out]; exact drewN_more _ _ _⟩
      · go_wp2_with fail
        go_ret
        exact ⟨Aid.ret_bool (by
          have h := E.out
          rw [show k = xs.length by omega] at h
          exact (FIN.out h).symm), n, rfl⟩
  · have hl2 : ((xs.length : Int) != (ys.length : Int)) = true := by simpa using (by omega : ¬ (xs.length : Int) = ys.length)
    have E := Aid.hid (eqAll_len (f := Int.eqb) hl)
    go_enter Tryz.func34, Tryz.ntmps34
    try simp only [List.append_eq, List.cons_append, List.nil_append]
    go_wp2_with fail
    go_ret
    exact ⟨by rw [E.out]; rfl, 0, rfl⟩
set_option maxRecDepth 100000 in
set_option maxHeartbeats 2000000 in
theorem eqTexts (A C : Option Addr) (c d B B' : Nat) (xs ys : List ByteArray) (w : World) (hx : LTexts w B A xs) (hy : LTexts w B' C ys) :
    Calls Tryz.prog 33 #[.slice A xs.length c, .slice C ys.length d] w fun e w' => e = .returned (.bool (eqAll Txt.eqb xs ys)) ∧ ∃ n, w' = w.drewN n := by
  have lx : xs.length ≤ 9223372036854775807 := hx.1
  have HX := Aid.hid hx; have HY := Aid.hid hy
  clear hx hy
  by_cases hl : xs.length = ys.length
  · have FIN : Hid (EqTo Txt.eqb xs ys xs.length → eqAll Txt.eqb xs ys = true) := Aid.hid (fun h => EqTo.all hl h)
    have HLY : Hid (∀ k, k < xs.length → ∃ y, ys[k]? = some y) := Aid.hid (fun k h => ⟨_, List.getElem?_eq_getElem (by omega)⟩)
    go_enter Tryz.func33, Tryz.ntmps33
    try simp only [List.append_eq, List.cons_append, List.nil_append]
    rw [← hl]
    clear hl
    go_wp2_with fail
    go_loopw [13] (fun i wr => ∃ k : Nat, i = .int .i64 k ∧ k ≤ xs.length ∧ Hid (EqTo Txt.eqb xs ys k) ∧ ∃ n, wr = w.drewN n) (fun i _ => xs.length - (intOf i).toNat)
    case atStart => exact ⟨0, rfl, Nat.zero_le _, Aid.hid (EqTo.zero _ _), 0, rfl⟩
    case round =>
      obtain ⟨k, rfl, hk, E, n, rfl⟩ := hrel
      by_cases hlt : k < xs.length
      · obtain ⟨x, hx⟩ : ∃ x, xs[k]? = some x := ⟨_, List.getElem?_eq_getElem hlt⟩
        obtain ⟨y, hy⟩ := HLY.out k hlt
        obtain ⟨b1, o1, rfl, _, hc1⟩ := Rows.get HX.out.2 hx
        obtain ⟨b2, o2, rfl, _, hc2⟩ := Rows.get HY.out.2 hy
        have NX : Hid (Txt.eqb x y = true → EqTo Txt.eqb xs ys (k + 1)) := Aid.hid (fun h => EqTo.next E.out hx hy h)
        have NE : Hid (Txt.eqb x y = false → eqAll Txt.eqb xs ys = false) := Aid.hid (fun h => eqAll_no hx hy h)
        obtain ⟨wr, hwr⟩ : ∃ wr, wr = w.drewN n := ⟨_, rfl⟩
        have c0 : wr.cell? ⟨b1, o1 + k * 1 + 0, none⟩ = some (.string x) := by rw [hwr]; exact hc1 0 _ rfl
        have d0 : wr.cell? ⟨b2, o2 + k * 1 + 0, none⟩ = some (.string y) := by rw [hwr]; exact hc2 0 _ rfl
        simp only [Nat.mul_one, Nat.add_zero] at c0 d0
        rw [← hwr]
        have HW := Aid.hid hwr
        clear hc1 hc2 E hwr hx hy
        by_cases h0 : (x.toList == y.toList) = true
        · have NR := Aid.hid (NX.out h0)
          clear NX NE
          go_wp2_with fail
          go_quiet (fail)
          go_wp2_with fail
          go_roundw
          case rel => exact ⟨k + 1, by go_num, by omega, NR, n + nq, by rw [HW.out]; exact drewN_more _ _ _⟩
          case measure => simp [intOf]; omega
        · replace h0 : (x.toList == y.toList) = false := by simpa using h0
          have NR := Aid.hid (NE.out h0)
          clear NX NE
          go_wp2_with fail
          go_quiet (fail)
          go_wp2_with fail
          go_ret
          exact ⟨by rw [NR.out]; rfl, n + nq, by rw [HW.out]; exact drewN_more _ _ _⟩
      · go_wp2_with fail
        go_ret
        exact ⟨Aid.ret_bool (by
          have h := E.out
          rw [show k = xs.length by omega] at h
          exact (FIN.out h).symm), n, rfl⟩
  · have hl2 : ((xs.length : Int) != (ys.length : Int)) = true := by simpa using (by omega : ¬ (xs.length : Int) = ys.length)
    have E := Aid.hid (eqAll_len (f := Txt.eqb) hl)
    go_enter Tryz.func33, Tryz.ntmps33
    try simp only [List.append_eq, List.cons_append, List.nil_append]
    go_wp2_with fail
    go_ret
    exact ⟨by rw [E.out]; rfl, 0, rfl⟩
set_option maxRecDepth 100000 in
set_option maxHeartbeats 2000000 in
theorem eqLinks (A C : Option Addr) (c d B B' : Nat) (xs ys : List Lnk) (w : World) (hx : LLnks w B A xs) (hy : LLnks w B' C ys) :
    Calls Tryz.prog 35 #[.slice A xs.length c, .slice C ys.length d] w fun e w' => e = .returned (.bool (eqAll Lnk.eqb xs ys)) ∧ ∃ n, w' = w.drewN n := by
  have lx : xs.length ≤ 9223372036854775807 := hx.1
  have HX := Aid.hid hx; have HY := Aid.hid hy
  clear hx hy
  by_cases hl : xs.length = ys.length
  · have FIN : Hid (EqTo Lnk.eqb xs ys xs.length → eqAll Lnk.eqb xs ys = true) := Aid.hid (fun h => EqTo.all hl h)
    have HLY : Hid (∀ k, k < xs.length → ∃ y, ys[k]? = some y) := Aid.hid (fun k h => ⟨_, List.getElem?_eq_getElem (by omega)⟩)
    go_enter Tryz.func35, Tryz.ntmps35
    try simp only [List.append_eq, List.cons_append, List.nil_append]
    rw [← hl]
    clear hl
    go_wp2_with fail
    go_loopw [13] (fun i wr => ∃ k : Nat, i = .int .i64 k ∧ k ≤ xs.length ∧ Hid (EqTo Lnk.eqb xs ys k) ∧ ∃ n, wr = w.drewN n) (fun i _ => xs.length - (intOf i).toNat)
    case atStart => exact ⟨0, rfl, Nat.zero_le _, Aid.hid (EqTo.zero _ _), 0, rfl⟩
    case round =>
      obtain ⟨k, rfl, hk, E, n, rfl⟩ := hrel
      by_cases hlt : k < xs.length
      · obtain ⟨x, hx⟩ : ∃ x, xs[k]? = some x := ⟨_, List.getElem?_eq_getElem hlt⟩
        obtain ⟨y, hy⟩ := HLY.out k hlt
        obtain ⟨b1, o1, rfl, _, hc1⟩ := Rows.get HX.out.2 hx
        obtain ⟨b2, o2, rfl, _, hc2⟩ := Rows.get HY.out.2 hy
        have NX : Hid (Lnk.eqb x y = true → EqTo Lnk.eqb xs ys (k + 1)) := Aid.hid (fun h => EqTo.next E.out hx hy h)
        have NE : Hid (Lnk.eqb x y = false → eqAll Lnk.eqb xs ys = false) := Aid.hid (fun h => eqAll_no hx hy h)
        obtain ⟨wr, hwr⟩ : ∃ wr, wr = w.drewN n := ⟨_, rfl⟩
        obtain ⟨x0, x1, x2⟩ := x
        obtain ⟨y0, y1, y2⟩ := y
        have c0 : wr.cell? ⟨b1, o1 + k * 3 + 0, none⟩ = some (.int .i64 x0) := by rw [hwr]; exact hc1 0 _ rfl
        have d0 : wr.cell? ⟨b2, o2 + k * 3 + 0, none⟩ = some (.int .i64 y0) := by rw [hwr]; exact hc2 0 _ rfl
        have c1 : wr.cell? ⟨b1, o1 + k * 3 + 1, none⟩ = some (.int .i64 x1) := by rw [hwr]; exact hc1 1 _ rfl
        have d1 : wr.cell? ⟨b2, o2 + k * 3 + 1, none⟩ = some (.int .i64 y1) := by rw [hwr]; exact hc2 1 _ rfl
        have c2 : wr.cell? ⟨b1, o1 + k * 3 + 2, none⟩ = some (.bool x2) := by rw [hwr]; exact hc1 2 _ rfl
        have d2 : wr.cell? ⟨b2, o2 + k * 3 + 2, none⟩ = some (.bool y2) := by rw [hwr]; exact hc2 2 _ rfl
        simp only [Nat.mul_one, Nat.add_zero] at c0 d0
        rw [← hwr]
        have HW := Aid.hid hwr
        clear hc1 hc2 E hwr hx hy
        by_cases h0 : x0 = y0
        · subst h0
          by_cases h1 : x1 = y1
          · subst h1
            by_cases h2 : x2 = y2
            · subst h2
              have NR := Aid.hid (NX.out (by simp [Lnk.eqb]))
              clear NX NE
              go_wp2_with fail
              go_quiet (fail)
              go_wp2_with fail
              go_roundw
              case rel => exact ⟨k + 1, by go_num, by omega, NR, n + nq, by rw [HW.out]; exact drewN_more _ _ _⟩
              case measure => simp [intOf]; omega
            · have g2 : (x2 == y2) = false := by simpa using h2
              have NR := Aid.hid (NE.out (by simp [Lnk.eqb, h2]))
              clear NX NE
              go_wp2_with fail
              go_quiet (fail)
              go_wp2_with fail
              go_ret
              exact ⟨by rw [NR.out]; rfl, n + nq, by rw [HW.out]; exact drewN_more _ _ _⟩
          · have g1 : (x1 == y1) = false := by simpa using h1
            have NR := Aid.hid (NE.out (by simp [Lnk.eqb, h1]))
            clear NX NE
            go_wp2_with fail
            go_quiet (fail)
            go_wp2_with fail
            go_ret
            exact ⟨by rw [NR.out]; rfl, n + nq, by rw [HW.out]; exact drewN_more _ _ _⟩
        · have g0 : (x0 == y0) = false := by simpa using h0
          have NR := Aid.hid (NE.out (by simp [Lnk.eqb, h0]))
          clear NX NE
          go_wp2_with fail
          go_quiet (fail)
          go_wp2_with fail
          go_ret
          exact ⟨by rw [NR.out]; rfl, n + nq, by rw [HW.out]; exact drewN_more _ _ _⟩
      · go_wp2_with fail
        go_ret
        exact ⟨Aid.ret_bool (by
          have h := E.out
          rw [show k = xs.length by omega] at h
          exact (FIN.out h).symm), n, rfl⟩
  · have hl2 : ((xs.length : Int) != (ys.length : Int)) = true := by simpa using (by omega : ¬ (xs.length : Int) = ys.length)
    have E := Aid.hid (eqAll_len (f := Lnk.eqb) hl)
    go_enter Tryz.func35, Tryz.ntmps35
    try simp only [List.append_eq, List.cons_append, List.nil_append]
    go_wp2_with fail
    go_ret
    exact ⟨by rw [E.out]; rfl, 0, rfl⟩
set_option maxRecDepth 100000 in
set_option maxHeartbeats 2000000 in
theorem eqJobs (A C : Option Addr) (c d B B' : Nat) (xs ys : List Opr) (w : World) (hx : LOps w B A xs) (hy : LOps w B' C ys) :
    Calls Tryz.prog 36 #[.slice A xs.length c, .slice C ys.length d] w fun e w' => e = .returned (.bool (eqAll Opr.eqb xs ys)) ∧ ∃ n, w' = w.drewN n := by
  have lx : xs.length ≤ 9223372036854775807 := hx.1
  have HX := Aid.hid hx; have HY := Aid.hid hy
  clear hx hy
  by_cases hl : xs.length = ys.length
  · have FIN : Hid (EqTo Opr.eqb xs ys xs.length → eqAll Opr.eqb xs ys = true) := Aid.hid (fun h => EqTo.all hl h)
    have HLY : Hid (∀ k, k < xs.length → ∃ y, ys[k]? = some y) := Aid.hid (fun k h => ⟨_, List.getElem?_eq_getElem (by omega)⟩)
    go_enter Tryz.func36, Tryz.ntmps36
    try simp only [List.append_eq, List.cons_append, List.nil_append]
    rw [← hl]
    clear hl
    go_wp2_with fail
    go_loopw [13] (fun i wr => ∃ k : Nat, i = .int .i64 k ∧ k ≤ xs.length ∧ Hid (EqTo Opr.eqb xs ys k) ∧ ∃ n, wr = w.drewN n) (fun i _ => xs.length - (intOf i).toNat)
    case atStart => exact ⟨0, rfl, Nat.zero_le _, Aid.hid (EqTo.zero _ _), 0, rfl⟩
    case round =>
      obtain ⟨k, rfl, hk, E, n, rfl⟩ := hrel
      by_cases hlt : k < xs.length
      · obtain ⟨x, hx⟩ : ∃ x, xs[k]? = some x := ⟨_, List.getElem?_eq_getElem hlt⟩
        obtain ⟨y, hy⟩ := HLY.out k hlt
        obtain ⟨b1, o1, rfl, _, hc1⟩ := Rows.get HX.out.2 hx
        obtain ⟨b2, o2, rfl, _, hc2⟩ := Rows.get HY.out.2 hy
        have NX : Hid (Opr.eqb x y = true → EqTo Opr.eqb xs ys (k + 1)) := Aid.hid (fun h => EqTo.next E.out hx hy h)
        have NE : Hid (Opr.eqb x y = false → eqAll Opr.eqb xs ys = false) := Aid.hid (fun h => eqAll_no hx hy h)
        obtain ⟨wr, hwr⟩ : ∃ wr, wr = w.drewN n := ⟨_, rfl⟩
        obtain ⟨x0, x1, x2⟩ := x
        obtain ⟨y0, y1, y2⟩ := y
        have c0 : wr.cell? ⟨b1, o1 + k * 3 + 0, none⟩ = some (.int .i64 x0) := by rw [hwr]; exact hc1 0 _ rfl
        have d0 : wr.cell? ⟨b2, o2 + k * 3 + 0, none⟩ = some (.int .i64 y0) := by rw [hwr]; exact hc2 0 _ rfl
        have c1 : wr.cell? ⟨b1, o1 + k * 3 + 1, none⟩ = some (.int .i64 x1) := by rw [hwr]; exact hc1 1 _ rfl
        have d1 : wr.cell? ⟨b2, o2 + k * 3 + 1, none⟩ = some (.int .i64 y1) := by rw [hwr]; exact hc2 1 _ rfl
        have c2 : wr.cell? ⟨b1, o1 + k * 3 + 2, none⟩ = some (.int .i64 x2) := by rw [hwr]; exact hc1 2 _ rfl
        have d2 : wr.cell? ⟨b2, o2 + k * 3 + 2, none⟩ = some (.int .i64 y2) := by rw [hwr]; exact hc2 2 _ rfl
        simp only [Nat.mul_one, Nat.add_zero] at c0 d0
        rw [← hwr]
        have HW := Aid.hid hwr
        clear hc1 hc2 E hwr hx hy
        by_cases h0 : x0 = y0
        · subst h0
          by_cases h1 : x1 = y1
          · subst h1
            by_cases h2 : x2 = y2
            · subst h2
              have NR := Aid.hid (NX.out (by simp [Opr.eqb]))
              clear NX NE
              go_wp2_with fail
              go_quiet (fail)
              go_wp2_with fail
              go_roundw
              case rel => exact ⟨k + 1, by go_num, by omega, NR, n + nq, by rw [HW.out]; exact drewN_more _ _ _⟩
              case measure => simp [intOf]; omega
            · have g2 : (x2 == y2) = false := by simpa using h2
              have NR := Aid.hid (NE.out (by simp [Opr.eqb, h2]))
              clear NX NE
              go_wp2_with fail
              go_quiet (fail)
              go_wp2_with fail
              go_ret
              exact ⟨by rw [NR.out]; rfl, n + nq, by rw [HW.out]; exact drewN_more _ _ _⟩
          · have g1 : (x1 == y1) = false := by simpa using h1
            have NR := Aid.hid (NE.out (by simp [Opr.eqb, h1]))
            clear NX NE
            go_wp2_with fail
            go_quiet (fail)
            go_wp2_with fail
            go_ret
            exact ⟨by rw [NR.out]; rfl, n + nq, by rw [HW.out]; exact drewN_more _ _ _⟩
        · have g0 : (x0 == y0) = false := by simpa using h0
          have NR := Aid.hid (NE.out (by simp [Opr.eqb, h0]))
          clear NX NE
          go_wp2_with fail
          go_quiet (fail)
          go_wp2_with fail
          go_ret
          exact ⟨by rw [NR.out]; rfl, n + nq, by rw [HW.out]; exact drewN_more _ _ _⟩
      · go_wp2_with fail
        go_ret
        exact ⟨Aid.ret_bool (by
          have h := E.out
          rw [show k = xs.length by omega] at h
          exact (FIN.out h).symm), n, rfl⟩
  · have hl2 : ((xs.length : Int) != (ys.length : Int)) = true := by simpa using (by omega : ¬ (xs.length : Int) = ys.length)
    have E := Aid.hid (eqAll_len (f := Opr.eqb) hl)
    go_enter Tryz.func36, Tryz.ntmps36
    try simp only [List.append_eq, List.cons_append, List.nil_append]
    go_wp2_with fail
    go_ret
    exact ⟨by rw [E.out]; rfl, 0, rfl⟩
set_option maxRecDepth 100000 in
set_option maxHeartbeats 2000000 in
theorem eqOps (A C : Option Addr) (c d B B' : Nat) (xs ys : List Opr) (w : World) (hx : LOps w B A xs) (hy : LOps w B' C ys) :
    Calls Tryz.prog 71 #[.slice A xs.length c, .slice C ys.length d] w fun e w' => e = .returned (.bool (eqAll Opr.eqb xs ys)) ∧ ∃ n, w' = w.drewN n := by
  have lx : xs.length ≤ 9223372036854775807 := hx.1
  have HX := Aid.hid hx; have HY := Aid.hid hy
  clear hx hy
  by_cases hl : xs.length = ys.length
  · have FIN : Hid (EqTo Opr.eqb xs ys xs.length → eqAll Opr.eqb xs ys = true) := Aid.hid (fun h => EqTo.all hl h)
    have HLY : Hid (∀ k, k < xs.length → ∃ y, ys[k]? = some y) := Aid.hid (fun k h => ⟨_, List.getElem?_eq_getElem (by omega)⟩)
    go_enter Tryz.func71, Tryz.ntmps71
    try simp only [List.append_eq, List.cons_append, List.nil_append]
    rw [← hl]
    clear hl
    go_wp2_with fail
    go_loopw [13] (fun i wr => ∃ k : Nat, i = .int .i64 k ∧ k ≤ xs.length ∧ Hid (EqTo Opr.eqb xs ys k) ∧ ∃ n, wr = w.drewN n) (fun i _ => xs.length - (intOf i).toNat)
    case atStart => exact ⟨0, rfl, Nat.zero_le _, Aid.hid (EqTo.zero _ _), 0, rfl⟩
    case round =>
      obtain ⟨k, rfl, hk, E, n, rfl⟩ := hrel
      by_cases hlt : k < xs.length
      · obtain ⟨x, hx⟩ : ∃ x, xs[k]? = some x := ⟨_, List.getElem?_eq_getElem hlt⟩
        obtain ⟨y, hy⟩ := HLY.out k hlt
        obtain ⟨b1, o1, rfl, _, hc1⟩ := Rows.get HX.out.2 hx
        obtain ⟨b2, o2, rfl, _, hc2⟩ := Rows.get HY.out.2 hy
        have NX : Hid (Opr.eqb x y = true → EqTo Opr.eqb xs ys (k + 1)) := Aid.hid (fun h => EqTo.next E.out hx hy h)
        have NE : Hid (Opr.eqb x y = false → eqAll Opr.eqb xs ys = false) := Aid.hid (fun h => eqAll_no hx hy h)
        obtain ⟨wr, hwr⟩ : ∃ wr, wr = w.drewN n := ⟨_, rfl⟩
        obtain ⟨x0, x1, x2⟩ := x
        obtain ⟨y0, y1, y2⟩ := y
        have c0 : wr.cell? ⟨b1, o1 + k * 3 + 0, none⟩ = some (.int .i64 x0) := by rw [hwr]; exact hc1 0 _ rfl
        have d0 : wr.cell? ⟨b2, o2 + k * 3 + 0, none⟩ = some (.int .i64 y0) := by rw [hwr]; exact hc2 0 _ rfl
        have c1 : wr.cell? ⟨b1, o1 + k * 3 + 1, none⟩ = some (.int .i64 x1) := by rw [hwr]; exact hc1 1 _ rfl
        have d1 : wr.cell? ⟨b2, o2 + k * 3 + 1, none⟩ = some (.int .i64 y1) := by rw [hwr]; exact hc2 1 _ rfl
        have c2 : wr.cell? ⟨b1, o1 + k * 3 + 2, none⟩ = some (.int .i64 x2) := by rw [hwr]; exact hc1 2 _ rfl
        have d2 : wr.cell? ⟨b2, o2 + k * 3 + 2, none⟩ = some (.int .i64 y2) := by rw [hwr]; exact hc2 2 _ rfl
        simp only [Nat.mul_one, Nat.add_zero] at c0 d0
        rw [← hwr]
        have HW := Aid.hid hwr
        clear hc1 hc2 E hwr hx hy
        by_cases h0 : x0 = y0
        · subst h0
          by_cases h1 : x1 = y1
          · subst h1
            by_cases h2 : x2 = y2
            · subst h2
              have NR := Aid.hid (NX.out (by simp [Opr.eqb]))
              clear NX NE
              go_wp2_with fail
              go_quiet (fail)
              go_wp2_with fail
              go_roundw
              case rel => exact ⟨k + 1, by go_num, by omega, NR, n + nq, by rw [HW.out]; exact drewN_more _ _ _⟩
              case measure => simp [intOf]; omega
            · have g2 : (x2 == y2) = false := by simpa using h2
              have NR := Aid.hid (NE.out (by simp [Opr.eqb, h2]))
              clear NX NE
              go_wp2_with fail
              go_quiet (fail)
              go_wp2_with fail
              go_ret
              exact ⟨by rw [NR.out]; rfl, n + nq, by rw [HW.out]; exact drewN_more _ _ _⟩
          · have g1 : (x1 == y1) = false := by simpa using h1
            have NR := Aid.hid (NE.out (by simp [Opr.eqb, h1]))
            clear NX NE
            go_wp2_with fail
            go_quiet (fail)
            go_wp2_with fail
            go_ret
            exact ⟨by rw [NR.out]; rfl, n + nq, by rw [HW.out]; exact drewN_more _ _ _⟩
        · have g0 : (x0 == y0) = false := by simpa using h0
          have NR := Aid.hid (NE.out (by simp [Opr.eqb, h0]))
          clear NX NE
          go_wp2_with fail
          go_quiet (fail)
          go_wp2_with fail
          go_ret
          exact ⟨by rw [NR.out]; rfl, n + nq, by rw [HW.out]; exact drewN_more _ _ _⟩
      · go_wp2_with fail
        go_ret
        exact ⟨Aid.ret_bool (by
          have h := E.out
          rw [show k = xs.length by omega] at h
          exact (FIN.out h).symm), n, rfl⟩
  · have hl2 : ((xs.length : Int) != (ys.length : Int)) = true := by simpa using (by omega : ¬ (xs.length : Int) = ys.length)
    have E := Aid.hid (eqAll_len (f := Opr.eqb) hl)
    go_enter Tryz.func71, Tryz.ntmps71
    try simp only [List.append_eq, List.cons_append, List.nil_append]
    go_wp2_with fail
    go_ret
    exact ⟨by rw [E.out]; rfl, 0, rfl⟩
set_option maxRecDepth 100000 in
set_option maxHeartbeats 2000000 in
theorem sInts (A C : Option Addr) (c d B B' : Nat) (xs ys : List Int) (w : World) (hx : LNums w B A xs) (hy : LNums w B' C ys) :
    Calls Tryz.prog 72 #[.slice A xs.length c, .slice C ys.length d] w fun e w' => e = .returned (.bool (eqAll Int.eqb xs ys)) ∧ ∃ n, w' = w.drewN n := by
  have lx : xs.length ≤ 9223372036854775807 := hx.1
  have HX := Aid.hid hx; have HY := Aid.hid hy
  clear hx hy
  by_cases hl : xs.length = ys.length
  · have FIN : Hid (EqTo Int.eqb xs ys xs.length → eqAll Int.eqb xs ys = true) := Aid.hid (fun h => EqTo.all hl h)
    have HLY : Hid (∀ k, k < xs.length → ∃ y, ys[k]? = some y) := Aid.hid (fun k h => ⟨_, List.getElem?_eq_getElem (by omega)⟩)
    go_enter Tryz.func72, Tryz.ntmps72
    try simp only [List.append_eq, List.cons_append, List.nil_append]
    rw [← hl]
    clear hl
    go_wp2_with fail
    go_loopw [5] (fun i wr => ∃ k : Nat, i = .int .i64 k ∧ k ≤ xs.length ∧ Hid (EqTo Int.eqb xs ys k) ∧ ∃ n, wr = w.drewN n) (fun i _ => xs.length - (intOf i).toNat)
    case atStart => exact ⟨0, rfl, Nat.zero_le _, Aid.hid (EqTo.zero _ _), 0, rfl⟩
    case round =>
      obtain ⟨k, rfl, hk, E, n, rfl⟩ := hrel
      by_cases hlt : k < xs.length
      · obtain ⟨x, hx⟩ : ∃ x, xs[k]? = some x := ⟨_, List.getElem?_eq_getElem hlt⟩
        obtain ⟨y, hy⟩ := HLY.out k hlt
        obtain ⟨b1, o1, rfl, _, hc1⟩ := Rows.get HX.out.2 hx
        obtain ⟨b2, o2, rfl, _, hc2⟩ := Rows.get HY.out.2 hy
        have NX : Hid (Int.eqb x y = true → EqTo Int.eqb xs ys (k + 1)) := Aid.hid (fun h => EqTo.next E.out hx hy h)
        have NE : Hid (Int.eqb x y = false → eqAll Int.eqb xs ys = false) := Aid.hid (fun h => eqAll_no hx hy h)
        obtain ⟨wr, hwr⟩ : ∃ wr, wr = w.drewN n := ⟨_, rfl⟩
        have c0 : wr.cell? ⟨b1, o1 + k * 1 + 0, none⟩ = some (.int .i64 x) := by rw [hwr]; exact hc1 0 _ rfl
        have d0 : wr.cell? ⟨b2, o2 + k * 1 + 0, none⟩ = some (.int .i64 y) := by rw [hwr]; exact hc2 0 _ rfl
        simp only [Nat.mul_one, Nat.add_zero] at c0 d0
        rw [← hwr]
        have HW := Aid.hid hwr
        clear hc1 hc2 E hwr hx hy
        by_cases h0 : x = y
        · subst h0
          have NR := Aid.hid (NX.out (by simp [Int.eqb]))
          clear NX NE
          go_wp2_with fail
          go_quiet (fail)
          go_wp2_with fail
          go_roundw
          case rel => exact ⟨k + 1, by go_num, by omega, NR, n + nq, by rw [HW.out]; exact drewN_more _ _ _⟩
          case measure => simp [intOf]; omega
        · have g0 : (x == y) = false := by simpa using h0
          have NR := Aid.hid (NE.out (by simp [Int.eqb, h0]))
          clear NX NE
          go_wp2_with fail
          go_quiet (fail)
          go_wp2_with fail
          go_ret
          exact ⟨by rw [NR.out]; rfl, n + nq, by rw [HW.out]; exact drewN_more _ _ _⟩
      · go_wp2_with fail
        go_ret
        exact ⟨Aid.ret_bool (by
          have h := E.out
          rw [show k = xs.length by omega] at h
          exact (FIN.out h).symm), n, rfl⟩
  · have hl2 : ((xs.length : Int) != (ys.length : Int)) = true := by simpa using (by omega : ¬ (xs.length : Int) = ys.length)
    have E := Aid.hid (eqAll_len (f := Int.eqb) hl)
    go_enter Tryz.func72, Tryz.ntmps72
    try simp only [List.append_eq, List.cons_append, List.nil_append]
    go_wp2_with fail
    go_ret
    exact ⟨by rw [E.out]; rfl, 0, rfl⟩
set_option maxRecDepth 100000 in
set_option maxHeartbeats 2000000 in
theorem sTexts (A C : Option Addr) (c d B B' : Nat) (xs ys : List ByteArray) (w : World) (hx : LTexts w B A xs) (hy : LTexts w B' C ys) :
    Calls Tryz.prog 74 #[.slice A xs.length c, .slice C ys.length d] w fun e w' => e = .returned (.bool (eqAll Txt.eqb xs ys)) ∧ ∃ n, w' = w.drewN n := by
  have lx : xs.length ≤ 9223372036854775807 := hx.1
  have HX := Aid.hid hx; have HY := Aid.hid hy
  clear hx hy
  by_cases hl : xs.length = ys.length
  · have FIN : Hid (EqTo Txt.eqb xs ys xs.length → eqAll Txt.eqb xs ys = true) := Aid.hid (fun h => EqTo.all hl h)
    have HLY : Hid (∀ k, k < xs.length → ∃ y, ys[k]? = some y) := Aid.hid (fun k h => ⟨_, List.getElem?_eq_getElem (by omega)⟩)
    go_enter Tryz.func74, Tryz.ntmps74
    try simp only [List.append_eq, List.cons_append, List.nil_append]
    rw [← hl]
    clear hl
    go_wp2_with fail
    go_loopw [5] (fun i wr => ∃ k : Nat, i = .int .i64 k ∧ k ≤ xs.length ∧ Hid (EqTo Txt.eqb xs ys k) ∧ ∃ n, wr = w.drewN n) (fun i _ => xs.length - (intOf i).toNat)
    case atStart => exact ⟨0, rfl, Nat.zero_le _, Aid.hid (EqTo.zero _ _), 0, rfl⟩
    case round =>
      obtain ⟨k, rfl, hk, E, n, rfl⟩ := hrel
      by_cases hlt : k < xs.length
      · obtain ⟨x, hx⟩ : ∃ x, xs[k]? = some x := ⟨_, List.getElem?_eq_getElem hlt⟩
        obtain ⟨y, hy⟩ := HLY.out k hlt
        obtain ⟨b1, o1, rfl, _, hc1⟩ := Rows.get HX.out.2 hx
        obtain ⟨b2, o2, rfl, _, hc2⟩ := Rows.get HY.out.2 hy
        have NX : Hid (Txt.eqb x y = true → EqTo Txt.eqb xs ys (k + 1)) := Aid.hid (fun h => EqTo.next E.out hx hy h)
        have NE : Hid (Txt.eqb x y = false → eqAll Txt.eqb xs ys = false) := Aid.hid (fun h => eqAll_no hx hy h)
        obtain ⟨wr, hwr⟩ : ∃ wr, wr = w.drewN n := ⟨_, rfl⟩
        have c0 : wr.cell? ⟨b1, o1 + k * 1 + 0, none⟩ = some (.string x) := by rw [hwr]; exact hc1 0 _ rfl
        have d0 : wr.cell? ⟨b2, o2 + k * 1 + 0, none⟩ = some (.string y) := by rw [hwr]; exact hc2 0 _ rfl
        simp only [Nat.mul_one, Nat.add_zero] at c0 d0
        rw [← hwr]
        have HW := Aid.hid hwr
        clear hc1 hc2 E hwr hx hy
        by_cases h0 : (x.toList == y.toList) = true
        · have NR := Aid.hid (NX.out h0)
          clear NX NE
          go_wp2_with fail
          go_quiet (fail)
          go_wp2_with fail
          go_roundw
          case rel => exact ⟨k + 1, by go_num, by omega, NR, n + nq, by rw [HW.out]; exact drewN_more _ _ _⟩
          case measure => simp [intOf]; omega
        · replace h0 : (x.toList == y.toList) = false := by simpa using h0
          have NR := Aid.hid (NE.out h0)
          clear NX NE
          go_wp2_with fail
          go_quiet (fail)
          go_wp2_with fail
          go_ret
          exact ⟨by rw [NR.out]; rfl, n + nq, by rw [HW.out]; exact drewN_more _ _ _⟩
      · go_wp2_with fail
        go_ret
        exact ⟨Aid.ret_bool (by
          have h := E.out
          rw [show k = xs.length by omega] at h
          exact (FIN.out h).symm), n, rfl⟩
  · have hl2 : ((xs.length : Int) != (ys.length : Int)) = true := by simpa using (by omega : ¬ (xs.length : Int) = ys.length)
    have E := Aid.hid (eqAll_len (f := Txt.eqb) hl)
    go_enter Tryz.func74, Tryz.ntmps74
    try simp only [List.append_eq, List.cons_append, List.nil_append]
    go_wp2_with fail
    go_ret
    exact ⟨by rw [E.out]; rfl, 0, rfl⟩
set_option maxRecDepth 100000 in
set_option maxHeartbeats 2000000 in
theorem sLinks (A C : Option Addr) (c d B B' : Nat) (xs ys : List Lnk) (w : World) (hx : LLnks w B A xs) (hy : LLnks w B' C ys) :
    Calls Tryz.prog 73 #[.slice A xs.length c, .slice C ys.length d] w fun e w' => e = .returned (.bool (eqAll Lnk.eqb xs ys)) ∧ ∃ n, w' = w.drewN n := by
  have lx : xs.length ≤ 9223372036854775807 := hx.1
  have HX := Aid.hid hx; have HY := Aid.hid hy
  clear hx hy
  by_cases hl : xs.length = ys.length
  · have FIN : Hid (EqTo Lnk.eqb xs ys xs.length → eqAll Lnk.eqb xs ys = true) := Aid.hid (fun h => EqTo.all hl h)
    have HLY : Hid (∀ k, k < xs.length → ∃ y, ys[k]? = some y) := Aid.hid (fun k h => ⟨_, List.getElem?_eq_getElem (by omega)⟩)
    go_enter Tryz.func73, Tryz.ntmps73
    try simp only [List.append_eq, List.cons_append, List.nil_append]
    rw [← hl]
    clear hl
    go_wp2_with fail
    go_loopw [5] (fun i wr => ∃ k : Nat, i = .int .i64 k ∧ k ≤ xs.length ∧ Hid (EqTo Lnk.eqb xs ys k) ∧ ∃ n, wr = w.drewN n) (fun i _ => xs.length - (intOf i).toNat)
    case atStart => exact ⟨0, rfl, Nat.zero_le _, Aid.hid (EqTo.zero _ _), 0, rfl⟩
    case round =>
      obtain ⟨k, rfl, hk, E, n, rfl⟩ := hrel
      by_cases hlt : k < xs.length
      · obtain ⟨x, hx⟩ : ∃ x, xs[k]? = some x := ⟨_, List.getElem?_eq_getElem hlt⟩
        obtain ⟨y, hy⟩ := HLY.out k hlt
        obtain ⟨b1, o1, rfl, _, hc1⟩ := Rows.get HX.out.2 hx
        obtain ⟨b2, o2, rfl, _, hc2⟩ := Rows.get HY.out.2 hy
        have NX : Hid (Lnk.eqb x y = true → EqTo Lnk.eqb xs ys (k + 1)) := Aid.hid (fun h => EqTo.next E.out hx hy h)
        have NE : Hid (Lnk.eqb x y = false → eqAll Lnk.eqb xs ys = false) := Aid.hid (fun h => eqAll_no hx hy h)
        obtain ⟨wr, hwr⟩ : ∃ wr, wr = w.drewN n := ⟨_, rfl⟩
        obtain ⟨x0, x1, x2⟩ := x
        obtain ⟨y0, y1, y2⟩ := y
        have c0 : wr.cell? ⟨b1, o1 + k * 3 + 0, none⟩ = some (.int .i64 x0) := by rw [hwr]; exact hc1 0 _ rfl
        have d0 : wr.cell? ⟨b2, o2 + k * 3 + 0, none⟩ = some (.int .i64 y0) := by rw [hwr]; exact hc2 0 _ rfl
        have c1 : wr.cell? ⟨b1, o1 + k * 3 + 1, none⟩ = some (.int .i64 x1) := by rw [hwr]; exact hc1 1 _ rfl
        have d1 : wr.cell? ⟨b2, o2 + k * 3 + 1, none⟩ = some (.int .i64 y1) := by rw [hwr]; exact hc2 1 _ rfl
        have c2 : wr.cell? ⟨b1, o1 + k * 3 + 2, none⟩ = some (.bool x2) := by rw [hwr]; exact hc1 2 _ rfl
        have d2 : wr.cell? ⟨b2, o2 + k * 3 + 2, none⟩ = some (.bool y2) := by rw [hwr]; exact hc2 2 _ rfl
        simp only [Nat.mul_one, Nat.add_zero] at c0 d0
        rw [← hwr]
        have HW := Aid.hid hwr
        clear hc1 hc2 E hwr hx hy
        by_cases h0 : x0 = y0
        · subst h0
          by_cases h1 : x1 = y1
          · subst h1
            by_cases h2 : x2 = y2
            · subst h2
              have NR := Aid.hid (NX.out (by simp [Lnk.eqb]))
              clear NX NE
              go_wp2_with fail
              go_quiet (fail)
              go_wp2_with fail
              go_roundw
              case rel => exact ⟨k + 1, by go_num, by omega, NR, n + nq, by rw [HW.out]; exact drewN_more _ _ _⟩
              case measure => simp [intOf]; omega
            · have g2 : (x2 == y2) = false := by simpa using h2
              have NR := Aid.hid (NE.out (by simp [Lnk.eqb, h2]))
              clear NX NE
              go_wp2_with fail
              go_quiet (fail)
              go_wp2_with fail
              go_ret
              exact ⟨by rw [NR.out]; rfl, n + nq, by rw [HW.out]; exact drewN_more _ _ _⟩
          · have g1 : (x1 == y1) = false := by simpa using h1
            have NR := Aid.hid (NE.out (by simp [Lnk.eqb, h1]))
            clear NX NE
            go_wp2_with fail
            go_quiet (fail)
            go_wp2_with fail
            go_ret
            exact ⟨by rw [NR.out]; rfl, n + nq, by rw [HW.out]; exact drewN_more _ _ _⟩
        · have g0 : (x0 == y0) = false := by simpa using h0
          have NR := Aid.hid (NE.out (by simp [Lnk.eqb, h0]))
          clear NX NE
          go_wp2_with fail
          go_quiet (fail)
          go_wp2_with fail
          go_ret
          exact ⟨by rw [NR.out]; rfl, n + nq, by rw [HW.out]; exact drewN_more _ _ _⟩
      · go_wp2_with fail
        go_ret
        exact ⟨Aid.ret_bool (by
          have h := E.out
          rw [show k = xs.length by omega] at h
          exact (FIN.out h).symm), n, rfl⟩
  · have hl2 : ((xs.length : Int) != (ys.length : Int)) = true := by simpa using (by omega : ¬ (xs.length : Int) = ys.length)
    have E := Aid.hid (eqAll_len (f := Lnk.eqb) hl)
    go_enter Tryz.func73, Tryz.ntmps73
    try simp only [List.append_eq, List.cons_append, List.nil_append]
    go_wp2_with fail
    go_ret
    exact ⟨by rw [E.out]; rfl, 0, rfl⟩
set_option maxRecDepth 100000 in
set_option maxHeartbeats 2000000 in
theorem sOps (A C : Option Addr) (c d B B' : Nat) (xs ys : List Opr) (w : World) (hx : LOps w B A xs) (hy : LOps w B' C ys) :
    Calls Tryz.prog 76 #[.slice A xs.length c, .slice C ys.length d] w fun e w' => e = .returned (.bool (eqAll Opr.eqb xs ys)) ∧ ∃ n, w' = w.drewN n := by
  have lx : xs.length ≤ 9223372036854775807 := hx.1
  have HX := Aid.hid hx; have HY := Aid.hid hy
  clear hx hy
  by_cases hl : xs.length = ys.length
  · have FIN : Hid (EqTo Opr.eqb xs ys xs.length → eqAll Opr.eqb xs ys = true) := Aid.hid (fun h => EqTo.all hl h)
    have HLY : Hid (∀ k, k < xs.length → ∃ y, ys[k]? = some y) := Aid.hid (fun k h => ⟨_, List.getElem?_eq_getElem (by omega)⟩)
    go_enter Tryz.func76, Tryz.ntmps76
    try simp only [List.append_eq, List.cons_append, List.nil_append]
    rw [← hl]
    clear hl
    go_wp2_with fail
    go_loopw [5] (fun i wr => ∃ k : Nat, i = .int .i64 k ∧ k ≤ xs.length ∧ Hid (EqTo Opr.eqb xs ys k) ∧ ∃ n, wr = w.drewN n) (fun i _ => xs.length - (intOf i).toNat)
    case atStart => exact ⟨0, rfl, Nat.zero_le _, Aid.hid (EqTo.zero _ _), 0, rfl⟩
    case round =>
      obtain ⟨k, rfl, hk, E, n, rfl⟩ := hrel
      by_cases hlt : k < xs.length
      · obtain ⟨x, hx⟩ : ∃ x, xs[k]? = some x := ⟨_, List.getElem?_eq_getElem hlt⟩
        obtain ⟨y, hy⟩ := HLY.out k hlt
        obtain ⟨b1, o1, rfl, _, hc1⟩ := Rows.get HX.out.2 hx
        obtain ⟨b2, o2, rfl, _, hc2⟩ := Rows.get HY.out.2 hy
        have NX : Hid (Opr.eqb x y = true → EqTo Opr.eqb xs ys (k + 1)) := Aid.hid (fun h => EqTo.next E.out hx hy h)
        have NE : Hid (Opr.eqb x y = false → eqAll Opr.eqb xs ys = false) := Aid.hid (fun h => eqAll_no hx hy h)
        obtain ⟨wr, hwr⟩ : ∃ wr, wr = w.drewN n := ⟨_, rfl⟩
        obtain ⟨x0, x1, x2⟩ := x
        obtain ⟨y0, y1, y2⟩ := y
        have c0 : wr.cell? ⟨b1, o1 + k * 3 + 0, none⟩ = some (.int .i64 x0) := by rw [hwr]; exact hc1 0 _ rfl
        have d0 : wr.cell? ⟨b2, o2 + k * 3 + 0, none⟩ = some (.int .i64 y0) := by rw [hwr]; exact hc2 0 _ rfl
        have c1 : wr.cell? ⟨b1, o1 + k * 3 + 1, none⟩ = some (.int .i64 x1) := by rw [hwr]; exact hc1 1 _ rfl
        have d1 : wr.cell? ⟨b2, o2 + k * 3 + 1, none⟩ = some (.int .i64 y1) := by rw [hwr]; exact hc2 1 _ rfl
        have c2 : wr.cell? ⟨b1, o1 + k * 3 + 2, none⟩ = some (.int .i64 x2) := by rw [hwr]; exact hc1 2 _ rfl
        have d2 : wr.cell? ⟨b2, o2 + k * 3 + 2, none⟩ = some (.int .i64 y2) := by rw [hwr]; exact hc2 2 _ rfl
        simp only [Nat.mul_one, Nat.add_zero] at c0 d0
        rw [← hwr]
        have HW := Aid.hid hwr
        clear hc1 hc2 E hwr hx hy
        by_cases h0 : x0 = y0
        · subst h0
          by_cases h1 : x1 = y1
          · subst h1
            by_cases h2 : x2 = y2
            · subst h2
              have NR := Aid.hid (NX.out (by simp [Opr.eqb]))
              clear NX NE
              go_wp2_with fail
              go_quiet (fail)
              go_wp2_with fail
              go_roundw
              case rel => exact ⟨k + 1, by go_num, by omega, NR, n + nq, by rw [HW.out]; exact drewN_more _ _ _⟩
              case measure => simp [intOf]; omega
            · have g2 : (x2 == y2) = false := by simpa using h2
              have NR := Aid.hid (NE.out (by simp [Opr.eqb, h2]))
              clear NX NE
              go_wp2_with fail
              go_quiet (fail)
              go_wp2_with fail
              go_ret
              exact ⟨by rw [NR.out]; rfl, n + nq, by rw [HW.out]; exact drewN_more _ _ _⟩
          · have g1 : (x1 == y1) = false := by simpa using h1
            have NR := Aid.hid (NE.out (by simp [Opr.eqb, h1]))
            clear NX NE
            go_wp2_with fail
            go_quiet (fail)
            go_wp2_with fail
            go_ret
            exact ⟨by rw [NR.out]; rfl, n + nq, by rw [HW.out]; exact drewN_more _ _ _⟩
        · have g0 : (x0 == y0) = false := by simpa using h0
          have NR := Aid.hid (NE.out (by simp [Opr.eqb, h0]))
          clear NX NE
          go_wp2_with fail
          go_quiet (fail)
          go_wp2_with fail
          go_ret
          exact ⟨by rw [NR.out]; rfl, n + nq, by rw [HW.out]; exact drewN_more _ _ _⟩
      · go_wp2_with fail
        go_ret
        exact ⟨Aid.ret_bool (by
          have h := E.out
          rw [show k = xs.length by omega] at h
          exact (FIN.out h).symm), n, rfl⟩
  · have hl2 : ((xs.length : Int) != (ys.length : Int)) = true := by simpa using (by omega : ¬ (xs.length : Int) = ys.length)
    have E := Aid.hid (eqAll_len (f := Opr.eqb) hl)
    go_enter Tryz.func76, Tryz.ntmps76
    try simp only [List.append_eq, List.cons_append, List.nil_append]
    go_wp2_with fail
    go_ret
    exact ⟨by rw [E.out]; rfl, 0, rfl⟩
set_option maxRecDepth 100000 in
set_option maxHeartbeats 2000000 in
theorem sBytes (A C : Option Addr) (c d B B' : Nat) (xs ys : List Int) (w : World) (hx : LBytes w B A xs) (hy : LBytes w B' C ys) :
    Calls Tryz.prog 10 #[.slice A xs.length c, .slice C ys.length d] w fun e w' => e = .returned (.bool (eqAll Int.eqb xs ys)) ∧ ∃ n, w' = w.drewN n := by
  have lx : xs.length ≤ 9223372036854775807 := hx.1
  have HX := Aid.hid hx; have HY := Aid.hid hy
  clear hx hy
  by_cases hl : xs.length = ys.length
  · have FIN : Hid (EqTo Int.eqb xs ys xs.length → eqAll Int.eqb xs ys = true) := Aid.hid (fun h => EqTo.all hl h)
    have HLY : Hid (∀ k, k < xs.length → ∃ y, ys[k]? = some y) := Aid.hid (fun k h => ⟨_, List.getElem?_eq_getElem (by omega)⟩)
    go_enter Tryz.func10, Tryz.ntmps10
    try simp only [List.append_eq, List.cons_append, List.nil_append]
    rw [← hl]
    clear hl
    go_wp2_with fail
    go_loopw [5] (fun i wr => ∃ k : Nat, i = .int .i64 k ∧ k ≤ xs.length ∧ Hid (EqTo Int.eqb xs ys k) ∧ ∃ n, wr = w.drewN n) (fun i _ => xs.length - (intOf i).toNat)
    case atStart => exact ⟨0, rfl, Nat.zero_le _, Aid.hid (EqTo.zero _ _), 0, rfl⟩
    case round =>
      obtain ⟨k, rfl, hk, E, n, rfl⟩ := hrel
      by_cases hlt : k < xs.length
      · obtain ⟨x, hx⟩ : ∃ x, xs[k]? = some x := ⟨_, List.getElem?_eq_getElem hlt⟩
        obtain ⟨y, hy⟩ := HLY.out k hlt
        obtain ⟨b1, o1, rfl, _, hc1⟩ := Rows.get HX.out.2 hx
        obtain ⟨b2, o2, rfl, _, hc2⟩ := Rows.get HY.out.2 hy
        have NX : Hid (Int.eqb x y = true → EqTo Int.eqb xs ys (k + 1)) := Aid.hid (fun h => EqTo.next E.out hx hy h)
        have NE : Hid (Int.eqb x y = false → eqAll Int.eqb xs ys = false) := Aid.hid (fun h => eqAll_no hx hy h)
        obtain ⟨wr, hwr⟩ : ∃ wr, wr = w.drewN n := ⟨_, rfl⟩
        have c0 : wr.cell? ⟨b1, o1 + k * 1 + 0, none⟩ = some (.int .u8 x) := by rw [hwr]; exact hc1 0 _ rfl
        have d0 : wr.cell? ⟨b2, o2 + k * 1 + 0, none⟩ = some (.int .u8 y) := by rw [hwr]; exact hc2 0 _ rfl
        simp only [Nat.mul_one, Nat.add_zero] at c0 d0
        rw [← hwr]
        have HW := Aid.hid hwr
        clear hc1 hc2 E hwr hx hy
        by_cases h0 : x = y
        · subst h0
          have NR := Aid.hid (NX.out (by simp [Int.eqb]))
          clear NX NE
          go_wp2_with fail
          go_quiet (fail)
          go_wp2_with fail
          go_roundw
          case rel => exact ⟨k + 1, by go_num, by omega, NR, n + nq, by rw [HW.out]; exact drewN_more _ _ _⟩
          case measure => simp [intOf]; omega
        · have g0 : (x == y) = false := by simpa using h0
          have NR := Aid.hid (NE.out (by simp [Int.eqb, h0]))
          clear NX NE
          go_wp2_with fail
          go_quiet (fail)
          go_wp2_with fail
          go_ret
          exact ⟨by rw [NR.out]; rfl, n + nq, by rw [HW.out]; exact drewN_more _ _ _⟩
      · go_wp2_with fail
        go_ret
        exact ⟨Aid.ret_bool (by
          have h := E.out
          rw [show k = xs.length by omega] at h
          exact (FIN.out h).symm), n, rfl⟩
  · have hl2 : ((xs.length : Int) != (ys.length : Int)) = true := by simpa using (by omega : ¬ (xs.length : Int) = ys.length)
    have E := Aid.hid (eqAll_len (f := Int.eqb) hl)
    go_enter Tryz.func10, Tryz.ntmps10
    try simp only [List.append_eq, List.cons_append, List.nil_append]
    go_wp2_with fail
    go_ret
    exact ⟨by rw [E.out]; rfl, 0, rfl⟩
end Go.Proofs.YtaogegeidbclaaaGreatDoor
