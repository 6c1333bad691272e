/- The law DueOrder, walked. -/
import Derived.Test.YtimojijbjmchkaaDueAwake
import Derived.Test.YtimojijbjmchkaaLow
import Derived.BigQuiet
namespace Go.Proofs.Ytimojijbjmchkaa
open Go.RowKit

theorem Du.list_succ_len (e : Int → Int) (b a : Int) (k : Nat) : (Du.list e b a (k + 1)).length = (Du.list e b a k).length + (if Du.due (e k) b a = true then 1 else 0) := by
  cases h : Du.due (e k) b a
  · rw [Du.list_no h]; simp
  · rw [Du.list_yes h]; simp
theorem Du.pair {e f : Int → Int} {b a : Int} {len : Nat} {zs : List Int} (h : Du.Is e f b a len zs) (k : Nat) (x y : Int) (hx : zs[k]? = some x) (hy : zs[k + 1]? = some y) : f x < f y ∨ f x = f y ∧ x < y := by
  obtain ⟨h1, e1⟩ := List.getElem?_eq_some_iff.1 hx
  obtain ⟨h2, e2⟩ := List.getElem?_eq_some_iff.1 hy
  have := List.pairwise_iff_getElem.1 h.2 k (k + 1) h1 h2 (by omega)
  rw [e1, e2] at this; exact this
theorem Du.of_mem {e f : Int → Int} {b a : Int} {len : Nat} {zs : List Int} (h : Du.Is e f b a len zs) (k : Nat) (x : Int) (hx : zs[k]? = some x) : ∃ i : Nat, x = i ∧ i < len ∧ Du.due (e i) b a = true := by
  have hm : x ∈ zs := List.mem_of_getElem? hx
  obtain ⟨h1, h2, h3⟩ := Du.list_mem (h.1.subset hm)
  obtain ⟨i, rfl⟩ := Int.eq_ofNat_of_zero_le h1
  exact ⟨i, rfl, by omega, h3⟩
theorem own_at {w : World} {base c g n : Nat} {zs : List Int} (h : w.ownsRow base 3 1 (.slice (some ⟨g, 0, none⟩) n c) n (zs.map (Value.int .i64))) (k : Nat) (x : Int) (hx : zs[k]? = some x) : w.cell? ⟨g, k, none⟩ = some (.int .i64 x) := by
  have hl := h.1
  have hk : k < zs.length := (List.getElem?_eq_some_iff.1 hx).1
  rw [h.cellAt k (by simp at hl; omega)]
  simp [hx]

set_option maxRecDepth 100000 in
set_option maxHeartbeats 4000000 in
theorem order_any (a : Option Addr) (b off len cap : Nat) (e f : Int → Int) (x y : Int) (w : World) (hlen : len ≤ 20) (hj : JobsIn w a b off len e f) :
    Calls Try.prog 5 #[.slice a len cap, .int .i64 x, .int .i64 y] w fun r w' => r = .returned (.bool true) ∧ Below w.heap.size w w' := by
  obtain ⟨s, hs⟩ : ∃ r, low x 1000 = r := ⟨_, rfl⟩
  obtain ⟨t, ht⟩ : ∃ r, low y 50 = r := ⟨_, rfl⟩
  obtain ⟨s0, s1⟩ : 0 ≤ s ∧ s < 1000 := hs ▸ low_in x 1000 (by decide)
  obtain ⟨t0, t1⟩ : 0 ≤ t ∧ t < 50 := ht ▸ low_in y 50 (by decide)
  have HS := Aid.hid hs; have HT := Aid.hid ht
  have HJ := Aid.hid hj
  clear hs ht hj
  go_enter Try.func5, Try.ntmps5
  try simp only [List.append_eq, List.cons_append, List.nil_append]
  go_wp2_with fail
  refine (low_is _ _ s HS.out (by decide) (by decide) _).mono ?_; rintro r w' ⟨rfl, rfl⟩
  go_wp2_with fail
  refine (low_is _ _ t HT.out (by decide) (by decide) _).mono ?_; rintro r w' ⟨rfl, rfl⟩
  go_wp2_with fail
  refine (which_any a b off len cap e f s (s + t) w hlen HJ.out (by omega)).mono ?_; rintro r w1 ⟨A, c, zs, rfl, his, hown, hb⟩
  have IS := Aid.hid his
  have hl : zs.length = (Du.list e s (s + t) len).length := his.1.length_eq
  have HL := Aid.hid hl
  have hz20 : zs.length ≤ 20 := by have := Du.list_len e s (s + t) len; omega
  have hsz := hb.size
  obtain ⟨B0, hB0⟩ : ∃ B0, w.heap.size = B0 := ⟨_, rfl⟩
  rw [hB0] at hown hsz
  have O := Aid.hid hown
  clear hown his hl
  go_wp2_with fail
  go_loopw [8, 9] (fun vn vi wr => ∃ (k : Nat), vi = .int .i64 k ∧ k ≤ len ∧ vn = .int .i64 (Du.list e s (s + t) k).length ∧ Hid (wr.ownsRow B0 3 1 (.slice A zs.length c) zs.length (zs.map (Value.int .i64))) ∧ Below w.heap.size w wr) (fun _ vi _ => len - (intOf vi).toNat)
  case atStart => exact ⟨0, rfl, Nat.zero_le _, rfl, O, hb⟩
  case round =>
    clear hb O
    obtain ⟨k, rfl, hk, rfl, O, hb⟩ := hrel
    have NL := Aid.hid (Du.list_len e s (s + t) k)
    have LS := Aid.hid (Du.list_succ_len e s (s + t) k)
    by_cases hlt : k < len
    · obtain rfl := HJ.out.addr (by omega)
      have HJ2 := HJ.out.below hb
      have c1 := HJ2.every k hlt
      clear HJ2
      obtain ⟨q, hq⟩ : ∃ r, Du.due (e k) s (s + t) = r := ⟨_, rfl⟩
      have HR := Aid.hid hq
      clear hq
      have nl := NL.out
      go_wp2_with fail
      refine (due_isN _ _ _ q HR.out _ (by omega)).mono ?_; rintro e' w2 ⟨rfl, n, hw⟩
      clear c1
      have O2 : Hid (w2.ownsRow B0 3 1 (.slice A zs.length c) zs.length (zs.map (Value.int .i64))) := Aid.hid (by rw [hw]; exact O.out)
      replace hb : Below w.heap.size w w2 := by rw [hw]; exact below_drewN' hb _
      clear hw
      cases q
      · go_wp2_with fail
        go_roundw
        case rel => exact ⟨k + 1, by go_num, by omega, by rw [LS.out, HR.out]; simp, O2, hb⟩
        case measure => simp [intOf]; omega
      · go_wp2_with fail
        go_roundw
        case rel => exact ⟨k + 1, by go_num, by omega, by rw [LS.out, HR.out]; go_num, O2, hb⟩
        case measure => simp [intOf]; omega
    · obtain rfl : k = len := by omega
      have hl2 : ((zs.length : Int) != ((Du.list e s (s + t) k).length : Int)) = false := by rw [HL.out]; simp
      go_wp2_with fail
      clear hl2
      go_loopw [10] (fun vi wr' => ∃ (m : Nat), vi = .int .i64 m ∧ m ≤ zs.length ∧ Hid (wr'.ownsRow B0 3 1 (.slice A zs.length c) zs.length (zs.map (Value.int .i64))) ∧ Below w.heap.size w wr') (fun vi _ => zs.length - (intOf vi).toNat)
      case atStart => exact ⟨0, rfl, Nat.zero_le _, O, hb⟩
      case round =>
        clear hb O
        rename_i wr0 wr
        obtain ⟨m, rfl, hm, O, hb⟩ := hrel
        by_cases hmt : m < zs.length
        · obtain ⟨g, cc, hv, _, _⟩ := O.out.form (by omega)
          obtain ⟨rfl, rfl⟩ : A = some ⟨g, 0, none⟩ ∧ c = cc := by simpa using hv
          obtain ⟨z, hz⟩ : ∃ z, zs[m]? = some z := ⟨_, List.getElem?_eq_getElem hmt⟩
          obtain ⟨i, rfl, hi, hdue⟩ := Du.of_mem IS.out m z hz
          obtain rfl := HJ.out.addr (by omega)
          have HJ2 := HJ.out.below hb
          have cz := own_at O.out m _ hz
          have c1 := HJ2.every i hi
          have DU := Aid.hid hdue
          have HZ := Aid.hid hz
          clear HJ2 hv hz hdue
          have i0 : decide ((i : Int) < 0) = false := by simp
          have i1 : decide ((k : Int) ≤ (i : Int)) = false := by simp; omega
          go_wp2_with fail
          refine (due_isN _ _ _ true DU.out _ (by omega)).mono ?_; rintro e' w2 ⟨rfl, n, hw⟩
          clear c1 cz i0 i1
          have O2 : Hid (w2.ownsRow B0 3 1 (.slice (some ⟨g, 0, none⟩) zs.length c) zs.length (zs.map (Value.int .i64))) := Aid.hid (by rw [hw]; exact O.out)
          replace hb : Below w.heap.size w w2 := by rw [hw]; exact below_drewN' hb _
          clear hw O
          have HJ2 := HJ.out.below hb
          have cz := own_at O2.out m _ HZ.out
          have c2 := HJ2.first i hi
          rcases Nat.eq_zero_or_pos m with rfl | hpos
          · have m0 : decide ((0 : Int) < 0) = false := by simp
            go_wp2_with fail
            go_quiet (fail)
            go_wp2_with fail
            go_roundw
            case rel => exact ⟨1, by go_num, by omega, O2, below_drewN' hb _⟩
            case measure => simp [intOf]; omega
          · obtain ⟨m, rfl⟩ : ∃ m', m = m' + 1 := ⟨m - 1, by omega⟩
            obtain ⟨z2, hz2⟩ : ∃ z, zs[m]? = some z := ⟨_, List.getElem?_eq_getElem (by omega)⟩
            have PR := Du.pair IS.out m z2 i hz2 HZ.out
            obtain ⟨i2, rfl, hi2, _⟩ := Du.of_mem IS.out m z2 hz2
            have cz2 := own_at O2.out m _ hz2
            have c3 := HJ2.first i2 hi2
            clear HJ2 HZ hz2
            have z3 : (0 : Int) < (m : Int) + 1 := by omega
            have z5 : ((m : Int) + 1).toNat = m + 1 := by omega
            rcases PR with PR | ⟨PR, PR2⟩
            · have p1 : decide (f i < f i2) = false := by simp; omega
              have p2 : (f i2 == f i) = false := by simp; omega
              go_wp2_with fail
              go_quiet (fail)
              go_wp2_with fail
              go_roundw
              case rel => exact ⟨m + 2, by go_num, by omega, O2, below_drewN' hb _⟩
              case measure => simp [intOf]; omega
            · have p1 : decide (f i < f i2) = false := by simp; omega
              have p2 : (f i2 == f i) = true := by simp; omega
              have p3 : decide ((i : Int) ≤ (i2 : Int)) = false := by simp; omega
              go_wp2_with fail
              go_quiet (fail)
              go_wp2_with fail
              go_roundw
              case rel => exact ⟨m + 2, by go_num, by omega, O2, below_drewN' hb _⟩
              case measure => simp [intOf]; omega
        · go_wp2_with fail
          refine (awake_any _).mono ?_; rintro e' w' ⟨rfl, hb'⟩
          go_wp2_with fail
          go_ret
          exact ⟨rfl, hb.trans (hb'.mono hb.size)⟩

set_option maxRecDepth 100000 in
set_option maxHeartbeats 1000000 in
theorem order_long (x y : Int) (a : Option Addr) (len cap : Nat) (w : World) (hlen : 20 < len) :
    Calls Try.prog 5 #[.slice a len cap, .int .i64 x, .int .i64 y] w fun e w' => e = .returned (.bool true) ∧ Below w.heap.size w w' := by
  go_enter Try.func5, Try.ntmps5
  try simp only [List.append_eq, List.cons_append, List.nil_append]
  go_wp2_with fail
  refine (awake_any _).mono ?_; rintro e w' ⟨rfl, hb⟩
  go_wp2_with fail
  go_ret
  exact ⟨rfl, hb⟩
end Go.Proofs.Ytimojijbjmchkaa
