/- The law TableIs. -/
import Derived.Test.YtjhlcfaakhabfaaTableIsC0
import Derived.Test.YtjhlcfaakhabfaaTableIsC1
import Derived.Test.YtjhlcfaakhabfaaTableIsC2
import Derived.Test.YtjhlcfaakhabfaaTableIsC3
import Derived.Test.YtjhlcfaakhabfaaTableIsC4
namespace Go.Proofs.Ytjhlcfaakhabfaa
open Go.RowKit

set_option maxRecDepth 100000 in
set_option maxHeartbeats 4000000 in
theorem tableIs_zero (u : List Dk) (a : Option Addr) (cap : Nat) (i j k : Int) (w : World) (hu : UnitAt w w.heap.size a u) (h0 : u.length = 0) :
    Calls Try.prog 3 #[.agg #[.slice a u.length cap], .int .i64 i, .int .i64 j, .int .i64 k] w fun e w' => e = .returned (.bool true) ∧ Below w.heap.size w w' := by
  have HB1 : Hid (Below w.heap.size w (w.alloc (.cells #[.slice a u.length cap] 24))) := Aid.hid ((Below.refl _ _).alloc (Nat.le_refl _) _)
  have P0 := Aid.hid (Aid.Has.new w [.slice a u.length cap] 24)
  have HU := Aid.hid hu
  have hz : ((u.length : Int) == 0) = true := by simp [h0]
  have hn : u.length ≤ 16 := by omega
  clear hu h0
  go_enter Try.func3, Try.ntmps3
  try simp only [List.append_eq, List.cons_append, List.nil_append]
  go_wp2_with fail
  obtain ⟨pb, hpb⟩ : ∃ pb, w.heap.size = pb := ⟨_, rfl⟩
  have HPB := Aid.hid hpb
  rw [hpb] at P0 ⊢
  clear hpb
  generalize w.alloc (.cells #[.slice a u.length cap] 24) = W at *
  have hpl := P0.out.lt
  have hu1 := HU.out.below HB1.out (Nat.le_refl _)
  refine (greatUnit_is u a w.heap.size cap W hu1 HB1.out.size hn).mono ?_; rintro e w2 ⟨r, rfl, hb2⟩
  have HB2 := Aid.hid hb2
  have p0 := (P0.out.below hb2 hpl).cell 0 _ rfl
  have hp2 : pb < w2.heap.size := Nat.lt_of_lt_of_le hpl hb2.size
  clear hb2 hu1
  cases r
  all_goals
    go_wp2_with fail
    refine (awake_any _).mono ?_; rintro e w3 ⟨rfl, hb3⟩
    have HB3 := Aid.hid (HB1.out.trans ((HB2.out.trans (hb3.mono HB2.out.size)).mono HB1.out.size))
    clear hb3
    go_wp2_with fail
    go_ret
    exact ⟨rfl, HB3.out⟩
theorem tableIs_main (u : List Dk) (a : Option Addr) (cap : Nat) (i j k : Int) (w : World) (hu : UnitAt w w.heap.size a u) (hn : u.length ≤ 16) (h0 : 0 < u.length) :
    Calls Try.prog 3 #[.agg #[.slice a u.length cap], .int .i64 i, .int .i64 j, .int .i64 k] w fun e w' => e = .returned (.bool true) ∧ Below w.heap.size w w' := by
  obtain ⟨ni, hni, li⟩ := low_nat i u.length h0
  obtain ⟨nj, hnj, lj⟩ := low_nat j u.length h0
  obtain ⟨nk, hnk, lk⟩ := low_nat k u.length h0
  obtain ⟨di, hdi⟩ : ∃ d, u[ni]? = some d := ⟨_, List.getElem?_eq_getElem li⟩
  obtain ⟨dj, hdj⟩ : ∃ d, u[nj]? = some d := ⟨_, List.getElem?_eq_getElem lj⟩
  obtain ⟨dk, hdk⟩ : ∃ d, u[nk]? = some d := ⟨_, List.getElem?_eq_getElem lk⟩
  obtain ⟨nd, hnd, ld⟩ := Tb.find_there hdi
  obtain ⟨dd, hdd⟩ : ∃ d, u[nd]? = some d := ⟨_, List.getElem?_eq_getElem ld⟩
  have I : IsAt u i j k ni nj nk nd di dj dk dd := ⟨hni, hnj, hnk, hdi, hdj, hdk, hdd, hnd, li, lj, lk, ld⟩
  have KD : Tb.kind u (Tb.find u di.name) = dd.kind := by rw [hnd]; unfold Tb.kind; simp [hdd]
  have IS0 := Tb.is_self (u := u) (x := di.name)
  rw [KD] at IS0
  obtain ⟨rab, hrab⟩ : ∃ r, Tb.is u di.name dj.name = r := ⟨_, rfl⟩
  by_cases h2 : dd.kind = 2
  · have IS := Aid.hid (IS0.trans (show _ = true by simp [h2]))
    cases rab
    · exact tableIs_c0 u a cap i j k w hu hn h0 ni nj nk nd di dj dk dd I (by simp [h2]) IS (Aid.hid hrab)
    · exact tableIs_c1 u a cap i j k w hu hn h0 ni nj nk nd di dj dk dd I (by simp [h2]) IS (Aid.hid hrab)
  · by_cases h1 : dd.kind = 1
    · have IS := Aid.hid (IS0.trans (show _ = true by simp [h1]))
      cases rab
      · exact tableIs_c2 u a cap i j k w hu hn h0 ni nj nk nd di dj dk dd I (by simp [h2]) (by simp [h1]) IS (Aid.hid hrab)
      · exact tableIs_c3 u a cap i j k w hu hn h0 ni nj nk nd di dj dk dd I (by simp [h2]) (by simp [h1]) IS (Aid.hid hrab)
    · exact tableIs_c4 u a cap i j k w hu hn h0 ni nj nk nd di dj dk dd I (by simp [h2]) (by simp [h1]) (Aid.hid (IS0.trans (by simp [h1, h2]))) (Aid.hid (Tb.is_thing (by rw [KD]; simp [h1, h2])))
/-- The law, of any unit. -/
theorem tableIs_any (u : List Dk) (a : Option Addr) (cap : Nat) (i j k : Int) (w : World) (hu : u.length ≤ 1000000000 → UnitAt w w.heap.size a u) :
    Calls Try.prog 3 #[.agg #[.slice a u.length cap], .int .i64 i, .int .i64 j, .int .i64 k] w fun e w' => e = .returned (.bool true) ∧ Below w.heap.size w w' := by
  by_cases hb : 16 < u.length
  · exact tableIs_big a u.length cap i j k w hb
  · by_cases h0 : u.length = 0
    · exact tableIs_zero u a cap i j k w (hu (by omega)) h0
    · exact tableIs_main u a cap i j k w (hu (by omega)) (by omega) (by omega)
end Go.Proofs.Ytjhlcfaakhabfaa
