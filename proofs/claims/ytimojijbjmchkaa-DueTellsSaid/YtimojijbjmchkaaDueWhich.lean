/- slices.SortStableFunc over a short row of numbers, and Which, as walks. -/
import Derived.Test.YtimojijbjmchkaaDueSort
import Derived.Test.YtimojijbjmchkaaInts
namespace Go.Proofs.Ytimojijbjmchkaa
open Go.RowKit

theorem Row.of_own {w : World} {base c g : Nat} {ys : List Int} (h : w.ownsRow base 3 1 (.slice (some ⟨g, 0, none⟩) ys.length c) ys.length (ys.map (Value.int .i64))) :
    ∃ rest, Row w g ys rest ∧ base ≤ g ∧ ys.length + rest.length = c ∧ c ≤ maxLen := by
  rcases h.2 with ⟨h', _⟩ | ⟨g', cap', cur, h', hb, hg, hnc, hcm, hcs, htake⟩
  · simp at h'
  · simp only [Value.slice.injEq, Option.some.injEq, Addr.mk.injEq, and_true, true_and] at h'
    obtain ⟨rfl, rfl⟩ := h'
    refine ⟨cur.toList.drop ys.length, ?_, hb, ?_, hcm⟩
    · unfold Row Aid.Has
      rw [hg, ← htake, Nat.mul_one, List.take_append_drop]
    · simp; omega
theorem Row.own {w : World} {base c g : Nat} {zs : List Int} {rest : List Value} (h : Row w g zs rest) (hb : base ≤ g) (hl : zs.length + rest.length = c) (hm : c ≤ maxLen) :
    w.ownsRow base 3 1 (.slice (some ⟨g, 0, none⟩) zs.length c) zs.length (zs.map (Value.int .i64)) :=
  ⟨by simp, .inr ⟨g, c, _, rfl, hb, h, by omega, hm, by simp; omega, by simp⟩⟩

set_option maxRecDepth 100000 in
set_option maxHeartbeats 1000000 in
theorem insertion_none (v fn : Value) (a b : Nat) (w : World) (ha : a ≤ 20) (h : b ≤ a + 1) :
    Calls Try.prog 23 #[v, .int .i64 a, .int .i64 b, fn] w fun e w' => e = .returned (.tuple #[]) ∧ w = w' := by
  go_enter Try.func23, Try.ntmps23
  try simp only [List.append_eq, List.cons_append, List.nil_append]
  go_wp2_with fail
  go_loopw [8] (fun vi wr => vi = .int .i64 ((a : Int) + 1) ∧ wr = w) (fun vi _ => 0)
  case atStart => exact ⟨by go_num, rfl⟩
  case round =>
    obtain ⟨rfl, rfl⟩ := hrel
    have h1 : (b : Int) ≤ (a : Int) + 1 := by omega
    go_wp2_with fail
    go_end0
    exact ⟨rfl, rfl⟩

theorem insertion_own (A : Option Addr) (pj b off len cap c base : Nat) (f : Int → Int) (ys : List Int) (B0 : Nat) (w0 w : World) (hlen : len ≤ 20) (hn : ys.length ≤ 20)
    (hin : ∀ y ∈ ys, 0 ≤ y ∧ y < len) (hup : ys.Pairwise (· < ·)) (hown : w.ownsRow base 3 1 (.slice A ys.length c) ys.length (ys.map (Value.int .i64))) (hjobs : 0 < len → Jobs w pj b off len cap f) (hb : 0 < len → b < base) (hp : pj < base) (hB : Below B0 w0 w) (hg : B0 ≤ base) :
    Calls Try.prog 23 #[.slice A ys.length c, .int .i64 0, .int .i64 ys.length, .func (.func 19) #[] #[.pointer (some ⟨pj, 0, none⟩)]] w
      fun e w' => e = .returned (.tuple #[]) ∧ ∃ zs : List Int, zs.length = ys.length ∧ w'.ownsRow base 3 1 (.slice A ys.length c) ys.length (zs.map (Value.int .i64)) ∧ zs.Perm ys ∧ zs.Pairwise (Du.Lt f) ∧ Below B0 w0 w' := by
  by_cases h0 : ys.length = 0
  · obtain rfl : ys = [] := List.eq_nil_of_length_eq_zero h0
    refine (insertion_none _ _ 0 0 w (by omega) (by omega)).mono ?_
    rintro e w' ⟨rfl, rfl⟩
    exact ⟨rfl, [], rfl, hown, List.Perm.refl _, List.Pairwise.nil, hB⟩
  · obtain ⟨g, cap', hv, hbg, _⟩ := hown.form (by omega)
    obtain ⟨rfl, rfl⟩ : A = some ⟨g, 0, none⟩ ∧ c = cap' := by simpa using hv
    obtain ⟨rest, hrow, _, hc, hm⟩ := Row.of_own hown
    obtain ⟨y, hy⟩ := List.exists_mem_of_length_pos (by omega : 0 < ys.length)
    have hl : 0 < len := by have := hin y hy; omega
    refine (insertion_any g pj b off len cap c f ys rest B0 w0 w hlen hn hin hup hrow (hjobs hl) (by have := hb hl; omega) (by omega) hB (by omega)).mono ?_
    rintro e w' ⟨rfl, zs, hr, hperm, hs, hb'⟩
    have hl := hperm.length_eq
    refine ⟨rfl, zs, hl, ?_, hperm, hs, hb'⟩
    rw [← hl]
    exact hr.own hbg (by omega) hm

set_option maxRecDepth 100000 in
set_option maxHeartbeats 2000000 in
theorem stable_own (A : Option Addr) (pj b off len cap c base : Nat) (f : Int → Int) (ys : List Int) (B0 : Nat) (w0 w : World) (hlen : len ≤ 20) (hn : ys.length ≤ 20)
    (hin : ∀ y ∈ ys, 0 ≤ y ∧ y < len) (hup : ys.Pairwise (· < ·)) (hown : w.ownsRow base 3 1 (.slice A ys.length c) ys.length (ys.map (Value.int .i64))) (hjobs : 0 < len → Jobs w pj b off len cap f) (hb : 0 < len → b < base) (hp : pj < base) (hB : Below B0 w0 w) (hg : B0 ≤ base) :
    Calls Try.prog 21 #[.slice A ys.length c, .int .i64 ys.length, .func (.func 19) #[] #[.pointer (some ⟨pj, 0, none⟩)]] w
      fun e w' => e = .returned (.tuple #[]) ∧ ∃ zs : List Int, zs.length = ys.length ∧ w'.ownsRow base 3 1 (.slice A ys.length c) ys.length (zs.map (Value.int .i64)) ∧ zs.Perm ys ∧ zs.Pairwise (Du.Lt f) ∧ Below B0 w0 w' := by
  have CON := Aid.hid (insertion_own A pj b off len cap c base f ys B0 w0 w hlen hn hin hup hown hjobs hb hp hB hg)
  clear hlen hin hup hown hjobs hb hp hB hg
  generalize ys.length = n at *
  go_enter Try.func21, Try.ntmps21
  try simp only [List.append_eq, List.cons_append, List.nil_append]
  have n0 : (n : Int) ≤ 20 := by omega
  have n1 : (20 : Int) < (n : Int) → False := by omega
  by_cases h20 : n = 20
  · have C20 : Hid (Calls Try.prog 23 #[.slice A n c, .int .i64 0, .int .i64 20, .func (.func 19) #[] #[.pointer (some ⟨pj, 0, none⟩)]] w
      fun e w' => e = .returned (.tuple #[]) ∧ ∃ zs : List Int, zs.length = n ∧ w'.ownsRow base 3 1 (.slice A n c) n (zs.map (Value.int .i64)) ∧ zs.Perm ys ∧ zs.Pairwise (Du.Lt f) ∧ Below B0 w0 w') := by
      subst h20; exact CON.out
    have n2 : (20 : Int) ≤ (n : Int) := by omega
    have H20 := Aid.hid h20
    clear h20 CON
    go_wp2_with fail
    go_loopw [7, 8] (fun va vb wr => ∃ k : Nat, va = .int .i64 k ∧ vb = .int .i64 (k + 20) ∧ Hid (k = 0 ∧ wr = w ∨ k = 20 ∧ ∃ zs : List Int, zs.length = n ∧ wr.ownsRow base 3 1 (.slice A n c) n (zs.map (Value.int .i64)) ∧ zs.Perm ys ∧ zs.Pairwise (Du.Lt f) ∧ Below B0 w0 wr)) (fun va _ _ => 20 - (intOf va).toNat)
    case atStart => exact ⟨0, rfl, rfl, Aid.hid (Or.inl ⟨rfl, rfl⟩)⟩
    case round =>
      obtain ⟨k, rfl, rfl, hrel⟩ := hrel
      rcases hrel.out with ⟨rfl, rfl⟩ | ⟨rfl, zs, q⟩
      · go_wp2_with fail
        refine C20.out.mono ?_; rintro e w' ⟨rfl, zs, q⟩
        replace q := Aid.hid q
        go_wp2_with fail
        go_roundw
        case rel => exact ⟨20, rfl, rfl, Aid.hid (Or.inr ⟨rfl, zs, q.out⟩)⟩
        case measure => simp [intOf]
      · replace q := Aid.hid q
        go_wp2_with fail
        refine (insertion_none _ _ 20 n _ (by omega) (by omega)).mono ?_; rintro e w' ⟨rfl, rfl⟩
        go_wp2_with fail
        go_loopw [6] (fun v wr' => v = .int .i64 20 ∧ wr' = wr) (fun _ _ => 0)
        case atStart => exact ⟨rfl, rfl⟩
        case round =>
          obtain ⟨rfl, rfl⟩ := hrel
          go_wp2_with fail
          go_end0
          exact ⟨rfl, zs, q.out⟩
  · have hlt : (n : Int) < 20 := by omega
    go_wp2_with fail
    go_loopw [7, 8] (fun va vb wr => va = .int .i64 0 ∧ vb = .int .i64 20 ∧ wr = w) (fun _ _ _ => 0)
    case atStart => exact ⟨rfl, rfl, rfl⟩
    case round =>
      obtain ⟨rfl, rfl, rfl⟩ := hrel
      go_wp2_with fail
      refine CON.out.mono ?_; rintro e w' ⟨rfl, zs, q⟩
      replace q := Aid.hid q
      go_wp2_with fail
      go_loopw [6] (fun v wr' => v = .int .i64 20 ∧ wr' = w') (fun _ _ => 0)
      case atStart => exact ⟨rfl, rfl⟩
      case round =>
        obtain ⟨rfl, rfl⟩ := hrel
        go_wp2_with fail
        go_end0
        exact ⟨rfl, zs, q.out⟩

set_option maxHeartbeats 1000000 in
theorem sort_own (A : Option Addr) (pj b off len cap c base : Nat) (f : Int → Int) (ys : List Int) (B0 : Nat) (w0 w : World) (hlen : len ≤ 20) (hn : ys.length ≤ 20)
    (hin : ∀ y ∈ ys, 0 ≤ y ∧ y < len) (hup : ys.Pairwise (· < ·)) (hown : w.ownsRow base 3 1 (.slice A ys.length c) ys.length (ys.map (Value.int .i64))) (hjobs : 0 < len → Jobs w pj b off len cap f) (hb : 0 < len → b < base) (hp : pj < base) (hB : Below B0 w0 w) (hg : B0 ≤ base) :
    Calls Try.prog 18 #[.slice A ys.length c, .func (.func 19) #[] #[.pointer (some ⟨pj, 0, none⟩)]] w
      fun e w' => e = .returned (.tuple #[]) ∧ ∃ zs : List Int, zs.length = ys.length ∧ w'.ownsRow base 3 1 (.slice A ys.length c) ys.length (zs.map (Value.int .i64)) ∧ zs.Perm ys ∧ zs.Pairwise (Du.Lt f) ∧ Below B0 w0 w' := by
  have CON := Aid.hid (stable_own A pj b off len cap c base f ys B0 w0 w hlen hn hin hup hown hjobs hb hp hB hg)
  clear hlen hin hup hown hjobs hb hp hB hg
  generalize ys.length = n at *
  go_enter Try.func18, Try.ntmps18
  go_wp2_with fail
  refine CON.out.mono ?_; rintro e w' ⟨rfl, zs, q⟩
  replace q := Aid.hid q
  go_wp2_with fail
  go_end0
  exact ⟨rfl, zs, q.out⟩
end Go.Proofs.Ytimojijbjmchkaa
