/- Alike, as a walk. -/
import Derived.Test.YtjhlcfaakhabfaaTabAwake
namespace Go.Proofs.Ytjhlcfaakhabfaa
open Go.RowKit

/-- The program's equality of types. -/
def Ty.same (a b : Ty) : Bool := a.k == b.k && (a.lo == b.lo && (a.hi == b.hi && a.name.toList == b.name.toList))
def Tb.samePs : List Vd → List Vd → Bool
  | [], [] => true
  | a :: x, b :: y => Ty.same a.ty b.ty && Tb.samePs x y
  | _, _ => false
theorem Tb.samePs_len : ∀ (x y : List Vd), x.length ≠ y.length → Tb.samePs x y = false
  | [], [], h => absurd rfl h
  | [], _ :: _, _ => rfl
  | _ :: _, [], _ => rfl
  | a :: x, b :: y, h => by
    rw [Tb.samePs, Tb.samePs_len x y (fun e => h (by simp [e]))]; simp

set_option maxRecDepth 100000 in
set_option maxHeartbeats 1000000 in
theorem alike1_any (a b : Vd) (w : World) :
    Calls Try.prog 38 #[.agg #[.string a.name, .int .i64 a.ty.k, .int .i64 a.ty.lo, .int .i64 a.ty.hi, .string a.ty.name, .int .i64 a.init, .int .i64 a.dir, .int .i64 a.slot], .agg #[.string b.name, .int .i64 b.ty.k, .int .i64 b.ty.lo, .int .i64 b.ty.hi, .string b.ty.name, .int .i64 b.init, .int .i64 b.dir, .int .i64 b.slot]] w fun e w' => e = .returned (.bool (Ty.same a.ty b.ty)) ∧ Below w.heap.size w w' := by
  obtain ⟨an, ⟨ak, al, ah, at_⟩, ai, ad, asl⟩ := a
  obtain ⟨bn, ⟨bk, bl, bh, bt⟩, bi, bd, bsl⟩ := b
  go_enter Try.func38, Try.ntmps38
  go_wp2_with fail
  all_goals
    go_ret
    exact ⟨Aid.ret_bool (by simp_all [Ty.same]), ((Below.refl _ _).alloc (Nat.le_refl _) _).alloc (by simp) _⟩

theorem alike1_is (a b : Vd) (r : Bool) (w : World) (hr : Ty.same a.ty b.ty = r) :
    Calls Try.prog 38 #[.agg #[.string a.name, .int .i64 a.ty.k, .int .i64 a.ty.lo, .int .i64 a.ty.hi, .string a.ty.name, .int .i64 a.init, .int .i64 a.dir, .int .i64 a.slot], .agg #[.string b.name, .int .i64 b.ty.k, .int .i64 b.ty.lo, .int .i64 b.ty.hi, .string b.ty.name, .int .i64 b.init, .int .i64 b.dir, .int .i64 b.slot]] w fun e w' => e = .returned (.bool r) ∧ Below w.heap.size w w' := by
  rw [← hr]; exact alike1_any a b w

theorem Rows.vd {w : World} {B : Nat} {A : Option Addr} {ps : List Vd} (h : Rows w B 8 A (ps.map Vd.cells)) (hn : 0 < ps.length) :
    ∃ b off, A = some ⟨b, off, none⟩ ∧ b < B ∧ ∀ (i : Nat) (v : Vd), ps[i]? = some v → ∀ j x, v.cells[j]? = some x → w.cell? ⟨b, off + i * 8 + j, none⟩ = some x := by
  obtain ⟨b, off, h1, h2, h3⟩ := h (by simpa using hn)
  exact ⟨b, off, h1, h2, fun i v hv j x hx => h3 i v.cells (by simp [hv]) j x hx⟩

set_option maxRecDepth 100000 in
set_option maxHeartbeats 4000000 in
theorem equalVars_is (A C : Option Addr) (B B' ac cc : Nat) (ps qs : List Vd) (r : Bool) (w : World) (hr : Tb.samePs ps qs = r) (hp : Rows w B 8 A (ps.map Vd.cells)) (hq : Rows w B' 8 C (qs.map Vd.cells)) (hB : B ≤ w.heap.size) (hB' : B' ≤ w.heap.size) (lp : ps.length ≤ 1000000000) (lq : qs.length ≤ 1000000000) :
    Calls Try.prog 39 #[.slice A ps.length ac, .slice C qs.length cc, .func (.func 38) #[] #[]] w fun e w' => e = .returned (.bool r) ∧ Below w.heap.size w w' := by
  have HR := Aid.hid hr; have HP := Aid.hid hp; have HQ := Aid.hid hq
  clear hr hp hq
  by_cases hl : ps.length = qs.length
  · go_enter Try.func39, Try.ntmps39
    try simp only [List.append_eq, List.cons_append, List.nil_append]
    rw [← hl]
    have HL := Aid.hid hl
    clear hl
    go_wp2_with fail
    go_loopw [17] (fun vi wr => ∃ k : Nat, vi = .int .i64 k ∧ k ≤ ps.length ∧ Hid (Tb.samePs (ps.drop k) (qs.drop k) = r) ∧ Below w.heap.size w wr) (fun vi _ => ps.length - (intOf vi).toNat)
    case atStart => exact ⟨0, rfl, Nat.zero_le _, Aid.hid (by simpa using HR.out), Below.refl _ _⟩
    case round =>
      obtain ⟨k, rfl, hk, SM, hb⟩ := hrel
      by_cases hlt : k < ps.length
      · have hlq : k < qs.length := by have := HL.out; omega
        obtain ⟨b1, o1, rfl, hb1, hc1⟩ := (HP.out.below hb hB).vd (by omega)
        obtain ⟨b2, o2, rfl, hb2, hc2⟩ := (HQ.out.below hb hB').vd (by omega)
        obtain ⟨x, hx⟩ : ∃ x, ps[k]? = some x := ⟨_, List.getElem?_eq_getElem hlt⟩
        obtain ⟨y, hy⟩ : ∃ y, qs[k]? = some y := ⟨_, List.getElem?_eq_getElem hlq⟩
        have DP : Hid (ps.drop k = x :: ps.drop (k + 1)) := Aid.hid (by rw [List.drop_eq_getElem_cons hlt]; congr 1; exact (List.getElem?_eq_some_iff.1 hx).2)
        have DQ : Hid (qs.drop k = y :: qs.drop (k + 1)) := Aid.hid (by rw [List.drop_eq_getElem_cons hlq]; congr 1; exact (List.getElem?_eq_some_iff.1 hy).2)
        have c0 := hc1 k x hx 0 _ rfl
        have c1 := hc1 k x hx 1 _ rfl
        have c2 := hc1 k x hx 2 _ rfl
        have c3 := hc1 k x hx 3 _ rfl
        have c4 := hc1 k x hx 4 _ rfl
        have c5 := hc1 k x hx 5 _ rfl
        have c6 := hc1 k x hx 6 _ rfl
        have c7 := hc1 k x hx 7 _ rfl
        have d0 := hc2 k y hy 0 _ rfl
        have d1 := hc2 k y hy 1 _ rfl
        have d2 := hc2 k y hy 2 _ rfl
        have d3 := hc2 k y hy 3 _ rfl
        have d4 := hc2 k y hy 4 _ rfl
        have d5 := hc2 k y hy 5 _ rfl
        have d6 := hc2 k y hy 6 _ rfl
        have d7 := hc2 k y hy 7 _ rfl
        simp only [Nat.add_zero] at c0 d0
        have n1 : b1 < wr.heap.size := by have := hb.size; omega
        have n2 : b2 < wr.heap.size := by have := hb.size; omega
        clear hc1 hc2 hx hy
        obtain ⟨q, hq⟩ : ∃ q, Ty.same x.ty y.ty = q := ⟨_, rfl⟩
        have HQ2 := Aid.hid hq
        clear hq
        go_wp2_with fail
        refine (alike1_is x y q _ HQ2.out).mono ?_; rintro e w2 ⟨rfl, hb3⟩
        have hb4 : Below w.heap.size w w2 := (((hb.alloc hb.size _).alloc (by have := hb.size; simp; omega) _)).trans (hb3.mono (by have := hb.size; simp; omega))
        clear hb hb3 c0 c1 c2 c3 c4 c5 c6 c7 d0 d1 d2 d3 d4 d5 d6 d7 n1 n2
        cases q
        · have E : Hid (false = r) := Aid.hid (by have h := SM.out; rw [DP.out, DQ.out, Tb.samePs, HQ2.out] at h; simpa using h)
          go_wp2_with fail
          go_ret
          exact ⟨by rw [← E.out]; rfl, hb4⟩
        · have NX : Hid (Tb.samePs (ps.drop (k + 1)) (qs.drop (k + 1)) = r) := Aid.hid (by have h := SM.out; rw [DP.out, DQ.out, Tb.samePs, HQ2.out] at h; simpa using h)
          go_wp2_with fail
          go_roundw
          case rel => exact ⟨k + 1, by go_num, by omega, NX, hb4⟩
          case measure => simp [intOf]; omega
      · have E : Hid (true = r) := Aid.hid (by
          have h := SM.out
          rw [List.drop_eq_nil_of_le (by omega), List.drop_eq_nil_of_le (by have := HL.out; omega)] at h
          simpa [Tb.samePs] using h)
        go_wp2_with fail
        go_ret
        exact ⟨by rw [← E.out]; rfl, hb⟩
  · have hl2 : ((ps.length : Int) != (qs.length : Int)) = true := by simpa using (by omega : ¬ (ps.length : Int) = qs.length)
    have E : Hid (false = r) := Aid.hid (by rw [← HR.out, Tb.samePs_len _ _ hl])
    go_enter Try.func39, Try.ntmps39
    try simp only [List.append_eq, List.cons_append, List.nil_append]
    go_wp2_with fail
    go_ret
    exact ⟨by rw [← E.out]; rfl, Below.refl _ _⟩
end Go.Proofs.Ytjhlcfaakhabfaa
