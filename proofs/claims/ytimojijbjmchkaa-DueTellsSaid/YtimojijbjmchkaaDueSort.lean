/- slices.insertionSortCmpFunc over a row of numbers, the comparison that Which hands on: the walk. -/
import Derived.Test.YtimojijbjmchkaaDueC
import Derived.Test.YtimojijbjmchkaaSortSpec
import Derived.BigRegion
import Derived.Deep.Cut
namespace Go.Proofs.Ytimojijbjmchkaa
open Go.RowKit

/-- The jobs, as the comparison sees them: a variable that holds the slice, and each one's First. -/
structure Jobs (w : World) (pj b off len cap : Nat) (f : Int → Int) : Prop where
  var : w.cell? ⟨pj, 0, none⟩ = some (.slice (some ⟨b, off, none⟩) len cap)
  first : ∀ i : Nat, i < len → w.cell? ⟨b, off + i * 3 + 2, none⟩ = some (.int .i64 (f i))
/-- A row of numbers, with what stands behind them. -/
def Row (w : World) (g : Nat) (ys : List Int) (rest : List Value) : Prop := Aid.Has w g (ys.map (Value.int .i64) ++ rest) 3

theorem Row.cell {w : World} {g : Nat} {ys : List Int} {rest : List Value} (h : Row w g ys rest) (j : Nat) (x : Int) (hx : ys[j]? = some x) : w.cell? ⟨g, j, none⟩ = some (.int .i64 x) := by
  refine Aid.Has.cell h j _ ?_
  have hj : j < ys.length := (List.getElem?_eq_some_iff.1 hx).1
  rw [List.getElem?_append_left (by simpa using hj)]
  simp [hx]
theorem Row.set {w : World} {g : Nat} {ys : List Int} {rest : List Value} (h : Row w g ys rest) (j : Nat) (x : Int) (hj : j < ys.length) : Row (w.setCell ⟨g, j, none⟩ (.int .i64 x)) g (ys.set j x) rest := by
  have := Aid.Has.set h j (.int .i64 x)
  unfold Row
  rw [List.set_append_left _ _ (by simpa using hj)] at this
  rwa [List.map_set]

theorem Row.drewN {w : World} {g : Nat} {ys : List Int} {rest : List Value} (h : Row w g ys rest) (n : Nat) : Row (w.drewN n) g ys rest := h
theorem Jobs.drewN {w : World} {pj b off len cap : Nat} {f : Int → Int} (h : Jobs w pj b off len cap f) (n : Nat) : Jobs (w.drewN n) pj b off len cap f := ⟨h.var, h.first⟩
theorem below_drewN {B : Nat} {a w : World} (h : Below B a w) (n : Nat) : Below B a (w.drewN n) := ⟨h.os, h.tape, h.output, h.size, h.block⟩
theorem Jobs.set {w : World} {pj b off len cap : Nat} {f : Int → Int} (h : Jobs w pj b off len cap f) (a : Addr) (v : Value) (h1 : pj ≠ a.block) (h2 : b ≠ a.block) : Jobs (w.setCell a v) pj b off len cap f := by
  refine ⟨(World.cell?_of_block (w := w) (Below.heap_setCell w a v pj h1)).trans h.var, fun i hi => (World.cell?_of_block (w := w) (Below.heap_setCell w a v b h2)).trans (h.first i hi)⟩
theorem which1_int (b off len cap : Nat) (pj : Nat) (f : Int → Int) (x y : Int) (w : World) (hj : Jobs w pj b off len cap f) (hlen : len ≤ 20) (hx : 0 ≤ x ∧ x < len) (hy : 0 ≤ y ∧ y < len) :
    Calls Try.prog 19 #[.int .i64 x, .int .i64 y, .pointer (some ⟨pj, 0, none⟩)] w fun e w' => e = .returned (.int .i64 (Du.cmp (f x) (f y))) ∧ ∃ n, w' = w.drewN n := by
  obtain ⟨i, rfl⟩ := Int.eq_ofNat_of_zero_le hx.1
  obtain ⟨j, rfl⟩ := Int.eq_ofNat_of_zero_le hy.1
  exact which1_any b off len cap pj (fun i => f i) i j w hj.var (by omega) (by omega) hlen (hj.first i (by omega)) (hj.first j (by omega))

theorem which1_is (b off len cap : Nat) (pj : Nat) (f : Int → Int) (x y v : Int) (w : World) (hv : Du.cmp (f x) (f y) = v) (hj : Jobs w pj b off len cap f) (hlen : len ≤ 20) (hx : 0 ≤ x ∧ x < len) (hy : 0 ≤ y ∧ y < len) :
    Calls Try.prog 19 #[.int .i64 x, .int .i64 y, .pointer (some ⟨pj, 0, none⟩)] w fun e w' => e = .returned (.int .i64 v) ∧ ∃ n, w' = w.drewN n := by
  rw [← hv]; exact which1_int b off len cap pj f x y w hj hlen hx hy

set_option maxRecDepth 100000 in
set_option maxHeartbeats 4000000 in
theorem insertion_any (g pj b off len cap c : Nat) (f : Int → Int) (ys : List Int) (rest : List Value) (B0 : Nat) (w0 w : World) (hlen : len ≤ 20) (hn : ys.length ≤ 20)
    (hin : ∀ y ∈ ys, 0 ≤ y ∧ y < len) (hup : ys.Pairwise (· < ·)) (hrow : Row w g ys rest) (hjobs : Jobs w pj b off len cap f) (hgb : g ≠ b) (hgp : g ≠ pj) (hB : Below B0 w0 w) (hg : B0 ≤ g) :
    Calls Try.prog 23 #[.slice (some ⟨g, 0, none⟩) ys.length c, .int .i64 0, .int .i64 ys.length, .func (.func 19) #[] #[.pointer (some ⟨pj, 0, none⟩)]] w
      fun e w' => e = .returned (.tuple #[]) ∧ ∃ zs, Row w' g zs rest ∧ zs.Perm ys ∧ zs.Pairwise (Du.Lt f) ∧ Below B0 w0 w' := by
  go_enter Try.func23, Try.ntmps23
  try simp only [List.append_eq, List.cons_append, List.nil_append]
  go_wp2_with fail
  go_loopw [8] (fun vi wr => ∃ (k : Nat) (zs : List Int), vi = .int .i64 k ∧ 1 ≤ k ∧ (k = 1 ∨ k ≤ ys.length) ∧ zs.length = ys.length ∧ Row wr g zs rest ∧ (zs.take k).Pairwise (Du.Lt f) ∧ (zs.take k).Perm (ys.take k) ∧ zs.drop k = ys.drop k ∧
      Jobs wr pj b off len cap f ∧ Below B0 w0 wr) (fun vi _ => ys.length - (intOf vi).toNat)
  case atStart =>
    refine ⟨1, ys, rfl, Nat.le_refl _, Or.inl rfl, rfl, hrow, ?_, List.Perm.refl _, rfl, hjobs, hB⟩
    cases ys with
    | nil => simp
    | cons a l => simp
  case round =>
    obtain ⟨k, zs, rfl, hk1, hk2, hzl, hrow, hsort, hperm, hdrop, hjobs, hB⟩ := hrel
    have S1 := Aid.hid hsort; have S2 := Aid.hid hperm; have S3 := Aid.hid hdrop; have S4 := Aid.hid hzl
    clear hsort hperm hdrop hzl
    by_cases hlt : k < ys.length
    · have hltz : (k : Int) < (ys.length : Int) := by omega
      obtain ⟨p, x, r, rfl, hpl⟩ : ∃ p x r, zs = p ++ x :: r ∧ p.length = k := by
        have h : k < zs.length := by rw [S4.out]; exact hlt
        exact ⟨zs.take k, zs[k], zs.drop (k + 1), by rw [List.getElem_cons_drop h, List.take_append_drop], by simp; omega⟩
      have T1 : Hid (p.Pairwise (Du.Lt f)) := Aid.hid (by have := S1.out; rwa [← hpl, List.take_left] at this)
      have T2 : Hid (p.Perm (ys.take k)) := Aid.hid (by have := S2.out; rwa [← hpl, List.take_left, hpl] at this)
      have T3 : Hid (x :: r = ys.drop k) := Aid.hid (by have := S3.out; rwa [← hpl, List.drop_left, hpl] at this)
      have T4 : Hid (x ∈ ys) := Aid.hid (List.mem_of_mem_drop (T3.out ▸ List.mem_cons_self))
      have T5 : Hid (∀ y ∈ p, 0 ≤ y ∧ y < len) := Aid.hid (fun y hy => hin y (List.mem_of_mem_take (T2.out.subset hy)))
      have T6 : Hid (0 ≤ x ∧ x < len) := Aid.hid (hin x T4.out)
      have T7 : Hid (∀ y ∈ p, y < x) := Aid.hid (fun y hy => by
        have h1 := T2.out.subset hy
        have h2 : (ys.take k ++ ys.drop k).Pairwise (· < ·) := by rw [List.take_append_drop]; exact hup
        exact (List.pairwise_append.1 h2).2.2 y h1 x (T3.out ▸ List.mem_cons_self))
      have PL := Aid.hid hpl
      clear S1 S2 S3 hpl
      go_wp2_with fail
      obtain ⟨wo, rfl⟩ : ∃ wo : World, wo = wr := ⟨_, rfl⟩
      go_loopw [9] (fun vj wi => ∃ (p1 p2 : List Int), vj = .int .i64 p1.length ∧ Hid (p1 ++ p2 = p) ∧ Hid (∀ y ∈ p2, f x < f y) ∧ Row wi g (p1 ++ x :: p2 ++ r) rest ∧ Jobs wi pj b off len cap f ∧ Below B0 w0 wi) (fun vj _ => (intOf vj).toNat)
      case atStart => exact ⟨p, [], by rw [PL.out], Aid.hid (by simp), Aid.hid (by simp), by simpa using hrow, hjobs, hB⟩
      case round =>
        obtain ⟨p1, p2, rfl, E1, E2, hr, hj, hb⟩ := hrel
        clear hrow hjobs hB
        rcases List.eq_nil_or_concat p1 with rfl | ⟨q, z, rfl⟩
        · have OUT : Hid ((x :: p2).Pairwise (Du.Lt f) ∧ (x :: p2).Perm (ys.take (k + 1))) := Aid.hid (by
            have e : p2 = p := by simpa using E1.out
            subst e
            refine ⟨by simpa using Du.insert_sorted (f := f) (p1 := []) (p2 := p2) (x := x) (by simpa using T1.out) E2.out (by simp) (Or.inl rfl), ?_⟩
            rw [List.take_succ_eq_append_getElem hlt]
            have hx : ys[k] = x := by
              have := T3.out
              rw [List.drop_eq_getElem_cons hlt] at this
              exact (List.cons.inj this).1.symm
            rw [hx]
            exact (List.Perm.cons x T2.out).trans (List.perm_append_comm (l₁ := [x])))
          go_wp2_with fail
          go_quiet (fail)
          go_wp2_with fail
          go_roundw
          case rel =>
            obtain ⟨o1, o2⟩ := OUT.out
            have e : p2 = p := by simpa using E1.out
            have hl2 : p2.length = k := by rw [e]; exact PL.out
            have hd : r = ys.drop (k + 1) := by
              have := T3.out
              rw [List.drop_eq_getElem_cons hlt] at this
              exact (List.cons.inj this).2
            exact ⟨k + 1, x :: p2 ++ r, by go_num, by omega, Or.inr hlt, by have := S4.out; simp only [List.length_append, List.length_cons] at this ⊢; rw [← e] at this; omega,
              by simpa using hr.drewN nq, by simpa [← hl2] using o1, by simpa [← hl2] using o2, by simpa [← hl2] using (hl2 ▸ hd), hj.drewN nq, below_drewN hb nq⟩
          case measure => simp [intOf]; omega
        · rw [List.concat_eq_append] at E1 hr
          have hql : (q.concat z).length = q.length + 1 := by simp
          rw [hql]
          have cz := hr.cell q.length z (by simp)
          have cx := hr.cell (q.length + 1) x (by simp)
          have hmk : q.length + 1 + p2.length = k := by have := congrArg List.length E1.out; simp at this; have := PL.out; omega
          have ZB : Hid (0 ≤ z ∧ z < len) := Aid.hid (T5.out z (by rw [← E1.out]; simp))
          obtain ⟨m, hm⟩ : ∃ m, q.length = m := ⟨_, rfl⟩
          have QM := Aid.hid hm
          rw [hm] at cz cx hmk ⊢
          clear hm hql
          have MK := Aid.hid hmk
          have m0 : m + 1 < ys.length := by omega
          clear hmk
          have z1 : (m : Int) + 1 < (ys.length : Int) := by omega
          have z2 : (m : Int) < (ys.length : Int) := by omega
          have z3 : (0 : Int) < (m : Int) + 1 := by omega
          have z4 : (0 : Int) ≤ (m : Int) + 1 := by omega
          have z5 : ((m : Int) + 1).toNat = m + 1 := by omega
          have hwp : IntKind.i64.wrap (m : Int) = (m : Int) := by rw [IntKind.wrap_i64]; omega
          obtain ⟨v, hv⟩ : ∃ v, Du.cmp (f x) (f z) = v := ⟨_, rfl⟩
          have V := Aid.hid hv
          clear hv
          by_cases hlv : v < 0
          · go_wp2_with fail
            go_quiet ((go_at_call 19; refine Calls.quiet_of (which1_is b off len cap pj f x z v _ V.out (hj.drewN _) hlen T6.out ZB.out)))
            go_wp2_with fail
            have hr2 := hr.drewN nq
            have hj2 := hj.drewN nq
            have hb2 := below_drewN hb nq
            clear hr hj hb cz cx
            generalize wr.drewN nq = w2 at hr2 hj2 hb2 ⊢
            have cz := hr2.cell m z (by have := QM.out; subst this; simp)
            have cx := hr2.cell (m + 1) x (by have := QM.out; subst this; simp)
            have fz := Aid.Has.frozen hr2 m
            have fx := Aid.Has.frozen hr2 (m + 1)
            obtain ⟨m1, hm1⟩ : ∃ m1, m1 = m + 1 := ⟨_, rfl⟩
            rw [← hm1] at cx fx z5
            have M1 := Aid.hid hm1
            clear hm1
            go_region
            go_wp2_with fail
            go_roundw
            case rel =>
              have hxz : f x < f z := by
                have h := V.out
                unfold Du.cmp at h
                by_cases h1 : f x < f z
                · exact h1
                · rw [if_neg h1] at h
                  split at h <;> omega
              have e := M1.out
              subst e
              refine ⟨q, z :: p2, by rw [QM.out], Aid.hid (by have := E1.out; simpa using this), Aid.hid (fun y hy => ?_), ?_, ?_, ?_⟩
              · rcases List.mem_cons.1 hy with rfl | hy
                · exact hxz
                · exact E2.out y hy
              · have hm := QM.out
                subst hm
                have h1 := (hr2.set (q.length + 1) z (by simp)).set q.length x (by simp)
                rw [Du.swap_list] at h1
                exact h1
              · exact Jobs.drewN ((hj2.set ⟨g, m + 1, none⟩ (.int .i64 z) (Ne.symm hgp) (Ne.symm hgb)).set ⟨g, m, none⟩ (.int .i64 x) (Ne.symm hgp) (Ne.symm hgb)) 1
              · exact ((hb2.setCell hg _).setCell hg _).drew
            case measure => simp [intOf]
          · have OUT : Hid ((q ++ [z] ++ x :: p2).Pairwise (Du.Lt f) ∧ (q ++ [z] ++ x :: p2).Perm (ys.take (k + 1))) := Aid.hid (by
              have e := E1.out
              have hxz : f z ≤ f x := by
                have h := V.out
                unfold Du.cmp at h
                by_cases h1 : f x < f z
                · rw [if_pos h1] at h; omega
                · omega
              refine ⟨Du.insert_sorted (f := f) (p1 := q ++ [z]) (p2 := p2) (x := x) (by rw [e]; exact T1.out) E2.out (fun y hy => T7.out y (by rw [← e]; exact List.mem_append_left _ hy)) (Or.inr ⟨q, z, rfl, hxz⟩), ?_⟩
              rw [List.take_succ_eq_append_getElem hlt]
              have hx : ys[k] = x := by
                have := T3.out
                rw [List.drop_eq_getElem_cons hlt] at this
                exact (List.cons.inj this).1.symm
              rw [hx]
              refine List.perm_middle.trans ?_
              rw [e]
              exact (List.Perm.cons x T2.out).trans (List.perm_append_comm (l₁ := [x])))
            have hlv2 : decide (v < 0) = false := by simpa using hlv
            go_wp2_with fail
            go_quiet ((go_at_call 19; refine Calls.quiet_of (which1_is b off len cap pj f x z v _ V.out (hj.drewN _) hlen T6.out ZB.out)))
            go_wp2_with fail
            go_roundw
            case rel =>
              obtain ⟨o1, o2⟩ := OUT.out
              have hl2 : (q ++ [z] ++ x :: p2).length = k + 1 := by have := MK.out; have := QM.out; simp; omega
              have hd : r = ys.drop (k + 1) := by
                have := T3.out
                rw [List.drop_eq_getElem_cons hlt] at this
                exact (List.cons.inj this).2
              refine ⟨k + 1, q ++ [z] ++ x :: p2 ++ r, by go_num, by omega, Or.inr hlt, ?_, hr.drewN nq, ?_, ?_, ?_, hj.drewN nq, below_drewN hb nq⟩
              · have := S4.out; have := PL.out; simp only [List.length_append, List.length_cons] at *; omega
              · rw [← hl2, List.take_left]; exact o1
              · rw [← hl2, List.take_left, hl2]; exact o2
              · rw [← hl2, List.drop_left, hl2]; exact hd
            case measure => simp [intOf]; omega
    · go_wp2_with fail
      go_end0
      have hk : zs.length ≤ k := by have := S4.out; omega
      refine ⟨rfl, zs, hrow, ?_, ?_, hB⟩
      · have := S2.out; rwa [List.take_of_length_le hk, List.take_of_length_le (by rw [← S4.out]; exact hk)] at this
      · have := S1.out; rwa [List.take_of_length_le hk] at this
end Go.Proofs.Ytimojijbjmchkaa
