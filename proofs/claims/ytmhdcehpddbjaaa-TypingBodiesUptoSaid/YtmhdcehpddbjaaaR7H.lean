/- The document's bin, as a walk. -/
import Derived.Test.YtmhdcehpddbjaaaR7A
import Derived.WalkKit
import Derived.WalkSpells
import Derived.WalkLawsBesides
import Derived.LoopTactic
import Derived.Deep.QuietTactic
import Derived.BigQuiet
import Derived.Below
import Derived.Laws.ResultCell
import Derived.Laws.Tables
import Derived.Laws.Rows
import Derived.Deep.Cut
import Derived.KernelRfl
import Derived.Test.YtmhdcehpddbjaaaR7G
set_option linter.unusedSimpArgs false
set_option linter.unusedVariables false
namespace Go.Proofs.Ytmhdcehpddbjaaa
open Go.RowKit

theorem bk_all (ka kb : Int) : (ka = 1 ∧ kb = 1) ∨ (ka = 2 ∧ kb = 2) ∨ (ka = 5 ∧ kb = 5) ∨ (ka = 1 ∧ kb ≠ 1 ∧ (kb == 1) = false ∧ ((1 : Int) == kb) = false) ∨ (ka = 2 ∧ kb ≠ 2 ∧ (kb == 2) = false ∧ ((2 : Int) == kb) = false) ∨
  (ka = 5 ∧ kb ≠ 5 ∧ (kb == 5) = false ∧ ((5 : Int) == kb) = false) ∨ (ka ≠ 1 ∧ ka ≠ 2 ∧ ka ≠ 5 ∧ (ka == 1) = false ∧ (ka == 2) = false ∧ (ka == 5) = false ∧ (ka = kb ∨ (kb ≠ ka ∧ (ka == kb) = false))) := by
 simp only [beq_eq_false_iff_ne]; omega
theorem rb_bad {n ka kb l1 h1 l2 h2 c : Int} {m1 m2 : ByteArray} {t : Ty} (hr : Rf.bin n ⟨ka, l1, h1, m1⟩ ⟨kb, l2, h2, m2⟩ = (t, c)) (h : ¬(1 ≤ n ∧ n ≤ 5 ∧ ka = 1 ∧ kb = 1) ∧ ¬(8 ≤ n ∧ n ≤ 11 ∧ ka = 1 ∧ kb = 1) ∧ ¬(12 ≤ n ∧ n ≤ 14 ∧ ka = 2 ∧ kb = 2) ∧ ¬((n = 6 ∨ n = 7) ∧ ka = kb ∧ (ka = 1 ∨ ka = 2 ∨ ka = 5))) : Ty.none_ = t ∧ 14 = c := by
 unfold Rf.bin at hr
 rw [if_neg h.1, if_neg h.2.1, if_neg h.2.2.1, if_neg h.2.2.2] at hr
 exact Prod.mk.inj hr
theorem rb_one {n ka kb l1 h1 l2 h2 c : Int} {m1 m2 : ByteArray} {t : Ty} (hr : Rf.bin n ⟨ka, l1, h1, m1⟩ ⟨kb, l2, h2, m2⟩ = (t, c)) (h : 1 ≤ n ∧ n ≤ 5 ∧ ka = 1 ∧ kb = 1) : Ty.of 1 = t ∧ 0 = c := by
 unfold Rf.bin at hr
 rw [if_pos h] at hr
 exact Prod.mk.inj hr
theorem rb_two {n ka kb l1 h1 l2 h2 c : Int} {m1 m2 : ByteArray} {t : Ty} (hr : Rf.bin n ⟨ka, l1, h1, m1⟩ ⟨kb, l2, h2, m2⟩ = (t, c)) (hn : ¬(1 ≤ n ∧ n ≤ 5 ∧ ka = 1 ∧ kb = 1))
  (h : (8 ≤ n ∧ n ≤ 11 ∧ ka = 1 ∧ kb = 1) ∨ (12 ≤ n ∧ n ≤ 14 ∧ ka = 2 ∧ kb = 2) ∨ ((n = 6 ∨ n = 7) ∧ ka = kb ∧ (ka = 1 ∨ ka = 2 ∨ ka = 5))) : Ty.of 2 = t ∧ 0 = c := by
 unfold Rf.bin at hr
 rw [if_neg hn] at hr
 refine Prod.mk.inj (hr.symm.trans ?_).symm
 by_cases h1 : 8 ≤ n ∧ n ≤ 11 ∧ ka = 1 ∧ kb = 1
 ·
  rw [if_pos h1]
 ·
  rw [if_neg h1]
  by_cases h2 : 12 ≤ n ∧ n ≤ 14 ∧ ka = 2 ∧ kb = 2
  ·
   rw [if_pos h2]
  ·
   rw [if_neg h2, if_pos ((h.resolve_left h1).resolve_left h2)]
set_option maxRecDepth 100000 in
set_option maxHeartbeats 40000000 in
theorem rbin_is (n : Int) (a b t : Ty) (c : Int) (w : World) (hr : Rf.bin n a b = (t, c)) :
  Calls Try.prog 39 #[.int .i64 n, .agg #[.int .i64 a.k, .int .i64 a.lo, .int .i64 a.hi, .string a.name], .agg #[.int .i64 b.k, .int .i64 b.lo, .int .i64 b.hi, .string b.name]] w fun z w' => z = .returned (.tuple #[.agg #[.int .i64 t.k, .int .i64 t.lo, .int .i64 t.hi, .string t.name], .int .i64 c]) ∧ Below w.heap.size w w' := by
 have HR := Aid.hid hr
 clear hr
 obtain ⟨ka, la1, ha1, na1⟩ := a
 obtain ⟨kb, lb1, hb1, nb1⟩ := b
 have hn : n ≤ 0 ∨ (1 ≤ n ∧ n ≤ 5) ∨ n = 6 ∨ n = 7 ∨ (8 ≤ n ∧ n ≤ 11) ∨ (12 ≤ n ∧ n ≤ 14) ∨ 15 ≤ n := by omega
 have hk := bk_all ka kb
 obtain ⟨W, hW, Na, Nb, Nz, K0⟩ := newh3 w [.int .i64 ka, .int .i64 la1, .int .i64 ha1, .string na1] [.int .i64 kb, .int .i64 lb1, .int .i64 hb1, .string nb1] [.int .i64 0, .int .i64 0, .int .i64 0, .string ⟨#[]⟩] 36 36 36
 obtain ⟨xa0, la⟩ := xc1 Na
 obtain ⟨xb0, lb⟩ := xc1 Nb
 go_enter Try.func39, Try.ntmps39
 try simp only [List.append_eq, List.cons_append, List.nil_append]
 rcases hn with hn | ⟨hn, hn2⟩ | rfl | rfl | ⟨hn, hn2⟩ | ⟨hn, hn2⟩ | hn
 ·
  have b1 : decide ((1 : Int) ≤ n) = false := by simp; omega
  have b5 : decide (n ≤ (5 : Int)) = true := by simp; omega
  have b8 : decide ((8 : Int) ≤ n) = false := by simp; omega
  have b11 : decide (n ≤ (11 : Int)) = true := by simp; omega
  have b12 : decide ((12 : Int) ≤ n) = false := by simp; omega
  have b14 : decide (n ≤ (14 : Int)) = true := by simp; omega
  have e6 : (n == 6) = false := by simp; omega
  have e7 : (n == 7) = false := by simp; omega
  rcases hk with ⟨rfl, rfl⟩ | ⟨rfl, rfl⟩ | ⟨rfl, rfl⟩ | ⟨rfl, k1, g1, g2⟩ | ⟨rfl, k1, g1, g2⟩ | ⟨rfl, k1, g1, g2⟩ | ⟨k1, k2, k5, g1, g2, g5, rfl | ⟨k3, g3⟩⟩
  all_goals
   go_upto_region 10 with (fail)
   go_wp2_with (refine stT Nz rfl rfl rfl rfl rfl rfl (by simp [Value.oneCell']) ?_)
   refine rtT Nz rfl rfl rfl rfl rfl ⟨?_, row_below (K0.out) (by omega) _⟩
   clear Nz Na Nb K0 hW xa0 xb0 la lb
   obtain ⟨rfl, rfl⟩ := rb_bad HR.out (by omega)
   rfl
 ·
  have b1 : decide ((1 : Int) ≤ n) = true := by simp; omega
  have b5 : decide (n ≤ (5 : Int)) = true := by simp; omega
  have b8 : decide ((8 : Int) ≤ n) = false := by simp; omega
  have b11 : decide (n ≤ (11 : Int)) = true := by simp; omega
  have b12 : decide ((12 : Int) ≤ n) = false := by simp; omega
  have b14 : decide (n ≤ (14 : Int)) = true := by simp; omega
  have e6 : (n == 6) = false := by simp; omega
  have e7 : (n == 7) = false := by simp; omega
  rcases hk with ⟨rfl, rfl⟩ | ⟨rfl, rfl⟩ | ⟨rfl, rfl⟩ | ⟨rfl, k1, g1, g2⟩ | ⟨rfl, k1, g1, g2⟩ | ⟨rfl, k1, g1, g2⟩ | ⟨k1, k2, k5, g1, g2, g5, rfl | ⟨k3, g3⟩⟩
  ·
   go_upto_region 3 with (fail)
   go_wp2_with (refine stT Nz rfl rfl rfl rfl rfl rfl (by simp [Value.oneCell']) ?_)
   refine rtT Nz rfl rfl rfl rfl rfl ⟨?_, row_below (K0.out) (by omega) _⟩
   clear Nz Na Nb K0 hW xa0 xb0 la lb
   obtain ⟨rfl, rfl⟩ := rb_one HR.out (by omega)
   rfl
  all_goals
   go_upto_region 10 with (fail)
   go_wp2_with (refine stT Nz rfl rfl rfl rfl rfl rfl (by simp [Value.oneCell']) ?_)
   refine rtT Nz rfl rfl rfl rfl rfl ⟨?_, row_below (K0.out) (by omega) _⟩
   clear Nz Na Nb K0 hW xa0 xb0 la lb
   obtain ⟨rfl, rfl⟩ := rb_bad HR.out (by omega)
   rfl
 ·
  rcases hk with ⟨rfl, rfl⟩ | ⟨rfl, rfl⟩ | ⟨rfl, rfl⟩ | ⟨rfl, k1, g1, g2⟩ | ⟨rfl, k1, g1, g2⟩ | ⟨rfl, k1, g1, g2⟩ | ⟨k1, k2, k5, g1, g2, g5, rfl | ⟨k3, g3⟩⟩
  ·
   go_upto_region 9 with (fail)
   go_wp2_with (refine stT Nz rfl rfl rfl rfl rfl rfl (by simp [Value.oneCell']) ?_)
   refine rtT Nz rfl rfl rfl rfl rfl ⟨?_, row_below (K0.out) (by omega) _⟩
   clear Nz Na Nb K0 hW xa0 xb0 la lb
   obtain ⟨rfl, rfl⟩ := rb_two HR.out (by omega) (by omega)
   rfl
  ·
   go_upto_region 9 with (fail)
   go_wp2_with (refine stT Nz rfl rfl rfl rfl rfl rfl (by simp [Value.oneCell']) ?_)
   refine rtT Nz rfl rfl rfl rfl rfl ⟨?_, row_below (K0.out) (by omega) _⟩
   clear Nz Na Nb K0 hW xa0 xb0 la lb
   obtain ⟨rfl, rfl⟩ := rb_two HR.out (by omega) (by omega)
   rfl
  ·
   go_upto_region 9 with (fail)
   go_wp2_with (refine stT Nz rfl rfl rfl rfl rfl rfl (by simp [Value.oneCell']) ?_)
   refine rtT Nz rfl rfl rfl rfl rfl ⟨?_, row_below (K0.out) (by omega) _⟩
   clear Nz Na Nb K0 hW xa0 xb0 la lb
   obtain ⟨rfl, rfl⟩ := rb_two HR.out (by omega) (by omega)
   rfl
  all_goals
   go_upto_region 10 with (fail)
   go_wp2_with (refine stT Nz rfl rfl rfl rfl rfl rfl (by simp [Value.oneCell']) ?_)
   refine rtT Nz rfl rfl rfl rfl rfl ⟨?_, row_below (K0.out) (by omega) _⟩
   clear Nz Na Nb K0 hW xa0 xb0 la lb
   obtain ⟨rfl, rfl⟩ := rb_bad HR.out (by omega)
   rfl
 ·
  rcases hk with ⟨rfl, rfl⟩ | ⟨rfl, rfl⟩ | ⟨rfl, rfl⟩ | ⟨rfl, k1, g1, g2⟩ | ⟨rfl, k1, g1, g2⟩ | ⟨rfl, k1, g1, g2⟩ | ⟨k1, k2, k5, g1, g2, g5, rfl | ⟨k3, g3⟩⟩
  ·
   go_upto_region 9 with (fail)
   go_wp2_with (refine stT Nz rfl rfl rfl rfl rfl rfl (by simp [Value.oneCell']) ?_)
   refine rtT Nz rfl rfl rfl rfl rfl ⟨?_, row_below (K0.out) (by omega) _⟩
   clear Nz Na Nb K0 hW xa0 xb0 la lb
   obtain ⟨rfl, rfl⟩ := rb_two HR.out (by omega) (by omega)
   rfl
  ·
   go_upto_region 9 with (fail)
   go_wp2_with (refine stT Nz rfl rfl rfl rfl rfl rfl (by simp [Value.oneCell']) ?_)
   refine rtT Nz rfl rfl rfl rfl rfl ⟨?_, row_below (K0.out) (by omega) _⟩
   clear Nz Na Nb K0 hW xa0 xb0 la lb
   obtain ⟨rfl, rfl⟩ := rb_two HR.out (by omega) (by omega)
   rfl
  ·
   go_upto_region 9 with (fail)
   go_wp2_with (refine stT Nz rfl rfl rfl rfl rfl rfl (by simp [Value.oneCell']) ?_)
   refine rtT Nz rfl rfl rfl rfl rfl ⟨?_, row_below (K0.out) (by omega) _⟩
   clear Nz Na Nb K0 hW xa0 xb0 la lb
   obtain ⟨rfl, rfl⟩ := rb_two HR.out (by omega) (by omega)
   rfl
  all_goals
   go_upto_region 10 with (fail)
   go_wp2_with (refine stT Nz rfl rfl rfl rfl rfl rfl (by simp [Value.oneCell']) ?_)
   refine rtT Nz rfl rfl rfl rfl rfl ⟨?_, row_below (K0.out) (by omega) _⟩
   clear Nz Na Nb K0 hW xa0 xb0 la lb
   obtain ⟨rfl, rfl⟩ := rb_bad HR.out (by omega)
   rfl
 ·
  have b1 : decide ((1 : Int) ≤ n) = true := by simp; omega
  have b5 : decide (n ≤ (5 : Int)) = false := by simp; omega
  have b8 : decide ((8 : Int) ≤ n) = true := by simp; omega
  have b11 : decide (n ≤ (11 : Int)) = true := by simp; omega
  have b12 : decide ((12 : Int) ≤ n) = false := by simp; omega
  have b14 : decide (n ≤ (14 : Int)) = true := by simp; omega
  have e6 : (n == 6) = false := by simp; omega
  have e7 : (n == 7) = false := by simp; omega
  rcases hk with ⟨rfl, rfl⟩ | ⟨rfl, rfl⟩ | ⟨rfl, rfl⟩ | ⟨rfl, k1, g1, g2⟩ | ⟨rfl, k1, g1, g2⟩ | ⟨rfl, k1, g1, g2⟩ | ⟨k1, k2, k5, g1, g2, g5, rfl | ⟨k3, g3⟩⟩
  ·
   go_upto_region 5 with (fail)
   go_wp2_with (refine stT Nz rfl rfl rfl rfl rfl rfl (by simp [Value.oneCell']) ?_)
   refine rtT Nz rfl rfl rfl rfl rfl ⟨?_, row_below (K0.out) (by omega) _⟩
   clear Nz Na Nb K0 hW xa0 xb0 la lb
   obtain ⟨rfl, rfl⟩ := rb_two HR.out (by omega) (by omega)
   rfl
  all_goals
   go_upto_region 10 with (fail)
   go_wp2_with (refine stT Nz rfl rfl rfl rfl rfl rfl (by simp [Value.oneCell']) ?_)
   refine rtT Nz rfl rfl rfl rfl rfl ⟨?_, row_below (K0.out) (by omega) _⟩
   clear Nz Na Nb K0 hW xa0 xb0 la lb
   obtain ⟨rfl, rfl⟩ := rb_bad HR.out (by omega)
   rfl
 ·
  have b1 : decide ((1 : Int) ≤ n) = true := by simp; omega
  have b5 : decide (n ≤ (5 : Int)) = false := by simp; omega
  have b8 : decide ((8 : Int) ≤ n) = true := by simp; omega
  have b11 : decide (n ≤ (11 : Int)) = false := by simp; omega
  have b12 : decide ((12 : Int) ≤ n) = true := by simp; omega
  have b14 : decide (n ≤ (14 : Int)) = true := by simp; omega
  have e6 : (n == 6) = false := by simp; omega
  have e7 : (n == 7) = false := by simp; omega
  rcases hk with ⟨rfl, rfl⟩ | ⟨rfl, rfl⟩ | ⟨rfl, rfl⟩ | ⟨rfl, k1, g1, g2⟩ | ⟨rfl, k1, g1, g2⟩ | ⟨rfl, k1, g1, g2⟩ | ⟨k1, k2, k5, g1, g2, g5, rfl | ⟨k3, g3⟩⟩
  rotate_left 1
  ·
   go_upto_region 7 with (fail)
   go_wp2_with (refine stT Nz rfl rfl rfl rfl rfl rfl (by simp [Value.oneCell']) ?_)
   refine rtT Nz rfl rfl rfl rfl rfl ⟨?_, row_below (K0.out) (by omega) _⟩
   clear Nz Na Nb K0 hW xa0 xb0 la lb
   obtain ⟨rfl, rfl⟩ := rb_two HR.out (by omega) (by omega)
   rfl
  all_goals
   go_upto_region 10 with (fail)
   go_wp2_with (refine stT Nz rfl rfl rfl rfl rfl rfl (by simp [Value.oneCell']) ?_)
   refine rtT Nz rfl rfl rfl rfl rfl ⟨?_, row_below (K0.out) (by omega) _⟩
   clear Nz Na Nb K0 hW xa0 xb0 la lb
   obtain ⟨rfl, rfl⟩ := rb_bad HR.out (by omega)
   rfl
 ·
  have b1 : decide ((1 : Int) ≤ n) = true := by simp; omega
  have b5 : decide (n ≤ (5 : Int)) = false := by simp; omega
  have b8 : decide ((8 : Int) ≤ n) = true := by simp; omega
  have b11 : decide (n ≤ (11 : Int)) = false := by simp; omega
  have b12 : decide ((12 : Int) ≤ n) = true := by simp; omega
  have b14 : decide (n ≤ (14 : Int)) = false := by simp; omega
  have e6 : (n == 6) = false := by simp; omega
  have e7 : (n == 7) = false := by simp; omega
  rcases hk with ⟨rfl, rfl⟩ | ⟨rfl, rfl⟩ | ⟨rfl, rfl⟩ | ⟨rfl, k1, g1, g2⟩ | ⟨rfl, k1, g1, g2⟩ | ⟨rfl, k1, g1, g2⟩ | ⟨k1, k2, k5, g1, g2, g5, rfl | ⟨k3, g3⟩⟩
  all_goals
   go_upto_region 10 with (fail)
   go_wp2_with (refine stT Nz rfl rfl rfl rfl rfl rfl (by simp [Value.oneCell']) ?_)
   refine rtT Nz rfl rfl rfl rfl rfl ⟨?_, row_below (K0.out) (by omega) _⟩
   clear Nz Na Nb K0 hW xa0 xb0 la lb
   obtain ⟨rfl, rfl⟩ := rb_bad HR.out (by omega)
   rfl
end Go.Proofs.Ytmhdcehpddbjaaa
/- The document's Expr, as a walk, kind by kind. -/
namespace Go.Proofs.Ytmhdcehpddbjaaa
open Go.RowKit

set_option maxRecDepth 100000 in
set_option maxHeartbeats 4000000 in
theorem rexpr_14 (f : Nat) (u : List Dk) (a : Option Addr) (B cap : Nat) (x y : Int) (p : Pl) (e : Ex) (t : Ty) (c : Int) (w : World) (hr : Rf.expr p e = (t, c)) (hp : Pl.at u x y = some p) (hl : ULim u) (hX : ∀ q ∈ e.args, RExOK f u a B cap x y p q) (hu : UnitAt w B a u) (hB : B ≤ w.heap.size) (he : ExsAt (f + 1) w B e.A e.args) (hlim : e.args.length ≤ 1000000000) (hcap : e.args.length ≤ e.c) (hk : e.k = 14) (hlen : e.args.length = 1) :
  Calls Try.prog 14 #[.agg #[.slice a u.length cap], .agg #[.int .i64 x, .int .i64 y], .agg #[.int .i64 e.k, .int .i64 e.n, .string e.name, .string e.what, .slice e.A e.args.length e.c]] w fun z w' => z = .returned (.tuple #[.agg #[.int .i64 t.k, .int .i64 t.lo, .int .i64 t.hi, .string t.name], .int .i64 c]) ∧ Below w.heap.size w w' := by
 have HU := Aid.hid hu; have HUL := Aid.hid hl; have HPP := Aid.hid hp; have HX := Aid.hid hX; have HE := Aid.hid he; have HLM := Aid.hid hlim; have HCP := Aid.hid hcap; have HPU := Aid.hid (Pl.at_u hp); have HPL := Aid.hid (show Rf.place u x y = true by rw [Rf.place_at, hp]; rfl); have HR := Aid.hid (show Rf.exprG p e.k e.n e.name e.what (e.args.map (Rf.expr p)) = (t, c) by rw [← Rf.expr_eq]; exact hr)
 obtain ⟨k1, k2, k3, k4, k5, k6, k10, k11, k12, -⟩ : nes e.k [1, 2, 3, 4, 5, 6, 10, 11, 12] := by simp [nes, hk]
 have k14 : (e.k == 14) = true := by simp [hk]
 obtain ⟨k7, k8, k9, k13, -⟩ : nes e.k [7, 8, 9, 13] := by simp [nes, hk]
 have HKK := Aid.hid hk
 have HLN := Aid.hid hlen
 clear hlen
 obtain ⟨W, hW, Nu, Np, Ne, Nz, K0⟩ := newh4 w [.slice a u.length cap] [.int .i64 x, .int .i64 y] [.int .i64 e.k, .int .i64 e.n, .string e.name, .string e.what, .slice e.A e.args.length e.c] [.int .i64 0, .int .i64 0, .int .i64 0, .string ⟨#[]⟩] 24 26 29 36
 clear hu hl hp hX he hr hlim hcap hk
 obtain ⟨xu0, lu⟩ := xc1 Nu
 obtain ⟨xp0, xp1, lp⟩ := xc2 Np
 go_enter Try.func14, Try.ntmps14
 try simp only [List.append_eq, List.cons_append, List.nil_append]
 go_wp2_with fail
 (try clear hW)
 refine (rplace_is u a B cap x y true _ HPL.out (HU.out.below (K0.out) hB) (Nat.le_trans hB (K0.out).size)).mono ?_; rintro _ w1 ⟨rfl, hb1⟩
 have Kx1 := kb K0 hb1
 have Nu_1 := nb hb1 Nu
 have Np_1 := nb hb1 Np
 have Ne_1 := nb hb1 Ne
 have Nz_1 := nb hb1 Nz
 clear xu0 lu xp0 xp1 lp
 clear hb1
 obtain ⟨xu0, lu⟩ := xc1 Nu_1
 obtain ⟨xp0, xp1, lp⟩ := xc2 Np_1
 obtain ⟨xe0, xe1, xe2, xe3, xe4, le⟩ := xc5 Ne_1
 have hn1 : ((e.args.length : Int) != 1) = false := by rw [HLN.out]; rfl
 obtain ⟨o, ho⟩ : ∃ o, p.var e.name = o := ⟨_, rfl⟩
 obtain ⟨v, hv⟩ : ∃ v, Ty.vof o = v := ⟨_, rfl⟩
 obtain ⟨is, his⟩ : ∃ b, o.isSome = b := ⟨_, rfl⟩
 have HO := Aid.hid ho; have HV := Aid.hid hv; have HS := Aid.hid his
 clear ho hv his
 go_wp2_with fail
 refine (rneed_is e.k 1 _ (by rw [HKK.out]; rfl)).mono ?_; rintro _ w2 ⟨rfl, hb2⟩
 have Kx2 := kb Kx1 hb2
 have Nu_2 := nb hb2 Nu_1
 have Np_2 := nb hb2 Np_1
 have Ne_2 := nb hb2 Ne_1
 have Nz_2 := nb hb2 Nz_1
 clear xu0 lu xp0 xp1 lp xe0 xe1 xe2 xe3 xe4 le
 clear hb2
 obtain ⟨xu0, lu⟩ := xc1 Nu_2
 obtain ⟨xp0, xp1, lp⟩ := xc2 Np_2
 obtain ⟨xe0, xe1, xe2, xe3, xe4, le⟩ := xc5 Ne_2
 go_wp2_with fail
 refine (rvar_x u a B cap x y p e.name o v is _ HO.out HV.out HS.out HPP.out (HU.out.below (Kx2.out) hB) (Nat.le_trans hB (Kx2.out).size) HUL.out).mono ?_; rintro _ w3 ⟨rfl, hb3⟩
 have Kx3 := kb Kx2 hb3
 have Nu_3 := nb hb3 Nu_2
 have Np_3 := nb hb3 Np_2
 have Ne_3 := nb hb3 Ne_2
 have Nz_3 := nb hb3 Nz_2
 clear xu0 lu xp0 xp1 lp xe0 xe1 xe2 xe3 xe4 le
 clear hb3
 obtain ⟨X4, hX⟩ : ∃ X, w3.alloc (.cells #[.string v.name, .int .i64 v.ty.k, .int .i64 v.ty.lo, .int .i64 v.ty.hi, .string v.ty.name, .int .i64 v.init, .int .i64 v.dir, .int .i64 v.slot] 74) = X := ⟨_, rfl⟩
 have Nu_4 := na hX Nu_3
 have Np_4 := na hX Np_3
 have Ne_4 := na hX Ne_3
 have Nz_4 := na hX Nz_3
 have Nv_4 := nw hX
 have Kx4 := nk hX Kx3
 have Qs4 := nq hX
 obtain ⟨xe0, xe1, xe2, xe3, xe4, le⟩ := xc5 Ne_4
 obtain ⟨ty, hty⟩ : ∃ r, Tb.typed u e.name = r := ⟨_, rfl⟩
 have HTY := Aid.hid hty
 clear hty
 obtain ⟨xu0, lu⟩ := xc1 Nu_4
 go_wp2_with fail
 (try clear hX)
 refine (rthing_is u a B cap e.name ty _ HTY.out (HU.out.below (Kx4.out) hB) (Nat.le_trans hB (Kx4.out).size)).mono ?_; rintro _ w5 ⟨rfl, hb5⟩
 have Kx5 := kb Kx4 hb5
 have Nu_5 := nb hb5 Nu_4
 have Np_5 := nb hb5 Np_4
 have Ne_5 := nb hb5 Ne_4
 have Nz_5 := nb hb5 Nz_4
 have Nv_5 := nb hb5 Nv_4
 clear xe0 xe1 xe2 xe3 xe4 le xu0 lu
 clear hb5
 obtain ⟨xe0, xe1, xe2, xe3, xe4, le⟩ := xc5 Ne_5
 cases ty
 ·
  obtain ⟨rfl, rfl⟩ : Ty.none_ = t ∧ 13 = c := by have h := HR.out; rw [HKK.out] at h; unfold Rf.exprG at h; rw [if_neg (by decide), if_neg (by rw [List.length_map, HLN.out]; decide), if_neg (by decide), if_neg (by decide), if_neg (by decide), if_neg (by decide), if_pos ⟨rfl, by rw [HPU.out]; exact HTY.out⟩] at h; simpa using h
  go_wp2_with (refine stT Nz_5 rfl rfl rfl rfl rfl rfl (by simp [Value.oneCell']) ?_)
  refine rtT Nz_5 rfl rfl rfl rfl rfl ⟨rfl, row_below (Kx5.out) (by omega) _⟩
 ·
  obtain ⟨q, hq⟩ := List.length_eq_one_iff.1 HLN.out
  have HQ := Aid.hid hq
  obtain ⟨⟨t1, c1⟩, he1⟩ : ∃ r, Rf.expr p q = r := ⟨_, rfl⟩
  have HA : Hid (Rf.all (e.args.map (Rf.expr p)) = if c1 ≠ 0 then ([], c1) else ([t1], 0)) := Aid.hid (by rw [hq]; simp only [List.map_cons, List.map_nil, he1]; exact Rf.all_one (t1, c1))
  have hd1 : Ty.hd (e.args.map (Rf.expr p)) = (t1, c1) := by rw [hq]; simp only [List.map_cons, List.map_nil, he1]; rfl
  have HR2 : Hid ((if c1 ≠ 0 then (Ty.none_, c1) else if t1.k = 5 then (⟨5, 0, 0, e.name⟩, 0) else (Ty.none_, 14)) = (t, c)) := Aid.hid (by have h := HR.out; rw [HKK.out, hq] at h; simp only [List.map_cons, List.map_nil, he1] at h; rw [← h]; show _ = (if (14 : Int) = 14 ∧ Tb.typed p.u e.name = false then (Ty.none_, 13) else if (Rf.all [(t1, c1)]).2 ≠ 0 then (Ty.none_, (Rf.all [(t1, c1)]).2) else if (14 : Int) = 14 ∧ t1.k = 5 then (⟨5, 0, 0, e.name⟩, 0) else (Ty.none_, 14)); rw [Rf.all_one, HPU.out, HTY.out]; by_cases h1 : c1 = 0 <;> simp [h1])
  clear hq he1 hd1
  obtain ⟨eb, off, hA, hebB, _, _⟩ := Ex.at1 (HE.out.below Kx5.out hB) (i := 0) (e := q) (by rw [HQ.out]; rfl)
  have HEA := Aid.hid hA
  have hln := HLN.out
  have hcc : ((1 : Int) ≤ (e.c : Int)) := by have := HCP.out; omega
  clear hA
  obtain ⟨xu0, lu⟩ := xc1 Nu_5
  obtain ⟨xp0, xp1, lp⟩ := xc2 Np_5
  rw [HEA.out, hln] at xe4
  have xe4' := xe4
  clear hln
  go_wp2_with fail
  (try clear hX)
  obtain ⟨ts, ca, hal⟩ : ∃ ts ca, Rf.all (e.args.map (Rf.expr p)) = (ts, ca) := ⟨_, _, rfl⟩
  have HAX := Aid.hid hal
  clear hal
  have HZ := Aid.hid (fun (w' : World) (hSw : Below w5.heap.size w5 w') => (⟨kc hSw xe0 le, kc hSw xe1 le, kc hSw xe2 le, kc hSw xe3 le, kc hSw xe4 le, kc hSw xu0 lu, kc hSw xp0 lp, kc hSw xp1 lp⟩ : _ ∧ _ ∧ _ ∧ _ ∧ _ ∧ _ ∧ _ ∧ _))
  have hb : Below w5.heap.size w5 w5.drew := (Below.refl _ _).drew
  refine Ord.wp_region_walk (fun w' => Below w5.heap.size w5 w') 11 [(true, 0), (true, 1), (true, 2), (true, 3), (true, 4), (true, 5), (false, 6), (true, 7), (true, 8), (true, 9), (true, 10)] (by kernel_rfl) (by kernel_rfl) (fun _ _ d _ _ h => by cases d <;> exact h) (hb) ?_
  clear hb
  have hb : Below w5.heap.size w5 w5.drew := (Below.refl _ _).drew
  generalize w5.drew = wd5 at *
  iterate 6
   apply Ord.walk_light
   next => (simp only [la0, la1, la2]; rfl)
   next => rfl
   next => (intro w' hSw; have z := HZ.out w' hSw; clear hSw; go_simp; first | done | with_reducible rfl)
   simp only [Act.put, la3, la4, la5]
  apply Ord.walk_heavy
  next => (simp only [la0, la1, la2]; rfl)
  next => rfl
  intro K hK
  go_wp2_with fail
  refine ((show Calls Try.prog 38 #[.agg #[.slice a u.length cap], .agg #[.int .i64 x, .int .i64 y], .slice (some ⟨eb, off, none⟩) 1 e.c] _ _ by have h := rall_is f u a B cap x y p e.args (some ⟨eb, off, none⟩) e.c ts ca _ HAX.out HX.out (HU.out.below (((Kx5.out).trans (hb.mono (Kx5.out).size))) hB) (Nat.le_trans hB (((Kx5.out).trans (hb.mono (Kx5.out).size))).size) (HEA.out ▸ HE.out.below (((Kx5.out).trans (hb.mono (Kx5.out).size))) hB) HLM.out; rw [HLN.out] at h; exact h)).mono ?_; rintro _ v5_1 ⟨A9, c9, rfl, rw9, hb'⟩; dsimp only
  refine hK.out _ _ (hb.trans (hb'.mono hb.size)) (fun hHeld => ?_)
  clear hb hb'
  have hb := hHeld
  clear hK K
  try simp only [Act.put, la3, la4, la5]
  iterate 4
   apply Ord.walk_light
   next => (simp only [la0, la1, la2]; rfl)
   next => rfl
   next => (intro w' hSw; have z := HZ.out w' hSw; clear hSw; go_simp; first | done | with_reducible rfl)
   simp only [Act.put, la3, la4, la5]
  refine Ord.walk_tail ?_; simp only [List.drop_succ_cons, List.drop_zero]
  have hbx := hb
  clear hb HZ
  have Kx6 := kb Kx5 hbx
  have Nu_6 := nb hbx Nu_5
  have Np_6 := nb hbx Np_5
  have Ne_6 := nb hbx Ne_5
  have Nz_6 := nb hbx Nz_5
  have Nv_6 := nb hbx Nv_5
  clear xe0 xe1 xe2 xe3 xe4 le xu0 lu xp0 xp1 lp
  clear hbx
  have HRW := Aid.hid rw9
  clear rw9
  have HAE := Aid.hid (HAX.out.symm.trans HA.out)
  obtain ⟨xe0, xe1, xe2, xe3, xe4, le⟩ := xc5 Ne_6
  by_cases h1 : c1 = 0
  ·
   subst h1
   obtain ⟨rfl, rfl⟩ : ts = [t1] ∧ ca = 0 := by have h := HAE.out; simpa using h
   obtain ⟨tb, to, hA9, htb, htc⟩ := HRW.out.tyr_ (by simp)
   have d00 := htc 0 _ rfl 0 _ rfl
   have d01 := htc 0 _ rfl 1 _ rfl
   have d02 := htc 0 _ rfl 2 _ rfl
   have d03 := htc 0 _ rfl 3 _ rfl
   simp only [Nat.add_zero, Nat.zero_mul, Nat.one_mul] at d00 d01 d02 d03
   subst hA9
   clear htc
   by_cases hk1 : t1.k = 5
   ·
    have f1 : (t1.k == 5) = true := by simp [hk1]
    have HK1 := Aid.hid hk1
    clear hk1
    obtain ⟨rfl, rfl⟩ : ⟨5, 0, 0, e.name⟩ = t ∧ 0 = c := by have h := HR2.out; simpa [HK1.out] using h
    go_upto_region 39 with (fail)
    go_wp2_with (refine stT Nz_6 rfl rfl rfl rfl rfl rfl (by simp [Value.oneCell']) ?_)
    refine rtT Nz_6 rfl rfl rfl rfl rfl ⟨rfl, row_below (Kx6.out) (by omega) _⟩
   ·
    have f1 : (t1.k == 5) = false := by simpa using hk1
    have HK1 := Aid.hid hk1
    clear hk1
    obtain ⟨rfl, rfl⟩ : Ty.none_ = t ∧ 14 = c := by have h := HR2.out; simpa [HK1.out] using h
    go_upto_region 40 with (fail)
    go_wp2_with (refine stT Nz_6 rfl rfl rfl rfl rfl rfl (by simp [Value.oneCell']) ?_)
    refine rtT Nz_6 rfl rfl rfl rfl rfl ⟨rfl, row_below (Kx6.out) (by omega) _⟩
  ·
   obtain ⟨rfl, rfl⟩ : ts = [] ∧ c1 = ca := by have h := HAE.out; simp [h1] at h; exact ⟨h.1, h.2.symm⟩
   have f9 : (c1 != 0) = true := by simpa using h1
   obtain ⟨rfl, rfl⟩ : Ty.none_ = t ∧ c1 = c := by have h := HR2.out; simpa [h1] using h
   go_wp2_with (refine stT Nz_6 rfl rfl rfl rfl rfl rfl (by simp [Value.oneCell']) ?_)
   refine rtT Nz_6 rfl rfl rfl rfl rfl ⟨rfl, row_below (Kx6.out) (by omega) _⟩
set_option maxRecDepth 100000 in
set_option maxHeartbeats 4000000 in
theorem rexpr_7 (f : Nat) (u : List Dk) (a : Option Addr) (B cap : Nat) (x y : Int) (p : Pl) (e : Ex) (t : Ty) (c : Int) (w : World) (hr : Rf.expr p e = (t, c)) (hp : Pl.at u x y = some p) (hl : ULim u) (hX : ∀ q ∈ e.args, RExOK f u a B cap x y p q) (hu : UnitAt w B a u) (hB : B ≤ w.heap.size) (he : ExsAt (f + 1) w B e.A e.args) (hlim : e.args.length ≤ 1000000000) (hcap : e.args.length ≤ e.c) (hk : e.k = 7) (hlen : e.args.length = 1) :
  Calls Try.prog 14 #[.agg #[.slice a u.length cap], .agg #[.int .i64 x, .int .i64 y], .agg #[.int .i64 e.k, .int .i64 e.n, .string e.name, .string e.what, .slice e.A e.args.length e.c]] w fun z w' => z = .returned (.tuple #[.agg #[.int .i64 t.k, .int .i64 t.lo, .int .i64 t.hi, .string t.name], .int .i64 c]) ∧ Below w.heap.size w w' := by
 have HU := Aid.hid hu; have HUL := Aid.hid hl; have HPP := Aid.hid hp; have HX := Aid.hid hX; have HE := Aid.hid he; have HLM := Aid.hid hlim; have HCP := Aid.hid hcap; have HPU := Aid.hid (Pl.at_u hp); have HPL := Aid.hid (show Rf.place u x y = true by rw [Rf.place_at, hp]; rfl); have HR := Aid.hid (show Rf.exprG p e.k e.n e.name e.what (e.args.map (Rf.expr p)) = (t, c) by rw [← Rf.expr_eq]; exact hr)
 obtain ⟨k1, k2, k3, k4, k5, k6, k10, k11, k12, k14, -⟩ : nes e.k [1, 2, 3, 4, 5, 6, 10, 11, 12, 14] := by simp [nes, hk]
 have k7 : (e.k == 7) = true := by simp [hk]
 obtain ⟨k8, k9, k13, -⟩ : nes e.k [8, 9, 13] := by simp [nes, hk]
 have HKK := Aid.hid hk
 have HLN := Aid.hid hlen
 clear hlen
 obtain ⟨W, hW, Nu, Np, Ne, Nz, K0⟩ := newh4 w [.slice a u.length cap] [.int .i64 x, .int .i64 y] [.int .i64 e.k, .int .i64 e.n, .string e.name, .string e.what, .slice e.A e.args.length e.c] [.int .i64 0, .int .i64 0, .int .i64 0, .string ⟨#[]⟩] 24 26 29 36
 clear hu hl hp hX he hr hlim hcap hk
 obtain ⟨xu0, lu⟩ := xc1 Nu
 obtain ⟨xp0, xp1, lp⟩ := xc2 Np
 go_enter Try.func14, Try.ntmps14
 try simp only [List.append_eq, List.cons_append, List.nil_append]
 go_wp2_with fail
 (try clear hW)
 refine (rplace_is u a B cap x y true _ HPL.out (HU.out.below (K0.out) hB) (Nat.le_trans hB (K0.out).size)).mono ?_; rintro _ w1 ⟨rfl, hb1⟩
 have Kx1 := kb K0 hb1
 have Nu_1 := nb hb1 Nu
 have Np_1 := nb hb1 Np
 have Ne_1 := nb hb1 Ne
 have Nz_1 := nb hb1 Nz
 clear xu0 lu xp0 xp1 lp
 clear hb1
 obtain ⟨xu0, lu⟩ := xc1 Nu_1
 obtain ⟨xp0, xp1, lp⟩ := xc2 Np_1
 obtain ⟨xe0, xe1, xe2, xe3, xe4, le⟩ := xc5 Ne_1
 have hn1 : ((e.args.length : Int) != 1) = false := by rw [HLN.out]; rfl
 obtain ⟨o, ho⟩ : ∃ o, p.var e.name = o := ⟨_, rfl⟩
 obtain ⟨v, hv⟩ : ∃ v, Ty.vof o = v := ⟨_, rfl⟩
 obtain ⟨is, his⟩ : ∃ b, o.isSome = b := ⟨_, rfl⟩
 have HO := Aid.hid ho; have HV := Aid.hid hv; have HS := Aid.hid his
 clear ho hv his
 go_wp2_with fail
 refine (rneed_is e.k 1 _ (by rw [HKK.out]; rfl)).mono ?_; rintro _ w2 ⟨rfl, hb2⟩
 have Kx2 := kb Kx1 hb2
 have Nu_2 := nb hb2 Nu_1
 have Np_2 := nb hb2 Np_1
 have Ne_2 := nb hb2 Ne_1
 have Nz_2 := nb hb2 Nz_1
 clear xu0 lu xp0 xp1 lp xe0 xe1 xe2 xe3 xe4 le
 clear hb2
 obtain ⟨xu0, lu⟩ := xc1 Nu_2
 obtain ⟨xp0, xp1, lp⟩ := xc2 Np_2
 obtain ⟨xe0, xe1, xe2, xe3, xe4, le⟩ := xc5 Ne_2
 go_wp2_with fail
 refine (rvar_x u a B cap x y p e.name o v is _ HO.out HV.out HS.out HPP.out (HU.out.below (Kx2.out) hB) (Nat.le_trans hB (Kx2.out).size) HUL.out).mono ?_; rintro _ w3 ⟨rfl, hb3⟩
 have Kx3 := kb Kx2 hb3
 have Nu_3 := nb hb3 Nu_2
 have Np_3 := nb hb3 Np_2
 have Ne_3 := nb hb3 Ne_2
 have Nz_3 := nb hb3 Nz_2
 clear xu0 lu xp0 xp1 lp xe0 xe1 xe2 xe3 xe4 le
 clear hb3
 obtain ⟨X4, hX⟩ : ∃ X, w3.alloc (.cells #[.string v.name, .int .i64 v.ty.k, .int .i64 v.ty.lo, .int .i64 v.ty.hi, .string v.ty.name, .int .i64 v.init, .int .i64 v.dir, .int .i64 v.slot] 74) = X := ⟨_, rfl⟩
 have Nu_4 := na hX Nu_3
 have Np_4 := na hX Np_3
 have Ne_4 := na hX Ne_3
 have Nz_4 := na hX Nz_3
 have Nv_4 := nw hX
 have Kx4 := nk hX Kx3
 have Qs4 := nq hX
 obtain ⟨xe0, xe1, xe2, xe3, xe4, le⟩ := xc5 Ne_4
 obtain ⟨q, hq⟩ := List.length_eq_one_iff.1 HLN.out
 have HQ := Aid.hid hq
 obtain ⟨⟨t1, c1⟩, he1⟩ : ∃ r, Rf.expr p q = r := ⟨_, rfl⟩
 have HA : Hid (Rf.all (e.args.map (Rf.expr p)) = if c1 ≠ 0 then ([], c1) else ([t1], 0)) := Aid.hid (by rw [hq]; simp only [List.map_cons, List.map_nil, he1]; exact Rf.all_one (t1, c1))
 have hd1 : Ty.hd (e.args.map (Rf.expr p)) = (t1, c1) := by rw [hq]; simp only [List.map_cons, List.map_nil, he1]; rfl
 have HR2 : Hid ((if c1 ≠ 0 then (Ty.none_, c1) else if t1.k = 1 then (t1, 0) else (Ty.none_, 14)) = (t, c)) := Aid.hid (by have h := HR.out; rw [HKK.out, hq] at h; simp only [List.map_cons, List.map_nil, he1] at h; rw [← h]; show _ = (if (Rf.all [(t1, c1)]).2 ≠ 0 then (Ty.none_, (Rf.all [(t1, c1)]).2) else if (7 : Int) = 7 ∧ t1.k = 1 ∨ (7 : Int) = 8 ∧ t1.k = 2 then (t1, 0) else (Ty.none_, 14)); rw [Rf.all_one]; by_cases h1 : c1 = 0 <;> simp [h1])
 clear hq he1 hd1
 obtain ⟨eb, off, hA, hebB, _, _⟩ := Ex.at1 (HE.out.below Kx4.out hB) (i := 0) (e := q) (by rw [HQ.out]; rfl)
 have HEA := Aid.hid hA
 have hln := HLN.out
 have hcc : ((1 : Int) ≤ (e.c : Int)) := by have := HCP.out; omega
 clear hA
 obtain ⟨xu0, lu⟩ := xc1 Nu_4
 obtain ⟨xp0, xp1, lp⟩ := xc2 Np_4
 rw [HEA.out, hln] at xe4
 have xe4' := xe4
 clear hln
 go_wp2_with fail
 (try clear hX)
 obtain ⟨ts, ca, hal⟩ : ∃ ts ca, Rf.all (e.args.map (Rf.expr p)) = (ts, ca) := ⟨_, _, rfl⟩
 have HAX := Aid.hid hal
 clear hal
 have HZ := Aid.hid (fun (w' : World) (hSw : Below X4.heap.size X4 w') => (⟨kc hSw xe0 le, kc hSw xe1 le, kc hSw xe2 le, kc hSw xe3 le, kc hSw xe4 le, kc hSw xu0 lu, kc hSw xp0 lp, kc hSw xp1 lp⟩ : _ ∧ _ ∧ _ ∧ _ ∧ _ ∧ _ ∧ _ ∧ _))
 have hb : Below X4.heap.size X4 X4.drew := (Below.refl _ _).drew
 refine Ord.wp_region_walk (fun w' => Below X4.heap.size X4 w') 11 [(true, 0), (true, 1), (true, 2), (true, 3), (true, 4), (true, 5), (false, 6), (true, 7), (true, 8), (true, 9), (true, 10)] (by kernel_rfl) (by kernel_rfl) (fun _ _ d _ _ h => by cases d <;> exact h) (hb) ?_
 clear hb
 have hb : Below X4.heap.size X4 X4.drew := (Below.refl _ _).drew
 generalize X4.drew = wd4 at *
 iterate 6
  apply Ord.walk_light
  next => (simp only [la0, la1, la2]; rfl)
  next => rfl
  next => (intro w' hSw; have z := HZ.out w' hSw; clear hSw; go_simp; first | done | with_reducible rfl)
  simp only [Act.put, la3, la4, la5]
 apply Ord.walk_heavy
 next => (simp only [la0, la1, la2]; rfl)
 next => rfl
 intro K hK
 go_wp2_with fail
 refine ((show Calls Try.prog 38 #[.agg #[.slice a u.length cap], .agg #[.int .i64 x, .int .i64 y], .slice (some ⟨eb, off, none⟩) 1 e.c] _ _ by have h := rall_is f u a B cap x y p e.args (some ⟨eb, off, none⟩) e.c ts ca _ HAX.out HX.out (HU.out.below (((Kx4.out).trans (hb.mono (Kx4.out).size))) hB) (Nat.le_trans hB (((Kx4.out).trans (hb.mono (Kx4.out).size))).size) (HEA.out ▸ HE.out.below (((Kx4.out).trans (hb.mono (Kx4.out).size))) hB) HLM.out; rw [HLN.out] at h; exact h)).mono ?_; rintro _ v4_1 ⟨A9, c9, rfl, rw9, hb'⟩; dsimp only
 refine hK.out _ _ (hb.trans (hb'.mono hb.size)) (fun hHeld => ?_)
 clear hb hb'
 have hb := hHeld
 clear hK K
 try simp only [Act.put, la3, la4, la5]
 iterate 4
  apply Ord.walk_light
  next => (simp only [la0, la1, la2]; rfl)
  next => rfl
  next => (intro w' hSw; have z := HZ.out w' hSw; clear hSw; go_simp; first | done | with_reducible rfl)
  simp only [Act.put, la3, la4, la5]
 refine Ord.walk_tail ?_; simp only [List.drop_succ_cons, List.drop_zero]
 have hbx := hb
 clear hb HZ
 have Kx5 := kb Kx4 hbx
 have Nu_5 := nb hbx Nu_4
 have Np_5 := nb hbx Np_4
 have Ne_5 := nb hbx Ne_4
 have Nz_5 := nb hbx Nz_4
 have Nv_5 := nb hbx Nv_4
 clear xe0 xe1 xe2 xe3 xe4 le xu0 lu xp0 xp1 lp
 clear hbx
 have HRW := Aid.hid rw9
 clear rw9
 have HAE := Aid.hid (HAX.out.symm.trans HA.out)
 obtain ⟨xe0, xe1, xe2, xe3, xe4, le⟩ := xc5 Ne_5
 by_cases h1 : c1 = 0
 ·
  subst h1
  obtain ⟨rfl, rfl⟩ : ts = [t1] ∧ ca = 0 := by have h := HAE.out; simpa using h
  obtain ⟨tb, to, hA9, htb, htc⟩ := HRW.out.tyr_ (by simp)
  have d00 := htc 0 _ rfl 0 _ rfl
  have d01 := htc 0 _ rfl 1 _ rfl
  have d02 := htc 0 _ rfl 2 _ rfl
  have d03 := htc 0 _ rfl 3 _ rfl
  simp only [Nat.add_zero, Nat.zero_mul, Nat.one_mul] at d00 d01 d02 d03
  subst hA9
  clear htc
  by_cases hk1 : t1.k = 1
  ·
   have f1 : (t1.k == 1) = true := by simp [hk1]
   have HK1 := Aid.hid hk1
   clear hk1
   obtain ⟨rfl, rfl⟩ : t1 = t ∧ 0 = c := by have h := HR2.out; simpa [HK1.out] using h
   go_upto_region 35 with (fail)
   go_wp2_with (refine stT Nz_5 rfl rfl rfl rfl rfl rfl (by simp [Value.oneCell']) ?_)
   refine rtT Nz_5 rfl rfl rfl rfl rfl ⟨rfl, row_below (Kx5.out) (by omega) _⟩
  ·
   have f1 : (t1.k == 1) = false := by simpa using hk1
   have HK1 := Aid.hid hk1
   clear hk1
   obtain ⟨rfl, rfl⟩ : Ty.none_ = t ∧ 14 = c := by have h := HR2.out; simpa [HK1.out] using h
   go_upto_region 40 with (fail)
   go_wp2_with (refine stT Nz_5 rfl rfl rfl rfl rfl rfl (by simp [Value.oneCell']) ?_)
   refine rtT Nz_5 rfl rfl rfl rfl rfl ⟨rfl, row_below (Kx5.out) (by omega) _⟩
 ·
  obtain ⟨rfl, rfl⟩ : ts = [] ∧ c1 = ca := by have h := HAE.out; simp [h1] at h; exact ⟨h.1, h.2.symm⟩
  have f9 : (c1 != 0) = true := by simpa using h1
  obtain ⟨rfl, rfl⟩ : Ty.none_ = t ∧ c1 = c := by have h := HR2.out; simpa [h1] using h
  go_wp2_with (refine stT Nz_5 rfl rfl rfl rfl rfl rfl (by simp [Value.oneCell']) ?_)
  refine rtT Nz_5 rfl rfl rfl rfl rfl ⟨rfl, row_below (Kx5.out) (by omega) _⟩
end Go.Proofs.Ytmhdcehpddbjaaa
/- The document's Expr, as a walk, kind by kind. -/
namespace Go.Proofs.Ytmhdcehpddbjaaa
open Go.RowKit

set_option maxRecDepth 100000 in
set_option maxHeartbeats 4000000 in
theorem rexpr_8 (f : Nat) (u : List Dk) (a : Option Addr) (B cap : Nat) (x y : Int) (p : Pl) (e : Ex) (t : Ty) (c : Int) (w : World) (hr : Rf.expr p e = (t, c)) (hp : Pl.at u x y = some p) (hl : ULim u) (hX : ∀ q ∈ e.args, RExOK f u a B cap x y p q) (hu : UnitAt w B a u) (hB : B ≤ w.heap.size) (he : ExsAt (f + 1) w B e.A e.args) (hlim : e.args.length ≤ 1000000000) (hcap : e.args.length ≤ e.c) (hk : e.k = 8) (hlen : e.args.length = 1) :
  Calls Try.prog 14 #[.agg #[.slice a u.length cap], .agg #[.int .i64 x, .int .i64 y], .agg #[.int .i64 e.k, .int .i64 e.n, .string e.name, .string e.what, .slice e.A e.args.length e.c]] w fun z w' => z = .returned (.tuple #[.agg #[.int .i64 t.k, .int .i64 t.lo, .int .i64 t.hi, .string t.name], .int .i64 c]) ∧ Below w.heap.size w w' := by
 have HU := Aid.hid hu; have HUL := Aid.hid hl; have HPP := Aid.hid hp; have HX := Aid.hid hX; have HE := Aid.hid he; have HLM := Aid.hid hlim; have HCP := Aid.hid hcap; have HPU := Aid.hid (Pl.at_u hp); have HPL := Aid.hid (show Rf.place u x y = true by rw [Rf.place_at, hp]; rfl); have HR := Aid.hid (show Rf.exprG p e.k e.n e.name e.what (e.args.map (Rf.expr p)) = (t, c) by rw [← Rf.expr_eq]; exact hr)
 obtain ⟨k1, k2, k3, k4, k5, k6, k10, k11, k12, k14, k7, -⟩ : nes e.k [1, 2, 3, 4, 5, 6, 10, 11, 12, 14, 7] := by simp [nes, hk]
 have k8 : (e.k == 8) = true := by simp [hk]
 have k9 : (e.k == 9) = false := by simp [hk]
 have k13 : (e.k == 13) = false := by simp [hk]
 have HKK := Aid.hid hk
 have HLN := Aid.hid hlen
 clear hlen
 obtain ⟨W, hW, Nu, Np, Ne, Nz, K0⟩ := newh4 w [.slice a u.length cap] [.int .i64 x, .int .i64 y] [.int .i64 e.k, .int .i64 e.n, .string e.name, .string e.what, .slice e.A e.args.length e.c] [.int .i64 0, .int .i64 0, .int .i64 0, .string ⟨#[]⟩] 24 26 29 36
 clear hu hl hp hX he hr hlim hcap hk
 obtain ⟨xu0, lu⟩ := xc1 Nu
 obtain ⟨xp0, xp1, lp⟩ := xc2 Np
 go_enter Try.func14, Try.ntmps14
 try simp only [List.append_eq, List.cons_append, List.nil_append]
 go_wp2_with fail
 (try clear hW)
 refine (rplace_is u a B cap x y true _ HPL.out (HU.out.below (K0.out) hB) (Nat.le_trans hB (K0.out).size)).mono ?_; rintro _ w1 ⟨rfl, hb1⟩
 have Kx1 := kb K0 hb1
 have Nu_1 := nb hb1 Nu
 have Np_1 := nb hb1 Np
 have Ne_1 := nb hb1 Ne
 have Nz_1 := nb hb1 Nz
 clear xu0 lu xp0 xp1 lp
 clear hb1
 obtain ⟨xu0, lu⟩ := xc1 Nu_1
 obtain ⟨xp0, xp1, lp⟩ := xc2 Np_1
 obtain ⟨xe0, xe1, xe2, xe3, xe4, le⟩ := xc5 Ne_1
 have hn1 : ((e.args.length : Int) != 1) = false := by rw [HLN.out]; rfl
 obtain ⟨o, ho⟩ : ∃ o, p.var e.name = o := ⟨_, rfl⟩
 obtain ⟨v, hv⟩ : ∃ v, Ty.vof o = v := ⟨_, rfl⟩
 obtain ⟨is, his⟩ : ∃ b, o.isSome = b := ⟨_, rfl⟩
 have HO := Aid.hid ho; have HV := Aid.hid hv; have HS := Aid.hid his
 clear ho hv his
 go_wp2_with fail
 refine (rneed_is e.k 1 _ (by rw [HKK.out]; rfl)).mono ?_; rintro _ w2 ⟨rfl, hb2⟩
 have Kx2 := kb Kx1 hb2
 have Nu_2 := nb hb2 Nu_1
 have Np_2 := nb hb2 Np_1
 have Ne_2 := nb hb2 Ne_1
 have Nz_2 := nb hb2 Nz_1
 clear xu0 lu xp0 xp1 lp xe0 xe1 xe2 xe3 xe4 le
 clear hb2
 obtain ⟨xu0, lu⟩ := xc1 Nu_2
 obtain ⟨xp0, xp1, lp⟩ := xc2 Np_2
 obtain ⟨xe0, xe1, xe2, xe3, xe4, le⟩ := xc5 Ne_2
 go_wp2_with fail
 refine (rvar_x u a B cap x y p e.name o v is _ HO.out HV.out HS.out HPP.out (HU.out.below (Kx2.out) hB) (Nat.le_trans hB (Kx2.out).size) HUL.out).mono ?_; rintro _ w3 ⟨rfl, hb3⟩
 have Kx3 := kb Kx2 hb3
 have Nu_3 := nb hb3 Nu_2
 have Np_3 := nb hb3 Np_2
 have Ne_3 := nb hb3 Ne_2
 have Nz_3 := nb hb3 Nz_2
 clear xu0 lu xp0 xp1 lp xe0 xe1 xe2 xe3 xe4 le
 clear hb3
 obtain ⟨X4, hX⟩ : ∃ X, w3.alloc (.cells #[.string v.name, .int .i64 v.ty.k, .int .i64 v.ty.lo, .int .i64 v.ty.hi, .string v.ty.name, .int .i64 v.init, .int .i64 v.dir, .int .i64 v.slot] 74) = X := ⟨_, rfl⟩
 have Nu_4 := na hX Nu_3
 have Np_4 := na hX Np_3
 have Ne_4 := na hX Ne_3
 have Nz_4 := na hX Nz_3
 have Nv_4 := nw hX
 have Kx4 := nk hX Kx3
 have Qs4 := nq hX
 obtain ⟨xe0, xe1, xe2, xe3, xe4, le⟩ := xc5 Ne_4
 obtain ⟨q, hq⟩ := List.length_eq_one_iff.1 HLN.out
 have HQ := Aid.hid hq
 obtain ⟨⟨t1, c1⟩, he1⟩ : ∃ r, Rf.expr p q = r := ⟨_, rfl⟩
 have HA : Hid (Rf.all (e.args.map (Rf.expr p)) = if c1 ≠ 0 then ([], c1) else ([t1], 0)) := Aid.hid (by rw [hq]; simp only [List.map_cons, List.map_nil, he1]; exact Rf.all_one (t1, c1))
 have hd1 : Ty.hd (e.args.map (Rf.expr p)) = (t1, c1) := by rw [hq]; simp only [List.map_cons, List.map_nil, he1]; rfl
 have HR2 : Hid ((if c1 ≠ 0 then (Ty.none_, c1) else if t1.k = 2 then (t1, 0) else (Ty.none_, 14)) = (t, c)) := Aid.hid (by have h := HR.out; rw [HKK.out, hq] at h; simp only [List.map_cons, List.map_nil, he1] at h; rw [← h]; show _ = (if (Rf.all [(t1, c1)]).2 ≠ 0 then (Ty.none_, (Rf.all [(t1, c1)]).2) else if (8 : Int) = 7 ∧ t1.k = 1 ∨ (8 : Int) = 8 ∧ t1.k = 2 then (t1, 0) else (Ty.none_, 14)); rw [Rf.all_one]; by_cases h1 : c1 = 0 <;> simp [h1])
 clear hq he1 hd1
 obtain ⟨eb, off, hA, hebB, _, _⟩ := Ex.at1 (HE.out.below Kx4.out hB) (i := 0) (e := q) (by rw [HQ.out]; rfl)
 have HEA := Aid.hid hA
 have hln := HLN.out
 have hcc : ((1 : Int) ≤ (e.c : Int)) := by have := HCP.out; omega
 clear hA
 obtain ⟨xu0, lu⟩ := xc1 Nu_4
 obtain ⟨xp0, xp1, lp⟩ := xc2 Np_4
 rw [HEA.out, hln] at xe4
 have xe4' := xe4
 clear hln
 go_wp2_with fail
 (try clear hX)
 obtain ⟨ts, ca, hal⟩ : ∃ ts ca, Rf.all (e.args.map (Rf.expr p)) = (ts, ca) := ⟨_, _, rfl⟩
 have HAX := Aid.hid hal
 clear hal
 have HZ := Aid.hid (fun (w' : World) (hSw : Below X4.heap.size X4 w') => (⟨kc hSw xe0 le, kc hSw xe1 le, kc hSw xe2 le, kc hSw xe3 le, kc hSw xe4 le, kc hSw xu0 lu, kc hSw xp0 lp, kc hSw xp1 lp⟩ : _ ∧ _ ∧ _ ∧ _ ∧ _ ∧ _ ∧ _ ∧ _))
 have hb : Below X4.heap.size X4 X4.drew := (Below.refl _ _).drew
 refine Ord.wp_region_walk (fun w' => Below X4.heap.size X4 w') 11 [(true, 0), (true, 1), (true, 2), (true, 3), (true, 4), (true, 5), (false, 6), (true, 7), (true, 8), (true, 9), (true, 10)] (by kernel_rfl) (by kernel_rfl) (fun _ _ d _ _ h => by cases d <;> exact h) (hb) ?_
 clear hb
 have hb : Below X4.heap.size X4 X4.drew := (Below.refl _ _).drew
 generalize X4.drew = wd4 at *
 iterate 6
  apply Ord.walk_light
  next => (simp only [la0, la1, la2]; rfl)
  next => rfl
  next => (intro w' hSw; have z := HZ.out w' hSw; clear hSw; go_simp; first | done | with_reducible rfl)
  simp only [Act.put, la3, la4, la5]
 apply Ord.walk_heavy
 next => (simp only [la0, la1, la2]; rfl)
 next => rfl
 intro K hK
 go_wp2_with fail
 refine ((show Calls Try.prog 38 #[.agg #[.slice a u.length cap], .agg #[.int .i64 x, .int .i64 y], .slice (some ⟨eb, off, none⟩) 1 e.c] _ _ by have h := rall_is f u a B cap x y p e.args (some ⟨eb, off, none⟩) e.c ts ca _ HAX.out HX.out (HU.out.below (((Kx4.out).trans (hb.mono (Kx4.out).size))) hB) (Nat.le_trans hB (((Kx4.out).trans (hb.mono (Kx4.out).size))).size) (HEA.out ▸ HE.out.below (((Kx4.out).trans (hb.mono (Kx4.out).size))) hB) HLM.out; rw [HLN.out] at h; exact h)).mono ?_; rintro _ v4_1 ⟨A9, c9, rfl, rw9, hb'⟩; dsimp only
 refine hK.out _ _ (hb.trans (hb'.mono hb.size)) (fun hHeld => ?_)
 clear hb hb'
 have hb := hHeld
 clear hK K
 try simp only [Act.put, la3, la4, la5]
 iterate 4
  apply Ord.walk_light
  next => (simp only [la0, la1, la2]; rfl)
  next => rfl
  next => (intro w' hSw; have z := HZ.out w' hSw; clear hSw; go_simp; first | done | with_reducible rfl)
  simp only [Act.put, la3, la4, la5]
 refine Ord.walk_tail ?_; simp only [List.drop_succ_cons, List.drop_zero]
 have hbx := hb
 clear hb HZ
 have Kx5 := kb Kx4 hbx
 have Nu_5 := nb hbx Nu_4
 have Np_5 := nb hbx Np_4
 have Ne_5 := nb hbx Ne_4
 have Nz_5 := nb hbx Nz_4
 have Nv_5 := nb hbx Nv_4
 clear xe0 xe1 xe2 xe3 xe4 le xu0 lu xp0 xp1 lp
 clear hbx
 have HRW := Aid.hid rw9
 clear rw9
 have HAE := Aid.hid (HAX.out.symm.trans HA.out)
 obtain ⟨xe0, xe1, xe2, xe3, xe4, le⟩ := xc5 Ne_5
 by_cases h1 : c1 = 0
 ·
  subst h1
  obtain ⟨rfl, rfl⟩ : ts = [t1] ∧ ca = 0 := by have h := HAE.out; simpa using h
  obtain ⟨tb, to, hA9, htb, htc⟩ := HRW.out.tyr_ (by simp)
  have d00 := htc 0 _ rfl 0 _ rfl
  have d01 := htc 0 _ rfl 1 _ rfl
  have d02 := htc 0 _ rfl 2 _ rfl
  have d03 := htc 0 _ rfl 3 _ rfl
  simp only [Nat.add_zero, Nat.zero_mul, Nat.one_mul] at d00 d01 d02 d03
  subst hA9
  clear htc
  by_cases hk1 : t1.k = 2
  ·
   have f1 : (t1.k == 2) = true := by simp [hk1]
   have HK1 := Aid.hid hk1
   clear hk1
   obtain ⟨rfl, rfl⟩ : t1 = t ∧ 0 = c := by have h := HR2.out; simpa [HK1.out] using h
   go_upto_region 35 with (fail)
   go_wp2_with (refine stT Nz_5 rfl rfl rfl rfl rfl rfl (by simp [Value.oneCell']) ?_)
   refine rtT Nz_5 rfl rfl rfl rfl rfl ⟨rfl, row_below (Kx5.out) (by omega) _⟩
  ·
   have f1 : (t1.k == 2) = false := by simpa using hk1
   have HK1 := Aid.hid hk1
   clear hk1
   obtain ⟨rfl, rfl⟩ : Ty.none_ = t ∧ 14 = c := by have h := HR2.out; simpa [HK1.out] using h
   go_upto_region 40 with (fail)
   go_wp2_with (refine stT Nz_5 rfl rfl rfl rfl rfl rfl (by simp [Value.oneCell']) ?_)
   refine rtT Nz_5 rfl rfl rfl rfl rfl ⟨rfl, row_below (Kx5.out) (by omega) _⟩
 ·
  obtain ⟨rfl, rfl⟩ : ts = [] ∧ c1 = ca := by have h := HAE.out; simp [h1] at h; exact ⟨h.1, h.2.symm⟩
  have f9 : (c1 != 0) = true := by simpa using h1
  obtain ⟨rfl, rfl⟩ : Ty.none_ = t ∧ c1 = c := by have h := HR2.out; simpa [h1] using h
  go_wp2_with (refine stT Nz_5 rfl rfl rfl rfl rfl rfl (by simp [Value.oneCell']) ?_)
  refine rtT Nz_5 rfl rfl rfl rfl rfl ⟨rfl, row_below (Kx5.out) (by omega) _⟩
set_option maxRecDepth 100000 in
set_option maxHeartbeats 4000000 in
theorem rexpr_9 (f : Nat) (u : List Dk) (a : Option Addr) (B cap : Nat) (x y : Int) (p : Pl) (e : Ex) (t : Ty) (c : Int) (w : World) (hr : Rf.expr p e = (t, c)) (hp : Pl.at u x y = some p) (hl : ULim u) (hX : ∀ q ∈ e.args, RExOK f u a B cap x y p q) (hu : UnitAt w B a u) (hB : B ≤ w.heap.size) (he : ExsAt (f + 1) w B e.A e.args) (hlim : e.args.length ≤ 1000000000) (hcap : e.args.length ≤ e.c) (hk : e.k = 9) (hlen : e.args.length = 2) :
  Calls Try.prog 14 #[.agg #[.slice a u.length cap], .agg #[.int .i64 x, .int .i64 y], .agg #[.int .i64 e.k, .int .i64 e.n, .string e.name, .string e.what, .slice e.A e.args.length e.c]] w fun z w' => z = .returned (.tuple #[.agg #[.int .i64 t.k, .int .i64 t.lo, .int .i64 t.hi, .string t.name], .int .i64 c]) ∧ Below w.heap.size w w' := by
 have HU := Aid.hid hu; have HUL := Aid.hid hl; have HPP := Aid.hid hp; have HX := Aid.hid hX; have HE := Aid.hid he; have HLM := Aid.hid hlim; have HCP := Aid.hid hcap; have HPU := Aid.hid (Pl.at_u hp); have HPL := Aid.hid (show Rf.place u x y = true by rw [Rf.place_at, hp]; rfl); have HR := Aid.hid (show Rf.exprG p e.k e.n e.name e.what (e.args.map (Rf.expr p)) = (t, c) by rw [← Rf.expr_eq]; exact hr)
 obtain ⟨k1, k2, k3, k4, k5, k6, k10, k11, k12, k14, k7, k8, -⟩ : nes e.k [1, 2, 3, 4, 5, 6, 10, 11, 12, 14, 7, 8] := by simp [nes, hk]
 have k9 : (e.k == 9) = true := by simp [hk]
 have k13 : (e.k == 13) = false := by simp [hk]
 have HKK := Aid.hid hk
 have HLN := Aid.hid hlen
 clear hlen
 obtain ⟨W, hW, Nu, Np, Ne, Nz, K0⟩ := newh4 w [.slice a u.length cap] [.int .i64 x, .int .i64 y] [.int .i64 e.k, .int .i64 e.n, .string e.name, .string e.what, .slice e.A e.args.length e.c] [.int .i64 0, .int .i64 0, .int .i64 0, .string ⟨#[]⟩] 24 26 29 36
 clear hu hl hp hX he hr hlim hcap hk
 obtain ⟨xu0, lu⟩ := xc1 Nu
 obtain ⟨xp0, xp1, lp⟩ := xc2 Np
 go_enter Try.func14, Try.ntmps14
 try simp only [List.append_eq, List.cons_append, List.nil_append]
 go_wp2_with fail
 (try clear hW)
 refine (rplace_is u a B cap x y true _ HPL.out (HU.out.below (K0.out) hB) (Nat.le_trans hB (K0.out).size)).mono ?_; rintro _ w1 ⟨rfl, hb1⟩
 have Kx1 := kb K0 hb1
 have Nu_1 := nb hb1 Nu
 have Np_1 := nb hb1 Np
 have Ne_1 := nb hb1 Ne
 have Nz_1 := nb hb1 Nz
 clear xu0 lu xp0 xp1 lp
 clear hb1
 obtain ⟨xu0, lu⟩ := xc1 Nu_1
 obtain ⟨xp0, xp1, lp⟩ := xc2 Np_1
 obtain ⟨xe0, xe1, xe2, xe3, xe4, le⟩ := xc5 Ne_1
 have hn2 : ((e.args.length : Int) != 2) = false := by rw [HLN.out]; rfl
 obtain ⟨o, ho⟩ : ∃ o, p.var e.name = o := ⟨_, rfl⟩
 obtain ⟨v, hv⟩ : ∃ v, Ty.vof o = v := ⟨_, rfl⟩
 obtain ⟨is, his⟩ : ∃ b, o.isSome = b := ⟨_, rfl⟩
 have HO := Aid.hid ho; have HV := Aid.hid hv; have HS := Aid.hid his
 clear ho hv his
 go_wp2_with fail
 refine (rneed_is e.k 2 _ (by rw [HKK.out]; rfl)).mono ?_; rintro _ w2 ⟨rfl, hb2⟩
 have Kx2 := kb Kx1 hb2
 have Nu_2 := nb hb2 Nu_1
 have Np_2 := nb hb2 Np_1
 have Ne_2 := nb hb2 Ne_1
 have Nz_2 := nb hb2 Nz_1
 clear xu0 lu xp0 xp1 lp xe0 xe1 xe2 xe3 xe4 le
 clear hb2
 obtain ⟨xu0, lu⟩ := xc1 Nu_2
 obtain ⟨xp0, xp1, lp⟩ := xc2 Np_2
 obtain ⟨xe0, xe1, xe2, xe3, xe4, le⟩ := xc5 Ne_2
 go_wp2_with fail
 refine (rvar_x u a B cap x y p e.name o v is _ HO.out HV.out HS.out HPP.out (HU.out.below (Kx2.out) hB) (Nat.le_trans hB (Kx2.out).size) HUL.out).mono ?_; rintro _ w3 ⟨rfl, hb3⟩
 have Kx3 := kb Kx2 hb3
 have Nu_3 := nb hb3 Nu_2
 have Np_3 := nb hb3 Np_2
 have Ne_3 := nb hb3 Ne_2
 have Nz_3 := nb hb3 Nz_2
 clear xu0 lu xp0 xp1 lp xe0 xe1 xe2 xe3 xe4 le
 clear hb3
 obtain ⟨X4, hX⟩ : ∃ X, w3.alloc (.cells #[.string v.name, .int .i64 v.ty.k, .int .i64 v.ty.lo, .int .i64 v.ty.hi, .string v.ty.name, .int .i64 v.init, .int .i64 v.dir, .int .i64 v.slot] 74) = X := ⟨_, rfl⟩
 have Nu_4 := na hX Nu_3
 have Np_4 := na hX Np_3
 have Ne_4 := na hX Ne_3
 have Nz_4 := na hX Nz_3
 have Nv_4 := nw hX
 have Kx4 := nk hX Kx3
 have Qs4 := nq hX
 obtain ⟨xe0, xe1, xe2, xe3, xe4, le⟩ := xc5 Ne_4
 obtain ⟨q, q2, hq⟩ : ∃ a b, e.args = [a, b] := len2 HLN.out
 have HQ := Aid.hid hq
 obtain ⟨⟨t1, c1⟩, he1⟩ : ∃ r, Rf.expr p q = r := ⟨_, rfl⟩
 obtain ⟨⟨t2, c2⟩, he2⟩ : ∃ r, Rf.expr p q2 = r := ⟨_, rfl⟩
 have HA : Hid (Rf.all (e.args.map (Rf.expr p)) = if c1 ≠ 0 then ([], c1) else if c2 ≠ 0 then ([], c2) else ([t1, t2], 0)) := Aid.hid (by rw [hq]; simp only [List.map_cons, List.map_nil, he1, he2]; exact Rf.all_two (t1, c1) (t2, c2))
 have HR2 : Hid ((if c1 ≠ 0 then (Ty.none_, c1) else if c2 ≠ 0 then (Ty.none_, c2) else Rf.bin e.n t1 t2) = (t, c)) := Aid.hid (by have h := HR.out; rw [HKK.out, hq] at h; simp only [List.map_cons, List.map_nil, he1, he2] at h; rw [← h]; show _ = (if (Rf.all [(t1, c1), (t2, c2)]).2 ≠ 0 then (Ty.none_, (Rf.all [(t1, c1), (t2, c2)]).2) else Rf.bin e.n t1 t2); rw [Rf.all_two]; by_cases h1 : c1 = 0 <;> by_cases h2 : c2 = 0 <;> simp [h1, h2])
 clear hq he1 he2
 obtain ⟨eb, off, hA, hebB, _, _⟩ := Ex.at1 (HE.out.below Kx4.out hB) (i := 0) (e := q) (by rw [HQ.out]; rfl)
 have HEA := Aid.hid hA
 have hln := HLN.out
 have hcc : ((2 : Int) ≤ (e.c : Int)) := by have := HCP.out; omega
 clear hA
 obtain ⟨xu0, lu⟩ := xc1 Nu_4
 obtain ⟨xp0, xp1, lp⟩ := xc2 Np_4
 rw [HEA.out, hln] at xe4
 have xe4' := xe4
 clear hln
 go_wp2_with fail
 (try clear hX)
 obtain ⟨ts, ca, hal⟩ : ∃ ts ca, Rf.all (e.args.map (Rf.expr p)) = (ts, ca) := ⟨_, _, rfl⟩
 have HAX := Aid.hid hal
 clear hal
 have HZ := Aid.hid (fun (w' : World) (hSw : Below X4.heap.size X4 w') => (⟨kc hSw xe0 le, kc hSw xe1 le, kc hSw xe2 le, kc hSw xe3 le, kc hSw xe4 le, kc hSw xu0 lu, kc hSw xp0 lp, kc hSw xp1 lp⟩ : _ ∧ _ ∧ _ ∧ _ ∧ _ ∧ _ ∧ _ ∧ _))
 have hb : Below X4.heap.size X4 X4.drew := (Below.refl _ _).drew
 refine Ord.wp_region_walk (fun w' => Below X4.heap.size X4 w') 11 [(true, 0), (true, 1), (true, 2), (true, 3), (true, 4), (true, 5), (false, 6), (true, 7), (true, 8), (true, 9), (true, 10)] (by kernel_rfl) (by kernel_rfl) (fun _ _ d _ _ h => by cases d <;> exact h) (hb) ?_
 clear hb
 have hb : Below X4.heap.size X4 X4.drew := (Below.refl _ _).drew
 generalize X4.drew = wd4 at *
 iterate 6
  apply Ord.walk_light
  next => (simp only [la0, la1, la2]; rfl)
  next => rfl
  next => (intro w' hSw; have z := HZ.out w' hSw; clear hSw; go_simp; first | done | with_reducible rfl)
  simp only [Act.put, la3, la4, la5]
 apply Ord.walk_heavy
 next => (simp only [la0, la1, la2]; rfl)
 next => rfl
 intro K hK
 go_wp2_with fail
 refine ((show Calls Try.prog 38 #[.agg #[.slice a u.length cap], .agg #[.int .i64 x, .int .i64 y], .slice (some ⟨eb, off, none⟩) 2 e.c] _ _ by have h := rall_is f u a B cap x y p e.args (some ⟨eb, off, none⟩) e.c ts ca _ HAX.out HX.out (HU.out.below (((Kx4.out).trans (hb.mono (Kx4.out).size))) hB) (Nat.le_trans hB (((Kx4.out).trans (hb.mono (Kx4.out).size))).size) (HEA.out ▸ HE.out.below (((Kx4.out).trans (hb.mono (Kx4.out).size))) hB) HLM.out; rw [HLN.out] at h; exact h)).mono ?_; rintro _ v4_1 ⟨A9, c9, rfl, rw9, hb'⟩; dsimp only
 refine hK.out _ _ (hb.trans (hb'.mono hb.size)) (fun hHeld => ?_)
 clear hb hb'
 have hb := hHeld
 clear hK K
 try simp only [Act.put, la3, la4, la5]
 iterate 4
  apply Ord.walk_light
  next => (simp only [la0, la1, la2]; rfl)
  next => rfl
  next => (intro w' hSw; have z := HZ.out w' hSw; clear hSw; go_simp; first | done | with_reducible rfl)
  simp only [Act.put, la3, la4, la5]
 refine Ord.walk_tail ?_; simp only [List.drop_succ_cons, List.drop_zero]
 have hbx := hb
 clear hb HZ
 have Kx5 := kb Kx4 hbx
 have Nu_5 := nb hbx Nu_4
 have Np_5 := nb hbx Np_4
 have Ne_5 := nb hbx Ne_4
 have Nz_5 := nb hbx Nz_4
 have Nv_5 := nb hbx Nv_4
 clear xe0 xe1 xe2 xe3 xe4 le xu0 lu xp0 xp1 lp
 clear hbx
 have HRW := Aid.hid rw9
 clear rw9
 have HAE := Aid.hid (HAX.out.symm.trans HA.out)
 obtain ⟨xe0, xe1, xe2, xe3, xe4, le⟩ := xc5 Ne_5
 by_cases h1 : c1 = 0
 ·
  subst h1
  by_cases h2 : c2 = 0
  ·
   subst h2
   obtain ⟨rfl, rfl⟩ : ts = [t1, t2] ∧ ca = 0 := by have h := HAE.out; simpa using h
   obtain ⟨tb, to, hA9, htb, htc⟩ := HRW.out.tyr_ (by simp)
   have d00 := htc 0 _ rfl 0 _ rfl
   have d01 := htc 0 _ rfl 1 _ rfl
   have d02 := htc 0 _ rfl 2 _ rfl
   have d03 := htc 0 _ rfl 3 _ rfl
   have d10 := htc 1 _ rfl 0 _ rfl
   have d11 := htc 1 _ rfl 1 _ rfl
   have d12 := htc 1 _ rfl 2 _ rfl
   have d13 := htc 1 _ rfl 3 _ rfl
   simp only [Nat.add_zero, Nat.zero_mul, Nat.one_mul] at d00 d01 d02 d03 d10 d11 d12 d13
   subst hA9
   clear htc
   have HB0 : Hid (Rf.bin e.n t1 t2 = (t, c)) := Aid.hid (by have h := HR2.out; simpa using h)
   go_wp2_with fail
   have HZ := Aid.hid (fun (w' : World) (hSw : Below v4_1.heap.size v4_1 w') => (⟨kc hSw xe0 le, kc hSw xe1 le, kc hSw xe2 le, kc hSw xe3 le, kc hSw xe4 le, kc hSw d00 htb, kc hSw d01 htb, kc hSw d02 htb, kc hSw d03 htb, kc hSw d10 htb, kc hSw d11 htb, kc hSw d12 htb, kc hSw d13 htb⟩ : _ ∧ _ ∧ _ ∧ _ ∧ _ ∧ _ ∧ _ ∧ _ ∧ _ ∧ _ ∧ _ ∧ _ ∧ _))
   have hb : Below v4_1.heap.size v4_1 v4_1.drew := (Below.refl _ _).drew
   refine Ord.wp_region_walk (fun w' => Below v4_1.heap.size v4_1 w') 11 [(true, 0), (true, 1), (true, 2), (true, 3), (true, 4), (true, 5), (true, 6), (true, 7), (false, 8), (true, 9), (true, 10)] (by kernel_rfl) (by kernel_rfl) (fun _ _ d _ _ h => by cases d <;> exact h) (hb) ?_
   clear hb
   have hb : Below v4_1.heap.size v4_1 v4_1.drew := (Below.refl _ _).drew
   generalize v4_1.drew = wd5 at *
   iterate 8
    apply Ord.walk_light
    next => (simp only [la0, la1, la2]; rfl)
    next => rfl
    next => (intro w' hSw; have z := HZ.out w' hSw; clear hSw; go_simp; first | done | with_reducible rfl)
    simp only [Act.put, la3, la4, la5]
   apply Ord.walk_heavy
   next => (simp only [la0, la1, la2]; rfl)
   next => rfl
   intro K hK
   go_wp2_with fail
   refine (rbin_is e.n t1 t2 t c _ HB0.out).mono ?_; rintro _ v5_1 ⟨rfl, hb'⟩; dsimp only
   refine hK.out _ _ (hb.trans (hb'.mono hb.size)) (fun hHeld => ?_)
   clear hb hb'
   have hb := hHeld
   clear hK K
   try simp only [Act.put, la3, la4, la5]
   iterate 2
    apply Ord.walk_light
    next => (simp only [la0, la1, la2]; rfl)
    next => rfl
    next => (intro w' hSw; have z := HZ.out w' hSw; clear hSw; go_simp; first | done | with_reducible rfl)
    simp only [Act.put, la3, la4, la5]
   refine Ord.walk_tail ?_; simp only [List.drop_succ_cons, List.drop_zero]
   have hbx := hb
   clear hb HZ
   have Kx6 := kb Kx5 hbx
   have Nu_6 := nb hbx Nu_5
   have Np_6 := nb hbx Np_5
   have Ne_6 := nb hbx Ne_5
   have Nz_6 := nb hbx Nz_5
   have Nv_6 := nb hbx Nv_5
   clear xe0 xe1 xe2 xe3 xe4 le d00 d01 d02 d03 d10 d11 d12 d13 htb
   clear hbx
   go_wp2_with (refine stT Nz_6 rfl rfl rfl rfl rfl rfl (by simp [Value.oneCell']) ?_)
   refine rtT Nz_6 rfl rfl rfl rfl rfl ⟨rfl, row_below (Kx6.out) (by omega) _⟩
  ·
   obtain ⟨rfl, rfl⟩ : ts = [] ∧ c2 = ca := by have h := HAE.out; have h3 := HAE.out; simp [h2] at h; exact ⟨h.1, h.2.symm⟩
   have f9 : (c2 != 0) = true := by simpa using h2
   obtain ⟨rfl, rfl⟩ : Ty.none_ = t ∧ c2 = c := by have h := HR2.out; simpa [h2] using h
   go_wp2_with (refine stT Nz_5 rfl rfl rfl rfl rfl rfl (by simp [Value.oneCell']) ?_)
   refine rtT Nz_5 rfl rfl rfl rfl rfl ⟨rfl, row_below (Kx5.out) (by omega) _⟩
 ·
  obtain ⟨rfl, rfl⟩ : ts = [] ∧ c1 = ca := by have h := HAE.out; simp [h1] at h; exact ⟨h.1, h.2.symm⟩
  have f9 : (c1 != 0) = true := by simpa using h1
  obtain ⟨rfl, rfl⟩ : Ty.none_ = t ∧ c1 = c := by have h := HR2.out; simpa [h1] using h
  go_wp2_with (refine stT Nz_5 rfl rfl rfl rfl rfl rfl (by simp [Value.oneCell']) ?_)
  refine rtT Nz_5 rfl rfl rfl rfl rfl ⟨rfl, row_below (Kx5.out) (by omega) _⟩
end Go.Proofs.Ytmhdcehpddbjaaa
