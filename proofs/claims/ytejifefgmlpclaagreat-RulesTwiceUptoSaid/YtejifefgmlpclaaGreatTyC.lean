/- Parts of typing, as walks: same, unary, both, binary, as. -/
import Derived.Test.YtejifefgmlpclaaGreatTyB
import Derived.BigRegion
import Derived.WalkKit
import Derived.WalkSpells
import Derived.WalkLawsBesides
import Derived.LoopTactic
import Derived.Deep.QuietTactic
import Derived.BigQuiet
import Derived.Below
import Derived.Laws.ResultCell
import Derived.Laws.Tables
import Derived.Laws.Rows
import Derived.Deep.Cut
import Derived.KernelRfl
set_option linter.unusedSimpArgs false
set_option linter.unusedVariables false
namespace Go.Proofs.YtejifefgmlpclaaGreat
open Go.RowKit

theorem two_new (w : World) (xs ys : List Value) (t u : TypeId) :
    Aid.Has ((w.alloc (.cells xs.toArray t)).alloc (.cells ys.toArray u)) w.heap.size xs t ∧ Aid.Has ((w.alloc (.cells xs.toArray t)).alloc (.cells ys.toArray u)) (w.heap.size + 1) ys u ∧ Below w.heap.size w ((w.alloc (.cells xs.toArray t)).alloc (.cells ys.toArray u)) := by
  refine ⟨(Aid.Has.new _ _ _).alloc _, ?_, ((Below.refl _ w).alloc (Nat.le_refl _) _).alloc (by simp) _⟩
  have e : (w.alloc (.cells xs.toArray t)).heap.size = w.heap.size + 1 := by simp
  rw [← e]; exact Aid.Has.new _ _ _
theorem below_alloc {B : Nat} {a w : World} (h : Below B a w) (hB : B ≤ w.heap.size) (o : Obj) : Below B a (w.alloc o) := h.alloc hB o
theorem of_x (k : Int) (w : World) : Calls Tryz.prog 98 #[.int .i64 k] w fun e w' => e = .returned (.agg #[.int .i64 k, .int .i64 0, .int .i64 0, .string ⟨#[]⟩]) ∧ Below w.heap.size w w' := of_is k w
theorem wrong_x (c : Int) (w : World) : Calls Tryz.prog 91 #[.int .i64 c] w fun e w' => e = .returned (.tuple #[.agg #[.int .i64 0, .int .i64 0, .int .i64 0, .string ⟨#[]⟩], .int .i64 c]) ∧ Below w.heap.size w w' := wrong_is c w
theorem visible_x (B b : Nat) (p : Pl) (a : Pa) (s : ByteArray) (o : Option Vd) (v : Vd) (r : Bool) (w : World) (h : PlAt w B b p a) (ho : p.var s = o) (hv : Ty.vof o = v) (hr : o.isSome = r) :
    Calls Tryz.prog 86 #[.pointer (some ⟨b, 0, none⟩), .string s] w fun e w' => e = .returned (.tuple #[.agg #[.string v.name, .int .i64 v.ty.k, .int .i64 v.ty.lo, .int .i64 v.ty.hi, .string v.ty.name, .int .i64 v.init, .int .i64 v.dir, .int .i64 v.slot], .bool r]) ∧ Below w.heap.size w w' := by
  rw [← hv, ← hr]; exact visible_is B b p a s o w h ho
/-- An expression's answer is the program's. -/
def ExOK (f B b : Nat) (p : Pl) (a : Pa) (e : Ex) : Prop :=
  ∀ (w : World) (t : Ty) (c : Int), Ty.expr p e = (t, c) → PlAt w B b p a → ExsAt f w B e.A e.args →
    Calls Tryz.prog 87 #[.pointer (some ⟨b, 0, none⟩), .agg #[.int .i64 e.k, .int .i64 e.n, .string e.name, .string e.what, .slice e.A e.args.length e.c]] w fun r w' => r = .returned (.tuple #[.agg #[.int .i64 t.k, .int .i64 t.lo, .int .i64 t.hi, .string t.name], .int .i64 c]) ∧ Below w.heap.size w w'

set_option maxRecDepth 100000 in
set_option maxHeartbeats 4000000 in
theorem same_is (f B b : Nat) (p : Pl) (a : Pa) (e : Ex) (k : Int) (t : Ty) (c : Int) (w : World) (hE : ExOK f B b p a e) (hr : Ty.same (Ty.expr p e) k = (t, c)) (h : PlAt w B b p a) (he : ExsAt f w B e.A e.args) :
    Calls Tryz.prog 82 #[.pointer (some ⟨b, 0, none⟩), .agg #[.int .i64 e.k, .int .i64 e.n, .string e.name, .string e.what, .slice e.A e.args.length e.c], .int .i64 k] w fun r w' => r = .returned (.tuple #[.agg #[.int .i64 t.k, .int .i64 t.lo, .int .i64 t.hi, .string t.name], .int .i64 c]) ∧ Below w.heap.size w w' := by
  obtain ⟨⟨t1, c1⟩, h1⟩ : ∃ r, Ty.expr p e = r := ⟨_, rfl⟩
  rw [h1] at hr
  have HR := Aid.hid hr
  obtain ⟨P0, hz, k0⟩ := two_new w [.int .i64 e.k, .int .i64 e.n, .string e.name, .string e.what, .slice e.A e.args.length e.c] [.int .i64 0, .int .i64 0, .int .i64 0, .string ⟨#[]⟩] 79 44
  have K0 := Aid.hid k0
  have HZ := Aid.hid hz
  have HC := Aid.hid (hE _ t1 c1 h1 (h.below k0) (he.below k0 h.le))
  clear hE hr h he h1 k0 hz P0
  go_enter Tryz.func82, Tryz.ntmps82
  try simp only [List.append_eq, List.cons_append, List.nil_append]
  go_wp2_with fail
  refine HC.out.mono ?_; rintro _ w1 ⟨rfl, hb1⟩
  have KW := Aid.hid (K0.out.trans (hb1.mono K0.out.size))
  have HZ1 := Aid.hid (HZ.out.below hb1 HZ.out.lt)
  have hs1 : w.heap.size ≤ w1.heap.size := KW.out.size
  clear hb1 HC HZ K0
  by_cases hc : c1 = 0
  · subst hc
    by_cases hk : t1.k = k
    · subst hk
      obtain ⟨rfl, rfl⟩ : t1 = t ∧ 0 = c := by have := HR.out; simpa [Ty.same] using this
      go_wp2_with (refine wpList_store_row rfl 44 _ _ rfl (w.heap.size + 1) _ rfl rfl 44 _ (HZ1.out.alloc _) (by kernel_rfl) rfl (by simp [Value.oneCell']) ?_)
      refine bodyPost_ret (v := _) (results_row2 rfl _ _ (w.heap.size + 1) 44 _ (0, 0) _ _ rfl rfl (row_has (HZ1.out.alloc _)) Tryz.underlying44 rfl (by kernel_rfl)) rfl ⟨rfl, row_below (KW.out.alloc hs1 _) (by omega) _⟩
    · obtain ⟨rfl, rfl⟩ : Ty.none_ = t ∧ 14 = c := by have := HR.out; simpa [Ty.same, hk] using this
      go_wp2_with fail
      refine (wrong_x 14 _).mono ?_; rintro _ w8 ⟨rfl, hb8⟩
      have HZ8 := Aid.hid ((HZ1.out.alloc _).below hb8 (HZ1.out.alloc _).lt)
      have KW8 := Aid.hid ((KW.out.alloc hs1 _).trans (hb8.mono (KW.out.alloc hs1 _).size))
      clear hb8
      go_wp2_with (refine wpList_store_row rfl 44 _ _ rfl (w.heap.size + 1) _ rfl rfl 44 _ (HZ8.out) (by kernel_rfl) rfl (by simp [Value.oneCell']) ?_)
      refine bodyPost_ret (v := _) (results_row2 rfl _ _ (w.heap.size + 1) 44 _ (0, 0) _ _ rfl rfl (row_has (HZ8.out)) Tryz.underlying44 rfl (by kernel_rfl)) rfl ⟨rfl, row_below (KW8.out) (by omega) _⟩
  · obtain ⟨rfl, rfl⟩ : Ty.none_ = t ∧ c1 = c := by have := HR.out; simpa [Ty.same, hc] using this
    go_wp2_with fail
    refine (wrong_x c1 _).mono ?_; rintro _ w8 ⟨rfl, hb8⟩
    have HZ8 := Aid.hid ((HZ1.out.alloc _).below hb8 (HZ1.out.alloc _).lt)
    have KW8 := Aid.hid ((KW.out.alloc hs1 _).trans (hb8.mono (KW.out.alloc hs1 _).size))
    clear hb8
    go_wp2_with (refine wpList_store_row rfl 44 _ _ rfl (w.heap.size + 1) _ rfl rfl 44 _ (HZ8.out) (by kernel_rfl) rfl (by simp [Value.oneCell']) ?_)
    refine bodyPost_ret (v := _) (results_row2 rfl _ _ (w.heap.size + 1) 44 _ (0, 0) _ _ rfl rfl (row_has (HZ8.out)) Tryz.underlying44 rfl (by kernel_rfl)) rfl ⟨rfl, row_below (KW8.out) (by omega) _⟩

theorem Ex.at1 {f : Nat} {w : World} {B : Nat} {A : Option Addr} {l : List Ex} (h : ExsAt (f + 1) w B A l) {i : Nat} {e : Ex} (hi : l[i]? = some e) :
    ∃ b off, A = some ⟨b, off, none⟩ ∧ b < B ∧ (∀ j v, [.int .i64 e.k, .int .i64 e.n, .string e.name, .string e.what, .slice e.A e.args.length e.c][j]? = some v → w.cell? ⟨b, off + i * 5 + j, none⟩ = some v) ∧ ExsAt f w B e.A e.args := by
  obtain ⟨b, off, h1, h2, h3⟩ := h.2.1 (by have := (List.getElem?_eq_some_iff.1 hi).1; simp; omega)
  exact ⟨b, off, h1, h2, fun j v hv => h3 i e.cells (by simp [hi]) j v hv, h.2.2 e (List.mem_of_getElem? hi)⟩

set_option maxRecDepth 100000 in
set_option maxHeartbeats 4000000 in
theorem unary_is (f B b : Nat) (p : Pl) (a : Pa) (e x : Ex) (k : Int) (t : Ty) (c : Int) (w : World) (hE : ExOK f B b p a x) (hk : k = if e.k = 7 then 1 else 2) (hr : Ty.same (Ty.expr p x) k = (t, c)) (h : PlAt w B b p a) (he : ExsAt (f + 1) w B e.A e.args) (hx : e.args = [x]) :
    Calls Tryz.prog 99 #[.pointer (some ⟨b, 0, none⟩), .agg #[.int .i64 e.k, .int .i64 e.n, .string e.name, .string e.what, .slice e.A e.args.length e.c]] w fun r w' => r = .returned (.tuple #[.agg #[.int .i64 t.k, .int .i64 t.lo, .int .i64 t.hi, .string t.name], .int .i64 c]) ∧ Below w.heap.size w w' := by
  obtain ⟨P0, hz, k0⟩ := two_new w [.int .i64 e.k, .int .i64 e.n, .string e.name, .string e.what, .slice e.A e.args.length e.c] [.int .i64 0, .int .i64 0, .int .i64 0, .string ⟨#[]⟩] 79 44
  have K0 := Aid.hid k0
  have HZ := Aid.hid hz
  have HC := Aid.hid (same_is f B b p a x k t c _ hE hr (h.below k0))
  obtain ⟨eb, off, hA, hlt, hc, hs⟩ := Ex.at1 (he.below k0 h.le) (i := 0) (e := x) (by rw [hx]; rfl)
  have HS := Aid.hid hs
  have hl : e.args.length = 1 := by rw [hx]; rfl
  rw [hA, hl] at k0 P0 HC HZ K0 ⊢
  rw [hA, hl] at HS hc
  have c0 := hc 0 _ rfl
  have c1 := hc 1 _ rfl
  have c2 := hc 2 _ rfl
  have c3 := hc 3 _ rfl
  have c4 := hc 4 _ rfl
  simp only [Nat.add_zero, Nat.zero_mul] at c0 c1 c2 c3 c4
  have hB : B ≤ w.heap.size := h.le
  clear hE hr h he k0 hz P0 hc hs
  obtain ⟨q7, h7⟩ : ∃ q, (e.k == 7) = q := ⟨_, rfl⟩
  have hk2 : k = if q7 = true then 1 else 2 := by rw [hk, ← h7]; simp
  clear hk
  cases q7
  all_goals
    simp only [if_true, Bool.false_eq_true, if_false] at hk2
    subst hk2
    go_enter Tryz.func99, Tryz.ntmps99
    try simp only [List.append_eq, List.cons_append, List.nil_append]
    go_wp2_with fail
    refine (HC.out HS.out).mono ?_; rintro _ w1 ⟨rfl, hb1⟩
    have KW := Aid.hid (K0.out.trans (hb1.mono K0.out.size))
    have HZ1 := Aid.hid (HZ.out.below hb1 HZ.out.lt)
    clear hb1 HC HZ K0 c0 c1 c2 c3 c4
    go_wp2_with (refine wpList_store_row rfl 44 _ _ rfl (w.heap.size + 1) _ rfl rfl 44 _ (HZ1.out) (by kernel_rfl) rfl (by simp [Value.oneCell']) ?_)
    refine bodyPost_ret (v := _) (results_row2 rfl _ _ (w.heap.size + 1) 44 _ (0, 0) _ _ rfl rfl (row_has (HZ1.out)) Tryz.underlying44 rfl (by kernel_rfl)) rfl ⟨rfl, row_below (KW.out) (by omega) _⟩
end Go.Proofs.YtejifefgmlpclaaGreat
