/- put, as a walk. -/
import Derived.Test.YtcgfabnmkbiogaaDoorFlN
import Derived.Test.YtcgfabnmkbiogaaDoorFlowJoinL
import Derived.WalkKit
import Derived.WalkSpells
import Derived.WalkLawsBesides
import Derived.LoopTactic
import Derived.Deep.QuietTactic
import Derived.BigQuiet
import Derived.Below
import Derived.Laws.ResultCell
import Derived.Laws.Tables
import Derived.Laws.Rows
import Derived.Deep.Cut
import Derived.KernelRfl
namespace Go.Proofs.YtcgfabnmkbiogaaDoor
open Go.RowKit

theorem flat_setA (l : List Opr) (i : Nat) (o : Opr) (v : Int) (h : l[i]? = some o) : (flat l).set (i * 3 + 1) (.int .i64 v) = flat (l.set i ⟨o.k, v, o.b⟩) := by
  induction l generalizing i with
  | nil => simp at h
  | cons a l ih =>
    cases i with
    | zero =>
      obtain rfl : a = o := by simpa using h
      rfl
    | succ i =>
      have e : (i + 1) * 3 + 1 = i * 3 + 1 + 1 + 1 + 1 := by omega
      have := ih i (by simpa using h)
      rw [e]
      simp only [flat, List.map_cons, List.flatten_cons, Opr.cells, List.cons_append, List.nil_append, List.set_cons_succ] at this ⊢
      rw [this]
/-- What is put. -/
def putOp (r : Bool) : Opr := if r then ⟨2, 0, 0⟩ else ⟨1, 0, 0⟩
def putLt (r : Bool) : UInt8 := if r then 114 else 105
set_option maxRecDepth 100000 in
set_option maxHeartbeats 2000000 in
theorem put_is (A : Option Addr) (c n base : Nat) (l : List Opr) (L : List UInt8) (r : Bool) (w : World) (ho : w.ownsRow base 25 3 (.slice A n c) n (flat l)) (hB : base ≤ w.heap.size) (hn : n ≤ 100) (hl : L.length ≤ 100) :
    Calls Tryd.prog 11 #[.slice A n c, .string (tb L), .bool r] w fun e w' => ∃ A' c', e = .returned (.tuple #[.slice A' (n + 1) c', .string (tb (L ++ [putLt r]))]) ∧ w'.ownsRow base 25 3 (.slice A' (n + 1) c') (n + 1) (flat (l ++ [putOp r])) ∧ Below base w w' := by
  obtain ⟨i0, hi, hz0, hz1, hz2⟩ := info_parts info_op
  have O := Aid.hid ho
  obtain ⟨s, hs⟩ : ∃ s, tb L = s := ⟨_, rfl⟩
  have hss : s.size ≤ 100 := by rw [← hs, tb_size]; exact hl
  have e1 : tb (L ++ [105]) = s ++ ⟨#[105]⟩ := by rw [← hs]; exact (tb_app L [105]).symm
  have e2 : tb (L ++ [114]) = s ++ ⟨#[114]⟩ := by rw [← hs]; exact (tb_app L [114]).symm
  clear ho
  cases r
  · show Calls _ _ _ _ fun e w' => ∃ A' c', e = .returned (.tuple #[.slice A' (n + 1) c', .string (tb (L ++ [105]))]) ∧ w'.ownsRow base 25 3 (.slice A' (n + 1) c') (n + 1) (flat (l ++ [(⟨1, 0, 0⟩ : Opr)])) ∧ Below base w w'
    rw [e1, hs]
    clear e1 e2 hs
    have hr := reads_new (w := w) (xs := [.int .i64 1, .int .i64 0, .int .i64 0]) (T := 25) (sz := 3) (n := 1) rfl
    have HR := Aid.hid hr
    have hbs : base ≤ (w.alloc (.cells [.int .i64 1, .int .i64 0, .int .i64 0].toArray 25)).heap.size := Nat.le_trans hB (by simp)
    have KA : Hid (Below base w (w.alloc (.cells [.int .i64 1, .int .i64 0, .int .i64 0].toArray 25))) := Aid.hid ((Below.refl _ _).alloc hB _)
    clear hr
    go_enter Tryd.func11, Tryd.ntmps11
    try simp only [List.append_eq, List.cons_append, List.nil_append]
    go_wp2_with (at_builtin; refine wpList_append_any _ rfl _ _ 23 rfl base 25 i0 (.agg #[.int .i64 0, .int .i64 0, .int .i64 0]) 3 24 Tryd.underlying23 hi hz0 hz1 hz2 rfl (by decide) _ n _ rfl (O.out.alloc _) _ (some ⟨w.heap.size, 0, none⟩) 1 1 [.int .i64 1, .int .i64 0, .int .i64 0] rfl HR.out ?d1 ?d2 ?d3 hbs ?_)
    case d1 => exact flat_one [⟨1, 0, 0⟩]
    case d2 => unfold maxLen; omega
    case d3 => omega
    intro v9 w9 ho9 hg9 _
    obtain ⟨A9, c9, rfl⟩ := own_slice ho9
    have K9 := Aid.hid (KA.out.grown hg9 hbs (fun p hp => (O.out.lt p hp).1))
    have O9 := Aid.hid ho9
    clear ho9 hg9 HR KA hbs O
    go_wp2_with fail
    go_ret2
    refine ⟨A9, c9, ?_, ?_, K9.out⟩
    · rfl
    · rw [flat_app]; exact O9.out
  · show Calls _ _ _ _ fun e w' => ∃ A' c', e = .returned (.tuple #[.slice A' (n + 1) c', .string (tb (L ++ [114]))]) ∧ w'.ownsRow base 25 3 (.slice A' (n + 1) c') (n + 1) (flat (l ++ [(⟨2, 0, 0⟩ : Opr)])) ∧ Below base w w'
    rw [e2, hs]
    clear e1 e2 hs
    have hr := reads_new (w := w) (xs := [.int .i64 2, .int .i64 0, .int .i64 0]) (T := 25) (sz := 3) (n := 1) rfl
    have HR := Aid.hid hr
    have hbs : base ≤ (w.alloc (.cells [.int .i64 2, .int .i64 0, .int .i64 0].toArray 25)).heap.size := Nat.le_trans hB (by simp)
    have KA : Hid (Below base w (w.alloc (.cells [.int .i64 2, .int .i64 0, .int .i64 0].toArray 25))) := Aid.hid ((Below.refl _ _).alloc hB _)
    clear hr
    go_enter Tryd.func11, Tryd.ntmps11
    try simp only [List.append_eq, List.cons_append, List.nil_append]
    go_wp2_with (at_builtin; refine wpList_append_any _ rfl _ _ 23 rfl base 25 i0 (.agg #[.int .i64 0, .int .i64 0, .int .i64 0]) 3 24 Tryd.underlying23 hi hz0 hz1 hz2 rfl (by decide) _ n _ rfl (O.out.alloc _) _ (some ⟨w.heap.size, 0, none⟩) 1 1 [.int .i64 2, .int .i64 0, .int .i64 0] rfl HR.out ?d1 ?d2 ?d3 hbs ?_)
    case d1 => exact flat_one [⟨2, 0, 0⟩]
    case d2 => unfold maxLen; omega
    case d3 => omega
    intro v9 w9 ho9 hg9 _
    obtain ⟨A9, c9, rfl⟩ := own_slice ho9
    have K9 := Aid.hid (KA.out.grown hg9 hbs (fun p hp => (O.out.lt p hp).1))
    have O9 := Aid.hid ho9
    clear ho9 hg9 HR KA hbs O
    go_wp2_with fail
    go_ret2
    refine ⟨A9, c9, ?_, ?_, K9.out⟩
    · rfl
    · rw [flat_app]; exact O9.out
end Go.Proofs.YtcgfabnmkbiogaaDoor
