/- Small parts of typing, as walks: args, of, wrong. -/
import Derived.Test.YtmhdcehpddbjaaaTySpec
import Derived.WalkKit
import Derived.WalkSpells
import Derived.WalkLawsBesides
import Derived.LoopTactic
import Derived.Deep.QuietTactic
import Derived.BigQuiet
import Derived.Below
import Derived.Laws.ResultCell
import Derived.Laws.Tables
import Derived.Laws.Rows
import Derived.Deep.Cut
import Derived.KernelRfl
namespace Go.Proofs.Ytmhdcehpddbjaaa
open Go.RowKit

theorem results_row2 {P : Program} {fn : Func} {p u : Tmp} {ty : TypeId} (h : fn.results = #[.cell p ty, .tmp u]) (tmps : Array Value) (w : World) (g : Nat) (t : TypeId) (cs : Array Value) (fr : Nat × Nat) (d : TypeDesc)
    (x : Value) (hp : tmps.getD p undef = .pointer (some ⟨g, 0, none⟩)) (hx : tmps.getD u undef = x) (hg : w.heap[g]? = some (.cells cs t fr))
    (hu : P.underlying ty = some d) (hd : (match d with | .struct _ | .array _ _ => true | _ => false) = true) (hi : (P.info? ty).map (·.size) = some cs.size) :
    (results fn tmps).run P w = .ok (.tuple #[.agg cs, x]) w := by
  rw [results_cell_tmp h, hp, hx]
  simp only [asAddr, Sem.run_pure, Result.andThen]
  rw [run_loadVar_row w g t ty cs fr d hg hu hd hi]
theorem row_heap (w : World) (g : Nat) (cs : Array Value) (k : Nat) (h : k ≠ g) : (w.setRow g cs).heap[k]? = w.heap[k]? := by
  simp [World.setRow, Array.getElem?_modify, Ne.symm h]
theorem row_has {w : World} {g : Nat} {xs ys : List Value} {t : TypeId} (h : Aid.Has w g xs t) : Aid.Has (w.setRow g ys.toArray) g ys t := by
  unfold Aid.Has at h ⊢; simp [World.setRow, Array.getElem?_modify, h]
theorem row_size (w : World) (g : Nat) (cs : Array Value) : (w.setRow g cs).heap.size = w.heap.size := by simp [World.setRow]
theorem row_below {B g : Nat} {a w : World} (h : Below B a w) (hg : B ≤ g) (cs : Array Value) : Below B a (w.setRow g cs) :=
  ⟨h.os, h.tape, h.output, by have := h.size; simpa [World.setRow] using this, fun k hk => (row_heap w g cs k (by omega)).trans (h.block k hk)⟩

/-- The cells of no type. -/
def Ty.z : List Value := [.int .i64 0, .int .i64 0, .int .i64 0, .string ⟨#[]⟩]
theorem Ty.z_new (w : World) : Aid.Has (w.alloc (.cells #[.int .i64 0, .int .i64 0, .int .i64 0, .string ⟨#[]⟩] 36)) w.heap.size Ty.z 36 := Aid.Has.new w Ty.z 36
theorem below_new (w : World) (o : Obj) : Below w.heap.size w (w.alloc o) := (Below.refl _ w).alloc (Nat.le_refl _) o

set_option maxRecDepth 100000 in
set_option maxHeartbeats 1000000 in
theorem of_is (k : Int) (w : World) :
    Calls Try.prog 50 #[.int .i64 k] w fun e w' => e = .returned (Ty.of k).v ∧ Below w.heap.size w w' := by
  have HZ := Aid.hid (Ty.z_new w)
  have K0 := Aid.hid (below_new w (.cells #[.int .i64 0, .int .i64 0, .int .i64 0, .string ⟨#[]⟩] 36))
  go_enter Try.func50, Try.ntmps50
  try simp only [List.append_eq, List.cons_append, List.nil_append]
  go_wp2_with (refine wpList_store_row rfl 36 _ _ rfl w.heap.size _ rfl rfl 36 _ HZ.out (by kernel_rfl) rfl (by simp [Value.oneCell']) ?_)
  refine bodyPost_ret (v := _) (results_cell_row rfl _ _ w.heap.size 36 _ (0, 0) _ rfl (row_has HZ.out) Try.underlying36 rfl (by kernel_rfl)) rfl ⟨rfl, row_below K0.out (Nat.le_refl _) _⟩

set_option maxRecDepth 100000 in
set_option maxHeartbeats 1000000 in
theorem wrong_is (c : Int) (w : World) :
    Calls Try.prog 49 #[.int .i64 c] w fun e w' => e = .returned (.tuple #[Ty.none_.v, .int .i64 c]) ∧ Below w.heap.size w w' := by
  have HZ := Aid.hid (Ty.z_new w)
  have K0 := Aid.hid (below_new w (.cells #[.int .i64 0, .int .i64 0, .int .i64 0, .string ⟨#[]⟩] 36))
  go_enter Try.func49, Try.ntmps49
  try simp only [List.append_eq, List.cons_append, List.nil_append]
  go_wp2_with (refine wpList_store_row rfl 36 _ _ rfl w.heap.size _ rfl rfl 36 _ HZ.out (by kernel_rfl) rfl (by simp [Value.oneCell']) ?_)
  refine bodyPost_ret (v := _) (results_row2 rfl _ _ w.heap.size 36 _ (0, 0) _ _ rfl rfl (row_has HZ.out) Try.underlying36 rfl (by kernel_rfl)) rfl ⟨rfl, row_below K0.out (Nat.le_refl _) _⟩

set_option maxRecDepth 100000 in
set_option maxHeartbeats 4000000 in
theorem args_is (k n : Int) (w : World) (hn : Ty.args k = n) :
    Calls Try.prog 48 #[.int .i64 k] w fun e w' => e = .returned (.int .i64 n) ∧ w = w' := by
  have HN := Aid.hid hn
  clear hn
  go_enter Try.func48, Try.ntmps48
  try simp only [List.append_eq, List.cons_append, List.nil_append]
  go_wp2_with fail
  all_goals (go_ret; exact ⟨by rw [← HN.out]; simp_all [Ty.args], rfl⟩)
end Go.Proofs.Ytmhdcehpddbjaaa
