/- What the laws use: Low; lists of instructions that grow. -/
import Derived.Test.YtcgfabnmkbiogaaDoorFlM
import Derived.LoopTactic
import Derived.WalkKit
import Derived.WalkSpells
import Derived.WalkLawsBesides
import Derived.LoopTactic
import Derived.Deep.QuietTactic
import Derived.BigQuiet
import Derived.Below
import Derived.Laws.ResultCell
import Derived.Laws.Tables
import Derived.Laws.Rows
import Derived.Deep.Cut
import Derived.KernelRfl
namespace Go.Proofs.YtcgfabnmkbiogaaDoor
open Go.RowKit
set_option maxRecDepth 100000 in
set_option maxHeartbeats 4000000 in
theorem low_is (x : Int) (m : Nat) (hm : 0 < m) (hl : m ≤ 9223372036854775807) (w : World) :
    Calls Tryd.prog 7 #[.int .i64 x, .int .i64 m] w fun e w' => (∃ k : Nat, e = .returned (.int .i64 k) ∧ k < m) ∧ w = w' := by
  go_enter Tryd.func7, Tryd.ntmps7
  try simp only [List.append_eq, List.cons_append, List.nil_append]
  go_wp2_with fail
  go_ret
  have h1 : IntKind.u64.wrap x = x % 18446744073709551616 := IntKind.wrap_u64 x
  have h2 : (x % 18446744073709551616).tmod (m : Int) = (x % 18446744073709551616) % (m : Int) := Int.tmod_eq_emod_of_nonneg (by omega)
  have r1 : 0 ≤ (x % 18446744073709551616) % (m : Int) := Int.emod_nonneg _ (by omega)
  have r2 : (x % 18446744073709551616) % (m : Int) < m := Int.emod_lt_of_pos _ (by omega)
  have h3 : wrap64 ((IntKind.u64.wrap x).tmod (m : Int)) = (x % 18446744073709551616) % (m : Int) := by
    rw [h1, h2]
    generalize (x % 18446744073709551616) % (m : Int) = r at r1 r2 ⊢
    unfold wrap64; omega
  refine ⟨⟨((x % 18446744073709551616) % (m : Int)).toNat, ?_, by omega⟩, rfl⟩
  show Ending.returned (.int .i64 (wrap64 ((IntKind.u64.wrap x).tmod (m : Int)))) = _
  rw [h3, Int.toNat_of_nonneg r1]

theorem info_op : (Tryd.prog.info? 25).map (fun i => (i.zero, i.size, i.bytes)) = some (some (.agg #[.int .i64 0, .int .i64 0, .int .i64 0]), 3, 24) := by kernel_rfl
theorem reads_new {w : World} {xs : List Value} {T : TypeId} {sz n : Nat} (h : xs.length = n * sz) : Reads (w.alloc (.cells xs.toArray T)) (w.alloc (.cells xs.toArray T)).heap.size sz (some ⟨w.heap.size, 0, none⟩) n xs := by
  have hn := Aid.Has.new w xs T
  exact ⟨h, fun _ => ⟨⟨w.heap.size, 0, none⟩, rfl, by simp [World.size_alloc], fun j u hj => by
    rw [Go.WideShapes.add_plain, Nat.zero_add]; exact hn.cell j u hj⟩⟩
theorem flat_one (l : List Opr) : ∀ u ∈ flat l, u.oneCell' = true := by
  intro u hu
  obtain ⟨r, hr, hu⟩ := List.mem_flatten.1 hu
  obtain ⟨o, _, rfl⟩ := List.mem_map.1 hr
  simp [Opr.cells] at hu
  rcases hu with rfl | rfl | rfl <;> rfl
theorem flat_set (l : List Opr) (i : Nat) (o : Opr) : (((flat l).set (i * 3) (.int .i64 o.k)).set (i * 3 + 1) (.int .i64 o.a)).set (i * 3 + 2) (.int .i64 o.b) = flat (l.set i o) := by
  induction l generalizing i with
  | nil => rfl
  | cons a l ih =>
    cases i with
    | zero => rfl
    | succ i =>
      have e : (i + 1) * 3 = i * 3 + 1 + 1 + 1 := by omega
      have := ih i
      simp only [flat, List.map_cons, List.flatten_cons, Opr.cells, List.cons_append, List.nil_append, List.set_cons_succ] at this ⊢
      rw [e]
      simp only [List.set_cons_succ, this]
end Go.Proofs.YtcgfabnmkbiogaaDoor
