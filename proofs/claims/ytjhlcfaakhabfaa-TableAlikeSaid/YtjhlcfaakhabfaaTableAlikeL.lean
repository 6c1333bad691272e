/- The law TableAlike where an input is too long. -/
import Derived.Test.YtjhlcfaakhabfaaTableAlike
namespace Go.Proofs.Ytjhlcfaakhabfaa
open Go.RowKit

set_option maxRecDepth 100000 in
set_option maxHeartbeats 1000000 in
theorem tableAlike_long1 (a b : Md) (nm : ByteArray) (w : World) (h : 5 < a.ps.length) :
    Calls Try.prog 4 #[.agg #[.string a.name, .bool a.over, .bool a.abs, .bool a.fin, .slice a.pA a.ps.length a.pc, .int .i64 a.res.k, .int .i64 a.res.lo, .int .i64 a.res.hi, .string a.res.name, .slice a.vA a.vs.length a.vc, .slice a.bA a.bn a.bc], .agg #[.string b.name, .bool b.over, .bool b.abs, .bool b.fin, .slice b.pA b.ps.length b.pc, .int .i64 b.res.k, .int .i64 b.res.lo, .int .i64 b.res.hi, .string b.res.name, .slice b.vA b.vs.length b.vc, .slice b.bA b.bn b.bc], .string nm] w fun e w' => e = .returned (.bool true) ∧ Below w.heap.size w w' := by
  have hb0 : Below w.heap.size w ((w.alloc (.cells a.cells.toArray 42)).alloc (.cells b.cells.toArray 42)) := ((Below.refl _ _).alloc (Nat.le_refl _) _).alloc (by simp) _
  go_enter Try.func4, Try.ntmps4
  try simp only [List.append_eq, List.cons_append, List.nil_append]
  go_wp2_with fail
  refine (awake_any _).mono ?_; rintro e w' ⟨rfl, hb⟩
  go_wp2_with fail
  go_ret
  exact ⟨rfl, hb0.trans (hb.mono hb0.size)⟩

set_option maxRecDepth 100000 in
set_option maxHeartbeats 1000000 in
theorem tableAlike_long2 (a b : Md) (nm : ByteArray) (w : World) (h1 : a.ps.length ≤ 5) (h : 5 < b.ps.length) :
    Calls Try.prog 4 #[.agg #[.string a.name, .bool a.over, .bool a.abs, .bool a.fin, .slice a.pA a.ps.length a.pc, .int .i64 a.res.k, .int .i64 a.res.lo, .int .i64 a.res.hi, .string a.res.name, .slice a.vA a.vs.length a.vc, .slice a.bA a.bn a.bc], .agg #[.string b.name, .bool b.over, .bool b.abs, .bool b.fin, .slice b.pA b.ps.length b.pc, .int .i64 b.res.k, .int .i64 b.res.lo, .int .i64 b.res.hi, .string b.res.name, .slice b.vA b.vs.length b.vc, .slice b.bA b.bn b.bc], .string nm] w fun e w' => e = .returned (.bool true) ∧ Below w.heap.size w w' := by
  have hb0 : Below w.heap.size w ((w.alloc (.cells a.cells.toArray 42)).alloc (.cells b.cells.toArray 42)) := ((Below.refl _ _).alloc (Nat.le_refl _) _).alloc (by simp) _
  go_enter Try.func4, Try.ntmps4
  try simp only [List.append_eq, List.cons_append, List.nil_append]
  go_wp2_with fail
  refine (awake_any _).mono ?_; rintro e w' ⟨rfl, hb⟩
  go_wp2_with fail
  go_ret
  exact ⟨rfl, hb0.trans (hb.mono hb0.size)⟩

set_option maxRecDepth 100000 in
set_option maxHeartbeats 1000000 in
theorem tableAlike_long3 (a b : Md) (nm : ByteArray) (w : World) (h1 : a.ps.length ≤ 5) (h2 : b.ps.length ≤ 5) (h : 60 < nm.size) :
    Calls Try.prog 4 #[.agg #[.string a.name, .bool a.over, .bool a.abs, .bool a.fin, .slice a.pA a.ps.length a.pc, .int .i64 a.res.k, .int .i64 a.res.lo, .int .i64 a.res.hi, .string a.res.name, .slice a.vA a.vs.length a.vc, .slice a.bA a.bn a.bc], .agg #[.string b.name, .bool b.over, .bool b.abs, .bool b.fin, .slice b.pA b.ps.length b.pc, .int .i64 b.res.k, .int .i64 b.res.lo, .int .i64 b.res.hi, .string b.res.name, .slice b.vA b.vs.length b.vc, .slice b.bA b.bn b.bc], .string nm] w fun e w' => e = .returned (.bool true) ∧ Below w.heap.size w w' := by
  have hb0 : Below w.heap.size w ((w.alloc (.cells a.cells.toArray 42)).alloc (.cells b.cells.toArray 42)) := ((Below.refl _ _).alloc (Nat.le_refl _) _).alloc (by simp) _
  go_enter Try.func4, Try.ntmps4
  try simp only [List.append_eq, List.cons_append, List.nil_append]
  go_wp2_with fail
  refine (awake_any _).mono ?_; rintro e w' ⟨rfl, hb⟩
  go_wp2_with fail
  go_ret
  exact ⟨rfl, hb0.trans (hb.mono hb0.size)⟩
end Go.Proofs.Ytjhlcfaakhabfaa
