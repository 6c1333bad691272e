/- Typing at a place of a Program. -/
import Derived.Test.YtejifefgmlpclaaGreatTyI
import Derived.Test.YtejifefgmlpclaaGreatTyJ
import Derived.Test.YtejifefgmlpclaaGreatTabClone
import Derived.WalkKit
import Derived.WalkSpells
import Derived.WalkLawsBesides
import Derived.LoopTactic
import Derived.Deep.QuietTactic
import Derived.BigQuiet
import Derived.Below
import Derived.Laws.ResultCell
import Derived.Laws.Tables
import Derived.Laws.Rows
import Derived.Deep.Cut
import Derived.KernelRfl
set_option linter.unusedSimpArgs false
set_option linter.unusedVariables false
namespace Go.Proofs.YtejifefgmlpclaaGreat
open Go.RowKit

set_option maxRecDepth 100000 in
set_option maxHeartbeats 4000000 in
theorem at_prog (u : List Dk) (a : Option Addr) (B cap i : Nat) (d : Dk) (w : World) (hd : u[i]? = some d) (hk : d.kind = 3) (hl : d.vs.length ≤ 1000000000) (hu : UnitAt w B a u) (hB : B ≤ w.heap.size) :
    Calls Tryz.prog 59 #[.agg #[.slice a u.length cap], .agg #[.int .i64 (i : Int), .int .i64 (-1)]] w fun z w' => ∃ b A, z = .returned (.pointer (some ⟨b, 0, none⟩)) ∧ PlAt w' B b ⟨u, -1, none, d.vs⟩ A ∧ Below w.heap.size w w' := by
  obtain ⟨n2, n3, k0⟩ := two_new w [.slice a u.length cap] [.int .i64 (i : Int), .int .i64 (-1)] 24 76
  have hil : i < u.length := (List.getElem?_eq_some_iff.1 hd).1
  obtain ⟨W, hW⟩ : ∃ W, (w.alloc (.cells #[.slice a u.length cap] 24)).alloc (.cells #[.int .i64 (i : Int), .int .i64 (-1)] 76) = W := ⟨_, rfl⟩
  rw [hW] at n2 n3 k0
  have hu2 := hu.below k0 hB
  have sm := hu.small
  obtain ⟨ub, uo, hA, hub, hc⟩ := hu2.at_ (by omega)
  have x2 := n2.cell 0 _ rfl
  rw [hA] at x2
  have l2 := n2.lt
  have x3 := n3.cell 0 _ rfl
  have x4 := n3.cell 1 _ rfl
  have l3 := n3.lt
  have u0 := hc i d hd 0 _ rfl
  have u1 := hc i d hd 1 _ rfl
  have u2 := hc i d hd 2 _ rfl
  have u3 := hc i d hd 3 _ rfl
  have u4 := hc i d hd 4 _ rfl
  have u5 := hc i d hd 5 _ rfl
  have u6 := hc i d hd 6 _ rfl
  have u7 := hc i d hd 7 _ rfl
  have u8 := hc i d hd 8 _ rfl
  have u9 := hc i d hd 9 _ rfl
  have u10 := hc i d hd 10 _ rfl
  simp only [Nat.add_zero] at u0
  rw [hk] at u0
  have lub : ub < W.heap.size := by have := k0.size; omega
  have hi0 : decide ((i : Int) < 0) = false := by simp
  have hi1 : decide ((u.length : Int) ≤ (i : Int)) = false := by simp; omega
  have hi2 : (i : Int) < (u.length : Int) := by omega
  have HU := Aid.hid hu; have HD := Aid.hid hd; have HA := Aid.hid hA; have HKK := Aid.hid hk
  have k3 := k0.alloc k0.size (.cells #[.int .i64 3, .string d.name, .string d.base, .slice d.fA d.faces.length d.fc, .bool d.abs, .bool d.fin, .slice d.vA d.vs.length d.vc, .slice d.mA d.ms.length d.mc, .slice d.bA d.body.length d.bc, .int .i64 d.every, .int .i64 d.first] 34)
  have n4 := n2.alloc (.cells #[.int .i64 3, .string d.name, .string d.base, .slice d.fA d.faces.length d.fc, .bool d.abs, .bool d.fin, .slice d.vA d.vs.length d.vc, .slice d.mA d.ms.length d.mc, .slice d.bA d.body.length d.bc, .int .i64 d.every, .int .i64 d.first] 34)
  have nd := Aid.Has.new W [.int .i64 3, .string d.name, .string d.base, .slice d.fA d.faces.length d.fc, .bool d.abs, .bool d.fin, .slice d.vA d.vs.length d.vc, .slice d.mA d.ms.length d.mc, .slice d.bA d.body.length d.bc, .int .i64 d.every, .int .i64 d.first] 34
  obtain ⟨X, hX⟩ : ∃ X, W.alloc (.cells #[.int .i64 3, .string d.name, .string d.base, .slice d.fA d.faces.length d.fc, .bool d.abs, .bool d.fin, .slice d.vA d.vs.length d.vc, .slice d.mA d.ms.length d.mc, .slice d.bA d.body.length d.bc, .int .i64 d.every, .int .i64 d.first] 34) = X := ⟨_, rfl⟩
  rw [hX] at k3 n4 nd
  have y0 := nd.cell 0 _ rfl
  have y6 := nd.cell 6 _ rfl
  have ly := nd.lt
  have x2b := n4.cell 0 _ rfl
  have x3b := (n3.alloc (.cells #[.int .i64 3, .string d.name, .string d.base, .slice d.fA d.faces.length d.fc, .bool d.abs, .bool d.fin, .slice d.vA d.vs.length d.vc, .slice d.mA d.ms.length d.mc, .slice d.bA d.body.length d.bc, .int .i64 d.every, .int .i64 d.first] 34)).cell 1 _ rfl
  rw [hX] at x3b
  have l3b : w.heap.size + 1 < X.heap.size := by rw [← hX]; simp; omega
  have l2b := n4.lt
  have K3 := Aid.hid k3
  have hsz : w.heap.size ≤ X.heap.size := k3.size
  clear hu hd hc hu2 n2 n3 n4 nd k0 k3 hA hk hil
  rw [HA.out] at x2b hW ⊢
  go_enter Tryz.func59, Tryz.ntmps59
  try simp only [List.append_eq, List.cons_append, List.nil_append]
  go_wp2_with fail
  go_ret
  have kz := K3.out.alloc hsz (.cells #[.slice (some ⟨ub, uo, none⟩) u.length cap, .int .i64 (-1), .pointer none, .slice d.vA d.vs.length d.vc] 101)
  refine ⟨X.heap.size, ⟨some ⟨ub, uo, none⟩, cap, none, d.vA, d.vc⟩, rfl, ⟨Aid.Has.new X [.slice (some ⟨ub, uo, none⟩) u.length cap, .int .i64 (-1), .pointer none, .slice d.vA d.vs.length d.vc] 101, ?_, Nat.le_trans hB kz.size, ?_, hl, fun _ => rfl, fun m hm => by cases hm⟩, kz⟩
  · have h := HU.out.below kz hB
    rw [HA.out] at h
    exact h
  · exact (((HU.out.decls d (List.mem_of_getElem? HD.out)).vars).below kz hB).more (Nat.le_trans hB kz.size)
theorem four_new (w : World) (xs ys zs us : List Value) (t u v x : TypeId) :
    Aid.Has ((((w.alloc (.cells xs.toArray t)).alloc (.cells ys.toArray u)).alloc (.cells zs.toArray v)).alloc (.cells us.toArray x)) (w.heap.size + 1) ys u ∧ Aid.Has ((((w.alloc (.cells xs.toArray t)).alloc (.cells ys.toArray u)).alloc (.cells zs.toArray v)).alloc (.cells us.toArray x)) (w.heap.size + 1 + 1) zs v ∧ Aid.Has ((((w.alloc (.cells xs.toArray t)).alloc (.cells ys.toArray u)).alloc (.cells zs.toArray v)).alloc (.cells us.toArray x)) (w.heap.size + 1 + 1 + 1) us x ∧ Aid.Has ((((w.alloc (.cells xs.toArray t)).alloc (.cells ys.toArray u)).alloc (.cells zs.toArray v)).alloc (.cells us.toArray x)) w.heap.size xs t ∧ Below w.heap.size w ((((w.alloc (.cells xs.toArray t)).alloc (.cells ys.toArray u)).alloc (.cells zs.toArray v)).alloc (.cells us.toArray x)) := by
  obtain ⟨h1, h2, h3, h4⟩ := three_new w xs ys zs t u v
  refine ⟨h2.alloc _, h3.alloc _, ?_, h1.alloc _, h4.alloc h4.size _⟩
  have e : (((w.alloc (.cells xs.toArray t)).alloc (.cells ys.toArray u)).alloc (.cells zs.toArray v)).heap.size = w.heap.size + 1 + 1 + 1 := by simp
  rw [← e]; exact Aid.Has.new _ _ _
set_option maxRecDepth 100000 in
set_option maxHeartbeats 4000000 in
theorem Visible_prog (u : List Dk) (a : Option Addr) (B cap i : Nat) (d : Dk) (w : World) (hd : u[i]? = some d) (hk : d.kind = 3) (hl : d.vs.length ≤ 1000000000) (hu : UnitAt w B a u) (hB : B ≤ w.heap.size) :
    Calls Tryz.prog 54 #[.agg #[.slice a u.length cap], .agg #[.int .i64 (i : Int), .int .i64 (-1)]] w fun z w' => ∃ A c, z = .returned (.slice A d.vs.length c) ∧ w'.ownsRow w.heap.size 55 8 (.slice A d.vs.length c) d.vs.length (d.vs.map Vd.cells).flatten ∧ Below w.heap.size w w' := by
  obtain ⟨n2, n3, k0⟩ := two_new w [.slice a u.length cap] [.int .i64 (i : Int), .int .i64 (-1)] 24 76
  obtain ⟨W, hW⟩ : ∃ W, (w.alloc (.cells #[.slice a u.length cap] 24)).alloc (.cells #[.int .i64 (i : Int), .int .i64 (-1)] 76) = W := ⟨_, rfl⟩
  rw [hW] at n2 n3 k0
  have HC := Aid.hid (at_prog u a B cap i d W hd hk hl (hu.below k0 hB) (Nat.le_trans hB k0.size))
  have x3 := n2.cell 0 _ rfl
  have x40 := n3.cell 0 _ rfl
  have x41 := n3.cell 1 _ rfl
  have l3 := n2.lt
  have l4 := n3.lt
  have K0 := Aid.hid k0
  clear hd hk hu n2 n3 k0
  go_enter Tryz.func54, Tryz.ntmps54
  try simp only [List.append_eq, List.cons_append, List.nil_append]
  go_wp2_with fail
  clear hW
  refine HC.out.mono ?_; rintro _ w1 ⟨b, A, rfl, hp, hb1⟩
  have k1 := K0.out.trans (hb1.mono K0.out.size)
  have y3 := hp.has.cell 3 _ rfl
  have lb := hp.has.lt
  have HCC := Aid.hid (clone_is A.vA A.vc w1.heap.size d.vs w1 hp.vars (Nat.le_refl _) hl)
  have K1 := Aid.hid k1
  clear hp hb1 k1 x3 x40 x41 l3 l4 HC
  go_wp2_with fail
  refine HCC.out.mono ?_; rintro _ w9 ⟨A9, c9, rfl, ho, hb9⟩
  have K9 := Aid.hid (K1.out.trans (hb9.mono K1.out.size))
  have HO := Aid.hid (own_lowers ho K1.out.size)
  clear hb9 ho
  go_wp2_with fail
  go_ret
  exact ⟨A9, c9, rfl, HO.out, K9.out⟩
set_option maxRecDepth 100000 in
set_option maxHeartbeats 4000000 in
theorem stmt_exit (b B : Nat) (s : St) (lo : Bool) (w : World) (hk : s.k = 10) (h1 : s.es = []) (h2 : s.bs = []) (h3 : s.ls = []) :
    Calls Tryz.prog 72 #[.pointer (some ⟨b, 0, none⟩), .agg #[.int .i64 s.k, .int .i64 s.n, .string s.name, .slice s.eA s.es.length s.ec, .slice s.lA s.ls.length s.lc, .slice s.bA s.bs.length s.bc], .bool lo] w fun z w' => z = .returned (.int .i64 (if lo = true then 0 else 14)) ∧ Below w.heap.size w w' := by
  have n3 := Aid.Has.new w [.int .i64 s.k, .int .i64 s.n, .string s.name, .slice s.eA s.es.length s.ec, .slice s.lA s.ls.length s.lc, .slice s.bA s.bs.length s.bc] 60
  have k0 := below_new w (.cells #[.int .i64 s.k, .int .i64 s.n, .string s.name, .slice s.eA s.es.length s.ec, .slice s.lA s.ls.length s.lc, .slice s.bA s.bs.length s.bc] 60)
  obtain ⟨W, hW⟩ : ∃ W, w.alloc (.cells #[.int .i64 s.k, .int .i64 s.n, .string s.name, .slice s.eA s.es.length s.ec, .slice s.lA s.ls.length s.lc, .slice s.bA s.bs.length s.bc] 60) = W := ⟨_, rfl⟩
  rw [hW] at n3 k0
  have hf : Ty.formed s.k s.es.length s.bs.length s.ls = true := by rw [hk, h1, h2, h3]; rfl
  have HC := Aid.hid (formed_is s 0 true W hf (by rw [h3]; exact Rows.nil_ _ _ _ _) (Nat.zero_le _) (by rw [h1]; simp) (by rw [h2]; simp) (by rw [h3]; simp))
  have c0 := n3.cell 0 _ rfl
  have c1 := n3.cell 1 _ rfl
  have c2 := n3.cell 2 _ rfl
  have c3 := n3.cell 3 _ rfl
  have c4 := n3.cell 4 _ rfl
  have c5 := n3.cell 5 _ rfl
  have k1 : (s.k == 1) = false := by simp [hk]
  have k2 : (s.k == 2) = false := by simp [hk]
  have k3 : (s.k == 3) = false := by simp [hk]
  have k8 : (s.k == 8) = false := by simp [hk]
  have k11 : (s.k == 11) = false := by simp [hk]
  have k4 : (s.k == 4) = false := by simp [hk]
  have k5 : (s.k == 5) = false := by simp [hk]
  have k6 : (s.k == 6) = false := by simp [hk]
  have k7 : (s.k == 7) = false := by simp [hk]
  have k9 : (s.k == 9) = false := by simp [hk]
  have l3 := n3.lt
  have K0 := Aid.hid k0; have N3 := Aid.hid n3
  clear hk h1 h2 h3 n3 k0 hf
  go_enter Tryz.func72, Tryz.ntmps72
  try simp only [List.append_eq, List.cons_append, List.nil_append]
  go_wp2_with fail
  clear hW
  refine HC.out.mono ?_; rintro _ w1 ⟨rfl, hb1⟩
  have K1 := Aid.hid (K0.out.trans (hb1.mono K0.out.size))
  have n3 := N3.out.below hb1 N3.out.lt
  clear hb1 c0 c1 c2 c3 c4 c5 l3 K0 N3 HC
  have c0 := n3.cell 0 _ rfl
  have l3 := n3.lt
  clear n3
  cases lo
  all_goals
    go_wp2_with fail
    go_ret
    exact ⟨rfl, K1.out⟩
end Go.Proofs.YtejifefgmlpclaaGreat
