/- What code an error bears. -/
import Derived.Test.YtaogegeidbclaaaGreatDoorImgCodeF
namespace Go.Proofs.YtaogegeidbclaaaGreatDoor
open Go.RowKit Go.Extern.Stop Go.Stop Go.Extern

set_option maxRecDepth 100000 in
set_option maxHeartbeats 4000000 in
theorem as_one (b tb vb : Nat) (c : Int) (W : World) (hE : Wrong W b c) (hT : Aid.Has W tb [.pointer none] 113) (hV : Aid.Has W vb [.pointer (some ⟨tb, 0, none⟩)] 121) :
    Calls Tryz.prog 103 #[.iface 113 (.pointer (some ⟨b, 0, none⟩)), .iface 121 (.pointer (some ⟨tb, 0, none⟩)), .agg #[.pointer (some ⟨1, 121, none⟩), .pointer (some ⟨vb, 0, none⟩), .int .u64 150], .iface 158 (.agg #[.pointer (some ⟨1, 113, none⟩)])] W
      fun e w' => (e = .returned (.bool true) ∧ Aid.Has w' tb [.pointer (some ⟨b, 0, none⟩)] 113) ∧ Below tb W w' := by
  have h37 := @run_callFunc_extern Tryz.prog 112 _ (ReflectliteValue.method (ReflectliteValue.valueError "reflectlite.Value.Elem" 0) ReflectliteValue.elem) Tryz.func112 (by kernel_rfl) (by kernel_rfl) (by kernel_rfl) (by kernel_rfl)
  have h38 := @run_callFunc_extern Tryz.prog 113 _ ReflectliteValue.set Tryz.func113 (by kernel_rfl) (by kernel_rfl) (by kernel_rfl) (by kernel_rfl)
  have f1 := Er.callTypeOf
  have f4 := As.mAssignable
  have f5 := As.assignableE
  have f8 := As.valueOfE
  obtain ⟨W1, hW1⟩ : ∃ W1, W.alloc (.cells #[.pointer (some ⟨1, 121, none⟩), .pointer (some ⟨vb, 0, none⟩), .int .u64 150] 142) = W1 := ⟨_, rfl⟩
  have b0 : Below W.heap.size W W1 := by subst hW1; exact (Below.refl _ _).alloc (Nat.le_refl _) _
  have bx : Aid.Has W1 W.heap.size [.pointer (some ⟨1, 121, none⟩), .pointer (some ⟨vb, 0, none⟩), .int .u64 150] 142 := by subst hW1; exact Aid.Has.new W [.pointer (some ⟨1, 121, none⟩), .pointer (some ⟨vb, 0, none⟩), .int .u64 150] 142
  have ht := hT.below b0 hT.lt
  have hv := hV.below b0 hV.lt
  have x0 := bx.cell 0 _ rfl
  have x1 := bx.cell 1 _ rfl
  have x2 := bx.cell 2 _ rfl
  have el := As.elemVP ⟨vb, 0, none⟩ ⟨tb, 0, none⟩ W1 (hv.cell 0 _ rfl)
  have st := As.setE ⟨tb, 0, none⟩ ⟨W1.heap.size, 0, none⟩ ⟨b, 0, none⟩ (.pointer none) (W1.alloc (.cells #[.pointer (some ⟨b, 0, none⟩)] 113))
        ((Aid.Has.new W1 [.pointer (some ⟨b, 0, none⟩)] 113).cell 0 _ rfl) ((ht.alloc _).cell 0 _ rfl) ((ht.alloc _).frozen 0)
  have HT2 := Aid.hid ht
  have BT : Hid (Below tb W W1) := Aid.hid (b0.mono (by have := hT.lt; omega))
  have htl : tb < W.heap.size := hT.lt
  have hs1 : W.heap.size < W1.heap.size := by subst hW1; simp
  have H1 := Aid.hid hW1
  clear hE hT hV ht hv bx b0 hW1
  go_enter Tryz.func103, Tryz.ntmps103
  try simp only [List.append_eq, List.cons_append, List.nil_append]
  go_wp2_with fail
  rw [H1.out]
  refine wp_loop_rounds 1 ?_
  rw [rounds_succ]
  go_wp2_with fail
  go_ret
  exact ⟨⟨rfl, (HT2.out.alloc _).set 0 _⟩, (BT.out.alloc (by omega) _).setCell (Nat.le_refl _) _⟩
set_option maxRecDepth 100000 in
set_option maxHeartbeats 4000000 in
theorem as_all (b tb : Nat) (c : Int) (W : World) (hg : Door W) (hE : Wrong W b c) (hT : Aid.Has W tb [.pointer none] 113) :
    Calls Tryz.prog 68 #[.iface 113 (.pointer (some ⟨b, 0, none⟩)), .iface 121 (.pointer (some ⟨tb, 0, none⟩))] W fun e w' => (e = .returned (.bool true) ∧ Aid.Has w' tb [.pointer (some ⟨b, 0, none⟩)] 113) ∧ Below tb W w' := by
  have h31 := @run_callFunc_extern Tryz.prog 102 _ (ReflectliteValue.method (ReflectliteValue.valueError "reflectlite.Value.IsNil" 0) ReflectliteValue.isNil) Tryz.func102 (by kernel_rfl) (by kernel_rfl) (by kernel_rfl) (by kernel_rfl)
  have f1 := As.valueOfP
  have f2 := As.typeP
  have f3 := As.mKind
  have f4 := As.kindP
  have f5 := As.kindE
  have f6 := As.mElem
  have f7 := As.elemP
  have f8 := As.mImplements
  have f9 := As.implementsE
  obtain ⟨W2, hW2⟩ : ∃ W2, (W.alloc (.cells #[.pointer (some ⟨tb, 0, none⟩)] 121)).alloc (.cells #[.pointer (some ⟨1, 121, none⟩), .pointer (some ⟨W.heap.size, 0, none⟩), .int .u64 150] 142) = W2 := ⟨_, rfl⟩
  have b2 : Below W.heap.size W W2 := by subst hW2; exact ((Below.refl _ _).alloc (Nat.le_refl _) _).alloc (by simp) _
  have v2 : Aid.Has W2 W.heap.size [.pointer (some ⟨tb, 0, none⟩)] 121 := by subst hW2; exact (Aid.Has.new W [.pointer (some ⟨tb, 0, none⟩)] 121).alloc _
  have hc := as_one b tb W.heap.size c W2 (Aid.Has.below hE b2 (Aid.Has.lt hE)) (hT.below b2 hT.lt) v2
  have n8 := As.isNilP ⟨W.heap.size, 0, none⟩ ⟨tb, 0, none⟩ W2 (v2.cell 0 _ rfl)
  have g2 : W2.cell? ⟨0, 0, none⟩ = some (.iface 158 (.agg #[.pointer (some ⟨1, 34, none⟩)])) := hg.below b2
  rw [← hW2] at n8 g2
  have HC := Aid.hid hc
  have BT : Hid (Below tb W W2) := Aid.hid (b2.mono (by have := hT.lt; omega))
  have H2 := Aid.hid hW2
  clear hc b2 v2 hE hT hg hW2
  go_enter Tryz.func68, Tryz.ntmps68
  try simp only [List.append_eq, List.cons_append, List.nil_append]
  go_wp2_with fail
  rw [H2.out]
  refine HC.out.mono ?_
  rintro e w' ⟨⟨rfl, hh⟩, hb⟩
  have BF := Aid.hid (BT.out.trans hb)
  have HH := Aid.hid hh
  clear n8 g2 hb hh
  go_wp2_with fail
  go_ret
  exact ⟨⟨rfl, HH.out⟩, BF.out⟩
set_option maxRecDepth 100000 in
set_option maxHeartbeats 1000000 in
theorem wrong_is (b : Nat) (c : Int) (W : World) (hg : Door W) (hE : Wrong W b c) :
    Calls Tryz.prog 30 #[.iface 113 (.pointer (some ⟨b, 0, none⟩))] W fun e w' => e = .returned (.tuple #[.int .i64 c, .int .i64 0]) ∧ Below W.heap.size W w' := by
  obtain ⟨W1, hW1⟩ : ∃ W1, W.alloc (.cells #[.pointer none] 113) = W1 := ⟨_, rfl⟩
  have b1 : Below W.heap.size W W1 := by subst hW1; exact (Below.refl _ _).alloc (Nat.le_refl _) _
  have t1 : Aid.Has W1 W.heap.size [.pointer none] 113 := by subst hW1; exact Aid.Has.new W [.pointer none] 113
  have e1 := Aid.Has.below hE b1 (Aid.Has.lt hE)
  have hbl : b < W.heap.size := Aid.Has.lt hE
  have HC := Aid.hid (as_all b W.heap.size c W1 (hg.below b1) e1 t1)
  have E1 : Hid (Wrong W1 b c) := Aid.hid e1
  have B1 := Aid.hid b1
  clear hE hg b1 t1 e1
  subst hW1
  go_enter Tryz.func30, Tryz.ntmps30
  try simp only [List.append_eq, List.cons_append, List.nil_append]
  go_wp2_with fail
  go_at_call 68
  refine HC.out.mono ?_
  rintro e w' ⟨⟨rfl, hh⟩, hb⟩
  have e2 : Wrong w' b c := Aid.Has.below E1.out hb hbl
  have p0 := hh.cell 0 _ rfl
  have q0 := Aid.Has.cell e2 0 _ rfl
  have q1 := Aid.Has.cell e2 1 _ rfl
  have BF := Aid.hid (B1.out.trans hb)
  clear hh e2 hb HC E1 B1
  go_wp2_with fail
  go_quiet (fail)
  go_wp2_with fail
  go_ret2
  exact ⟨rfl, below_drewN' BF.out _⟩
set_option maxRecDepth 100000 in
set_option maxHeartbeats 1000000 in
theorem code_is (b : Nat) (c : Int) (W : World) (hg : Door W) (hE : Wrong W b c) :
    Calls Tryz.prog 11 #[.iface 113 (.pointer (some ⟨b, 0, none⟩))] W fun e w' => e = .returned (.int .i64 c) ∧ Below W.heap.size W w' := by
  have HC := Aid.hid (wrong_is b c W hg hE)
  clear hg hE
  go_enter Tryz.func11, Tryz.ntmps11
  try simp only [List.append_eq, List.cons_append, List.nil_append]
  go_wp2_with fail
  go_at_call 30
  refine HC.out.mono ?_
  rintro e w' ⟨rfl, hb⟩
  go_wp2_with fail
  go_ret
  exact ⟨rfl, hb⟩
set_option maxRecDepth 100000 in
set_option maxHeartbeats 1000000 in
theorem code_nil (W : World) : Calls Tryz.prog 11 #[.nilIface] W fun e w' => e = .returned (.int .i64 0) ∧ W = w' := by
  have HC : Hid (Calls Tryz.prog 30 #[.nilIface] W fun e w' => e = .returned (.tuple #[.int .i64 0, .int .i64 0]) ∧ W = w') := Aid.hid (by
    go_enter Tryz.func30, Tryz.ntmps30
    try simp only [List.append_eq, List.cons_append, List.nil_append]
    go_wp2_with fail
    go_ret2
    exact ⟨rfl, rfl⟩)
  go_enter Tryz.func11, Tryz.ntmps11
  try simp only [List.append_eq, List.cons_append, List.nil_append]
  go_wp2_with fail
  go_at_call 30
  refine HC.out.mono ?_
  rintro e w' ⟨rfl, rfl⟩
  go_wp2_with fail
  go_ret
  exact ⟨rfl, rfl⟩
end Go.Proofs.YtaogegeidbclaaaGreatDoor
