/- errors.As, first, Find, errors.Unwrap, as walks. -/
import Derived.Test.YtblkcgbifecemaaDoorErrAs
namespace Go.Proofs.YtblkcgbifecemaaDoor
open Go.RowKit Go.Extern.Stop Go.Stop Go.Extern

/-- The library's errorType is what its initialiser lays. -/
def Door (w : World) : Prop := w.cell? ⟨0, 0, none⟩ = some (.iface 69 (.agg #[.pointer (some ⟨4, 23, none⟩)]))
theorem Door.lt {w : World} (h : Door w) : 0 < w.heap.size := by
  rcases Nat.lt_or_ge 0 w.heap.size with h1 | h1
  · exact h1
  · exfalso
    have h0 : w.heap[0]? = none := Array.getElem?_eq_none h1
    unfold Door at h
    simp [World.cell?, h0] at h
theorem Door.below {w w' : World} (h : Door w) (hb : Below w.heap.size w w') : Door w' := (hb.cell (p := ⟨0, 0, none⟩) h.lt).trans h

set_option maxRecDepth 100000 in
set_option maxHeartbeats 4000000 in
theorem as_er (E : Er) (tb : Nat) (W : World) (hg : Door W) (hE : E.At W) (hT : Aid.Has W tb [.pointer none] 46) :
    Calls Tryd.prog 27 #[E.v, .iface 77 (.pointer (some ⟨tb, 0, none⟩))] W fun e w' => As.Left E tb e w' ∧ Below tb W w' := by
  by_cases hn : E = .nil
  · subst hn
    have HT := Aid.hid hT
    clear hg hE hT
    dsimp only [Er.v]
    go_enter Tryd.func27, Tryd.ntmps27
    go_wp2_with fail
    go_ret
    exact ⟨⟨rfl, HT.out⟩, Below.refl _ _⟩
  · have h31 := @run_callFunc_extern Tryd.prog 31 _ (ReflectliteValue.method (ReflectliteValue.valueError "reflectlite.Value.IsNil" 0) ReflectliteValue.isNil) Tryd.func31 (by kernel_rfl) (by kernel_rfl) (by kernel_rfl) (by kernel_rfl)
    have f1 := As.valueOfP
    have f2 := As.typeP
    have f3 := As.mKind
    have f4 := As.kindP
    have f5 := As.kindE
    have f6 := As.mElem
    have f7 := As.elemP
    have f8 := As.mImplements
    have f9 := As.implementsE
    obtain ⟨W2, hW2⟩ : ∃ W2, (W.alloc (.cells #[.pointer (some ⟨tb, 0, none⟩)] 77)).alloc (.cells #[.pointer (some ⟨4, 77, none⟩), .pointer (some ⟨W.heap.size, 0, none⟩), .int .u64 150] 82) = W2 := ⟨_, rfl⟩
    have b2 : Below W.heap.size W W2 := hW2 ▸ ((Below.refl _ _).alloc (Nat.le_refl _) _).alloc (by simp) _
    have v2 : Aid.Has W2 W.heap.size [.pointer (some ⟨tb, 0, none⟩)] 77 := hW2 ▸ (Aid.Has.new W [.pointer (some ⟨tb, 0, none⟩)] 77).alloc _
    have hc := asLoop E tb W.heap.size W2 hn (hE.below b2) (hT.below b2 hT.lt) v2
    have n8 := As.isNilP ⟨W.heap.size, 0, none⟩ ⟨tb, 0, none⟩ W2 (v2.cell 0 _ rfl)
    have g2 : W2.cell? ⟨0, 0, none⟩ = some (.iface 69 (.agg #[.pointer (some ⟨4, 23, none⟩)])) := hg.below b2
    rw [← hW2] at n8 g2
    have HC : Hid (Calls Tryd.prog 32 #[E.v, .iface 77 (.pointer (some ⟨tb, 0, none⟩)), .agg #[.pointer (some ⟨4, 77, none⟩), .pointer (some ⟨W.heap.size, 0, none⟩), .int .u64 150], .iface 69 (.agg #[.pointer (some ⟨4, 46, none⟩)])] W2
      fun e w' => As.Left E tb e w' ∧ Below tb W2 w') := Aid.hid hc
    have BT : Hid (Below tb W W2) := Aid.hid (b2.mono (by have := hT.lt; omega))
    have H2 := Aid.hid hW2
    clear hc b2 v2 hE hT hg hW2
    obtain ⟨t, x, hv⟩ := Er.iface_of hn
    rw [hv] at HC ⊢
    clear hn hv
    go_enter Tryd.func27, Tryd.ntmps27
    try simp only [List.append_eq, List.cons_append, List.nil_append]
    go_wp2_with fail
    rw [H2.out]
    refine HC.out.mono ?_; rintro e w' ⟨hl, hb⟩
    have BF := Aid.hid (BT.out.trans hb)
    clear n8 g2 hb
    cases hf : E.first with
    | none =>
      unfold As.Left at hl
      rw [hf] at hl
      obtain ⟨rfl, hh⟩ := hl
      have HH := Aid.hid hh
      have HF := Aid.hid hf
      clear hh hf
      dsimp only
      go_wp2_with fail
      go_ret
      refine ⟨?_, BF.out⟩
      unfold As.Left
      rw [HF.out]
      exact ⟨rfl, HH.out⟩
    | some q =>
      obtain ⟨b, k, a, s⟩ := q
      unfold As.Left at hl
      rw [hf] at hl
      obtain ⟨rfl, hh⟩ := hl
      have HH := Aid.hid hh
      have HF := Aid.hid hf
      clear hh hf
      dsimp only
      go_wp2_with fail
      go_ret
      refine ⟨?_, BF.out⟩
      unfold As.Left
      rw [HF.out]
      exact ⟨rfl, HH.out⟩
set_option maxRecDepth 100000 in
set_option maxHeartbeats 4000000 in
theorem first_none (E : Er) (w : World) (hf : E.first = none) (hg : Door w) (hE : E.At w) :
    Calls Tryd.prog 25 #[E.v] w fun e w' => e = .returned (.tuple #[.pointer none, .bool false]) ∧ Below w.heap.size w w' := by
  have b1 : Below w.heap.size w (w.alloc (.cells #[.pointer none] 46)) := (Below.refl _ _).alloc (Nat.le_refl _) _
  have hc := as_er E w.heap.size _ (hg.below b1) (hE.below b1) (Aid.Has.new w [.pointer none] 46)
  have B1 := Aid.hid b1
  have HF := Aid.hid hf
  clear b1 hf hg hE
  go_enter Tryd.func25, Tryd.ntmps25
  try simp only [List.append_eq, List.cons_append, List.nil_append]
  go_wp2_with fail
  refine hc.mono ?_; rintro e w' ⟨hl, hb⟩
  unfold As.Left at hl
  rw [HF.out] at hl
  obtain ⟨rfl, hh⟩ := hl
  have BF := Aid.hid (B1.out.trans hb)
  have q := hh.cell 0 _ rfl
  clear hc hh hb
  dsimp only
  go_wp2_with fail
  go_quiet (fail)
  go_wp2_with fail
  go_ret2
  exact ⟨rfl, below_drewN BF.out _⟩
set_option maxRecDepth 100000 in
set_option maxHeartbeats 4000000 in
theorem first_some (E : Er) (b : Nat) (k a : Int) (s : Er) (w : World) (hf : E.first = some (b, k, a, s)) (hg : Door w) (hE : E.At w) :
    Calls Tryd.prog 25 #[E.v] w fun e w' => e = .returned (.tuple #[.pointer (some ⟨b, 0, none⟩), .bool true]) ∧ Below w.heap.size w w' := by
  have b1 : Below w.heap.size w (w.alloc (.cells #[.pointer none] 46)) := (Below.refl _ _).alloc (Nat.le_refl _) _
  have hc := as_er E w.heap.size _ (hg.below b1) (hE.below b1) (Aid.Has.new w [.pointer none] 46)
  have B1 := Aid.hid b1
  have HF := Aid.hid hf
  clear b1 hf hg hE
  go_enter Tryd.func25, Tryd.ntmps25
  try simp only [List.append_eq, List.cons_append, List.nil_append]
  go_wp2_with fail
  refine hc.mono ?_; rintro e w' ⟨hl, hb⟩
  unfold As.Left at hl
  rw [HF.out] at hl
  obtain ⟨rfl, hh⟩ := hl
  have BF := Aid.hid (B1.out.trans hb)
  have q := hh.cell 0 _ rfl
  clear hc hh hb
  dsimp only
  go_wp2_with fail
  go_quiet (fail)
  go_wp2_with fail
  go_ret2
  exact ⟨rfl, below_drewN BF.out _⟩
theorem Er.first_at {E : Er} {w : World} {b : Nat} {k a : Int} {s : Er} (hE : E.At w) (hf : E.first = some (b, k, a, s)) : (Er.own b k a s).At w := by
  induction E with
  | nil => cases hf
  | own b' c' a' s' ih =>
    unfold Er.first at hf
    simp only [Option.some.injEq, Prod.mk.injEq] at hf
    obtain ⟨rfl, rfl, rfl, rfl⟩ := hf
    exact hE
  | other s' ih => exact ih hE hf
  | es b' s' => cases hf
set_option maxHeartbeats 1000000 in
theorem find_none (E : Er) (w : World) (hf : E.first = none) (hg : Door w) (hE : E.At w) :
    Calls Tryd.prog 13 #[E.v] w fun e w' => e = .returned (.tuple #[.int .i64 0, .int .i64 0, .bool false]) ∧ Below w.heap.size w w' := by
  have hc := first_none E w hf hg hE
  clear hf hg hE
  go_enter Tryd.func13, Tryd.ntmps13
  try simp only [List.append_eq, List.cons_append, List.nil_append]
  go_wp2_with fail
  refine hc.mono ?_; rintro e w' ⟨rfl, hb⟩
  go_wp2_with fail
  go_ret3
  exact ⟨rfl, hb⟩
set_option maxHeartbeats 1000000 in
theorem find_some (E : Er) (b : Nat) (k a : Int) (s : Er) (w : World) (hf : E.first = some (b, k, a, s)) (hg : Door w) (hE : E.At w) :
    Calls Tryd.prog 13 #[E.v] w fun e w' => e = .returned (.tuple #[.int .i64 k, .int .i64 a, .bool true]) ∧ Below w.heap.size w w' := by
  have hc := first_some E b k a s w hf hg hE
  have HA := Aid.hid (Er.first_at hE hf).1
  clear hf hg hE
  go_enter Tryd.func13, Tryd.ntmps13
  try simp only [List.append_eq, List.cons_append, List.nil_append]
  go_wp2_with fail
  refine hc.mono ?_; rintro e w' ⟨rfl, hb⟩
  have h2 := HA.out.below hb HA.out.lt
  have q0 := h2.cell 0 _ rfl
  have q1 := h2.cell 1 _ rfl
  have hlt := h2.lt
  clear h2 hc
  dsimp only
  go_wp2_with fail
  go_quiet (fail)
  go_wp2_with fail
  go_ret3
  exact ⟨rfl, below_drewN hb _⟩
set_option maxHeartbeats 1000000 in
theorem unwrap_er (b : Nat) (k a : Int) (s : Er) (w : World) (hE : (Er.own b k a s).At w) :
    Calls Tryd.prog 18 #[.iface 46 (.pointer (some ⟨b, 0, none⟩))] w fun e w' => e = .returned s.v ∧ w = w' := by
  have g2 := Er.hasUnwrapE
  have g9 := Er.mUnwrapE
  go_enter Tryd.func18, Tryd.ntmps18
  go_wp2_with fail
  refine (unwrap_own b k a s w hE).mono ?_; rintro e w' ⟨rfl, rfl⟩
  go_wp2_with fail
  go_ret
  exact ⟨rfl, rfl⟩
end Go.Proofs.YtblkcgbifecemaaDoor
