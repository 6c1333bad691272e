/- What an instruction takes and leaves: 16 to 35; all. -/
import Derived.Test.YtcgfabnmkbiogaaDoorFlH
import Derived.WalkKit
import Derived.WalkSpells
import Derived.WalkLawsBesides
import Derived.LoopTactic
import Derived.Deep.QuietTactic
import Derived.BigQuiet
import Derived.Below
import Derived.Laws.ResultCell
import Derived.Laws.Tables
import Derived.Laws.Rows
import Derived.Deep.Cut
import Derived.KernelRfl
namespace Go.Proofs.YtcgfabnmkbiogaaDoor
open Go.RowKit

set_option maxRecDepth 100000 in
set_option maxHeartbeats 2000000 in
theorem effect_16 (b B : Nat) (x : Img) (c : Cod) (k s t : Value) (m : Int) (a d : Int) (w : World) (h : Ck w b x c k s t m B) :
    Calls Tryd.prog 17 #[.pointer (some ⟨b, 0, none⟩), .agg #[.int .i64 16, .int .i64 a, .int .i64 d]] w fun e w' => Fl.Ans (Fl.effect x c 16 a d) e ∧ Below w.heap.size w w' := by
  have K0 : Hid (Below w.heap.size w (w.alloc (.cells #[.int .i64 16, .int .i64 a, .int .i64 d] 25))) := Aid.hid ((Below.refl _ w).alloc (Nat.le_refl _) _)
  rw [show Fl.effect x c 16 a d = some (Fl.ii, Fl.i) by simp [Fl.effect]]
  clear h
  go_enter Tryd.func17, Tryd.ntmps17
  try simp only [List.append_eq, List.cons_append, List.nil_append]
  go_wp2_with fail
  go_ret3
  exact ⟨⟨Fl.ii, Fl.i, true, rfl, rfl⟩, K0.out⟩
set_option maxRecDepth 100000 in
set_option maxHeartbeats 2000000 in
theorem effect_17 (b B : Nat) (x : Img) (c : Cod) (k s t : Value) (m : Int) (a d : Int) (w : World) (h : Ck w b x c k s t m B) :
    Calls Tryd.prog 17 #[.pointer (some ⟨b, 0, none⟩), .agg #[.int .i64 17, .int .i64 a, .int .i64 d]] w fun e w' => Fl.Ans (Fl.effect x c 17 a d) e ∧ Below w.heap.size w w' := by
  have K0 : Hid (Below w.heap.size w (w.alloc (.cells #[.int .i64 17, .int .i64 a, .int .i64 d] 25))) := Aid.hid ((Below.refl _ w).alloc (Nat.le_refl _) _)
  rw [show Fl.effect x c 17 a d = some (Fl.i, Fl.i) by simp [Fl.effect]]
  clear h
  go_enter Tryd.func17, Tryd.ntmps17
  try simp only [List.append_eq, List.cons_append, List.nil_append]
  go_wp2_with fail
  go_ret3
  exact ⟨⟨Fl.i, Fl.i, true, rfl, rfl⟩, K0.out⟩
set_option maxRecDepth 100000 in
set_option maxHeartbeats 2000000 in
theorem effect_18 (b B : Nat) (x : Img) (c : Cod) (k s t : Value) (m : Int) (a d : Int) (w : World) (h : Ck w b x c k s t m B) :
    Calls Tryd.prog 17 #[.pointer (some ⟨b, 0, none⟩), .agg #[.int .i64 18, .int .i64 a, .int .i64 d]] w fun e w' => Fl.Ans (Fl.effect x c 18 a d) e ∧ Below w.heap.size w w' := by
  have K0 : Hid (Below w.heap.size w (w.alloc (.cells #[.int .i64 18, .int .i64 a, .int .i64 d] 25))) := Aid.hid ((Below.refl _ w).alloc (Nat.le_refl _) _)
  rw [show Fl.effect x c 18 a d = some (Fl.i, Fl.i) by simp [Fl.effect]]
  clear h
  go_enter Tryd.func17, Tryd.ntmps17
  try simp only [List.append_eq, List.cons_append, List.nil_append]
  go_wp2_with fail
  go_ret3
  exact ⟨⟨Fl.i, Fl.i, true, rfl, rfl⟩, K0.out⟩
set_option maxRecDepth 100000 in
set_option maxHeartbeats 2000000 in
theorem effect_19 (b B : Nat) (x : Img) (c : Cod) (k s t : Value) (m : Int) (a d : Int) (w : World) (h : Ck w b x c k s t m B) :
    Calls Tryd.prog 17 #[.pointer (some ⟨b, 0, none⟩), .agg #[.int .i64 19, .int .i64 a, .int .i64 d]] w fun e w' => Fl.Ans (Fl.effect x c 19 a d) e ∧ Below w.heap.size w w' := by
  have K0 : Hid (Below w.heap.size w (w.alloc (.cells #[.int .i64 19, .int .i64 a, .int .i64 d] 25))) := Aid.hid ((Below.refl _ w).alloc (Nat.le_refl _) _)
  rw [show Fl.effect x c 19 a d = some (Fl.rr, Fl.i) by simp [Fl.effect]]
  clear h
  go_enter Tryd.func17, Tryd.ntmps17
  try simp only [List.append_eq, List.cons_append, List.nil_append]
  go_wp2_with fail
  go_ret3
  exact ⟨⟨Fl.rr, Fl.i, true, rfl, rfl⟩, K0.out⟩
set_option maxRecDepth 100000 in
set_option maxHeartbeats 2000000 in
theorem effect_20 (b B : Nat) (x : Img) (c : Cod) (k s t : Value) (m : Int) (a d : Int) (w : World) (h : Ck w b x c k s t m B) :
    Calls Tryd.prog 17 #[.pointer (some ⟨b, 0, none⟩), .agg #[.int .i64 20, .int .i64 a, .int .i64 d]] w fun e w' => Fl.Ans (Fl.effect x c 20 a d) e ∧ Below w.heap.size w w' := by
  have K0 : Hid (Below w.heap.size w (w.alloc (.cells #[.int .i64 20, .int .i64 a, .int .i64 d] 25))) := Aid.hid ((Below.refl _ w).alloc (Nat.le_refl _) _)
  rw [show Fl.effect x c 20 a d = some (Fl.i, Fl.i) by simp [Fl.effect]]
  clear h
  go_enter Tryd.func17, Tryd.ntmps17
  try simp only [List.append_eq, List.cons_append, List.nil_append]
  go_wp2_with fail
  go_ret3
  exact ⟨⟨Fl.i, Fl.i, true, rfl, rfl⟩, K0.out⟩
set_option maxRecDepth 100000 in
set_option maxHeartbeats 2000000 in
theorem effect_21 (b B : Nat) (x : Img) (c : Cod) (k s t : Value) (m : Int) (a d : Int) (w : World) (h : Ck w b x c k s t m B) :
    Calls Tryd.prog 17 #[.pointer (some ⟨b, 0, none⟩), .agg #[.int .i64 21, .int .i64 a, .int .i64 d]] w fun e w' => Fl.Ans (Fl.effect x c 21 a d) e ∧ Below w.heap.size w w' := by
  have K0 : Hid (Below w.heap.size w (w.alloc (.cells #[.int .i64 21, .int .i64 a, .int .i64 d] 25))) := Aid.hid ((Below.refl _ w).alloc (Nat.le_refl _) _)
  rw [show Fl.effect x c 21 a d = some (Fl.e, Fl.e) by simp [Fl.effect]]
  clear h
  go_enter Tryd.func17, Tryd.ntmps17
  try simp only [List.append_eq, List.cons_append, List.nil_append]
  go_wp2_with fail
  go_ret3
  exact ⟨⟨Fl.e, Fl.e, true, rfl, rfl⟩, K0.out⟩
set_option maxRecDepth 100000 in
set_option maxHeartbeats 2000000 in
theorem effect_22 (b B : Nat) (x : Img) (c : Cod) (k s t : Value) (m : Int) (a d : Int) (w : World) (h : Ck w b x c k s t m B) :
    Calls Tryd.prog 17 #[.pointer (some ⟨b, 0, none⟩), .agg #[.int .i64 22, .int .i64 a, .int .i64 d]] w fun e w' => Fl.Ans (Fl.effect x c 22 a d) e ∧ Below w.heap.size w w' := by
  have K0 : Hid (Below w.heap.size w (w.alloc (.cells #[.int .i64 22, .int .i64 a, .int .i64 d] 25))) := Aid.hid ((Below.refl _ w).alloc (Nat.le_refl _) _)
  rw [show Fl.effect x c 22 a d = some (Fl.i, Fl.e) by simp [Fl.effect]]
  clear h
  go_enter Tryd.func17, Tryd.ntmps17
  try simp only [List.append_eq, List.cons_append, List.nil_append]
  go_wp2_with fail
  go_ret3
  exact ⟨⟨Fl.i, Fl.e, true, rfl, rfl⟩, K0.out⟩
set_option maxRecDepth 100000 in
set_option maxHeartbeats 2000000 in
theorem effect_23 (b B : Nat) (x : Img) (c : Cod) (k s t : Value) (m : Int) (a d : Int) (w : World) (h : Ck w b x c k s t m B) (ha : 0 ≤ a) (hm : a ≤ 10000) (hd : 0 ≤ d) (hn : d ≤ 10000) :
    Calls Tryd.prog 17 #[.pointer (some ⟨b, 0, none⟩), .agg #[.int .i64 23, .int .i64 a, .int .i64 d]] w fun e w' => Fl.Ans (Fl.effect x c 23 a d) e ∧ Below w.heap.size w w' := by
  have K0 : Hid (Below w.heap.size w (w.alloc (.cells #[.int .i64 23, .int .i64 a, .int .i64 d] 25))) := Aid.hid ((Below.refl _ w).alloc (Nat.le_refl _) _)
  have HC := Aid.hid (called_is b B x c k s t m 23 a d _ (h.below K0.out) (by omega) (by omega) ha hm hd)
  rw [show Fl.effect x c 23 a d = Fl.called x c 23 a d by simp [Fl.effect]]
  clear h
  go_enter Tryd.func17, Tryd.ntmps17
  try simp only [List.append_eq, List.cons_append, List.nil_append]
  go_wp2_with fail
  go_at_call 23
  refine HC.out.mono ?_
  rintro e w1 ⟨⟨t', l', ok, rfl, hO⟩, hb1⟩
  have KW := Aid.hid (K0.out.trans (hb1.mono K0.out.size))
  have HO := Aid.hid hO
  clear hb1 hO HC
  go_wp2_with fail
  go_ret3
  exact ⟨⟨t', l', ok, rfl, HO.out⟩, KW.out⟩
set_option maxRecDepth 100000 in
set_option maxHeartbeats 2000000 in
theorem effect_24 (b B : Nat) (x : Img) (c : Cod) (k s t : Value) (m : Int) (a d : Int) (w : World) (h : Ck w b x c k s t m B) (ha : 0 ≤ a) (hm : a ≤ 10000) (hd : 0 ≤ d) (hn : d ≤ 10000) :
    Calls Tryd.prog 17 #[.pointer (some ⟨b, 0, none⟩), .agg #[.int .i64 24, .int .i64 a, .int .i64 d]] w fun e w' => Fl.Ans (Fl.effect x c 24 a d) e ∧ Below w.heap.size w w' := by
  have K0 : Hid (Below w.heap.size w (w.alloc (.cells #[.int .i64 24, .int .i64 a, .int .i64 d] 25))) := Aid.hid ((Below.refl _ w).alloc (Nat.le_refl _) _)
  have HC := Aid.hid (called_is b B x c k s t m 24 a d _ (h.below K0.out) (by omega) (by omega) ha hm hd)
  rw [show Fl.effect x c 24 a d = Fl.called x c 24 a d by simp [Fl.effect]]
  clear h
  go_enter Tryd.func17, Tryd.ntmps17
  try simp only [List.append_eq, List.cons_append, List.nil_append]
  go_wp2_with fail
  go_at_call 23
  refine HC.out.mono ?_
  rintro e w1 ⟨⟨t', l', ok, rfl, hO⟩, hb1⟩
  have KW := Aid.hid (K0.out.trans (hb1.mono K0.out.size))
  have HO := Aid.hid hO
  clear hb1 hO HC
  go_wp2_with fail
  go_ret3
  exact ⟨⟨t', l', ok, rfl, HO.out⟩, KW.out⟩
set_option maxRecDepth 100000 in
set_option maxHeartbeats 2000000 in
theorem effect_25 (b B : Nat) (x : Img) (c : Cod) (k s t : Value) (m : Int) (a d : Int) (w : World) (h : Ck w b x c k s t m B) (ha : 0 ≤ a) (hm : a ≤ 10000) (hd : 0 ≤ d) (hn : d ≤ 10000) :
    Calls Tryd.prog 17 #[.pointer (some ⟨b, 0, none⟩), .agg #[.int .i64 25, .int .i64 a, .int .i64 d]] w fun e w' => Fl.Ans (Fl.effect x c 25 a d) e ∧ Below w.heap.size w w' := by
  have K0 : Hid (Below w.heap.size w (w.alloc (.cells #[.int .i64 25, .int .i64 a, .int .i64 d] 25))) := Aid.hid ((Below.refl _ w).alloc (Nat.le_refl _) _)
  have HC := Aid.hid (called_is b B x c k s t m 25 a d _ (h.below K0.out) (by omega) (by omega) ha hm hd)
  rw [show Fl.effect x c 25 a d = Fl.called x c 25 a d by simp [Fl.effect]]
  clear h
  go_enter Tryd.func17, Tryd.ntmps17
  try simp only [List.append_eq, List.cons_append, List.nil_append]
  go_wp2_with fail
  go_at_call 23
  refine HC.out.mono ?_
  rintro e w1 ⟨⟨t', l', ok, rfl, hO⟩, hb1⟩
  have KW := Aid.hid (K0.out.trans (hb1.mono K0.out.size))
  have HO := Aid.hid hO
  clear hb1 hO HC
  go_wp2_with fail
  go_ret3
  exact ⟨⟨t', l', ok, rfl, HO.out⟩, KW.out⟩
set_option maxRecDepth 100000 in
set_option maxHeartbeats 2000000 in
theorem effect_26 (b B : Nat) (x : Img) (c : Cod) (k s t : Value) (m : Int) (a d : Int) (w : World) (h : Ck w b x c k s t m B) (ha : 0 ≤ a) (hm : a ≤ 10000) (hd : 0 ≤ d) (hn : d ≤ 10000) :
    Calls Tryd.prog 17 #[.pointer (some ⟨b, 0, none⟩), .agg #[.int .i64 26, .int .i64 a, .int .i64 d]] w fun e w' => Fl.Ans (Fl.effect x c 26 a d) e ∧ Below w.heap.size w w' := by
  have K0 : Hid (Below w.heap.size w (w.alloc (.cells #[.int .i64 26, .int .i64 a, .int .i64 d] 25))) := Aid.hid ((Below.refl _ w).alloc (Nat.le_refl _) _)
  have HC := Aid.hid (called_is b B x c k s t m 26 a d _ (h.below K0.out) (by omega) (by omega) ha hm hd)
  rw [show Fl.effect x c 26 a d = Fl.called x c 26 a d by simp [Fl.effect]]
  clear h
  go_enter Tryd.func17, Tryd.ntmps17
  try simp only [List.append_eq, List.cons_append, List.nil_append]
  go_wp2_with fail
  go_at_call 23
  refine HC.out.mono ?_
  rintro e w1 ⟨⟨t', l', ok, rfl, hO⟩, hb1⟩
  have KW := Aid.hid (K0.out.trans (hb1.mono K0.out.size))
  have HO := Aid.hid hO
  clear hb1 hO HC
  go_wp2_with fail
  go_ret3
  exact ⟨⟨t', l', ok, rfl, HO.out⟩, KW.out⟩
set_option maxRecDepth 100000 in
set_option maxHeartbeats 2000000 in
theorem effect_27 (b B : Nat) (x : Img) (c : Cod) (k s t : Value) (m : Int) (a d : Int) (w : World) (h : Ck w b x c k s t m B) :
    Calls Tryd.prog 17 #[.pointer (some ⟨b, 0, none⟩), .agg #[.int .i64 27, .int .i64 a, .int .i64 d]] w fun e w' => Fl.Ans (Fl.effect x c 27 a d) e ∧ Below w.heap.size w w' := by
  have K0 : Hid (Below w.heap.size w (w.alloc (.cells #[.int .i64 27, .int .i64 a, .int .i64 d] 25))) := Aid.hid ((Below.refl _ w).alloc (Nat.le_refl _) _)
  have hk := h.below K0.out
  have a0 := hk.has.cell 0 _ rfl
  have a1 := hk.has.cell 1 _ rfl
  clear hk h
  by_cases h1 : a = 1
  · subst h1
    by_cases hq : d < x.faces.length
    · rw [show Fl.effect x c 27 1 d = some (Fl.r, Fl.r) by simp [Fl.effect, hq]]
      go_enter Tryd.func17, Tryd.ntmps17
      try simp only [List.append_eq, List.cons_append, List.nil_append]
      go_wp2_with fail
      go_quiet (fail)
      go_wp2_with fail
      go_ret3
      exact ⟨⟨Fl.r, Fl.r, true, rfl, rfl⟩, Fl.drewN K0.out _⟩
    · rw [show Fl.effect x c 27 1 d = none by simp [Fl.effect, hq]]
      have hq2 : (x.faces.length : Int) ≤ d := by omega
      have hq3 : decide (d < (x.faces.length : Int)) = false := decide_eq_false (by omega)
      go_enter Tryd.func17, Tryd.ntmps17
      try simp only [List.append_eq, List.cons_append, List.nil_append]
      go_wp2_with fail
      go_quiet (fail)
      go_wp2_with fail
      go_ret3
      exact ⟨⟨Fl.r, Fl.r, false, rfl, rfl⟩, Fl.drewN K0.out _⟩
  · by_cases hq : d < x.classes.length
    · rw [show Fl.effect x c 27 a d = some (Fl.r, Fl.r) by simp [Fl.effect, h1, hq]]
      go_enter Tryd.func17, Tryd.ntmps17
      try simp only [List.append_eq, List.cons_append, List.nil_append]
      go_wp2_with fail
      go_quiet (fail)
      go_wp2_with fail
      go_ret3
      exact ⟨⟨Fl.r, Fl.r, true, rfl, rfl⟩, Fl.drewN K0.out _⟩
    · rw [show Fl.effect x c 27 a d = none by simp [Fl.effect, h1, hq]]
      have hq2 : (x.classes.length : Int) ≤ d := by omega
      have hq3 : decide (d < (x.classes.length : Int)) = false := decide_eq_false (by omega)
      go_enter Tryd.func17, Tryd.ntmps17
      try simp only [List.append_eq, List.cons_append, List.nil_append]
      go_wp2_with fail
      go_quiet (fail)
      go_wp2_with fail
      go_ret3
      exact ⟨⟨Fl.r, Fl.r, false, rfl, rfl⟩, Fl.drewN K0.out _⟩
set_option maxRecDepth 100000 in
set_option maxHeartbeats 2000000 in
theorem effect_28 (b B : Nat) (x : Img) (c : Cod) (k s t : Value) (m : Int) (a d : Int) (w : World) (h : Ck w b x c k s t m B) :
    Calls Tryd.prog 17 #[.pointer (some ⟨b, 0, none⟩), .agg #[.int .i64 28, .int .i64 a, .int .i64 d]] w fun e w' => Fl.Ans (Fl.effect x c 28 a d) e ∧ Below w.heap.size w w' := by
  have K0 : Hid (Below w.heap.size w (w.alloc (.cells #[.int .i64 28, .int .i64 a, .int .i64 d] 25))) := Aid.hid ((Below.refl _ w).alloc (Nat.le_refl _) _)
  have hk := h.below K0.out
  have a0 := hk.has.cell 0 _ rfl
  have a1 := hk.has.cell 1 _ rfl
  clear hk h
  by_cases h1 : a = 1
  · subst h1
    by_cases hq : d < x.faces.length
    · rw [show Fl.effect x c 28 1 d = some (Fl.r, Fl.r) by simp [Fl.effect, hq]]
      go_enter Tryd.func17, Tryd.ntmps17
      try simp only [List.append_eq, List.cons_append, List.nil_append]
      go_wp2_with fail
      go_quiet (fail)
      go_wp2_with fail
      go_ret3
      exact ⟨⟨Fl.r, Fl.r, true, rfl, rfl⟩, Fl.drewN K0.out _⟩
    · rw [show Fl.effect x c 28 1 d = none by simp [Fl.effect, hq]]
      have hq2 : (x.faces.length : Int) ≤ d := by omega
      have hq3 : decide (d < (x.faces.length : Int)) = false := decide_eq_false (by omega)
      go_enter Tryd.func17, Tryd.ntmps17
      try simp only [List.append_eq, List.cons_append, List.nil_append]
      go_wp2_with fail
      go_quiet (fail)
      go_wp2_with fail
      go_ret3
      exact ⟨⟨Fl.r, Fl.r, false, rfl, rfl⟩, Fl.drewN K0.out _⟩
  · by_cases hq : d < x.classes.length
    · rw [show Fl.effect x c 28 a d = some (Fl.r, Fl.r) by simp [Fl.effect, h1, hq]]
      go_enter Tryd.func17, Tryd.ntmps17
      try simp only [List.append_eq, List.cons_append, List.nil_append]
      go_wp2_with fail
      go_quiet (fail)
      go_wp2_with fail
      go_ret3
      exact ⟨⟨Fl.r, Fl.r, true, rfl, rfl⟩, Fl.drewN K0.out _⟩
    · rw [show Fl.effect x c 28 a d = none by simp [Fl.effect, h1, hq]]
      have hq2 : (x.classes.length : Int) ≤ d := by omega
      have hq3 : decide (d < (x.classes.length : Int)) = false := decide_eq_false (by omega)
      go_enter Tryd.func17, Tryd.ntmps17
      try simp only [List.append_eq, List.cons_append, List.nil_append]
      go_wp2_with fail
      go_quiet (fail)
      go_wp2_with fail
      go_ret3
      exact ⟨⟨Fl.r, Fl.r, false, rfl, rfl⟩, Fl.drewN K0.out _⟩
set_option maxRecDepth 100000 in
set_option maxHeartbeats 2000000 in
theorem effect_29 (b B : Nat) (x : Img) (c : Cod) (k s t : Value) (m : Int) (a d : Int) (w : World) (h : Ck w b x c k s t m B) :
    Calls Tryd.prog 17 #[.pointer (some ⟨b, 0, none⟩), .agg #[.int .i64 29, .int .i64 a, .int .i64 d]] w fun e w' => Fl.Ans (Fl.effect x c 29 a d) e ∧ Below w.heap.size w w' := by
  have K0 : Hid (Below w.heap.size w (w.alloc (.cells #[.int .i64 29, .int .i64 a, .int .i64 d] 25))) := Aid.hid ((Below.refl _ w).alloc (Nat.le_refl _) _)
  have hk := h.below K0.out
  have a15 := hk.has.cell 15 _ rfl
  clear hk h
  cases hr : c.ret
  · rw [show Fl.effect x c 29 a d = some (Fl.e, Fl.e) by simp [Fl.effect, hr]]
    rw [hr] at a15
    go_enter Tryd.func17, Tryd.ntmps17
    try simp only [List.append_eq, List.cons_append, List.nil_append]
    go_wp2_with fail
    go_quiet (fail)
    go_wp2_with fail
    go_ret3
    exact ⟨⟨Fl.e, Fl.e, true, rfl, rfl⟩, Fl.drewN K0.out _⟩
  · rw [show Fl.effect x c 29 a d = none by simp [Fl.effect, hr]]
    rw [hr] at a15
    go_enter Tryd.func17, Tryd.ntmps17
    try simp only [List.append_eq, List.cons_append, List.nil_append]
    go_wp2_with fail
    go_quiet (fail)
    go_wp2_with fail
    go_ret3
    exact ⟨⟨Fl.e, Fl.e, false, rfl, rfl⟩, Fl.drewN K0.out _⟩
set_option maxRecDepth 100000 in
set_option maxHeartbeats 2000000 in
theorem effect_30 (b B : Nat) (x : Img) (c : Cod) (k s t : Value) (m : Int) (a d : Int) (w : World) (h : Ck w b x c k s t m B) :
    Calls Tryd.prog 17 #[.pointer (some ⟨b, 0, none⟩), .agg #[.int .i64 30, .int .i64 a, .int .i64 d]] w fun e w' => Fl.Ans (Fl.effect x c 30 a d) e ∧ Below w.heap.size w w' := by
  have K0 : Hid (Below w.heap.size w (w.alloc (.cells #[.int .i64 30, .int .i64 a, .int .i64 d] 25))) := Aid.hid ((Below.refl _ w).alloc (Nat.le_refl _) _)
  have hk := h.below K0.out
  have a15 := hk.has.cell 15 _ rfl
  clear hk h
  cases hr : c.ret
  · rw [show Fl.effect x c 30 a d = none by simp [Fl.effect, hr]]
    rw [hr] at a15
    go_enter Tryd.func17, Tryd.ntmps17
    try simp only [List.append_eq, List.cons_append, List.nil_append]
    go_wp2_with fail
    go_quiet (fail)
    go_wp2_with fail
    go_ret3
    exact ⟨⟨Fl.i, Fl.e, false, rfl, rfl⟩, Fl.drewN K0.out _⟩
  · rw [show Fl.effect x c 30 a d = some (Fl.i, Fl.e) by simp [Fl.effect, hr]]
    rw [hr] at a15
    go_enter Tryd.func17, Tryd.ntmps17
    try simp only [List.append_eq, List.cons_append, List.nil_append]
    go_wp2_with fail
    go_quiet (fail)
    go_wp2_with fail
    go_ret3
    exact ⟨⟨Fl.i, Fl.e, true, rfl, rfl⟩, Fl.drewN K0.out _⟩
set_option maxRecDepth 100000 in
set_option maxHeartbeats 2000000 in
theorem effect_31 (b B : Nat) (x : Img) (c : Cod) (k s t : Value) (m : Int) (a d : Int) (w : World) (h : Ck w b x c k s t m B) :
    Calls Tryd.prog 17 #[.pointer (some ⟨b, 0, none⟩), .agg #[.int .i64 31, .int .i64 a, .int .i64 d]] w fun e w' => Fl.Ans (Fl.effect x c 31 a d) e ∧ Below w.heap.size w w' := by
  have K0 : Hid (Below w.heap.size w (w.alloc (.cells #[.int .i64 31, .int .i64 a, .int .i64 d] 25))) := Aid.hid ((Below.refl _ w).alloc (Nat.le_refl _) _)
  have hk := h.below K0.out
  have a6 := hk.has.cell 6 _ rfl
  clear hk h
  by_cases hq : a < x.blocks.length
  · rw [show Fl.effect x c 31 a d = some (Fl.ii, Fl.e) by simp [Fl.effect, hq]]
    go_enter Tryd.func17, Tryd.ntmps17
    try simp only [List.append_eq, List.cons_append, List.nil_append]
    go_wp2_with fail
    go_quiet (fail)
    go_wp2_with fail
    go_ret3
    exact ⟨⟨Fl.ii, Fl.e, true, rfl, rfl⟩, Fl.drewN K0.out _⟩
  · rw [show Fl.effect x c 31 a d = none by simp [Fl.effect, hq]]
    have hq2 : (x.blocks.length : Int) ≤ a := by omega
    have hq3 : decide (a < (x.blocks.length : Int)) = false := decide_eq_false (by omega)
    go_enter Tryd.func17, Tryd.ntmps17
    try simp only [List.append_eq, List.cons_append, List.nil_append]
    go_wp2_with fail
    go_quiet (fail)
    go_wp2_with fail
    go_ret3
    exact ⟨⟨Fl.ii, Fl.e, false, rfl, rfl⟩, Fl.drewN K0.out _⟩
set_option maxRecDepth 100000 in
set_option maxHeartbeats 2000000 in
theorem effect_32 (b B : Nat) (x : Img) (c : Cod) (k s t : Value) (m : Int) (a d : Int) (w : World) (h : Ck w b x c k s t m B) :
    Calls Tryd.prog 17 #[.pointer (some ⟨b, 0, none⟩), .agg #[.int .i64 32, .int .i64 a, .int .i64 d]] w fun e w' => Fl.Ans (Fl.effect x c 32 a d) e ∧ Below w.heap.size w w' := by
  have K0 : Hid (Below w.heap.size w (w.alloc (.cells #[.int .i64 32, .int .i64 a, .int .i64 d] 25))) := Aid.hid ((Below.refl _ w).alloc (Nat.le_refl _) _)
  have hk := h.below K0.out
  have a6 := hk.has.cell 6 _ rfl
  clear hk h
  by_cases hq : a < x.blocks.length
  · rw [show Fl.effect x c 32 a d = some (Fl.e, Fl.i) by simp [Fl.effect, hq]]
    go_enter Tryd.func17, Tryd.ntmps17
    try simp only [List.append_eq, List.cons_append, List.nil_append]
    go_wp2_with fail
    go_quiet (fail)
    go_wp2_with fail
    go_ret3
    exact ⟨⟨Fl.e, Fl.i, true, rfl, rfl⟩, Fl.drewN K0.out _⟩
  · rw [show Fl.effect x c 32 a d = none by simp [Fl.effect, hq]]
    have hq2 : (x.blocks.length : Int) ≤ a := by omega
    have hq3 : decide (a < (x.blocks.length : Int)) = false := decide_eq_false (by omega)
    go_enter Tryd.func17, Tryd.ntmps17
    try simp only [List.append_eq, List.cons_append, List.nil_append]
    go_wp2_with fail
    go_quiet (fail)
    go_wp2_with fail
    go_ret3
    exact ⟨⟨Fl.e, Fl.i, false, rfl, rfl⟩, Fl.drewN K0.out _⟩
set_option maxRecDepth 100000 in
set_option maxHeartbeats 2000000 in
theorem effect_33 (b B : Nat) (x : Img) (c : Cod) (k s t : Value) (m : Int) (a d : Int) (w : World) (h : Ck w b x c k s t m B) :
    Calls Tryd.prog 17 #[.pointer (some ⟨b, 0, none⟩), .agg #[.int .i64 33, .int .i64 a, .int .i64 d]] w fun e w' => Fl.Ans (Fl.effect x c 33 a d) e ∧ Below w.heap.size w w' := by
  have K0 : Hid (Below w.heap.size w (w.alloc (.cells #[.int .i64 33, .int .i64 a, .int .i64 d] 25))) := Aid.hid ((Below.refl _ w).alloc (Nat.le_refl _) _)
  have hk := h.below K0.out
  have a6 := hk.has.cell 6 _ rfl
  clear hk h
  by_cases hq : a < x.blocks.length
  · rw [show Fl.effect x c 33 a d = some (Fl.e, Fl.i) by simp [Fl.effect, hq]]
    go_enter Tryd.func17, Tryd.ntmps17
    try simp only [List.append_eq, List.cons_append, List.nil_append]
    go_wp2_with fail
    go_quiet (fail)
    go_wp2_with fail
    go_ret3
    exact ⟨⟨Fl.e, Fl.i, true, rfl, rfl⟩, Fl.drewN K0.out _⟩
  · rw [show Fl.effect x c 33 a d = none by simp [Fl.effect, hq]]
    have hq2 : (x.blocks.length : Int) ≤ a := by omega
    have hq3 : decide (a < (x.blocks.length : Int)) = false := decide_eq_false (by omega)
    go_enter Tryd.func17, Tryd.ntmps17
    try simp only [List.append_eq, List.cons_append, List.nil_append]
    go_wp2_with fail
    go_quiet (fail)
    go_wp2_with fail
    go_ret3
    exact ⟨⟨Fl.e, Fl.i, false, rfl, rfl⟩, Fl.drewN K0.out _⟩
set_option maxRecDepth 100000 in
set_option maxHeartbeats 2000000 in
theorem effect_34 (b B : Nat) (x : Img) (c : Cod) (k s t : Value) (m : Int) (a d : Int) (w : World) (h : Ck w b x c k s t m B) :
    Calls Tryd.prog 17 #[.pointer (some ⟨b, 0, none⟩), .agg #[.int .i64 34, .int .i64 a, .int .i64 d]] w fun e w' => Fl.Ans (Fl.effect x c 34 a d) e ∧ Below w.heap.size w w' := by
  have K0 : Hid (Below w.heap.size w (w.alloc (.cells #[.int .i64 34, .int .i64 a, .int .i64 d] 25))) := Aid.hid ((Below.refl _ w).alloc (Nat.le_refl _) _)
  rw [show Fl.effect x c 34 a d = some (Fl.e, Fl.e) by simp [Fl.effect]]
  clear h
  go_enter Tryd.func17, Tryd.ntmps17
  try simp only [List.append_eq, List.cons_append, List.nil_append]
  go_wp2_with fail
  go_ret3
  exact ⟨⟨Fl.e, Fl.e, true, rfl, rfl⟩, K0.out⟩
set_option maxRecDepth 100000 in
set_option maxHeartbeats 2000000 in
theorem effect_35 (b B : Nat) (x : Img) (c : Cod) (k s t : Value) (m : Int) (a d : Int) (w : World) (h : Ck w b x c k s t m B) :
    Calls Tryd.prog 17 #[.pointer (some ⟨b, 0, none⟩), .agg #[.int .i64 35, .int .i64 a, .int .i64 d]] w fun e w' => Fl.Ans (Fl.effect x c 35 a d) e ∧ Below w.heap.size w w' := by
  have K0 : Hid (Below w.heap.size w (w.alloc (.cells #[.int .i64 35, .int .i64 a, .int .i64 d] 25))) := Aid.hid ((Below.refl _ w).alloc (Nat.le_refl _) _)
  rw [show Fl.effect x c 35 a d = some (Fl.e, Fl.e) by simp [Fl.effect]]
  clear h
  go_enter Tryd.func17, Tryd.ntmps17
  try simp only [List.append_eq, List.cons_append, List.nil_append]
  go_wp2_with fail
  go_ret3
  exact ⟨⟨Fl.e, Fl.e, true, rfl, rfl⟩, K0.out⟩
theorem effect_is (b B : Nat) (x : Img) (c : Cod) (k s t : Value) (m : Int) (q a d : Int) (w : World) (h : Ck w b x c k s t m B) (hm : Op.may q a d = true) :
    Calls Tryd.prog 17 #[.pointer (some ⟨b, 0, none⟩), .agg #[.int .i64 q, .int .i64 a, .int .i64 d]] w fun e w' => Fl.Ans (Fl.effect x c q a d) e ∧ Below w.heap.size w w' := by
  have hq : 1 ≤ q ∧ q ≤ 35 := by
    by_cases h1 : 1 ≤ q ∧ q ≤ 35
    · exact h1
    · have : Op.operands q = -1 := by unfold Op.operands; rw [if_neg (by omega), if_neg (by omega), if_neg h1]
      unfold Op.may at hm
      rw [if_pos (Or.inl (by rw [this]; decide))] at hm
      cases hm
  obtain rfl | rfl | rfl | rfl | rfl | rfl | rfl | rfl | rfl | rfl | rfl | rfl | rfl | rfl | rfl | rfl | rfl | rfl | rfl | rfl | rfl | rfl | rfl | rfl | rfl | rfl | rfl | rfl | rfl | rfl | rfl | rfl | rfl | rfl | rfl : q = 1 ∨ q = 2 ∨ q = 3 ∨ q = 4 ∨ q = 5 ∨ q = 6 ∨ q = 7 ∨ q = 8 ∨ q = 9 ∨ q = 10 ∨ q = 11 ∨ q = 12 ∨ q = 13 ∨ q = 14 ∨ q = 15 ∨ q = 16 ∨ q = 17 ∨ q = 18 ∨ q = 19 ∨ q = 20 ∨ q = 21 ∨ q = 22 ∨ q = 23 ∨ q = 24 ∨ q = 25 ∨ q = 26 ∨ q = 27 ∨ q = 28 ∨ q = 29 ∨ q = 30 ∨ q = 31 ∨ q = 32 ∨ q = 33 ∨ q = 34 ∨ q = 35 := by omega
  · exact effect_1 b B x c k s t m a d w h
  · exact effect_2 b B x c k s t m a d w h
  · exact effect_3 b B x c k s t m a d w h
  · have hw : 0 ≤ a ∧ a ≤ 10000 ∧ 0 ≤ d ∧ d ≤ 10000 := by simp [Op.may, Op.operands, Op.win] at hm; omega
    exact effect_4 b B x c k s t m a d w h hw.1 hw.2.1 hw.2.2.1 hw.2.2.2
  · have hw : 0 ≤ a ∧ a ≤ 10000 ∧ 0 ≤ d ∧ d ≤ 10000 := by simp [Op.may, Op.operands, Op.win] at hm; omega
    exact effect_5 b B x c k s t m a d w h hw.1 hw.2.1 hw.2.2.1 hw.2.2.2
  · have hw : 0 ≤ a ∧ a ≤ 10000 ∧ 0 ≤ d ∧ d ≤ 10000 := by simp [Op.may, Op.operands, Op.win] at hm; omega
    exact effect_6 b B x c k s t m a d w h hw.1 hw.2.1 hw.2.2.1 hw.2.2.2
  · have hw : 0 ≤ a ∧ a ≤ 10000 ∧ 0 ≤ d ∧ d ≤ 10000 := by simp [Op.may, Op.operands, Op.win] at hm; omega
    exact effect_7 b B x c k s t m a d w h hw.1 hw.2.1 hw.2.2.1 hw.2.2.2
  · have hw : 0 ≤ a ∧ a ≤ 10000 ∧ 0 ≤ d ∧ d ≤ 10000 := by simp [Op.may, Op.operands, Op.win] at hm; omega
    exact effect_8 b B x c k s t m a d w h hw.1 hw.2.1 hw.2.2.1 hw.2.2.2
  · have hw : 0 ≤ a ∧ a ≤ 10000 ∧ 0 ≤ d ∧ d ≤ 10000 := by simp [Op.may, Op.operands, Op.win] at hm; omega
    exact effect_9 b B x c k s t m a d w h hw.1 hw.2.1 hw.2.2.1 hw.2.2.2
  · have hw : 0 ≤ a ∧ a ≤ 10000 ∧ 0 ≤ d ∧ d ≤ 10000 := by simp [Op.may, Op.operands, Op.win] at hm; omega
    exact effect_10 b B x c k s t m a d w h hw.1 hw.2.1 hw.2.2.1 hw.2.2.2
  · have hw : 0 ≤ a ∧ a ≤ 10000 ∧ 0 ≤ d ∧ d ≤ 10000 := by simp [Op.may, Op.operands, Op.win] at hm; omega
    exact effect_11 b B x c k s t m a d w h hw.1 hw.2.1 hw.2.2.1 hw.2.2.2
  · have hw : 0 ≤ a ∧ a ≤ 10000 ∧ 0 ≤ d ∧ d ≤ 10000 := by simp [Op.may, Op.operands, Op.win] at hm; omega
    exact effect_12 b B x c k s t m a d w h hw.1 hw.2.1 hw.2.2.1 hw.2.2.2
  · have hw : 0 ≤ a ∧ a ≤ 10000 ∧ 0 ≤ d ∧ d ≤ 10000 := by simp [Op.may, Op.operands, Op.win] at hm; omega
    exact effect_13 b B x c k s t m a d w h hw.1 hw.2.1 hw.2.2.1 hw.2.2.2
  · have hw : 0 ≤ a ∧ a ≤ 10000 ∧ 0 ≤ d ∧ d ≤ 10000 := by simp [Op.may, Op.operands, Op.win] at hm; omega
    exact effect_14 b B x c k s t m a d w h hw.1 hw.2.1 hw.2.2.1 hw.2.2.2
  · have hw : 0 ≤ a ∧ a ≤ 10000 ∧ 0 ≤ d ∧ d ≤ 10000 := by simp [Op.may, Op.operands, Op.win] at hm; omega
    exact effect_15 b B x c k s t m a d w h hw.1 hw.2.1 hw.2.2.1 hw.2.2.2
  · exact effect_16 b B x c k s t m a d w h
  · exact effect_17 b B x c k s t m a d w h
  · exact effect_18 b B x c k s t m a d w h
  · exact effect_19 b B x c k s t m a d w h
  · exact effect_20 b B x c k s t m a d w h
  · exact effect_21 b B x c k s t m a d w h
  · exact effect_22 b B x c k s t m a d w h
  · have hw : 0 ≤ a ∧ a ≤ 10000 ∧ 0 ≤ d ∧ d ≤ 10000 := by simp [Op.may, Op.operands, Op.win] at hm; omega
    exact effect_23 b B x c k s t m a d w h hw.1 hw.2.1 hw.2.2.1 hw.2.2.2
  · have hw : 0 ≤ a ∧ a ≤ 10000 ∧ 0 ≤ d ∧ d ≤ 10000 := by simp [Op.may, Op.operands, Op.win] at hm; omega
    exact effect_24 b B x c k s t m a d w h hw.1 hw.2.1 hw.2.2.1 hw.2.2.2
  · have hw : 0 ≤ a ∧ a ≤ 10000 ∧ 0 ≤ d ∧ d ≤ 10000 := by simp [Op.may, Op.operands, Op.win] at hm; omega
    exact effect_25 b B x c k s t m a d w h hw.1 hw.2.1 hw.2.2.1 hw.2.2.2
  · have hw : 0 ≤ a ∧ a ≤ 10000 ∧ 0 ≤ d ∧ d ≤ 10000 := by simp [Op.may, Op.operands, Op.win] at hm; omega
    exact effect_26 b B x c k s t m a d w h hw.1 hw.2.1 hw.2.2.1 hw.2.2.2
  · exact effect_27 b B x c k s t m a d w h
  · exact effect_28 b B x c k s t m a d w h
  · exact effect_29 b B x c k s t m a d w h
  · exact effect_30 b B x c k s t m a d w h
  · exact effect_31 b B x c k s t m a d w h
  · exact effect_32 b B x c k s t m a d w h
  · exact effect_33 b B x c k s t m a d w h
  · exact effect_34 b B x c k s t m a d w h
  · exact effect_35 b B x c k s t m a d w h
end Go.Proofs.YtcgfabnmkbiogaaDoor
