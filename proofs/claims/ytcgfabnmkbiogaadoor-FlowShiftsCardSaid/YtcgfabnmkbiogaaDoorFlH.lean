/- What an instruction takes and leaves: 1 to 15. -/
import Derived.Test.YtcgfabnmkbiogaaDoorFlG
import Derived.WalkKit
import Derived.WalkSpells
import Derived.WalkLawsBesides
import Derived.LoopTactic
import Derived.Deep.QuietTactic
import Derived.BigQuiet
import Derived.Below
import Derived.Laws.ResultCell
import Derived.Laws.Tables
import Derived.Laws.Rows
import Derived.Deep.Cut
import Derived.KernelRfl
namespace Go.Proofs.YtcgfabnmkbiogaaDoor
open Go.RowKit

set_option maxRecDepth 100000 in
set_option maxHeartbeats 2000000 in
theorem effect_1 (b B : Nat) (x : Img) (c : Cod) (k s t : Value) (m : Int) (a d : Int) (w : World) (h : Ck w b x c k s t m B) :
    Calls Tryd.prog 17 #[.pointer (some ⟨b, 0, none⟩), .agg #[.int .i64 1, .int .i64 a, .int .i64 d]] w fun e w' => Fl.Ans (Fl.effect x c 1 a d) e ∧ Below w.heap.size w w' := by
  have K0 : Hid (Below w.heap.size w (w.alloc (.cells #[.int .i64 1, .int .i64 a, .int .i64 d] 25))) := Aid.hid ((Below.refl _ w).alloc (Nat.le_refl _) _)
  rw [show Fl.effect x c 1 a d = some (Fl.e, Fl.i) by simp [Fl.effect]]
  clear h
  go_enter Tryd.func17, Tryd.ntmps17
  try simp only [List.append_eq, List.cons_append, List.nil_append]
  go_wp2_with fail
  go_ret3
  exact ⟨⟨Fl.e, Fl.i, true, rfl, rfl⟩, K0.out⟩
set_option maxRecDepth 100000 in
set_option maxHeartbeats 2000000 in
theorem effect_2 (b B : Nat) (x : Img) (c : Cod) (k s t : Value) (m : Int) (a d : Int) (w : World) (h : Ck w b x c k s t m B) :
    Calls Tryd.prog 17 #[.pointer (some ⟨b, 0, none⟩), .agg #[.int .i64 2, .int .i64 a, .int .i64 d]] w fun e w' => Fl.Ans (Fl.effect x c 2 a d) e ∧ Below w.heap.size w w' := by
  have K0 : Hid (Below w.heap.size w (w.alloc (.cells #[.int .i64 2, .int .i64 a, .int .i64 d] 25))) := Aid.hid ((Below.refl _ w).alloc (Nat.le_refl _) _)
  rw [show Fl.effect x c 2 a d = some (Fl.e, Fl.r) by simp [Fl.effect]]
  clear h
  go_enter Tryd.func17, Tryd.ntmps17
  try simp only [List.append_eq, List.cons_append, List.nil_append]
  go_wp2_with fail
  go_ret3
  exact ⟨⟨Fl.e, Fl.r, true, rfl, rfl⟩, K0.out⟩
set_option maxRecDepth 100000 in
set_option maxHeartbeats 2000000 in
theorem effect_3 (b B : Nat) (x : Img) (c : Cod) (k s t : Value) (m : Int) (a d : Int) (w : World) (h : Ck w b x c k s t m B) :
    Calls Tryd.prog 17 #[.pointer (some ⟨b, 0, none⟩), .agg #[.int .i64 3, .int .i64 a, .int .i64 d]] w fun e w' => Fl.Ans (Fl.effect x c 3 a d) e ∧ Below w.heap.size w w' := by
  have K0 : Hid (Below w.heap.size w (w.alloc (.cells #[.int .i64 3, .int .i64 a, .int .i64 d] 25))) := Aid.hid ((Below.refl _ w).alloc (Nat.le_refl _) _)
  have hk := h.below K0.out
  have a3 := hk.has.cell 3 _ rfl
  clear hk h
  by_cases h1 : 1 ≤ a
  · by_cases hq : a ≤ x.insts.length
    · rw [show Fl.effect x c 3 a d = some (Fl.e, Fl.r) by simp [Fl.effect, h1, hq]]
      go_enter Tryd.func17, Tryd.ntmps17
      try simp only [List.append_eq, List.cons_append, List.nil_append]
      go_wp2_with fail
      go_quiet (fail)
      go_wp2_with fail
      go_ret3
      exact ⟨⟨Fl.e, Fl.r, true, rfl, rfl⟩, Fl.drewN K0.out _⟩
    · rw [show Fl.effect x c 3 a d = none by simp [Fl.effect, h1, hq]]
      have hq2 : (x.insts.length : Int) < a := by omega
      have hq3 : decide (a ≤ (x.insts.length : Int)) = false := decide_eq_false hq
      go_enter Tryd.func17, Tryd.ntmps17
      try simp only [List.append_eq, List.cons_append, List.nil_append]
      go_wp2_with fail
      go_quiet (fail)
      go_wp2_with fail
      go_ret3
      exact ⟨⟨Fl.e, Fl.r, false, rfl, rfl⟩, Fl.drewN K0.out _⟩
  · rw [show Fl.effect x c 3 a d = none by simp [Fl.effect, h1]]
    have h2 : a < 1 := by omega
    have h3 : decide (1 ≤ a) = false := decide_eq_false h1
    have h4 : a ≤ 0 := by omega
    have h5 : ¬ 0 < a := by omega
    go_enter Tryd.func17, Tryd.ntmps17
    try simp only [List.append_eq, List.cons_append, List.nil_append]
    go_wp2_with fail
    go_quiet (fail)
    go_wp2_with fail
    go_ret3
    exact ⟨⟨Fl.e, Fl.r, false, rfl, rfl⟩, Fl.drewN K0.out _⟩
set_option maxRecDepth 100000 in
set_option maxHeartbeats 2000000 in
theorem effect_4 (b B : Nat) (x : Img) (c : Cod) (k s t : Value) (m : Int) (a d : Int) (w : World) (h : Ck w b x c k s t m B) (ha : 0 ≤ a) (hm : a ≤ 10000) (hd : 0 ≤ d) (hn : d ≤ 10000) :
    Calls Tryd.prog 17 #[.pointer (some ⟨b, 0, none⟩), .agg #[.int .i64 4, .int .i64 a, .int .i64 d]] w fun e w' => Fl.Ans (Fl.effect x c 4 a d) e ∧ Below w.heap.size w w' := by
  have K0 : Hid (Below w.heap.size w (w.alloc (.cells #[.int .i64 4, .int .i64 a, .int .i64 d] 25))) := Aid.hid ((Below.refl _ w).alloc (Nat.le_refl _) _)
  have HC := Aid.hid (moved_is b B x c k s t m 4 a d _ (h.below K0.out) (by omega) (by omega) ha hm)
  rw [show Fl.effect x c 4 a d = Fl.moved x c 4 a by simp [Fl.effect]]
  clear h
  go_enter Tryd.func17, Tryd.ntmps17
  try simp only [List.append_eq, List.cons_append, List.nil_append]
  go_wp2_with fail
  go_at_call 21
  refine HC.out.mono ?_
  rintro e w1 ⟨⟨t', l', ok, rfl, hO⟩, hb1⟩
  have KW := Aid.hid (K0.out.trans (hb1.mono K0.out.size))
  have HO := Aid.hid hO
  clear hb1 hO HC
  go_wp2_with fail
  go_ret3
  exact ⟨⟨t', l', ok, rfl, HO.out⟩, KW.out⟩
set_option maxRecDepth 100000 in
set_option maxHeartbeats 2000000 in
theorem effect_5 (b B : Nat) (x : Img) (c : Cod) (k s t : Value) (m : Int) (a d : Int) (w : World) (h : Ck w b x c k s t m B) (ha : 0 ≤ a) (hm : a ≤ 10000) (hd : 0 ≤ d) (hn : d ≤ 10000) :
    Calls Tryd.prog 17 #[.pointer (some ⟨b, 0, none⟩), .agg #[.int .i64 5, .int .i64 a, .int .i64 d]] w fun e w' => Fl.Ans (Fl.effect x c 5 a d) e ∧ Below w.heap.size w w' := by
  have K0 : Hid (Below w.heap.size w (w.alloc (.cells #[.int .i64 5, .int .i64 a, .int .i64 d] 25))) := Aid.hid ((Below.refl _ w).alloc (Nat.le_refl _) _)
  have HC := Aid.hid (moved_is b B x c k s t m 5 a d _ (h.below K0.out) (by omega) (by omega) ha hm)
  rw [show Fl.effect x c 5 a d = Fl.moved x c 5 a by simp [Fl.effect]]
  clear h
  go_enter Tryd.func17, Tryd.ntmps17
  try simp only [List.append_eq, List.cons_append, List.nil_append]
  go_wp2_with fail
  go_at_call 21
  refine HC.out.mono ?_
  rintro e w1 ⟨⟨t', l', ok, rfl, hO⟩, hb1⟩
  have KW := Aid.hid (K0.out.trans (hb1.mono K0.out.size))
  have HO := Aid.hid hO
  clear hb1 hO HC
  go_wp2_with fail
  go_ret3
  exact ⟨⟨t', l', ok, rfl, HO.out⟩, KW.out⟩
set_option maxRecDepth 100000 in
set_option maxHeartbeats 2000000 in
theorem effect_6 (b B : Nat) (x : Img) (c : Cod) (k s t : Value) (m : Int) (a d : Int) (w : World) (h : Ck w b x c k s t m B) (ha : 0 ≤ a) (hm : a ≤ 10000) (hd : 0 ≤ d) (hn : d ≤ 10000) :
    Calls Tryd.prog 17 #[.pointer (some ⟨b, 0, none⟩), .agg #[.int .i64 6, .int .i64 a, .int .i64 d]] w fun e w' => Fl.Ans (Fl.effect x c 6 a d) e ∧ Below w.heap.size w w' := by
  have K0 : Hid (Below w.heap.size w (w.alloc (.cells #[.int .i64 6, .int .i64 a, .int .i64 d] 25))) := Aid.hid ((Below.refl _ w).alloc (Nat.le_refl _) _)
  have HC := Aid.hid (moved_is b B x c k s t m 6 a d _ (h.below K0.out) (by omega) (by omega) ha hm)
  rw [show Fl.effect x c 6 a d = Fl.moved x c 6 a by simp [Fl.effect]]
  clear h
  go_enter Tryd.func17, Tryd.ntmps17
  try simp only [List.append_eq, List.cons_append, List.nil_append]
  go_wp2_with fail
  go_at_call 21
  refine HC.out.mono ?_
  rintro e w1 ⟨⟨t', l', ok, rfl, hO⟩, hb1⟩
  have KW := Aid.hid (K0.out.trans (hb1.mono K0.out.size))
  have HO := Aid.hid hO
  clear hb1 hO HC
  go_wp2_with fail
  go_ret3
  exact ⟨⟨t', l', ok, rfl, HO.out⟩, KW.out⟩
set_option maxRecDepth 100000 in
set_option maxHeartbeats 2000000 in
theorem effect_7 (b B : Nat) (x : Img) (c : Cod) (k s t : Value) (m : Int) (a d : Int) (w : World) (h : Ck w b x c k s t m B) (ha : 0 ≤ a) (hm : a ≤ 10000) (hd : 0 ≤ d) (hn : d ≤ 10000) :
    Calls Tryd.prog 17 #[.pointer (some ⟨b, 0, none⟩), .agg #[.int .i64 7, .int .i64 a, .int .i64 d]] w fun e w' => Fl.Ans (Fl.effect x c 7 a d) e ∧ Below w.heap.size w w' := by
  have K0 : Hid (Below w.heap.size w (w.alloc (.cells #[.int .i64 7, .int .i64 a, .int .i64 d] 25))) := Aid.hid ((Below.refl _ w).alloc (Nat.le_refl _) _)
  have HC := Aid.hid (moved_is b B x c k s t m 7 a d _ (h.below K0.out) (by omega) (by omega) ha hm)
  rw [show Fl.effect x c 7 a d = Fl.moved x c 7 a by simp [Fl.effect]]
  clear h
  go_enter Tryd.func17, Tryd.ntmps17
  try simp only [List.append_eq, List.cons_append, List.nil_append]
  go_wp2_with fail
  go_at_call 21
  refine HC.out.mono ?_
  rintro e w1 ⟨⟨t', l', ok, rfl, hO⟩, hb1⟩
  have KW := Aid.hid (K0.out.trans (hb1.mono K0.out.size))
  have HO := Aid.hid hO
  clear hb1 hO HC
  go_wp2_with fail
  go_ret3
  exact ⟨⟨t', l', ok, rfl, HO.out⟩, KW.out⟩
set_option maxRecDepth 100000 in
set_option maxHeartbeats 2000000 in
theorem effect_8 (b B : Nat) (x : Img) (c : Cod) (k s t : Value) (m : Int) (a d : Int) (w : World) (h : Ck w b x c k s t m B) (ha : 0 ≤ a) (hm : a ≤ 10000) (hd : 0 ≤ d) (hn : d ≤ 10000) :
    Calls Tryd.prog 17 #[.pointer (some ⟨b, 0, none⟩), .agg #[.int .i64 8, .int .i64 a, .int .i64 d]] w fun e w' => Fl.Ans (Fl.effect x c 8 a d) e ∧ Below w.heap.size w w' := by
  have K0 : Hid (Below w.heap.size w (w.alloc (.cells #[.int .i64 8, .int .i64 a, .int .i64 d] 25))) := Aid.hid ((Below.refl _ w).alloc (Nat.le_refl _) _)
  have HC := Aid.hid (moved_is b B x c k s t m 8 a d _ (h.below K0.out) (by omega) (by omega) ha hm)
  rw [show Fl.effect x c 8 a d = Fl.moved x c 8 a by simp [Fl.effect]]
  clear h
  go_enter Tryd.func17, Tryd.ntmps17
  try simp only [List.append_eq, List.cons_append, List.nil_append]
  go_wp2_with fail
  go_at_call 21
  refine HC.out.mono ?_
  rintro e w1 ⟨⟨t', l', ok, rfl, hO⟩, hb1⟩
  have KW := Aid.hid (K0.out.trans (hb1.mono K0.out.size))
  have HO := Aid.hid hO
  clear hb1 hO HC
  go_wp2_with fail
  go_ret3
  exact ⟨⟨t', l', ok, rfl, HO.out⟩, KW.out⟩
set_option maxRecDepth 100000 in
set_option maxHeartbeats 2000000 in
theorem effect_9 (b B : Nat) (x : Img) (c : Cod) (k s t : Value) (m : Int) (a d : Int) (w : World) (h : Ck w b x c k s t m B) (ha : 0 ≤ a) (hm : a ≤ 10000) (hd : 0 ≤ d) (hn : d ≤ 10000) :
    Calls Tryd.prog 17 #[.pointer (some ⟨b, 0, none⟩), .agg #[.int .i64 9, .int .i64 a, .int .i64 d]] w fun e w' => Fl.Ans (Fl.effect x c 9 a d) e ∧ Below w.heap.size w w' := by
  have K0 : Hid (Below w.heap.size w (w.alloc (.cells #[.int .i64 9, .int .i64 a, .int .i64 d] 25))) := Aid.hid ((Below.refl _ w).alloc (Nat.le_refl _) _)
  have HC := Aid.hid (moved_is b B x c k s t m 9 a d _ (h.below K0.out) (by omega) (by omega) ha hm)
  rw [show Fl.effect x c 9 a d = Fl.moved x c 9 a by simp [Fl.effect]]
  clear h
  go_enter Tryd.func17, Tryd.ntmps17
  try simp only [List.append_eq, List.cons_append, List.nil_append]
  go_wp2_with fail
  go_at_call 21
  refine HC.out.mono ?_
  rintro e w1 ⟨⟨t', l', ok, rfl, hO⟩, hb1⟩
  have KW := Aid.hid (K0.out.trans (hb1.mono K0.out.size))
  have HO := Aid.hid hO
  clear hb1 hO HC
  go_wp2_with fail
  go_ret3
  exact ⟨⟨t', l', ok, rfl, HO.out⟩, KW.out⟩
set_option maxRecDepth 100000 in
set_option maxHeartbeats 2000000 in
theorem effect_10 (b B : Nat) (x : Img) (c : Cod) (k s t : Value) (m : Int) (a d : Int) (w : World) (h : Ck w b x c k s t m B) (ha : 0 ≤ a) (hm : a ≤ 10000) (hd : 0 ≤ d) (hn : d ≤ 10000) :
    Calls Tryd.prog 17 #[.pointer (some ⟨b, 0, none⟩), .agg #[.int .i64 10, .int .i64 a, .int .i64 d]] w fun e w' => Fl.Ans (Fl.effect x c 10 a d) e ∧ Below w.heap.size w w' := by
  have K0 : Hid (Below w.heap.size w (w.alloc (.cells #[.int .i64 10, .int .i64 a, .int .i64 d] 25))) := Aid.hid ((Below.refl _ w).alloc (Nat.le_refl _) _)
  obtain ⟨r, hr⟩ : ∃ r, Fl.row x c 10 a d = r := ⟨_, rfl⟩
  have HC := Aid.hid (row_is b B x c k s t m 10 a d r _ (h.below K0.out) (by omega) (by omega) ha hm hd hn hr)
  have e1 : Fl.effect x c 10 a d = if r then some (Fl.i, Fl.i) else none := by
    simp [Fl.effect, hr]
  obtain ⟨O, hO⟩ : ∃ O, Fl.effect x c 10 a d = O := ⟨_, rfl⟩
  rw [hO] at e1 ⊢
  have HO := Aid.hid e1
  clear h e1 hO hr
  go_enter Tryd.func17, Tryd.ntmps17
  try simp only [List.append_eq, List.cons_append, List.nil_append]
  go_wp2_with fail
  go_at_call 22
  refine HC.out.mono ?_
  rintro e w1 ⟨rfl, hb1⟩
  have KW := Aid.hid (K0.out.trans (hb1.mono K0.out.size))
  clear hb1 HC
  go_wp2_with fail
  go_ret3
  exact ⟨⟨Fl.i, Fl.i, r, rfl, HO.out⟩, KW.out⟩
set_option maxRecDepth 100000 in
set_option maxHeartbeats 2000000 in
theorem effect_11 (b B : Nat) (x : Img) (c : Cod) (k s t : Value) (m : Int) (a d : Int) (w : World) (h : Ck w b x c k s t m B) (ha : 0 ≤ a) (hm : a ≤ 10000) (hd : 0 ≤ d) (hn : d ≤ 10000) :
    Calls Tryd.prog 17 #[.pointer (some ⟨b, 0, none⟩), .agg #[.int .i64 11, .int .i64 a, .int .i64 d]] w fun e w' => Fl.Ans (Fl.effect x c 11 a d) e ∧ Below w.heap.size w w' := by
  have K0 : Hid (Below w.heap.size w (w.alloc (.cells #[.int .i64 11, .int .i64 a, .int .i64 d] 25))) := Aid.hid ((Below.refl _ w).alloc (Nat.le_refl _) _)
  obtain ⟨r, hr⟩ : ∃ r, Fl.row x c 11 a d = r := ⟨_, rfl⟩
  have HC := Aid.hid (row_is b B x c k s t m 11 a d r _ (h.below K0.out) (by omega) (by omega) ha hm hd hn hr)
  have e1 : Fl.effect x c 11 a d = if r then some (Fl.ii, Fl.e) else none := by
    simp [Fl.effect, hr]
  obtain ⟨O, hO⟩ : ∃ O, Fl.effect x c 11 a d = O := ⟨_, rfl⟩
  rw [hO] at e1 ⊢
  have HO := Aid.hid e1
  clear h e1 hO hr
  go_enter Tryd.func17, Tryd.ntmps17
  try simp only [List.append_eq, List.cons_append, List.nil_append]
  go_wp2_with fail
  go_at_call 22
  refine HC.out.mono ?_
  rintro e w1 ⟨rfl, hb1⟩
  have KW := Aid.hid (K0.out.trans (hb1.mono K0.out.size))
  clear hb1 HC
  go_wp2_with fail
  go_ret3
  exact ⟨⟨Fl.ii, Fl.e, r, rfl, HO.out⟩, KW.out⟩
set_option maxRecDepth 100000 in
set_option maxHeartbeats 2000000 in
theorem effect_12 (b B : Nat) (x : Img) (c : Cod) (k s t : Value) (m : Int) (a d : Int) (w : World) (h : Ck w b x c k s t m B) (ha : 0 ≤ a) (hm : a ≤ 10000) (hd : 0 ≤ d) (hn : d ≤ 10000) :
    Calls Tryd.prog 17 #[.pointer (some ⟨b, 0, none⟩), .agg #[.int .i64 12, .int .i64 a, .int .i64 d]] w fun e w' => Fl.Ans (Fl.effect x c 12 a d) e ∧ Below w.heap.size w w' := by
  have K0 : Hid (Below w.heap.size w (w.alloc (.cells #[.int .i64 12, .int .i64 a, .int .i64 d] 25))) := Aid.hid ((Below.refl _ w).alloc (Nat.le_refl _) _)
  obtain ⟨r, hr⟩ : ∃ r, Fl.row x c 12 a d = r := ⟨_, rfl⟩
  have HC := Aid.hid (row_is b B x c k s t m 12 a d r _ (h.below K0.out) (by omega) (by omega) ha hm hd hn hr)
  have e1 : Fl.effect x c 12 a d = if r then some (Fl.i, Fl.i) else none := by
    simp [Fl.effect, hr]
  obtain ⟨O, hO⟩ : ∃ O, Fl.effect x c 12 a d = O := ⟨_, rfl⟩
  rw [hO] at e1 ⊢
  have HO := Aid.hid e1
  clear h e1 hO hr
  go_enter Tryd.func17, Tryd.ntmps17
  try simp only [List.append_eq, List.cons_append, List.nil_append]
  go_wp2_with fail
  go_at_call 22
  refine HC.out.mono ?_
  rintro e w1 ⟨rfl, hb1⟩
  have KW := Aid.hid (K0.out.trans (hb1.mono K0.out.size))
  clear hb1 HC
  go_wp2_with fail
  go_ret3
  exact ⟨⟨Fl.i, Fl.i, r, rfl, HO.out⟩, KW.out⟩
set_option maxRecDepth 100000 in
set_option maxHeartbeats 2000000 in
theorem effect_13 (b B : Nat) (x : Img) (c : Cod) (k s t : Value) (m : Int) (a d : Int) (w : World) (h : Ck w b x c k s t m B) (ha : 0 ≤ a) (hm : a ≤ 10000) (hd : 0 ≤ d) (hn : d ≤ 10000) :
    Calls Tryd.prog 17 #[.pointer (some ⟨b, 0, none⟩), .agg #[.int .i64 13, .int .i64 a, .int .i64 d]] w fun e w' => Fl.Ans (Fl.effect x c 13 a d) e ∧ Below w.heap.size w w' := by
  have K0 : Hid (Below w.heap.size w (w.alloc (.cells #[.int .i64 13, .int .i64 a, .int .i64 d] 25))) := Aid.hid ((Below.refl _ w).alloc (Nat.le_refl _) _)
  obtain ⟨r, hr⟩ : ∃ r, Fl.row x c 13 a d = r := ⟨_, rfl⟩
  have HC := Aid.hid (row_is b B x c k s t m 13 a d r _ (h.below K0.out) (by omega) (by omega) ha hm hd hn hr)
  have e1 : Fl.effect x c 13 a d = if r then some (Fl.ii, Fl.e) else none := by
    simp [Fl.effect, hr]
  obtain ⟨O, hO⟩ : ∃ O, Fl.effect x c 13 a d = O := ⟨_, rfl⟩
  rw [hO] at e1 ⊢
  have HO := Aid.hid e1
  clear h e1 hO hr
  go_enter Tryd.func17, Tryd.ntmps17
  try simp only [List.append_eq, List.cons_append, List.nil_append]
  go_wp2_with fail
  go_at_call 22
  refine HC.out.mono ?_
  rintro e w1 ⟨rfl, hb1⟩
  have KW := Aid.hid (K0.out.trans (hb1.mono K0.out.size))
  clear hb1 HC
  go_wp2_with fail
  go_ret3
  exact ⟨⟨Fl.ii, Fl.e, r, rfl, HO.out⟩, KW.out⟩
set_option maxRecDepth 100000 in
set_option maxHeartbeats 2000000 in
theorem effect_14 (b B : Nat) (x : Img) (c : Cod) (k s t : Value) (m : Int) (a d : Int) (w : World) (h : Ck w b x c k s t m B) (ha : 0 ≤ a) (hm : a ≤ 10000) (hd : 0 ≤ d) (hn : d ≤ 10000) :
    Calls Tryd.prog 17 #[.pointer (some ⟨b, 0, none⟩), .agg #[.int .i64 14, .int .i64 a, .int .i64 d]] w fun e w' => Fl.Ans (Fl.effect x c 14 a d) e ∧ Below w.heap.size w w' := by
  have K0 : Hid (Below w.heap.size w (w.alloc (.cells #[.int .i64 14, .int .i64 a, .int .i64 d] 25))) := Aid.hid ((Below.refl _ w).alloc (Nat.le_refl _) _)
  obtain ⟨r, hr⟩ : ∃ r, Fl.row x c 14 a d = r := ⟨_, rfl⟩
  have HC := Aid.hid (row_is b B x c k s t m 14 a d r _ (h.below K0.out) (by omega) (by omega) ha hm hd hn hr)
  have e1 : Fl.effect x c 14 a d = if r then some (Fl.i, Fl.i) else none := by
    simp [Fl.effect, hr]
  obtain ⟨O, hO⟩ : ∃ O, Fl.effect x c 14 a d = O := ⟨_, rfl⟩
  rw [hO] at e1 ⊢
  have HO := Aid.hid e1
  clear h e1 hO hr
  go_enter Tryd.func17, Tryd.ntmps17
  try simp only [List.append_eq, List.cons_append, List.nil_append]
  go_wp2_with fail
  go_at_call 22
  refine HC.out.mono ?_
  rintro e w1 ⟨rfl, hb1⟩
  have KW := Aid.hid (K0.out.trans (hb1.mono K0.out.size))
  clear hb1 HC
  go_wp2_with fail
  go_ret3
  exact ⟨⟨Fl.i, Fl.i, r, rfl, HO.out⟩, KW.out⟩
set_option maxRecDepth 100000 in
set_option maxHeartbeats 2000000 in
theorem effect_15 (b B : Nat) (x : Img) (c : Cod) (k s t : Value) (m : Int) (a d : Int) (w : World) (h : Ck w b x c k s t m B) (ha : 0 ≤ a) (hm : a ≤ 10000) (hd : 0 ≤ d) (hn : d ≤ 10000) :
    Calls Tryd.prog 17 #[.pointer (some ⟨b, 0, none⟩), .agg #[.int .i64 15, .int .i64 a, .int .i64 d]] w fun e w' => Fl.Ans (Fl.effect x c 15 a d) e ∧ Below w.heap.size w w' := by
  have K0 : Hid (Below w.heap.size w (w.alloc (.cells #[.int .i64 15, .int .i64 a, .int .i64 d] 25))) := Aid.hid ((Below.refl _ w).alloc (Nat.le_refl _) _)
  obtain ⟨r, hr⟩ : ∃ r, Fl.row x c 15 a d = r := ⟨_, rfl⟩
  have HC := Aid.hid (row_is b B x c k s t m 15 a d r _ (h.below K0.out) (by omega) (by omega) ha hm hd hn hr)
  have e1 : Fl.effect x c 15 a d = if r then some (Fl.ii, Fl.e) else none := by
    simp [Fl.effect, hr]
  obtain ⟨O, hO⟩ : ∃ O, Fl.effect x c 15 a d = O := ⟨_, rfl⟩
  rw [hO] at e1 ⊢
  have HO := Aid.hid e1
  clear h e1 hO hr
  go_enter Tryd.func17, Tryd.ntmps17
  try simp only [List.append_eq, List.cons_append, List.nil_append]
  go_wp2_with fail
  go_at_call 22
  refine HC.out.mono ?_
  rintro e w1 ⟨rfl, hb1⟩
  have KW := Aid.hid (K0.out.trans (hb1.mono K0.out.size))
  clear hb1 HC
  go_wp2_with fail
  go_ret3
  exact ⟨⟨Fl.ii, Fl.e, r, rfl, HO.out⟩, KW.out⟩
end Go.Proofs.YtcgfabnmkbiogaaDoor
