/- The checker reads: slots, moved. -/
import Derived.Test.YtcgfabnmkbiogaaDoorFlA
import Derived.WalkKit
import Derived.WalkSpells
import Derived.WalkLawsBesides
import Derived.LoopTactic
import Derived.Deep.QuietTactic
import Derived.BigQuiet
import Derived.Below
import Derived.Laws.ResultCell
import Derived.Laws.Tables
import Derived.Laws.Rows
import Derived.Deep.Cut
import Derived.KernelRfl
namespace Go.Proofs.YtcgfabnmkbiogaaDoor
open Go.RowKit

/-- What is told of what is taken and left. -/
def Fl.Ans (o : Option (ByteArray × ByteArray)) (e : Ending) : Prop := ∃ t l ok, e = .returned (.tuple #[.string t, .string l, .bool ok]) ∧ o = if ok then some (t, l) else none
theorem Fl.Ans.no {t l : ByteArray} : Fl.Ans none (.returned (.tuple #[.string t, .string l, .bool false])) := ⟨t, l, false, rfl, rfl⟩
theorem Fl.drewN {B : Nat} {a w : World} (h : Below B a w) (n : Nat) : Below B a (w.drewN n) := ⟨h.os, h.tape, h.output, h.size, h.block⟩
theorem Fl.Ans.yes {t l : ByteArray} : Fl.Ans (some (t, l)) (.returned (.tuple #[.string t, .string l, .bool true])) := ⟨t, l, true, rfl, rfl⟩
set_option maxRecDepth 100000 in
set_option maxHeartbeats 2000000 in
theorem slots_4 (b B : Nat) (x : Img) (c : Cod) (k s t : Value) (m : Int) (a d : Int) (w : World) (h : Ck w b x c k s t m B) :
    Calls Tryd.prog 25 #[.pointer (some ⟨b, 0, none⟩), .agg #[.int .i64 4, .int .i64 a, .int .i64 d]] w fun e w' => e = .returned (.string (Fl.slots x c 4)) ∧ Below w.heap.size w w' := by
  have K0 : Hid (Below w.heap.size w (w.alloc (.cells #[.int .i64 4, .int .i64 a, .int .i64 d] 25))) := Aid.hid ((Below.refl _ w).alloc (Nat.le_refl _) _)
  have hk := h.has.below K0.out h.has.lt
  have a13 := hk.cell 13 _ rfl
  have a14 := hk.cell 14 _ rfl
  have hs : Fl.slots x c 4 = c.params ++ c.locals := by
    unfold Fl.slots
    rw [if_pos (by omega)]
  rw [hs]
  obtain ⟨sz1, sz2, _⟩ := h.sm.cp c h.cm
  clear hk hs h
  go_enter Tryd.func25, Tryd.ntmps25
  try simp only [List.append_eq, List.cons_append, List.nil_append]
  go_wp2_with fail
  go_quiet (fail)
  go_wp2_with fail
  go_ret
  exact ⟨rfl, Fl.drewN K0.out _⟩
set_option maxRecDepth 100000 in
set_option maxHeartbeats 2000000 in
theorem slots_5 (b B : Nat) (x : Img) (c : Cod) (k s t : Value) (m : Int) (a d : Int) (w : World) (h : Ck w b x c k s t m B) :
    Calls Tryd.prog 25 #[.pointer (some ⟨b, 0, none⟩), .agg #[.int .i64 5, .int .i64 a, .int .i64 d]] w fun e w' => e = .returned (.string (Fl.slots x c 5)) ∧ Below w.heap.size w w' := by
  have K0 : Hid (Below w.heap.size w (w.alloc (.cells #[.int .i64 5, .int .i64 a, .int .i64 d] 25))) := Aid.hid ((Below.refl _ w).alloc (Nat.le_refl _) _)
  have hk := h.has.below K0.out h.has.lt
  have a13 := hk.cell 13 _ rfl
  have a14 := hk.cell 14 _ rfl
  have hs : Fl.slots x c 5 = c.params ++ c.locals := by
    unfold Fl.slots
    rw [if_pos (by omega)]
  rw [hs]
  obtain ⟨sz1, sz2, _⟩ := h.sm.cp c h.cm
  clear hk hs h
  go_enter Tryd.func25, Tryd.ntmps25
  try simp only [List.append_eq, List.cons_append, List.nil_append]
  go_wp2_with fail
  go_quiet (fail)
  go_wp2_with fail
  go_ret
  exact ⟨rfl, Fl.drewN K0.out _⟩
set_option maxRecDepth 100000 in
set_option maxHeartbeats 2000000 in
theorem slots_6 (b B : Nat) (x : Img) (c : Cod) (k s t : Value) (m : Int) (a d : Int) (w : World) (h : Ck w b x c k s t m B) :
    Calls Tryd.prog 25 #[.pointer (some ⟨b, 0, none⟩), .agg #[.int .i64 6, .int .i64 a, .int .i64 d]] w fun e w' => e = .returned (.string (Fl.slots x c 6)) ∧ Below w.heap.size w w' := by
  have K0 : Hid (Below w.heap.size w (w.alloc (.cells #[.int .i64 6, .int .i64 a, .int .i64 d] 25))) := Aid.hid ((Below.refl _ w).alloc (Nat.le_refl _) _)
  have hk := h.has.below K0.out h.has.lt
  have a4 := hk.cell 4 _ rfl
  have hs : Fl.slots x c 6 = x.globals := by
    unfold Fl.slots
    rw [if_neg (by omega), if_pos (by omega)]
  rw [hs]
  obtain ⟨sz1, sz2, _⟩ := h.sm.cp c h.cm
  clear hk hs h
  go_enter Tryd.func25, Tryd.ntmps25
  try simp only [List.append_eq, List.cons_append, List.nil_append]
  go_wp2_with fail
  go_ret
  exact ⟨rfl, K0.out⟩
set_option maxRecDepth 100000 in
set_option maxHeartbeats 2000000 in
theorem slots_7 (b B : Nat) (x : Img) (c : Cod) (k s t : Value) (m : Int) (a d : Int) (w : World) (h : Ck w b x c k s t m B) :
    Calls Tryd.prog 25 #[.pointer (some ⟨b, 0, none⟩), .agg #[.int .i64 7, .int .i64 a, .int .i64 d]] w fun e w' => e = .returned (.string (Fl.slots x c 7)) ∧ Below w.heap.size w w' := by
  have K0 : Hid (Below w.heap.size w (w.alloc (.cells #[.int .i64 7, .int .i64 a, .int .i64 d] 25))) := Aid.hid ((Below.refl _ w).alloc (Nat.le_refl _) _)
  have hk := h.has.below K0.out h.has.lt
  have a4 := hk.cell 4 _ rfl
  have hs : Fl.slots x c 7 = x.globals := by
    unfold Fl.slots
    rw [if_neg (by omega), if_pos (by omega)]
  rw [hs]
  obtain ⟨sz1, sz2, _⟩ := h.sm.cp c h.cm
  clear hk hs h
  go_enter Tryd.func25, Tryd.ntmps25
  try simp only [List.append_eq, List.cons_append, List.nil_append]
  go_wp2_with fail
  go_ret
  exact ⟨rfl, K0.out⟩
set_option maxRecDepth 100000 in
set_option maxHeartbeats 2000000 in
theorem slots_8 (b B : Nat) (x : Img) (c : Cod) (k s t : Value) (m : Int) (a d : Int) (w : World) (h : Ck w b x c k s t m B) :
    Calls Tryd.prog 25 #[.pointer (some ⟨b, 0, none⟩), .agg #[.int .i64 8, .int .i64 a, .int .i64 d]] w fun e w' => e = .returned (.string (Fl.slots x c 8)) ∧ Below w.heap.size w w' := by
  have K0 : Hid (Below w.heap.size w (w.alloc (.cells #[.int .i64 8, .int .i64 a, .int .i64 d] 25))) := Aid.hid ((Below.refl _ w).alloc (Nat.le_refl _) _)
  obtain ⟨y, hy⟩ : ∃ y, Fl.cls x c.cls = y := ⟨_, rfl⟩
  have hs : Fl.slots x c 8 = (y.getD Desc.zero).fields := by
    unfold Fl.slots
    rw [if_neg (by omega), if_neg (by omega), hy]
    cases y <;> rfl
  rw [hs]
  have HC : Hid (Calls Tryd.prog 27 #[.pointer (some ⟨b, 0, none⟩), .int .i64 c.cls] (w.alloc (.cells #[.int .i64 8, .int .i64 a, .int .i64 d] 25)) fun e w' => ∃ r, e = .returned (.tuple #[.agg #[.int .i64 (y.getD Desc.zero).base, .string (y.getD Desc.zero).fields, .slice (y.getD Desc.zero).iA (y.getD Desc.zero).init.length (y.getD Desc.zero).ic, .slice (y.getD Desc.zero).vA (y.getD Desc.zero).vtab.length (y.getD Desc.zero).vc, .slice (y.getD Desc.zero).sA (y.getD Desc.zero).sigs.length (y.getD Desc.zero).sc, .slice (y.getD Desc.zero).tA (y.getD Desc.zero).tabs.length (y.getD Desc.zero).tc], .bool r]) ∧ Below (w.alloc (.cells #[.int .i64 8, .int .i64 a, .int .i64 d] 25)).heap.size (w.alloc (.cells #[.int .i64 8, .int .i64 a, .int .i64 d] 25)) w') := Aid.hid (by
    cases y with
    | none => exact (class_is b B x c k s t m c.cls Desc.zero false _ (h.below K0.out) (by rw [hy]; rfl) (fun _ => rfl)).mono fun _ _ h => ⟨_, h⟩
    | some p => exact (class_is b B x c k s t m c.cls p true _ (h.below K0.out) (by rw [hy]; rfl) (fun h => by cases h)).mono fun _ _ h => ⟨_, h⟩)
  have hk := h.has.below K0.out h.has.lt
  have a12 := hk.cell 12 _ rfl
  obtain ⟨z, hz⟩ : ∃ z, y.getD Desc.zero = z := ⟨_, rfl⟩
  rw [hz] at HC ⊢
  clear hk hs hy h hz
  go_enter Tryd.func25, Tryd.ntmps25
  try simp only [List.append_eq, List.cons_append, List.nil_append]
  go_wp2_with fail
  go_at_call 27
  refine HC.out.mono ?_
  rintro e w1 ⟨r, rfl, hb1⟩
  have KW := Aid.hid (K0.out.trans (hb1.mono K0.out.size))
  clear hb1 HC
  go_wp2_with fail
  go_ret
  exact ⟨rfl, KW.out.alloc KW.out.size _⟩
set_option maxRecDepth 100000 in
set_option maxHeartbeats 2000000 in
theorem slots_9 (b B : Nat) (x : Img) (c : Cod) (k s t : Value) (m : Int) (a d : Int) (w : World) (h : Ck w b x c k s t m B) :
    Calls Tryd.prog 25 #[.pointer (some ⟨b, 0, none⟩), .agg #[.int .i64 9, .int .i64 a, .int .i64 d]] w fun e w' => e = .returned (.string (Fl.slots x c 9)) ∧ Below w.heap.size w w' := by
  have K0 : Hid (Below w.heap.size w (w.alloc (.cells #[.int .i64 9, .int .i64 a, .int .i64 d] 25))) := Aid.hid ((Below.refl _ w).alloc (Nat.le_refl _) _)
  obtain ⟨y, hy⟩ : ∃ y, Fl.cls x c.cls = y := ⟨_, rfl⟩
  have hs : Fl.slots x c 9 = (y.getD Desc.zero).fields := by
    unfold Fl.slots
    rw [if_neg (by omega), if_neg (by omega), hy]
    cases y <;> rfl
  rw [hs]
  have HC : Hid (Calls Tryd.prog 27 #[.pointer (some ⟨b, 0, none⟩), .int .i64 c.cls] (w.alloc (.cells #[.int .i64 9, .int .i64 a, .int .i64 d] 25)) fun e w' => ∃ r, e = .returned (.tuple #[.agg #[.int .i64 (y.getD Desc.zero).base, .string (y.getD Desc.zero).fields, .slice (y.getD Desc.zero).iA (y.getD Desc.zero).init.length (y.getD Desc.zero).ic, .slice (y.getD Desc.zero).vA (y.getD Desc.zero).vtab.length (y.getD Desc.zero).vc, .slice (y.getD Desc.zero).sA (y.getD Desc.zero).sigs.length (y.getD Desc.zero).sc, .slice (y.getD Desc.zero).tA (y.getD Desc.zero).tabs.length (y.getD Desc.zero).tc], .bool r]) ∧ Below (w.alloc (.cells #[.int .i64 9, .int .i64 a, .int .i64 d] 25)).heap.size (w.alloc (.cells #[.int .i64 9, .int .i64 a, .int .i64 d] 25)) w') := Aid.hid (by
    cases y with
    | none => exact (class_is b B x c k s t m c.cls Desc.zero false _ (h.below K0.out) (by rw [hy]; rfl) (fun _ => rfl)).mono fun _ _ h => ⟨_, h⟩
    | some p => exact (class_is b B x c k s t m c.cls p true _ (h.below K0.out) (by rw [hy]; rfl) (fun h => by cases h)).mono fun _ _ h => ⟨_, h⟩)
  have hk := h.has.below K0.out h.has.lt
  have a12 := hk.cell 12 _ rfl
  obtain ⟨z, hz⟩ : ∃ z, y.getD Desc.zero = z := ⟨_, rfl⟩
  rw [hz] at HC ⊢
  clear hk hs hy h hz
  go_enter Tryd.func25, Tryd.ntmps25
  try simp only [List.append_eq, List.cons_append, List.nil_append]
  go_wp2_with fail
  go_at_call 27
  refine HC.out.mono ?_
  rintro e w1 ⟨r, rfl, hb1⟩
  have KW := Aid.hid (K0.out.trans (hb1.mono K0.out.size))
  clear hb1 HC
  go_wp2_with fail
  go_ret
  exact ⟨rfl, KW.out.alloc KW.out.size _⟩
set_option maxRecDepth 100000 in
set_option maxHeartbeats 2000000 in
theorem slots_10 (b B : Nat) (x : Img) (c : Cod) (k s t : Value) (m : Int) (a d : Int) (w : World) (h : Ck w b x c k s t m B) :
    Calls Tryd.prog 25 #[.pointer (some ⟨b, 0, none⟩), .agg #[.int .i64 10, .int .i64 a, .int .i64 d]] w fun e w' => e = .returned (.string (Fl.slots x c 10)) ∧ Below w.heap.size w w' := by
  have K0 : Hid (Below w.heap.size w (w.alloc (.cells #[.int .i64 10, .int .i64 a, .int .i64 d] 25))) := Aid.hid ((Below.refl _ w).alloc (Nat.le_refl _) _)
  have hk := h.has.below K0.out h.has.lt
  have a13 := hk.cell 13 _ rfl
  have a14 := hk.cell 14 _ rfl
  have hs : Fl.slots x c 10 = c.params ++ c.locals := by
    unfold Fl.slots
    rw [if_pos (by omega)]
  rw [hs]
  obtain ⟨sz1, sz2, _⟩ := h.sm.cp c h.cm
  clear hk hs h
  go_enter Tryd.func25, Tryd.ntmps25
  try simp only [List.append_eq, List.cons_append, List.nil_append]
  go_wp2_with fail
  go_quiet (fail)
  go_wp2_with fail
  go_ret
  exact ⟨rfl, Fl.drewN K0.out _⟩
set_option maxRecDepth 100000 in
set_option maxHeartbeats 2000000 in
theorem slots_11 (b B : Nat) (x : Img) (c : Cod) (k s t : Value) (m : Int) (a d : Int) (w : World) (h : Ck w b x c k s t m B) :
    Calls Tryd.prog 25 #[.pointer (some ⟨b, 0, none⟩), .agg #[.int .i64 11, .int .i64 a, .int .i64 d]] w fun e w' => e = .returned (.string (Fl.slots x c 11)) ∧ Below w.heap.size w w' := by
  have K0 : Hid (Below w.heap.size w (w.alloc (.cells #[.int .i64 11, .int .i64 a, .int .i64 d] 25))) := Aid.hid ((Below.refl _ w).alloc (Nat.le_refl _) _)
  have hk := h.has.below K0.out h.has.lt
  have a13 := hk.cell 13 _ rfl
  have a14 := hk.cell 14 _ rfl
  have hs : Fl.slots x c 11 = c.params ++ c.locals := by
    unfold Fl.slots
    rw [if_pos (by omega)]
  rw [hs]
  obtain ⟨sz1, sz2, _⟩ := h.sm.cp c h.cm
  clear hk hs h
  go_enter Tryd.func25, Tryd.ntmps25
  try simp only [List.append_eq, List.cons_append, List.nil_append]
  go_wp2_with fail
  go_quiet (fail)
  go_wp2_with fail
  go_ret
  exact ⟨rfl, Fl.drewN K0.out _⟩
set_option maxRecDepth 100000 in
set_option maxHeartbeats 2000000 in
theorem slots_12 (b B : Nat) (x : Img) (c : Cod) (k s t : Value) (m : Int) (a d : Int) (w : World) (h : Ck w b x c k s t m B) :
    Calls Tryd.prog 25 #[.pointer (some ⟨b, 0, none⟩), .agg #[.int .i64 12, .int .i64 a, .int .i64 d]] w fun e w' => e = .returned (.string (Fl.slots x c 12)) ∧ Below w.heap.size w w' := by
  have K0 : Hid (Below w.heap.size w (w.alloc (.cells #[.int .i64 12, .int .i64 a, .int .i64 d] 25))) := Aid.hid ((Below.refl _ w).alloc (Nat.le_refl _) _)
  have hk := h.has.below K0.out h.has.lt
  have a4 := hk.cell 4 _ rfl
  have hs : Fl.slots x c 12 = x.globals := by
    unfold Fl.slots
    rw [if_neg (by omega), if_pos (by omega)]
  rw [hs]
  obtain ⟨sz1, sz2, _⟩ := h.sm.cp c h.cm
  clear hk hs h
  go_enter Tryd.func25, Tryd.ntmps25
  try simp only [List.append_eq, List.cons_append, List.nil_append]
  go_wp2_with fail
  go_ret
  exact ⟨rfl, K0.out⟩
set_option maxRecDepth 100000 in
set_option maxHeartbeats 2000000 in
theorem slots_13 (b B : Nat) (x : Img) (c : Cod) (k s t : Value) (m : Int) (a d : Int) (w : World) (h : Ck w b x c k s t m B) :
    Calls Tryd.prog 25 #[.pointer (some ⟨b, 0, none⟩), .agg #[.int .i64 13, .int .i64 a, .int .i64 d]] w fun e w' => e = .returned (.string (Fl.slots x c 13)) ∧ Below w.heap.size w w' := by
  have K0 : Hid (Below w.heap.size w (w.alloc (.cells #[.int .i64 13, .int .i64 a, .int .i64 d] 25))) := Aid.hid ((Below.refl _ w).alloc (Nat.le_refl _) _)
  have hk := h.has.below K0.out h.has.lt
  have a4 := hk.cell 4 _ rfl
  have hs : Fl.slots x c 13 = x.globals := by
    unfold Fl.slots
    rw [if_neg (by omega), if_pos (by omega)]
  rw [hs]
  obtain ⟨sz1, sz2, _⟩ := h.sm.cp c h.cm
  clear hk hs h
  go_enter Tryd.func25, Tryd.ntmps25
  try simp only [List.append_eq, List.cons_append, List.nil_append]
  go_wp2_with fail
  go_ret
  exact ⟨rfl, K0.out⟩
set_option maxRecDepth 100000 in
set_option maxHeartbeats 2000000 in
theorem slots_14 (b B : Nat) (x : Img) (c : Cod) (k s t : Value) (m : Int) (a d : Int) (w : World) (h : Ck w b x c k s t m B) :
    Calls Tryd.prog 25 #[.pointer (some ⟨b, 0, none⟩), .agg #[.int .i64 14, .int .i64 a, .int .i64 d]] w fun e w' => e = .returned (.string (Fl.slots x c 14)) ∧ Below w.heap.size w w' := by
  have K0 : Hid (Below w.heap.size w (w.alloc (.cells #[.int .i64 14, .int .i64 a, .int .i64 d] 25))) := Aid.hid ((Below.refl _ w).alloc (Nat.le_refl _) _)
  obtain ⟨y, hy⟩ : ∃ y, Fl.cls x c.cls = y := ⟨_, rfl⟩
  have hs : Fl.slots x c 14 = (y.getD Desc.zero).fields := by
    unfold Fl.slots
    rw [if_neg (by omega), if_neg (by omega), hy]
    cases y <;> rfl
  rw [hs]
  have HC : Hid (Calls Tryd.prog 27 #[.pointer (some ⟨b, 0, none⟩), .int .i64 c.cls] (w.alloc (.cells #[.int .i64 14, .int .i64 a, .int .i64 d] 25)) fun e w' => ∃ r, e = .returned (.tuple #[.agg #[.int .i64 (y.getD Desc.zero).base, .string (y.getD Desc.zero).fields, .slice (y.getD Desc.zero).iA (y.getD Desc.zero).init.length (y.getD Desc.zero).ic, .slice (y.getD Desc.zero).vA (y.getD Desc.zero).vtab.length (y.getD Desc.zero).vc, .slice (y.getD Desc.zero).sA (y.getD Desc.zero).sigs.length (y.getD Desc.zero).sc, .slice (y.getD Desc.zero).tA (y.getD Desc.zero).tabs.length (y.getD Desc.zero).tc], .bool r]) ∧ Below (w.alloc (.cells #[.int .i64 14, .int .i64 a, .int .i64 d] 25)).heap.size (w.alloc (.cells #[.int .i64 14, .int .i64 a, .int .i64 d] 25)) w') := Aid.hid (by
    cases y with
    | none => exact (class_is b B x c k s t m c.cls Desc.zero false _ (h.below K0.out) (by rw [hy]; rfl) (fun _ => rfl)).mono fun _ _ h => ⟨_, h⟩
    | some p => exact (class_is b B x c k s t m c.cls p true _ (h.below K0.out) (by rw [hy]; rfl) (fun h => by cases h)).mono fun _ _ h => ⟨_, h⟩)
  have hk := h.has.below K0.out h.has.lt
  have a12 := hk.cell 12 _ rfl
  obtain ⟨z, hz⟩ : ∃ z, y.getD Desc.zero = z := ⟨_, rfl⟩
  rw [hz] at HC ⊢
  clear hk hs hy h hz
  go_enter Tryd.func25, Tryd.ntmps25
  try simp only [List.append_eq, List.cons_append, List.nil_append]
  go_wp2_with fail
  go_at_call 27
  refine HC.out.mono ?_
  rintro e w1 ⟨r, rfl, hb1⟩
  have KW := Aid.hid (K0.out.trans (hb1.mono K0.out.size))
  clear hb1 HC
  go_wp2_with fail
  go_ret
  exact ⟨rfl, KW.out.alloc KW.out.size _⟩
set_option maxRecDepth 100000 in
set_option maxHeartbeats 2000000 in
theorem slots_15 (b B : Nat) (x : Img) (c : Cod) (k s t : Value) (m : Int) (a d : Int) (w : World) (h : Ck w b x c k s t m B) :
    Calls Tryd.prog 25 #[.pointer (some ⟨b, 0, none⟩), .agg #[.int .i64 15, .int .i64 a, .int .i64 d]] w fun e w' => e = .returned (.string (Fl.slots x c 15)) ∧ Below w.heap.size w w' := by
  have K0 : Hid (Below w.heap.size w (w.alloc (.cells #[.int .i64 15, .int .i64 a, .int .i64 d] 25))) := Aid.hid ((Below.refl _ w).alloc (Nat.le_refl _) _)
  obtain ⟨y, hy⟩ : ∃ y, Fl.cls x c.cls = y := ⟨_, rfl⟩
  have hs : Fl.slots x c 15 = (y.getD Desc.zero).fields := by
    unfold Fl.slots
    rw [if_neg (by omega), if_neg (by omega), hy]
    cases y <;> rfl
  rw [hs]
  have HC : Hid (Calls Tryd.prog 27 #[.pointer (some ⟨b, 0, none⟩), .int .i64 c.cls] (w.alloc (.cells #[.int .i64 15, .int .i64 a, .int .i64 d] 25)) fun e w' => ∃ r, e = .returned (.tuple #[.agg #[.int .i64 (y.getD Desc.zero).base, .string (y.getD Desc.zero).fields, .slice (y.getD Desc.zero).iA (y.getD Desc.zero).init.length (y.getD Desc.zero).ic, .slice (y.getD Desc.zero).vA (y.getD Desc.zero).vtab.length (y.getD Desc.zero).vc, .slice (y.getD Desc.zero).sA (y.getD Desc.zero).sigs.length (y.getD Desc.zero).sc, .slice (y.getD Desc.zero).tA (y.getD Desc.zero).tabs.length (y.getD Desc.zero).tc], .bool r]) ∧ Below (w.alloc (.cells #[.int .i64 15, .int .i64 a, .int .i64 d] 25)).heap.size (w.alloc (.cells #[.int .i64 15, .int .i64 a, .int .i64 d] 25)) w') := Aid.hid (by
    cases y with
    | none => exact (class_is b B x c k s t m c.cls Desc.zero false _ (h.below K0.out) (by rw [hy]; rfl) (fun _ => rfl)).mono fun _ _ h => ⟨_, h⟩
    | some p => exact (class_is b B x c k s t m c.cls p true _ (h.below K0.out) (by rw [hy]; rfl) (fun h => by cases h)).mono fun _ _ h => ⟨_, h⟩)
  have hk := h.has.below K0.out h.has.lt
  have a12 := hk.cell 12 _ rfl
  obtain ⟨z, hz⟩ : ∃ z, y.getD Desc.zero = z := ⟨_, rfl⟩
  rw [hz] at HC ⊢
  clear hk hs hy h hz
  go_enter Tryd.func25, Tryd.ntmps25
  try simp only [List.append_eq, List.cons_append, List.nil_append]
  go_wp2_with fail
  go_at_call 27
  refine HC.out.mono ?_
  rintro e w1 ⟨r, rfl, hb1⟩
  have KW := Aid.hid (K0.out.trans (hb1.mono K0.out.size))
  clear hb1 HC
  go_wp2_with fail
  go_ret
  exact ⟨rfl, KW.out.alloc KW.out.size _⟩
theorem slots_is (b B : Nat) (x : Img) (c : Cod) (k s t : Value) (m : Int) (q a d : Int) (w : World) (h : Ck w b x c k s t m B) (h1 : 4 ≤ q) (h2 : q ≤ 15) :
    Calls Tryd.prog 25 #[.pointer (some ⟨b, 0, none⟩), .agg #[.int .i64 q, .int .i64 a, .int .i64 d]] w fun e w' => e = .returned (.string (Fl.slots x c q)) ∧ Below w.heap.size w w' := by
  obtain rfl | rfl | rfl | rfl | rfl | rfl | rfl | rfl | rfl | rfl | rfl | rfl : q = 4 ∨ q = 5 ∨ q = 6 ∨ q = 7 ∨ q = 8 ∨ q = 9 ∨ q = 10 ∨ q = 11 ∨ q = 12 ∨ q = 13 ∨ q = 14 ∨ q = 15 := by omega
  · exact slots_4 b B x c k s t m a d w h
  · exact slots_5 b B x c k s t m a d w h
  · exact slots_6 b B x c k s t m a d w h
  · exact slots_7 b B x c k s t m a d w h
  · exact slots_8 b B x c k s t m a d w h
  · exact slots_9 b B x c k s t m a d w h
  · exact slots_10 b B x c k s t m a d w h
  · exact slots_11 b B x c k s t m a d w h
  · exact slots_12 b B x c k s t m a d w h
  · exact slots_13 b B x c k s t m a d w h
  · exact slots_14 b B x c k s t m a d w h
  · exact slots_15 b B x c k s t m a d w h
theorem Fl.slots_le {x : Img} {c : Cod} (h : Fl.Sm x) (hc : c ∈ x.codes) (q : Int) : (Fl.slots x c q).size ≤ 1000 := by
  have h1 := h.cp c hc
  unfold Fl.slots
  split
  · rw [ByteArray.size_append]; omega
  · split
    · exact h.gl
    · split
      · rename_i d hd
        unfold Fl.cls at hd
        split at hd
        · exact h.fl d (List.mem_of_getElem? hd)
        · cases hd
      · exact Nat.zero_le _
set_option maxRecDepth 100000 in
set_option maxHeartbeats 2000000 in
theorem moved_4 (b B : Nat) (x : Img) (c : Cod) (k s t : Value) (m : Int) (a d : Int) (w : World) (h : Ck w b x c k s t m B) (ha : 0 ≤ a) (hm : a ≤ 10000) :
    Calls Tryd.prog 21 #[.pointer (some ⟨b, 0, none⟩), .agg #[.int .i64 4, .int .i64 a, .int .i64 d]] w fun e w' => Fl.Ans (Fl.moved x c 4 a) e ∧ Below w.heap.size w w' := by
  have hn := Aid.Has.new w [.int .i64 4, .int .i64 a, .int .i64 d] 25
  have K0 : Hid (Below w.heap.size w (w.alloc (.cells #[.int .i64 4, .int .i64 a, .int .i64 d] 25))) := Aid.hid ((Below.refl _ w).alloc (Nat.le_refl _) _)
  obtain ⟨L, hL⟩ : ∃ L, Fl.slots x c 4 = L := ⟨_, rfl⟩
  have hsz := Fl.slots_le h.sm h.cm 4
  have HC := Aid.hid (slots_is b B x c k s t m 4 a d _ (h.below K0.out) (by omega) (by omega))
  rw [hL] at HC hsz
  obtain ⟨q, rfl⟩ : ∃ q : Nat, a = q := ⟨a.toNat, by omega⟩
  have HN := Aid.hid hn
  by_cases hq : q < L.size
  · have e1 : Fl.moved x c 4 q = some (Fl.e, L.extract q (q + 1)) := by
      unfold Fl.moved
      rw [hL, if_pos (by omega), if_pos (by omega)]; rfl
    rw [e1]
    have hq2 : ¬ ((L.size : Int) ≤ q) := by omega
    clear e1 h hL hn
    go_enter Tryd.func21, Tryd.ntmps21
    try simp only [List.append_eq, List.cons_append, List.nil_append]
    go_wp2_with fail
    go_at_call 25
    refine HC.out.mono ?_
    rintro e w1 ⟨rfl, hb1⟩
    have KW := Aid.hid (K0.out.trans (hb1.mono K0.out.size))
    have hh := HN.out.below hb1 HN.out.lt
    have a0 := hh.cell 0 _ rfl
    have a1 := hh.cell 1 _ rfl
    clear hb1 HC hh HN
    go_wp2_with fail
    go_ret3
    exact ⟨.yes, KW.out⟩
  · have e1 : Fl.moved x c 4 q = none := by
      unfold Fl.moved
      rw [hL, if_neg (by omega)]
    rw [e1]
    have hq2 : ((L.size : Int) ≤ q) := by omega
    clear e1 h hL hn
    go_enter Tryd.func21, Tryd.ntmps21
    try simp only [List.append_eq, List.cons_append, List.nil_append]
    go_wp2_with fail
    go_at_call 25
    refine HC.out.mono ?_
    rintro e w1 ⟨rfl, hb1⟩
    have KW := Aid.hid (K0.out.trans (hb1.mono K0.out.size))
    have hh := HN.out.below hb1 HN.out.lt
    have a0 := hh.cell 0 _ rfl
    have a1 := hh.cell 1 _ rfl
    clear hb1 HC hh HN
    go_wp2_with fail
    go_ret3
    exact ⟨.no, KW.out⟩
set_option maxRecDepth 100000 in
set_option maxHeartbeats 2000000 in
theorem moved_5 (b B : Nat) (x : Img) (c : Cod) (k s t : Value) (m : Int) (a d : Int) (w : World) (h : Ck w b x c k s t m B) (ha : 0 ≤ a) (hm : a ≤ 10000) :
    Calls Tryd.prog 21 #[.pointer (some ⟨b, 0, none⟩), .agg #[.int .i64 5, .int .i64 a, .int .i64 d]] w fun e w' => Fl.Ans (Fl.moved x c 5 a) e ∧ Below w.heap.size w w' := by
  have hn := Aid.Has.new w [.int .i64 5, .int .i64 a, .int .i64 d] 25
  have K0 : Hid (Below w.heap.size w (w.alloc (.cells #[.int .i64 5, .int .i64 a, .int .i64 d] 25))) := Aid.hid ((Below.refl _ w).alloc (Nat.le_refl _) _)
  obtain ⟨L, hL⟩ : ∃ L, Fl.slots x c 5 = L := ⟨_, rfl⟩
  have hsz := Fl.slots_le h.sm h.cm 5
  have HC := Aid.hid (slots_is b B x c k s t m 5 a d _ (h.below K0.out) (by omega) (by omega))
  rw [hL] at HC hsz
  obtain ⟨q, rfl⟩ : ∃ q : Nat, a = q := ⟨a.toNat, by omega⟩
  have HN := Aid.hid hn
  by_cases hq : q < L.size
  · have e1 : Fl.moved x c 5 q = some (L.extract q (q + 1), Fl.e) := by
      unfold Fl.moved
      rw [hL, if_pos (by omega), if_neg (by omega)]; rfl
    rw [e1]
    have hq2 : ¬ ((L.size : Int) ≤ q) := by omega
    clear e1 h hL hn
    go_enter Tryd.func21, Tryd.ntmps21
    try simp only [List.append_eq, List.cons_append, List.nil_append]
    go_wp2_with fail
    go_at_call 25
    refine HC.out.mono ?_
    rintro e w1 ⟨rfl, hb1⟩
    have KW := Aid.hid (K0.out.trans (hb1.mono K0.out.size))
    have hh := HN.out.below hb1 HN.out.lt
    have a0 := hh.cell 0 _ rfl
    have a1 := hh.cell 1 _ rfl
    clear hb1 HC hh HN
    go_wp2_with fail
    go_ret3
    exact ⟨.yes, KW.out⟩
  · have e1 : Fl.moved x c 5 q = none := by
      unfold Fl.moved
      rw [hL, if_neg (by omega)]
    rw [e1]
    have hq2 : ((L.size : Int) ≤ q) := by omega
    clear e1 h hL hn
    go_enter Tryd.func21, Tryd.ntmps21
    try simp only [List.append_eq, List.cons_append, List.nil_append]
    go_wp2_with fail
    go_at_call 25
    refine HC.out.mono ?_
    rintro e w1 ⟨rfl, hb1⟩
    have KW := Aid.hid (K0.out.trans (hb1.mono K0.out.size))
    have hh := HN.out.below hb1 HN.out.lt
    have a0 := hh.cell 0 _ rfl
    have a1 := hh.cell 1 _ rfl
    clear hb1 HC hh HN
    go_wp2_with fail
    go_ret3
    exact ⟨.no, KW.out⟩
set_option maxRecDepth 100000 in
set_option maxHeartbeats 2000000 in
theorem moved_6 (b B : Nat) (x : Img) (c : Cod) (k s t : Value) (m : Int) (a d : Int) (w : World) (h : Ck w b x c k s t m B) (ha : 0 ≤ a) (hm : a ≤ 10000) :
    Calls Tryd.prog 21 #[.pointer (some ⟨b, 0, none⟩), .agg #[.int .i64 6, .int .i64 a, .int .i64 d]] w fun e w' => Fl.Ans (Fl.moved x c 6 a) e ∧ Below w.heap.size w w' := by
  have hn := Aid.Has.new w [.int .i64 6, .int .i64 a, .int .i64 d] 25
  have K0 : Hid (Below w.heap.size w (w.alloc (.cells #[.int .i64 6, .int .i64 a, .int .i64 d] 25))) := Aid.hid ((Below.refl _ w).alloc (Nat.le_refl _) _)
  obtain ⟨L, hL⟩ : ∃ L, Fl.slots x c 6 = L := ⟨_, rfl⟩
  have hsz := Fl.slots_le h.sm h.cm 6
  have HC := Aid.hid (slots_is b B x c k s t m 6 a d _ (h.below K0.out) (by omega) (by omega))
  rw [hL] at HC hsz
  obtain ⟨q, rfl⟩ : ∃ q : Nat, a = q := ⟨a.toNat, by omega⟩
  have HN := Aid.hid hn
  by_cases hq : q < L.size
  · have e1 : Fl.moved x c 6 q = some (Fl.e, L.extract q (q + 1)) := by
      unfold Fl.moved
      rw [hL, if_pos (by omega), if_pos (by omega)]; rfl
    rw [e1]
    have hq2 : ¬ ((L.size : Int) ≤ q) := by omega
    clear e1 h hL hn
    go_enter Tryd.func21, Tryd.ntmps21
    try simp only [List.append_eq, List.cons_append, List.nil_append]
    go_wp2_with fail
    go_at_call 25
    refine HC.out.mono ?_
    rintro e w1 ⟨rfl, hb1⟩
    have KW := Aid.hid (K0.out.trans (hb1.mono K0.out.size))
    have hh := HN.out.below hb1 HN.out.lt
    have a0 := hh.cell 0 _ rfl
    have a1 := hh.cell 1 _ rfl
    clear hb1 HC hh HN
    go_wp2_with fail
    go_ret3
    exact ⟨.yes, KW.out⟩
  · have e1 : Fl.moved x c 6 q = none := by
      unfold Fl.moved
      rw [hL, if_neg (by omega)]
    rw [e1]
    have hq2 : ((L.size : Int) ≤ q) := by omega
    clear e1 h hL hn
    go_enter Tryd.func21, Tryd.ntmps21
    try simp only [List.append_eq, List.cons_append, List.nil_append]
    go_wp2_with fail
    go_at_call 25
    refine HC.out.mono ?_
    rintro e w1 ⟨rfl, hb1⟩
    have KW := Aid.hid (K0.out.trans (hb1.mono K0.out.size))
    have hh := HN.out.below hb1 HN.out.lt
    have a0 := hh.cell 0 _ rfl
    have a1 := hh.cell 1 _ rfl
    clear hb1 HC hh HN
    go_wp2_with fail
    go_ret3
    exact ⟨.no, KW.out⟩
set_option maxRecDepth 100000 in
set_option maxHeartbeats 2000000 in
theorem moved_7 (b B : Nat) (x : Img) (c : Cod) (k s t : Value) (m : Int) (a d : Int) (w : World) (h : Ck w b x c k s t m B) (ha : 0 ≤ a) (hm : a ≤ 10000) :
    Calls Tryd.prog 21 #[.pointer (some ⟨b, 0, none⟩), .agg #[.int .i64 7, .int .i64 a, .int .i64 d]] w fun e w' => Fl.Ans (Fl.moved x c 7 a) e ∧ Below w.heap.size w w' := by
  have hn := Aid.Has.new w [.int .i64 7, .int .i64 a, .int .i64 d] 25
  have K0 : Hid (Below w.heap.size w (w.alloc (.cells #[.int .i64 7, .int .i64 a, .int .i64 d] 25))) := Aid.hid ((Below.refl _ w).alloc (Nat.le_refl _) _)
  obtain ⟨L, hL⟩ : ∃ L, Fl.slots x c 7 = L := ⟨_, rfl⟩
  have hsz := Fl.slots_le h.sm h.cm 7
  have HC := Aid.hid (slots_is b B x c k s t m 7 a d _ (h.below K0.out) (by omega) (by omega))
  rw [hL] at HC hsz
  obtain ⟨q, rfl⟩ : ∃ q : Nat, a = q := ⟨a.toNat, by omega⟩
  have HN := Aid.hid hn
  by_cases hq : q < L.size
  · have e1 : Fl.moved x c 7 q = some (L.extract q (q + 1), Fl.e) := by
      unfold Fl.moved
      rw [hL, if_pos (by omega), if_neg (by omega)]; rfl
    rw [e1]
    have hq2 : ¬ ((L.size : Int) ≤ q) := by omega
    clear e1 h hL hn
    go_enter Tryd.func21, Tryd.ntmps21
    try simp only [List.append_eq, List.cons_append, List.nil_append]
    go_wp2_with fail
    go_at_call 25
    refine HC.out.mono ?_
    rintro e w1 ⟨rfl, hb1⟩
    have KW := Aid.hid (K0.out.trans (hb1.mono K0.out.size))
    have hh := HN.out.below hb1 HN.out.lt
    have a0 := hh.cell 0 _ rfl
    have a1 := hh.cell 1 _ rfl
    clear hb1 HC hh HN
    go_wp2_with fail
    go_ret3
    exact ⟨.yes, KW.out⟩
  · have e1 : Fl.moved x c 7 q = none := by
      unfold Fl.moved
      rw [hL, if_neg (by omega)]
    rw [e1]
    have hq2 : ((L.size : Int) ≤ q) := by omega
    clear e1 h hL hn
    go_enter Tryd.func21, Tryd.ntmps21
    try simp only [List.append_eq, List.cons_append, List.nil_append]
    go_wp2_with fail
    go_at_call 25
    refine HC.out.mono ?_
    rintro e w1 ⟨rfl, hb1⟩
    have KW := Aid.hid (K0.out.trans (hb1.mono K0.out.size))
    have hh := HN.out.below hb1 HN.out.lt
    have a0 := hh.cell 0 _ rfl
    have a1 := hh.cell 1 _ rfl
    clear hb1 HC hh HN
    go_wp2_with fail
    go_ret3
    exact ⟨.no, KW.out⟩
set_option maxRecDepth 100000 in
set_option maxHeartbeats 2000000 in
theorem moved_8 (b B : Nat) (x : Img) (c : Cod) (k s t : Value) (m : Int) (a d : Int) (w : World) (h : Ck w b x c k s t m B) (ha : 0 ≤ a) (hm : a ≤ 10000) :
    Calls Tryd.prog 21 #[.pointer (some ⟨b, 0, none⟩), .agg #[.int .i64 8, .int .i64 a, .int .i64 d]] w fun e w' => Fl.Ans (Fl.moved x c 8 a) e ∧ Below w.heap.size w w' := by
  have hn := Aid.Has.new w [.int .i64 8, .int .i64 a, .int .i64 d] 25
  have K0 : Hid (Below w.heap.size w (w.alloc (.cells #[.int .i64 8, .int .i64 a, .int .i64 d] 25))) := Aid.hid ((Below.refl _ w).alloc (Nat.le_refl _) _)
  obtain ⟨L, hL⟩ : ∃ L, Fl.slots x c 8 = L := ⟨_, rfl⟩
  have hsz := Fl.slots_le h.sm h.cm 8
  have HC := Aid.hid (slots_is b B x c k s t m 8 a d _ (h.below K0.out) (by omega) (by omega))
  rw [hL] at HC hsz
  obtain ⟨q, rfl⟩ : ∃ q : Nat, a = q := ⟨a.toNat, by omega⟩
  have HN := Aid.hid hn
  by_cases hq : q < L.size
  · have e1 : Fl.moved x c 8 q = some (Fl.e, L.extract q (q + 1)) := by
      unfold Fl.moved
      rw [hL, if_pos (by omega), if_pos (by omega)]; rfl
    rw [e1]
    have hq2 : ¬ ((L.size : Int) ≤ q) := by omega
    clear e1 h hL hn
    go_enter Tryd.func21, Tryd.ntmps21
    try simp only [List.append_eq, List.cons_append, List.nil_append]
    go_wp2_with fail
    go_at_call 25
    refine HC.out.mono ?_
    rintro e w1 ⟨rfl, hb1⟩
    have KW := Aid.hid (K0.out.trans (hb1.mono K0.out.size))
    have hh := HN.out.below hb1 HN.out.lt
    have a0 := hh.cell 0 _ rfl
    have a1 := hh.cell 1 _ rfl
    clear hb1 HC hh HN
    go_wp2_with fail
    go_ret3
    exact ⟨.yes, KW.out⟩
  · have e1 : Fl.moved x c 8 q = none := by
      unfold Fl.moved
      rw [hL, if_neg (by omega)]
    rw [e1]
    have hq2 : ((L.size : Int) ≤ q) := by omega
    clear e1 h hL hn
    go_enter Tryd.func21, Tryd.ntmps21
    try simp only [List.append_eq, List.cons_append, List.nil_append]
    go_wp2_with fail
    go_at_call 25
    refine HC.out.mono ?_
    rintro e w1 ⟨rfl, hb1⟩
    have KW := Aid.hid (K0.out.trans (hb1.mono K0.out.size))
    have hh := HN.out.below hb1 HN.out.lt
    have a0 := hh.cell 0 _ rfl
    have a1 := hh.cell 1 _ rfl
    clear hb1 HC hh HN
    go_wp2_with fail
    go_ret3
    exact ⟨.no, KW.out⟩
set_option maxRecDepth 100000 in
set_option maxHeartbeats 2000000 in
theorem moved_9 (b B : Nat) (x : Img) (c : Cod) (k s t : Value) (m : Int) (a d : Int) (w : World) (h : Ck w b x c k s t m B) (ha : 0 ≤ a) (hm : a ≤ 10000) :
    Calls Tryd.prog 21 #[.pointer (some ⟨b, 0, none⟩), .agg #[.int .i64 9, .int .i64 a, .int .i64 d]] w fun e w' => Fl.Ans (Fl.moved x c 9 a) e ∧ Below w.heap.size w w' := by
  have hn := Aid.Has.new w [.int .i64 9, .int .i64 a, .int .i64 d] 25
  have K0 : Hid (Below w.heap.size w (w.alloc (.cells #[.int .i64 9, .int .i64 a, .int .i64 d] 25))) := Aid.hid ((Below.refl _ w).alloc (Nat.le_refl _) _)
  obtain ⟨L, hL⟩ : ∃ L, Fl.slots x c 9 = L := ⟨_, rfl⟩
  have hsz := Fl.slots_le h.sm h.cm 9
  have HC := Aid.hid (slots_is b B x c k s t m 9 a d _ (h.below K0.out) (by omega) (by omega))
  rw [hL] at HC hsz
  obtain ⟨q, rfl⟩ : ∃ q : Nat, a = q := ⟨a.toNat, by omega⟩
  have HN := Aid.hid hn
  by_cases hq : q < L.size
  · have e1 : Fl.moved x c 9 q = some (L.extract q (q + 1), Fl.e) := by
      unfold Fl.moved
      rw [hL, if_pos (by omega), if_neg (by omega)]; rfl
    rw [e1]
    have hq2 : ¬ ((L.size : Int) ≤ q) := by omega
    clear e1 h hL hn
    go_enter Tryd.func21, Tryd.ntmps21
    try simp only [List.append_eq, List.cons_append, List.nil_append]
    go_wp2_with fail
    go_at_call 25
    refine HC.out.mono ?_
    rintro e w1 ⟨rfl, hb1⟩
    have KW := Aid.hid (K0.out.trans (hb1.mono K0.out.size))
    have hh := HN.out.below hb1 HN.out.lt
    have a0 := hh.cell 0 _ rfl
    have a1 := hh.cell 1 _ rfl
    clear hb1 HC hh HN
    go_wp2_with fail
    go_ret3
    exact ⟨.yes, KW.out⟩
  · have e1 : Fl.moved x c 9 q = none := by
      unfold Fl.moved
      rw [hL, if_neg (by omega)]
    rw [e1]
    have hq2 : ((L.size : Int) ≤ q) := by omega
    clear e1 h hL hn
    go_enter Tryd.func21, Tryd.ntmps21
    try simp only [List.append_eq, List.cons_append, List.nil_append]
    go_wp2_with fail
    go_at_call 25
    refine HC.out.mono ?_
    rintro e w1 ⟨rfl, hb1⟩
    have KW := Aid.hid (K0.out.trans (hb1.mono K0.out.size))
    have hh := HN.out.below hb1 HN.out.lt
    have a0 := hh.cell 0 _ rfl
    have a1 := hh.cell 1 _ rfl
    clear hb1 HC hh HN
    go_wp2_with fail
    go_ret3
    exact ⟨.no, KW.out⟩
theorem moved_is (b B : Nat) (x : Img) (c : Cod) (k s t : Value) (m : Int) (q a d : Int) (w : World) (h : Ck w b x c k s t m B) (h1 : 4 ≤ q) (h2 : q ≤ 9) (ha : 0 ≤ a) (hm : a ≤ 10000) :
    Calls Tryd.prog 21 #[.pointer (some ⟨b, 0, none⟩), .agg #[.int .i64 q, .int .i64 a, .int .i64 d]] w fun e w' => Fl.Ans (Fl.moved x c q a) e ∧ Below w.heap.size w w' := by
  obtain rfl | rfl | rfl | rfl | rfl | rfl : q = 4 ∨ q = 5 ∨ q = 6 ∨ q = 7 ∨ q = 8 ∨ q = 9 := by omega
  · exact moved_4 b B x c k s t m a d w h ha hm
  · exact moved_5 b B x c k s t m a d w h ha hm
  · exact moved_6 b B x c k s t m a d w h ha hm
  · exact moved_7 b B x c k s t m a d w h ha hm
  · exact moved_8 b B x c k s t m a d w h ha hm
  · exact moved_9 b B x c k s t m a d w h ha hm
end Go.Proofs.YtcgfabnmkbiogaaDoor
