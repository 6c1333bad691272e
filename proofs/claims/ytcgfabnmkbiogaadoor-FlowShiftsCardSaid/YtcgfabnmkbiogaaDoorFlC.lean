/- The checker reads: row. -/
import Derived.Test.YtcgfabnmkbiogaaDoorFlB
import Derived.Test.YtcgfabnmkbiogaaDoorShelf
import Derived.WalkKit
import Derived.WalkSpells
import Derived.WalkLawsBesides
import Derived.LoopTactic
import Derived.Deep.QuietTactic
import Derived.BigQuiet
import Derived.Below
import Derived.Laws.ResultCell
import Derived.Laws.Tables
import Derived.Laws.Rows
import Derived.Deep.Cut
import Derived.KernelRfl
namespace Go.Proofs.YtcgfabnmkbiogaaDoor
open Go.RowKit

set_option maxRecDepth 100000 in
set_option maxHeartbeats 2000000 in
theorem row_is (b B : Nat) (x : Img) (c : Cod) (k s t : Value) (m : Int) (k' a d : Int) (r : Bool) (w : World) (h : Ck w b x c k s t m B) (h1 : 4 ≤ k') (h2 : k' ≤ 15) (ha : 0 ≤ a) (hm : a ≤ 10000) (hd : 0 ≤ d) (hn : d ≤ 10000) (hr : Fl.row x c k' a d = r) :
    Calls Tryd.prog 22 #[.pointer (some ⟨b, 0, none⟩), .agg #[.int .i64 k', .int .i64 a, .int .i64 d]] w fun e w' => e = .returned (.bool r) ∧ Below w.heap.size w w' := by
  obtain ⟨q, rfl⟩ : ∃ q : Nat, a = q := ⟨a.toNat, by omega⟩
  obtain ⟨p, rfl⟩ : ∃ p : Nat, d = p := ⟨d.toNat, by omega⟩
  have hn := Aid.Has.new w [.int .i64 k', .int .i64 q, .int .i64 p] 25
  have K0 : Hid (Below w.heap.size w (w.alloc (.cells #[.int .i64 k', .int .i64 q, .int .i64 p] 25))) := Aid.hid ((Below.refl _ w).alloc (Nat.le_refl _) _)
  obtain ⟨L, hL⟩ : ∃ L, Fl.slots x c k' = L := ⟨_, rfl⟩
  have hsz := Fl.slots_le h.sm h.cm k'
  have HC := Aid.hid (slots_is b B x c k s t m k' q p _ (h.below K0.out) h1 h2)
  rw [hL] at HC hsz
  have HN := Aid.hid hn
  have e0 : Fl.row x c k' q p = (decide ((q : Int) + p ≤ L.size) && decide (((Lib.countByte (L.extract q (q + p)).data.toList 105 : Nat) : Int) = p)) := by
    unfold Fl.row; rw [hL]; rfl
  rw [e0] at hr
  have HR := Aid.hid hr
  clear e0 hr h hL hn h1 h2
  by_cases hq : (q : Int) + p ≤ L.size
  · have hs2 : (q : Int) + p < 9223372036854775807 := by omega
    obtain ⟨z, hz⟩ : ∃ z, Lib.countByte (L.extract q (q + p)).data.toList 105 = z := ⟨_, rfl⟩
    have hcount := fun w => Tryd.strings_Count_one (L.extract q (q + p)) 105 w
    rw [hz] at hcount HR
    have er : decide ((z : Int) = p) = r := by have := HR.out; rwa [decide_eq_true hq, Bool.true_and] at this
    have HCO := Aid.hid hcount
    have ER := Aid.hid er
    clear hcount hz er HR
    go_enter Tryd.func22, Tryd.ntmps22
    try simp only [List.append_eq, List.cons_append, List.nil_append]
    go_wp2_with fail
    go_at_call 25
    refine HC.out.mono ?_
    rintro e w1 ⟨rfl, hb1⟩
    have KW := Aid.hid (K0.out.trans (hb1.mono K0.out.size))
    have hh := HN.out.below hb1 HN.out.lt
    have a1 := hh.cell 1 _ rfl
    have a2 := hh.cell 2 _ rfl
    clear hb1 HC hh HN
    go_wp2_with fail
    go_quiet ((go_at_call 26; exact Calls.quiet_of_same (HCO.out _)))
    go_wp2_with fail
    go_ret
    refine ⟨?_, Fl.drewN KW.out _⟩
    rw [← ER.out]; rfl
  · have hq2 : ((q : Int) + p ≤ L.size) = False := by simpa using hq
    obtain rfl : false = r := by have := HR.out; rwa [decide_eq_false hq, Bool.false_and] at this
    clear HR
    go_enter Tryd.func22, Tryd.ntmps22
    try simp only [List.append_eq, List.cons_append, List.nil_append]
    go_wp2_with fail
    go_at_call 25
    refine HC.out.mono ?_
    rintro e w1 ⟨rfl, hb1⟩
    have KW := Aid.hid (K0.out.trans (hb1.mono K0.out.size))
    have hh := HN.out.below hb1 HN.out.lt
    have a1 := hh.cell 1 _ rfl
    have a2 := hh.cell 2 _ rfl
    clear hb1 HC hh HN
    go_wp2_with fail
    go_quiet (fail)
    go_wp2_with fail
    go_ret
    exact ⟨rfl, Fl.drewN KW.out _⟩
end Go.Proofs.YtcgfabnmkbiogaaDoor
