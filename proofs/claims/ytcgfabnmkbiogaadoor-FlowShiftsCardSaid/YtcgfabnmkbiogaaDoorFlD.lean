/- What a method of some takes and leaves. -/
import Derived.Test.YtcgfabnmkbiogaaDoorFlC
import Derived.Test.YtcgfabnmkbiogaaDoorFlParts
import Derived.WalkKit
import Derived.WalkSpells
import Derived.WalkLawsBesides
import Derived.LoopTactic
import Derived.Deep.QuietTactic
import Derived.BigQuiet
import Derived.Below
import Derived.Laws.ResultCell
import Derived.Laws.Tables
import Derived.Laws.Rows
import Derived.Deep.Cut
import Derived.KernelRfl
namespace Go.Proofs.YtcgfabnmkbiogaaDoor
open Go.RowKit

theorem Op.parts_len (l : List UInt8) : (Op.parts l).1.length ≤ 3 := by
  unfold Op.parts
  split
  · rename_i h; exact (Classical.choose_spec h).2
  · simp
set_option maxRecDepth 100000 in
set_option maxHeartbeats 2000000 in
theorem sig_is (A : Option Addr) (cap B : Nat) (sigs : List ByteArray) (n : Int) (ahead : ByteArray) (w : World) (hA : LTexts w B A sigs) (hB : B ≤ w.heap.size) (h0 : 0 ≤ n) (hz : ∀ s ∈ sigs, s.size ≤ 1000) (hh : ahead.size ≤ 10) (hm : Fl.Max w) :
    Calls Tryd.prog 29 #[.slice A sigs.length cap, .int .i64 n, .string ahead] w fun e w' => Fl.Ans (Fl.sig sigs n ahead) e ∧ Below w.heap.size w w' := by
  obtain ⟨q, rfl⟩ : ∃ q : Nat, n = q := ⟨n.toNat, by omega⟩
  have hl := hA.1
  unfold Lim at hl
  by_cases hq : q < sigs.length
  · obtain ⟨s, hs⟩ : ∃ s, sigs[q]? = some s := ⟨_, List.getElem?_eq_getElem hq⟩
    have e1 : Fl.sig sigs q ahead = Fl.sign s ahead := by
      unfold Fl.sig
      rw [show ((q : Int)).toNat = q by omega, hs]
    rw [e1]
    obtain ⟨p, r, ok, hp⟩ : ∃ p r ok, Op.parts s.data.toList = (p, r, ok) := ⟨_, _, _, rfl⟩
    have hpl : p.length ≤ 3 := by have := Op.parts_len s.data.toList; rwa [hp] at this
    have e2 : Fl.sign s ahead = if ok then some (ahead ++ ⟨p.toArray⟩, Fl.ans r) else none := by
      unfold Fl.sign; rw [hp]; cases ok <;> rfl
    obtain ⟨mm, hmm⟩ := hm
    have HC := Aid.hid (parts_is s p r ok hp (hz s (List.mem_of_getElem? hs)) mm w hmm)
    obtain ⟨T, hT⟩ : ∃ T : ByteArray, (⟨p.toArray⟩ : ByteArray) = T := ⟨_, rfl⟩
    have hTs : T.size ≤ 3 := by rw [← hT]; exact hpl
    rw [hT] at HC e2
    obtain ⟨O, hO⟩ : ∃ O, Fl.sign s ahead = O := ⟨_, rfl⟩
    rw [hO] at e2 ⊢
    have HO := Aid.hid e2
    obtain ⟨p1, o1, rfl, hb1, hc1⟩ := Rows.get hA.2 hs
    have c0 := hc1 0 _ rfl
    simp only [Nat.mul_one, Nat.add_zero] at c0
    have lt1 : p1 < w.heap.size := Nat.lt_of_lt_of_le hb1 hB
    clear hA hz e1 e2 hO hc1 hs hp hT hmm
    go_enter Tryd.func29, Tryd.ntmps29
    try simp only [List.append_eq, List.cons_append, List.nil_append]
    go_wp2_with fail
    go_at_call 35
    refine HC.out.mono ?_
    rintro e w1 ⟨rfl, hb⟩
    have KW := Aid.hid hb
    clear HC hb c0
    go_wp2_with fail
    go_at_call 36
    refine (answer_is r _).mono ?_
    rintro e w2 ⟨rfl, rfl⟩
    go_wp2_with fail
    go_ret3
    exact ⟨⟨ahead ++ T, Fl.ans r, ok, rfl, HO.out⟩, KW.out⟩
  · have e1 : Fl.sig sigs q ahead = none := by
      unfold Fl.sig
      rw [show ((q : Int)).toNat = q by omega, List.getElem?_eq_none (by omega)]
    rw [e1]
    have hq2 : (sigs.length : Int) ≤ q := by omega
    clear hA hz hm e1
    go_enter Tryd.func29, Tryd.ntmps29
    try simp only [List.append_eq, List.cons_append, List.nil_append]
    go_wp2_with fail
    go_ret3
    exact ⟨.no, Below.refl _ _⟩
end Go.Proofs.YtcgfabnmkbiogaaDoor
