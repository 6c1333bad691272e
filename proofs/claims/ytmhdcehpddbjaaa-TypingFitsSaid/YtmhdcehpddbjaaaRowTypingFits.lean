/- TypingFits, for every input: the row, proved out of the walk. -/
import Derived.Test.YtmhdcehpddbjaaaRows
import Derived.Test.YtmhdcehpddbjaaaTypingFitsA
import Derived.Test.YtmhdcehpddbjaaaOpenUnit
import Derived.ProofKit
import Derived.Below
import Derived.Carry
import Derived.Deep.Slices
import Derived.Deep.Grids
import Derived.Lib.SmallJoins
namespace Go.Proofs.Ytmhdcehpddbjaaa
open Go.ChangeShapes Go.WideShapes Go.ChangeAt Go.RowKit Go.Deep Go.Joins

theorem own_TypingFits : ownKnob Try.prog.godebug = none := by kernel_rfl
theorem Try.laidOut_TypingFits : laidOutB Try.prog = true := by kernel_rfl

set_option maxRecDepth 100000 in
theorem typingFits_lifted (os : Os) (started : os.Started) (H : Type) (enc : TypeId × Value → H) :
    ReturnsInHanded {} Try.checked os 5 .any (Rows.typingFitsSpec.pre6 enc Try.prog Try.f5 Rows.typingFitsRow.domain false) (Rows.typingFitsSpec.post enc Try.prog Try.f5 false true false false) := by
  refine returnsInHanded_of_change (C := Try.checked) own_TypingFits started (by kernel_rfl) Try.func5
    (ChangeSpec.witness6 (enc := enc) (C := Try.checked) false ⟨#[], #[.agg #[.slice none 0 0], .agg #[.int .i64 0, .int .i64 0, .int .i64 0, .string ⟨#[]⟩], .agg #[.int .i64 0, .int .i64 0, .int .i64 0, .string ⟨#[]⟩], .int .i64 0, .int .i64 0, .int .i64 0], []⟩ 8 (by kernel_rfl) (by kernel_rfl) (by kernel_rfl) (by kernel_rfl)) ?_
  intro W base args ds gs before hval0 hW _ _
  skip
  have hval : ∀ (j : Nat) t v, Try.f5.params[j]? = some t → args[j]? = some v → Value.okWide Try.prog W .any base t v := hval0
  have hW' := hW
  obtain ⟨p, q, hA0, hV, rfl, hfz, hnd⟩ := hW
  have hA : DataW.TrodAll enc Try.prog W 0 (fun _ => true) true Try.f5.params.toList args.toList ds p := hA0
  rw [Try.params5] at hA hval
  obtain ⟨v0, vs0, d0, ds0, p0, q0, hargs, rfl, rfl, h0, r0⟩ := trodAll_cons hA
  obtain ⟨v1, vs1, d1, ds1, p1, q1, rfl, rfl, rfl, h1, r1⟩ := trodAll_cons r0
  obtain ⟨v2, vs2, d2, ds2, p2, q2, rfl, rfl, rfl, h2, r2⟩ := trodAll_cons r1
  obtain ⟨v3, vs3, d3, ds3, p3, q3, rfl, rfl, rfl, h3, r3⟩ := trodAll_cons r2
  obtain ⟨v4, vs4, d4, ds4, p4, q4, rfl, rfl, rfl, h4, r4⟩ := trodAll_cons r3
  obtain ⟨v5, vs5, d5, ds5, p5, q5, rfl, rfl, rfl, h5, r5⟩ := trodAll_cons r4
  obtain ⟨rfl, rfl, rfl⟩ := trodAll_nil r5
  obtain rfl : args = #[v0, v1, v2, v3, v4, v5] := by cases args; simpa using hargs
  simp only [List.append_nil] at hW'
  obtain ⟨rfl, rfl⟩ := trodVars_none hV
  clear hA0 hval0
  simp only [List.append_nil] at hW'
  have hlt0 : ∀ x ∈ p0, x.block < W.heap.size := fun x hx => hW'.lt x (by simp [hx])
  have hlt1 : ∀ x ∈ p1, x.block < W.heap.size := fun x hx => hW'.lt x (by simp [hx])
  have hlt2 : ∀ x ∈ p2, x.block < W.heap.size := fun x hx => hW'.lt x (by simp [hx])
  have hlt3 : ∀ x ∈ p3, x.block < W.heap.size := fun x hx => hW'.lt x (by simp [hx])
  have hlt4 : ∀ x ∈ p4, x.block < W.heap.size := fun x hx => hW'.lt x (by simp [hx])
  have hlt5 : ∀ x ∈ p5, x.block < W.heap.size := fun x hx => hW'.lt x (by simp [hx])
  have fin : ∀ (e : Ending) (W' : World), (e = .returned (.bool true) ∧ Below W.heap.size W W') → ∃ v, e = Ending.returned v ∧ Rows.typingFitsSpec.post enc Try.checked.prog Try.f5 false true false false W #[v0, v1, v2, v3, v4, v5] v W' := by
    rintro e W' ⟨rfl, hb⟩
    exact ⟨_, rfl, _, _, _, [], p0 ++ (p1 ++ (p2 ++ (p3 ++ (p4 ++ (p5))))), [], hW', trodAll_mk1 (shut_bool Try.underlying4 _), trodAll_cons_mk (Below.trod Try.laidOut_TypingFits (by kernel_rfl) (of_decide_eq_true (by kernel_rfl)) h0 hb hlt0) (trodAll_cons_mk (Below.trod Try.laidOut_TypingFits (by kernel_rfl) (of_decide_eq_true (by kernel_rfl)) h1 hb hlt1) (trodAll_cons_mk (Below.trod Try.laidOut_TypingFits (by kernel_rfl) (of_decide_eq_true (by kernel_rfl)) h2 hb hlt2) (trodAll_cons_mk (Below.trod Try.laidOut_TypingFits (by kernel_rfl) (of_decide_eq_true (by kernel_rfl)) h3 hb hlt3) (trodAll_cons_mk (Below.trod Try.laidOut_TypingFits (by kernel_rfl) (of_decide_eq_true (by kernel_rfl)) h4 hb hlt4) (trodAll_mk1 (Below.trod Try.laidOut_TypingFits (by kernel_rfl) (of_decide_eq_true (by kernel_rfl)) h5 hb hlt5)))))), rfl, hb.frame _, fun h => by cases h⟩
  obtain ⟨cs0, rfl, _⟩ := okWide_struct Try.underlying24 (hval 0 24 v0 rfl rfl)
  obtain ⟨cs1, rfl, _⟩ := okWide_struct Try.underlying36 (hval 1 36 v1 rfl rfl)
  obtain ⟨cs2, rfl, _⟩ := okWide_struct Try.underlying36 (hval 2 36 v2 rfl rfl)
  obtain ⟨x3, rfl, rfl, rfl, w3⟩ := open_int Try.underlying3 (hval 3 3 v3 rfl rfl) h3
  obtain ⟨x4, rfl, rfl, rfl, w4⟩ := open_int Try.underlying3 (hval 4 3 v4 rfl rfl) h4
  obtain ⟨x5, rfl, rfl, rfl, w5⟩ := open_int Try.underlying3 (hval 5 3 v5 rfl rfl) h5
  obtain ⟨fu0, hf0⟩ := h0
  obtain ⟨fu1, hf1⟩ := h1
  obtain ⟨fu2, hf2⟩ := h2
  refine Calls.mono (?_ : Calls Try.prog _ _ W fun e W' => e = .returned (.bool true) ∧ Below W.heap.size W W') fin
  obtain ⟨a, u, c, ea, lu, ru⟩ := unit_open (cs := cs0.toList) (by simpa [Value.cells] using hf0) hlt0
  obtain rfl : cs0 = #[.slice a u.length c] := by rw [← Array.toArray_toList (xs := cs0), ea]
  obtain ⟨to, e1⟩ := oty (cs := cs1.toList) (by simpa [Value.cells] using hf1) hlt1
  obtain rfl : cs1 = to.cells.toArray := by rw [← Array.toArray_toList (xs := cs1), e1]
  obtain ⟨fr, e2⟩ := oty (cs := cs2.toList) (by simpa [Value.cells] using hf2) hlt2
  obtain rfl : cs2 = fr.cells.toArray := by rw [← Array.toArray_toList (xs := cs2), e2]
  exact typingFits_any u a c to fr x3 x4 x5 W lu ru

theorem typingFits_holds : Rows.TypingFitsSaid :=
  OpenClaim.holds_of_wide 5 Try.f5 rfl rfl rfl rfl rfl rfl rfl ⟨rfl, rfl, rfl, rfl, rfl⟩ rfl rfl rfl rfl rfl (by kernel_rfl) Try.func5 (by kernel_rfl)
    (of_decide_eq_true (by kernel_rfl)) (by unfold Func.isWrapper; first | (rw [if_pos (by decide +kernel)]; kernel_rfl) | (rw [if_neg (by decide +kernel)]; exact ⟨rfl, rfl⟩))
    (fun os started H enc _ => typingFits_lifted os started H enc)

end Go.Proofs.Ytmhdcehpddbjaaa
