/- TypingJoins, for every input: the row, proved out of the walk. -/
import Derived.Test.YtmhdcehpddbjaaaRows
import Derived.Test.YtmhdcehpddbjaaaTypingJoins
import Derived.Test.YtmhdcehpddbjaaaOpenUnit
import Derived.Test.YtmhdcehpddbjaaaOpenBulk
import Derived.JoinedCond
import Derived.OpenShut
import Derived.ProofKit
import Derived.Below
import Derived.Carry
import Derived.Deep.Slices
import Derived.Deep.Grids
import Derived.Lib.SmallJoins
namespace Go.Proofs.Ytmhdcehpddbjaaa
open Go.ChangeShapes Go.WideShapes Go.ChangeAt Go.RowKit Go.Deep Go.Joins

theorem own_TypingJoins : ownKnob Try.prog.godebug = none := by kernel_rfl
theorem Try.laidOut_TypingJoins : laidOutB Try.prog = true := by kernel_rfl

set_option maxRecDepth 100000 in
theorem typingJoins_lifted (os : Os) (started : os.Started) (H : Type) (enc : TypeId × Value → H) (F : Stop.Interp) :
    ReturnsInHanded {} Try.checked os 6 .any ((Rows.OpenSpec.upto Rows.typingJoinsSpec).pre6 enc Try.prog Try.f6 Rows.typingJoinsUptoRow.domain false) (((Rows.OpenSpec.upto Rows.typingJoinsSpec).at F).post enc Try.prog Try.f6 false true false false) := by
  refine returnsInHanded_of_cond (C := Try.checked) (s := Rows.OpenSpec.upto Rows.typingJoinsSpec) (k := Rows.uptoSmall) rfl own_TypingJoins started (by kernel_rfl) Try.func6
    (OpenSpec.witness (enc := enc) (C := Try.checked) (s := Rows.OpenSpec.upto Rows.typingJoinsSpec) (k := Rows.uptoSmall) rfl false ⟨#[], #[.agg #[.slice none 0 0], .agg #[.int .i64 0, .int .i64 0], .slice none 0 0, .slice none 0 0], []⟩ 8 (by kernel_rfl) (by kernel_rfl) (by kernel_rfl)
      (x := ([.agg [.nil], .agg [.lit (.int .i64 0), .lit (.int .i64 0)], .nil, .nil], [], [])) (by kernel_rfl) rfl (by kernel_rfl)) ?_
  intro W base args ds gs before hval0 hW _ hk _
  skip
  have hval : ∀ (j : Nat) t v, Try.f6.params[j]? = some t → args[j]? = some v → Value.okWide Try.prog W .any base t v := hval0
  have hW' := hW
  obtain ⟨p, q, hA0, hV, rfl, hfz, hnd⟩ := hW
  have hA : DataW.TrodAll enc Try.prog W 0 (fun _ => true) true Try.f6.params.toList args.toList ds p := hA0
  rw [Try.params6] at hA hval
  obtain ⟨v0, v1, v2, v3, d0, d1, d2, d3, p0, p1, p2, p3, rfl, rfl, rfl, h0, h1, h2, h3⟩ := trodAll_four hA
  obtain ⟨rfl, rfl⟩ := trodVars_none hV
  clear hA0 hval0
  simp only [List.append_nil] at hW' hk
  have hlt0 : ∀ x ∈ p0, x.block < W.heap.size := fun x hx => hW'.lt x (by simp [hx])
  have hlt1 : ∀ x ∈ p1, x.block < W.heap.size := fun x hx => hW'.lt x (by simp [hx])
  have hlt2 : ∀ x ∈ p2, x.block < W.heap.size := fun x hx => hW'.lt x (by simp [hx])
  have hlt3 : ∀ x ∈ p3, x.block < W.heap.size := fun x hx => hW'.lt x (by simp [hx])
  have fin : ∀ (e : Ending) (W' : World), (e = .returned (.bool true) ∧ Below W.heap.size W W') → ∃ v, e = Ending.returned v ∧ Rows.typingJoinsSpec.post enc Try.checked.prog Try.f6 false true false false W #[v0, v1, v2, v3] v W' := by
    rintro e W' ⟨rfl, hb⟩
    exact ⟨_, rfl, _, _, _, [], p0 ++ (p1 ++ (p2 ++ (p3))), [], hW', trodAll_mk1 (shut_bool Try.underlying4 _), trodAll_mk4 (Below.trod Try.laidOut_TypingJoins (by kernel_rfl) (of_decide_eq_true (by kernel_rfl)) h0 hb hlt0) (Below.trod Try.laidOut_TypingJoins (by kernel_rfl) (of_decide_eq_true (by kernel_rfl)) h1 hb hlt1) (Below.trod Try.laidOut_TypingJoins (by kernel_rfl) (of_decide_eq_true (by kernel_rfl)) h2 hb hlt2) (Below.trod Try.laidOut_TypingJoins (by kernel_rfl) (of_decide_eq_true (by kernel_rfl)) h3 hb hlt3), rfl, hb.frame _, fun h => by cases h⟩
  obtain ⟨cs0, rfl, _⟩ := okWide_struct Try.underlying24 (hval 0 24 v0 rfl rfl)
  obtain ⟨cs1, rfl, _⟩ := okWide_struct Try.underlying26 (hval 1 26 v1 rfl rfl)
  obtain ⟨a2, len2, cap2, rfl⟩ := okWide_slice Try.underlying30 (hval 2 30 v2 rfl rfl)
  obtain ⟨a3, len3, cap3, rfl⟩ := okWide_slice Try.underlying30 (hval 3 30 v3 rfl rfl)
  obtain ⟨fu0, hf0⟩ := h0
  obtain ⟨fu1, hf1⟩ := h1
  obtain ⟨fu2, hf2⟩ := h2
  obtain ⟨fu3, hf3⟩ := h3
  have hb0 : Rows.uptoBulk d0 ≤ 1048576 := Nat.le_trans (bulk_part (by simp)) (of_decide_eq_true hk)
  have hb2 : Rows.uptoBulk d2 ≤ 1048576 := Nat.le_trans (bulk_part (by simp)) (of_decide_eq_true hk)
  have hb3 : Rows.uptoBulk d3 ≤ 1048576 := Nat.le_trans (bulk_part (by simp)) (of_decide_eq_true hk)
  refine Calls.mono (?_ : Calls Try.prog _ _ W fun e W' => e = .returned (.bool true) ∧ Below W.heap.size W W') fin
  obtain ⟨a, u, c, ea, lu, ru⟩ := unit_open (cs := cs0.toList) (by simpa [Value.cells] using hf0) hlt0
  obtain rfl : cs0 = #[.slice a u.length c] := by rw [← Array.toArray_toList (xs := cs0), ea]
  obtain ⟨x, y, ex⟩ := where_open (cs := cs1.toList) (by simpa [Value.cells] using hf1) hlt1
  obtain rfl : cs1 = #[.int .i64 x, .int .i64 y] := by rw [← Array.toArray_toList (xs := cs1), ex]
  obtain ⟨A2, la, c2, e2, s2, n2, l2⟩ := sts_opens (M := 1048576) (by decide) fu2 [.slice a2 len2 cap2] (d2, p2) (by simpa [Value.cells] using hf2) hlt2 hb2
  obtain ⟨A3, lb, c3, e3, s3, n3, l3⟩ := sts_opens (M := 1048576) (by decide) fu3 [.slice a3 len3 cap3] (d3, p3) (by simpa [Value.cells] using hf3) hlt3 hb3
  simp at e2 e3
  obtain ⟨rfl, rfl, rfl⟩ := e2
  obtain ⟨rfl, rfl, rfl⟩ := e3
  have hu0 : DataW.trod enc Try.prog W 0 (fun _ => true) true fu0 24 [.slice a u.length c] = some (d0, p0) := by simpa [Value.cells] using hf0
  have hus := ru (Nat.le_trans (unit_short (y := (d0, p0)) hu0 hb0) (by decide))
  exact joins_any (fu2 + fu3 + 1) u a W.heap.size c x y la lb _ _ _ _ W hus (Nat.le_refl _) (unit_bulk (y := (d0, p0)) hu0 hb0 hus) (fun d hd m hm => ⟨Nat.le_trans (unit_meths (y := (d0, p0)) hu0 hb0 hus d hd m hm).1 (by decide), Nat.le_trans (unit_meths (y := (d0, p0)) hu0 hb0 hus d hd m hm).2 (by decide)⟩) (s2.more (by omega)) (s3.more (by omega)) (l2 _) (l3 _) (Nat.le_trans n2 (by decide)) (Nat.le_trans n3 (by decide)) (Nat.succ_pos _)

theorem typingJoins_holds : Rows.TypingJoinsUptoSaid :=
  OpenClaim.holds_of_cond 6 Try.f6 rfl rfl rfl rfl rfl rfl rfl ⟨rfl, rfl, rfl, rfl, rfl⟩ rfl rfl rfl rfl rfl (by kernel_rfl) Try.func6 (by kernel_rfl)
    (of_decide_eq_true (by kernel_rfl)) (by unfold Func.isWrapper; first | (rw [if_pos (by decide +kernel)]; kernel_rfl) | (rw [if_neg (by decide +kernel)]; exact ⟨rfl, rfl⟩))
    (fun os started H enc _ F => typingJoins_lifted os started H enc F)

end Go.Proofs.Ytmhdcehpddbjaaa
