/- TypingBodies, for every input: the row, proved out of the walk. -/
import Derived.Test.YtmhdcehpddbjaaaRows
import Derived.Test.YtmhdcehpddbjaaaTyBodies
import Derived.Test.YtmhdcehpddbjaaaOpenCap
import Derived.JoinedCond
import Derived.OpenShut
import Derived.ProofKit
import Derived.Below
import Derived.Carry
import Derived.Deep.Slices
import Derived.Deep.Grids
import Derived.Lib.SmallJoins
namespace Go.Proofs.Ytmhdcehpddbjaaa
open Go.ChangeShapes Go.WideShapes Go.ChangeAt Go.RowKit Go.Deep Go.Joins

theorem own_TypingBodies : ownKnob Try.prog.godebug = none := by kernel_rfl
theorem Try.laidOut_TypingBodies : laidOutB Try.prog = true := by kernel_rfl

set_option maxRecDepth 100000 in
theorem typingBodies_lifted (os : Os) (started : os.Started) (H : Type) (enc : TypeId × Value → H) (F : Stop.Interp) :
    ReturnsInHanded {} Try.checked os 4 .any ((Rows.OpenSpec.upto Rows.typingBodiesSpec).pre6 enc Try.prog Try.f4 Rows.typingBodiesUptoRow.domain false) (((Rows.OpenSpec.upto Rows.typingBodiesSpec).at F).post enc Try.prog Try.f4 false true false false) := by
  refine returnsInHanded_of_cond (C := Try.checked) (s := Rows.OpenSpec.upto Rows.typingBodiesSpec) (k := Rows.uptoSmall) rfl own_TypingBodies started (by kernel_rfl) Try.func4
    (OpenSpec.witness (enc := enc) (C := Try.checked) (s := Rows.OpenSpec.upto Rows.typingBodiesSpec) (k := Rows.uptoSmall) rfl false ⟨#[], #[.agg #[.slice none 0 0]], []⟩ 8 (by kernel_rfl) (by kernel_rfl) (by kernel_rfl)
      (x := ([.agg [.nil]], [], [])) (by kernel_rfl) rfl (by kernel_rfl)) ?_
  intro W base args ds gs before hval0 hW _ hk _
  skip
  have hval : ∀ (j : Nat) t v, Try.f4.params[j]? = some t → args[j]? = some v → Value.okWide Try.prog W .any base t v := hval0
  have hW' := hW
  obtain ⟨p, q, hA0, hV, rfl, hfz, hnd⟩ := hW
  have hA : DataW.TrodAll enc Try.prog W 0 (fun _ => true) true Try.f4.params.toList args.toList ds p := hA0
  rw [Try.params4] at hA hval
  obtain ⟨v0, d0, rfl, rfl, h0⟩ := trodAll_one hA
  obtain ⟨rfl, rfl⟩ := trodVars_none hV
  clear hA0 hval0
  simp only [List.append_nil] at hW' hk
  have hlt0 : ∀ x ∈ p, x.block < W.heap.size := fun x hx => hW'.lt x (by simp [hx])
  have fin : ∀ (e : Ending) (W' : World), (e = .returned (.bool true) ∧ Below W.heap.size W W') → ∃ v, e = Ending.returned v ∧ Rows.typingBodiesSpec.post enc Try.checked.prog Try.f4 false true false false W #[v0] v W' := by
    rintro e W' ⟨rfl, hb⟩
    exact ⟨_, rfl, _, _, _, [], p, [], hW', trodAll_mk1 (shut_bool Try.underlying4 _), trodAll_mk1 (Below.trod Try.laidOut_TypingBodies (by kernel_rfl) (of_decide_eq_true (by kernel_rfl)) h0 hb hlt0), rfl, hb.frame _, fun h => by cases h⟩
  obtain ⟨cs0, rfl, _⟩ := okWide_struct Try.underlying24 (hval 0 24 v0 rfl rfl)
  obtain ⟨fu0, hf0⟩ := h0
  have hb0 : Rows.uptoBulk d0 ≤ 1048576 := Nat.le_trans (bulk_part (by simp)) (of_decide_eq_true hk)
  refine Calls.mono (?_ : Calls Try.prog _ _ W fun e W' => e = .returned (.bool true) ∧ Below W.heap.size W W') fin
  obtain ⟨a, u, c, ea, hu, hd⟩ := unit_openc (M := 1048576) (by decide) (cs := cs0.toList) (y := (d0, p)) (by simpa [Value.cells] using hf0) hlt0 hb0
  obtain rfl : cs0 = #[.slice a u.length c] := by rw [← Array.toArray_toList (xs := cs0), ea]
  exact bodies_any u a W.heap.size c W hu (Nat.le_refl _) (fun hn => ⟨by omega, fun d hm => (hd d hm).vs, fun d hm m hmm => ⟨Nat.le_trans ((hd d hm).ms m hmm).ps (by decide), Nat.le_trans ((hd d hm).ms m hmm).vs (by decide)⟩⟩) (fun d hm => ⟨(hd d hm).body, fun m hmm => ((hd d hm).ms m hmm).body⟩)

theorem typingBodies_holds : Rows.TypingBodiesUptoSaid :=
  OpenClaim.holds_of_cond 4 Try.f4 rfl rfl rfl rfl rfl rfl rfl ⟨rfl, rfl, rfl, rfl, rfl⟩ rfl rfl rfl rfl rfl (by kernel_rfl) Try.func4 (by kernel_rfl)
    (of_decide_eq_true (by kernel_rfl)) (by unfold Func.isWrapper; first | (rw [if_pos (by decide +kernel)]; kernel_rfl) | (rw [if_neg (by decide +kernel)]; exact ⟨rfl, rfl⟩))
    (fun os started H enc _ F => typingBodies_lifted os started H enc F)

end Go.Proofs.Ytmhdcehpddbjaaa
