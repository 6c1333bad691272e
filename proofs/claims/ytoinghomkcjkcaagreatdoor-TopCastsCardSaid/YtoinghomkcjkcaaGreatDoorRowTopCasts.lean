/- TopCasts, for every input: the row, proved out of the walk; and its card. -/
import Derived.Test.YtoinghomkcjkcaaGreatDoorCards
import Derived.Test.YtoinghomkcjkcaaGreatDoorTpTie
import Derived.Test.YtoinghomkcjkcaaGreatDoorTpDoor
import Derived.Test.YtoinghomkcjkcaaGreatDoorTpLo
import Derived.Test.YtoinghomkcjkcaaGreatDoorTpRun
import Derived.Test.YtoinghomkcjkcaaGreatDoorTpCasts
import Derived.LaidHandle
import Derived.Stop.Joined
import Derived.LaidByTextLater
import Derived.SevenTiedAt
import Derived.ProofKit
import Derived.OpenShut
import Derived.Below
import Derived.Carry
import Derived.Deep.Slices
import Derived.Deep.Grids
import Derived.Lib.SmallJoins
import Derived.Deep.DeepHandedRow
import Derived.Deep.DeepWitnessRowRef
import Derived.Lib.LaidTab
import Derived.Shelf.Vars
import Derived.Test.YtoinghomkcjkcaaGreatDoorRwACasts
import Derived.Test.YtoinghomkcjkcaaGreatDoorRwBCasts
namespace Go.Proofs.YtoinghomkcjkcaaGreatDoor
set_option linter.constructorNameAsVariable false
set_option linter.unusedVariables false
set_option linter.unusedSimpArgs false
open Go.ChangeShapes Go.WideShapes Go.ChangeAt Go.RowKit Go.Deep Go.Joins
theorem door_TopCasts {W : World} (h : laidMetH Tryz.prog Rows.topCastsRow.laid W) (hS : W.ShapedOpen Tryz.prog) : Tp.Asc W := by
  have h' : laidMet Tryz.prog (Rows.topCastsRow.laid.filter fun x => x.2.handleName?.isNone) W ∧ handlesMet Tryz.prog [("errors.errorType", Rows.laid_errors_errorType)] W := h
  exact Tp.asc_door h'.1 hS

theorem own_TopCasts : ownKnob Tryz.prog.godebug = none := by kernel_rfl
theorem Tryz.laidOut_TopCasts : laidOutB Tryz.prog = true := Tp.laidOut

set_option maxRecDepth 100000 in
theorem topCasts_contract (H : Type) (enc : TypeId × Value → H) (W : World) (base : Nat) (args : Array Value) (ds gs : List (DataW H)) (before : List MemPlace)
    (hval : ∀ (j : Nat) t v, Tryz.f3.params[j]? = some t → args[j]? = some v → Value.okWide Tryz.prog W .any base t v)
    (hW : DataW.Whole enc Tryz.prog Tryz.f3.params.toList Rows.topCastsSpec.vars false W args.toList ds gs before) (hL : laidMetH Tryz.prog Rows.topCastsRow.laid W) (hS : W.ShapedOpen Tryz.prog) :
    Calls Tryz.prog 3 args W fun e W' => ∃ v, e = .returned v ∧ Rows.topCastsSpec.post enc Tryz.prog Tryz.f3 false true false false W args v W' := by
  have hW' := hW
  obtain ⟨p, q, hA0, hV, rfl, hfz, hnd⟩ := hW
  have hA : DataW.TrodAll enc Tryz.prog W 0 (fun _ => true) true Tryz.f3.params.toList args.toList ds p := hA0
  rw [Tryz.params3] at hA hval
  obtain ⟨v0, v1, v2, d0, d1, d2, p0, p1, p2, rfl, rfl, rfl, h0, h1, h2⟩ := trodAll_three hA
  obtain ⟨rfl, rfl⟩ := trodVars_none hV
  clear hA0
  simp only [List.append_nil] at hW'
  have hlt0 : ∀ x ∈ p0, x.block < W.heap.size := fun x hx => hW'.lt x (by simp [hx])
  have hlt1 : ∀ x ∈ p1, x.block < W.heap.size := fun x hx => hW'.lt x (by simp [hx])
  have hlt2 : ∀ x ∈ p2, x.block < W.heap.size := fun x hx => hW'.lt x (by simp [hx])
  have fin : ∀ (e : Ending) (W' : World), (e = .returned (.bool true) ∧ Below W.heap.size W W') → ∃ v, e = Ending.returned v ∧ Rows.topCastsSpec.post enc Tryz.prog Tryz.f3 false true false false W #[v0, v1, v2] v W' := by
    rintro e W' ⟨rfl, hb⟩
    exact ⟨_, rfl, _, _, _, [], p0 ++ (p1 ++ (p2)), [], hW', trodAll_mk1 (shut_bool Tryz.underlying4 _), trodAll_mk3 (Below.trod Tryz.laidOut_TopCasts (by kernel_rfl) (of_decide_eq_true (by kernel_rfl)) h0 hb hlt0) (Below.trod Tryz.laidOut_TopCasts (by kernel_rfl) (of_decide_eq_true (by kernel_rfl)) h1 hb hlt1) (Below.trod Tryz.laidOut_TopCasts (by kernel_rfl) (of_decide_eq_true (by kernel_rfl)) h2 hb hlt2), rfl, hb.frame _, fun h => by cases h⟩
  have hA' : Tp.Asc W := door_TopCasts hL hS
  obtain ⟨a0, rfl, rfl, rfl, w0⟩ := open_int Tryz.underlying3 (hval 0 3 v0 rfl rfl) h0
  obtain ⟨a1, rfl, rfl, rfl, w1⟩ := open_int Tryz.underlying3 (hval 1 3 v1 rfl rfl) h1
  obtain ⟨a2, rfl, rfl, rfl⟩ := open_bool Tryz.underlying4 (hval 2 4 v2 rfl rfl) h2
  exact (topCasts_any a0 a1 a2 W hA').mono fin

set_option maxRecDepth 100000 in
theorem topCasts_lifted (os : Os) (started : os.Started) (H : Type) (enc : TypeId × Value → H) (F : Stop.Interp) :
    ReturnsInHanded {} Tryz.checked os 3 .any ((OpenSpec.ofChange Rows.topCastsSpec).preRow enc Tryz.prog Tryz.f3 Rows.topCastsRow.domain false Rows.topCastsRow.laid) (((OpenSpec.ofChange Rows.topCastsSpec).at F).post enc Tryz.prog Tryz.f3 false true false false) := by
  obtain ⟨places, hx⟩ := reads_TopCasts os enc
  refine returnsInHanded_of_row (C := Tryz.checked) (s := OpenSpec.ofChange Rows.topCastsSpec) own_TopCasts started noInit_TopCasts Tryz.func3
    (witness_row_atRef (enc := enc) (C := Tryz.checked) false (laidWorld_TopCasts os) #[.int .i64 0, .int .i64 0, .bool false] rfl (wv_TopCasts os) (wr_TopCasts os) (wk_TopCasts os)
      (OpenSpec.preRow_of_cond 8 hx (by kernel_rfl) (fun k hk => by cases hk) (wz_TopCasts os enc) (laid_met_TopCasts os))) ?_
  intro W base args ds gs before hval hW _ _ _ hL hS _
  exact topCasts_contract H enc W base args ds gs before hval hW hL hS

theorem topCasts_said : Rows.TopCastsSaid :=
  OpenClaim.holds_of_cond 3 Tryz.f3 rfl rfl rfl rfl rfl rfl rfl ⟨rfl, rfl, rfl, rfl, rfl⟩ rfl rfl rfl rfl rfl (by as_aux_lemma => kernel_rfl) Tryz.func3 (jf_TopCasts)
    (of_decide_eq_true (by as_aux_lemma => kernel_rfl)) (by as_aux_lemma => unfold Func.isWrapper; first | (rw [if_pos (by decide +kernel)]; kernel_rfl) | (rw [if_neg (by decide +kernel)]; exact ⟨rfl, rfl⟩))
    (fun os started H enc _ F => by rw [OpenClaim.pre_eq_preRow]; exact topCasts_lifted os started H enc F)

/-- No parameter wants a stand-in; the program's own looks are off: what the card asks. -/
theorem topCasts_plain (f : FuncId) (fn : Func) (hf : Tryz.pinned.checked.prog.funcNamed Rows.topCastsRow.func = some f) (hfn : Tryz.pinned.checked.prog.funcs[f]? = some fn) :
    true = Tryz.pinned.checked.prog.looks [] ∧ ∀ (j : Nat) t, fn.params[j]? = some t → Tryz.pinned.checked.prog.wantsStandIn t = false := by
  obtain rfl : f = 3 := Option.some.inj ((show Tryz.prog.funcNamed Rows.topCastsRow.func = some 3 by kernel_rfl).symm.trans hf) |>.symm
  obtain rfl : fn = Tryz.f3 := (Option.some.inj (Tryz.func3.symm.trans hfn)).symm
  refine ⟨by kernel_rfl, fun j t ht => ?_⟩
  have hall : (Tryz.f3.params.toList.all fun t => !(Tryz.prog.wantsStandIn t)) = true := by kernel_rfl
  have h1 := List.all_eq_true.1 hall t (by simpa using Array.mem_of_getElem? ht)
  exact (by simpa using h1 : Tryz.prog.wantsStandIn t = false)

theorem topCasts_row_tie : Rows.topCastsRow.laidByTextAt .later Tryz.pinned [.data, .listed, .sentinel, .sentinel, .data, .data, .data, .handle, .pinned, .data] true :=
  OpenClaim.laidByTextAt_pinned rfl rfl tie rfl rfl rfl rfl (fun y hy _e => by
    simp only [Rows.topCastsRow, List.zip_cons_cons, List.zip_nil_right, List.mem_cons, List.mem_nil_iff, or_false] at hy
    rcases hy with rfl | rfl | rfl | rfl | rfl | rfl | rfl | rfl | rfl | rfl
    · cases _e
    · cases _e
    · cases _e
    · cases _e
    · cases _e
    · cases _e
    · cases _e
    · cases _e
    · exact ⟨pin_laid_unicode_utf8_first, by kernel_rfl⟩
    · cases _e) fits1
theorem g0_TopCasts : Tryz.pinned.checked.prog.funcNamed Rows.topCastsRow.func = some 3 := by kernel_rfl
set_option maxRecDepth 100000 in
theorem g1_TopCasts : (([3, 6, 8, 7, 12, 14, 23, 48, 102, 28, 188, 324, 325, 433, 491, 518, 544, 519, 520, 521, 545, 326, 327, 328, 434, 435, 329, 436, 492, 522, 546, 547, 560, 565, 566, 104, 192, 330, 437, 493, 523, 548, 561, 562, 494, 524, 549, 525, 526, 551, 563, 567, 568, 569, 388, 572, 573, 570, 571, 574, 575, 576, 577, 550, 527, 103, 190, 189, 87, 331, 24, 54, 19, 36, 37, 38, 39, 88, 89, 191, 49, 50, 52, 51, 105, 53, 106, 193, 196, 194, 197, 195, 332, 333, 438, 201, 334, 107, 198, 199, 200, 335, 336, 337, 338, 439, 443, 497, 498, 528, 529, 440, 495, 499, 441, 496, 442, 444, 108, 109, 20, 25, 55, 110, 202, 255, 203, 74, 165, 164, 111, 204, 205, 339, 206, 340, 207, 208, 341, 209, 210, 342, 112, 211, 212, 213, 343, 445, 344, 214, 220, 349, 345, 215, 144, 247, 155, 237, 361, 248, 367, 143, 78, 167, 260, 389, 216, 346, 158, 256, 217, 347, 446, 447, 218, 159, 219, 348, 448, 500, 530, 466, 531, 501, 532, 552, 533, 553, 537, 554, 555, 505, 556, 564, 557, 559, 502, 536, 538, 534, 507, 539, 558, 535, 503, 504, 398, 482, 506, 113, 221, 114, 223, 222, 26, 56, 115, 224, 225, 350, 449, 450, 451, 226, 258, 387, 351, 452, 453, 508, 454, 475, 476, 455, 509, 510, 540, 456, 457, 458, 459, 227, 97, 183, 352, 228, 18, 32, 69, 153, 253, 68, 150, 151, 83, 170, 271, 272, 128, 235, 171, 252, 377, 273, 403, 149, 172, 152, 70, 71, 154, 72, 156, 254, 157, 75, 76, 166, 160, 257, 378, 384, 379, 474, 380, 381, 477, 478, 515, 382, 383, 385, 386, 161, 162, 73, 163, 259, 77, 33, 79, 81, 168, 261, 390, 391, 392, 80, 169, 262, 269, 402, 268, 393, 401, 483, 481, 270, 394, 184, 480, 516, 396, 395, 479, 263, 264, 397, 265, 399, 266, 400, 267, 82, 34, 84, 85, 173, 274, 275, 174, 276, 404, 406, 277, 405, 484, 485, 278, 407, 408, 234, 360, 464, 232, 354, 353, 355, 357, 460, 356, 359, 463, 513, 461, 511, 462, 512, 541, 542, 358, 486, 175, 279, 409, 35, 86, 176, 280, 410, 411, 282, 281, 240, 283, 177, 13, 21, 40, 15, 27, 57, 116, 117, 118, 119, 229, 120, 230, 121, 231, 58, 122, 123, 124, 125, 59, 126, 233, 127, 129, 130, 60, 131, 236, 61, 132, 133, 238, 362, 239, 134, 135, 136, 137, 241, 138, 140, 139, 242, 62, 63, 90, 178, 284, 412, 296, 286, 413, 285, 288, 291, 420, 419, 415, 414, 287, 290, 416, 418, 417, 289, 293, 292, 295, 294, 91, 179, 298, 310, 297, 180, 300, 421, 299, 302, 305, 427, 423, 422, 301, 304, 424, 426, 425, 303, 307, 306, 309, 308, 181, 92, 93, 41, 42, 22, 43, 44, 45, 94, 96, 95, 182, 311, 312, 428, 487, 46, 98, 101, 187, 185, 99, 186, 313, 314, 315, 316, 317, 321, 323, 429, 318, 319, 430, 488, 489, 490, 517, 320, 431, 322, 432, 47, 100, 9, 16, 29, 64, 141, 243, 244, 245, 246, 363, 364, 465, 365, 366, 142, 30, 65, 66, 145, 146, 147, 249, 368, 373, 250, 468, 469, 470, 471, 376, 473, 514, 543, 472, 369, 467, 370, 371, 372, 374, 375, 67, 148, 251, 17, 31] : List FuncId).any fun g => (Tryz.pinned.checked.prog.funcs[g]?).any Func.goes) = false := by kernel_rfl
theorem g2_TopCasts : Tryz.pinned.checked.prog.funcs.any Func.goes = false := by kernel_rfl
theorem Tp.goes_no {P : Program} {c : OpenClaim} {f : FuncId} {l : List FuncId} (hs : c.start = .entering) (h0 : P.funcNamed c.func = some f) (hc : P.closure f = l) (h1 : (l.any fun g => (P.funcs[g]?).any Func.goes) = false) (h2 : P.funcs.any Func.goes = false) : false = c.goesBy P := by
  unfold OpenClaim.goesBy Program.goesAt Program.goesFrom
  rw [h0, hs]
  show false = (P.goes f || false)
  unfold Program.goes
  rw [hc, h1, h2, Bool.and_false]
  rfl
set_option maxRecDepth 100000 in
theorem gs_TopCasts : false = Rows.topCastsRow.goesBy Tryz.pinned.checked.prog := Tp.goes_no rfl g0_TopCasts cl_TopCasts g1_TopCasts g2_TopCasts
theorem topCasts_holds : Rows.TopCastsCardSaid :=
  Claim7.holds_tied_plain_at .later [] _ _ _ _ topCasts_said (fun _ h => by cases h) (by as_aux_lemma => kernel_rfl) (fun _ h => by cases h) topCasts_row_tie rfl ⟨rfl, rfl⟩ (by as_aux_lemma => kernel_rfl) rfl topCasts_plain gs_TopCasts

end Go.Proofs.YtoinghomkcjkcaaGreatDoor
