/- TopInits, for every input: the row, proved out of the walk; and its card. -/
import Derived.Test.YtgampjagafcbbaaGreatDoorCards
import Derived.Test.YtgampjagafcbbaaGreatDoorTpTie
import Derived.Test.YtgampjagafcbbaaGreatDoorTpDoor
import Derived.Test.YtgampjagafcbbaaGreatDoorTpLo
import Derived.Test.YtgampjagafcbbaaGreatDoorTpRun
import Derived.Test.YtgampjagafcbbaaGreatDoorTpInits
import Derived.LaidHandle
import Derived.Stop.Joined
import Derived.LaidByTextLater
import Derived.SevenTiedAt
import Derived.ProofKit
import Derived.OpenShut
import Derived.Below
import Derived.Carry
import Derived.Deep.Slices
import Derived.Deep.Grids
import Derived.Lib.SmallJoins
import Derived.Deep.DeepHandedRow
import Derived.Deep.DeepWitnessRowRef
import Derived.Lib.LaidTab
import Derived.Shelf.Vars
import Derived.Test.YtgampjagafcbbaaGreatDoorRwAInits
import Derived.Test.YtgampjagafcbbaaGreatDoorRwBInits
namespace Go.Proofs.YtgampjagafcbbaaGreatDoor
set_option linter.constructorNameAsVariable false
set_option linter.unusedVariables false
set_option linter.unusedSimpArgs false
open Go.ChangeShapes Go.WideShapes Go.ChangeAt Go.RowKit Go.Deep Go.Joins
theorem door_TopInits {W : World} (h : laidMetH Tryz.prog Rows.topInitsRow.laid W) (hS : W.ShapedOpen Tryz.prog) : Tp.Asc W := by
  have h' : laidMet Tryz.prog (Rows.topInitsRow.laid.filter fun x => x.2.handleName?.isNone) W ∧ handlesMet Tryz.prog [("errors.errorType", Rows.laid_errors_errorType)] W := h
  exact Tp.asc_door h'.1 hS

theorem own_TopInits : ownKnob Tryz.prog.godebug = none := by kernel_rfl
theorem Tryz.laidOut_TopInits : laidOutB Tryz.prog = true := Tp.laidOut

set_option maxRecDepth 100000 in
theorem topInits_contract (H : Type) (enc : TypeId × Value → H) (W : World) (base : Nat) (args : Array Value) (ds gs : List (DataW H)) (before : List MemPlace)
    (hval : ∀ (j : Nat) t v, Tryz.f9.params[j]? = some t → args[j]? = some v → Value.okWide Tryz.prog W .any base t v)
    (hW : DataW.Whole enc Tryz.prog Tryz.f9.params.toList Rows.topInitsSpec.vars false W args.toList ds gs before) (hL : laidMetH Tryz.prog Rows.topInitsRow.laid W) (hS : W.ShapedOpen Tryz.prog) :
    Calls Tryz.prog 9 args W fun e W' => ∃ v, e = .returned v ∧ Rows.topInitsSpec.post enc Tryz.prog Tryz.f9 false true false false W args v W' := by
  have hW' := hW
  obtain ⟨p, q, hA0, hV, rfl, hfz, hnd⟩ := hW
  have hA : DataW.TrodAll enc Tryz.prog W 0 (fun _ => true) true Tryz.f9.params.toList args.toList ds p := hA0
  rw [Tryz.params9] at hA hval
  obtain ⟨v0, v1, v2, d0, d1, d2, p0, p1, p2, rfl, rfl, rfl, h0, h1, h2⟩ := trodAll_three hA
  obtain ⟨rfl, rfl⟩ := trodVars_none hV
  clear hA0
  simp only [List.append_nil] at hW'
  have hlt0 : ∀ x ∈ p0, x.block < W.heap.size := fun x hx => hW'.lt x (by simp [hx])
  have hlt1 : ∀ x ∈ p1, x.block < W.heap.size := fun x hx => hW'.lt x (by simp [hx])
  have hlt2 : ∀ x ∈ p2, x.block < W.heap.size := fun x hx => hW'.lt x (by simp [hx])
  have fin : ∀ (e : Ending) (W' : World), (e = .returned (.bool true) ∧ Below W.heap.size W W') → ∃ v, e = Ending.returned v ∧ Rows.topInitsSpec.post enc Tryz.prog Tryz.f9 false true false false W #[v0, v1, v2] v W' := by
    rintro e W' ⟨rfl, hb⟩
    exact ⟨_, rfl, _, _, _, [], p0 ++ (p1 ++ (p2)), [], hW', trodAll_mk1 (shut_bool Tryz.underlying4 _), trodAll_mk3 (Below.trod Tryz.laidOut_TopInits (by kernel_rfl) (of_decide_eq_true (by kernel_rfl)) h0 hb hlt0) (Below.trod Tryz.laidOut_TopInits (by kernel_rfl) (of_decide_eq_true (by kernel_rfl)) h1 hb hlt1) (Below.trod Tryz.laidOut_TopInits (by kernel_rfl) (of_decide_eq_true (by kernel_rfl)) h2 hb hlt2), rfl, hb.frame _, fun h => by cases h⟩
  have hA' : Tp.Asc W := door_TopInits hL hS
  obtain ⟨a0, rfl, rfl, rfl, w0⟩ := open_int Tryz.underlying3 (hval 0 3 v0 rfl rfl) h0
  obtain ⟨a1, rfl, rfl, rfl, w1⟩ := open_int Tryz.underlying3 (hval 1 3 v1 rfl rfl) h1
  obtain ⟨a2, rfl, rfl, rfl⟩ := open_bool Tryz.underlying4 (hval 2 4 v2 rfl rfl) h2
  exact (topInits_any a0 a1 a2 W hA').mono fin

set_option maxRecDepth 100000 in
theorem topInits_lifted (os : Os) (started : os.Started) (H : Type) (enc : TypeId × Value → H) (F : Stop.Interp) :
    ReturnsInHanded {} Tryz.checked os 9 .any ((OpenSpec.ofChange Rows.topInitsSpec).preRow enc Tryz.prog Tryz.f9 Rows.topInitsRow.domain false Rows.topInitsRow.laid) (((OpenSpec.ofChange Rows.topInitsSpec).at F).post enc Tryz.prog Tryz.f9 false true false false) := by
  obtain ⟨places, hx⟩ := reads_TopInits os enc
  refine returnsInHanded_of_row (C := Tryz.checked) (s := OpenSpec.ofChange Rows.topInitsSpec) own_TopInits started noInit_TopInits Tryz.func9
    (witness_row_atRef (enc := enc) (C := Tryz.checked) false (laidWorld_TopInits os) #[.int .i64 0, .int .i64 0, .bool false] rfl (wv_TopInits os) (wr_TopInits os) (wk_TopInits os)
      (OpenSpec.preRow_of_cond 8 hx (by kernel_rfl) (fun k hk => by cases hk) (wz_TopInits os enc) (laid_met_TopInits os))) ?_
  intro W base args ds gs before hval hW _ _ _ hL hS _
  exact topInits_contract H enc W base args ds gs before hval hW hL hS

theorem topInits_said : Rows.TopInitsSaid :=
  OpenClaim.holds_of_cond 9 Tryz.f9 rfl rfl rfl rfl rfl rfl rfl ⟨rfl, rfl, rfl, rfl, rfl⟩ rfl rfl rfl rfl rfl (by as_aux_lemma => kernel_rfl) Tryz.func9 (jf_TopInits)
    (of_decide_eq_true (by as_aux_lemma => kernel_rfl)) (by as_aux_lemma => unfold Func.isWrapper; first | (rw [if_pos (by decide +kernel)]; kernel_rfl) | (rw [if_neg (by decide +kernel)]; exact ⟨rfl, rfl⟩))
    (fun os started H enc _ F => by rw [OpenClaim.pre_eq_preRow]; exact topInits_lifted os started H enc F)

/-- No parameter wants a stand-in; the program's own looks are off: what the card asks. -/
theorem topInits_plain (f : FuncId) (fn : Func) (hf : Tryz.pinned.checked.prog.funcNamed Rows.topInitsRow.func = some f) (hfn : Tryz.pinned.checked.prog.funcs[f]? = some fn) :
    true = Tryz.pinned.checked.prog.looks [] ∧ ∀ (j : Nat) t, fn.params[j]? = some t → Tryz.pinned.checked.prog.wantsStandIn t = false := by
  obtain rfl : f = 9 := Option.some.inj ((show Tryz.prog.funcNamed Rows.topInitsRow.func = some 9 by kernel_rfl).symm.trans hf) |>.symm
  obtain rfl : fn = Tryz.f9 := (Option.some.inj (Tryz.func9.symm.trans hfn)).symm
  refine ⟨by kernel_rfl, fun j t ht => ?_⟩
  have hall : (Tryz.f9.params.toList.all fun t => !(Tryz.prog.wantsStandIn t)) = true := by kernel_rfl
  have h1 := List.all_eq_true.1 hall t (by simpa using Array.mem_of_getElem? ht)
  exact (by simpa using h1 : Tryz.prog.wantsStandIn t = false)

theorem topInits_row_tie : Rows.topInitsRow.laidByTextAt .later Tryz.pinned [.data, .listed, .sentinel, .sentinel, .data, .data, .data, .handle, .pinned, .data] true :=
  OpenClaim.laidByTextAt_pinned rfl rfl tie rfl rfl rfl rfl (fun y hy _e => by
    simp only [Rows.topInitsRow, List.zip_cons_cons, List.zip_nil_right, List.mem_cons, List.mem_nil_iff, or_false] at hy
    rcases hy with rfl | rfl | rfl | rfl | rfl | rfl | rfl | rfl | rfl | rfl
    · cases _e
    · cases _e
    · cases _e
    · cases _e
    · cases _e
    · cases _e
    · cases _e
    · cases _e
    · exact ⟨pin_laid_unicode_utf8_first, by kernel_rfl⟩
    · cases _e) fits1
theorem g0_TopInits : Tryz.pinned.checked.prog.funcNamed Rows.topInitsRow.func = some 9 := by kernel_rfl
set_option maxRecDepth 100000 in
theorem g1_TopInits : (([9, 11, 17, 18, 23, 38, 66, 118, 43, 234, 351, 352, 443, 498, 524, 550, 525, 526, 527, 551, 353, 354, 355, 444, 445, 356, 446, 499, 528, 552, 553, 566, 571, 572, 120, 238, 357, 447, 500, 529, 554, 567, 568, 501, 530, 555, 531, 532, 557, 569, 573, 574, 575, 415, 578, 579, 576, 577, 580, 581, 582, 583, 556, 533, 119, 236, 235, 105, 358, 39, 72, 27, 50, 51, 52, 53, 106, 107, 237, 67, 68, 70, 69, 121, 71, 122, 239, 242, 240, 243, 241, 359, 360, 448, 247, 361, 123, 244, 245, 246, 362, 363, 364, 365, 449, 453, 504, 505, 534, 535, 450, 502, 506, 451, 503, 452, 454, 124, 125, 28, 40, 73, 126, 248, 301, 249, 92, 181, 180, 127, 250, 251, 366, 252, 367, 253, 254, 368, 255, 256, 369, 128, 257, 258, 259, 370, 455, 371, 260, 266, 376, 372, 261, 160, 293, 171, 283, 388, 294, 394, 159, 96, 183, 306, 416, 262, 373, 174, 302, 263, 374, 456, 457, 264, 175, 265, 375, 458, 507, 536, 476, 537, 508, 538, 558, 539, 559, 543, 560, 561, 512, 562, 570, 563, 565, 509, 542, 544, 540, 514, 545, 564, 541, 510, 511, 425, 492, 513, 129, 267, 130, 269, 268, 41, 74, 131, 270, 271, 377, 459, 460, 461, 272, 304, 414, 378, 462, 463, 515, 464, 485, 486, 465, 516, 517, 546, 466, 467, 468, 469, 273, 61, 113, 379, 274, 26, 46, 87, 169, 299, 86, 166, 167, 101, 186, 317, 318, 144, 281, 187, 298, 404, 319, 430, 165, 188, 168, 88, 89, 170, 90, 172, 300, 173, 93, 94, 182, 176, 303, 405, 411, 406, 484, 407, 408, 487, 488, 522, 409, 410, 412, 413, 177, 178, 91, 179, 305, 95, 47, 97, 99, 184, 307, 417, 418, 419, 98, 185, 308, 315, 429, 314, 420, 428, 493, 491, 316, 421, 114, 490, 523, 423, 422, 489, 309, 310, 424, 311, 426, 312, 427, 313, 100, 48, 102, 103, 189, 320, 321, 190, 322, 431, 433, 323, 432, 494, 495, 324, 434, 435, 280, 387, 474, 278, 381, 380, 382, 384, 470, 383, 386, 473, 520, 471, 518, 472, 519, 547, 548, 385, 496, 191, 325, 436, 49, 104, 192, 326, 437, 438, 328, 327, 286, 329, 193, 19, 20, 29, 24, 42, 75, 132, 133, 134, 135, 275, 136, 276, 137, 277, 76, 138, 139, 140, 141, 77, 142, 279, 143, 145, 146, 78, 147, 282, 79, 148, 149, 284, 389, 285, 150, 151, 152, 153, 287, 154, 156, 155, 288, 80, 81, 54, 108, 194, 330, 206, 196, 331, 195, 198, 201, 338, 337, 333, 332, 197, 200, 334, 336, 335, 199, 203, 202, 205, 204, 55, 109, 208, 220, 207, 110, 210, 339, 209, 212, 215, 345, 341, 340, 211, 214, 342, 344, 343, 213, 217, 216, 219, 218, 111, 56, 57, 30, 31, 21, 32, 33, 34, 58, 60, 59, 112, 221, 222, 346, 439, 35, 62, 65, 117, 115, 63, 116, 223, 224, 225, 226, 227, 231, 233, 347, 228, 229, 348, 440, 441, 442, 497, 230, 349, 232, 350, 36, 64, 22, 37, 15, 25, 44, 82, 157, 289, 290, 291, 292, 390, 391, 475, 392, 393, 158, 45, 83, 84, 161, 162, 163, 295, 395, 400, 296, 478, 479, 480, 481, 403, 483, 521, 549, 482, 396, 477, 397, 398, 399, 401, 402, 85, 164, 297] : List FuncId).any fun g => (Tryz.pinned.checked.prog.funcs[g]?).any Func.goes) = false := by kernel_rfl
theorem g2_TopInits : Tryz.pinned.checked.prog.funcs.any Func.goes = false := by kernel_rfl
theorem Tp.goes_no {P : Program} {c : OpenClaim} {f : FuncId} {l : List FuncId} (hs : c.start = .entering) (h0 : P.funcNamed c.func = some f) (hc : P.closure f = l) (h1 : (l.any fun g => (P.funcs[g]?).any Func.goes) = false) (h2 : P.funcs.any Func.goes = false) : false = c.goesBy P := by
  unfold OpenClaim.goesBy Program.goesAt Program.goesFrom
  rw [h0, hs]
  show false = (P.goes f || false)
  unfold Program.goes
  rw [hc, h1, h2, Bool.and_false]
  rfl
set_option maxRecDepth 100000 in
theorem gs_TopInits : false = Rows.topInitsRow.goesBy Tryz.pinned.checked.prog := Tp.goes_no rfl g0_TopInits cl_TopInits g1_TopInits g2_TopInits
theorem topInits_holds : Rows.TopInitsCardSaid :=
  Claim7.holds_tied_plain_at .later [] _ _ _ _ topInits_said (fun _ h => by cases h) (by as_aux_lemma => kernel_rfl) (fun _ h => by cases h) topInits_row_tie rfl ⟨rfl, rfl⟩ (by as_aux_lemma => kernel_rfl) rfl topInits_plain gs_TopInits

end Go.Proofs.YtgampjagafcbbaaGreatDoor
