/- TopTokens, for every input: the row, proved out of the walk; and its card. -/
import Derived.Test.YtmdhaelmblmldaaGreatDoorCards
import Derived.Test.YtmdhaelmblmldaaGreatDoorTpTie
import Derived.Test.YtmdhaelmblmldaaGreatDoorTpDoor
import Derived.Test.YtmdhaelmblmldaaGreatDoorTpLo
import Derived.Test.YtmdhaelmblmldaaGreatDoorTpRun
import Derived.Test.YtmdhaelmblmldaaGreatDoorTpTokens
import Derived.LaidHandle
import Derived.Stop.Joined
import Derived.LaidByTextLater
import Derived.SevenTiedAt
import Derived.ProofKit
import Derived.OpenShut
import Derived.Below
import Derived.Carry
import Derived.Deep.Slices
import Derived.Deep.Grids
import Derived.Lib.SmallJoins
import Derived.Deep.DeepHandedRow
import Derived.Deep.DeepWitnessRowRef
import Derived.Lib.LaidTab
import Derived.Shelf.Vars
import Derived.Test.YtmdhaelmblmldaaGreatDoorRwATokens
import Derived.Test.YtmdhaelmblmldaaGreatDoorRwBTokens
namespace Go.Proofs.YtmdhaelmblmldaaGreatDoor
set_option linter.constructorNameAsVariable false
set_option linter.unusedVariables false
set_option linter.unusedSimpArgs false
open Go.ChangeShapes Go.WideShapes Go.ChangeAt Go.RowKit Go.Deep Go.Joins
theorem door_TopTokens {W : World} (h : laidMetH Tryz.prog Rows.topTokensRow.laid W) (hS : W.ShapedOpen Tryz.prog) : Tp.Asc W := by
  have h' : laidMet Tryz.prog (Rows.topTokensRow.laid.filter fun x => x.2.handleName?.isNone) W ∧ handlesMet Tryz.prog [("errors.errorType", Rows.laid_errors_errorType)] W := h
  exact Tp.asc_door h'.1 hS
theorem et_TopTokens : Tryz.prog.globalNamed "errors.errorType" = some 0 := by kernel_rfl
theorem rt_TopTokens : (Tryz.prog.cutTypes.find? (·.1 == "internal/reflectlite.rtype")).map (·.2) = some 232 := by kernel_rfl
theorem oneRow_TopTokens : ((List.range Tryz.prog.types.size).filter fun t => Tryz.prog.rowNamed t [101, 114, 114, 111, 114]) = [56] := by kernel_rfl
/-- What the condition gives a walk: the variable's one cell. -/
theorem hdoor_TopTokens {W : World} (h : laidMetH Tryz.prog Rows.topTokensRow.laid W) : Door W := by
  have h' : laidMet Tryz.prog (Rows.topTokensRow.laid.filter fun x => x.2.handleName?.isNone) W ∧ handlesMet Tryz.prog [("errors.errorType", Rows.laid_errors_errorType)] W := h
  obtain ⟨name, u, ty, e1, e2, e3, e4, e5⟩ := h'.2 _ (List.mem_singleton.2 rfl)
  have en : name = [101, 114, 114, 111, 114] := (Option.some.inj e1).symm
  subst en
  obtain rfl := Option.some.inj (rt_TopTokens.symm.trans e2)
  have hm : ty ∈ (List.range Tryz.prog.types.size).filter fun t => Tryz.prog.rowNamed t [101, 114, 114, 111, 114] := List.mem_filter.2 ⟨List.mem_range.2 e3, e4⟩
  rw [oneRow_TopTokens] at hm
  obtain rfl := List.mem_singleton.1 hm
  have hh : typeHandle Tryz.prog 56 = .pointer (some ⟨12, 56, none⟩) := by kernel_rfl
  rw [hh] at e5
  have h9 := World.var?_cell et_TopTokens e5 0
  show W.cell? ⟨0, 0, none⟩ = _
  simpa using h9

theorem own_TopTokens : ownKnob Tryz.prog.godebug = none := by kernel_rfl
theorem Tryz.laidOut_TopTokens : laidOutB Tryz.prog = true := Tp.laidOut

set_option maxRecDepth 100000 in
theorem topTokens_contract (H : Type) (enc : TypeId × Value → H) (W : World) (base : Nat) (args : Array Value) (ds gs : List (DataW H)) (before : List MemPlace)
    (hval : ∀ (j : Nat) t v, Tryz.f13.params[j]? = some t → args[j]? = some v → Value.okWide Tryz.prog W .any base t v)
    (hW : DataW.Whole enc Tryz.prog Tryz.f13.params.toList Rows.topTokensSpec.vars false W args.toList ds gs before) (hL : laidMetH Tryz.prog Rows.topTokensRow.laid W) (hS : W.ShapedOpen Tryz.prog) :
    Calls Tryz.prog 13 args W fun e W' => ∃ v, e = .returned v ∧ Rows.topTokensSpec.post enc Tryz.prog Tryz.f13 false true false false W args v W' := by
  have hW' := hW
  obtain ⟨p, q, hA0, hV, rfl, hfz, hnd⟩ := hW
  have hA : DataW.TrodAll enc Tryz.prog W 0 (fun _ => true) true Tryz.f13.params.toList args.toList ds p := hA0
  rw [Tryz.params13] at hA hval
  obtain ⟨v0, v1, d0, d1, p0, p1, rfl, rfl, rfl, h0, h1⟩ := trodAll_two hA
  obtain ⟨rfl, rfl⟩ := trodVars_none hV
  clear hA0
  simp only [List.append_nil] at hW'
  have hlt0 : ∀ x ∈ p0, x.block < W.heap.size := fun x hx => hW'.lt x (by simp [hx])
  have hlt1 : ∀ x ∈ p1, x.block < W.heap.size := fun x hx => hW'.lt x (by simp [hx])
  have fin : ∀ (e : Ending) (W' : World), (e = .returned (.bool true) ∧ Below W.heap.size W W') → ∃ v, e = Ending.returned v ∧ Rows.topTokensSpec.post enc Tryz.prog Tryz.f13 false true false false W #[v0, v1] v W' := by
    rintro e W' ⟨rfl, hb⟩
    exact ⟨_, rfl, _, _, _, [], p0 ++ (p1), [], hW', trodAll_mk1 (shut_bool Tryz.underlying4 _), trodAll_mk2 (Below.trod Tryz.laidOut_TopTokens (by kernel_rfl) (of_decide_eq_true (by kernel_rfl)) h0 hb hlt0) (Below.trod Tryz.laidOut_TopTokens (by kernel_rfl) (of_decide_eq_true (by kernel_rfl)) h1 hb hlt1), rfl, hb.frame _, fun h => by cases h⟩
  have hA' : Tp.Asc W := door_TopTokens hL hS
  obtain ⟨a0, rfl, rfl, rfl, w0⟩ := open_int Tryz.underlying3 (hval 0 3 v0 rfl rfl) h0
  obtain ⟨a1, rfl, rfl, rfl, w1⟩ := open_int Tryz.underlying3 (hval 1 3 v1 rfl rfl) h1
  exact (topTokens_any a0 a1 W hA' (hdoor_TopTokens hL)).mono fin

set_option maxRecDepth 100000 in
theorem topTokens_lifted (os : Os) (started : os.Started) (H : Type) (enc : TypeId × Value → H) (F : Stop.Interp) :
    ReturnsInHanded {} Tryz.checked os 13 .any ((OpenSpec.ofChange Rows.topTokensSpec).preRow enc Tryz.prog Tryz.f13 Rows.topTokensRow.domain false Rows.topTokensRow.laid) (((OpenSpec.ofChange Rows.topTokensSpec).at F).post enc Tryz.prog Tryz.f13 false true false false) := by
  obtain ⟨places, hx⟩ := reads_TopTokens os enc
  refine returnsInHanded_of_row (C := Tryz.checked) (s := OpenSpec.ofChange Rows.topTokensSpec) own_TopTokens started noInit_TopTokens Tryz.func13
    (witness_row_atRef (enc := enc) (C := Tryz.checked) false (laidWorld_TopTokens os) #[.int .i64 0, .int .i64 0] rfl (wv_TopTokens os) (wr_TopTokens os) (wk_TopTokens os)
      (OpenSpec.preRow_of_cond 8 hx (by kernel_rfl) (fun k hk => by cases hk) (wz_TopTokens os enc) (laid_met_TopTokens os))) ?_
  intro W base args ds gs before hval hW _ _ _ hL hS _
  exact topTokens_contract H enc W base args ds gs before hval hW hL hS

theorem topTokens_said : Rows.TopTokensSaid :=
  OpenClaim.holds_of_cond 13 Tryz.f13 rfl rfl rfl rfl rfl rfl rfl ⟨rfl, rfl, rfl, rfl, rfl⟩ rfl rfl rfl rfl rfl (by as_aux_lemma => kernel_rfl) Tryz.func13 (jf_TopTokens)
    (of_decide_eq_true (by as_aux_lemma => kernel_rfl)) (by as_aux_lemma => unfold Func.isWrapper; first | (rw [if_pos (by decide +kernel)]; kernel_rfl) | (rw [if_neg (by decide +kernel)]; exact ⟨rfl, rfl⟩))
    (fun os started H enc _ F => by rw [OpenClaim.pre_eq_preRow]; exact topTokens_lifted os started H enc F)

/-- No parameter wants a stand-in; the program's own looks are off: what the card asks. -/
theorem topTokens_plain (f : FuncId) (fn : Func) (hf : Tryz.pinned.checked.prog.funcNamed Rows.topTokensRow.func = some f) (hfn : Tryz.pinned.checked.prog.funcs[f]? = some fn) :
    true = Tryz.pinned.checked.prog.looks [] ∧ ∀ (j : Nat) t, fn.params[j]? = some t → Tryz.pinned.checked.prog.wantsStandIn t = false := by
  obtain rfl : f = 13 := Option.some.inj ((show Tryz.prog.funcNamed Rows.topTokensRow.func = some 13 by kernel_rfl).symm.trans hf) |>.symm
  obtain rfl : fn = Tryz.f13 := (Option.some.inj (Tryz.func13.symm.trans hfn)).symm
  refine ⟨by kernel_rfl, fun j t ht => ?_⟩
  have hall : (Tryz.f13.params.toList.all fun t => !(Tryz.prog.wantsStandIn t)) = true := by kernel_rfl
  have h1 := List.all_eq_true.1 hall t (by simpa using Array.mem_of_getElem? ht)
  exact (by simpa using h1 : Tryz.prog.wantsStandIn t = false)

theorem topTokens_row_tie : Rows.topTokensRow.laidByTextAt .later Tryz.pinned [.data, .listed, .sentinel, .sentinel, .data, .data, .data, .handle, .pinned, .data] true :=
  OpenClaim.laidByTextAt_pinned rfl rfl tie rfl rfl rfl rfl (fun y hy _e => by
    simp only [Rows.topTokensRow, List.zip_cons_cons, List.zip_nil_right, List.mem_cons, List.mem_nil_iff, or_false] at hy
    rcases hy with rfl | rfl | rfl | rfl | rfl | rfl | rfl | rfl | rfl | rfl
    · cases _e
    · cases _e
    · cases _e
    · cases _e
    · cases _e
    · cases _e
    · cases _e
    · cases _e
    · exact ⟨pin_laid_unicode_utf8_first, by kernel_rfl⟩
    · cases _e) fits1
theorem g0_TopTokens : Tryz.pinned.checked.prog.funcNamed Rows.topTokensRow.func = some 13 := by kernel_rfl
set_option maxRecDepth 100000 in
theorem g1_TopTokens : (([13, 15, 27, 23, 29, 44, 73, 125, 49, 241, 358, 359, 450, 505, 531, 557, 532, 533, 534, 558, 360, 361, 362, 451, 452, 363, 453, 506, 535, 559, 560, 573, 578, 579, 127, 245, 364, 454, 507, 536, 561, 574, 575, 508, 537, 562, 538, 539, 564, 576, 580, 581, 582, 422, 585, 586, 583, 584, 587, 588, 589, 590, 563, 540, 126, 243, 242, 112, 365, 45, 79, 34, 57, 58, 59, 60, 113, 114, 244, 74, 75, 77, 76, 128, 78, 129, 246, 249, 247, 250, 248, 366, 367, 455, 254, 368, 130, 251, 252, 253, 369, 370, 371, 372, 456, 460, 511, 512, 541, 542, 457, 509, 513, 458, 510, 459, 461, 131, 132, 35, 46, 80, 133, 255, 308, 256, 99, 188, 187, 134, 257, 258, 373, 259, 374, 260, 261, 375, 262, 263, 376, 135, 264, 265, 266, 377, 462, 378, 267, 273, 383, 379, 268, 167, 300, 178, 290, 395, 301, 401, 166, 103, 190, 313, 423, 269, 380, 181, 309, 270, 381, 463, 464, 271, 182, 272, 382, 465, 514, 543, 483, 544, 515, 545, 565, 546, 566, 550, 567, 568, 519, 569, 577, 570, 572, 516, 549, 551, 547, 521, 552, 571, 548, 517, 518, 432, 499, 520, 136, 274, 137, 276, 275, 47, 81, 138, 277, 278, 384, 466, 467, 468, 279, 311, 421, 385, 469, 470, 522, 471, 492, 493, 472, 523, 524, 553, 473, 474, 475, 476, 280, 68, 120, 386, 281, 33, 53, 94, 176, 306, 93, 173, 174, 108, 193, 324, 325, 151, 288, 194, 305, 411, 326, 437, 172, 195, 175, 95, 96, 177, 97, 179, 307, 180, 100, 101, 189, 183, 310, 412, 418, 413, 491, 414, 415, 494, 495, 529, 416, 417, 419, 420, 184, 185, 98, 186, 312, 102, 54, 104, 106, 191, 314, 424, 425, 426, 105, 192, 315, 322, 436, 321, 427, 435, 500, 498, 323, 428, 121, 497, 530, 430, 429, 496, 316, 317, 431, 318, 433, 319, 434, 320, 107, 55, 109, 110, 196, 327, 328, 197, 329, 438, 440, 330, 439, 501, 502, 331, 441, 442, 287, 394, 481, 285, 388, 387, 389, 391, 477, 390, 393, 480, 527, 478, 525, 479, 526, 554, 555, 392, 503, 198, 332, 443, 56, 111, 199, 333, 444, 445, 335, 334, 293, 336, 200, 20, 30, 48, 82, 139, 140, 141, 142, 282, 143, 283, 144, 284, 83, 145, 146, 147, 148, 84, 149, 286, 150, 152, 153, 85, 154, 289, 86, 155, 156, 291, 396, 292, 157, 158, 159, 160, 294, 161, 163, 162, 295, 87, 88, 26, 24, 36, 61, 115, 201, 337, 213, 203, 338, 202, 205, 208, 345, 344, 340, 339, 204, 207, 341, 343, 342, 206, 210, 209, 212, 211, 62, 116, 215, 227, 214, 117, 217, 346, 216, 219, 222, 352, 348, 347, 218, 221, 349, 351, 350, 220, 224, 223, 226, 225, 118, 63, 64, 37, 38, 25, 39, 40, 41, 65, 67, 66, 119, 228, 229, 353, 446, 42, 69, 72, 124, 122, 70, 123, 230, 231, 232, 233, 234, 238, 240, 354, 235, 236, 355, 447, 448, 449, 504, 237, 356, 239, 357, 43, 71, 31, 50, 89, 164, 296, 297, 298, 299, 397, 398, 482, 399, 400, 165, 51, 90, 91, 168, 169, 170, 302, 402, 407, 303, 485, 486, 487, 488, 410, 490, 528, 556, 489, 403, 484, 404, 405, 406, 408, 409, 92, 171, 304, 32, 52] : List FuncId).any fun g => (Tryz.pinned.checked.prog.funcs[g]?).any Func.goes) = false := by kernel_rfl
theorem g2_TopTokens : Tryz.pinned.checked.prog.funcs.any Func.goes = false := by kernel_rfl
theorem Tp.goes_no {P : Program} {c : OpenClaim} {f : FuncId} {l : List FuncId} (hs : c.start = .entering) (h0 : P.funcNamed c.func = some f) (hc : P.closure f = l) (h1 : (l.any fun g => (P.funcs[g]?).any Func.goes) = false) (h2 : P.funcs.any Func.goes = false) : false = c.goesBy P := by
  unfold OpenClaim.goesBy Program.goesAt Program.goesFrom
  rw [h0, hs]
  show false = (P.goes f || false)
  unfold Program.goes
  rw [hc, h1, h2, Bool.and_false]
  rfl
set_option maxRecDepth 100000 in
theorem gs_TopTokens : false = Rows.topTokensRow.goesBy Tryz.pinned.checked.prog := Tp.goes_no rfl g0_TopTokens cl_TopTokens g1_TopTokens g2_TopTokens
theorem topTokens_holds : Rows.TopTokensCardSaid :=
  Claim7.holds_tied_plain_at .later [] _ _ _ _ topTokens_said (fun _ h => by cases h) (by as_aux_lemma => kernel_rfl) (fun _ h => by cases h) topTokens_row_tie rfl ⟨rfl, rfl⟩ (by as_aux_lemma => kernel_rfl) rfl topTokens_plain gs_TopTokens

end Go.Proofs.YtmdhaelmblmldaaGreatDoor
