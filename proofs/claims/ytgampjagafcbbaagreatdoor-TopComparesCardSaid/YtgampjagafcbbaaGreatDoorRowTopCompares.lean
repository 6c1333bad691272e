/- TopCompares, for every input: the row, proved out of the walk; and its card. -/
import Derived.Test.YtgampjagafcbbaaGreatDoorCards
import Derived.Test.YtgampjagafcbbaaGreatDoorTpTie
import Derived.Test.YtgampjagafcbbaaGreatDoorTpDoor
import Derived.Test.YtgampjagafcbbaaGreatDoorTpLo
import Derived.Test.YtgampjagafcbbaaGreatDoorTpRun
import Derived.LaidHandle
import Derived.Stop.Joined
import Derived.LaidByTextLater
import Derived.SevenTiedAt
import Derived.ProofKit
import Derived.OpenShut
import Derived.Below
import Derived.Carry
import Derived.Deep.Slices
import Derived.Deep.Grids
import Derived.Lib.SmallJoins
import Derived.Deep.DeepHandedRow
import Derived.Deep.DeepWitnessRowRef
import Derived.Lib.LaidTab
import Derived.Shelf.Vars
import Derived.Test.YtgampjagafcbbaaGreatDoorRwACompares
import Derived.Test.YtgampjagafcbbaaGreatDoorRwBCompares
import Derived.Test.YtgampjagafcbbaaGreatDoorTpCp00
import Derived.Test.YtgampjagafcbbaaGreatDoorTpCp01
import Derived.Test.YtgampjagafcbbaaGreatDoorTpCp02
import Derived.Test.YtgampjagafcbbaaGreatDoorTpCp10
import Derived.Test.YtgampjagafcbbaaGreatDoorTpCp11
import Derived.Test.YtgampjagafcbbaaGreatDoorTpCp12
import Derived.Test.YtgampjagafcbbaaGreatDoorTpCp20
import Derived.Test.YtgampjagafcbbaaGreatDoorTpCp21
import Derived.Test.YtgampjagafcbbaaGreatDoorTpCp22
import Derived.Test.YtgampjagafcbbaaGreatDoorTpCp30
import Derived.Test.YtgampjagafcbbaaGreatDoorTpCp31
import Derived.Test.YtgampjagafcbbaaGreatDoorTpCp32
import Derived.Test.YtgampjagafcbbaaGreatDoorTpCp40
import Derived.Test.YtgampjagafcbbaaGreatDoorTpCp41
import Derived.Test.YtgampjagafcbbaaGreatDoorTpCp42
import Derived.Test.YtgampjagafcbbaaGreatDoorTpCp50
import Derived.Test.YtgampjagafcbbaaGreatDoorTpCp51
import Derived.Test.YtgampjagafcbbaaGreatDoorTpCp52
namespace Go.Proofs.YtgampjagafcbbaaGreatDoor
set_option linter.unusedSimpArgs false
set_option linter.unusedVariables false
set_option linter.constructorNameAsVariable false
open Go Go.RowKit
open Ev
theorem topCompares_any (op more i j : Int) (w : World) (hA : Tp.Asc w) : Calls Tryz.prog 3 #[.int .i64 op, .int .i64 more, .int .i64 i, .int .i64 j] w (fun e w' => e = .returned (.bool true) ∧ Below w.heap.size w w') := by
  have H : ∀ ν : Nat → Int, Calls Tryz.prog 3 #[.int .i64 (ν 0), .int .i64 (ν 1), .int .i64 (ν 2), .int .i64 (ν 3)] w (fun e w' => e = .returned (.bool true) ∧ Below w.heap.size w w') := by
    intro ν
    obtain ⟨h1, h2⟩ := low_in (ν := ν) 0 6 (by decide) (by decide)
    obtain ⟨h3, h4⟩ := low_in (ν := ν) 1 3 (by decide) (by decide)
    obtain h | h | h | h | h | h : zval ν (lowZ 0 6) = 0 ∨ zval ν (lowZ 0 6) = 1 ∨ zval ν (lowZ 0 6) = 2 ∨ zval ν (lowZ 0 6) = 3 ∨ zval ν (lowZ 0 6) = 4 ∨ zval ν (lowZ 0 6) = 5 := by omega
    · obtain h' | h' | h' : zval ν (lowZ 1 3) = 0 ∨ zval ν (lowZ 1 3) = 1 ∨ zval ν (lowZ 1 3) = 2 := by omega
      · exact cp00 ν w hA h h'
      · exact cp01 ν w hA h h'
      · exact cp02 ν w hA h h'
    · obtain h' | h' | h' : zval ν (lowZ 1 3) = 0 ∨ zval ν (lowZ 1 3) = 1 ∨ zval ν (lowZ 1 3) = 2 := by omega
      · exact cp10 ν w hA h h'
      · exact cp11 ν w hA h h'
      · exact cp12 ν w hA h h'
    · obtain h' | h' | h' : zval ν (lowZ 1 3) = 0 ∨ zval ν (lowZ 1 3) = 1 ∨ zval ν (lowZ 1 3) = 2 := by omega
      · exact cp20 ν w hA h h'
      · exact cp21 ν w hA h h'
      · exact cp22 ν w hA h h'
    · obtain h' | h' | h' : zval ν (lowZ 1 3) = 0 ∨ zval ν (lowZ 1 3) = 1 ∨ zval ν (lowZ 1 3) = 2 := by omega
      · exact cp30 ν w hA h h'
      · exact cp31 ν w hA h h'
      · exact cp32 ν w hA h h'
    · obtain h' | h' | h' : zval ν (lowZ 1 3) = 0 ∨ zval ν (lowZ 1 3) = 1 ∨ zval ν (lowZ 1 3) = 2 := by omega
      · exact cp40 ν w hA h h'
      · exact cp41 ν w hA h h'
      · exact cp42 ν w hA h h'
    · obtain h' | h' | h' : zval ν (lowZ 1 3) = 0 ∨ zval ν (lowZ 1 3) = 1 ∨ zval ν (lowZ 1 3) = 2 := by omega
      · exact cp50 ν w hA h h'
      · exact cp51 ν w hA h h'
      · exact cp52 ν w hA h h'
  exact H (fun n => match n with | 0 => op | 1 => more | 2 => i | _ => j)
end Go.Proofs.YtgampjagafcbbaaGreatDoor
namespace Go.Proofs.YtgampjagafcbbaaGreatDoor
set_option linter.constructorNameAsVariable false
set_option linter.unusedVariables false
set_option linter.unusedSimpArgs false
open Go.ChangeShapes Go.WideShapes Go.ChangeAt Go.RowKit Go.Deep Go.Joins
theorem door_TopCompares {W : World} (h : laidMetH Tryz.prog Rows.topComparesRow.laid W) (hS : W.ShapedOpen Tryz.prog) : Tp.Asc W := by
  have h' : laidMet Tryz.prog (Rows.topComparesRow.laid.filter fun x => x.2.handleName?.isNone) W ∧ handlesMet Tryz.prog [("errors.errorType", Rows.laid_errors_errorType)] W := h
  exact Tp.asc_door h'.1 hS

theorem own_TopCompares : ownKnob Tryz.prog.godebug = none := by kernel_rfl
theorem Tryz.laidOut_TopCompares : laidOutB Tryz.prog = true := Tp.laidOut

set_option maxRecDepth 100000 in
theorem topCompares_contract (H : Type) (enc : TypeId × Value → H) (W : World) (base : Nat) (args : Array Value) (ds gs : List (DataW H)) (before : List MemPlace)
    (hval : ∀ (j : Nat) t v, Tryz.f3.params[j]? = some t → args[j]? = some v → Value.okWide Tryz.prog W .any base t v)
    (hW : DataW.Whole enc Tryz.prog Tryz.f3.params.toList Rows.topComparesSpec.vars false W args.toList ds gs before) (hL : laidMetH Tryz.prog Rows.topComparesRow.laid W) (hS : W.ShapedOpen Tryz.prog) :
    Calls Tryz.prog 3 args W fun e W' => ∃ v, e = .returned v ∧ Rows.topComparesSpec.post enc Tryz.prog Tryz.f3 false true false false W args v W' := by
  have hW' := hW
  obtain ⟨p, q, hA0, hV, rfl, hfz, hnd⟩ := hW
  have hA : DataW.TrodAll enc Tryz.prog W 0 (fun _ => true) true Tryz.f3.params.toList args.toList ds p := hA0
  rw [Tryz.params3] at hA hval
  obtain ⟨v0, v1, v2, v3, d0, d1, d2, d3, p0, p1, p2, p3, rfl, rfl, rfl, h0, h1, h2, h3⟩ := trodAll_four hA
  obtain ⟨rfl, rfl⟩ := trodVars_none hV
  clear hA0
  simp only [List.append_nil] at hW'
  have hlt0 : ∀ x ∈ p0, x.block < W.heap.size := fun x hx => hW'.lt x (by simp [hx])
  have hlt1 : ∀ x ∈ p1, x.block < W.heap.size := fun x hx => hW'.lt x (by simp [hx])
  have hlt2 : ∀ x ∈ p2, x.block < W.heap.size := fun x hx => hW'.lt x (by simp [hx])
  have hlt3 : ∀ x ∈ p3, x.block < W.heap.size := fun x hx => hW'.lt x (by simp [hx])
  have fin : ∀ (e : Ending) (W' : World), (e = .returned (.bool true) ∧ Below W.heap.size W W') → ∃ v, e = Ending.returned v ∧ Rows.topComparesSpec.post enc Tryz.prog Tryz.f3 false true false false W #[v0, v1, v2, v3] v W' := by
    rintro e W' ⟨rfl, hb⟩
    exact ⟨_, rfl, _, _, _, [], p0 ++ (p1 ++ (p2 ++ (p3))), [], hW', trodAll_mk1 (shut_bool Tryz.underlying4 _), trodAll_mk4 (Below.trod Tryz.laidOut_TopCompares (by kernel_rfl) (of_decide_eq_true (by kernel_rfl)) h0 hb hlt0) (Below.trod Tryz.laidOut_TopCompares (by kernel_rfl) (of_decide_eq_true (by kernel_rfl)) h1 hb hlt1) (Below.trod Tryz.laidOut_TopCompares (by kernel_rfl) (of_decide_eq_true (by kernel_rfl)) h2 hb hlt2) (Below.trod Tryz.laidOut_TopCompares (by kernel_rfl) (of_decide_eq_true (by kernel_rfl)) h3 hb hlt3), rfl, hb.frame _, fun h => by cases h⟩
  have hA' : Tp.Asc W := door_TopCompares hL hS
  obtain ⟨a0, rfl, rfl, rfl, w0⟩ := open_int Tryz.underlying3 (hval 0 3 v0 rfl rfl) h0
  obtain ⟨a1, rfl, rfl, rfl, w1⟩ := open_int Tryz.underlying3 (hval 1 3 v1 rfl rfl) h1
  obtain ⟨a2, rfl, rfl, rfl, w2⟩ := open_int Tryz.underlying3 (hval 2 3 v2 rfl rfl) h2
  obtain ⟨a3, rfl, rfl, rfl, w3⟩ := open_int Tryz.underlying3 (hval 3 3 v3 rfl rfl) h3
  exact (topCompares_any a0 a1 a2 a3 W hA').mono fin

set_option maxRecDepth 100000 in
theorem topCompares_lifted (os : Os) (started : os.Started) (H : Type) (enc : TypeId × Value → H) (F : Stop.Interp) :
    ReturnsInHanded {} Tryz.checked os 3 .any ((OpenSpec.ofChange Rows.topComparesSpec).preRow enc Tryz.prog Tryz.f3 Rows.topComparesRow.domain false Rows.topComparesRow.laid) (((OpenSpec.ofChange Rows.topComparesSpec).at F).post enc Tryz.prog Tryz.f3 false true false false) := by
  obtain ⟨places, hx⟩ := reads_TopCompares os enc
  refine returnsInHanded_of_row (C := Tryz.checked) (s := OpenSpec.ofChange Rows.topComparesSpec) own_TopCompares started noInit_TopCompares Tryz.func3
    (witness_row_atRef (enc := enc) (C := Tryz.checked) false (laidWorld_TopCompares os) #[.int .i64 0, .int .i64 0, .int .i64 0, .int .i64 0] rfl (wv_TopCompares os) (wr_TopCompares os) (wk_TopCompares os)
      (OpenSpec.preRow_of_cond 8 hx (by kernel_rfl) (fun k hk => by cases hk) (wz_TopCompares os enc) (laid_met_TopCompares os))) ?_
  intro W base args ds gs before hval hW _ _ _ hL hS _
  exact topCompares_contract H enc W base args ds gs before hval hW hL hS

theorem topCompares_said : Rows.TopComparesSaid :=
  OpenClaim.holds_of_cond 3 Tryz.f3 rfl rfl rfl rfl rfl rfl rfl ⟨rfl, rfl, rfl, rfl, rfl⟩ rfl rfl rfl rfl rfl (by as_aux_lemma => kernel_rfl) Tryz.func3 (jf_TopCompares)
    (of_decide_eq_true (by as_aux_lemma => kernel_rfl)) (by as_aux_lemma => unfold Func.isWrapper; first | (rw [if_pos (by decide +kernel)]; kernel_rfl) | (rw [if_neg (by decide +kernel)]; exact ⟨rfl, rfl⟩))
    (fun os started H enc _ F => by rw [OpenClaim.pre_eq_preRow]; exact topCompares_lifted os started H enc F)

/-- No parameter wants a stand-in; the program's own looks are off: what the card asks. -/
theorem topCompares_plain (f : FuncId) (fn : Func) (hf : Tryz.pinned.checked.prog.funcNamed Rows.topComparesRow.func = some f) (hfn : Tryz.pinned.checked.prog.funcs[f]? = some fn) :
    true = Tryz.pinned.checked.prog.looks [] ∧ ∀ (j : Nat) t, fn.params[j]? = some t → Tryz.pinned.checked.prog.wantsStandIn t = false := by
  obtain rfl : f = 3 := Option.some.inj ((show Tryz.prog.funcNamed Rows.topComparesRow.func = some 3 by kernel_rfl).symm.trans hf) |>.symm
  obtain rfl : fn = Tryz.f3 := (Option.some.inj (Tryz.func3.symm.trans hfn)).symm
  refine ⟨by kernel_rfl, fun j t ht => ?_⟩
  have hall : (Tryz.f3.params.toList.all fun t => !(Tryz.prog.wantsStandIn t)) = true := by kernel_rfl
  have h1 := List.all_eq_true.1 hall t (by simpa using Array.mem_of_getElem? ht)
  exact (by simpa using h1 : Tryz.prog.wantsStandIn t = false)

theorem topCompares_row_tie : Rows.topComparesRow.laidByTextAt .later Tryz.pinned [.data, .listed, .sentinel, .sentinel, .data, .data, .data, .handle, .pinned, .data] true :=
  OpenClaim.laidByTextAt_pinned rfl rfl tie rfl rfl rfl rfl (fun y hy _e => by
    simp only [Rows.topComparesRow, List.zip_cons_cons, List.zip_nil_right, List.mem_cons, List.mem_nil_iff, or_false] at hy
    rcases hy with rfl | rfl | rfl | rfl | rfl | rfl | rfl | rfl | rfl | rfl
    · cases _e
    · cases _e
    · cases _e
    · cases _e
    · cases _e
    · cases _e
    · cases _e
    · cases _e
    · exact ⟨pin_laid_unicode_utf8_first, by kernel_rfl⟩
    · cases _e) fits1
theorem g0_TopCompares : Tryz.pinned.checked.prog.funcNamed Rows.topComparesRow.func = some 3 := by kernel_rfl
set_option maxRecDepth 100000 in
theorem g1_TopCompares : (([3, 11, 12, 14, 13, 18, 23, 38, 66, 118, 43, 234, 351, 352, 443, 498, 524, 550, 525, 526, 527, 551, 353, 354, 355, 444, 445, 356, 446, 499, 528, 552, 553, 566, 571, 572, 120, 238, 357, 447, 500, 529, 554, 567, 568, 501, 530, 555, 531, 532, 557, 569, 573, 574, 575, 415, 578, 579, 576, 577, 580, 581, 582, 583, 556, 533, 119, 236, 235, 105, 358, 39, 72, 27, 50, 51, 52, 53, 106, 107, 237, 67, 68, 70, 69, 121, 71, 122, 239, 242, 240, 243, 241, 359, 360, 448, 247, 361, 123, 244, 245, 246, 362, 363, 364, 365, 449, 453, 504, 505, 534, 535, 450, 502, 506, 451, 503, 452, 454, 124, 125, 28, 40, 73, 126, 248, 301, 249, 92, 181, 180, 127, 250, 251, 366, 252, 367, 253, 254, 368, 255, 256, 369, 128, 257, 258, 259, 370, 455, 371, 260, 266, 376, 372, 261, 160, 293, 171, 283, 388, 294, 394, 159, 96, 183, 306, 416, 262, 373, 174, 302, 263, 374, 456, 457, 264, 175, 265, 375, 458, 507, 536, 476, 537, 508, 538, 558, 539, 559, 543, 560, 561, 512, 562, 570, 563, 565, 509, 542, 544, 540, 514, 545, 564, 541, 510, 511, 425, 492, 513, 129, 267, 130, 269, 268, 41, 74, 131, 270, 271, 377, 459, 460, 461, 272, 304, 414, 378, 462, 463, 515, 464, 485, 486, 465, 516, 517, 546, 466, 467, 468, 469, 273, 61, 113, 379, 274, 26, 46, 87, 169, 299, 86, 166, 167, 101, 186, 317, 318, 144, 281, 187, 298, 404, 319, 430, 165, 188, 168, 88, 89, 170, 90, 172, 300, 173, 93, 94, 182, 176, 303, 405, 411, 406, 484, 407, 408, 487, 488, 522, 409, 410, 412, 413, 177, 178, 91, 179, 305, 95, 47, 97, 99, 184, 307, 417, 418, 419, 98, 185, 308, 315, 429, 314, 420, 428, 493, 491, 316, 421, 114, 490, 523, 423, 422, 489, 309, 310, 424, 311, 426, 312, 427, 313, 100, 48, 102, 103, 189, 320, 321, 190, 322, 431, 433, 323, 432, 494, 495, 324, 434, 435, 280, 387, 474, 278, 381, 380, 382, 384, 470, 383, 386, 473, 520, 471, 518, 472, 519, 547, 548, 385, 496, 191, 325, 436, 49, 104, 192, 326, 437, 438, 328, 327, 286, 329, 193, 19, 20, 29, 24, 42, 75, 132, 133, 134, 135, 275, 136, 276, 137, 277, 76, 138, 139, 140, 141, 77, 142, 279, 143, 145, 146, 78, 147, 282, 79, 148, 149, 284, 389, 285, 150, 151, 152, 153, 287, 154, 156, 155, 288, 80, 81, 54, 108, 194, 330, 206, 196, 331, 195, 198, 201, 338, 337, 333, 332, 197, 200, 334, 336, 335, 199, 203, 202, 205, 204, 55, 109, 208, 220, 207, 110, 210, 339, 209, 212, 215, 345, 341, 340, 211, 214, 342, 344, 343, 213, 217, 216, 219, 218, 111, 56, 57, 30, 31, 21, 32, 33, 34, 58, 60, 59, 112, 221, 222, 346, 439, 35, 62, 65, 117, 115, 63, 116, 223, 224, 225, 226, 227, 231, 233, 347, 228, 229, 348, 440, 441, 442, 497, 230, 349, 232, 350, 36, 64, 15, 25, 44, 82, 157, 289, 290, 291, 292, 390, 391, 475, 392, 393, 158, 45, 83, 84, 161, 162, 163, 295, 395, 400, 296, 478, 479, 480, 481, 403, 483, 521, 549, 482, 396, 477, 397, 398, 399, 401, 402, 85, 164, 297, 22, 37] : List FuncId).any fun g => (Tryz.pinned.checked.prog.funcs[g]?).any Func.goes) = false := by kernel_rfl
theorem g2_TopCompares : Tryz.pinned.checked.prog.funcs.any Func.goes = false := by kernel_rfl
theorem Tp.goes_no {P : Program} {c : OpenClaim} {f : FuncId} {l : List FuncId} (hs : c.start = .entering) (h0 : P.funcNamed c.func = some f) (hc : P.closure f = l) (h1 : (l.any fun g => (P.funcs[g]?).any Func.goes) = false) (h2 : P.funcs.any Func.goes = false) : false = c.goesBy P := by
  unfold OpenClaim.goesBy Program.goesAt Program.goesFrom
  rw [h0, hs]
  show false = (P.goes f || false)
  unfold Program.goes
  rw [hc, h1, h2, Bool.and_false]
  rfl
set_option maxRecDepth 100000 in
theorem gs_TopCompares : false = Rows.topComparesRow.goesBy Tryz.pinned.checked.prog := Tp.goes_no rfl g0_TopCompares cl_TopCompares g1_TopCompares g2_TopCompares
theorem topCompares_holds : Rows.TopComparesCardSaid :=
  Claim7.holds_tied_plain_at .later [] _ _ _ _ topCompares_said (fun _ h => by cases h) (by as_aux_lemma => kernel_rfl) (fun _ h => by cases h) topCompares_row_tie rfl ⟨rfl, rfl⟩ (by as_aux_lemma => kernel_rfl) rfl topCompares_plain gs_TopCompares

end Go.Proofs.YtgampjagafcbbaaGreatDoor
