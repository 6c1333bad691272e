/- TopCasts: the closed facts of the row. -/
import Derived.Test.YtoinghomkcjkcaaGreatDoorCards
import Derived.Test.YtoinghomkcjkcaaGreatDoorTpLo
import Derived.Test.YtoinghomkcjkcaaGreatDoorTpRun
import Derived.LaidHandle
import Derived.Stop.Joined
import Derived.LaidByTextLater
import Derived.SevenTiedAt
import Derived.ProofKit
import Derived.OpenShut
import Derived.Below
import Derived.Carry
import Derived.Deep.Slices
import Derived.Deep.Grids
import Derived.Lib.SmallJoins
import Derived.Deep.DeepHandedRow
import Derived.Deep.DeepWitnessRowRef
import Derived.Lib.LaidTab
import Derived.Shelf.Vars
namespace Go.Proofs.YtoinghomkcjkcaaGreatDoor
set_option linter.constructorNameAsVariable false
set_option linter.unusedVariables false
set_option linter.unusedSimpArgs false
open Go.ChangeShapes Go.WideShapes Go.ChangeAt Go.RowKit Go.Deep Go.Joins
theorem lop_TopCasts : laidOutB Tryz.pinned.checked.prog = true := Tp.laidOut
set_option maxRecDepth 100000 in
theorem cl_TopCasts : Tryz.pinned.checked.prog.closure 3 = [3, 6, 8, 7, 12, 14, 23, 48, 102, 28, 188, 324, 325, 433, 491, 518, 544, 519, 520, 521, 545, 326, 327, 328, 434, 435, 329, 436, 492, 522, 546, 547, 560, 565, 566, 104, 192, 330, 437, 493, 523, 548, 561, 562, 494, 524, 549, 525, 526, 551, 563, 567, 568, 569, 388, 572, 573, 570, 571, 574, 575, 576, 577, 550, 527, 103, 190, 189, 87, 331, 24, 54, 19, 36, 37, 38, 39, 88, 89, 191, 49, 50, 52, 51, 105, 53, 106, 193, 196, 194, 197, 195, 332, 333, 438, 201, 334, 107, 198, 199, 200, 335, 336, 337, 338, 439, 443, 497, 498, 528, 529, 440, 495, 499, 441, 496, 442, 444, 108, 109, 20, 25, 55, 110, 202, 255, 203, 74, 165, 164, 111, 204, 205, 339, 206, 340, 207, 208, 341, 209, 210, 342, 112, 211, 212, 213, 343, 445, 344, 214, 220, 349, 345, 215, 144, 247, 155, 237, 361, 248, 367, 143, 78, 167, 260, 389, 216, 346, 158, 256, 217, 347, 446, 447, 218, 159, 219, 348, 448, 500, 530, 466, 531, 501, 532, 552, 533, 553, 537, 554, 555, 505, 556, 564, 557, 559, 502, 536, 538, 534, 507, 539, 558, 535, 503, 504, 398, 482, 506, 113, 221, 114, 223, 222, 26, 56, 115, 224, 225, 350, 449, 450, 451, 226, 258, 387, 351, 452, 453, 508, 454, 475, 476, 455, 509, 510, 540, 456, 457, 458, 459, 227, 97, 183, 352, 228, 18, 32, 69, 153, 253, 68, 150, 151, 83, 170, 271, 272, 128, 235, 171, 252, 377, 273, 403, 149, 172, 152, 70, 71, 154, 72, 156, 254, 157, 75, 76, 166, 160, 257, 378, 384, 379, 474, 380, 381, 477, 478, 515, 382, 383, 385, 386, 161, 162, 73, 163, 259, 77, 33, 79, 81, 168, 261, 390, 391, 392, 80, 169, 262, 269, 402, 268, 393, 401, 483, 481, 270, 394, 184, 480, 516, 396, 395, 479, 263, 264, 397, 265, 399, 266, 400, 267, 82, 34, 84, 85, 173, 274, 275, 174, 276, 404, 406, 277, 405, 484, 485, 278, 407, 408, 234, 360, 464, 232, 354, 353, 355, 357, 460, 356, 359, 463, 513, 461, 511, 462, 512, 541, 542, 358, 486, 175, 279, 409, 35, 86, 176, 280, 410, 411, 282, 281, 240, 283, 177, 13, 21, 40, 15, 27, 57, 116, 117, 118, 119, 229, 120, 230, 121, 231, 58, 122, 123, 124, 125, 59, 126, 233, 127, 129, 130, 60, 131, 236, 61, 132, 133, 238, 362, 239, 134, 135, 136, 137, 241, 138, 140, 139, 242, 62, 63, 90, 178, 284, 412, 296, 286, 413, 285, 288, 291, 420, 419, 415, 414, 287, 290, 416, 418, 417, 289, 293, 292, 295, 294, 91, 179, 298, 310, 297, 180, 300, 421, 299, 302, 305, 427, 423, 422, 301, 304, 424, 426, 425, 303, 307, 306, 309, 308, 181, 92, 93, 41, 42, 22, 43, 44, 45, 94, 96, 95, 182, 311, 312, 428, 487, 46, 98, 101, 187, 185, 99, 186, 313, 314, 315, 316, 317, 321, 323, 429, 318, 319, 430, 488, 489, 490, 517, 320, 431, 322, 432, 47, 100, 9, 16, 29, 64, 141, 243, 244, 245, 246, 363, 364, 465, 365, 366, 142, 30, 65, 66, 145, 146, 147, 249, 368, 373, 250, 468, 469, 470, 471, 376, 473, 514, 543, 472, 369, 467, 370, 371, 372, 374, 375, 67, 148, 251, 17, 31] := by kernel_rfl
set_option maxRecDepth 100000 in
set_option maxHeartbeats 4000000 in
theorem jf_TopCasts : joinedFacts Tryz.pinned.checked.prog 3 Tryz.f3 (OpenSpec.ofChange Rows.topCastsSpec).bare Rows.topCastsRow = true := by
  unfold joinedFacts
  repeat' (with_reducible refine Bool.and_eq_true_iff.2 ⟨?_, ?_⟩)
  all_goals first
    | with_reducible exact lop_TopCasts
    | (rw [Program.inPlace, cl_TopCasts]; as_aux_lemma => kernel_rfl)
    | (rw [Program.varsNamed, cl_TopCasts]; as_aux_lemma => kernel_rfl)
    | (rw [Program.recurses, Program.unfollowed, cl_TopCasts]; as_aux_lemma => kernel_rfl)
    | (rw [Program.unfollowed, cl_TopCasts]; as_aux_lemma => kernel_rfl)
    | (as_aux_lemma => kernel_rfl)

end Go.Proofs.YtoinghomkcjkcaaGreatDoor
