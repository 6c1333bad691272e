/- TopInits: the closed facts of the row. -/
import Derived.Test.YtgampjagafcbbaaGreatDoorCards
import Derived.Test.YtgampjagafcbbaaGreatDoorTpLo
import Derived.Test.YtgampjagafcbbaaGreatDoorTpRun
import Derived.LaidHandle
import Derived.Stop.Joined
import Derived.LaidByTextLater
import Derived.SevenTiedAt
import Derived.ProofKit
import Derived.OpenShut
import Derived.Below
import Derived.Carry
import Derived.Deep.Slices
import Derived.Deep.Grids
import Derived.Lib.SmallJoins
import Derived.Deep.DeepHandedRow
import Derived.Deep.DeepWitnessRowRef
import Derived.Lib.LaidTab
import Derived.Shelf.Vars
namespace Go.Proofs.YtgampjagafcbbaaGreatDoor
set_option linter.constructorNameAsVariable false
set_option linter.unusedVariables false
set_option linter.unusedSimpArgs false
open Go.ChangeShapes Go.WideShapes Go.ChangeAt Go.RowKit Go.Deep Go.Joins
theorem lop_TopInits : laidOutB Tryz.pinned.checked.prog = true := Tp.laidOut
set_option maxRecDepth 100000 in
theorem cl_TopInits : Tryz.pinned.checked.prog.closure 9 = [9, 11, 17, 18, 23, 38, 66, 118, 43, 234, 351, 352, 443, 498, 524, 550, 525, 526, 527, 551, 353, 354, 355, 444, 445, 356, 446, 499, 528, 552, 553, 566, 571, 572, 120, 238, 357, 447, 500, 529, 554, 567, 568, 501, 530, 555, 531, 532, 557, 569, 573, 574, 575, 415, 578, 579, 576, 577, 580, 581, 582, 583, 556, 533, 119, 236, 235, 105, 358, 39, 72, 27, 50, 51, 52, 53, 106, 107, 237, 67, 68, 70, 69, 121, 71, 122, 239, 242, 240, 243, 241, 359, 360, 448, 247, 361, 123, 244, 245, 246, 362, 363, 364, 365, 449, 453, 504, 505, 534, 535, 450, 502, 506, 451, 503, 452, 454, 124, 125, 28, 40, 73, 126, 248, 301, 249, 92, 181, 180, 127, 250, 251, 366, 252, 367, 253, 254, 368, 255, 256, 369, 128, 257, 258, 259, 370, 455, 371, 260, 266, 376, 372, 261, 160, 293, 171, 283, 388, 294, 394, 159, 96, 183, 306, 416, 262, 373, 174, 302, 263, 374, 456, 457, 264, 175, 265, 375, 458, 507, 536, 476, 537, 508, 538, 558, 539, 559, 543, 560, 561, 512, 562, 570, 563, 565, 509, 542, 544, 540, 514, 545, 564, 541, 510, 511, 425, 492, 513, 129, 267, 130, 269, 268, 41, 74, 131, 270, 271, 377, 459, 460, 461, 272, 304, 414, 378, 462, 463, 515, 464, 485, 486, 465, 516, 517, 546, 466, 467, 468, 469, 273, 61, 113, 379, 274, 26, 46, 87, 169, 299, 86, 166, 167, 101, 186, 317, 318, 144, 281, 187, 298, 404, 319, 430, 165, 188, 168, 88, 89, 170, 90, 172, 300, 173, 93, 94, 182, 176, 303, 405, 411, 406, 484, 407, 408, 487, 488, 522, 409, 410, 412, 413, 177, 178, 91, 179, 305, 95, 47, 97, 99, 184, 307, 417, 418, 419, 98, 185, 308, 315, 429, 314, 420, 428, 493, 491, 316, 421, 114, 490, 523, 423, 422, 489, 309, 310, 424, 311, 426, 312, 427, 313, 100, 48, 102, 103, 189, 320, 321, 190, 322, 431, 433, 323, 432, 494, 495, 324, 434, 435, 280, 387, 474, 278, 381, 380, 382, 384, 470, 383, 386, 473, 520, 471, 518, 472, 519, 547, 548, 385, 496, 191, 325, 436, 49, 104, 192, 326, 437, 438, 328, 327, 286, 329, 193, 19, 20, 29, 24, 42, 75, 132, 133, 134, 135, 275, 136, 276, 137, 277, 76, 138, 139, 140, 141, 77, 142, 279, 143, 145, 146, 78, 147, 282, 79, 148, 149, 284, 389, 285, 150, 151, 152, 153, 287, 154, 156, 155, 288, 80, 81, 54, 108, 194, 330, 206, 196, 331, 195, 198, 201, 338, 337, 333, 332, 197, 200, 334, 336, 335, 199, 203, 202, 205, 204, 55, 109, 208, 220, 207, 110, 210, 339, 209, 212, 215, 345, 341, 340, 211, 214, 342, 344, 343, 213, 217, 216, 219, 218, 111, 56, 57, 30, 31, 21, 32, 33, 34, 58, 60, 59, 112, 221, 222, 346, 439, 35, 62, 65, 117, 115, 63, 116, 223, 224, 225, 226, 227, 231, 233, 347, 228, 229, 348, 440, 441, 442, 497, 230, 349, 232, 350, 36, 64, 22, 37, 15, 25, 44, 82, 157, 289, 290, 291, 292, 390, 391, 475, 392, 393, 158, 45, 83, 84, 161, 162, 163, 295, 395, 400, 296, 478, 479, 480, 481, 403, 483, 521, 549, 482, 396, 477, 397, 398, 399, 401, 402, 85, 164, 297] := by kernel_rfl
set_option maxRecDepth 100000 in
set_option maxHeartbeats 4000000 in
theorem jf_TopInits : joinedFacts Tryz.pinned.checked.prog 9 Tryz.f9 (OpenSpec.ofChange Rows.topInitsSpec).bare Rows.topInitsRow = true := by
  unfold joinedFacts
  repeat' (with_reducible refine Bool.and_eq_true_iff.2 ⟨?_, ?_⟩)
  all_goals first
    | with_reducible exact lop_TopInits
    | (rw [Program.inPlace, cl_TopInits]; as_aux_lemma => kernel_rfl)
    | (rw [Program.varsNamed, cl_TopInits]; as_aux_lemma => kernel_rfl)
    | (rw [Program.recurses, Program.unfollowed, cl_TopInits]; as_aux_lemma => kernel_rfl)
    | (rw [Program.unfollowed, cl_TopInits]; as_aux_lemma => kernel_rfl)
    | (as_aux_lemma => kernel_rfl)

end Go.Proofs.YtgampjagafcbbaaGreatDoor
