/- TopTokens: the closed facts of the row. -/
import Derived.Test.YtmdhaelmblmldaaGreatDoorCards
import Derived.Test.YtmdhaelmblmldaaGreatDoorTpLo
import Derived.Test.YtmdhaelmblmldaaGreatDoorTpRun
import Derived.LaidHandle
import Derived.Stop.Joined
import Derived.LaidByTextLater
import Derived.SevenTiedAt
import Derived.ProofKit
import Derived.OpenShut
import Derived.Below
import Derived.Carry
import Derived.Deep.Slices
import Derived.Deep.Grids
import Derived.Lib.SmallJoins
import Derived.Deep.DeepHandedRow
import Derived.Deep.DeepWitnessRowRef
import Derived.Lib.LaidTab
import Derived.Shelf.Vars
namespace Go.Proofs.YtmdhaelmblmldaaGreatDoor
set_option linter.constructorNameAsVariable false
set_option linter.unusedVariables false
set_option linter.unusedSimpArgs false
open Go.ChangeShapes Go.WideShapes Go.ChangeAt Go.RowKit Go.Deep Go.Joins
theorem lop_TopTokens : laidOutB Tryz.pinned.checked.prog = true := Tp.laidOut
set_option maxRecDepth 100000 in
theorem cl_TopTokens : Tryz.pinned.checked.prog.closure 13 = [13, 15, 27, 23, 29, 44, 73, 125, 49, 241, 358, 359, 450, 505, 531, 557, 532, 533, 534, 558, 360, 361, 362, 451, 452, 363, 453, 506, 535, 559, 560, 573, 578, 579, 127, 245, 364, 454, 507, 536, 561, 574, 575, 508, 537, 562, 538, 539, 564, 576, 580, 581, 582, 422, 585, 586, 583, 584, 587, 588, 589, 590, 563, 540, 126, 243, 242, 112, 365, 45, 79, 34, 57, 58, 59, 60, 113, 114, 244, 74, 75, 77, 76, 128, 78, 129, 246, 249, 247, 250, 248, 366, 367, 455, 254, 368, 130, 251, 252, 253, 369, 370, 371, 372, 456, 460, 511, 512, 541, 542, 457, 509, 513, 458, 510, 459, 461, 131, 132, 35, 46, 80, 133, 255, 308, 256, 99, 188, 187, 134, 257, 258, 373, 259, 374, 260, 261, 375, 262, 263, 376, 135, 264, 265, 266, 377, 462, 378, 267, 273, 383, 379, 268, 167, 300, 178, 290, 395, 301, 401, 166, 103, 190, 313, 423, 269, 380, 181, 309, 270, 381, 463, 464, 271, 182, 272, 382, 465, 514, 543, 483, 544, 515, 545, 565, 546, 566, 550, 567, 568, 519, 569, 577, 570, 572, 516, 549, 551, 547, 521, 552, 571, 548, 517, 518, 432, 499, 520, 136, 274, 137, 276, 275, 47, 81, 138, 277, 278, 384, 466, 467, 468, 279, 311, 421, 385, 469, 470, 522, 471, 492, 493, 472, 523, 524, 553, 473, 474, 475, 476, 280, 68, 120, 386, 281, 33, 53, 94, 176, 306, 93, 173, 174, 108, 193, 324, 325, 151, 288, 194, 305, 411, 326, 437, 172, 195, 175, 95, 96, 177, 97, 179, 307, 180, 100, 101, 189, 183, 310, 412, 418, 413, 491, 414, 415, 494, 495, 529, 416, 417, 419, 420, 184, 185, 98, 186, 312, 102, 54, 104, 106, 191, 314, 424, 425, 426, 105, 192, 315, 322, 436, 321, 427, 435, 500, 498, 323, 428, 121, 497, 530, 430, 429, 496, 316, 317, 431, 318, 433, 319, 434, 320, 107, 55, 109, 110, 196, 327, 328, 197, 329, 438, 440, 330, 439, 501, 502, 331, 441, 442, 287, 394, 481, 285, 388, 387, 389, 391, 477, 390, 393, 480, 527, 478, 525, 479, 526, 554, 555, 392, 503, 198, 332, 443, 56, 111, 199, 333, 444, 445, 335, 334, 293, 336, 200, 20, 30, 48, 82, 139, 140, 141, 142, 282, 143, 283, 144, 284, 83, 145, 146, 147, 148, 84, 149, 286, 150, 152, 153, 85, 154, 289, 86, 155, 156, 291, 396, 292, 157, 158, 159, 160, 294, 161, 163, 162, 295, 87, 88, 26, 24, 36, 61, 115, 201, 337, 213, 203, 338, 202, 205, 208, 345, 344, 340, 339, 204, 207, 341, 343, 342, 206, 210, 209, 212, 211, 62, 116, 215, 227, 214, 117, 217, 346, 216, 219, 222, 352, 348, 347, 218, 221, 349, 351, 350, 220, 224, 223, 226, 225, 118, 63, 64, 37, 38, 25, 39, 40, 41, 65, 67, 66, 119, 228, 229, 353, 446, 42, 69, 72, 124, 122, 70, 123, 230, 231, 232, 233, 234, 238, 240, 354, 235, 236, 355, 447, 448, 449, 504, 237, 356, 239, 357, 43, 71, 31, 50, 89, 164, 296, 297, 298, 299, 397, 398, 482, 399, 400, 165, 51, 90, 91, 168, 169, 170, 302, 402, 407, 303, 485, 486, 487, 488, 410, 490, 528, 556, 489, 403, 484, 404, 405, 406, 408, 409, 92, 171, 304, 32, 52] := by kernel_rfl
set_option maxRecDepth 100000 in
set_option maxHeartbeats 4000000 in
theorem jf_TopTokens : joinedFacts Tryz.pinned.checked.prog 13 Tryz.f13 (OpenSpec.ofChange Rows.topTokensSpec).bare Rows.topTokensRow = true := by
  unfold joinedFacts
  repeat' (with_reducible refine Bool.and_eq_true_iff.2 ⟨?_, ?_⟩)
  all_goals first
    | with_reducible exact lop_TopTokens
    | (rw [Program.inPlace, cl_TopTokens]; as_aux_lemma => kernel_rfl)
    | (rw [Program.varsNamed, cl_TopTokens]; as_aux_lemma => kernel_rfl)
    | (rw [Program.recurses, Program.unfollowed, cl_TopTokens]; as_aux_lemma => kernel_rfl)
    | (rw [Program.unfollowed, cl_TopTokens]; as_aux_lemma => kernel_rfl)
    | (as_aux_lemma => kernel_rfl)

end Go.Proofs.YtmdhaelmblmldaaGreatDoor
