/- DiagTexts, for every input: the row, proved out of the walk; and its card. -/
import Derived.Test.YtblkcgbifecemaaDoorCards
import Derived.Test.YtblkcgbifecemaaDoorTie
import Derived.Test.YtblkcgbifecemaaDoorDiagTexts
import Derived.LaidHandle
import Derived.Stop.Joined
import Derived.ProofKit
import Derived.OpenShut
import Derived.Below
import Derived.Carry
import Derived.Deep.Slices
import Derived.Deep.Grids
import Derived.Lib.SmallJoins
import Derived.Deep.DeepHandedRow
import Derived.Lib.LaidTab
import Derived.Shelf.Vars
namespace Go.Proofs.YtblkcgbifecemaaDoor
open Go.ChangeShapes Go.WideShapes Go.ChangeAt Go.RowKit Go.Deep Go.Joins

theorem et_DiagTexts : Tryd.prog.globalNamed "errors.errorType" = some 0 := by kernel_rfl
theorem rt_DiagTexts : (Tryd.prog.cutTypes.find? (·.1 == "internal/reflectlite.rtype")).map (·.2) = some 69 := by kernel_rfl
theorem oneRow_DiagTexts : ((List.range Tryd.prog.types.size).filter fun t => Tryd.prog.rowNamed t [101, 114, 114, 111, 114]) = [23] := by kernel_rfl
/-- What the condition gives a walk: the variable's one cell. -/
theorem door_DiagTexts {W : World} (h : laidMetH Tryd.prog Rows.diagTextsRow.laid W) : Door W := by
  have h' : laidMet Tryd.prog (Rows.diagTextsRow.laid.filter fun x => x.2.handleName?.isNone) W ∧ handlesMet Tryd.prog [("errors.errorType", Rows.laid_errors_errorType)] W := h
  obtain ⟨name, u, ty, e1, e2, e3, e4, e5⟩ := h'.2 _ (List.mem_singleton.2 rfl)
  have en : name = [101, 114, 114, 111, 114] := (Option.some.inj e1).symm
  subst en
  obtain rfl := Option.some.inj (rt_DiagTexts.symm.trans e2)
  have hm : ty ∈ (List.range Tryd.prog.types.size).filter fun t => Tryd.prog.rowNamed t [101, 114, 114, 111, 114] := List.mem_filter.2 ⟨List.mem_range.2 e3, e4⟩
  rw [oneRow_DiagTexts] at hm
  obtain rfl := List.mem_singleton.1 hm
  have hh : typeHandle Tryd.prog 23 = .pointer (some ⟨4, 23, none⟩) := by kernel_rfl
  rw [hh] at e5
  have h9 := World.var?_cell et_DiagTexts e5 0
  show W.cell? ⟨0, 0, none⟩ = _
  simpa using h9

theorem laidMet_tail {P : Program} {x : String × DataW Unit} {l : List (String × DataW Unit)} {W : World} (h : laidMet P (x :: l) W) : laidMet P l W := by
  obtain ⟨ps, ⟨g', t', cs, fuel, p, q, hg', ht', hvar, hd, hr, rfl⟩, hnd, hrows⟩ := h
  exact ⟨q, hr, (List.nodup_append.1 hnd).2.1, fun b off hm => hrows b off (List.mem_append_right _ hm)⟩
theorem gp_DiagTexts : Tryd.prog.globalNamed "internal/strconv.uint64pow10" = some 1 := by kernel_rfl
theorem tab_DiagTexts {W : World} (h : laidMetH Tryd.prog Rows.diagTextsRow.laid W) : Lib.TabIs Tryd.prog W "internal/strconv.uint64pow10" .u64 Lib.pow10Tab := by
  have h' : laidMet Tryd.prog [("math/bits.deBruijn32tab", Rows.laid_math_bits_deBruijn32tab), ("math/bits.deBruijn64tab", Rows.laid_math_bits_deBruijn64tab), ("internal/strconv.uint64pow10", Lib.tabData .u64 Lib.pow10Tab)] W ∧ handlesMet Tryd.prog [("errors.errorType", Rows.laid_errors_errorType)] W := h
  exact Lib.tabIs_of_head (t := 103) (e := 90) (n := 20) gp_DiagTexts (by kernel_rfl) Tryd.underlying103 Tryd.underlying90 (by kernel_rfl) (by kernel_rfl) (laidMet_tail (laidMet_tail h'.1))

section
variable {H : Type} {enc : TypeId × Value → H} {W : World}
theorem Er.list2 {l : List Value} (h : l.length = 2) : ∃ a b, l = [a, b] := by
  match l, h with
  | [a, b], _ => exact ⟨a, b, rfl⟩
theorem Er.cells_w : Tryd.prog.cellsOf 37 = 2 := by kernel_rfl
theorem Er.cells_i : Tryd.prog.cellsOf 3 = 1 := by kernel_rfl
theorem wrong_open {fuel : Nat} {cs : List Value} {x : DataW H × List MemPlace} (h : DataW.trod enc Tryd.prog W 0 (fun _ => true) true fuel 37 cs = some x) : ∃ k a : Int, cs = [.int .i64 k, .int .i64 a] ∧ (Lit.int .i64 k).wf = true ∧ (Lit.int .i64 a).wf = true := by
  obtain ⟨xs, n, _, _, hl, hxl, hf⟩ := DataW.trod_struct Tryd.underlying37 h
  rw [Er.cells_w] at hl
  obtain ⟨a, b, rfl⟩ := Er.list2 hl
  have get : ∀ i, i < 2 → ∃ y, xs[i]? = some y := fun i hi => ⟨_, List.getElem?_eq_getElem (by rw [hxl]; exact hi)⟩
  obtain ⟨y0, e0⟩ := get 0 (by decide)
  obtain ⟨y1, e1⟩ := get 1 (by decide)
  have f0 := hf 0 _ rfl
  have f1 := hf 1 _ rfl
  rw [e0] at f0; rw [e1] at f1
  simp only [List.getElem_toArray, List.getElem_cons_zero, List.getElem_cons_succ, Er.cells_i, List.drop_succ_cons, List.drop_zero, List.take_succ_cons, List.take_zero] at f0 f1
  obtain ⟨k, g0, _, w0⟩ := DataW.trod_int Tryd.underlying3 f0
  obtain ⟨lo, g1, _, w1⟩ := DataW.trod_int Tryd.underlying3 f1
  simp at g0 g1
  subst g0 g1
  exact ⟨k, lo, rfl, w0, w1⟩
theorem wf_i64 {n : Int} (h : (Lit.int .i64 n).wf = true) : -9223372036854775808 ≤ n ∧ n ≤ 9223372036854775807 := by
  simp [Lit.wf, IntKind.min, IntKind.max, IntKind.signed, IntKind.bits] at h
  omega
end

theorem own_DiagTexts : ownKnob Tryd.prog.godebug = none := by kernel_rfl
theorem Tryd.laidOut_DiagTexts : laidOutB Tryd.prog = true := by kernel_rfl

set_option maxRecDepth 100000 in
theorem diagTexts_contract (H : Type) (enc : TypeId × Value → H) (W : World) (base : Nat) (args : Array Value) (ds gs : List (DataW H)) (before : List MemPlace)
    (hval : ∀ (j : Nat) t v, Tryd.f5.params[j]? = some t → args[j]? = some v → Value.okWide Tryd.prog W .any base t v)
    (hW : DataW.Whole enc Tryd.prog Tryd.f5.params.toList Rows.diagTextsSpec.vars false W args.toList ds gs before) (hL : laidMetH Tryd.prog Rows.diagTextsRow.laid W) (hS : W.ShapedOpen Tryd.prog) :
    Calls Tryd.prog 5 args W fun e W' => ∃ v, e = .returned v ∧ Rows.diagTextsSpec.post enc Tryd.prog Tryd.f5 false true false false W args v W' := by
  have hW' := hW
  obtain ⟨p, q, hA0, hV, rfl, hfz, hnd⟩ := hW
  have hA : DataW.TrodAll enc Tryd.prog W 0 (fun _ => true) true Tryd.f5.params.toList args.toList ds p := hA0
  rw [Tryd.params5] at hA hval
  obtain ⟨v0, v1, d0, d1, p0, p1, rfl, rfl, rfl, h0, h1⟩ := trodAll_two hA
  obtain ⟨rfl, rfl⟩ := trodVars_none hV
  clear hA0
  simp only [List.append_nil] at hW'
  have hlt0 : ∀ x ∈ p0, x.block < W.heap.size := fun x hx => hW'.lt x (by simp [hx])
  have hlt1 : ∀ x ∈ p1, x.block < W.heap.size := fun x hx => hW'.lt x (by simp [hx])
  have fin : ∀ (e : Ending) (W' : World), (e = .returned (.bool true) ∧ Below W.heap.size W W') → ∃ v, e = Ending.returned v ∧ Rows.diagTextsSpec.post enc Tryd.prog Tryd.f5 false true false false W #[v0, v1] v W' := by
    rintro e W' ⟨rfl, hb⟩
    exact ⟨_, rfl, _, _, _, [], p0 ++ (p1), [], hW', trodAll_mk1 (shut_bool Tryd.underlying4 _), trodAll_mk2 (Below.trod Tryd.laidOut_DiagTexts (by kernel_rfl) (of_decide_eq_true (by kernel_rfl)) h0 hb hlt0) (Below.trod Tryd.laidOut_DiagTexts (by kernel_rfl) (of_decide_eq_true (by kernel_rfl)) h1 hb hlt1), rfl, hb.frame _, fun h => by cases h⟩
  have hg := door_DiagTexts hL
  have ht := tab_DiagTexts hL
  obtain ⟨cs0, rfl, _⟩ := okWide_struct Tryd.underlying37 (hval 0 37 v0 rfl rfl)
  obtain ⟨cs1, rfl, _⟩ := okWide_struct Tryd.underlying37 (hval 1 37 v1 rfl rfl)
  obtain ⟨fu0, hf0⟩ := h0
  obtain ⟨fu1, hf1⟩ := h1
  refine Calls.mono (?_ : Calls Tryd.prog _ _ W fun e W' => e = .returned (.bool true) ∧ Below W.heap.size W W') fin
  obtain ⟨c, a, ec, wc, wa⟩ := wrong_open (cs := cs0.toList) (by simpa [Value.cells] using hf0)
  obtain ⟨d, b, ed, wd, wb⟩ := wrong_open (cs := cs1.toList) (by simpa [Value.cells] using hf1)
  obtain rfl : cs0 = #[.int .i64 c, .int .i64 a] := by rw [← Array.toList_inj, ec]
  obtain rfl : cs1 = #[.int .i64 d, .int .i64 b] := by rw [← Array.toList_inj, ed]
  have hT : ∀ w, Below W.heap.size W w → Lib.TabIs Tryd.prog w "internal/strconv.uint64pow10" .u64 Lib.pow10Tab := fun w hb => tab_below ht gp_DiagTexts hb
  obtain ⟨tc, lc, xc⟩ := Tells.all hT c (wf_i64 wc).1 (wf_i64 wc).2
  obtain ⟨ta, la, xa⟩ := Tells.all hT a (wf_i64 wa).1 (wf_i64 wa).2
  obtain ⟨td, ld, xd⟩ := Tells.all hT d (wf_i64 wd).1 (wf_i64 wd).2
  obtain ⟨tb, lb, xb⟩ := Tells.all hT b (wf_i64 wb).1 (wf_i64 wb).2
  exact diagTexts_any c a d b tc ta td tb W hg xc xa xd xb lc la ld lb

/-! A world for the witness: the settled one, the listed tables holding what their initialisers lay. -/
noncomputable def laid0_DiagTexts (o : Obj) : Obj := match o with
  | .cells _ t frozen => .cells #[.iface 69 (.agg #[.pointer (some ⟨4, 23, none⟩)])] t frozen
  | o => o
noncomputable def laid1_DiagTexts (o : Obj) : Obj := match o with
  | .cells _ t frozen => .cells #[.int .u64 1, .int .u64 10, .int .u64 100, .int .u64 1000, .int .u64 10000, .int .u64 100000, .int .u64 1000000, .int .u64 10000000, .int .u64 100000000, .int .u64 1000000000, .int .u64 10000000000, .int .u64 100000000000, .int .u64 1000000000000, .int .u64 10000000000000, .int .u64 100000000000000, .int .u64 1000000000000000, .int .u64 10000000000000000, .int .u64 100000000000000000, .int .u64 1000000000000000000, .int .u64 10000000000000000000] t frozen
  | o => o
noncomputable def laid2_DiagTexts (o : Obj) : Obj := match o with
  | .cells _ t frozen => .cells #[.int .u8 0, .int .u8 1, .int .u8 28, .int .u8 2, .int .u8 29, .int .u8 14, .int .u8 24, .int .u8 3, .int .u8 30, .int .u8 22, .int .u8 20, .int .u8 15, .int .u8 25, .int .u8 17, .int .u8 4, .int .u8 8, .int .u8 31, .int .u8 27, .int .u8 13, .int .u8 23, .int .u8 21, .int .u8 19, .int .u8 16, .int .u8 7, .int .u8 26, .int .u8 12, .int .u8 18, .int .u8 6, .int .u8 11, .int .u8 5, .int .u8 10, .int .u8 9] t frozen
  | o => o
noncomputable def laid3_DiagTexts (o : Obj) : Obj := match o with
  | .cells _ t frozen => .cells #[.int .u8 0, .int .u8 1, .int .u8 56, .int .u8 2, .int .u8 57, .int .u8 49, .int .u8 28, .int .u8 3, .int .u8 61, .int .u8 58, .int .u8 42, .int .u8 50, .int .u8 38, .int .u8 29, .int .u8 17, .int .u8 4, .int .u8 62, .int .u8 47, .int .u8 59, .int .u8 36, .int .u8 45, .int .u8 43, .int .u8 51, .int .u8 22, .int .u8 53, .int .u8 39, .int .u8 33, .int .u8 30, .int .u8 24, .int .u8 18, .int .u8 12, .int .u8 5, .int .u8 63, .int .u8 55, .int .u8 48, .int .u8 27, .int .u8 60, .int .u8 41, .int .u8 37, .int .u8 16, .int .u8 46, .int .u8 35, .int .u8 44, .int .u8 21, .int .u8 52, .int .u8 32, .int .u8 23, .int .u8 11, .int .u8 54, .int .u8 26, .int .u8 40, .int .u8 15, .int .u8 34, .int .u8 20, .int .u8 31, .int .u8 10, .int .u8 25, .int .u8 14, .int .u8 19, .int .u8 9, .int .u8 13, .int .u8 8, .int .u8 7, .int .u8 6] t frozen
  | o => o
noncomputable def laidWorld_DiagTexts (os : Os) : World :=
  { World.holding Tryd.prog os ⟨#[], #[], []⟩ with heap := (((((World.holding Tryd.prog os ⟨#[], #[], []⟩).heap).modify 0 laid0_DiagTexts).modify 1 laid1_DiagTexts).modify 2 laid2_DiagTexts).modify 3 laid3_DiagTexts }
theorem laid_met_DiagTexts (os : Os) : laidMetH Tryd.prog Rows.diagTextsRow.laid ((laidWorld_DiagTexts os).forCall (fun _ _ => 0) ⟨#[], #[.agg #[.int .i64 0, .int .i64 0], .agg #[.int .i64 0, .int .i64 0]], []⟩).memory :=
  laidMetH_of_parts (laidMet_of_run' 8 (by kernel_rfl) (by kernel_rfl)) (by kernel_rfl)
theorem reads_DiagTexts (os : Os) {H : Type} (enc : TypeId × Value → H) : ∃ places, DataW.whole enc Tryd.prog ((laidWorld_DiagTexts os).forCall (fun _ _ => 0) ⟨#[], #[.agg #[.int .i64 0, .int .i64 0], .agg #[.int .i64 0, .int .i64 0]], []⟩).memory Tryd.f5.params.toList Rows.diagTextsSpec.vars false (#[.agg #[.int .i64 0, .int .i64 0], .agg #[.int .i64 0, .int .i64 0]] : Array Value).toList 8 = some ([.agg [.lit (.int .i64 0), .lit (.int .i64 0)], .agg [.lit (.int .i64 0), .lit (.int .i64 0)]], [], places) :=
  ⟨[], by kernel_rfl⟩

set_option maxRecDepth 100000 in
theorem diagTexts_lifted (os : Os) (started : os.Started) (H : Type) (enc : TypeId × Value → H) (F : Stop.Interp) :
    ReturnsInHanded {} Tryd.checked os 5 .any ((OpenSpec.ofChange Rows.diagTextsSpec).preRow enc Tryd.prog Tryd.f5 Rows.diagTextsRow.domain false Rows.diagTextsRow.laid) (((OpenSpec.ofChange Rows.diagTextsSpec).at F).post enc Tryd.prog Tryd.f5 false true false false) := by
  obtain ⟨places, hx⟩ := reads_DiagTexts os enc
  refine returnsInHanded_of_row (C := Tryd.checked) (s := OpenSpec.ofChange Rows.diagTextsSpec) own_DiagTexts started (by kernel_rfl) Tryd.func5
    (witness_row_at (enc := enc) (C := Tryd.checked) false (laidWorld_DiagTexts os) #[.agg #[.int .i64 0, .int .i64 0], .agg #[.int .i64 0, .int .i64 0]] rfl (by kernel_rfl) (by kernel_rfl) (by kernel_rfl)
      (OpenSpec.preRow_of_cond 8 hx (by kernel_rfl) (fun k hk => by cases hk) (by kernel_rfl) (laid_met_DiagTexts os))) ?_
  intro W base args ds gs before hval hW _ _ _ hL hS _
  exact diagTexts_contract H enc W base args ds gs before hval hW hL hS

theorem diagTexts_said : Rows.DiagTextsSaid :=
  OpenClaim.holds_of_cond 5 Tryd.f5 rfl rfl rfl rfl rfl rfl rfl ⟨rfl, rfl, rfl, rfl, rfl⟩ rfl rfl rfl rfl rfl (by kernel_rfl) Tryd.func5 (by kernel_rfl)
    (of_decide_eq_true (by kernel_rfl)) (by unfold Func.isWrapper; first | (rw [if_pos (by decide +kernel)]; kernel_rfl) | (rw [if_neg (by decide +kernel)]; exact ⟨rfl, rfl⟩))
    (fun os started H enc _ F => by rw [OpenClaim.pre_eq_preRow]; exact diagTexts_lifted os started H enc F)

/-- No parameter wants a stand-in; the program's own looks are off: what the card asks. -/
theorem diagTexts_plain (f : FuncId) (fn : Func) (hf : Tryd.pinned.checked.prog.funcNamed Rows.diagTextsRow.func = some f) (hfn : Tryd.pinned.checked.prog.funcs[f]? = some fn) :
    true = Tryd.pinned.checked.prog.looks [] ∧ ∀ (j : Nat) t, fn.params[j]? = some t → Tryd.pinned.checked.prog.wantsStandIn t = false := by
  obtain rfl : f = 5 := Option.some.inj ((show Tryd.prog.funcNamed Rows.diagTextsRow.func = some 5 by kernel_rfl).symm.trans hf) |>.symm
  obtain rfl : fn = Tryd.f5 := (Option.some.inj (Tryd.func5.symm.trans hfn)).symm
  refine ⟨by kernel_rfl, fun j t ht => ?_⟩
  have hall : (Tryd.f5.params.toList.all fun t => !(Tryd.prog.wantsStandIn t)) = true := by kernel_rfl
  have h1 := List.all_eq_true.1 hall t (by simpa using Array.mem_of_getElem? ht)
  exact (by simpa using h1 : Tryd.prog.wantsStandIn t = false)

theorem diagTexts_holds : Rows.DiagTextsCardSaid :=
  Claim7.holds_tied_plain_at .later [] _ _ _ _ diagTexts_said (fun _ h => by cases h) (by kernel_rfl) (fun _ h => by cases h) diagTexts_row_tie rfl ⟨rfl, rfl⟩ (by kernel_rfl) rfl diagTexts_plain (by kernel_rfl)

end Go.Proofs.YtblkcgbifecemaaDoor
