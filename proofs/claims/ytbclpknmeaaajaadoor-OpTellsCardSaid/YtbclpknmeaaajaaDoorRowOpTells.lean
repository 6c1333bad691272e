/- OpTells, for every input: the row, proved out of the walk; and its card. -/
import Derived.Test.YtbclpknmeaaajaaDoorCards
import Derived.Test.YtbclpknmeaaajaaDoorTie
import Derived.Test.YtbclpknmeaaajaaDoorOpTells
import Derived.ProofKit
import Derived.OpenShut
import Derived.Below
import Derived.Carry
import Derived.Deep.Slices
import Derived.Deep.Grids
import Derived.Lib.SmallJoins
import Derived.Deep.DeepHandedRow
import Derived.Lib.LaidTab
import Derived.Shelf.Vars
namespace Go.Proofs.YtbclpknmeaaajaaDoor
open Go.ChangeShapes Go.WideShapes Go.ChangeAt Go.RowKit Go.Deep Go.Joins

section
variable {H : Type} {enc : TypeId × Value → H} {W : World}
theorem Op.list3 {l : List Value} (h : l.length = 3) : ∃ a b c, l = [a, b, c] := by
  match l, h with
  | [a, b, c], _ => exact ⟨a, b, c, rfl⟩
theorem Op.list6 {l : List Value} (h : l.length = 6) : ∃ a b c d e f, l = [a, b, c, d, e, f] := by
  match l, h with
  | [a, b, c, d, e, f], _ => exact ⟨a, b, c, d, e, f, rfl⟩
theorem Op.cells_op : Tryd.prog.cellsOf 23 = 3 := by kernel_rfl
theorem Op.cells_code : Tryd.prog.cellsOf 26 = 6 := by kernel_rfl
theorem Op.cells_i : Tryd.prog.cellsOf 3 = 1 := by kernel_rfl
theorem Op.cells_s : Tryd.prog.cellsOf 9 = 1 := by kernel_rfl
theorem Op.cells_b : Tryd.prog.cellsOf 4 = 1 := by kernel_rfl
theorem Op.cells_os : Tryd.prog.cellsOf 24 = 1 := by kernel_rfl
theorem op_open {fuel : Nat} {cs : List Value} {x : DataW H × List MemPlace} (h : DataW.trod enc Tryd.prog W 0 (fun _ => true) true fuel 23 cs = some x) : ∃ k a b : Int, cs = [.int .i64 k, .int .i64 a, .int .i64 b] := by
  obtain ⟨xs, n, _, _, hl, hxl, hf⟩ := DataW.trod_struct Tryd.underlying23 h
  rw [Op.cells_op] at hl
  obtain ⟨a, b, c, rfl⟩ := Op.list3 hl
  have get : ∀ i, i < 3 → ∃ y, xs[i]? = some y := fun i hi => ⟨_, List.getElem?_eq_getElem (by rw [hxl]; exact hi)⟩
  obtain ⟨y0, e0⟩ := get 0 (by decide)
  obtain ⟨y1, e1⟩ := get 1 (by decide)
  obtain ⟨y2, e2⟩ := get 2 (by decide)
  have f0 := hf 0 _ rfl
  have f1 := hf 1 _ rfl
  have f2 := hf 2 _ rfl
  rw [e0] at f0; rw [e1] at f1; rw [e2] at f2
  simp only [List.getElem_toArray, List.getElem_cons_zero, List.getElem_cons_succ, Op.cells_i, List.drop_succ_cons, List.drop_zero, List.take_succ_cons, List.take_zero] at f0 f1 f2
  obtain ⟨k, g0, _, _⟩ := DataW.trod_int Tryd.underlying3 f0
  obtain ⟨lo, g1, _, _⟩ := DataW.trod_int Tryd.underlying3 f1
  obtain ⟨hi, g2, _, _⟩ := DataW.trod_int Tryd.underlying3 f2
  simp at g0 g1 g2
  subst g0 g1 g2
  exact ⟨k, lo, hi, rfl⟩
theorem code_open {fuel : Nat} {cs : List Value} {x : DataW H × List MemPlace} (h : DataW.trod enc Tryd.prog W 0 (fun _ => true) true fuel 26 cs = some x) :
    ∃ (ci : Int) (p l : ByteArray) (cr : Bool) (st : Int) (A : Option Addr) (n c : Nat), cs = [.int .i64 ci, .string p, .string l, .bool cr, .int .i64 st, .slice A n c] := by
  obtain ⟨xs, n, _, _, hl, hxl, hf⟩ := DataW.trod_struct Tryd.underlying26 h
  rw [Op.cells_code] at hl
  obtain ⟨a, b, c, d, e, f, rfl⟩ := Op.list6 hl
  have get : ∀ i, i < 6 → ∃ y, xs[i]? = some y := fun i hi => ⟨_, List.getElem?_eq_getElem (by rw [hxl]; exact hi)⟩
  obtain ⟨y0, e0⟩ := get 0 (by decide)
  obtain ⟨y1, e1⟩ := get 1 (by decide)
  obtain ⟨y2, e2⟩ := get 2 (by decide)
  obtain ⟨y3, e3⟩ := get 3 (by decide)
  obtain ⟨y4, e4⟩ := get 4 (by decide)
  obtain ⟨y5, e5⟩ := get 5 (by decide)
  have f0 := hf 0 _ rfl
  have f1 := hf 1 _ rfl
  have f2 := hf 2 _ rfl
  have f3 := hf 3 _ rfl
  have f4 := hf 4 _ rfl
  have f5 := hf 5 _ rfl
  rw [e0] at f0; rw [e1] at f1; rw [e2] at f2; rw [e3] at f3; rw [e4] at f4; rw [e5] at f5
  simp only [List.getElem_toArray, List.getElem_cons_zero, List.getElem_cons_succ, Op.cells_i, Op.cells_s, Op.cells_b, Op.cells_os, List.drop_succ_cons, List.drop_zero, List.take_succ_cons, List.take_zero] at f0 f1 f2 f3 f4 f5
  obtain ⟨k, g0, _, _⟩ := DataW.trod_int Tryd.underlying3 f0
  obtain ⟨s, g1, _, _⟩ := DataW.trod_string Tryd.underlying9 f1
  obtain ⟨t, g2, _, _⟩ := DataW.trod_string Tryd.underlying9 f2
  obtain ⟨z, g3, _⟩ := DataW.trod_bool Tryd.underlying4 f3
  obtain ⟨m, g4, _, _⟩ := DataW.trod_int Tryd.underlying3 f4
  have g5 : ∃ A l c, f = .slice A l c := by
    rcases open_slice Tryd.underlying24 f5 with ⟨q, _⟩ | ⟨a, l, c, _, _, _, _, q, _⟩
    · exact ⟨none, 0, 0, by simpa using q⟩
    · exact ⟨some a, l, c, by simpa using q⟩
  obtain ⟨A, l, q, rfl⟩ := g5
  simp at g0 g1 g2 g3 g4
  subst g0 g1 g2 g3 g4
  exact ⟨k, s, t, z, m, A, l, q, rfl⟩
end

theorem own_OpTells : ownKnob Tryd.prog.godebug = none := by kernel_rfl
theorem Tryd.laidOut_OpTells : laidOutB Tryd.prog = true := by kernel_rfl

theorem opTells_contract (H : Type) (enc : TypeId × Value → H) (W : World) (base : Nat) (args : Array Value) (ds gs : List (DataW H)) (before : List MemPlace)
    (hval : ∀ (j : Nat) t v, Tryd.f3.params[j]? = some t → args[j]? = some v → Value.okWide Tryd.prog W .any base t v)
    (hW : DataW.Whole enc Tryd.prog Tryd.f3.params.toList Rows.opTellsSpec.vars false W args.toList ds gs before) (hL : laidMetH Tryd.prog Rows.opTellsRow.laid W) (hS : W.ShapedOpen Tryd.prog) :
    Calls Tryd.prog 3 args W fun e W' => ∃ v, e = .returned v ∧ Rows.opTellsSpec.post enc Tryd.prog Tryd.f3 false true false false W args v W' := by
  have hW' := hW
  obtain ⟨p, q, hA0, hV, rfl, hfz, hnd⟩ := hW
  have hA : DataW.TrodAll enc Tryd.prog W 0 (fun _ => true) true Tryd.f3.params.toList args.toList ds p := hA0
  rw [Tryd.params3] at hA hval
  obtain ⟨v0, v1, v2, v3, d0, d1, d2, d3, p0, p1, p2, p3, rfl, rfl, rfl, h0, h1, h2, h3⟩ := trodAll_four hA
  obtain ⟨rfl, rfl⟩ := trodVars_none hV
  clear hA0
  simp only [List.append_nil] at hW'
  have hlt0 : ∀ x ∈ p0, x.block < W.heap.size := fun x hx => hW'.lt x (by simp [hx])
  have hlt1 : ∀ x ∈ p1, x.block < W.heap.size := fun x hx => hW'.lt x (by simp [hx])
  have hlt2 : ∀ x ∈ p2, x.block < W.heap.size := fun x hx => hW'.lt x (by simp [hx])
  have hlt3 : ∀ x ∈ p3, x.block < W.heap.size := fun x hx => hW'.lt x (by simp [hx])
  have fin : ∀ (e : Ending) (W' : World), (e = .returned (.bool true) ∧ Below W.heap.size W W') → ∃ v, e = Ending.returned v ∧ Rows.opTellsSpec.post enc Tryd.prog Tryd.f3 false true false false W #[v0, v1, v2, v3] v W' := by
    rintro e W' ⟨rfl, hb⟩
    exact ⟨_, rfl, _, _, _, [], p0 ++ (p1 ++ (p2 ++ (p3))), [], hW', trodAll_mk1 (shut_bool Tryd.underlying4 _), trodAll_mk4 (Below.trod Tryd.laidOut_OpTells (by kernel_rfl) (of_decide_eq_true (by kernel_rfl)) h0 hb hlt0) (Below.trod Tryd.laidOut_OpTells (by kernel_rfl) (of_decide_eq_true (by kernel_rfl)) h1 hb hlt1) (Below.trod Tryd.laidOut_OpTells (by kernel_rfl) (of_decide_eq_true (by kernel_rfl)) h2 hb hlt2) (Below.trod Tryd.laidOut_OpTells (by kernel_rfl) (of_decide_eq_true (by kernel_rfl)) h3 hb hlt3), rfl, hb.frame _, fun h => by cases h⟩
  have hLen : Op.Len W := by
    obtain ⟨m, hm⟩ := cell_of_shapedOpen_int (P := Tryd.prog) (g := 0) (zero := #[.int .i64 0]) (t := 3) hS (of_decide_eq_true (by kernel_rfl)) (by kernel_rfl) rfl (by kernel_rfl) (by kernel_rfl) Tryd.underlying3
    refine ⟨?_, m, hm⟩
    rcases Nat.eq_zero_or_pos W.heap.size with h | h
    · exfalso
      have h0 : W.heap[0]? = none := Array.getElem?_eq_none (by omega)
      simp [World.cell?, h0] at hm
    · exact h
  obtain ⟨cs0, rfl, _⟩ := okWide_struct Tryd.underlying23 (hval 0 23 v0 rfl rfl)
  obtain ⟨cs3, rfl, _⟩ := okWide_struct Tryd.underlying26 (hval 3 26 v3 rfl rfl)
  obtain ⟨fu0, hf0⟩ := h0
  obtain ⟨fu3, hf3⟩ := h3
  obtain ⟨s, rfl⟩ := okWide_string Tryd.underlying9 (hval 1 9 v1 rfl rfl)
  obtain ⟨r, hr, _⟩ := open_bool Tryd.underlying4 (hval 2 4 v2 rfl rfl) h2
  subst hr
  refine Calls.mono (?_ : Calls Tryd.prog _ _ W fun e W' => e = .returned (.bool true) ∧ Below W.heap.size W W') fin
  obtain ⟨k, a, b, e0⟩ := op_open (cs := cs0.toList) (by simpa [Value.cells] using hf0)
  obtain ⟨ci, p, l, cr, st, A, n, c, e3⟩ := code_open (cs := cs3.toList) (by simpa [Value.cells] using hf3)
  obtain rfl : cs0 = #[.int .i64 k, .int .i64 a, .int .i64 b] := by rw [← Array.toList_inj, e0]
  obtain rfl : cs3 = #[.int .i64 ci, .string p, .string l, .bool cr, .int .i64 st, .slice A n c] := by rw [← Array.toList_inj, e3]
  by_cases ls : s.size ≤ 60
  · by_cases lp : p.size ≤ 60
    · by_cases ll : l.size ≤ 60
      · exact opTells_any k a b s r ci p l cr st A n c W hLen ls lp ll
      · exact opTells_long3 k a b s r ci p l cr st A n c W hLen ls lp (by omega)
    · exact opTells_long2 k a b s r ci p l cr st A n c W hLen ls (by omega)
  · exact opTells_long1 k a b s r ci p l cr st A n c W hLen (by omega)

/-! A world for the witness: the settled one, the listed tables holding what their initialisers lay. -/
noncomputable def laid1_OpTells (o : Obj) : Obj := match o with
  | .cells _ t frozen => .cells (Go.Pinned.utf8FirstZ.map fun (n : Nat) => Value.int .u8 (n : Int)).toArray t frozen
  | o => o
noncomputable def laid2_OpTells (o : Obj) : Obj := match o with
  | .cells _ t frozen => .cells #[.int .u8 128, .int .u8 191, .int .u8 160, .int .u8 191, .int .u8 128, .int .u8 159, .int .u8 144, .int .u8 191, .int .u8 128, .int .u8 143, .int .u8 0, .int .u8 0, .int .u8 0, .int .u8 0, .int .u8 0, .int .u8 0, .int .u8 0, .int .u8 0, .int .u8 0, .int .u8 0, .int .u8 0, .int .u8 0, .int .u8 0, .int .u8 0, .int .u8 0, .int .u8 0, .int .u8 0, .int .u8 0, .int .u8 0, .int .u8 0, .int .u8 0, .int .u8 0] t frozen
  | o => o
noncomputable def laidWorld_OpTells (os : Os) : World :=
  { World.holding Tryd.prog os ⟨#[], #[], []⟩ with heap := (((World.holding Tryd.prog os ⟨#[], #[], []⟩).heap).modify 1 laid1_OpTells).modify 2 laid2_OpTells }
theorem laid_met_OpTells (os : Os) : laidMet Tryd.prog Rows.opTellsRow.laid ((laidWorld_OpTells os).forCall (fun _ _ => 0) ⟨#[], #[.agg #[.int .i64 0, .int .i64 0, .int .i64 0], .string ⟨#[]⟩, .bool false, .agg #[.int .i64 0, .string ⟨#[]⟩, .string ⟨#[]⟩, .bool false, .int .i64 0, .slice none 0 0]], []⟩).memory :=
  laidMet_of_run' 8 (by kernel_rfl) (by kernel_rfl)
theorem reads_OpTells (os : Os) {H : Type} (enc : TypeId × Value → H) : ∃ places, DataW.whole enc Tryd.prog ((laidWorld_OpTells os).forCall (fun _ _ => 0) ⟨#[], #[.agg #[.int .i64 0, .int .i64 0, .int .i64 0], .string ⟨#[]⟩, .bool false, .agg #[.int .i64 0, .string ⟨#[]⟩, .string ⟨#[]⟩, .bool false, .int .i64 0, .slice none 0 0]], []⟩).memory Tryd.f3.params.toList Rows.opTellsSpec.vars false (#[.agg #[.int .i64 0, .int .i64 0, .int .i64 0], .string ⟨#[]⟩, .bool false, .agg #[.int .i64 0, .string ⟨#[]⟩, .string ⟨#[]⟩, .bool false, .int .i64 0, .slice none 0 0]] : Array Value).toList 8 = some ([.agg [.lit (.int .i64 0), .lit (.int .i64 0), .lit (.int .i64 0)], .lit (.string []), .lit (.bool false), .agg [.lit (.int .i64 0), .lit (.string []), .lit (.string []), .lit (.bool false), .lit (.int .i64 0), .nil]], [], places) :=
  ⟨[], by kernel_rfl⟩

set_option maxRecDepth 100000 in
theorem opTells_lifted (os : Os) (started : os.Started) (H : Type) (enc : TypeId × Value → H) (F : Stop.Interp) :
    ReturnsInHanded {} Tryd.checked os 3 .any ((OpenSpec.ofChange Rows.opTellsSpec).preRow enc Tryd.prog Tryd.f3 Rows.opTellsRow.domain false Rows.opTellsRow.laid) (((OpenSpec.ofChange Rows.opTellsSpec).at F).post enc Tryd.prog Tryd.f3 false true false false) := by
  obtain ⟨places, hx⟩ := reads_OpTells os enc
  refine returnsInHanded_of_row (C := Tryd.checked) (s := OpenSpec.ofChange Rows.opTellsSpec) own_OpTells started (by kernel_rfl) Tryd.func3
    (witness_row_at (enc := enc) (C := Tryd.checked) false (laidWorld_OpTells os) #[.agg #[.int .i64 0, .int .i64 0, .int .i64 0], .string ⟨#[]⟩, .bool false, .agg #[.int .i64 0, .string ⟨#[]⟩, .string ⟨#[]⟩, .bool false, .int .i64 0, .slice none 0 0]] rfl (by kernel_rfl) (by kernel_rfl) (by kernel_rfl)
      (OpenSpec.preRow_of_cond 8 hx (by kernel_rfl) (fun k hk => by cases hk) (by kernel_rfl) (laid_met_OpTells os))) ?_
  intro W base args ds gs before hval hW _ _ _ hL hS _
  exact opTells_contract H enc W base args ds gs before hval hW hL hS

theorem opTells_said : Rows.OpTellsSaid :=
  OpenClaim.holds_of_cond 3 Tryd.f3 rfl rfl rfl rfl rfl rfl rfl ⟨rfl, rfl, rfl, rfl, rfl⟩ rfl rfl rfl rfl rfl (by kernel_rfl) Tryd.func3 (by kernel_rfl)
    (of_decide_eq_true (by kernel_rfl)) (by unfold Func.isWrapper; first | (rw [if_pos (by decide +kernel)]; kernel_rfl) | (rw [if_neg (by decide +kernel)]; exact ⟨rfl, rfl⟩))
    (fun os started H enc _ F => by rw [OpenClaim.pre_eq_preRow]; exact opTells_lifted os started H enc F)

/-- No parameter wants a stand-in; the program's own looks are off: what the card asks. -/
theorem opTells_plain (f : FuncId) (fn : Func) (hf : Tryd.pinned.checked.prog.funcNamed Rows.opTellsRow.func = some f) (hfn : Tryd.pinned.checked.prog.funcs[f]? = some fn) :
    false = Tryd.pinned.checked.prog.looks [] ∧ ∀ (j : Nat) t, fn.params[j]? = some t → Tryd.pinned.checked.prog.wantsStandIn t = false := by
  obtain rfl : f = 3 := Option.some.inj ((show Tryd.prog.funcNamed Rows.opTellsRow.func = some 3 by kernel_rfl).symm.trans hf) |>.symm
  obtain rfl : fn = Tryd.f3 := (Option.some.inj (Tryd.func3.symm.trans hfn)).symm
  refine ⟨by kernel_rfl, fun j t ht => ?_⟩
  have hall : (Tryd.f3.params.toList.all fun t => !(Tryd.prog.wantsStandIn t)) = true := by kernel_rfl
  have h1 := List.all_eq_true.1 hall t (by simpa using Array.mem_of_getElem? ht)
  exact (by simpa using h1 : Tryd.prog.wantsStandIn t = false)

theorem opTells_holds : Rows.OpTellsCardSaid :=
  Claim7.holds_tied_plain_at .later [] _ _ _ _ opTells_said (fun _ h => by cases h) (by kernel_rfl) (fun _ h => by cases h) opTells_row_tie rfl ⟨rfl, rfl⟩ (by kernel_rfl) rfl opTells_plain (by kernel_rfl)

end Go.Proofs.YtbclpknmeaaajaaDoor
