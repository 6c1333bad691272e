/- DiagChains, for every input: the row, proved out of the walk; and its card. -/
import Derived.Test.YtblkcgbifecemaaDoorCards
import Derived.Test.YtblkcgbifecemaaDoorTie
import Derived.Test.YtblkcgbifecemaaDoorDiagChains
import Derived.LaidHandle
import Derived.Stop.Joined
import Derived.ProofKit
import Derived.OpenShut
import Derived.Below
import Derived.Carry
import Derived.Deep.Slices
import Derived.Deep.Grids
import Derived.Lib.SmallJoins
import Derived.Deep.DeepHandedRow
import Derived.Lib.LaidTab
import Derived.Shelf.Vars
namespace Go.Proofs.YtblkcgbifecemaaDoor
open Go.ChangeShapes Go.WideShapes Go.ChangeAt Go.RowKit Go.Deep Go.Joins

theorem et_DiagChains : Tryd.prog.globalNamed "errors.errorType" = some 0 := by kernel_rfl
theorem rt_DiagChains : (Tryd.prog.cutTypes.find? (·.1 == "internal/reflectlite.rtype")).map (·.2) = some 69 := by kernel_rfl
theorem oneRow_DiagChains : ((List.range Tryd.prog.types.size).filter fun t => Tryd.prog.rowNamed t [101, 114, 114, 111, 114]) = [23] := by kernel_rfl
/-- What the condition gives a walk: the variable's one cell. -/
theorem door_DiagChains {W : World} (h : laidMetH Tryd.prog Rows.diagChainsRow.laid W) : Door W := by
  have h' : laidMet Tryd.prog [] W ∧ handlesMet Tryd.prog [("errors.errorType", Rows.laid_errors_errorType)] W := h
  obtain ⟨name, u, ty, e1, e2, e3, e4, e5⟩ := h'.2 _ (List.mem_singleton.2 rfl)
  have en : name = [101, 114, 114, 111, 114] := (Option.some.inj e1).symm
  subst en
  obtain rfl := Option.some.inj (rt_DiagChains.symm.trans e2)
  have hm : ty ∈ (List.range Tryd.prog.types.size).filter fun t => Tryd.prog.rowNamed t [101, 114, 114, 111, 114] := List.mem_filter.2 ⟨List.mem_range.2 e3, e4⟩
  rw [oneRow_DiagChains] at hm
  obtain rfl := List.mem_singleton.1 hm
  have hh : typeHandle Tryd.prog 23 = .pointer (some ⟨4, 23, none⟩) := by kernel_rfl
  rw [hh] at e5
  have h9 := World.var?_cell et_DiagChains e5 0
  show W.cell? ⟨0, 0, none⟩ = _
  simpa using h9

section
variable {H : Type} {enc : TypeId × Value → H} {W : World}
theorem Lk.list3 {l : List Value} (h : l.length = 3) : ∃ a b c, l = [a, b, c] := by
  match l, h with
  | [a, b, c], _ => exact ⟨a, b, c, rfl⟩
theorem Lk.cells_l : Tryd.prog.cellsOf 60 = 3 := by kernel_rfl
theorem Lk.cells_i : Tryd.prog.cellsOf 3 = 1 := by kernel_rfl
theorem Lk.cells_b : Tryd.prog.cellsOf 4 = 1 := by kernel_rfl
theorem link_open {fuel : Nat} {cs : List Value} {x : DataW H × List MemPlace} (h : DataW.trod enc Tryd.prog W 0 (fun _ => true) true fuel 60 cs = some x) : ∃ l : Int × Int × Bool, cs = Lk.cells l := by
  obtain ⟨xs, n, _, _, hl, hxl, hf⟩ := DataW.trod_struct Tryd.underlying60 h
  rw [Lk.cells_l] at hl
  obtain ⟨a, b, c, rfl⟩ := Lk.list3 hl
  have get : ∀ i, i < 3 → ∃ y, xs[i]? = some y := fun i hi => ⟨_, List.getElem?_eq_getElem (by rw [hxl]; exact hi)⟩
  obtain ⟨y0, e0⟩ := get 0 (by decide)
  obtain ⟨y1, e1⟩ := get 1 (by decide)
  obtain ⟨y2, e2⟩ := get 2 (by decide)
  have f0 := hf 0 _ rfl
  have f1 := hf 1 _ rfl
  have f2 := hf 2 _ rfl
  rw [e0] at f0; rw [e1] at f1; rw [e2] at f2
  simp only [List.getElem_toArray, List.getElem_cons_zero, List.getElem_cons_succ, Lk.cells_i, Lk.cells_b, List.drop_succ_cons, List.drop_zero, List.take_succ_cons, List.take_zero] at f0 f1 f2
  obtain ⟨k, g0, _, _⟩ := DataW.trod_int Tryd.underlying3 f0
  obtain ⟨lo, g1, _, _⟩ := DataW.trod_int Tryd.underlying3 f1
  obtain ⟨ot, g2, _⟩ := DataW.trod_bool Tryd.underlying4 f2
  simp at g0 g1 g2
  subst g0 g1 g2
  exact ⟨(k, lo, ot), rfl⟩
theorem links_open {fuel : Nat} {A : Option Addr} {len cap : Nat} {d : DataW H} {p : List MemPlace}
    (hf : DataW.trod enc Tryd.prog W 0 (fun _ => true) true fuel 29 [.slice A len cap] = some (d, p)) (hlt : ∀ x ∈ p, x.block < W.heap.size) :
    ∃ vs : List (Int × Int × Bool), vs.length = len ∧ Rows W W.heap.size 3 A (vs.map Lk.cells) := by
  rcases open_slice Tryd.underlying29 hf with ⟨hcs, _⟩ | ⟨a, len', cap', m, n, D, Pl, hcs, _, hl, hm, hmm, hx, hi⟩
  · simp at hcs
    obtain ⟨rfl, rfl, rfl⟩ := hcs
    exact ⟨[], rfl, Rows.nil_ _ _ _ _⟩
  · simp at hcs
    obtain ⟨rfl, rfl, rfl⟩ := hcs
    simp only [if_true] at hmm
    subst hmm
    simp only [Prod.mk.injEq] at hx
    rw [Lk.cells_l] at hi hx
    obtain ⟨V, hV⟩ := choose_lt (α := Int × Int × Bool) (n := m) (p := fun i v => W.cells? 0 (a.add (i * 3)) 3 = some (Lk.cells v)) (fun i him => by
      obtain ⟨cs', hc, ht⟩ := hi i him
      obtain ⟨v, rfl⟩ := link_open ht
      exact ⟨v, hc⟩)
    refine ⟨(List.range len).map V, by simp, fun hn => ?_⟩
    have hl0 : 0 < len := by simpa using hn
    have hc : ∀ i, i < m → ∀ j x, (Lk.cells (V i))[j]? = some x → W.cell? (a.add (i * 3 + j)) = some x := fun i him j x hx => by
      obtain ⟨_, hlen, hat⟩ := World.cells?_some (hV i him)
      have hj : j < 3 := by rw [← hlen]; exact (List.getElem?_eq_some_iff.1 hx).1
      rw [← Go.Deep.add_add, hat j hj, hx]
    obtain ⟨b, off, spot⟩ := a
    have hspot : spot = none := by simpa [Addr.add] using World.cell?_spot (hc 0 (by omega) 0 _ rfl)
    subst hspot
    refine ⟨b, off, rfl, hlt (.cell b off) ?_, fun i r hr j x hx' => ?_⟩
    · rw [hx.2]
      exact List.mem_append_left _ (MemPlace.mem_row.2 ⟨0, Nat.mul_pos (by omega) (by decide), by simp⟩)
    · have hil : i < len := by
        have := (List.getElem?_eq_some_iff.1 hr).1
        simpa using this
      have hr2 : r = Lk.cells (V i) := by
        have : ((List.range len).map V)[i]? = some (V i) := by simp [hil]
        rw [List.getElem?_map, this] at hr
        exact (Option.some.inj hr).symm
      subst hr2
      rw [Nat.add_assoc, ← add_plain]
      exact hc i (by omega) j x hx'
end

theorem own_DiagChains : ownKnob Tryd.prog.godebug = none := by kernel_rfl
theorem Tryd.laidOut_DiagChains : laidOutB Tryd.prog = true := by kernel_rfl

set_option maxRecDepth 100000 in
theorem diagChains_contract (H : Type) (enc : TypeId × Value → H) (W : World) (base : Nat) (args : Array Value) (ds gs : List (DataW H)) (before : List MemPlace)
    (hval : ∀ (j : Nat) t v, Tryd.f4.params[j]? = some t → args[j]? = some v → Value.okWide Tryd.prog W .any base t v)
    (hW : DataW.Whole enc Tryd.prog Tryd.f4.params.toList Rows.diagChainsSpec.vars false W args.toList ds gs before) (hL : laidMetH Tryd.prog Rows.diagChainsRow.laid W) (hS : W.ShapedOpen Tryd.prog) :
    Calls Tryd.prog 4 args W fun e W' => ∃ v, e = .returned v ∧ Rows.diagChainsSpec.post enc Tryd.prog Tryd.f4 false true false false W args v W' := by
  have hW' := hW
  obtain ⟨p, q, hA0, hV, rfl, hfz, hnd⟩ := hW
  have hA : DataW.TrodAll enc Tryd.prog W 0 (fun _ => true) true Tryd.f4.params.toList args.toList ds p := hA0
  rw [Tryd.params4] at hA hval
  obtain ⟨v0, v1, d0, d1, p0, p1, rfl, rfl, rfl, h0, h1⟩ := trodAll_two hA
  obtain ⟨rfl, rfl⟩ := trodVars_none hV
  clear hA0
  simp only [List.append_nil] at hW'
  have hlt0 : ∀ x ∈ p0, x.block < W.heap.size := fun x hx => hW'.lt x (by simp [hx])
  have hlt1 : ∀ x ∈ p1, x.block < W.heap.size := fun x hx => hW'.lt x (by simp [hx])
  have fin : ∀ (e : Ending) (W' : World), (e = .returned (.bool true) ∧ Below W.heap.size W W') → ∃ v, e = Ending.returned v ∧ Rows.diagChainsSpec.post enc Tryd.prog Tryd.f4 false true false false W #[v0, v1] v W' := by
    rintro e W' ⟨rfl, hb⟩
    exact ⟨_, rfl, _, _, _, [], p0 ++ (p1), [], hW', trodAll_mk1 (shut_bool Tryd.underlying4 _), trodAll_mk2 (Below.trod Tryd.laidOut_DiagChains (by kernel_rfl) (of_decide_eq_true (by kernel_rfl)) h0 hb hlt0) (Below.trod Tryd.laidOut_DiagChains (by kernel_rfl) (of_decide_eq_true (by kernel_rfl)) h1 hb hlt1), rfl, hb.frame _, fun h => by cases h⟩
  have hg := door_DiagChains hL
  obtain ⟨inn, rfl, rfl, rfl, w1⟩ := open_int Tryd.underlying3 (hval 1 3 v1 rfl rfl) h1
  obtain ⟨a0, len, cap, rfl⟩ := okWide_slice Tryd.underlying29 (hval 0 29 v0 rfl rfl)
  obtain ⟨fu0, hf0⟩ := h0
  refine Calls.mono (?_ : Calls Tryd.prog _ _ W fun e W' => e = .returned (.bool true) ∧ Below W.heap.size W W') fin
  obtain ⟨vs, rfl, hR⟩ := links_open (by simpa [Value.cells] using hf0) hlt0
  by_cases hn : vs.length = 0 ∨ 20 < vs.length
  · exact diagChains_early a0 cap vs.length inn W hg hn
  · exact diagChains_main a0 cap vs inn W hg hR (by omega) (by omega)

/-! A world for the witness: the settled one, the listed tables holding what their initialisers lay. -/
noncomputable def laid0_DiagChains (o : Obj) : Obj := match o with
  | .cells _ t frozen => .cells #[.iface 69 (.agg #[.pointer (some ⟨4, 23, none⟩)])] t frozen
  | o => o
noncomputable def laidWorld_DiagChains (os : Os) : World :=
  { World.holding Tryd.prog os ⟨#[], #[], []⟩ with heap := ((World.holding Tryd.prog os ⟨#[], #[], []⟩).heap).modify 0 laid0_DiagChains }
theorem laid_met_DiagChains (os : Os) : laidMetH Tryd.prog Rows.diagChainsRow.laid ((laidWorld_DiagChains os).forCall (fun _ _ => 0) ⟨#[], #[.slice none 0 0, .int .i64 0], []⟩).memory :=
  laidMetH_of_parts (laidMet_nil _ _) (by kernel_rfl)
theorem reads_DiagChains (os : Os) {H : Type} (enc : TypeId × Value → H) : ∃ places, DataW.whole enc Tryd.prog ((laidWorld_DiagChains os).forCall (fun _ _ => 0) ⟨#[], #[.slice none 0 0, .int .i64 0], []⟩).memory Tryd.f4.params.toList Rows.diagChainsSpec.vars false (#[.slice none 0 0, .int .i64 0] : Array Value).toList 8 = some ([.nil, .lit (.int .i64 0)], [], places) :=
  ⟨[], by kernel_rfl⟩

set_option maxRecDepth 100000 in
theorem diagChains_lifted (os : Os) (started : os.Started) (H : Type) (enc : TypeId × Value → H) (F : Stop.Interp) :
    ReturnsInHanded {} Tryd.checked os 4 .any ((OpenSpec.ofChange Rows.diagChainsSpec).preRow enc Tryd.prog Tryd.f4 Rows.diagChainsRow.domain false Rows.diagChainsRow.laid) (((OpenSpec.ofChange Rows.diagChainsSpec).at F).post enc Tryd.prog Tryd.f4 false true false false) := by
  obtain ⟨places, hx⟩ := reads_DiagChains os enc
  refine returnsInHanded_of_row (C := Tryd.checked) (s := OpenSpec.ofChange Rows.diagChainsSpec) own_DiagChains started (by kernel_rfl) Tryd.func4
    (witness_row_at (enc := enc) (C := Tryd.checked) false (laidWorld_DiagChains os) #[.slice none 0 0, .int .i64 0] rfl (by kernel_rfl) (by kernel_rfl) (by kernel_rfl)
      (OpenSpec.preRow_of_cond 8 hx (by kernel_rfl) (fun k hk => by cases hk) (by kernel_rfl) (laid_met_DiagChains os))) ?_
  intro W base args ds gs before hval hW _ _ _ hL hS _
  exact diagChains_contract H enc W base args ds gs before hval hW hL hS

theorem diagChains_said : Rows.DiagChainsSaid :=
  OpenClaim.holds_of_cond 4 Tryd.f4 rfl rfl rfl rfl rfl rfl rfl ⟨rfl, rfl, rfl, rfl, rfl⟩ rfl rfl rfl rfl rfl (by kernel_rfl) Tryd.func4 (by kernel_rfl)
    (of_decide_eq_true (by kernel_rfl)) (by unfold Func.isWrapper; first | (rw [if_pos (by decide +kernel)]; kernel_rfl) | (rw [if_neg (by decide +kernel)]; exact ⟨rfl, rfl⟩))
    (fun os started H enc _ F => by rw [OpenClaim.pre_eq_preRow]; exact diagChains_lifted os started H enc F)

/-- No parameter wants a stand-in; the program's own looks are off: what the card asks. -/
theorem diagChains_plain (f : FuncId) (fn : Func) (hf : Tryd.pinned.checked.prog.funcNamed Rows.diagChainsRow.func = some f) (hfn : Tryd.pinned.checked.prog.funcs[f]? = some fn) :
    true = Tryd.pinned.checked.prog.looks [] ∧ ∀ (j : Nat) t, fn.params[j]? = some t → Tryd.pinned.checked.prog.wantsStandIn t = false := by
  obtain rfl : f = 4 := Option.some.inj ((show Tryd.prog.funcNamed Rows.diagChainsRow.func = some 4 by kernel_rfl).symm.trans hf) |>.symm
  obtain rfl : fn = Tryd.f4 := (Option.some.inj (Tryd.func4.symm.trans hfn)).symm
  refine ⟨by kernel_rfl, fun j t ht => ?_⟩
  have hall : (Tryd.f4.params.toList.all fun t => !(Tryd.prog.wantsStandIn t)) = true := by kernel_rfl
  have h1 := List.all_eq_true.1 hall t (by simpa using Array.mem_of_getElem? ht)
  exact (by simpa using h1 : Tryd.prog.wantsStandIn t = false)

theorem diagChains_holds : Rows.DiagChainsCardSaid :=
  Claim7.holds_tied_plain_at .later [] _ _ _ _ diagChains_said (fun _ h => by cases h) (by kernel_rfl) (fun _ h => by cases h) diagChains_row_tie rfl ⟨rfl, rfl⟩ (by kernel_rfl) rfl diagChains_plain (by kernel_rfl)

end Go.Proofs.YtblkcgbifecemaaDoor
