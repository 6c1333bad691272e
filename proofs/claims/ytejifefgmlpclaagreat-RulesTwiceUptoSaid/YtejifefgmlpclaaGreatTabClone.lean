/- slices.Backward: the range over it, for whatever body leaves the list where it is. -/
import Derived.RangeFuncNested
import Derived.RangeFuncBound
import Derived.RangeFuncCalls
import Derived.RangeFuncLeaves
import Derived.RangeFuncBox
import Derived.Shelf.Abstract
import Derived.Shelf.RegionOpen
import Derived.WalkKit
import Derived.OwnWalkIn
import Derived.TacticsInMore
import Derived.LoopNIn
import Derived.LoopIn
import Derived.Test.YtejifefgmlpclaaGreatInts
import Derived.Test.YtejifefgmlpclaaGreatRowsK
import Derived.Test.YtejifefgmlpclaaGreatTabVars
import Derived.WideShapes
set_option linter.unusedSimpArgs false
set_option linter.unusedVariables false
namespace Go.Proofs.YtejifefgmlpclaaGreat
open Go.RowKit Go.Shelf
attribute [local go_sem] Oper.semAt_some

/-- What lay below n₀, but for block bx, lies as it lay. -/
def KB (bx n₀ : Nat) (W W' : World) : Prop := n₀ ≤ W.heap.size → n₀ ≤ W'.heap.size ∧ ∀ b, b < n₀ → b ≠ bx → W'.heap[b]? = W.heap[b]?
theorem KB.refl (bx n₀ : Nat) (W : World) : KB bx n₀ W W := fun h => ⟨h, fun _ _ _ => rfl⟩
theorem KB.trans {bx n₀ : Nat} {A B C : World} (h : KB bx n₀ A B) (k : KB bx n₀ B C) : KB bx n₀ A C := fun hn =>
  ⟨(k (h hn).1).1, fun b h1 h2 => ((k (h hn).1).2 b h1 h2).trans ((h hn).2 b h1 h2)⟩
theorem KB.putObj {bx n₀ : Nat} {w : World} (hn : n₀ ≤ w.heap.size) (W : World) (l : Nat) (o o' : Obj) (hl : w.heap.size ≤ l) (h : W.heap[l]? = some o) (_ : o.isCells = false) (_ : o.isWalk = false) : KB bx n₀ W (W.putObj l o') := fun hW =>
  ⟨by simpa using hW, fun b h1 _ => (grownBy_putObj' W l o').block b (by omega) (fun e => by cases e; omega)⟩
theorem KB.grown {bx n₀ : Nat} {W W' : World} {row : Option Nat} (hg : W.grownBy W' row) (hr : ∀ r, row = some r → n₀ ≤ r) : KB bx n₀ W W' := fun hW =>
  ⟨Nat.le_trans hW hg.size, fun b h1 _ => hg.block b (by omega) (fun e => by have := hr b e.symm; omega)⟩
theorem KB.setBox (bx n₀ : Nat) (W : World) (v : Value) : KB bx n₀ W (W.setCell ⟨bx, 0, none⟩ v) := fun hW =>
  ⟨by simpa [World.setCell] using hW, fun b _ h2 => (Below.heap_setCell _ _ _ b (fun e => h2 e))⟩
theorem KB.cell {bx n₀ : Nat} {W W' : World} (h : KB bx n₀ W W') (hn : n₀ ≤ W.heap.size) {p : Addr} (hp : p.block < n₀) (hne : p.block ≠ bx) : W'.cell? p = W.cell? p :=
  World.cell?_of_block (w := W) ((h hn).2 p.block hp hne)
theorem KB.own (bx n₀ : Nat) (W0 : World) {α : Type} : OwnFrom n₀ (fun (_ : List α) W => KB bx n₀ W0 W) := fun _ _ _ _ hs hg hr =>
  hs.trans (KB.grown hg fun r e => (hr r e).1)

/-- One that stands in the list, with its place. -/
abbrev BkAt (zs : List Int) : Type := { x : Int × Int // x.2 ∈ zs }

set_option maxRecDepth 100000 in
set_option maxHeartbeats 2000000 in
theorem back1_in (F : Fence) (n : Nat) (h49 : F.fn 73) (hro : F.round = none) (hn : 1 ≤ n) (l Bs bx n₀ b off cap : Nat) (zs : List Int) (lz : zs.length ≤ 1000000000) (hb : b < n₀) (hbx : b ≠ bx) (hBs : Bs < n₀) (hBx : Bs ≠ bx) (J Jx : List (BkAt zs) → World → Prop)
    (hY : ∀ pre x W, J pre W → pre.length < zs.length → YieldAt F (n - 1) Tryz.prog l #[.int .i64 x.1.1, .int .i64 x.1.2] W fun e W' =>
      (e = .returned (.bool true) ∧ J (pre ++ [x]) W' ∧ KB bx n₀ W W') ∨ (e = .returned (.bool false) ∧ Jx (pre ++ [x]) W'))
    (W : World) (hn₀ : n₀ ≤ W.heap.size) (hS : W.cell? ⟨Bs, 0, none⟩ = some (.slice (some ⟨b, off, none⟩) zs.length cap)) (hc : ∀ (j : Nat) x, zs[j]? = some x → W.cell? ⟨b, off + j, none⟩ = some (.int .i64 x)) (h0 : J [] W) :
    CallsIn F n Tryz.prog 73 #[.func (.yield l) #[] #[], .pointer (some ⟨Bs, 0, none⟩)] W fun e W' => (∃ v, e = .returned v) ∧
      ((∃ ys : List (BkAt zs), ys.map (fun x => x.1.2) = zs.reverse ∧ J ys W') ∨ (∃ pre : List (BkAt zs), True ∧ Jx pre W')) := by
  refine callsIn_of_wp Tryz.func73 rfl h49 ?_ hro
  simp only [Tryz.ntmps73, List.size_toArray, List.length_cons, List.length_nil, Nat.reduceAdd, Nat.reduceSub, Array.replicate_succ, Array.replicate_zero, List.push_toArray, List.append_toArray, List.nil_append, List.cons_append]
  gi_wp2
  gi_loopw [3] (fun i wr => ∃ (k : Nat) (pre : List (BkAt zs)), k ≤ zs.length ∧ i = .int .i64 ((k : Int) - 1) ∧ pre.map (fun x => x.1.2) = (zs.drop k).reverse ∧ J pre wr ∧ KB bx n₀ W wr)
    (fun i _ => (intOf i + 1).toNat)
  case atStart => exact ⟨zs.length, [], Nat.le_refl _, by first | rfl | (rw [wrap64_id] <;> omega), by simp, h0, KB.refl _ _ _⟩
  case round =>
    obtain ⟨k, pre, hk, rfl, hp, hJs, hnx⟩ := hrel
    have hS' := (hnx.cell hn₀ (p := ⟨Bs, 0, none⟩) hBs hBx).trans hS
    rcases k with _ | k
    · have t0 : decide ((0 : Int) ≤ ((0 : Nat) : Int) - 1) = false := by decide
      gi_wp2
      go_end0
      exact ⟨⟨_, rfl⟩, .inl ⟨pre, by simpa using hp, hJs⟩⟩
    · have e1 : (((k + 1 : Nat) : Int) - 1) = (k : Int) := by omega
      rw [e1]
      have t0 : decide ((0 : Int) ≤ (k : Int)) = true := by simp
      obtain ⟨z, hz⟩ : ∃ z, zs[k]? = some z := ⟨_, List.getElem?_eq_getElem (by omega)⟩
      have hlt : k < zs.length := by omega
      have hcx := (hnx.cell hn₀ (p := ⟨b, off + k, none⟩) hb hbx).trans (hc k z hz)
      have hpl : pre.length < zs.length := by
        have := congrArg List.length hp
        simp at this; omega
      obtain ⟨X, hx1, hx2⟩ : ∃ X : BkAt zs, X.1.1 = (k : Int) ∧ X.1.2 = z := ⟨⟨((k : Int), z), List.mem_of_getElem? hz⟩, rfl, rfl⟩
      obtain ⟨fn, tmps, assign, body, hy, hR⟩ := hY pre X wr hJs hpl
      rw [hx1, hx2] at hy
      have hp2 : (pre ++ [X]).map (fun x => x.1.2) = (zs.drop k).reverse := by
        rw [List.map_append, hp, List.drop_eq_getElem_cons hlt]
        have : zs[k] = z := by simpa [List.getElem?_eq_getElem hlt] using hz
        simp [this, hx2]
      have HP := Aid.hid hp2
      clear hp hp2 hz hx1 hx2
      gi_wp2
      refine hR.mono ?_
      rintro e W3 (⟨rfl, hJ3, hk3⟩ | ⟨rfl, hJx3⟩)
      · gi_wp2
        go_roundw
        case rel => exact ⟨k, _, by omega, by first | rfl | go_num, HP.out, hJ3, hnx.trans hk3⟩
        case measure => simp [intOf]
      · gi_wp2
        refine bodyPost_ret (results_none rfl _ _ _) rfl ?_
        exact ⟨⟨_, rfl⟩, .inr ⟨_, trivial, hJx3⟩⟩

set_option maxRecDepth 100000 in
set_option maxHeartbeats 1000000 in
/-- An empty list: no round. -/
theorem back0_in (F : Fence) (n : Nat) (h49 : F.fn 73) (hro : F.round = none) (l Bs c : Nat) (A : Option Addr) {α : Type} (J : List α → World → Prop) (W : World) (hS : W.cell? ⟨Bs, 0, none⟩ = some (.slice A 0 c)) (h0 : J [] W) :
    CallsIn F n Tryz.prog 73 #[.func (.yield l) #[] #[], .pointer (some ⟨Bs, 0, none⟩)] W fun e W' => (∃ v, e = .returned v) ∧ J [] W' := by
  refine callsIn_of_wp Tryz.func73 rfl h49 ?_ hro
  simp only [Tryz.ntmps73, List.size_toArray, List.length_cons, List.length_nil, Nat.reduceAdd, Nat.reduceSub, Array.replicate_succ, Array.replicate_zero, List.push_toArray, List.append_toArray, List.nil_append, List.cons_append]
  gi_wp2
  gi_loopw [3] (fun i wr => i = .int .i64 (-1) ∧ J [] wr) (fun _ _ => 0)
  case atStart => exact ⟨rfl, h0⟩
  case round =>
    obtain ⟨rfl, hJs⟩ := hrel
    gi_wp2
    go_end0
    exact ⟨⟨_, rfl⟩, hJs⟩

theorem backs_stops (F : Fence) (n : Nat) (h49 : F.fn 73) (hro : F.round = none) (hn : 1 ≤ n) (Bs bx n₀ cap : Nat) (A : Option Addr) (zs : List Int) (lz : zs.length ≤ 1000000000) (w : World) (hn₀ : n₀ ≤ w.heap.size) (hBs : Bs < n₀) (hBx : Bs ≠ bx)
    (hS : w.cell? ⟨Bs, 0, none⟩ = some (.slice A zs.length cap)) (hI : 0 < zs.length → ∃ b off, A = some ⟨b, off, none⟩ ∧ b < n₀ ∧ b ≠ bx ∧ ∀ (j : Nat) x, zs[j]? = some x → w.cell? ⟨b, off + j, none⟩ = some (.int .i64 x)) :
    SeqStopsK F n Tryz.prog 73 #[.pointer (some ⟨Bs, 0, none⟩)] (fun x : BkAt zs => #[Value.int .i64 x.1.1, .int .i64 x.1.2]) (KB bx n₀) (fun ys => ys.map (fun x => x.1.2) = zs.reverse) (fun _ => True) zs.length w := fun l J Jx W hW _ _ hY h0 => by
  have hS' := (hW.cell (p := ⟨Bs, 0, none⟩) (by show Bs < w.heap.size; omega)).trans hS
  rcases Nat.eq_zero_or_pos zs.length with hz | hz
  · rw [hz] at hS'
    refine (back0_in F n h49 hro l Bs cap A J W hS' h0).mono fun e W' ⟨he, hj⟩ => ⟨he, .inl ⟨[], ?_, hj⟩⟩
    rw [List.eq_nil_of_length_eq_zero hz]; rfl
  · obtain ⟨b, off, rfl, h1, h2, h3⟩ := hI hz
    exact back1_in F n h49 hro hn l Bs bx n₀ b off cap zs lz h1 h2 hBs hBx J Jx hY W (Nat.le_trans hn₀ hW.size) hS' (fun j x hx => (hW.cell (p := ⟨b, off + j, none⟩) (by show b < w.heap.size; omega)).trans (h3 j x hx)) h0

set_option maxHeartbeats 1000000 in
theorem backward_is (A : Option Addr) (len cap : Nat) (w : World) :
    Calls Tryz.prog 65 #[.slice A len cap] w fun e w' => e = .returned (.func (.func 73) #[] #[.pointer (some ⟨w.heap.size, 0, none⟩)]) ∧ w' = w.alloc (.cells #[.slice A len cap] 62) := by
  go_enter Tryz.func65, Tryz.ntmps65
  go_wp2_with fail
  go_ret
  exact ⟨rfl, rfl⟩

/-- 'l = append(l, ..)' where l lies in a box. -/
theorem Boxed.grew {W w1 : World} {n₀ n₁ B : Nat} {t e : TypeId} {size : Nat} {v v' : Value} {k m : Nat} {xs ys : List Value}
    (hv : Boxed W B t v) (hte : t ≠ e) (hrow : W.ownsRow n₀ e size v k xs) (hn₁ : n₁ ≤ n₀) (hown' : w1.ownsRow n₀ e size v' m ys) (hgrow : W.grownBy w1 v.ownBlock) :
    Boxed w1 B t v ∧ Boxed (w1.setCell ⟨B, 0, none⟩ v') B t v' ∧ (w1.setCell ⟨B, 0, none⟩ v').ownsRow n₀ e size v' m ys ∧ KeepsOthers W (w1.setCell ⟨B, 0, none⟩ v') ∧ KB B n₁ W (w1.setCell ⟨B, 0, none⟩ v') ∧
      ∀ C, C ≤ B → C ≤ n₀ → C ≤ W.heap.size → Below C W (w1.setCell ⟨B, 0, none⟩ v') := by
  have hv1 : Boxed w1 B t v := hv.kept hgrow (hv.not_row hte hrow)
  have hlow : ∀ j, v.ownBlock = some j → n₀ ≤ j := fun j ej => by
    rcases hrow.2 with ⟨rfl, _⟩ | ⟨g, cap, cur, rfl, hb, _, _⟩
    · simp [Value.ownBlock] at ej
    · obtain rfl : g = j := by simpa [Value.ownBlock] using ej
      exact hb
  refine ⟨hv1, hv1.set v', hown'.kept (grownBy_setCell' w1 B v') (.inr (hv1.not_row hte hown').symm), ?_, ?_, ?_⟩
  · refine (KeepsOthers.of_grownBy hgrow fun j o ej hj => ?_).trans (KeepsOthers.setCell _ _ _)
    rcases hrow.2 with ⟨rfl, _⟩ | ⟨g, cap, cur, rfl, _, hgb, _⟩
    · simp [Value.ownBlock] at ej
    · obtain rfl : g = j := by simpa [Value.ownBlock] using ej
      rw [hgb] at hj; cases hj; rfl
  · exact (KB.grown hgrow fun r e => Nat.le_trans hn₁ (hlow r e)).trans (KB.setBox _ _ _ _)
  · intro C hC hC2 hC3
    exact ((Below.refl C W).grown hgrow hC3 fun j ej => Nat.le_trans hC2 (hlow j ej)).setCell (p := ⟨B, 0, none⟩) hC v'
end Go.Proofs.YtejifefgmlpclaaGreat
/- slices.Clone of a list of variables; appends inside a round. -/
namespace Go.Proofs.YtejifefgmlpclaaGreat
open Go.RowKit Go.Shelf

theorem Rows.flat_len {sz : Nat} : ∀ (rows : List (List Value)) (_ : ∀ r ∈ rows, r.length = sz), rows.flatten.length = rows.length * sz
  | [], _ => by simp
  | x :: t, hs => by
    have h1 := Rows.flat_len t (fun r hr => hs r (by simp [hr]))
    have h2 := hs x (by simp)
    simp only [List.flatten_cons, List.length_append, List.length_cons, Nat.succ_mul, h1, h2]
    omega
theorem Rows.unflat {sz : Nat} : ∀ (rows : List (List Value)) (_ : ∀ r ∈ rows, r.length = sz) (j : Nat) (v : Value), rows.flatten[j]? = some v → ∃ i k r, j = i * sz + k ∧ rows[i]? = some r ∧ r[k]? = some v
  | [], _, j, v, h => by simp at h
  | x :: t, hs, j, v, h => by
    have hx : x.length = sz := hs x (by simp)
    simp only [List.flatten_cons] at h
    rcases Nat.lt_or_ge j sz with hj | hj
    · rw [List.getElem?_append_left (by omega)] at h
      exact ⟨0, j, x, by simp, by simp, h⟩
    · rw [List.getElem?_append_right (by omega), hx] at h
      obtain ⟨i, k, r, h1, h2, h3⟩ := Rows.unflat t (fun r hr => hs r (by simp [hr])) _ _ h
      exact ⟨i + 1, k, r, by rw [Nat.succ_mul]; omega, by simpa using h2, h3⟩
theorem Rows.reads {w : World} {B sz : Nat} {A : Option Addr} {rows : List (List Value)} (hs : ∀ r ∈ rows, r.length = sz) (h : Rows w B sz A rows) : Reads w B sz A rows.length rows.flatten :=
  ⟨Rows.flat_len rows hs, fun hn => by
    obtain ⟨b, off, h1, h2, h3⟩ := h hn
    refine ⟨⟨b, off, none⟩, h1, h2, fun j u hu => ?_⟩
    obtain ⟨i, k, r, rfl, h4, h5⟩ := Rows.unflat rows hs j u hu
    have := h3 i r h4 k u h5
    rw [Go.WideShapes.add_plain, ← Nat.add_assoc]; exact this⟩

theorem wpListIn_append_any {F : Fence} {n' : Nat} {P : Program} (w : World) {ops : Array Oper} {rest : List Oper} {o : Oper} {a : Act} {Q : Exit → Act → World → Prop} (hgd : o.guard = none) (s x : Operand) (t : TypeId)
    (ho : o.op = .call { callee := .builtin .append, args := #[s, x], argTypes := #[t, t] })
    (base : Nat) (e : TypeId) (i : TypeInfo) (z : Value) (size bytes : Nat) (ht : P.underlying t = some (.slice e)) (hi : P.info? e = some i) (hz : i.zero = some z)
    (hsize : i.size = size) (hby : i.bytes = bytes) (hzs : z.cells.size = size) (hsz : 0 < size)
    (v : Value) (n : Nat) (xs : List Value) (hs : a.eval s = v) (hown : w.ownsRow base e size v n xs)
    (B : Nat) (A : Option Addr) (m c : Nat) (news : List Value) (hx : a.eval x = .slice A m c) (hr : Reads w B size A m news) (h1 : ∀ u ∈ news, u.oneCell' = true)
    (h63 : n + m ≤ maxLen) (hbytes : (n + m) * bytes ≤ 140737488355328) (hbase : base ≤ w.heap.size)
    (h : ∀ v' w', w'.ownsRow base e size v' (n + m) (xs ++ news) → w.grownBy w' v.ownBlock → wpListIn F n' P ops Q rest (a.put o.dst v') w') : wpListIn F n' P ops Q (o :: rest) a w := by
  refine wpListIn_plain hgd fun K hK' => ?_
  obtain ⟨v', w', hrun, r1, r2, _⟩ := run_append_any (P := P) w base t o.type e i z size bytes ht hi hz hsize hby hzs hsz v n xs hown B A m c news hr h1 h63 hbytes hbase
  unfold Oper.wpIn
  refine ⟨?_, ?_⟩
  · simp [Oper.about, ho, resolve, Target.leads, Sem.run_pure]
  · rw [Oper.semAt_plain F _ _ (by rw [ho]; intro c hc'; cases hc')]
    simp [execOp, ho, resolve, invoke, builtin, hs, hx, hrun, Result.andThen]
    exact hK' _ _ (h v' w' r1 r2)

theorem own_slice {w : World} {base e sz n : Nat} {v : Value} {xs : List Value} (h : w.ownsRow base e sz v n xs) : ∃ A c, v = .slice A n c := by
  rcases h.2 with ⟨rfl, rfl⟩ | ⟨g, cap, cur, rfl, _⟩
  · exact ⟨none, 0, rfl⟩
  · exact ⟨_, _, rfl⟩
theorem equalIn_nil_vars (w : World) (d : Nat) (a : Option Addr) (l c : Nat) : (Op.equalIn (d + 1) 30 (.slice a l c) (.slice none 0 0)).run Tryz.prog w = .ok a.isNone w := by
  cases a <;> simp [Op.equalIn, run_underlying Tryz.underlying30]
theorem equal_nil_vars (w : World) (a : Option Addr) (l c : Nat) : (Op.equal 30 (.slice a l c) (.slice none 0 0)).run Tryz.prog w = .ok a.isNone w := equalIn_nil_vars w 9999 a l c
theorem eql_nil_vars (w : World) (a : Option Addr) (l c : Nat) : (binOp .eql 30 (.slice a l c) (.slice none 0 0)).run Tryz.prog w = .ok (.bool a.isNone) w := by
  simp [binOp, equal_nil_vars w a l c]

set_option maxRecDepth 100000 in
set_option maxHeartbeats 1000000 in
theorem clone_is (A : Option Addr) (c B : Nat) (zs : List Vd) (w : World) (hx : Rows w B 8 A (zs.map Vd.cells)) (hB : B ≤ w.heap.size) (lz : zs.length ≤ 1000000000) :
    Calls Tryz.prog 66 #[.slice A zs.length c] w fun e w' => ∃ A' c', e = .returned (.slice A' zs.length c') ∧
      w'.ownsRow w.heap.size 55 8 (.slice A' zs.length c') zs.length (zs.map Vd.cells).flatten ∧ Below w.heap.size w w' := by
  obtain ⟨i0, hi, hz0, hz1, hz2⟩ := info_parts info_var
  have hnil := eql_nil_vars
  rcases A with _ | ad
  · have hz : zs.length = 0 := by
      rcases Nat.eq_zero_or_pos zs.length with h | h
      · exact h
      · obtain ⟨b, off, h1, _⟩ := Rows.var hx h
        cases h1
    obtain rfl := List.eq_nil_of_length_eq_zero hz
    go_enter Tryz.func66, Tryz.ntmps66
    try simp only [List.append_eq, List.cons_append, List.nil_append]
    go_wp2_with fail
    go_ret
    exact ⟨none, 0, rfl, World.ownsRow_nil _ _ _ _, Below.refl _ _⟩
  · have hr0 : Reads (w.alloc (.cells #[] 55)) B 8 (some ad) zs.length (zs.map Vd.cells).flatten := by
      have h := Rows.reads (Vd.len zs) (hx.below ((Below.refl w.heap.size w).alloc (Nat.le_refl _) (.cells #[] 55)) hB)
      rwa [List.length_map] at h
    have hown0 : (w.alloc (.cells #[] 55)).ownsRow w.heap.size 55 8 (.slice (some ⟨w.heap.size, 0, none⟩) 0 0) 0 [] :=
      ⟨rfl, Or.inr ⟨w.heap.size, 0, #[], rfl, Nat.le_refl _, World.alloc_heap_new w _, Nat.le_refl _, Nat.zero_le _, rfl, rfl⟩⟩
    go_enter Tryz.func66, Tryz.ntmps66
    try simp only [List.append_eq, List.cons_append, List.nil_append]
    go_wp2_with (at_builtin; refine wpList_append_any _ rfl _ _ 30 rfl w.heap.size 55 i0 (.agg #[.string ⟨#[]⟩, .int .i64 0, .int .i64 0, .int .i64 0, .string ⟨#[]⟩, .int .i64 0, .int .i64 0, .int .i64 0]) 8 80 Tryz.underlying30 hi hz0 hz1 hz2 rfl (by decide) _ _ _ rfl hown0 B (some ad) zs.length c _ rfl hr0 Vd.one ?c1 ?c2 ?c3 ?_)
    case c1 => unfold maxLen; omega
    case c2 => omega
    case c3 => simp
    · intro v' w1 hown' hgrow _
      go_wp2_with fail
      go_ret
      obtain ⟨A', c', rfl⟩ := own_slice hown'
      exact ⟨A', c', by simp, hown', ((Below.refl w.heap.size w).alloc (Nat.le_refl _) _).grown hgrow (by simp) (fun q hq => by simp [Value.ownBlock] at hq; omega)⟩
end Go.Proofs.YtejifefgmlpclaaGreat
