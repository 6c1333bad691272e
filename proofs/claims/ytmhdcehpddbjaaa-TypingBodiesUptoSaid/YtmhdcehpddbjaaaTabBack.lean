/- slices.Backward: the range over it, for whatever body leaves the list where it is. -/
import Derived.RangeFuncNested
import Derived.RangeFuncBound
import Derived.RangeFuncCalls
import Derived.RangeFuncLeaves
import Derived.RangeFuncBox
import Derived.Shelf.Abstract
import Derived.Shelf.RegionOpen
import Derived.WalkKit
import Derived.OwnWalkIn
import Derived.TacticsInMore
import Derived.LoopNIn
import Derived.LoopIn
import Derived.Test.YtmhdcehpddbjaaaInts
import Derived.Test.YtmhdcehpddbjaaaRowsK
namespace Go.Proofs.Ytmhdcehpddbjaaa
open Go.RowKit Go.Shelf
attribute [local go_sem] Oper.semAt_some

/-- What lay below n₀, but for block bx, lies as it lay. -/
def KB (bx n₀ : Nat) (W W' : World) : Prop := n₀ ≤ W.heap.size → n₀ ≤ W'.heap.size ∧ ∀ b, b < n₀ → b ≠ bx → W'.heap[b]? = W.heap[b]?
theorem KB.refl (bx n₀ : Nat) (W : World) : KB bx n₀ W W := fun h => ⟨h, fun _ _ _ => rfl⟩
theorem KB.trans {bx n₀ : Nat} {A B C : World} (h : KB bx n₀ A B) (k : KB bx n₀ B C) : KB bx n₀ A C := fun hn =>
  ⟨(k (h hn).1).1, fun b h1 h2 => ((k (h hn).1).2 b h1 h2).trans ((h hn).2 b h1 h2)⟩
theorem KB.putObj {bx n₀ : Nat} {w : World} (hn : n₀ ≤ w.heap.size) (W : World) (l : Nat) (o o' : Obj) (hl : w.heap.size ≤ l) (h : W.heap[l]? = some o) (_ : o.isCells = false) (_ : o.isWalk = false) : KB bx n₀ W (W.putObj l o') := fun hW =>
  ⟨by simpa using hW, fun b h1 _ => (grownBy_putObj' W l o').block b (by omega) (fun e => by cases e; omega)⟩
theorem KB.grown {bx n₀ : Nat} {W W' : World} {row : Option Nat} (hg : W.grownBy W' row) (hr : ∀ r, row = some r → n₀ ≤ r) : KB bx n₀ W W' := fun hW =>
  ⟨Nat.le_trans hW hg.size, fun b h1 _ => hg.block b (by omega) (fun e => by have := hr b e.symm; omega)⟩
theorem KB.setBox (bx n₀ : Nat) (W : World) (v : Value) : KB bx n₀ W (W.setCell ⟨bx, 0, none⟩ v) := fun hW =>
  ⟨by simpa [World.setCell] using hW, fun b _ h2 => (Below.heap_setCell _ _ _ b (fun e => h2 e))⟩
theorem KB.cell {bx n₀ : Nat} {W W' : World} (h : KB bx n₀ W W') (hn : n₀ ≤ W.heap.size) {p : Addr} (hp : p.block < n₀) (hne : p.block ≠ bx) : W'.cell? p = W.cell? p :=
  World.cell?_of_block (w := W) ((h hn).2 p.block hp hne)
theorem KB.own (bx n₀ : Nat) (W0 : World) {α : Type} : OwnFrom n₀ (fun (_ : List α) W => KB bx n₀ W0 W) := fun _ _ _ _ hs hg hr =>
  hs.trans (KB.grown hg fun r e => (hr r e).1)

/-- One that stands in the list, with its place. -/
abbrev BkAt (zs : List Int) : Type := { x : Int × Int // x.2 ∈ zs }

set_option maxRecDepth 100000 in
set_option maxHeartbeats 2000000 in
theorem back1_in (F : Fence) (n : Nat) (h49 : F.fn 96) (hro : F.round = none) (hn : 1 ≤ n) (l Bs bx n₀ b off cap : Nat) (zs : List Int) (lz : zs.length ≤ 1000000000) (hb : b < n₀) (hbx : b ≠ bx) (hBs : Bs < n₀) (hBx : Bs ≠ bx) (J Jx : List (BkAt zs) → World → Prop)
    (hY : ∀ pre x W, J pre W → pre.length < zs.length → YieldAt F (n - 1) Try.prog l #[.int .i64 x.1.1, .int .i64 x.1.2] W fun e W' =>
      (e = .returned (.bool true) ∧ J (pre ++ [x]) W' ∧ KB bx n₀ W W') ∨ (e = .returned (.bool false) ∧ Jx (pre ++ [x]) W'))
    (W : World) (hn₀ : n₀ ≤ W.heap.size) (hS : W.cell? ⟨Bs, 0, none⟩ = some (.slice (some ⟨b, off, none⟩) zs.length cap)) (hc : ∀ (j : Nat) x, zs[j]? = some x → W.cell? ⟨b, off + j, none⟩ = some (.int .i64 x)) (h0 : J [] W) :
    CallsIn F n Try.prog 96 #[.func (.yield l) #[] #[], .pointer (some ⟨Bs, 0, none⟩)] W fun e W' => (∃ v, e = .returned v) ∧
      ((∃ ys : List (BkAt zs), ys.map (fun x => x.1.2) = zs.reverse ∧ J ys W') ∨ (∃ pre : List (BkAt zs), True ∧ Jx pre W')) := by
  refine callsIn_of_wp Try.func96 rfl h49 ?_ hro
  simp only [Try.ntmps96, List.size_toArray, List.length_cons, List.length_nil, Nat.reduceAdd, Nat.reduceSub, Array.replicate_succ, Array.replicate_zero, List.push_toArray, List.append_toArray, List.nil_append, List.cons_append]
  gi_wp2
  gi_loopw [3] (fun i wr => ∃ (k : Nat) (pre : List (BkAt zs)), k ≤ zs.length ∧ i = .int .i64 ((k : Int) - 1) ∧ pre.map (fun x => x.1.2) = (zs.drop k).reverse ∧ J pre wr ∧ KB bx n₀ W wr)
    (fun i _ => (intOf i + 1).toNat)
  case atStart => exact ⟨zs.length, [], Nat.le_refl _, by first | rfl | (rw [wrap64_id] <;> omega), by simp, h0, KB.refl _ _ _⟩
  case round =>
    obtain ⟨k, pre, hk, rfl, hp, hJs, hnx⟩ := hrel
    have hS' := (hnx.cell hn₀ (p := ⟨Bs, 0, none⟩) hBs hBx).trans hS
    rcases k with _ | k
    · have t0 : decide ((0 : Int) ≤ ((0 : Nat) : Int) - 1) = false := by decide
      gi_wp2
      go_end0
      exact ⟨⟨_, rfl⟩, .inl ⟨pre, by simpa using hp, hJs⟩⟩
    · have e1 : (((k + 1 : Nat) : Int) - 1) = (k : Int) := by omega
      rw [e1]
      have t0 : decide ((0 : Int) ≤ (k : Int)) = true := by simp
      obtain ⟨z, hz⟩ : ∃ z, zs[k]? = some z := ⟨_, List.getElem?_eq_getElem (by omega)⟩
      have hlt : k < zs.length := by omega
      have hcx := (hnx.cell hn₀ (p := ⟨b, off + k, none⟩) hb hbx).trans (hc k z hz)
      have hpl : pre.length < zs.length := by
        have := congrArg List.length hp
        simp at this; omega
      obtain ⟨X, hx1, hx2⟩ : ∃ X : BkAt zs, X.1.1 = (k : Int) ∧ X.1.2 = z := ⟨⟨((k : Int), z), List.mem_of_getElem? hz⟩, rfl, rfl⟩
      obtain ⟨fn, tmps, assign, body, hy, hR⟩ := hY pre X wr hJs hpl
      rw [hx1, hx2] at hy
      have hp2 : (pre ++ [X]).map (fun x => x.1.2) = (zs.drop k).reverse := by
        rw [List.map_append, hp, List.drop_eq_getElem_cons hlt]
        have : zs[k] = z := by simpa [List.getElem?_eq_getElem hlt] using hz
        simp [this, hx2]
      have HP := Aid.hid hp2
      clear hp hp2 hz hx1 hx2
      gi_wp2
      refine hR.mono ?_
      rintro e W3 (⟨rfl, hJ3, hk3⟩ | ⟨rfl, hJx3⟩)
      · gi_wp2
        go_roundw
        case rel => exact ⟨k, _, by omega, by first | rfl | go_num, HP.out, hJ3, hnx.trans hk3⟩
        case measure => simp [intOf]
      · gi_wp2
        refine bodyPost_ret (results_none rfl _ _ _) rfl ?_
        exact ⟨⟨_, rfl⟩, .inr ⟨_, trivial, hJx3⟩⟩

set_option maxRecDepth 100000 in
set_option maxHeartbeats 1000000 in
/-- An empty list: no round. -/
theorem back0_in (F : Fence) (n : Nat) (h49 : F.fn 96) (hro : F.round = none) (l Bs c : Nat) (A : Option Addr) {α : Type} (J : List α → World → Prop) (W : World) (hS : W.cell? ⟨Bs, 0, none⟩ = some (.slice A 0 c)) (h0 : J [] W) :
    CallsIn F n Try.prog 96 #[.func (.yield l) #[] #[], .pointer (some ⟨Bs, 0, none⟩)] W fun e W' => (∃ v, e = .returned v) ∧ J [] W' := by
  refine callsIn_of_wp Try.func96 rfl h49 ?_ hro
  simp only [Try.ntmps96, List.size_toArray, List.length_cons, List.length_nil, Nat.reduceAdd, Nat.reduceSub, Array.replicate_succ, Array.replicate_zero, List.push_toArray, List.append_toArray, List.nil_append, List.cons_append]
  gi_wp2
  gi_loopw [3] (fun i wr => i = .int .i64 (-1) ∧ J [] wr) (fun _ _ => 0)
  case atStart => exact ⟨rfl, h0⟩
  case round =>
    obtain ⟨rfl, hJs⟩ := hrel
    gi_wp2
    go_end0
    exact ⟨⟨_, rfl⟩, hJs⟩

theorem backs_stops (F : Fence) (n : Nat) (h49 : F.fn 96) (hro : F.round = none) (hn : 1 ≤ n) (Bs bx n₀ cap : Nat) (A : Option Addr) (zs : List Int) (lz : zs.length ≤ 1000000000) (w : World) (hn₀ : n₀ ≤ w.heap.size) (hBs : Bs < n₀) (hBx : Bs ≠ bx)
    (hS : w.cell? ⟨Bs, 0, none⟩ = some (.slice A zs.length cap)) (hI : 0 < zs.length → ∃ b off, A = some ⟨b, off, none⟩ ∧ b < n₀ ∧ b ≠ bx ∧ ∀ (j : Nat) x, zs[j]? = some x → w.cell? ⟨b, off + j, none⟩ = some (.int .i64 x)) :
    SeqStopsK F n Try.prog 96 #[.pointer (some ⟨Bs, 0, none⟩)] (fun x : BkAt zs => #[Value.int .i64 x.1.1, .int .i64 x.1.2]) (KB bx n₀) (fun ys => ys.map (fun x => x.1.2) = zs.reverse) (fun _ => True) zs.length w := fun l J Jx W hW _ _ hY h0 => by
  have hS' := (hW.cell (p := ⟨Bs, 0, none⟩) (by show Bs < w.heap.size; omega)).trans hS
  rcases Nat.eq_zero_or_pos zs.length with hz | hz
  · rw [hz] at hS'
    refine (back0_in F n h49 hro l Bs cap A J W hS' h0).mono fun e W' ⟨he, hj⟩ => ⟨he, .inl ⟨[], ?_, hj⟩⟩
    rw [List.eq_nil_of_length_eq_zero hz]; rfl
  · obtain ⟨b, off, rfl, h1, h2, h3⟩ := hI hz
    exact back1_in F n h49 hro hn l Bs bx n₀ b off cap zs lz h1 h2 hBs hBx J Jx hY W (Nat.le_trans hn₀ hW.size) hS' (fun j x hx => (hW.cell (p := ⟨b, off + j, none⟩) (by show b < w.heap.size; omega)).trans (h3 j x hx)) h0

set_option maxHeartbeats 1000000 in
theorem backward_is (A : Option Addr) (len cap : Nat) (w : World) :
    Calls Try.prog 73 #[.slice A len cap] w fun e w' => e = .returned (.func (.func 96) #[] #[.pointer (some ⟨w.heap.size, 0, none⟩)]) ∧ w' = w.alloc (.cells #[.slice A len cap] 92) := by
  go_enter Try.func73, Try.ntmps73
  go_wp2_with fail
  go_ret
  exact ⟨rfl, rfl⟩

/-- 'l = append(l, ..)' where l lies in a box. -/
theorem Boxed.grew {W w1 : World} {n₀ n₁ B : Nat} {t e : TypeId} {size : Nat} {v v' : Value} {k m : Nat} {xs ys : List Value}
    (hv : Boxed W B t v) (hte : t ≠ e) (hrow : W.ownsRow n₀ e size v k xs) (hn₁ : n₁ ≤ n₀) (hown' : w1.ownsRow n₀ e size v' m ys) (hgrow : W.grownBy w1 v.ownBlock) :
    Boxed w1 B t v ∧ Boxed (w1.setCell ⟨B, 0, none⟩ v') B t v' ∧ (w1.setCell ⟨B, 0, none⟩ v').ownsRow n₀ e size v' m ys ∧ KeepsOthers W (w1.setCell ⟨B, 0, none⟩ v') ∧ KB B n₁ W (w1.setCell ⟨B, 0, none⟩ v') ∧
      ∀ C, C ≤ B → C ≤ n₀ → C ≤ W.heap.size → Below C W (w1.setCell ⟨B, 0, none⟩ v') := by
  have hv1 : Boxed w1 B t v := hv.kept hgrow (hv.not_row hte hrow)
  have hlow : ∀ j, v.ownBlock = some j → n₀ ≤ j := fun j ej => by
    rcases hrow.2 with ⟨rfl, _⟩ | ⟨g, cap, cur, rfl, hb, _, _⟩
    · simp [Value.ownBlock] at ej
    · obtain rfl : g = j := by simpa [Value.ownBlock] using ej
      exact hb
  refine ⟨hv1, hv1.set v', hown'.kept (grownBy_setCell' w1 B v') (.inr (hv1.not_row hte hown').symm), ?_, ?_, ?_⟩
  · refine (KeepsOthers.of_grownBy hgrow fun j o ej hj => ?_).trans (KeepsOthers.setCell _ _ _)
    rcases hrow.2 with ⟨rfl, _⟩ | ⟨g, cap, cur, rfl, _, hgb, _⟩
    · simp [Value.ownBlock] at ej
    · obtain rfl : g = j := by simpa [Value.ownBlock] using ej
      rw [hgb] at hj; cases hj; rfl
  · exact (KB.grown hgrow fun r e => Nat.le_trans hn₁ (hlow r e)).trans (KB.setBox _ _ _ _)
  · intro C hC hC2 hC3
    exact ((Below.refl C W).grown hgrow hC3 fun j ej => Nat.le_trans hC2 (hlow j ej)).setCell (p := ⟨B, 0, none⟩) hC v'
end Go.Proofs.Ytmhdcehpddbjaaa
