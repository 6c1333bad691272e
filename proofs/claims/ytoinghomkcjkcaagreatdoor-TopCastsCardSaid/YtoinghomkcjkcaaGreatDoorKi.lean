/- lex.IsKey: is a text one of the words? -/
import Derived.Test.YtoinghomkcjkcaaGreatDoorKh
import Derived.Test.YtoinghomkcjkcaaGreatDoorKg
import Derived.StillTail
import Derived.OrdersHeld
import Derived.WalkKit
import Derived.WalkSpells
import Derived.WalkLawsBesides
import Derived.LoopTactic
import Derived.Deep.QuietTactic
import Derived.BigQuiet
import Derived.Below
import Derived.Laws.ResultCell
import Derived.Laws.Tables
import Derived.Laws.Rows
import Derived.Deep.Cut
import Derived.KernelRfl
import Derived.Test.YtoinghomkcjkcaaGreatDoorKf
import Derived.RangeFuncNested
import Derived.RangeFuncBound
import Derived.RangeFuncCalls
import Derived.RangeFuncLeaves
import Derived.RangeFuncBox
import Derived.Shelf.Abstract
import Derived.Shelf.RegionOpen
import Derived.OwnWalkIn
import Derived.TacticsInMore
import Derived.LoopNIn
import Derived.LoopIn
import Derived.Test.YtoinghomkcjkcaaGreatDoorProg
import Derived.Test.YtoinghomkcjkcaaGreatDoorKe
namespace Go.Proofs.YtoinghomkcjkcaaGreatDoor
set_option linter.constructorNameAsVariable false
set_option linter.unusedSimpArgs false
set_option linter.unusedVariables false
open Go Go.RowKit
theorem Rows.at_map {α : Type} {w : World} {B sz : Nat} {A : Option Addr} {f : α → List Value} {l : List α} (h : Rows w B sz A (l.map f)) (hn : 0 < l.length) :
    ∃ b off, A = some ⟨b, off, none⟩ ∧ b < B ∧ ∀ i x, l[i]? = some x → ∀ j v, (f x)[j]? = some v → w.cell? ⟨b, off + i * sz + j, none⟩ = some v := by
  obtain ⟨b, off, h1, h2, h3⟩ := h (by simpa using hn)
  exact ⟨b, off, h1, h2, fun i x hx j v hv => h3 i (f x) (by simp [hx]) j v hv⟩
theorem any_hit {α : Type} {p : α → Bool} {l : List α} {k : Nat} {x : α} (hx : l[k]? = some x) (h : p x = true) : l.any p = true := List.any_eq_true.2 ⟨x, List.mem_of_getElem? hx, h⟩
theorem any_miss {α : Type} {p : α → Bool} {l : List α} (h : ∀ j, j < l.length → ∀ e, l[j]? = some e → p e = false) : l.any p = false := by
  rw [List.any_eq_false]
  intro x hx
  obtain ⟨j, hj⟩ := List.getElem?_of_mem hx
  rw [h j (List.getElem?_eq_some_iff.1 hj).1 x hj]; simp
theorem no_step {α : Type} {p : α → Bool} {l : List α} {k : Nat} {x : α} (h : ∀ j, j < k → ∀ e, l[j]? = some e → p e = false) (hx : l[k]? = some x) (hp : p x = false) : ∀ j, j < k + 1 → ∀ e, l[j]? = some e → p e = false := fun j hj e he => by
  by_cases h1 : j < k
  · exact h j h1 e he
  · obtain rfl : j = k := by omega
    rw [hx] at he; obtain rfl := Option.some.inj he; exact hp
set_option maxRecDepth 100000 in
set_option maxHeartbeats 4000000 in
theorem indexS_is (A : Option Addr) (c B : Nat) (l : List ByteArray) (x : ByteArray) (w : World) (hR : Rows w B 1 A (l.map fun s => [.string s])) (hl : l.length ≤ 9223372036854775807) :
    Calls Tryz.prog 192 #[.slice A l.length c, .string x] w fun e w' => ∃ k : Int, e = .returned (.int .i64 k) ∧ decide (0 ≤ k) = l.any (fun t => x.toList == t.toList) ∧ w = w' := by
  have H := Aid.hid hR
  clear hR
  go_enter Tryz.func192, Tryz.ntmps192
  try simp only [List.append_eq, List.cons_append, List.nil_append]
  go_wp2_with fail
  go_loopw [8] (fun i wr => ∃ k : Nat, i = .int .i64 k ∧ k ≤ l.length ∧ Hid (∀ j, j < k → ∀ e, l[j]? = some e → (x.toList == e.toList) = false) ∧ wr = w) (fun i _ => l.length - (intOf i).toNat)
  case atStart => exact ⟨0, rfl, Nat.zero_le _, Aid.hid (fun j hj => by omega), rfl⟩
  case round =>
    obtain ⟨k, rfl, hk, NO, rfl⟩ := hrel
    by_cases hlt : k < l.length
    · obtain ⟨b, off, rfl, _, hc⟩ := H.out.at_map (by omega)
      obtain ⟨z, hz⟩ : ∃ z, l[k]? = some z := ⟨_, List.getElem?_eq_getElem hlt⟩
      have c1 := hc k z hz 0 _ rfl
      simp only [Nat.add_zero, Nat.mul_one] at c1
      have HZ := Aid.hid hz
      clear hc hz
      cases he : (x.toList == z.toList)
      · have NX : Hid (∀ j, j < k + 1 → ∀ e, l[j]? = some e → (x.toList == e.toList) = false) := Aid.hid (no_step (p := fun t => x.toList == t.toList) NO.out HZ.out he)
        go_wp2_with fail
        go_roundw
        case rel => exact ⟨k + 1, by go_num, by omega, NX, trivial⟩
        case measure => simp [intOf]; omega
      · have E := Aid.hid (any_hit (p := fun t => x.toList == t.toList) HZ.out he)
        go_wp2_with fail
        go_ret
        exact ⟨k, rfl, by rw [E.out]; simp, rfl⟩
    · have E := Aid.hid (any_miss (p := fun t => x.toList == t.toList) (l := l) (fun j hj => NO.out j (by omega)))
      go_wp2_with fail
      go_ret
      exact ⟨-1, rfl, by rw [E.out]; rfl, rfl⟩
set_option maxRecDepth 100000 in
set_option maxHeartbeats 4000000 in
theorem containsS_is (A : Option Addr) (c B : Nat) (l : List ByteArray) (x : ByteArray) (r : Bool) (w : World) (hr : l.any (fun t => t.toList == x.toList) = r) (h : Rows w B 1 A (l.map fun s => [.string s])) (hl : l.length ≤ 9223372036854775807) :
    Calls Tryz.prog 104 #[.slice A l.length c, .string x] w fun e w' => e = .returned (.bool r) ∧ Below w.heap.size w w' := by
  have H := Aid.hid h
  have HR : Hid (l.any (fun t => x.toList == t.toList) = r) := Aid.hid (by rw [← hr]; congr 1; funext t; exact Bool.beq_comm)
  clear h hr
  go_enter Tryz.func104, Tryz.ntmps104
  go_wp2_with fail
  refine (indexS_is A c B l x w H.out hl).mono ?_; rintro e w' ⟨k, rfl, hk, rfl⟩
  rw [HR.out] at hk
  cases r <;> (go_wp2_with fail; go_ret; exact ⟨rfl, Below.refl _ _⟩)
set_option maxRecDepth 100000 in
set_option maxHeartbeats 4000000 in
theorem isKey_is (s : ByteArray) (r : Bool) (w : World) (hl : Tp.Asc w) (hr : Tp.keys.any (fun t => t.toList == s.toList) = r) :
    Calls Tryz.prog 436 #[.string s] w fun e w' => e = .returned (.bool r) ∧ Below w.heap.size w w' := by
  have HL := Aid.hid hl
  have HR := Aid.hid hr
  clear hl hr
  go_enter Tryz.func436, Tryz.ntmps436
  go_wp2_with fail
  refine (keys_is w HL.out).mono ?_; rintro e w1 ⟨b, o, c, rfl, hrow, hb⟩
  have HB := Aid.hid hb; have HW := Aid.hid hrow
  clear hb hrow
  go_wp2_with fail
  refine (containsS_is (some ⟨b, o, none⟩) c w1.heap.size Tp.keys s r w1 HR.out HW.out (by decide)).mono ?_; rintro e w2 ⟨rfl, hb2⟩
  have HB2 := Aid.hid hb2
  clear hb2
  go_wp2_with fail
  go_ret
  exact ⟨rfl, HB.out.trans (HB2.out.mono HB.out.size)⟩
end Go.Proofs.YtoinghomkcjkcaaGreatDoor
/- A region that draws its order, whose last operations (from number n on) come up in their own order behind all others, and may write what the others read: S holds as long as those others come up. The head is walked as Derived/OrdersHeld does (a load is taken first), the tail as it stands. -/
namespace Go.Proofs.YtoinghomkcjkcaaGreatDoor.Ord
open Go

section
variable {P : Program} {ops : Array Oper} {Q : Exit → Act → World → Prop} {md : Region.Mode} {S : World → Prop} {n : Nat}

def wpHead (P : Program) (md : Region.Mode) (ops : Array Oper) (Q : Exit → Act → World → Prop) (S : World → Prop) (n : Nat) : Nat → Array Bool → Act → World → Prop
  | 0, listed, a, w => Region.seqB md ops (ops.size - n) n listed = true ∧ wpList P ops Q (ops.toList.drop n) a w
  | f + 1, listed, a, w =>
    Region.ready md ops listed ≠ [] ∧ ∀ i ∈ Region.ready md ops listed, i < n ∧ wpOp P ops Q i (fun a' w' => S w' ∧ wpHead P md ops Q S n f (listed.setIfInBounds i true) a' w') a w

theorem wpAny_of_wpHead : ∀ (f : Nat) (listed : Array Bool) (a : Act) (w : World), wpHead P md ops Q S n f listed a w → wpAny P md ops Q (f + (ops.size - n)) listed a w
  | 0, listed, a, w, h => by
    have := wpAny_of_seq (md := md) (Q' := Q) (ops.toList.drop n) n listed a w (fun j => by simp [List.getElem?_drop]) (by simpa using h.1) h.2
    simpa using this
  | f + 1, listed, a, w, h => by
    rw [show f + 1 + (ops.size - n) = (f + (ops.size - n)) + 1 by omega]
    exact ⟨fun h0 => absurd h0 h.1, fun i hi => wpOp_mono (fun a' w' h' => wpAny_of_wpHead f _ a' w' h'.2) (h.2 i hi).2⟩

theorem wpHead_first {i : Nat} {oi : Oper} {v : Value} (hi : ops[i]? = some oi) (hsel : ∀ (j : Nat) (o : Oper) cs b, ops[j]? = some o → o.op ≠ .select cs b)
    (hs : Region.sinkB md ops n = true) (hc : Region.chainB md ops n = true) (hn : n < ops.size) (hin : i < n)
    (hQ : ∀ c a w, Q (.panic c) (a.put oi.dst v) w → Q (.panic c) a w) :
    ∀ (f : Nat) (listed : Array Bool) (a : Act) (w : World), HeadInv md ops n listed →
      (∀ j oj, ops[j]? = some oj → j ≠ i → listed.getD j true = false → (∀ e ∈ oj.after, Region.binds md e = true → e.on ≠ i) → oi.apart ops oj = true) →
      i ∈ Region.ready md ops listed → YieldsIf P ops S oi v a → S w →
      wpHead P md ops Q S n f (listed.setIfInBounds i true) (a.put oi.dst v) w → wpHead P md ops Q S n (f + 1) listed a w := by
  intro f
  induction f with
  | zero =>
    intro listed a w inv _ hr hy hS H
    have hun := (mem_ready.1 hr).1
    refine ⟨fun h => (by rw [h] at hr; cases hr), fun j hj => ?_⟩
    have hjn : j < n := by
      rcases Nat.lt_or_ge j n with h | h
      · exact h
      · exact absurd hj (tail_waits hs hc hn inv _ i rfl hin hun j h)
    refine ⟨hjn, ?_⟩
    by_cases hji : j = i
    · subst hji; exact hy.wpOp hi hS ⟨hS, H⟩
    · have := seqB_ready H.1 j (ready_mono hj hji)
      omega
  | succ f ih =>
    intro listed a w inv hfree hr hy hS H
    have hun := (mem_ready.1 hr).1
    refine ⟨fun h => (by rw [h] at hr; cases hr), fun j hj => ?_⟩
    have hjn : j < n := by
      rcases Nat.lt_or_ge j n with h | h
      · exact h
      · exact absurd hj (tail_waits hs hc hn inv _ i rfl hin hun j h)
    refine ⟨hjn, ?_⟩
    by_cases hji : j = i
    · subst hji; exact hy.wpOp hi hS ⟨hS, H⟩
    · have h1 := (H.2 j (ready_mono hj hji)).2
      obtain ⟨hjun, oj, hoj, hall⟩ := mem_ready.1 hj
      have hnot : ∀ e ∈ oj.after, Region.binds md e = true → e.on ≠ i := fun e he hb heq => by
        have h1 := hall e he hb
        rw [heq, getD_both hun] at h1
        cases h1
      have h2 := wpOp_putIf hoj (hfree j oj hoj hji hjun hnot) (fun cs b => hsel i oi cs b hi) (fun cs b => hsel j oj cs b hoj) hQ hy h1
      have hfree' : ∀ k ok, ops[k]? = some ok → k ≠ i → (listed.setIfInBounds j true).getD k true = false →
          (∀ e ∈ ok.after, Region.binds md e = true → e.on ≠ i) → oi.apart ops ok = true := fun k ok hk hki hun hno => by
        refine hfree k ok hk hki ?_ hno
        by_cases hjk : j = k
        · subst hjk; exact hjun
        · rw [getD_set_ne true hjk] at hun; exact hun
      refine wpOp_mono (fun a' w' h3 => ⟨h3.2.1, ih (listed.setIfInBounds j true) a' w' (inv.set hj hjn) hfree' (ready_mono hr (Ne.symm hji)) h3.1 h3.2.1 ?_⟩) h2
      rw [Array.setIfInBounds_comm _ _ hji]
      exact h3.2.2

/-! The side conditions of the whole walk, reckoned once; the state: what is listed so far. -/
/-- All that is asked of the region itself, and of the order in which its head is walked ('lights' are taken first; a heavy one comes up alone). -/
def walkB (md : Region.Mode) (ops : Array Oper) (n : Nat) : List (Bool × Nat) → Array Bool → Bool
  | [], listed => Region.seqB md ops (ops.size - n) n listed
  | (light, i) :: rest, listed => decide (i < n) && (Region.ready md ops listed).contains i &&
      (if light then Region.free md ops listed i else decide (Region.ready md ops listed = [i])) && walkB md ops n rest (listed.setIfInBounds i true)

/-- The walk in that order, as it is to be shown: a light operation yields its value in every world that meets S; behind a heavy one S is shown anew. -/
def wpWalk (P : Program) (ops : Array Oper) (Q : Exit → Act → World → Prop) (S : World → Prop) (n : Nat) : List (Bool × Nat) → Act → World → Prop
  | [], a, w => wpList P ops Q (ops.toList.drop n) a w
  | (true, i) :: rest, a, w => ∀ oi, ops[i]? = some oi → ∃ v, YieldsIf P ops S oi v a ∧ wpWalk P ops Q S n rest (a.put oi.dst v) w
  | (false, i) :: rest, a, w => wpOp P ops Q i (fun a' w' => S w' ∧ wpWalk P ops Q S n rest a' w') a w

theorem wpHead_of_walk (hQ : ∀ c (a : Act) d v w, Q (.panic c) (a.put d v) w → Q (.panic c) a w) (hsel : Region.noSelect ops = true) (hs : Region.sinkB md ops n = true) (hc : Region.chainB md ops n = true) (hn : n < ops.size) :
    ∀ (l : List (Bool × Nat)) (listed : Array Bool) (a : Act) (w : World), HeadInv md ops n listed → walkB md ops n l listed = true → S w → wpWalk P ops Q S n l a w → wpHead P md ops Q S n l.length listed a w
  | [], listed, a, w, _, hB, _, h => ⟨hB, h⟩
  | (true, i) :: rest, listed, a, w, inv, hB, hS, h => by
    simp only [walkB, Bool.and_eq_true, if_true, decide_eq_true_eq] at hB
    obtain ⟨⟨⟨hin, hr⟩, hf⟩, hB'⟩ := hB
    have hr' : i ∈ Region.ready md ops listed := by simpa using hr
    obtain ⟨_, oi, hoi, _⟩ := mem_ready.1 hr'
    obtain ⟨v, hy, hK⟩ := h oi hoi
    exact wpHead_first hoi (Region.noSelect_spec hsel) hs hc hn hin (fun c a w h => hQ c a _ _ w h) rest.length listed a w inv (Region.free_spec hoi hf) hr' hy hS
      (wpHead_of_walk hQ hsel hs hc hn rest _ _ _ (inv.set hr' hin) hB' hS hK)
  | (false, i) :: rest, listed, a, w, inv, hB, _, h => by
    simp only [walkB, Bool.and_eq_true, Bool.false_eq_true, if_false, decide_eq_true_eq] at hB
    obtain ⟨⟨⟨hin, hr⟩, hone⟩, hB'⟩ := hB
    have hr' : i ∈ Region.ready md ops listed := by simpa using hr
    refine ⟨by rw [hone]; simp, fun j hj => ?_⟩
    rw [hone] at hj
    have hji : j = i := by simpa using hj
    subst hji
    exact ⟨hin, wpOp_mono (fun a' w' h' => ⟨h'.1, wpHead_of_walk hQ hsel hs hc hn rest _ a' w' (inv.set hr' hin) hB' h'.1 h'.2⟩) h⟩

/-- All of the region's own conditions. -/
def regionB (ops : Array Oper) (n : Nat) (l : List (Bool × Nat)) : Bool :=
  Region.noSelect ops && decide (n < ops.size) && Region.sinkB .any ops n && Region.chainB .any ops n && decide (l.length = n) && walkB .any ops n l (Array.replicate ops.size false)

theorem wp_region_walk {id : Nat} {a : Act} {w : World} (S : World → Prop) (n : Nat) (l : List (Bool × Nat)) (hm : P.follows .mixedOrders = true) (hB : regionB ops n l = true) (hQ : ∀ c (a : Act) d v w, Q (.panic c) (a.put d v) w → Q (.panic c) a w) (hS : S w.drew)
    (h : wpWalk P ops Q S n l a w.drew) : (Code.region id ops true).wp P Q a w := by
  simp only [regionB, Bool.and_eq_true, decide_eq_true_eq] at hB
  obtain ⟨⟨⟨⟨⟨hsel, hn⟩, hs⟩, hc⟩, hl⟩, hw⟩ := hB
  have inv0 : HeadInv .any ops n (Array.replicate ops.size false) :=
    ⟨by simp, fun j oj _ hl => (by rw [getD_replicate_false] at hl; cases hl), fun t _ ht => getD_in (by simpa using ht) (getD_replicate_false _ _)⟩
  have H := wpAny_of_wpHead _ _ _ _ (wpHead_of_walk (md := .any) hQ hsel hs hc hn l _ a w.drew inv0 hw hS h)
  rw [hl, show n + (ops.size - n) = ops.size by omega] at H
  exact wp_region_any hm H

/-! The steps of the walk. -/
theorem walk_light {i : Nat} {rest : List (Bool × Nat)} {a : Act} {w : World} {oi : Oper} {v : Value} (hi : ops[i]? = some oi) (hw : Region.wanted oi (yielded ops a.tmps) = true)
    (hy : ∀ w, S w → (execOp a.eval oi).run P w = .ok (.value v) w) (h : wpWalk P ops Q S n rest (a.put oi.dst v) w) : wpWalk P ops Q S n ((true, i) :: rest) a w :=
  fun oi' h' => by rw [hi] at h'; obtain rfl := Option.some.inj h'; exact ⟨v, .inl ⟨hw, hy⟩, h⟩
theorem walk_idle {i : Nat} {rest : List (Bool × Nat)} {a : Act} {w : World} {oi : Oper} (hi : ops[i]? = some oi) (hw : Region.wanted oi (yielded ops a.tmps) = false)
    (h : wpWalk P ops Q S n rest (a.put oi.dst undef) w) : wpWalk P ops Q S n ((true, i) :: rest) a w :=
  fun oi' h' => by rw [hi] at h'; obtain rfl := Option.some.inj h'; exact ⟨undef, .inr ⟨hw, rfl⟩, h⟩
theorem walk_heavy {i : Nat} {rest : List (Bool × Nat)} {a : Act} {w : World} {oi : Oper} (hi : ops[i]? = some oi) (hw : Region.wanted oi (yielded ops a.tmps) = true)
    (h : ∀ K : Act → World → Prop, Aid.Kept (∀ a w, S w → (S w → wpWalk P ops Q S n rest a w) → K a w) → Oper.wp P oi a w K Q) :
    wpWalk P ops Q S n ((false, i) :: rest) a w := by
  show wpOp P ops Q i _ a w
  exact wpOp_step hi (fun K hK => by rw [if_pos hw]; exact h K (fun a w hS hW => hK a w ⟨hS, hW hS⟩))
theorem walk_rest {i : Nat} {rest : List (Bool × Nat)} {a : Act} {w : World} {oi : Oper} (hi : ops[i]? = some oi) (hw : Region.wanted oi (yielded ops a.tmps) = false)
    (hS : S w) (h : wpWalk P ops Q S n rest (a.put oi.dst undef) w) :
    wpWalk P ops Q S n ((false, i) :: rest) a w := by
  show wpOp P ops Q i _ a w
  exact wpOp_step hi (fun K hK => by rw [if_neg (by simp [hw])]; exact hK _ _ ⟨hS, h⟩)
theorem walk_tail {a : Act} {w : World} (h : wpList P ops Q (ops.toList.drop n) a w) : wpWalk P ops Q S n [] a w := h

/-! The same where several heavy operations may come up: the light ones (in the list 'lights', the first one first) are taken first, then whichever comes up. -/
def pick (md : Region.Mode) (ops : Array Oper) (lights : List Nat) (listed : Array Bool) : Option Nat :=
  lights.find? fun i => (Region.ready md ops listed).contains i && Region.free md ops listed i

def goB (md : Region.Mode) (ops : Array Oper) (n : Nat) (lights : List Nat) : Nat → Array Bool → Bool
  | 0, listed => Region.seqB md ops (ops.size - n) n listed
  | f + 1, listed => match pick md ops lights listed with
    | some i => decide (i < n) && goB md ops n lights f (listed.setIfInBounds i true)
    | none => !(Region.ready md ops listed).isEmpty && (Region.ready md ops listed).all fun i => decide (i < n) && goB md ops n lights f (listed.setIfInBounds i true)

def wpGo (P : Program) (md : Region.Mode) (ops : Array Oper) (Q : Exit → Act → World → Prop) (S : World → Prop) (n : Nat) (lights : List Nat) : Nat → Array Bool → Act → World → Prop
  | 0, _, a, w => wpList P ops Q (ops.toList.drop n) a w
  | f + 1, listed, a, w => match pick md ops lights listed with
    | some i => ∀ oi, ops[i]? = some oi → ∃ v, YieldsIf P ops S oi v a ∧ wpGo P md ops Q S n lights f (listed.setIfInBounds i true) (a.put oi.dst v) w
    | none => ∀ i ∈ Region.ready md ops listed, wpOp P ops Q i (fun a' w' => S w' ∧ wpGo P md ops Q S n lights f (listed.setIfInBounds i true) a' w') a w

theorem wpHead_of_go {lights : List Nat} (hQ : ∀ c (a : Act) d v w, Q (.panic c) (a.put d v) w → Q (.panic c) a w) (hsel : Region.noSelect ops = true) (hs : Region.sinkB md ops n = true) (hc : Region.chainB md ops n = true) (hn : n < ops.size) :
    ∀ (f : Nat) (listed : Array Bool) (a : Act) (w : World), HeadInv md ops n listed → goB md ops n lights f listed = true → S w → wpGo P md ops Q S n lights f listed a w → wpHead P md ops Q S n f listed a w
  | 0, listed, a, w, _, hB, _, h => ⟨hB, h⟩
  | f + 1, listed, a, w, inv, hB, hS, h => by
    cases hp : pick md ops lights listed with
    | some i =>
      simp only [goB, hp, Bool.and_eq_true, decide_eq_true_eq] at hB
      obtain ⟨hin, hB'⟩ := hB
      have h1 := List.find?_some hp
      simp only [Bool.and_eq_true] at h1
      have hr' : i ∈ Region.ready md ops listed := by simpa using h1.1
      obtain ⟨_, oi, hoi, _⟩ := mem_ready.1 hr'
      simp only [wpGo, hp] at h
      obtain ⟨v, hy, hK⟩ := h oi hoi
      exact wpHead_first hoi (Region.noSelect_spec hsel) hs hc hn hin (fun c a w h => hQ c a _ _ w h) f listed a w inv (Region.free_spec hoi h1.2) hr' hy hS
        (wpHead_of_go hQ hsel hs hc hn f _ _ _ (inv.set hr' hin) hB' hS hK)
    | none =>
      simp only [goB, hp, Bool.and_eq_true, Bool.not_eq_true', List.all_eq_true, decide_eq_true_eq] at hB
      obtain ⟨hne, hall⟩ := hB
      simp only [wpGo, hp] at h
      refine ⟨fun h0 => by rw [h0] at hne; simp at hne, fun i hi => ?_⟩
      obtain ⟨hin, hB'⟩ := hall i hi
      exact ⟨hin, wpOp_mono (fun a' w' h' => ⟨h'.1, wpHead_of_go hQ hsel hs hc hn f _ a' w' (inv.set hi hin) hB' h'.1 h'.2⟩) (h i hi)⟩

def regionGoB (ops : Array Oper) (n : Nat) (lights : List Nat) : Bool :=
  Region.noSelect ops && decide (n < ops.size) && Region.sinkB .any ops n && Region.chainB .any ops n && goB .any ops n lights n (Array.replicate ops.size false)

theorem wp_region_go {id : Nat} {a : Act} {w : World} (S : World → Prop) (n : Nat) (lights : List Nat) (hm : P.follows .mixedOrders = true) (hB : regionGoB ops n lights = true) (hQ : ∀ c (a : Act) d v w, Q (.panic c) (a.put d v) w → Q (.panic c) a w) (hS : S w.drew)
    (h : wpGo P .any ops Q S n lights n (Array.replicate ops.size false) a w.drew) : (Code.region id ops true).wp P Q a w := by
  simp only [regionGoB, Bool.and_eq_true, decide_eq_true_eq] at hB
  obtain ⟨⟨⟨⟨hsel, hn⟩, hs⟩, hc⟩, hw⟩ := hB
  have inv0 : HeadInv .any ops n (Array.replicate ops.size false) :=
    ⟨by simp, fun j oj _ hl => (by rw [getD_replicate_false] at hl; cases hl), fun t _ ht => getD_in (by simpa using ht) (getD_replicate_false _ _)⟩
  have H := wpAny_of_wpHead _ _ _ _ (wpHead_of_go (md := .any) hQ hsel hs hc hn n _ a w.drew inv0 hw hS h)
  rw [show n + (ops.size - n) = ops.size by omega] at H
  exact wp_region_any hm H

variable {lights : List Nat} {f : Nat} {listed : Array Bool}
theorem go_light {i : Nat} {a : Act} {w : World} {oi : Oper} {v : Value} (hp : pick md ops lights listed = some i) (hi : ops[i]? = some oi) (hw : Region.wanted oi (yielded ops a.tmps) = true)
    (hy : ∀ w, S w → (execOp a.eval oi).run P w = .ok (.value v) w) (h : wpGo P md ops Q S n lights f (listed.setIfInBounds i true) (a.put oi.dst v) w) : wpGo P md ops Q S n lights (f + 1) listed a w := by
  simp only [wpGo, hp]
  exact fun oi' h' => by rw [hi] at h'; obtain rfl := Option.some.inj h'; exact ⟨v, .inl ⟨hw, hy⟩, h⟩
theorem go_idle {i : Nat} {a : Act} {w : World} {oi : Oper} (hp : pick md ops lights listed = some i) (hi : ops[i]? = some oi) (hw : Region.wanted oi (yielded ops a.tmps) = false)
    (h : wpGo P md ops Q S n lights f (listed.setIfInBounds i true) (a.put oi.dst undef) w) : wpGo P md ops Q S n lights (f + 1) listed a w := by
  simp only [wpGo, hp]
  exact fun oi' h' => by rw [hi] at h'; obtain rfl := Option.some.inj h'; exact ⟨undef, .inr ⟨hw, rfl⟩, h⟩
/-- One heavy operation, done. -/
def Done1 (P : Program) (md : Region.Mode) (ops : Array Oper) (Q : Exit → Act → World → Prop) (S : World → Prop) (n : Nat) (lights : List Nat) (f : Nat) (listed : Array Bool) (i : Nat) (a : Act) (w : World) : Prop :=
  wpOp P ops Q i (fun a' w' => S w' ∧ wpGo P md ops Q S n lights f (listed.setIfInBounds i true) a' w') a w
theorem go_done1 {i : Nat} {a : Act} {w : World} {oi : Oper} (hi : ops[i]? = some oi) (hw : Region.wanted oi (yielded ops a.tmps) = true)
    (h : ∀ K : Act → World → Prop, Aid.Kept (∀ a w, S w → (S w → wpGo P md ops Q S n lights f (listed.setIfInBounds i true) a w) → K a w) → Oper.wp P oi a w K Q) :
    Done1 P md ops Q S n lights f listed i a w :=
  wpOp_step hi (fun K hK => by rw [if_pos hw]; exact h K (fun a w hS hW => hK a w ⟨hS, hW hS⟩))
theorem go_one {i : Nat} {a : Act} {w : World} (hp : pick md ops lights listed = none) (hr : Region.ready md ops listed = [i])
    (h : Done1 P md ops Q S n lights f listed i a w) : wpGo P md ops Q S n lights (f + 1) listed a w := by
  simp only [wpGo, hp, hr]
  intro x hx
  obtain rfl : x = i := by simpa using hx
  exact h
theorem go_two {i j : Nat} {a : Act} {w : World} (hp : pick md ops lights listed = none) (hr : Region.ready md ops listed = [i, j])
    (h : Done1 P md ops Q S n lights f listed i a w) (h' : Done1 P md ops Q S n lights f listed j a w) : wpGo P md ops Q S n lights (f + 1) listed a w := by
  simp only [wpGo, hp, hr]
  intro x hx
  have : x = i ∨ x = j := by simpa using hx
  rcases this with rfl | rfl
  · exact h
  · exact h'
theorem go_three {i j k : Nat} {a : Act} {w : World} (hp : pick md ops lights listed = none) (hr : Region.ready md ops listed = [i, j, k])
    (h : Done1 P md ops Q S n lights f listed i a w) (h' : Done1 P md ops Q S n lights f listed j a w) (h'' : Done1 P md ops Q S n lights f listed k a w) : wpGo P md ops Q S n lights (f + 1) listed a w := by
  simp only [wpGo, hp, hr]
  intro x hx
  have : x = i ∨ x = j ∨ x = k := by simpa using hx
  rcases this with rfl | rfl | rfl
  · exact h
  · exact h'
  · exact h''
theorem go_tail {a : Act} {w : World} (h : wpList P ops Q (ops.toList.drop n) a w) : wpGo P md ops Q S n lights 0 listed a w := h
end
end Go.Proofs.YtoinghomkcjkcaaGreatDoor.Ord
/- A region that draws its order, walked whole (no operation waits for all others): as Ord. -/
namespace Go.Proofs.YtoinghomkcjkcaaGreatDoor.Ord
open Go

section
variable {P : Program} {ops : Array Oper} {Q : Exit → Act → World → Prop} {md : Region.Mode} {S : World → Prop} {n : Nat}

theorem wpHead_first_all {i : Nat} {oi : Oper} {v : Value} (hi : ops[i]? = some oi) (hsel : ∀ (j : Nat) (o : Oper) cs b, ops[j]? = some o → o.op ≠ .select cs b)
    (hn : n = ops.size) (hin : i < n)
    (hQ : ∀ c a w, Q (.panic c) (a.put oi.dst v) w → Q (.panic c) a w) :
    ∀ (f : Nat) (listed : Array Bool) (a : Act) (w : World), HeadInv md ops n listed →
      (∀ j oj, ops[j]? = some oj → j ≠ i → listed.getD j true = false → (∀ e ∈ oj.after, Region.binds md e = true → e.on ≠ i) → oi.apart ops oj = true) →
      i ∈ Region.ready md ops listed → YieldsIf P ops S oi v a → S w →
      wpHead P md ops Q S n f (listed.setIfInBounds i true) (a.put oi.dst v) w → wpHead P md ops Q S n (f + 1) listed a w := by
  intro f
  induction f with
  | zero =>
    intro listed a w inv _ hr hy hS H
    have hun := (mem_ready.1 hr).1
    refine ⟨fun h => (by rw [h] at hr; cases hr), fun j hj => ?_⟩
    have hjn : j < n := by
      obtain ⟨_, oj, hoj, _⟩ := mem_ready.1 hj
      rw [hn]; exact (Array.getElem?_eq_some_iff.1 hoj).1
    refine ⟨hjn, ?_⟩
    by_cases hji : j = i
    · subst hji; exact hy.wpOp hi hS ⟨hS, H⟩
    · have := seqB_ready H.1 j (ready_mono hj hji)
      omega
  | succ f ih =>
    intro listed a w inv hfree hr hy hS H
    have hun := (mem_ready.1 hr).1
    refine ⟨fun h => (by rw [h] at hr; cases hr), fun j hj => ?_⟩
    have hjn : j < n := by
      obtain ⟨_, oj, hoj, _⟩ := mem_ready.1 hj
      rw [hn]; exact (Array.getElem?_eq_some_iff.1 hoj).1
    refine ⟨hjn, ?_⟩
    by_cases hji : j = i
    · subst hji; exact hy.wpOp hi hS ⟨hS, H⟩
    · have h1 := (H.2 j (ready_mono hj hji)).2
      obtain ⟨hjun, oj, hoj, hall⟩ := mem_ready.1 hj
      have hnot : ∀ e ∈ oj.after, Region.binds md e = true → e.on ≠ i := fun e he hb heq => by
        have h1 := hall e he hb
        rw [heq, getD_both hun] at h1
        cases h1
      have h2 := wpOp_putIf hoj (hfree j oj hoj hji hjun hnot) (fun cs b => hsel i oi cs b hi) (fun cs b => hsel j oj cs b hoj) hQ hy h1
      have hfree' : ∀ k ok, ops[k]? = some ok → k ≠ i → (listed.setIfInBounds j true).getD k true = false →
          (∀ e ∈ ok.after, Region.binds md e = true → e.on ≠ i) → oi.apart ops ok = true := fun k ok hk hki hun hno => by
        refine hfree k ok hk hki ?_ hno
        by_cases hjk : j = k
        · subst hjk; exact hjun
        · rw [getD_set_ne true hjk] at hun; exact hun
      refine wpOp_mono (fun a' w' h3 => ⟨h3.2.1, ih (listed.setIfInBounds j true) a' w' (inv.set hj hjn) hfree' (ready_mono hr (Ne.symm hji)) h3.1 h3.2.1 ?_⟩) h2
      rw [Array.setIfInBounds_comm _ _ hji]
      exact h3.2.2

theorem wpHead_of_walk_all (hQ : ∀ c (a : Act) d v w, Q (.panic c) (a.put d v) w → Q (.panic c) a w) (hsel : Region.noSelect ops = true) (hn : n = ops.size) :
    ∀ (l : List (Bool × Nat)) (listed : Array Bool) (a : Act) (w : World), HeadInv md ops n listed → walkB md ops n l listed = true → S w → wpWalk P ops Q S n l a w → wpHead P md ops Q S n l.length listed a w
  | [], listed, a, w, _, hB, _, h => ⟨hB, h⟩
  | (true, i) :: rest, listed, a, w, inv, hB, hS, h => by
    simp only [walkB, Bool.and_eq_true, if_true, decide_eq_true_eq] at hB
    obtain ⟨⟨⟨hin, hr⟩, hf⟩, hB'⟩ := hB
    have hr' : i ∈ Region.ready md ops listed := by simpa using hr
    obtain ⟨_, oi, hoi, _⟩ := mem_ready.1 hr'
    obtain ⟨v, hy, hK⟩ := h oi hoi
    exact wpHead_first_all hoi (Region.noSelect_spec hsel) hn hin (fun c a w h => hQ c a _ _ w h) rest.length listed a w inv (Region.free_spec hoi hf) hr' hy hS
      (wpHead_of_walk_all hQ hsel hn rest _ _ _ (inv.set hr' hin) hB' hS hK)
  | (false, i) :: rest, listed, a, w, inv, hB, _, h => by
    simp only [walkB, Bool.and_eq_true, Bool.false_eq_true, if_false, decide_eq_true_eq] at hB
    obtain ⟨⟨⟨hin, hr⟩, hone⟩, hB'⟩ := hB
    have hr' : i ∈ Region.ready md ops listed := by simpa using hr
    refine ⟨by rw [hone]; simp, fun j hj => ?_⟩
    rw [hone] at hj
    have hji : j = i := by simpa using hj
    subst hji
    exact ⟨hin, wpOp_mono (fun a' w' h' => ⟨h'.1, wpHead_of_walk_all hQ hsel hn rest _ a' w' (inv.set hr' hin) hB' h'.1 h'.2⟩) h⟩


def regionAllB (ops : Array Oper) (n : Nat) (l : List (Bool × Nat)) : Bool :=
  Region.noSelect ops && decide (n = ops.size) && decide (l.length = n) && walkB .any ops n l (Array.replicate ops.size false)
theorem wp_region_all {id : Nat} {a : Act} {w : World} (S : World → Prop) (n : Nat) (l : List (Bool × Nat)) (hm : P.follows .mixedOrders = true) (hB : regionAllB ops n l = true) (hQ : ∀ c (a : Act) d v w, Q (.panic c) (a.put d v) w → Q (.panic c) a w) (hS : S w.drew)
    (h : wpWalk P ops Q S n l a w.drew) : (Code.region id ops true).wp P Q a w := by
  simp only [regionAllB, Bool.and_eq_true, decide_eq_true_eq] at hB
  obtain ⟨⟨⟨hsel, hn⟩, hl⟩, hw⟩ := hB
  have inv0 : HeadInv .any ops n (Array.replicate ops.size false) :=
    ⟨by simp, fun j oj _ hl => (by rw [getD_replicate_false] at hl; cases hl), fun t _ ht => getD_in (by simpa using ht) (getD_replicate_false _ _)⟩
  have H := wpAny_of_wpHead _ _ _ _ (wpHead_of_walk_all (md := .any) hQ hsel hn l _ a w.drew inv0 hw hS h)
  rw [hl, show n + (ops.size - n) = ops.size by omega] at H
  exact wp_region_any hm H
end
end Go.Proofs.YtoinghomkcjkcaaGreatDoor.Ord
/- layout.letters: a letter for each slot of each variable. -/
namespace Go.Proofs.YtoinghomkcjkcaaGreatDoor
set_option linter.constructorNameAsVariable false
set_option linter.unusedSimpArgs false
set_option linter.unusedVariables false
open Go Go.RowKit
theorem below_new (w : World) (o : Obj) : Below w.heap.size w (w.alloc o) := (Below.refl _ _).alloc (Nat.le_refl _) _
theorem new1 (w : World) (x0 : List Value) (t0 : TypeId) :
    Aid.Has (w.alloc (.cells x0.toArray t0)) (w.heap.size) x0 t0 ∧ Below w.heap.size w (w.alloc (.cells x0.toArray t0)) := by
  exact ⟨Aid.Has.new _ _ _, below_new _ _⟩
theorem new2 (w : World) (x0 x1 : List Value) (t0 t1 : TypeId) :
    Aid.Has ((w.alloc (.cells x0.toArray t0)).alloc (.cells x1.toArray t1)) (w.heap.size) x0 t0 ∧ Aid.Has ((w.alloc (.cells x0.toArray t0)).alloc (.cells x1.toArray t1)) (w.heap.size + 1) x1 t1 ∧ Below w.heap.size w ((w.alloc (.cells x0.toArray t0)).alloc (.cells x1.toArray t1)) := by
  obtain ⟨h0, hb⟩ := new1 w x0 t0
  have e : (w.alloc (.cells x0.toArray t0)).heap.size = w.heap.size + 1 := by simp
  exact ⟨h0.alloc _, (by rw [← e]; exact Aid.Has.new _ _ _), hb.alloc hb.size _⟩
theorem newn1 (w : World) (x0 : List Value) (t0 : TypeId) :
    ∃ W, (w.alloc (.cells x0.toArray t0)) = W ∧ Aid.Has W (w.heap.size) x0 t0 ∧ Below w.heap.size w W := ⟨_, rfl, new1 w x0 t0⟩
theorem newn2 (w : World) (x0 x1 : List Value) (t0 t1 : TypeId) :
    ∃ W, ((w.alloc (.cells x0.toArray t0)).alloc (.cells x1.toArray t1)) = W ∧ Aid.Has W (w.heap.size) x0 t0 ∧ Aid.Has W (w.heap.size + 1) x1 t1 ∧ Below w.heap.size w W := ⟨_, rfl, new2 w x0 x1 t0 t1⟩
theorem la0 {α : Type} {l : List α} {i : Nat} : l.toArray[i]? = l[i]? := List.getElem?_toArray
theorem la1 {α : Type} {a : α} {l : List α} {i : Nat} : (a :: l)[i + 1]? = l[i]? := List.getElem?_cons_succ
theorem la2 {α : Type} {a : α} {l : List α} : (a :: l)[0]? = some a := List.getElem?_cons_zero
theorem la3 {α : Type} {l : List α} {i : Nat} {a : α} : l.toArray.setIfInBounds i a = (l.set i a).toArray := List.setIfInBounds_toArray l i a
theorem la4 {α : Type} {x : α} {xs : List α} {a : α} : (x :: xs).set 0 a = a :: xs := List.set_cons_zero
theorem la5 {α : Type} {x : α} {xs : List α} {a : α} {i : Nat} : (x :: xs).set (i + 1) a = x :: xs.set i a := List.set_cons_succ
theorem new_at {w X : World} {xs : Array Value} {t : TypeId} (h : w.alloc (.cells xs t) = X) : Aid.Has X w.heap.size xs.toList t := by subst h; exact Aid.Has.new w xs.toList t
theorem all_at {w X : World} {o : Obj} {b : Nat} {ys : List Value} {t : TypeId} (h : w.alloc o = X) (hh : Aid.Has w b ys t) : Aid.Has X b ys t := by subst h; exact hh.alloc _
theorem below_at {w X : World} {o : Obj} {a : World} (h : w.alloc o = X) (hb : Below a.heap.size a w) : Below a.heap.size a X := by subst h; exact hb.alloc hb.size _
theorem below_at0 {w X : World} {o : Obj} (h : w.alloc o = X) : Below w.heap.size w X := by subst h; exact below_new w o
theorem bld_below {T e : TypeId} {B b : Nat} {bs : List Value} {w w' : World} (h : Lib.IsBuilder T e B b bs w) (hb : Below w.heap.size w w') : Lib.IsBuilder T e B b bs w' := by
  have hg : w.grownBy w' none := ⟨hb.os, hb.tape, hb.output, hb.size, fun k hk _ => hb.block k hk⟩
  have k : ∀ p, Lib.BuilderAt T e B b p bs w → Lib.BuilderAt T e B b p bs w' := by
    rintro p ⟨h1, v, h2, h3, h4⟩
    exact ⟨h1, v, (hb.block b (Array.getElem?_eq_some_iff.1 h2).1).trans h2, h3.kept hg (by cases v.ownBlock <;> simp), h4⟩
  exact h.elim (fun x => .inl (k _ x)) (fun x => .inr (k _ x))
/-- a variable, as it lies in a row -/
structure Tp.Vr where
  n : ByteArray
  k : Int
  lo : Int
  hi : Int
  t : ByteArray
  i : Int
  d : Int
  s : Int
def Tp.Vr.cells (v : Tp.Vr) : List Value := [.string v.n, .int .i64 v.k, .int .i64 v.lo, .int .i64 v.hi, .string v.t, .int .i64 v.i, .int .i64 v.d, .int .i64 v.s]
/-- how many slots, at most 10,000 -/
def Tp.room (v : Tp.Vr) : Nat := if v.k = 6 ∨ v.k = 7 then 0 else if v.k = 4 then (min (max (wrap64 (v.hi + 1)) 0) 10000).toNat else 1
def Tp.letter (v : Tp.Vr) : UInt8 := if v.k = 5 then 114 else 105
def Tp.lettersOf : List Tp.Vr → List UInt8
  | [] => []
  | v :: l => List.replicate (Tp.room v) (Tp.letter v) ++ Tp.lettersOf l
theorem Tp.letters_take {l : List Tp.Vr} {k : Nat} {v : Tp.Vr} (h : l[k]? = some v) : Tp.lettersOf (l.take (k + 1)) = Tp.lettersOf (l.take k) ++ List.replicate (Tp.room v) (Tp.letter v) := by
  induction l generalizing k with
  | nil => cases h
  | cons x l ih =>
    cases k with
    | zero => obtain rfl := Option.some.inj h; simp [Tp.lettersOf]
    | succ k => simp only [List.take_succ_cons, Tp.lettersOf, List.append_assoc, ih (k := k) h]
theorem Tp.room_le (v : Tp.Vr) : Tp.room v ≤ 10000 := by
  unfold Tp.room
  split
  · omega
  · split <;> omega
theorem Tp.letters_len {l : List Tp.Vr} : (Tp.lettersOf l).length ≤ l.length * 10000 := by
  induction l with
  | nil => simp [Tp.lettersOf]
  | cons x l ih => have := Tp.room_le x; simp only [Tp.lettersOf, List.length_append, List.length_replicate, List.length_cons]; omega
theorem Tp.repeat_one (b : UInt8) : ∀ n, Lib.repeatL [b] n = List.replicate n b
  | 0 => rfl
  | n + 1 => by show [b] ++ Lib.repeatL [b] n = _; rw [Tp.repeat_one b n]; rfl
set_option maxRecDepth 100000 in
set_option maxHeartbeats 4000000 in
theorem letter_is (k lo hi : Int) (t : ByteArray) (w : World) :
    Calls Tryz.prog 150 #[.agg #[.int .i64 k, .int .i64 lo, .int .i64 hi, .string t]] w fun e w' => e = .returned (.string ⟨#[if k = 5 then 114 else 105]⟩) ∧ Below w.heap.size w w' := by
  obtain ⟨W, hW, qt, k0⟩ := newn1 w [.int .i64 k, .int .i64 lo, .int .i64 hi, .string t] 95
  have K0 := Aid.hid k0
  have Nt := Aid.hid qt
  clear qt k0
  have xt0 := Nt.out.cell 0 _ rfl
  have xt1 := Nt.out.cell 1 _ rfl
  have xt2 := Nt.out.cell 2 _ rfl
  have xt3 := Nt.out.cell 3 _ rfl
  have lt := Nt.out.lt
  go_enter Tryz.func150, Tryz.ntmps150
  try simp only [List.append_eq, List.cons_append, List.nil_append]
  by_cases h : k = 5
  · subst h
    go_wp2_with fail
    go_ret
    exact ⟨by first | rfl | simp, K0.out⟩
  · have hn : (k == 5) = false := by simpa using h
    go_wp2_with fail
    go_ret
    exact ⟨by first | rfl | rw [if_neg h] | simp [h], K0.out⟩
set_option maxRecDepth 100000 in
set_option maxHeartbeats 4000000 in
theorem room_is (k lo hi : Int) (t : ByteArray) (w : World) :
    Calls Tryz.prog 151 #[.agg #[.int .i64 k, .int .i64 lo, .int .i64 hi, .string t]] w fun e w' => e = .returned (.int .i64 (if k = 6 ∨ k = 7 then 0 else if k = 4 then max (wrap64 (hi + 1)) 0 else 1)) ∧ Below w.heap.size w w' := by
  obtain ⟨W, hW, qt, k0⟩ := newn1 w [.int .i64 k, .int .i64 lo, .int .i64 hi, .string t] 95
  have K0 := Aid.hid k0
  have Nt := Aid.hid qt
  clear qt k0
  have xt0 := Nt.out.cell 0 _ rfl
  have xt1 := Nt.out.cell 1 _ rfl
  have xt2 := Nt.out.cell 2 _ rfl
  have xt3 := Nt.out.cell 3 _ rfl
  have lt := Nt.out.lt
  go_enter Tryz.func151, Tryz.ntmps151
  try simp only [List.append_eq, List.cons_append, List.nil_append]
  by_cases h6 : k = 6
  · subst h6
    go_wp2_with fail
    go_ret
    exact ⟨by simp, K0.out⟩
  have n6 : (k == 6) = false := by simpa using h6
  by_cases h7 : k = 7
  · subst h7
    go_wp2_with fail
    go_ret
    exact ⟨by simp, K0.out⟩
  have n7 : (k == 7) = false := by simpa using h7
  by_cases h4 : k = 4
  · subst h4
    go_wp2_with fail
    go_ret
    exact ⟨by simp, K0.out⟩
  have n4 : (k == 4) = false := by simpa using h4
  go_wp2_with fail
  go_ret
  exact ⟨by first | rfl | (rw [if_neg (by omega), if_neg h4]) | simp [h6, h7, h4], K0.out⟩
def Tp.roomI (v : Tp.Vr) : Int := if v.k = 6 ∨ v.k = 7 then (0 : Int) else if v.k = 4 then max (wrap64 (v.hi + 1)) 0 else 1
theorem letterV_is (v : Tp.Vr) (w : World) : Calls Tryz.prog 150 #[.agg #[.int .i64 v.k, .int .i64 v.lo, .int .i64 v.hi, .string v.t]] w fun e w' => e = .returned (.string ⟨#[Tp.letter v]⟩) ∧ Below w.heap.size w w' := letter_is v.k v.lo v.hi v.t w
theorem roomV_is (v : Tp.Vr) (w : World) : Calls Tryz.prog 151 #[.agg #[.int .i64 v.k, .int .i64 v.lo, .int .i64 v.hi, .string v.t]] w fun e w' => e = .returned (.int .i64 (Tp.roomI v)) ∧ Below w.heap.size w w' := room_is v.k v.lo v.hi v.t w
theorem Tp.room_min (v : Tp.Vr) : min (Tp.roomI v) 10000 = (Tp.room v : Int) := by
  unfold Tp.roomI Tp.room
  split
  · omega
  · split <;> omega
end Go.Proofs.YtoinghomkcjkcaaGreatDoor
/- layout.letters, walked. -/
namespace Go.Proofs.YtoinghomkcjkcaaGreatDoor
set_option linter.constructorNameAsVariable false
set_option linter.unusedSimpArgs false
set_option linter.unusedVariables false
open Go Go.RowKit
set_option maxRecDepth 100000 in
set_option maxHeartbeats 1000000 in
theorem letters_is (l : List Tp.Vr) (A : Option Addr) (c B : Nat) (w : World) (hR : Rows w B 8 A (l.map Tp.Vr.cells)) (hB : B ≤ w.heap.size) (hl : l.length ≤ 1000000) :
    Calls Tryz.prog 68 #[.slice A l.length c] w fun e w' => e = .returned (.string ⟨(Tp.lettersOf l).toArray⟩) ∧ Below w.heap.size w w' := by
  have HR := Aid.hid hR
  clear hR
  obtain ⟨W, hW, qs, k0⟩ := newn1 w [.pointer none, .slice none 0 0] 294
  have K0 := Aid.hid k0
  have Ns := Aid.hid qs
  clear qs k0
  go_enter Tryz.func68, Tryz.ntmps68
  try simp only [List.append_eq, List.cons_append, List.nil_append]
  have BL := Aid.hid (show Lib.IsBuilder 294 5 w.heap.size w.heap.size (Lib.byteCells (Tp.lettersOf (l.take 0))) W from .inl ⟨Nat.le_refl _, .slice none 0 0, Ns.out, World.ownsRow_nil _ _ _ _, by simp [Value.ownBlock]⟩)
  go_wp2_with fail
  go_loopw [8] (fun vi wi => ∃ k : Nat, vi = .int .i64 k ∧ k ≤ l.length ∧ Hid (Lib.IsBuilder 294 5 w.heap.size w.heap.size (Lib.byteCells (Tp.lettersOf (l.take k))) wi) ∧ Hid (Below w.heap.size w wi)) (fun vi _ => l.length - (intOf vi).toNat)
  case atStart => exact ⟨0, rfl, Nat.zero_le _, BL, K0⟩
  case round =>
    obtain ⟨k, rfl, hk, BK, HB⟩ := hrel
    clear BL K0
    by_cases hkl : k < l.length
    · obtain ⟨vb, vo, rfl, lvb, hc⟩ := (HR.out.below HB.out hB).at_map (by omega)
      obtain ⟨v, hv⟩ : ∃ x, l[k]? = some x := ⟨_, List.getElem?_eq_getElem hkl⟩
      have llv : vb < wr.heap.size := Nat.lt_of_lt_of_le lvb (Nat.le_trans hB HB.out.size)
      have HV := Aid.hid hv
      have c0 := hc k v hv 0 _ rfl
      have c1 := hc k v hv 1 _ rfl
      have c2 := hc k v hv 2 _ rfl
      have c3 := hc k v hv 3 _ rfl
      have c4 := hc k v hv 4 _ rfl
      have c5 := hc k v hv 5 _ rfl
      have c6 := hc k v hv 6 _ rfl
      have c7 := hc k v hv 7 _ rfl
      simp only [Nat.add_zero] at c0
      clear hc hv
      have BX := fun X (hx : wr.alloc (.cells #[.string v.n, .int .i64 v.k, .int .i64 v.lo, .int .i64 v.hi, .string v.t, .int .i64 v.i, .int .i64 v.d, .int .i64 v.s] 162) = X) => bld_below BK.out (below_at0 hx)
      obtain ⟨X1, hX⟩ : ∃ X, wr.alloc (.cells #[.string v.n, .int .i64 v.k, .int .i64 v.lo, .int .i64 v.hi, .string v.t, .int .i64 v.i, .int .i64 v.d, .int .i64 v.s] 162) = X := ⟨_, rfl⟩
      have qv := new_at hX
      have qqk := below_at hX (HB.out)
      have qqs := below_at0 hX
      have Nv_1 := Aid.hid qv
      have Kx1 := Aid.hid qqk
      have Qs1 := Aid.hid qqs
      clear qqk qqs qv
      have xv1 := Nv_1.out.cell 1 _ rfl
      have xv2 := Nv_1.out.cell 2 _ rfl
      have xv3 := Nv_1.out.cell 3 _ rfl
      have xv4 := Nv_1.out.cell 4 _ rfl
      have lv := Nv_1.out.lt
      have BY := Aid.hid (BX _ hX)
      clear BX
      go_wp2_with fail
      (try clear hX)
      clear c0 c1 c2 c3 c4 c5 c6 c7 llv
      have HZ := Aid.hid (fun (w' : World) (hSw : Below X1.heap.size X1 w') => (⟨(hSw.cell (p := ⟨wr.heap.size, 1, none⟩) lv).trans xv1, (hSw.cell (p := ⟨wr.heap.size, 2, none⟩) lv).trans xv2, (hSw.cell (p := ⟨wr.heap.size, 3, none⟩) lv).trans xv3, (hSw.cell (p := ⟨wr.heap.size, 4, none⟩) lv).trans xv4⟩ : _ ∧ _ ∧ _ ∧ _))
      have hb : Below X1.heap.size X1 X1.drew := (Below.refl _ _).drew
      refine Ord.wp_region_go (fun w' => Below X1.heap.size X1 w') 8 [0, 1, 3, 4, 6] (by kernel_rfl) (by kernel_rfl) (fun _ _ d _ _ h => by cases d <;> exact h) (hb) ?_
      clear hb
      have hb : Below X1.heap.size X1 X1.drew := (Below.refl _ _).drew
      generalize X1.drew = wd0 at *
      apply Ord.go_light (i := 0) (by kernel_rfl)
      next => (simp only [la0, la1, la2]; rfl)
      next => rfl
      next => (intro w' hSw; obtain ⟨z0, z1, z2, z3⟩ := HZ.out w' hSw; clear hSw; go_simp; first | done | with_reducible rfl)
      simp only [Act.put, la3, la4, la5]
      apply Ord.go_light (i := 1) (by kernel_rfl)
      next => (simp only [la0, la1, la2]; rfl)
      next => rfl
      next => (intro w' hSw; obtain ⟨z0, z1, z2, z3⟩ := HZ.out w' hSw; clear hSw; go_simp; first | done | with_reducible rfl)
      simp only [Act.put, la3, la4, la5]
      apply Ord.go_light (i := 3) (by kernel_rfl)
      next => (simp only [la0, la1, la2]; rfl)
      next => rfl
      next => (intro w' hSw; obtain ⟨z0, z1, z2, z3⟩ := HZ.out w' hSw; clear hSw; go_simp; first | done | with_reducible rfl)
      simp only [Act.put, la3, la4, la5]
      apply Ord.go_light (i := 4) (by kernel_rfl)
      next => (simp only [la0, la1, la2]; rfl)
      next => rfl
      next => (intro w' hSw; obtain ⟨z0, z1, z2, z3⟩ := HZ.out w' hSw; clear hSw; go_simp; first | done | with_reducible rfl)
      simp only [Act.put, la3, la4, la5]
      refine Ord.go_one (i := 2) (by kernel_rfl) (by kernel_rfl) ?_
      apply Ord.go_done1
      next => (simp only [la0, la1, la2]; rfl)
      next => rfl
      intro K hK
      go_wp2_with fail
      refine (letterV_is v _).mono ?_; rintro _ vc2 ⟨rfl, hb'⟩; dsimp only
      refine hK.out _ _ (hb.trans (hb'.mono hb.size)) (fun hHeld => ?_)
      clear hb hb'
      have hb := hHeld
      clear hK K
      try simp only [Act.put, la3, la4, la5]
      refine Ord.go_one (i := 5) (by kernel_rfl) (by kernel_rfl) ?_
      apply Ord.go_done1
      next => (simp only [la0, la1, la2]; rfl)
      next => rfl
      intro K hK
      go_wp2_with fail
      refine (roomV_is v _).mono ?_; rintro _ vc5 ⟨rfl, hb'⟩; dsimp only
      refine hK.out _ _ (hb.trans (hb'.mono hb.size)) (fun hHeld => ?_)
      clear hb hb'
      have hb := hHeld
      clear hK K
      try simp only [Act.put, la3, la4, la5]
      apply Ord.go_light (i := 6) (by kernel_rfl)
      next => (simp only [la0, la1, la2]; rfl)
      next => rfl
      next => (intro w' hSw; obtain ⟨z0, z1, z2, z3⟩ := HZ.out w' hSw; clear hSw; go_simp; first | done | with_reducible rfl)
      simp only [Act.put, la3, la4, la5]
      refine Ord.go_one (i := 7) (by kernel_rfl) (by kernel_rfl) ?_
      apply Ord.go_done1
      next => (simp only [la0, la1, la2]; rfl)
      next => rfl
      intro K hK
      go_wp2_with fail
      rw [Tp.room_min v]
      refine (repeat_is ⟨#[Tp.letter v]⟩ (Tp.room v) _ (by have := Tp.room_le v; omega) (by have := Tp.room_le v; simp only [ByteArray.size, List.size_toArray, List.length_cons, List.length_nil]; omega)).mono ?_; rintro _ vc7 ⟨rfl, hb'⟩; dsimp only
      refine hK.out _ _ (hb.trans (hb'.mono hb.size)) (fun hHeld => ?_)
      clear hb hb'
      have hb := hHeld
      clear hK K
      try simp only [Act.put, la3, la4, la5]
      refine Ord.go_tail ?_; simp only [List.drop_succ_cons, List.drop_zero]
      have E := Aid.hid (Tp.letters_take HV.out)
      have LN : (Tp.lettersOf (l.take k)).length ≤ 140737488255328 := by have := Tp.letters_len (l := l.take k); rw [List.length_take] at this; omega
      have LR := Tp.room_le v
      go_wp2_with (refine (write_is w.heap.size w.heap.size _ _ _ (bld_below BY.out hb) (by simp only [Lib.byteCells_length, ByteArray.size, List.size_toArray, Tp.repeat_one, List.length_replicate]; omega) (Nat.le_trans (Kx1.out).size hb.size)).mono ?_)
      rintro _ w2 ⟨rfl, hW2, hb2⟩
      have BZ := Aid.hid (show Lib.IsBuilder 294 5 w.heap.size w.heap.size (Lib.byteCells (Tp.lettersOf (l.take (k + 1)))) w2 from .inr (by rw [E.out, Lib.byteCells_append, ← Tp.repeat_one]; exact hW2))
      have KZ := Aid.hid (((Kx1.out).trans (hb.mono (Kx1.out).size)).trans hb2)
      clear hb2 hW2 hb
      go_wp2_with fail
      go_roundw
      case rel => exact ⟨k + 1, by go_num, by omega, BZ, KZ⟩
      case measure => simp [intOf]; omega
    · obtain rfl : k = l.length := by omega
      rw [List.take_length] at BK
      go_wp2_with (refine (string_is w.heap.size w.heap.size _ _ BK.out HB.out.size).mono ?_)
      rintro _ w2 ⟨rfl, hb2⟩
      have KZ := Aid.hid (HB.out.trans hb2)
      clear hb2
      go_wp2_with fail
      go_ret
      exact ⟨rfl, KZ.out⟩
end Go.Proofs.YtoinghomkcjkcaaGreatDoor
/- lex.IsKey and layout.letters, as the evaluator answers them. -/
namespace Go.Proofs.YtoinghomkcjkcaaGreatDoor
set_option linter.unusedSimpArgs false
set_option linter.unusedVariables false
set_option linter.constructorNameAsVariable false
open Go Go.RowKit
open Ev
def Tp.isSv : V → Bool
  | .s _ => true
  | _ => false
def Tp.isIv : V → Bool
  | .i .i64 _ => true
  | _ => false
def Tp.litv : V → Option Int
  | .i .i64 (.lit n) => some n
  | _ => none
theorem Tp.isSv_ok {ν : Nat → Int} {ρ : Pl} {v : V} {u : Value} (h : Tp.isSv v = true) (hv : VR ν ρ v u) : ∃ s, u = .string s := by
  cases v <;> first | (cases h; done) | skip
  simp only [VR] at hv; obtain ⟨s, rfl, _⟩ := hv; exact ⟨s, rfl⟩
theorem Tp.isIv_ok {ν : Nat → Int} {ρ : Pl} {v : V} {u : Value} (h : Tp.isIv v = true) (hv : VR ν ρ v u) : ∃ n, u = .int .i64 n := by
  unfold Tp.isIv at h
  split at h
  · simp only [VR] at hv; exact ⟨_, hv⟩
  · cases h
theorem Tp.litv_ok {ν : Nat → Int} {ρ : Pl} {v : V} {u : Value} {n : Int} (h : Tp.litv v = some n) (hv : VR ν ρ v u) : u = .int .i64 n := by
  unfold Tp.litv at h
  split at h
  · obtain rfl := Option.some.inj h; simpa only [VR, zval] using hv
  · cases h
def Tp.vrZ (a b c d e f g i : V) : Option (List Z) := match Tp.litv b, Tp.litv d with
  | some k, some hi => bif (Tp.isSv a && Tp.isIv c) && (Tp.isSv e && Tp.isIv f) && (Tp.isIv g && Tp.isIv i) then some (List.replicate (Tp.room ⟨.empty, k, 0, hi, .empty, 0, 0, 0⟩) (Z.lit ((Tp.letter ⟨.empty, k, 0, hi, .empty, 0, 0, 0⟩).toNat : Int))) else none
  | some k, none => bif (Tp.isSv a && Tp.isIv c) && (Tp.isSv e && Tp.isIv f) && (Tp.isIv g && Tp.isIv i) && (Tp.isIv d && !(k == 4)) then some (List.replicate (Tp.room ⟨.empty, k, 0, 0, .empty, 0, 0, 0⟩) (Z.lit ((Tp.letter ⟨.empty, k, 0, 0, .empty, 0, 0, 0⟩).toNat : Int))) else none
  | _, _ => none
def Tp.ovGo : Nat → List V → Option (List Z)
  | 0, cs => match cs with
    | [] => some []
    | _ => none
  | n + 1, cs => match cs with
    | [] => some []
    | a :: b :: c :: d :: e :: f :: g :: i :: l => match Tp.vrZ a b c d e f g i, Tp.ovGo n l with
      | some x, some y => some (x ++ y)
      | _, _ => none
    | _ => none
theorem Tp.SR_app {ν : Nat → Int} : ∀ {a c : List Z} {b d : List UInt8}, SR ν a b → SR ν c d → SR ν (a ++ c) (b ++ d)
  | [], _, [], _, _, h => h
  | [], _, _ :: _, _, h, _ => h.elim
  | _ :: _, _, [], _, h, _ => h.elim
  | z :: a, _, x :: b, _, ⟨h1, h2⟩, h => ⟨h1, Tp.SR_app h2 h⟩
theorem Tp.SR_rep {ν : Nat → Int} (x : UInt8) : ∀ n, SR ν (List.replicate n (Z.lit (x.toNat : Int))) (List.replicate n x)
  | 0 => trivial
  | n + 1 => ⟨rfl, Tp.SR_rep x n⟩
theorem Tp.vrZ_ok {ν : Nat → Int} {ρ : Pl} {a b c d e f g i : V} {ua ub uc ud ue uf ug ui : Value} {zs : List Z} (h : Tp.vrZ a b c d e f g i = some zs)
    (ha : VR ν ρ a ua) (hb : VR ν ρ b ub) (hc : VR ν ρ c uc) (hd : VR ν ρ d ud) (he : VR ν ρ e ue) (hf : VR ν ρ f uf) (hg : VR ν ρ g ug) (hi : VR ν ρ i ui) :
    ∃ v : Tp.Vr, [ua, ub, uc, ud, ue, uf, ug, ui] = v.cells ∧ SR ν zs (List.replicate (Tp.room v) (Tp.letter v)) := by
  unfold Tp.vrZ at h
  split at h
  · rename_i k hi' e1 e2
    cases hx : ((Tp.isSv a && Tp.isIv c) && (Tp.isSv e && Tp.isIv f) && (Tp.isIv g && Tp.isIv i)) with
    | false => rw [hx] at h; cases h
    | true =>
      rw [hx] at h
      obtain rfl := Option.some.inj h
      simp only [Bool.and_eq_true] at hx
      obtain ⟨⟨⟨x1, x2⟩, x3, x4⟩, x5, x6⟩ := hx
      obtain ⟨s1, rfl⟩ := Tp.isSv_ok x1 ha
      obtain ⟨n2, rfl⟩ := Tp.isIv_ok x2 hc
      obtain ⟨s3, rfl⟩ := Tp.isSv_ok x3 he
      obtain ⟨n4, rfl⟩ := Tp.isIv_ok x4 hf
      obtain ⟨n5, rfl⟩ := Tp.isIv_ok x5 hg
      obtain ⟨n6, rfl⟩ := Tp.isIv_ok x6 hi
      obtain rfl := Tp.litv_ok e1 hb
      obtain rfl := Tp.litv_ok e2 hd
      exact ⟨⟨s1, k, n2, hi', s3, n4, n5, n6⟩, rfl, Tp.SR_rep _ _⟩
  · rename_i k e1 _
    cases hx : ((Tp.isSv a && Tp.isIv c) && (Tp.isSv e && Tp.isIv f) && (Tp.isIv g && Tp.isIv i) && (Tp.isIv d && !(k == 4))) with
    | false => rw [hx] at h; cases h
    | true =>
      rw [hx] at h
      obtain rfl := Option.some.inj h
      simp only [Bool.and_eq_true] at hx
      obtain ⟨⟨⟨⟨x1, x2⟩, x3, x4⟩, x5, x6⟩, x7, x8⟩ := hx
      obtain ⟨s1, rfl⟩ := Tp.isSv_ok x1 ha
      obtain ⟨n2, rfl⟩ := Tp.isIv_ok x2 hc
      obtain ⟨s3, rfl⟩ := Tp.isSv_ok x3 he
      obtain ⟨n4, rfl⟩ := Tp.isIv_ok x4 hf
      obtain ⟨n5, rfl⟩ := Tp.isIv_ok x5 hg
      obtain ⟨n6, rfl⟩ := Tp.isIv_ok x6 hi
      obtain ⟨n7, rfl⟩ := Tp.isIv_ok x7 hd
      obtain rfl := Tp.litv_ok e1 hb
      have hk : k ≠ 4 := by simpa using x8
      refine ⟨⟨s1, k, n2, n7, s3, n4, n5, n6⟩, rfl, ?_⟩
      have e3 : Tp.room ⟨s1, k, n2, n7, s3, n4, n5, n6⟩ = Tp.room ⟨.empty, k, 0, 0, .empty, 0, 0, 0⟩ := by unfold Tp.room; simp only [hk, if_false]
      rw [e3]
      exact Tp.SR_rep _ _
  · cases h
theorem Tp.ovGo_ok {ν : Nat → Int} {ρ : Pl} : ∀ {n : Nat} {cs : List V} {us : List Value} {zs : List Z}, VRs ν ρ cs us → Tp.ovGo n cs = some zs → ∃ l : List Tp.Vr, us = (l.map Tp.Vr.cells).flatten ∧ SR ν zs (Tp.lettersOf l) ∧ cs.length = l.length * 8 ∧ l.length ≤ n
  | 0, cs, us, zs, hr, h => by
    cases cs with
    | nil => obtain rfl := Option.some.inj (show some [] = some zs from h); simp only [VRs] at hr; exact ⟨[], by rw [hr]; rfl, trivial, rfl, Nat.le_refl _⟩
    | cons x l => cases (show none = some zs from h)
  | n + 1, cs, us, zs, hr, h => by
    unfold Tp.ovGo at h
    split at h
    · obtain rfl := Option.some.inj h; simp only [VRs] at hr; exact ⟨[], by rw [hr]; rfl, trivial, rfl, Nat.zero_le _⟩
    · rename_i a b c d e f g i l
      split at h
      · rename_i x y e1 e2
        obtain rfl := Option.some.inj h
        simp only [VRs] at hr
        obtain ⟨ua, _, rfl, ha, ub, _, rfl, hb, uc, _, rfl, hc, ud, _, rfl, hd, ue, _, rfl, he, uf, _, rfl, hf, ug, _, rfl, hg, ui, us, rfl, hi, hl⟩ := hr
        obtain ⟨v, h1, h2⟩ := Tp.vrZ_ok e1 ha hb hc hd he hf hg hi
        obtain ⟨vs, h3, h4, h5, h6⟩ := Tp.ovGo_ok hl e2
        refine ⟨v :: vs, ?_, ?_, ?_, ?_⟩
        · rw [List.map_cons, List.flatten_cons, ← h1, ← h3]; rfl
        · exact Tp.SR_app h2 h4
        · simp only [List.length_cons]; omega
        · simp only [List.length_cons]; omega
      · cases h
    · cases h
/-- A slice, as its cells lie. -/
theorem Tp.sl_any {ν : Nat → Int} {W : Bas} {ρ : Pl} {h : H} {w : World} (R : Rel ν W ρ h w) {v : V} {u : Value} (hv : VR ν ρ v u) {sz : Nat} {cs : List V} (hc : cellsOf h sz v = some cs) (hsz : 0 < sz) :
    ∃ A n c us, u = .slice A n c ∧ cs.length = n * sz ∧ VRs ν ρ cs us ∧ (cs ≠ [] → ∃ b o, A = some ⟨b, o, none⟩ ∧ b < w.heap.size ∧ ∀ (j : Nat) (x : Value), us[j]? = some x → w.cell? ⟨b, o + j, none⟩ = some x) := by
  by_cases hcs : cs = []
  · subst hcs
    have key : ∃ A c, u = .slice A 0 c := by
      cases v with
      | sl x off s n =>
        have hc' : bcase (Nat.beq s sz) none (cellsAt h x off (Nat.mul n sz)) = some [] := hc
        obtain ⟨hb, hc'⟩ := bcase_ne hc' (by simp)
        simp only [VR] at hv
        obtain ⟨b, c, m, cap, p, hx, rfl, hle, hp⟩ := hv
        obtain ⟨hl, _⟩ := cellsAt_some R hx hc'
        have hn : n = 0 := by
          have hl' : n * sz = 0 := hl.symm
          rcases Nat.mul_eq_zero.1 hl' with h0 | h0 <;> omega
        subst hn
        exact ⟨_, _, rfl⟩
      | s0 => simp only [VR] at hv; exact ⟨_, _, hv⟩
      | e x o => simp only [VR] at hv; obtain ⟨p, rfl⟩ := hv; exact ⟨_, _, rfl⟩
      | x => cases hc
      | b x => cases hc
      | i k n => cases hc
      | s l => cases hc
      | p0 => cases hc
      | p x o => cases hc
      | f0 => cases hc
      | f g a b => cases hc
      | n0 => cases hc
      | n t v => cases hc
      | g l => cases hc
      | u l => cases hc
      | m0 => cases hc
      | m x => cases hc
      | sy x z l => cases hc
    obtain ⟨A, c, rfl⟩ := key
    exact ⟨A, 0, c, [], rfl, by simp, by simp [VRs], fun h => absurd rfl h⟩
  · obtain ⟨b, o, n, c, us, h1, h2, h3, h4, h5, h6⟩ := Tp.sl_cells R hv hc hcs hsz
    exact ⟨_, n, c, us, h1, h2, h5, fun _ => ⟨b, o, rfl, h4, h6⟩⟩
noncomputable def Tp.ovLet (a : V) (h : H) : Option R1 := match cellsOf h 8 a with
  | some cs => match Tp.ovGo 1000 cs with
    | some zs => some (.ok (.s zs) h)
    | none => none
  | none => none
theorem enter_of {P : Program} {f : FuncId} {fn : Func} (hf : P.funcs[f]? = some fn) (hname : (fn.name == "runtime.NumGoroutine") = false) (hb : fn.body.isNone = false) (args : Array Value) (w : World) :
    (callFunc f args).run P w = .ok (.enter f args) w := by
  have h1 : fn.name ≠ "runtime.NumGoroutine" := by simpa using hname
  cases hbd : fn.body with
  | none => simp [hbd] at hb
  | some c => simp [callFunc, hf, h1, hbd]
theorem Tp.ovLet_ok {ν : Nat → Int} {W : Bas} {a : V} {h h' : H} {v : V} (hv : Tp.ovLet a h = some (.ok v h')) : Call1 Tryz.prog ν W 68 [a] h v h' := by
  unfold Tp.ovLet at hv
  split at hv
  · rename_i cs hc
    split at hv
    · rename_i zs hz
      injection hv with hv
      injection hv with e1 e2
      subst e1; subst e2
      refine call1_pure (fun args w => enter_of Tryz.func68 (by kernel_rfl) (by kernel_rfl) _ _) (fun ρ args w R ha => ?_)
      simp only [VRs] at ha
      obtain ⟨u, _, rfl, hu, rfl⟩ := ha
      obtain ⟨A, n, c, us, rfl, hlen, hr, hcell⟩ := Tp.sl_any R hu hc (by decide)
      obtain ⟨l, rfl, hs, hl8, hln⟩ := Tp.ovGo_ok hr hz
      have hn : n = l.length := by omega
      subst hn
      refine (letters_is l A c w.heap.size w (fun hp => ?_) (Nat.le_refl _) (by omega)).mono ?_
      · have hne : cs ≠ [] := by
          intro e
          rw [e] at hl8
          simp at hl8 hp
          omega
        obtain ⟨b, o, rfl, hb, hcl⟩ := hcell hne
        refine ⟨b, o, rfl, hb, fun i r hi j x hj => ?_⟩
        rw [Nat.add_assoc]
        exact hcl _ _ (Rows.flat _ (fun r hr => by obtain ⟨v, _, rfl⟩ := List.mem_map.1 hr; rfl) i r hi j x hj)
      · rintro e w' ⟨rfl, hb⟩
        exact ⟨_, rfl, by simp only [VR]; exact ⟨_, rfl, hs⟩, hb⟩
    · cases hv
  · cases hv
theorem Tp.lits_any {ν ν' : Nat → Int} {ρ ρ' : Pl} : ∀ (l : List V) (us : List Value), (l.all fun v => match v with | .i _ (.lit _) => true | _ => false) = true → VRs ν ρ l us → VRs ν' ρ' l us
  | [], us, _, h => by simpa only [VRs] using h
  | v :: l, us, ha, h => by
    simp only [List.all_cons, Bool.and_eq_true] at ha
    simp only [VRs] at h ⊢
    obtain ⟨u, us', rfl, h1, h2⟩ := h
    refine ⟨u, us', rfl, ?_, Tp.lits_any l us' ha.2 h2⟩
    have h0 := ha.1
    split at h0
    · simpa only [VR, zval] using h1
    · cases h0
theorem Tp.asc_below {w w' : World} (h : Tp.Asc w) (hb : Below w.heap.size w w') : Tp.Asc w' := by
  obtain ⟨cs, e, fz, h1, h2, h3⟩ := h
  exact ⟨cs, e, fz, (hb.block _ (Array.getElem?_eq_some_iff.1 h1).1).trans h1, h2, Tp.lits_any _ _ (by kernel_rfl) h3⟩
theorem Tp.ovKey_ok {ν : Nat → Int} {W : Bas} (hA : Tp.Asc W.w0) {a : V} {h h' : H} {v : V} (hv : Tp.ovKey a h = some (.ok v h')) : Call1 Tryz.prog ν W 436 [a] h v h' := by
  cases a with
  | s l =>
    have hv' : bcase (Tp.allLit l) none (bcase (Tp.inKeys l) (some (R1.ok (V.b false) h)) (some (R1.ok (V.b true) h))) = some (.ok v h') := hv
    obtain ⟨hal, hv'⟩ := bcase_ne hv' (by simp)
    have e : v = .b (Tp.inKeys l) ∧ h' = h := by
      cases hi : Tp.inKeys l with
      | false => rw [hi] at hv'; injection hv' with hv'; injection hv' with e1 e2; exact ⟨e1.symm, e2.symm⟩
      | true => rw [hi] at hv'; injection hv' with hv'; injection hv' with e1 e2; exact ⟨e1.symm, e2.symm⟩
    obtain ⟨rfl, rfl⟩ := e
    refine call1_pure (fun args w => enter_of Tryz.func436 (by kernel_rfl) (by kernel_rfl) _ _) (fun ρ args w R ha => ?_)
    simp only [VRs, VR] at ha
    obtain ⟨u, _, rfl, ⟨s, rfl, hs⟩, rfl⟩ := ha
    have hl := Tp.SR_lit hs hal
    refine (isKey_is s (Tp.keys.any fun t => t.toList == s.toList) w (Tp.asc_below hA R.below) rfl).mono ?_
    rintro e w' ⟨rfl, hb⟩
    refine ⟨_, rfl, ?_, hb⟩
    simp only [VR]
    have hk := Tp.inKeys_eq s
    rw [show Tp.toZ s = l from hl.symm] at hk
    rw [hk]
    congr 2
    funext t
    rw [ByteArray.toList_eq, ByteArray.toList_eq]
  | e x o => cases hv
  | s0 => cases hv
  | sl x o s n => cases hv
  | x => cases hv
  | b x => cases hv
  | i k n => cases hv
  | p0 => cases hv
  | p x o => cases hv
  | f0 => cases hv
  | f g a b => cases hv
  | n0 => cases hv
  | n t v => cases hv
  | g l => cases hv
  | u l => cases hv
  | m0 => cases hv
  | m x => cases hv
  | sy x z l => cases hv
end Go.Proofs.YtoinghomkcjkcaaGreatDoor
/- slices.Backward's iterator, as the evaluator asks for it. -/
namespace Go.Proofs.YtoinghomkcjkcaaGreatDoor
set_option linter.constructorNameAsVariable false
set_option linter.unusedVariables false
set_option linter.unusedSimpArgs false
open Go Go.RowKit Go.Shelf
attribute [local go_sem] Oper.semAt_some
set_option maxRecDepth 100000 in
set_option maxHeartbeats 2000000 in
theorem back_in (l Bs Co N cap : Nat) (A : Option Addr) (W : World) (J : Nat → World → Prop) (lN : N ≤ 1000000) (hS : W.cell? ⟨Bs, Co, none⟩ = some (.slice A N cap)) (h0 : J N W)
    (hr : ∀ i W', i < N → J (i + 1) W' → ∃ (b off M cap' : Nat) (x : Int), i < M ∧ M ≤ cap' ∧ W'.cell? ⟨Bs, Co, none⟩ = some (.slice (some ⟨b, off, none⟩) M cap') ∧ W'.cell? ⟨b, off + i, none⟩ = some (.int .i64 x) ∧
      YieldAt Fence.wide 7 Tryz.prog l #[.int .i64 (i : Int), .int .i64 x] W' fun e W2 => e = .returned (.bool true) ∧ J i W2) :
    CallsIn Fence.wide 8 Tryz.prog 367 #[.func (.yield l) #[] #[], .pointer (some ⟨Bs, Co, none⟩)] W fun e W' => (∃ v, e = .returned v) ∧ J 0 W' := by
  refine callsIn_of_wp Tryz.func367 rfl trivial ?_ rfl
  simp only [Tryz.ntmps367, List.size_toArray, List.length_cons, List.length_nil, Nat.reduceAdd, Nat.reduceSub, Array.replicate_succ, Array.replicate_zero, List.push_toArray, List.append_toArray, List.nil_append, List.cons_append]
  gi_wp2
  gi_loopw [3] (fun i wr => ∃ (k : Nat), k ≤ N ∧ i = .int .i64 ((k : Int) - 1) ∧ J k wr) (fun i _ => (intOf i + 1).toNat)
  case atStart => exact ⟨N, Nat.le_refl _, by first | rfl | (rw [wrap64_id] <;> omega), h0⟩
  case round =>
    obtain ⟨k, hk, rfl, hJs⟩ := hrel
    rcases k with _ | k
    · have t0 : decide ((0 : Int) ≤ ((0 : Nat) : Int) - 1) = false := by decide
      gi_wp2
      go_end0
      exact ⟨⟨_, rfl⟩, hJs⟩
    · have e1 : (((k + 1 : Nat) : Int) - 1) = (k : Int) := by omega
      rw [e1]
      have t0 : decide ((0 : Int) ≤ (k : Int)) = true := by simp
      obtain ⟨b, off, M, cap', x, hlt, hM, hS', hcx, hY⟩ := hr k wr (by omega) hJs
      obtain ⟨fn, tmps, assign, body, hy, hR⟩ := hY
      gi_wp2
      refine hR.mono ?_
      rintro e W3 ⟨rfl, hJ3⟩
      gi_wp2
      go_roundw
      case rel => exact ⟨k, by omega, by first | rfl | go_num, hJ3⟩
      case measure => simp [intOf]
theorem back_enter {P : Program} {f : FuncId} {fn : Func} (hf : P.funcs[f]? = some fn) (hname : (fn.name == "runtime.NumGoroutine") = false) (hb : fn.body.isNone = false) (args : Array Value) (w : World) :
    (callFunc f args).run P w = .ok (.enter f args) w := by
  have h1 : fn.name ≠ "runtime.NumGoroutine" := by simpa using hname
  cases hbd : fn.body with
  | none => simp [hbd] at hb
  | some c => simp [callFunc, hf, h1, hbd]
theorem back_it : Ev.BackIt Tryz.prog 367 :=
  ⟨fun args w => back_enter Tryz.func367 (by kernel_rfl) (by kernel_rfl) args w, fun l Bs Co N cap A W J lN hS h0 hr => back_in l Bs Co N cap A W J lN hS h0 hr⟩
end Go.Proofs.YtoinghomkcjkcaaGreatDoor
/- Top laws: what an evaluation says of the program. -/
namespace Go.Proofs.YtoinghomkcjkcaaGreatDoor
set_option linter.unusedSimpArgs false
set_option linter.unusedVariables false
set_option linter.constructorNameAsVariable false
open Go Go.RowKit
open Ev
noncomputable section
def tT : TT := ttX Tryz.prog Tp.bad
def t3a : CF3 := ((Tryz.prog.funcs[(144 : Nat)]?).bind (trF3 tT)).getD (.mk 0 (.bad 0) [])
def t3b : CF3 := ((Tryz.prog.funcs[(157 : Nat)]?).bind (trF3 tT)).getD (.mk 0 (.bad 0) [])
def tF : Fns := ⟨fnTa [(144, t3a), (157, t3b)], .lf, 367⟩
def tOne (f : V → Option R1) (xs : List V) : Option R1 := List.rec (motive := fun _ => Option R1) none (fun a l _ => List.rec (motive := fun _ => Option R1) (f a) (fun _ _ _ => none) l) xs
def tOv (g : Nat) (xs : List V) (h : H) : Option R1 := bcase (Nat.beq g 436) (bcase (Nat.beq g 68) none (tOne (fun a => Tp.ovLet a h) xs)) (tOne (fun a => Tp.ovKey a h) xs)
def tEn (path : List (Cd × Bool)) (norm : List (Z × Z)) : En := enT path norm (fnsOf Tryz.prog tT) tOv (mtsOf tT) [4]
def tEv (path : List (Cd × Bool)) (norm : List (Z × Z)) (g : Nat) (xs : List V) : R1 := gcall tF (tEn path norm) 100000 g xs (H0 [(4, Tp.asc)])
end
theorem isSome_getD {α : Type} {o : Option α} (d : α) (h : o.isSome = true) : o = some (o.getD d) := by cases o with
  | none => cases h
  | some x => rfl
theorem t3a_s : ((Tryz.prog.funcs[(144 : Nat)]?).bind (trF3 tT)).isSome = true := by kernel_rfl
theorem t3b_s : ((Tryz.prog.funcs[(157 : Nat)]?).bind (trF3 tT)).isSome = true := by kernel_rfl
theorem t3a_c : (Tryz.prog.funcs[(144 : Nat)]?).bind (trF3 tT) = some t3a := isSome_getD _ t3a_s
theorem t3b_c : (Tryz.prog.funcs[(157 : Nat)]?).bind (trF3 tT) = some t3b := isSome_getD _ t3b_s
theorem t3_ok : FnsOk Tryz.prog (trF3 tT) tF.f3 := fnTa_ok (codes_cons (c := t3a) rfl t3a_c (code_of (c := t3b) rfl t3b_c))
theorem t4_ok : FnsOk Tryz.prog (trF4 tT) tF.f4 := by intro g cf h; rw [show tF.f4 = Tr.lf from rfl, get_lf] at h; cases h
theorem tf_ok : FnsOk Tryz.prog (trF tT) (fnsOf Tryz.prog tT) := fun _ _ h => fnsOf_ok (by have := Nat.le_of_ble_eq_true ev_sf; omega) h
theorem tOne_some {f : V → Option R1} {xs : List V} {r : R1} (h : tOne f xs = some r) : ∃ a, xs = [a] ∧ f a = some r := by
  cases xs with
  | nil => cases h
  | cons a l => cases l with
    | nil => exact ⟨a, rfl, h⟩
    | cons b l => cases h
theorem tOv_ok {ν : Nat → Int} {W : Bas} (hA : Tp.Asc W.w0) {path : List (Cd × Bool)} {norm : List (Z × Z)} : OvOk Tryz.prog ν W (tEn path norm) := by
  intro g xs h v h' e
  have e' : bcase (Nat.beq g 436) (bcase (Nat.beq g 68) none (tOne (fun a => Tp.ovLet a h) xs)) (tOne (fun a => Tp.ovKey a h) xs) = some (.ok v h') := e
  cases h1 : Nat.beq g 436 with
  | true =>
    rw [h1] at e'
    obtain ⟨a, rfl, ha⟩ := tOne_some e'
    obtain rfl := Nat.eq_of_beq_eq_true h1
    exact Tp.ovKey_ok hA ha
  | false =>
    rw [h1] at e'
    cases h2 : Nat.beq g 68 with
    | true =>
      rw [h2] at e'
      obtain ⟨a, rfl, ha⟩ := tOne_some e'
      obtain rfl := Nat.eq_of_beq_eq_true h2
      exact Tp.ovLet_ok ha
    | false => rw [h2] at e'; cases e'
/-- An evaluation that ends in true. -/
theorem tp_true {ν : Nat → Int} (w : World) (hA : Tp.Asc w) {path : List (Cd × Bool)} {norm : List (Z × Z)} (hp : PathOk ν path) (hn : NormOk ν norm) {g : Nat} {xs : List V} {args : List Value} (hv : okv (tEv path norm g xs) = some (.b true)) (ha : VRs ν (pl0 w [4]) xs args) :
    Calls Tryz.prog g args.toArray w (fun e w' => e = .returned (.bool true) ∧ Below w.heap.size w w') := by
  obtain ⟨h', hv⟩ := okv_some hv
  have hl : ∀ p ∈ [((4 : Nat), Tp.asc)], p.1 < 1000 ∧ Listed ν (pl0 w ([((4 : Nat), Tp.asc)].map (·.1))) w p := by
    intro p hp
    obtain rfl := List.mem_singleton.1 hp
    obtain ⟨cs, e, fz, h1, h2, h3⟩ := hA
    exact ⟨by decide, cs, e, fz, h1, h2, Tp.lits_any _ _ (by kernel_rfl) h3⟩
  refine Calls.mono (evalgx_calls (P := Tryz.prog) (tt := tT) (ν := ν) (w := w) (fs := tF) ev_tt ev_mo hp hn (l := [(4, Tp.asc)]) tf_ok t3_ok t4_ok back_it (mtsOf_ok ev_tt) hl (tOv_ok hA) hv ha) (fun e w' he => ?_)
  obtain ⟨u, hu, ρ', hR, hvr⟩ := he
  simp only [VR] at hvr
  exact ⟨by rw [hu, hvr], hR.below⟩
end Go.Proofs.YtoinghomkcjkcaaGreatDoor
