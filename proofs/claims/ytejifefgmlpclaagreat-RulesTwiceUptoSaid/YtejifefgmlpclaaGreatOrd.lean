/- A region that draws its order, whose last operations (from number n on) come up in their own order behind all others, and may write what the others read: S holds as long as those others come up. The head is walked as Derived/OrdersHeld does (a load is taken first), the tail as it stands. -/
import Derived.StillTail
import Derived.OrdersHeld
import Derived.WalkKit
import Derived.Test.YtejifefgmlpclaaGreatAid
set_option linter.unusedSimpArgs false
set_option linter.unusedVariables false
namespace Go.Proofs.YtejifefgmlpclaaGreat.Ord
open Go

section
variable {P : Program} {ops : Array Oper} {Q : Exit → Act → World → Prop} {md : Region.Mode} {S : World → Prop} {n : Nat}

def wpHead (P : Program) (md : Region.Mode) (ops : Array Oper) (Q : Exit → Act → World → Prop) (S : World → Prop) (n : Nat) : Nat → Array Bool → Act → World → Prop
  | 0, listed, a, w => Region.seqB md ops (ops.size - n) n listed = true ∧ wpList P ops Q (ops.toList.drop n) a w
  | f + 1, listed, a, w =>
    Region.ready md ops listed ≠ [] ∧ ∀ i ∈ Region.ready md ops listed, i < n ∧ wpOp P ops Q i (fun a' w' => S w' ∧ wpHead P md ops Q S n f (listed.setIfInBounds i true) a' w') a w

theorem wpAny_of_wpHead : ∀ (f : Nat) (listed : Array Bool) (a : Act) (w : World), wpHead P md ops Q S n f listed a w → wpAny P md ops Q (f + (ops.size - n)) listed a w
  | 0, listed, a, w, h => by
    have := wpAny_of_seq (md := md) (Q' := Q) (ops.toList.drop n) n listed a w (fun j => by simp [List.getElem?_drop]) (by simpa using h.1) h.2
    simpa using this
  | f + 1, listed, a, w, h => by
    rw [show f + 1 + (ops.size - n) = (f + (ops.size - n)) + 1 by omega]
    exact ⟨fun h0 => absurd h0 h.1, fun i hi => wpOp_mono (fun a' w' h' => wpAny_of_wpHead f _ a' w' h'.2) (h.2 i hi).2⟩

theorem wpHead_first {i : Nat} {oi : Oper} {v : Value} (hi : ops[i]? = some oi) (hsel : ∀ (j : Nat) (o : Oper) cs b, ops[j]? = some o → o.op ≠ .select cs b)
    (hs : Region.sinkB md ops n = true) (hc : Region.chainB md ops n = true) (hn : n < ops.size) (hin : i < n)
    (hQ : ∀ c a w, Q (.panic c) (a.put oi.dst v) w → Q (.panic c) a w) :
    ∀ (f : Nat) (listed : Array Bool) (a : Act) (w : World), HeadInv md ops n listed →
      (∀ j oj, ops[j]? = some oj → j ≠ i → listed.getD j true = false → (∀ e ∈ oj.after, Region.binds md e = true → e.on ≠ i) → oi.apart ops oj = true) →
      i ∈ Region.ready md ops listed → YieldsIf P ops S oi v a → S w →
      wpHead P md ops Q S n f (listed.setIfInBounds i true) (a.put oi.dst v) w → wpHead P md ops Q S n (f + 1) listed a w := by
  intro f
  induction f with
  | zero =>
    intro listed a w inv _ hr hy hS H
    have hun := (mem_ready.1 hr).1
    refine ⟨fun h => (by rw [h] at hr; cases hr), fun j hj => ?_⟩
    have hjn : j < n := by
      rcases Nat.lt_or_ge j n with h | h
      · exact h
      · exact absurd hj (tail_waits hs hc hn inv _ i rfl hin hun j h)
    refine ⟨hjn, ?_⟩
    by_cases hji : j = i
    · subst hji; exact hy.wpOp hi hS ⟨hS, H⟩
    · have := seqB_ready H.1 j (ready_mono hj hji)
      omega
  | succ f ih =>
    intro listed a w inv hfree hr hy hS H
    have hun := (mem_ready.1 hr).1
    refine ⟨fun h => (by rw [h] at hr; cases hr), fun j hj => ?_⟩
    have hjn : j < n := by
      rcases Nat.lt_or_ge j n with h | h
      · exact h
      · exact absurd hj (tail_waits hs hc hn inv _ i rfl hin hun j h)
    refine ⟨hjn, ?_⟩
    by_cases hji : j = i
    · subst hji; exact hy.wpOp hi hS ⟨hS, H⟩
    · have h1 := (H.2 j (ready_mono hj hji)).2
      obtain ⟨hjun, oj, hoj, hall⟩ := mem_ready.1 hj
      have hnot : ∀ e ∈ oj.after, Region.binds md e = true → e.on ≠ i := fun e he hb heq => by
        have h1 := hall e he hb
        rw [heq, getD_both hun] at h1
        cases h1
      have h2 := wpOp_putIf hoj (hfree j oj hoj hji hjun hnot) (fun cs b => hsel i oi cs b hi) (fun cs b => hsel j oj cs b hoj) hQ hy h1
      have hfree' : ∀ k ok, ops[k]? = some ok → k ≠ i → (listed.setIfInBounds j true).getD k true = false →
          (∀ e ∈ ok.after, Region.binds md e = true → e.on ≠ i) → oi.apart ops ok = true := fun k ok hk hki hun hno => by
        refine hfree k ok hk hki ?_ hno
        by_cases hjk : j = k
        · subst hjk; exact hjun
        · rw [getD_set_ne true hjk] at hun; exact hun
      refine wpOp_mono (fun a' w' h3 => ⟨h3.2.1, ih (listed.setIfInBounds j true) a' w' (inv.set hj hjn) hfree' (ready_mono hr (Ne.symm hji)) h3.1 h3.2.1 ?_⟩) h2
      rw [Array.setIfInBounds_comm _ _ hji]
      exact h3.2.2

/-! The side conditions of the whole walk, reckoned once; the state: what is listed so far. -/
/-- All that is asked of the region itself, and of the order in which its head is walked ('lights' are taken first; a heavy one comes up alone). -/
def walkB (md : Region.Mode) (ops : Array Oper) (n : Nat) : List (Bool × Nat) → Array Bool → Bool
  | [], listed => Region.seqB md ops (ops.size - n) n listed
  | (light, i) :: rest, listed => decide (i < n) && (Region.ready md ops listed).contains i &&
      (if light then Region.free md ops listed i else decide (Region.ready md ops listed = [i])) && walkB md ops n rest (listed.setIfInBounds i true)

/-- The walk in that order, as it is to be shown: a light operation yields its value in every world that meets S; behind a heavy one S is shown anew. -/
def wpWalk (P : Program) (ops : Array Oper) (Q : Exit → Act → World → Prop) (S : World → Prop) (n : Nat) : List (Bool × Nat) → Act → World → Prop
  | [], a, w => wpList P ops Q (ops.toList.drop n) a w
  | (true, i) :: rest, a, w => ∀ oi, ops[i]? = some oi → ∃ v, YieldsIf P ops S oi v a ∧ wpWalk P ops Q S n rest (a.put oi.dst v) w
  | (false, i) :: rest, a, w => wpOp P ops Q i (fun a' w' => S w' ∧ wpWalk P ops Q S n rest a' w') a w

theorem wpHead_of_walk (hQ : ∀ c (a : Act) d v w, Q (.panic c) (a.put d v) w → Q (.panic c) a w) (hsel : Region.noSelect ops = true) (hs : Region.sinkB md ops n = true) (hc : Region.chainB md ops n = true) (hn : n < ops.size) :
    ∀ (l : List (Bool × Nat)) (listed : Array Bool) (a : Act) (w : World), HeadInv md ops n listed → walkB md ops n l listed = true → S w → wpWalk P ops Q S n l a w → wpHead P md ops Q S n l.length listed a w
  | [], listed, a, w, _, hB, _, h => ⟨hB, h⟩
  | (true, i) :: rest, listed, a, w, inv, hB, hS, h => by
    simp only [walkB, Bool.and_eq_true, if_true, decide_eq_true_eq] at hB
    obtain ⟨⟨⟨hin, hr⟩, hf⟩, hB'⟩ := hB
    have hr' : i ∈ Region.ready md ops listed := by simpa using hr
    obtain ⟨_, oi, hoi, _⟩ := mem_ready.1 hr'
    obtain ⟨v, hy, hK⟩ := h oi hoi
    exact wpHead_first hoi (Region.noSelect_spec hsel) hs hc hn hin (fun c a w h => hQ c a _ _ w h) rest.length listed a w inv (Region.free_spec hoi hf) hr' hy hS
      (wpHead_of_walk hQ hsel hs hc hn rest _ _ _ (inv.set hr' hin) hB' hS hK)
  | (false, i) :: rest, listed, a, w, inv, hB, _, h => by
    simp only [walkB, Bool.and_eq_true, Bool.false_eq_true, if_false, decide_eq_true_eq] at hB
    obtain ⟨⟨⟨hin, hr⟩, hone⟩, hB'⟩ := hB
    have hr' : i ∈ Region.ready md ops listed := by simpa using hr
    refine ⟨by rw [hone]; simp, fun j hj => ?_⟩
    rw [hone] at hj
    have hji : j = i := by simpa using hj
    subst hji
    exact ⟨hin, wpOp_mono (fun a' w' h' => ⟨h'.1, wpHead_of_walk hQ hsel hs hc hn rest _ a' w' (inv.set hr' hin) hB' h'.1 h'.2⟩) h⟩

/-- All of the region's own conditions. -/
def regionB (ops : Array Oper) (n : Nat) (l : List (Bool × Nat)) : Bool :=
  Region.noSelect ops && decide (n < ops.size) && Region.sinkB .any ops n && Region.chainB .any ops n && decide (l.length = n) && walkB .any ops n l (Array.replicate ops.size false)

theorem wp_region_walk {id : Nat} {a : Act} {w : World} (S : World → Prop) (n : Nat) (l : List (Bool × Nat)) (hm : P.follows .mixedOrders = true) (hB : regionB ops n l = true) (hQ : ∀ c (a : Act) d v w, Q (.panic c) (a.put d v) w → Q (.panic c) a w) (hS : S w.drew)
    (h : wpWalk P ops Q S n l a w.drew) : (Code.region id ops true).wp P Q a w := by
  simp only [regionB, Bool.and_eq_true, decide_eq_true_eq] at hB
  obtain ⟨⟨⟨⟨⟨hsel, hn⟩, hs⟩, hc⟩, hl⟩, hw⟩ := hB
  have inv0 : HeadInv .any ops n (Array.replicate ops.size false) :=
    ⟨by simp, fun j oj _ hl => (by rw [getD_replicate_false] at hl; cases hl), fun t _ ht => getD_in (by simpa using ht) (getD_replicate_false _ _)⟩
  have H := wpAny_of_wpHead _ _ _ _ (wpHead_of_walk (md := .any) hQ hsel hs hc hn l _ a w.drew inv0 hw hS h)
  rw [hl, show n + (ops.size - n) = ops.size by omega] at H
  exact wp_region_any hm H

/-! The steps of the walk. -/
theorem walk_light {i : Nat} {rest : List (Bool × Nat)} {a : Act} {w : World} {oi : Oper} {v : Value} (hi : ops[i]? = some oi) (hw : Region.wanted oi (yielded ops a.tmps) = true)
    (hy : ∀ w, S w → (execOp a.eval oi).run P w = .ok (.value v) w) (h : wpWalk P ops Q S n rest (a.put oi.dst v) w) : wpWalk P ops Q S n ((true, i) :: rest) a w :=
  fun oi' h' => by rw [hi] at h'; obtain rfl := Option.some.inj h'; exact ⟨v, .inl ⟨hw, hy⟩, h⟩
theorem walk_idle {i : Nat} {rest : List (Bool × Nat)} {a : Act} {w : World} {oi : Oper} (hi : ops[i]? = some oi) (hw : Region.wanted oi (yielded ops a.tmps) = false)
    (h : wpWalk P ops Q S n rest (a.put oi.dst undef) w) : wpWalk P ops Q S n ((true, i) :: rest) a w :=
  fun oi' h' => by rw [hi] at h'; obtain rfl := Option.some.inj h'; exact ⟨undef, .inr ⟨hw, rfl⟩, h⟩
theorem walk_heavy {i : Nat} {rest : List (Bool × Nat)} {a : Act} {w : World} {oi : Oper} (hi : ops[i]? = some oi) (hw : Region.wanted oi (yielded ops a.tmps) = true)
    (h : ∀ K : Act → World → Prop, Aid.Kept (∀ a w, S w → (S w → wpWalk P ops Q S n rest a w) → K a w) → Oper.wp P oi a w K Q) :
    wpWalk P ops Q S n ((false, i) :: rest) a w := by
  show wpOp P ops Q i _ a w
  exact wpOp_step hi (fun K hK => by rw [if_pos hw]; exact h K (fun a w hS hW => hK a w ⟨hS, hW hS⟩))
theorem walk_rest {i : Nat} {rest : List (Bool × Nat)} {a : Act} {w : World} {oi : Oper} (hi : ops[i]? = some oi) (hw : Region.wanted oi (yielded ops a.tmps) = false)
    (hS : S w) (h : wpWalk P ops Q S n rest (a.put oi.dst undef) w) :
    wpWalk P ops Q S n ((false, i) :: rest) a w := by
  show wpOp P ops Q i _ a w
  exact wpOp_step hi (fun K hK => by rw [if_neg (by simp [hw])]; exact hK _ _ ⟨hS, h⟩)
theorem walk_tail {a : Act} {w : World} (h : wpList P ops Q (ops.toList.drop n) a w) : wpWalk P ops Q S n [] a w := h

/-! The same where several heavy operations may come up: the light ones (in the list 'lights', the first one first) are taken first, then whichever comes up. -/
def pick (md : Region.Mode) (ops : Array Oper) (lights : List Nat) (listed : Array Bool) : Option Nat :=
  lights.find? fun i => (Region.ready md ops listed).contains i && Region.free md ops listed i

def goB (md : Region.Mode) (ops : Array Oper) (n : Nat) (lights : List Nat) : Nat → Array Bool → Bool
  | 0, listed => Region.seqB md ops (ops.size - n) n listed
  | f + 1, listed => match pick md ops lights listed with
    | some i => decide (i < n) && goB md ops n lights f (listed.setIfInBounds i true)
    | none => !(Region.ready md ops listed).isEmpty && (Region.ready md ops listed).all fun i => decide (i < n) && goB md ops n lights f (listed.setIfInBounds i true)

def wpGo (P : Program) (md : Region.Mode) (ops : Array Oper) (Q : Exit → Act → World → Prop) (S : World → Prop) (n : Nat) (lights : List Nat) : Nat → Array Bool → Act → World → Prop
  | 0, _, a, w => wpList P ops Q (ops.toList.drop n) a w
  | f + 1, listed, a, w => match pick md ops lights listed with
    | some i => ∀ oi, ops[i]? = some oi → ∃ v, YieldsIf P ops S oi v a ∧ wpGo P md ops Q S n lights f (listed.setIfInBounds i true) (a.put oi.dst v) w
    | none => ∀ i ∈ Region.ready md ops listed, wpOp P ops Q i (fun a' w' => S w' ∧ wpGo P md ops Q S n lights f (listed.setIfInBounds i true) a' w') a w

theorem wpHead_of_go {lights : List Nat} (hQ : ∀ c (a : Act) d v w, Q (.panic c) (a.put d v) w → Q (.panic c) a w) (hsel : Region.noSelect ops = true) (hs : Region.sinkB md ops n = true) (hc : Region.chainB md ops n = true) (hn : n < ops.size) :
    ∀ (f : Nat) (listed : Array Bool) (a : Act) (w : World), HeadInv md ops n listed → goB md ops n lights f listed = true → S w → wpGo P md ops Q S n lights f listed a w → wpHead P md ops Q S n f listed a w
  | 0, listed, a, w, _, hB, _, h => ⟨hB, h⟩
  | f + 1, listed, a, w, inv, hB, hS, h => by
    cases hp : pick md ops lights listed with
    | some i =>
      simp only [goB, hp, Bool.and_eq_true, decide_eq_true_eq] at hB
      obtain ⟨hin, hB'⟩ := hB
      have h1 := List.find?_some hp
      simp only [Bool.and_eq_true] at h1
      have hr' : i ∈ Region.ready md ops listed := by simpa using h1.1
      obtain ⟨_, oi, hoi, _⟩ := mem_ready.1 hr'
      simp only [wpGo, hp] at h
      obtain ⟨v, hy, hK⟩ := h oi hoi
      exact wpHead_first hoi (Region.noSelect_spec hsel) hs hc hn hin (fun c a w h => hQ c a _ _ w h) f listed a w inv (Region.free_spec hoi h1.2) hr' hy hS
        (wpHead_of_go hQ hsel hs hc hn f _ _ _ (inv.set hr' hin) hB' hS hK)
    | none =>
      simp only [goB, hp, Bool.and_eq_true, Bool.not_eq_true', List.all_eq_true, decide_eq_true_eq] at hB
      obtain ⟨hne, hall⟩ := hB
      simp only [wpGo, hp] at h
      refine ⟨fun h0 => by rw [h0] at hne; simp at hne, fun i hi => ?_⟩
      obtain ⟨hin, hB'⟩ := hall i hi
      exact ⟨hin, wpOp_mono (fun a' w' h' => ⟨h'.1, wpHead_of_go hQ hsel hs hc hn f _ a' w' (inv.set hi hin) hB' h'.1 h'.2⟩) (h i hi)⟩

def regionGoB (ops : Array Oper) (n : Nat) (lights : List Nat) : Bool :=
  Region.noSelect ops && decide (n < ops.size) && Region.sinkB .any ops n && Region.chainB .any ops n && goB .any ops n lights n (Array.replicate ops.size false)

theorem wp_region_go {id : Nat} {a : Act} {w : World} (S : World → Prop) (n : Nat) (lights : List Nat) (hm : P.follows .mixedOrders = true) (hB : regionGoB ops n lights = true) (hQ : ∀ c (a : Act) d v w, Q (.panic c) (a.put d v) w → Q (.panic c) a w) (hS : S w.drew)
    (h : wpGo P .any ops Q S n lights n (Array.replicate ops.size false) a w.drew) : (Code.region id ops true).wp P Q a w := by
  simp only [regionGoB, Bool.and_eq_true, decide_eq_true_eq] at hB
  obtain ⟨⟨⟨⟨hsel, hn⟩, hs⟩, hc⟩, hw⟩ := hB
  have inv0 : HeadInv .any ops n (Array.replicate ops.size false) :=
    ⟨by simp, fun j oj _ hl => (by rw [getD_replicate_false] at hl; cases hl), fun t _ ht => getD_in (by simpa using ht) (getD_replicate_false _ _)⟩
  have H := wpAny_of_wpHead _ _ _ _ (wpHead_of_go (md := .any) hQ hsel hs hc hn n _ a w.drew inv0 hw hS h)
  rw [show n + (ops.size - n) = ops.size by omega] at H
  exact wp_region_any hm H

variable {lights : List Nat} {f : Nat} {listed : Array Bool}
theorem go_light {i : Nat} {a : Act} {w : World} {oi : Oper} {v : Value} (hp : pick md ops lights listed = some i) (hi : ops[i]? = some oi) (hw : Region.wanted oi (yielded ops a.tmps) = true)
    (hy : ∀ w, S w → (execOp a.eval oi).run P w = .ok (.value v) w) (h : wpGo P md ops Q S n lights f (listed.setIfInBounds i true) (a.put oi.dst v) w) : wpGo P md ops Q S n lights (f + 1) listed a w := by
  simp only [wpGo, hp]
  exact fun oi' h' => by rw [hi] at h'; obtain rfl := Option.some.inj h'; exact ⟨v, .inl ⟨hw, hy⟩, h⟩
theorem go_idle {i : Nat} {a : Act} {w : World} {oi : Oper} (hp : pick md ops lights listed = some i) (hi : ops[i]? = some oi) (hw : Region.wanted oi (yielded ops a.tmps) = false)
    (h : wpGo P md ops Q S n lights f (listed.setIfInBounds i true) (a.put oi.dst undef) w) : wpGo P md ops Q S n lights (f + 1) listed a w := by
  simp only [wpGo, hp]
  exact fun oi' h' => by rw [hi] at h'; obtain rfl := Option.some.inj h'; exact ⟨undef, .inr ⟨hw, rfl⟩, h⟩
/-- One heavy operation, done. -/
def Done1 (P : Program) (md : Region.Mode) (ops : Array Oper) (Q : Exit → Act → World → Prop) (S : World → Prop) (n : Nat) (lights : List Nat) (f : Nat) (listed : Array Bool) (i : Nat) (a : Act) (w : World) : Prop :=
  wpOp P ops Q i (fun a' w' => S w' ∧ wpGo P md ops Q S n lights f (listed.setIfInBounds i true) a' w') a w
theorem go_done1 {i : Nat} {a : Act} {w : World} {oi : Oper} (hi : ops[i]? = some oi) (hw : Region.wanted oi (yielded ops a.tmps) = true)
    (h : ∀ K : Act → World → Prop, Aid.Kept (∀ a w, S w → (S w → wpGo P md ops Q S n lights f (listed.setIfInBounds i true) a w) → K a w) → Oper.wp P oi a w K Q) :
    Done1 P md ops Q S n lights f listed i a w :=
  wpOp_step hi (fun K hK => by rw [if_pos hw]; exact h K (fun a w hS hW => hK a w ⟨hS, hW hS⟩))
theorem go_one {i : Nat} {a : Act} {w : World} (hp : pick md ops lights listed = none) (hr : Region.ready md ops listed = [i])
    (h : Done1 P md ops Q S n lights f listed i a w) : wpGo P md ops Q S n lights (f + 1) listed a w := by
  simp only [wpGo, hp, hr]
  intro x hx
  obtain rfl : x = i := by simpa using hx
  exact h
theorem go_two {i j : Nat} {a : Act} {w : World} (hp : pick md ops lights listed = none) (hr : Region.ready md ops listed = [i, j])
    (h : Done1 P md ops Q S n lights f listed i a w) (h' : Done1 P md ops Q S n lights f listed j a w) : wpGo P md ops Q S n lights (f + 1) listed a w := by
  simp only [wpGo, hp, hr]
  intro x hx
  have : x = i ∨ x = j := by simpa using hx
  rcases this with rfl | rfl
  · exact h
  · exact h'
theorem go_three {i j k : Nat} {a : Act} {w : World} (hp : pick md ops lights listed = none) (hr : Region.ready md ops listed = [i, j, k])
    (h : Done1 P md ops Q S n lights f listed i a w) (h' : Done1 P md ops Q S n lights f listed j a w) (h'' : Done1 P md ops Q S n lights f listed k a w) : wpGo P md ops Q S n lights (f + 1) listed a w := by
  simp only [wpGo, hp, hr]
  intro x hx
  have : x = i ∨ x = j ∨ x = k := by simpa using hx
  rcases this with rfl | rfl | rfl
  · exact h
  · exact h'
  · exact h''
theorem go_tail {a : Act} {w : World} (h : wpList P ops Q (ops.toList.drop n) a w) : wpGo P md ops Q S n lights 0 listed a w := h
end
end Go.Proofs.YtejifefgmlpclaaGreat.Ord
/- A region that draws its order, walked whole (no operation waits for all others): as Ord. -/
namespace Go.Proofs.YtejifefgmlpclaaGreat.Ord
open Go

section
variable {P : Program} {ops : Array Oper} {Q : Exit → Act → World → Prop} {md : Region.Mode} {S : World → Prop} {n : Nat}

theorem wpHead_first_all {i : Nat} {oi : Oper} {v : Value} (hi : ops[i]? = some oi) (hsel : ∀ (j : Nat) (o : Oper) cs b, ops[j]? = some o → o.op ≠ .select cs b)
    (hn : n = ops.size) (hin : i < n)
    (hQ : ∀ c a w, Q (.panic c) (a.put oi.dst v) w → Q (.panic c) a w) :
    ∀ (f : Nat) (listed : Array Bool) (a : Act) (w : World), HeadInv md ops n listed →
      (∀ j oj, ops[j]? = some oj → j ≠ i → listed.getD j true = false → (∀ e ∈ oj.after, Region.binds md e = true → e.on ≠ i) → oi.apart ops oj = true) →
      i ∈ Region.ready md ops listed → YieldsIf P ops S oi v a → S w →
      wpHead P md ops Q S n f (listed.setIfInBounds i true) (a.put oi.dst v) w → wpHead P md ops Q S n (f + 1) listed a w := by
  intro f
  induction f with
  | zero =>
    intro listed a w inv _ hr hy hS H
    have hun := (mem_ready.1 hr).1
    refine ⟨fun h => (by rw [h] at hr; cases hr), fun j hj => ?_⟩
    have hjn : j < n := by
      obtain ⟨_, oj, hoj, _⟩ := mem_ready.1 hj
      rw [hn]; exact (Array.getElem?_eq_some_iff.1 hoj).1
    refine ⟨hjn, ?_⟩
    by_cases hji : j = i
    · subst hji; exact hy.wpOp hi hS ⟨hS, H⟩
    · have := seqB_ready H.1 j (ready_mono hj hji)
      omega
  | succ f ih =>
    intro listed a w inv hfree hr hy hS H
    have hun := (mem_ready.1 hr).1
    refine ⟨fun h => (by rw [h] at hr; cases hr), fun j hj => ?_⟩
    have hjn : j < n := by
      obtain ⟨_, oj, hoj, _⟩ := mem_ready.1 hj
      rw [hn]; exact (Array.getElem?_eq_some_iff.1 hoj).1
    refine ⟨hjn, ?_⟩
    by_cases hji : j = i
    · subst hji; exact hy.wpOp hi hS ⟨hS, H⟩
    · have h1 := (H.2 j (ready_mono hj hji)).2
      obtain ⟨hjun, oj, hoj, hall⟩ := mem_ready.1 hj
      have hnot : ∀ e ∈ oj.after, Region.binds md e = true → e.on ≠ i := fun e he hb heq => by
        have h1 := hall e he hb
        rw [heq, getD_both hun] at h1
        cases h1
      have h2 := wpOp_putIf hoj (hfree j oj hoj hji hjun hnot) (fun cs b => hsel i oi cs b hi) (fun cs b => hsel j oj cs b hoj) hQ hy h1
      have hfree' : ∀ k ok, ops[k]? = some ok → k ≠ i → (listed.setIfInBounds j true).getD k true = false →
          (∀ e ∈ ok.after, Region.binds md e = true → e.on ≠ i) → oi.apart ops ok = true := fun k ok hk hki hun hno => by
        refine hfree k ok hk hki ?_ hno
        by_cases hjk : j = k
        · subst hjk; exact hjun
        · rw [getD_set_ne true hjk] at hun; exact hun
      refine wpOp_mono (fun a' w' h3 => ⟨h3.2.1, ih (listed.setIfInBounds j true) a' w' (inv.set hj hjn) hfree' (ready_mono hr (Ne.symm hji)) h3.1 h3.2.1 ?_⟩) h2
      rw [Array.setIfInBounds_comm _ _ hji]
      exact h3.2.2

theorem wpHead_of_walk_all (hQ : ∀ c (a : Act) d v w, Q (.panic c) (a.put d v) w → Q (.panic c) a w) (hsel : Region.noSelect ops = true) (hn : n = ops.size) :
    ∀ (l : List (Bool × Nat)) (listed : Array Bool) (a : Act) (w : World), HeadInv md ops n listed → walkB md ops n l listed = true → S w → wpWalk P ops Q S n l a w → wpHead P md ops Q S n l.length listed a w
  | [], listed, a, w, _, hB, _, h => ⟨hB, h⟩
  | (true, i) :: rest, listed, a, w, inv, hB, hS, h => by
    simp only [walkB, Bool.and_eq_true, if_true, decide_eq_true_eq] at hB
    obtain ⟨⟨⟨hin, hr⟩, hf⟩, hB'⟩ := hB
    have hr' : i ∈ Region.ready md ops listed := by simpa using hr
    obtain ⟨_, oi, hoi, _⟩ := mem_ready.1 hr'
    obtain ⟨v, hy, hK⟩ := h oi hoi
    exact wpHead_first_all hoi (Region.noSelect_spec hsel) hn hin (fun c a w h => hQ c a _ _ w h) rest.length listed a w inv (Region.free_spec hoi hf) hr' hy hS
      (wpHead_of_walk_all hQ hsel hn rest _ _ _ (inv.set hr' hin) hB' hS hK)
  | (false, i) :: rest, listed, a, w, inv, hB, _, h => by
    simp only [walkB, Bool.and_eq_true, Bool.false_eq_true, if_false, decide_eq_true_eq] at hB
    obtain ⟨⟨⟨hin, hr⟩, hone⟩, hB'⟩ := hB
    have hr' : i ∈ Region.ready md ops listed := by simpa using hr
    refine ⟨by rw [hone]; simp, fun j hj => ?_⟩
    rw [hone] at hj
    have hji : j = i := by simpa using hj
    subst hji
    exact ⟨hin, wpOp_mono (fun a' w' h' => ⟨h'.1, wpHead_of_walk_all hQ hsel hn rest _ a' w' (inv.set hr' hin) hB' h'.1 h'.2⟩) h⟩


def regionAllB (ops : Array Oper) (n : Nat) (l : List (Bool × Nat)) : Bool :=
  Region.noSelect ops && decide (n = ops.size) && decide (l.length = n) && walkB .any ops n l (Array.replicate ops.size false)
theorem wp_region_all {id : Nat} {a : Act} {w : World} (S : World → Prop) (n : Nat) (l : List (Bool × Nat)) (hm : P.follows .mixedOrders = true) (hB : regionAllB ops n l = true) (hQ : ∀ c (a : Act) d v w, Q (.panic c) (a.put d v) w → Q (.panic c) a w) (hS : S w.drew)
    (h : wpWalk P ops Q S n l a w.drew) : (Code.region id ops true).wp P Q a w := by
  simp only [regionAllB, Bool.and_eq_true, decide_eq_true_eq] at hB
  obtain ⟨⟨⟨hsel, hn⟩, hl⟩, hw⟩ := hB
  have inv0 : HeadInv .any ops n (Array.replicate ops.size false) :=
    ⟨by simp, fun j oj _ hl => (by rw [getD_replicate_false] at hl; cases hl), fun t _ ht => getD_in (by simpa using ht) (getD_replicate_false _ _)⟩
  have H := wpAny_of_wpHead _ _ _ _ (wpHead_of_walk_all (md := .any) hQ hsel hn l _ a w.drew inv0 hw hS h)
  rw [hl, show n + (ops.size - n) = ops.size by omega] at H
  exact wp_region_any hm H
end
end Go.Proofs.YtejifefgmlpclaaGreat.Ord
