/- Chain, as a walk. -/
import Derived.Test.YtblkcgbifecemaaDoorErrAwake
import Derived.Test.YtblkcgbifecemaaDoorWrongs
import Derived.Test.YtblkcgbifecemaaDoorOrd
namespace Go.Proofs.YtblkcgbifecemaaDoor
open Go.RowKit Go.Extern.Stop Go.Stop Go.Extern

/-- Codes and places of package diag's errors, the outermost first. -/
def Er.chain : Er → List (Int × Int)
  | .own _ c a s => (c, a) :: s.chain
  | .other s => s.chain
  | _ => []
theorem Er.chain_none {E : Er} (h : E.first = none) : E.chain = [] := by
  induction E with
  | nil => rfl
  | own b c a s ih => cases h
  | other s ih => exact ih h
  | es b s => rfl
theorem Er.chain_some {E : Er} {b : Nat} {c a : Int} {s : Er} (h : E.first = some (b, c, a, s)) : E.chain = (c, a) :: s.chain ∧ s.deep < E.deep := by
  induction E with
  | nil => cases h
  | own b' c' a' s' ih =>
    unfold Er.first at h
    simp only [Option.some.injEq, Prod.mk.injEq] at h
    obtain ⟨rfl, rfl, rfl, rfl⟩ := h
    exact ⟨rfl, by simp [Er.deep]⟩
  | other s' ih =>
    obtain ⟨h1, h2⟩ := ih h
    exact ⟨h1, by simp [Er.deep]; omega⟩
  | es b s => cases h

abbrev Er.One := Nat × Int × Int × Er
def Er.ptr (q : Er.One) : Addr := ⟨q.1, 0, none⟩
def Er.rest : Option Er.One → List (Int × Int)
  | none => []
  | some q => (q.2.1, q.2.2.1) :: q.2.2.2.chain
def Er.left : Option Er.One → Nat
  | none => 0
  | some q => q.2.2.2.deep + 1
def Er.oneAt (w : World) : Option Er.One → Prop
  | none => True
  | some q => (Er.own q.1 q.2.1 q.2.2.1 q.2.2.2).At w
theorem Er.rest_first (E : Er) : E.chain = Er.rest E.first := by
  cases h : E.first with
  | none => exact Er.chain_none h
  | some q => obtain ⟨b, c, a, s⟩ := q; exact (Er.chain_some h).1
theorem Er.left_first (E : Er) : Er.left E.first ≤ E.deep := by
  cases h : E.first with
  | none => exact Nat.zero_le _
  | some q => obtain ⟨b, c, a, s⟩ := q; exact (Er.chain_some h).2
theorem Er.oneAt_first {E : Er} {w : World} (h : E.At w) : Er.oneAt w E.first := by
  cases hf : E.first with
  | none => trivial
  | some q => obtain ⟨b, c, a, s⟩ := q; exact Er.first_at h hf
theorem first_is (E : Er) (o : Option Er.One) (w : World) (ho : E.first = o) (hg : Door w) (hE : E.At w) :
    Calls Tryd.prog 25 #[E.v] w fun e w' => e = .returned (.tuple #[.pointer (o.map Er.ptr), .bool o.isSome]) ∧ Below w.heap.size w w' := by
  cases o with
  | none => exact first_none E w ho hg hE
  | some q => obtain ⟨b, c, a, s⟩ := q; exact first_some E b c a s w ho hg hE

set_option maxRecDepth 100000 in
set_option maxHeartbeats 8000000 in
theorem chain_er (E : Er) (w : World) (hg : Door w) (hE : E.At w) (hl : E.chain.length ≤ 50) :
    Calls Tryd.prog 11 #[E.v] w fun e w' => ∃ A c, e = .returned (.slice A E.chain.length c) ∧ w'.ownsRow w.heap.size 37 2 (.slice A E.chain.length c) E.chain.length ((E.chain.map Wr.cells).flatten) ∧ Below w.heap.size w w' := by
  obtain ⟨o, ho⟩ : ∃ o, E.first = o := ⟨_, rfl⟩
  have hc := first_is E o w ho hg hE
  obtain ⟨vp, hvp⟩ : ∃ v, v = Value.pointer (o.map Er.ptr) := ⟨_, rfl⟩
  obtain ⟨vb, hvb⟩ : ∃ v, v = Value.bool o.isSome := ⟨_, rfl⟩
  rw [← hvp, ← hvb] at hc
  have VP := Aid.hid hvp
  have VB := Aid.hid hvb
  have HG := Aid.hid hg
  have HR : Hid (E.chain = Er.rest o) := Aid.hid (ho ▸ Er.rest_first E)
  have HO : Hid (Er.oneAt w o) := Aid.hid (ho ▸ Er.oneAt_first hE)
  obtain ⟨i0, hi, hz0, hz1, hz2⟩ := info_parts info_wrong
  clear ho hE hg hvp hvb
  go_enter Tryd.func11, Tryd.ntmps11
  try simp only [List.append_eq, List.cons_append, List.nil_append]
  go_wp2_with fail
  refine hc.mono ?_; rintro e w1 ⟨rfl, hb1⟩
  have HB1 := Aid.hid hb1
  clear hc hb1
  go_wp2_with fail
  go_loopg [3, 4, 5] (Er.left o) (fun k vl ve vok wr => ∃ (A : Option Addr) (c : Nat) (done : List (Int × Int)) (o : Option Er.One), vl = .slice A done.length c ∧ ve = .pointer (o.map Er.ptr) ∧ vok = .bool o.isSome ∧ Hid (E.chain = done ++ Er.rest o) ∧ Hid (Er.oneAt w o) ∧ k = Er.left o ∧
    Hid (wr.ownsRow w.heap.size 37 2 (.slice A done.length c) done.length ((done.map Wr.cells).flatten)) ∧ Hid (Below w.heap.size w wr))
  case atStart => exact ⟨none, 0, [], o, rfl, VP.out, VB.out, Aid.hid (by simpa using HR.out), HO, rfl, Aid.hid (World.ownsRow_nil _ _ _ _), HB1⟩
  case round =>
    clear HR HO HB1 VP VB

    obtain ⟨A, c, done, o, rfl, rfl, rfl, HC, HH, hk, O, HB⟩ := hrel
    have dl : done.length ≤ 50 := by have := congrArg List.length HC.out; simp at this; omega
    cases o with
    | none =>
      have EC : Hid (E.chain = done) := Aid.hid (by have := HC.out; simpa [Er.rest] using this)
      dsimp only [Option.map, Option.isSome]
      go_wp2_with fail
      go_ret
      exact ⟨A, c, by rw [EC.out]; rfl, by rw [EC.out]; exact O.out, HB.out⟩
    | some q =>
      obtain ⟨b, k, a, s⟩ := q
      replace HH : Hid ((Er.own b k a s).At w) := HH
      have hb := HB.out
      dsimp only [Option.map, Option.isSome, Er.ptr]
      go_wp2_with fail
      refine Ord.wp_region_walk (fun w' => Below w.heap.size w w') 11 [(true, 0), (true, 1), (true, 2), (true, 3), (true, 4), (true, 5), (true, 6), (true, 7), (true, 8), (true, 9), (false, 10)] (by kernel_rfl) (by kernel_rfl) (fun _ _ d _ _ h => by cases d <;> exact h) (hb.drew) ?_
      apply Ord.walk_light
      next => (simp only [List.getElem?_toArray, List.getElem?_cons_zero]; rfl)
      next => rfl
      next => (intro w' hSw; clear hSw; go_simp; first | done | with_reducible rfl)
      simp only [Act.put, List.setIfInBounds_toArray, List.set_cons_zero, List.set_cons_succ]
      apply Ord.walk_light
      next => (simp only [List.getElem?_toArray, List.getElem?_cons_succ, List.getElem?_cons_zero]; rfl)
      next => rfl
      next => (intro w' hSw; clear hSw; go_simp; first | done | with_reducible rfl)
      simp only [Act.put, List.setIfInBounds_toArray, List.set_cons_zero, List.set_cons_succ]
      apply Ord.walk_light
      next => (simp only [List.getElem?_toArray, List.getElem?_cons_succ, List.getElem?_cons_zero]; rfl)
      next => rfl
      next => (intro w' hSw; clear hSw; have l0 := HH.out.1.lt; go_simp; first | done | with_reducible rfl)
      simp only [Act.put, List.setIfInBounds_toArray, List.set_cons_zero, List.set_cons_succ]
      apply Ord.walk_light
      next => (simp only [List.getElem?_toArray, List.getElem?_cons_succ, List.getElem?_cons_zero]; rfl)
      next => rfl
      next => (intro w' hSw; clear hSw; have l0 := HH.out.1.lt; go_simp; first | done | with_reducible rfl)
      simp only [Act.put, List.setIfInBounds_toArray, List.set_cons_zero, List.set_cons_succ]
      apply Ord.walk_light
      next => (simp only [List.getElem?_toArray, List.getElem?_cons_succ, List.getElem?_cons_zero]; rfl)
      next => rfl
      next => (intro w' hSw; have g := HH.out.1.below hSw HH.out.1.lt; have q0 := g.cell 0 _ rfl; have q1 := g.cell 1 _ rfl; go_simp; first | done | with_reducible rfl)
      simp only [Act.put, List.setIfInBounds_toArray, List.set_cons_zero, List.set_cons_succ]
      apply Ord.walk_light
      next => (simp only [List.getElem?_toArray, List.getElem?_cons_succ, List.getElem?_cons_zero]; rfl)
      next => rfl
      next => (intro w' hSw; clear hSw; go_simp; first | done | with_reducible rfl)
      simp only [Act.put, List.setIfInBounds_toArray, List.set_cons_zero, List.set_cons_succ]
      apply Ord.walk_light
      next => (simp only [List.getElem?_toArray, List.getElem?_cons_succ, List.getElem?_cons_zero]; rfl)
      next => rfl
      next => (intro w' hSw; clear hSw; have l0 := HH.out.1.lt; go_simp; first | done | with_reducible rfl)
      simp only [Act.put, List.setIfInBounds_toArray, List.set_cons_zero, List.set_cons_succ]
      apply Ord.walk_light
      next => (simp only [List.getElem?_toArray, List.getElem?_cons_succ, List.getElem?_cons_zero]; rfl)
      next => rfl
      next => (intro w' hSw; clear hSw; have l0 := HH.out.1.lt; go_simp; first | done | with_reducible rfl)
      simp only [Act.put, List.setIfInBounds_toArray, List.set_cons_zero, List.set_cons_succ]
      apply Ord.walk_light
      next => (simp only [List.getElem?_toArray, List.getElem?_cons_succ, List.getElem?_cons_zero]; rfl)
      next => rfl
      next => (intro w' hSw; have g := HH.out.1.below hSw HH.out.1.lt; have q0 := g.cell 0 _ rfl; have q1 := g.cell 1 _ rfl; go_simp; first | done | with_reducible rfl)
      simp only [Act.put, List.setIfInBounds_toArray, List.set_cons_zero, List.set_cons_succ]
      apply Ord.walk_light
      next => (simp only [List.getElem?_toArray, List.getElem?_cons_succ, List.getElem?_cons_zero]; rfl)
      next => rfl
      next => (intro w' hSw; clear hSw; go_simp; first | done | with_reducible rfl)
      simp only [Act.put, List.setIfInBounds_toArray, List.set_cons_zero, List.set_cons_succ]
      apply Ord.walk_heavy
      next => (simp only [List.getElem?_toArray, List.getElem?_cons_succ, List.getElem?_cons_zero]; rfl)
      next => rfl
      intro K hK
      go_wp2_with fail
      refine hK.out _ _ (by repeat' (first | exact hb | refine Below.drew ?_ | refine Below.alloc ?_ ?_ _ | exact hb.size | (simp; exact hb.size))) (fun hHeld => ?_)
      clear hHeld
      clear hK K
      try simp only [Act.put, List.setIfInBounds_toArray, List.set_cons_zero, List.set_cons_succ]
      refine Ord.walk_tail ?_; simp only [List.drop_succ_cons, List.drop_zero]
      have O2 : Hid (((wr.alloc (.cells #[.int .i64 k, .int .i64 a] 37)).drew).ownsRow w.heap.size 37 2 (.slice A done.length c) done.length ((done.map Wr.cells).flatten)) := Aid.hid ((O.out.alloc _).drew)
      have hs0 := hb.size
      go_wp2_with (at_builtin; refine wpList_append_own _ rfl _ _ 30 rfl w.heap.size 37 i0 (.agg #[.int .i64 0, .int .i64 0]) 2 16 Tryd.underlying30 hi hz0 hz1 hz2 rfl (by decide) _ _ _ rfl O2.out ⟨wr.heap.size, 0, none⟩ 1 1 [.int .i64 k, .int .i64 a] rfl rfl ?c1 ?c2 ?c3 ?c4 ?c5 ?_)
      case c1 =>
        intro j u hj
        match j, hj with
        | 0, hj => simp at hj; subst hj; simp [Addr.add]
        | 1, hj => simp at hj; subst hj; simp [Addr.add]
      case c2 => intro u hu; simp at hu; rcases hu with rfl | rfl <;> rfl
      case c3 => unfold maxLen; omega
      case c4 => omega
      case c5 => simp; omega
      · intro v' w2 hown' hgrow _
        have HB2 : Hid (Below w.heap.size w w2) := Aid.hid ((hb.alloc hb.size _).drew.grown hgrow (by simp; omega) (fun q hq => (O2.out.lt q hq).1))
        obtain ⟨g, cap', rfl, _, _⟩ := hown'.form (by omega)
        have O3 : Hid (w2.ownsRow w.heap.size 37 2 (.slice (some ⟨g, 0, none⟩) (done.length + 1) cap') (done.length + 1) (((done ++ [(k, a)]).map Wr.cells).flatten)) := Aid.hid (by simpa [Wr.cells] using hown')
        have h3 := HH.out.below HB2.out
        have q2 := h3.1.cell 2 _ rfl
        have hlt := h3.1.lt
        obtain ⟨o', ho'⟩ : ∃ o', s.first = o' := ⟨_, rfl⟩
        have hcs := first_is s o' w2 ho' (HG.out.below HB2.out) h3.2
        have HC2 : Hid (E.chain = (done ++ [(k, a)]) ++ Er.rest o') := Aid.hid (by rw [HC.out, ← ho', ← Er.rest_first s]; simp [Er.rest])
        have HL2 : Hid (Er.left o' < Er.left (some (b, k, a, s))) := Aid.hid (by rw [← ho']; have h := Er.left_first s; show Er.left s.first < s.deep + 1; omega)
        have HH2 : Hid (Er.oneAt w o') := Aid.hid (ho' ▸ Er.oneAt_first HH.out.2)
        generalize s.v = sv at q2 hcs
        clear h3 hgrow hown' O O2 hb HB HH HC ho' hs0
        go_wp2_with fail
        refine hcs.mono ?_; rintro e w3 ⟨rfl, hb3⟩
        have O4 := Aid.hid (own_keeps O3.out hb3)
        have HB4 := Aid.hid (HB2.out.trans (hb3.mono HB2.out.size))
        clear hcs hb3 q2 O3
        go_wp2_with fail
        go_roundg (Er.left o')
        case rel => exact ⟨some ⟨g, 0, none⟩, cap', done ++ [(k, a)], o', by simp, rfl, rfl, HC2, HH2, rfl, Aid.hid (by simpa using O4.out), HB4⟩
        case measure => exact hk ▸ HL2.out
end Go.Proofs.YtblkcgbifecemaaDoor
