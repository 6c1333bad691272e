/- TypingBins, as a walk. -/
import Derived.Test.YtmhdcehpddbjaaaTyO
import Derived.Test.YtmhdcehpddbjaaaLow
import Derived.WalkKit
import Derived.WalkSpells
import Derived.WalkLawsBesides
import Derived.LoopTactic
import Derived.Deep.QuietTactic
import Derived.BigQuiet
import Derived.Below
import Derived.Laws.ResultCell
import Derived.Laws.Tables
import Derived.Laws.Rows
import Derived.Deep.Cut
import Derived.KernelRfl
namespace Go.Proofs.Ytmhdcehpddbjaaa
open Go.RowKit

def Ex.sk (n : Nat) : Int := if n = 0 then 1 else if n = 1 then 2 else 5
def Ex.sides : List Value := [.int .i64 1, .int .i64 3, .string ⟨#[]⟩, .string ⟨#[]⟩, .slice none 0 0, .int .i64 2, .int .i64 0, .string ⟨#[]⟩, .string ⟨#[]⟩, .slice none 0 0, .int .i64 4, .int .i64 0, .string ⟨#[]⟩, .string ⟨#[]⟩, .slice none 0 0]
def Ex.bn (op : Int) (g : Nat) (sa sb : Ex) : Ex := .mk 9 op ⟨#[]⟩ ⟨#[]⟩ (some ⟨g, 0, none⟩) [sa, sb] 2
theorem exs_bn {w : World} {g : Nat} {sa sb : Ex} (ha : sa.args = []) (hb : sb.args = []) (h : Aid.Has w g [.int .i64 sa.k, .int .i64 sa.n, .string sa.name, .string sa.what, .slice sa.A sa.args.length sa.c, .int .i64 sb.k, .int .i64 sb.n, .string sb.name, .string sb.what, .slice sb.A sb.args.length sb.c] 29) : ExsAt 2 w w.heap.size (some ⟨g, 0, none⟩) [sa, sb] :=
  ⟨by simp, rows_two (t := 29) (r := [.int .i64 sa.k, .int .i64 sa.n, .string sa.name, .string sa.what, .slice sa.A sa.args.length sa.c]) (s := [.int .i64 sb.k, .int .i64 sb.n, .string sb.name, .string sb.what, .slice sb.A sb.args.length sb.c]) h rfl h.lt, fun e he => by
    rcases List.mem_cons.1 he with rfl | he
    · rw [ha]; exact ⟨by simp, Rows.nil_ _ _ _ _, by simp⟩
    · obtain rfl : e = sb := by simpa using he
      rw [hb]; exact ⟨by simp, Rows.nil_ _ _ _ _, by simp⟩⟩
theorem exlim_bn (op : Int) (g : Nat) {sa sb : Ex} (ha : sa.args = []) (hb : sb.args = []) : ExLim 2 (Ex.bn op g sa sb).args := ⟨by simp [Ex.bn, Ex.args], fun e he => by
    rcases List.mem_cons.1 he with rfl | he
    · rw [ha]; exact ⟨by simp, by simp⟩
    · obtain rfl : e = sb := by simpa using he
      rw [hb]; exact ⟨by simp, by simp⟩⟩
/-- The operator is asked. -/
def Ty.Bn (a0 : Act) (op : Int) (p7 ia ib : Nat) (sa sb : Ex) (t : Ty) (c : Int) (W : World) (e : Exit) (a' : Act) (w' : World) : Prop :=
  e = .normal ∧ ∃ db g g2, a' = putL a0 [(23, .agg #[.slice (some ⟨db, 0, none⟩) 1 1]), (24, .agg #[.int .i64 0, .int .i64 (-1)]), (25, .int .i64 op), (26, .slice (some ⟨p7, 0, none⟩) 3 3), (27, .int .i64 (ia : Int)), (28, .pointer (some ⟨p7, ia * 5, none⟩)), (29, .agg #[.int .i64 sa.k, .int .i64 sa.n, .string sa.name, .string sa.what, .slice sa.A sa.args.length sa.c]), (30, .slice (some ⟨p7, 0, none⟩) 3 3), (31, .int .i64 (ib : Int)), (32, .pointer (some ⟨p7, ib * 5, none⟩)), (33, .agg #[.int .i64 sb.k, .int .i64 sb.n, .string sb.name, .string sb.what, .slice sb.A sb.args.length sb.c]), (34, .slice (some ⟨g, 0, none⟩) 2 2), (35, (.agg #[.int .i64 9, .int .i64 op, .string ⟨#[]⟩, .string ⟨#[]⟩, .slice (some ⟨g, 0, none⟩) 2 2])), (36, .tuple #[.agg #[.int .i64 t.k, .int .i64 t.lo, .int .i64 t.hi, .string t.name], .int .i64 c]), (22, .tuple #[.agg #[.int .i64 t.k, .int .i64 t.lo, .int .i64 t.hi, .string t.name], .int .i64 c]), (37, .agg #[.int .i64 t.k, .int .i64 t.lo, .int .i64 t.hi, .string t.name]), (38, .int .i64 c), (8, .pointer (some ⟨g2, 0, none⟩)), (9, .int .i64 c)] ∧ Aid.Has w' g2 [.int .i64 t.k, .int .i64 t.lo, .int .i64 t.hi, .string t.name] 36 ∧ Below W.heap.size W w'
set_option maxRecDepth 100000 in
set_option maxHeartbeats 4000000 in
theorem bins_any (x y z : Int) (r1 : Int) (ia ib : Nat) (sa sb : Ex) (t : Ty) (c : Int) (w : World) (h1 : low x 18 = r1) (h2 : low y 3 = ia) (h3 : low z 3 = ib) (hia : ia < 3) (hib : ib < 3) (hr0 : 0 ≤ r1) (hr1 : r1 < 18)
    (hsa : ∀ j v, sa.cells[j]? = some v → Ex.sides[ia * 5 + j]? = some v) (hsb : ∀ j v, sb.cells[j]? = some v → Ex.sides[ib * 5 + j]? = some v) (ha : sa.args = []) (hb : sb.args = [])
    (htc : ∀ vb g, Ty.expr ⟨[Ty.oneD vb], -1, none, [Ty.xv]⟩ (Ex.bn (r1 - 1) g sa sb) = (t, c)) (hbin : Ty.bin (r1 - 1) (Ty.of (Ex.sk ia), 0) (Ty.of (Ex.sk ib), 0) = (t, c)) :
    Calls Try.prog 7 #[.int .i64 x, .int .i64 y, .int .i64 z] w fun z w' => z = .returned (.bool true) ∧ Below w.heap.size w w' := by
  have HL1 := Aid.hid (low_is x 18 r1 h1 (by decide) (by decide))
  have HL2 := Aid.hid (low_is y 3 ia h2 (by decide) (by decide))
  have HL3 := Aid.hid (low_is z 3 ib h3 (by decide) (by decide))
  have HTC := Aid.hid htc; have HA := Aid.hid ha; have HB := Aid.hid hb
  clear h1 h2 h3 ha hb htc
  go_enter Try.func7, Try.ntmps7
  try simp only [List.append_eq, List.cons_append, List.nil_append]
  go_wp2_with fail
  refine (HL1.out _).mono ?_; rintro _ wz ⟨rfl, rfl⟩
  go_wp2_with fail
  refine (HL2.out _).mono ?_; rintro _ wz2 ⟨rfl, rfl⟩
  go_wp2_with fail
  refine (HL3.out _).mono ?_; rintro _ wz3 ⟨rfl, rfl⟩
  go_wp2_with fail
  clear HL1 HL2 HL3
  have n7 := Aid.Has.new w Ex.sides 29
  have k0 := below_new w (.cells #[.int .i64 1, .int .i64 3, .string ⟨#[]⟩, .string ⟨#[]⟩, .slice none 0 0, .int .i64 2, .int .i64 0, .string ⟨#[]⟩, .string ⟨#[]⟩, .slice none 0 0, .int .i64 4, .int .i64 0, .string ⟨#[]⟩, .string ⟨#[]⟩, .slice none 0 0] 29)
  obtain ⟨op, hop⟩ : ∃ op, r1 - 1 = op := ⟨_, rfl⟩
  rw [hop] at HTC hbin ⊢
  have o1 : -1 ≤ op := by omega
  have o2 : op ≤ 16 := by omega
  clear hop hr0 hr1
  obtain ⟨W, hW⟩ : ∃ W, w.alloc (.cells #[.int .i64 1, .int .i64 3, .string ⟨#[]⟩, .string ⟨#[]⟩, .slice none 0 0, .int .i64 2, .int .i64 0, .string ⟨#[]⟩, .string ⟨#[]⟩, .slice none 0 0, .int .i64 4, .int .i64 0, .string ⟨#[]⟩, .string ⟨#[]⟩, .slice none 0 0] 29) = W := ⟨_, rfl⟩
  replace n7 : Aid.Has W w.heap.size Ex.sides 29 := by rw [← hW]; exact n7
  rw [hW] at k0 ⊢
  obtain ⟨p7, hp7⟩ : ∃ p, w.heap.size = p := ⟨_, rfl⟩
  rw [hp7] at n7 ⊢
  have K0 := Aid.hid k0
  have HBIN := Aid.hid hbin
  clear hW hp7 k0 hbin
  have jia : (ia : Int) < 3 := by omega
  have jib : (ib : Int) < 3 := by omega
  refine wp_cut (fun a0 => Ty.Bn a0 op p7 ia ib sa sb t c W) ?_ ?_
  · have a0 := n7.cell (ia * 5 + 0) _ (hsa 0 _ rfl)
    have a1 := n7.cell (ia * 5 + 1) _ (hsa 1 _ rfl)
    have a2 := n7.cell (ia * 5 + 2) _ (hsa 2 _ rfl)
    have a3 := n7.cell (ia * 5 + 3) _ (hsa 3 _ rfl)
    have a4 := n7.cell (ia * 5 + 4) _ (hsa 4 _ rfl)
    have b0 := n7.cell (ib * 5 + 0) _ (hsb 0 _ rfl)
    have b1 := n7.cell (ib * 5 + 1) _ (hsb 1 _ rfl)
    have b2 := n7.cell (ib * 5 + 2) _ (hsb 2 _ rfl)
    have b3 := n7.cell (ib * 5 + 3) _ (hsb 3 _ rfl)
    have b4 := n7.cell (ib * 5 + 4) _ (hsb 4 _ rfl)
    simp only [Nat.add_zero] at a0 b0
    have lp7 := n7.lt
    have hb : Below W.heap.size W W.drew := (Below.refl _ _).drew
    clear n7 K0 HBIN
    refine Ord.wp_region_go (fun w' => Below W.heap.size W w') 19 [2, 3, 4, 5, 6, 7, 8, 9, 10, 12, 14, 15, 16] (by kernel_rfl) (by kernel_rfl) (fun _ _ _ _ _ h => by cases h.1) (hb) ?_
    clear hb
    have hb : Below W.heap.size W W.drew := (Below.refl _ _).drew
    generalize W.drew = wd0 at *
    apply Ord.go_light (i := 2) (by kernel_rfl)
    next => (simp only [List.getElem?_toArray, List.getElem?_cons_succ, List.getElem?_cons_zero]; rfl)
    next => rfl
    next => (intro w' hSw; clear hSw; go_simp; first | done | with_reducible rfl)
    simp only [Act.put, List.setIfInBounds_toArray, List.set_cons_zero, List.set_cons_succ]
    apply Ord.go_light (i := 3) (by kernel_rfl)
    next => (simp only [List.getElem?_toArray, List.getElem?_cons_succ, List.getElem?_cons_zero]; rfl)
    next => rfl
    next => (intro w' hSw; clear hSw; go_simp; first | done | with_reducible rfl)
    simp only [Act.put, List.setIfInBounds_toArray, List.set_cons_zero, List.set_cons_succ]
    apply Ord.go_light (i := 4) (by kernel_rfl)
    next => (simp only [List.getElem?_toArray, List.getElem?_cons_succ, List.getElem?_cons_zero]; rfl)
    next => rfl
    next => (intro w' hSw; clear hSw; go_simp; first | done | with_reducible rfl)
    simp only [Act.put, List.setIfInBounds_toArray, List.set_cons_zero, List.set_cons_succ]
    apply Ord.go_light (i := 5) (by kernel_rfl)
    next => (simp only [List.getElem?_toArray, List.getElem?_cons_succ, List.getElem?_cons_zero]; rfl)
    next => rfl
    next => (intro w' hSw; clear hSw; go_simp; first | done | with_reducible rfl)
    simp only [Act.put, List.setIfInBounds_toArray, List.set_cons_zero, List.set_cons_succ]
    apply Ord.go_light (i := 6) (by kernel_rfl)
    next => (simp only [List.getElem?_toArray, List.getElem?_cons_succ, List.getElem?_cons_zero]; rfl)
    next => rfl
    next => (intro w' hSw; have y0 := (hSw.cell (p := ⟨p7, ia * 5, none⟩) lp7).trans a0; have z0 := (hSw.cell (p := ⟨p7, ib * 5, none⟩) lp7).trans b0; have y1 := (hSw.cell (p := ⟨p7, ia * 5 + 1, none⟩) lp7).trans a1; have z1 := (hSw.cell (p := ⟨p7, ib * 5 + 1, none⟩) lp7).trans b1; have y2 := (hSw.cell (p := ⟨p7, ia * 5 + 2, none⟩) lp7).trans a2; have z2 := (hSw.cell (p := ⟨p7, ib * 5 + 2, none⟩) lp7).trans b2; have y3 := (hSw.cell (p := ⟨p7, ia * 5 + 3, none⟩) lp7).trans a3; have z3 := (hSw.cell (p := ⟨p7, ib * 5 + 3, none⟩) lp7).trans b3; have y4 := (hSw.cell (p := ⟨p7, ia * 5 + 4, none⟩) lp7).trans a4; have z4 := (hSw.cell (p := ⟨p7, ib * 5 + 4, none⟩) lp7).trans b4; clear hSw; go_simp; first | done | with_reducible rfl)
    simp only [Act.put, List.setIfInBounds_toArray, List.set_cons_zero, List.set_cons_succ]
    apply Ord.go_light (i := 7) (by kernel_rfl)
    next => (simp only [List.getElem?_toArray, List.getElem?_cons_succ, List.getElem?_cons_zero]; rfl)
    next => rfl
    next => (intro w' hSw; clear hSw; go_simp; first | done | with_reducible rfl)
    simp only [Act.put, List.setIfInBounds_toArray, List.set_cons_zero, List.set_cons_succ]
    apply Ord.go_light (i := 8) (by kernel_rfl)
    next => (simp only [List.getElem?_toArray, List.getElem?_cons_succ, List.getElem?_cons_zero]; rfl)
    next => rfl
    next => (intro w' hSw; clear hSw; go_simp; first | done | with_reducible rfl)
    simp only [Act.put, List.setIfInBounds_toArray, List.set_cons_zero, List.set_cons_succ]
    apply Ord.go_light (i := 9) (by kernel_rfl)
    next => (simp only [List.getElem?_toArray, List.getElem?_cons_succ, List.getElem?_cons_zero]; rfl)
    next => rfl
    next => (intro w' hSw; clear hSw; go_simp; first | done | with_reducible rfl)
    simp only [Act.put, List.setIfInBounds_toArray, List.set_cons_zero, List.set_cons_succ]
    apply Ord.go_light (i := 10) (by kernel_rfl)
    next => (simp only [List.getElem?_toArray, List.getElem?_cons_succ, List.getElem?_cons_zero]; rfl)
    next => rfl
    next => (intro w' hSw; have y0 := (hSw.cell (p := ⟨p7, ia * 5, none⟩) lp7).trans a0; have z0 := (hSw.cell (p := ⟨p7, ib * 5, none⟩) lp7).trans b0; have y1 := (hSw.cell (p := ⟨p7, ia * 5 + 1, none⟩) lp7).trans a1; have z1 := (hSw.cell (p := ⟨p7, ib * 5 + 1, none⟩) lp7).trans b1; have y2 := (hSw.cell (p := ⟨p7, ia * 5 + 2, none⟩) lp7).trans a2; have z2 := (hSw.cell (p := ⟨p7, ib * 5 + 2, none⟩) lp7).trans b2; have y3 := (hSw.cell (p := ⟨p7, ia * 5 + 3, none⟩) lp7).trans a3; have z3 := (hSw.cell (p := ⟨p7, ib * 5 + 3, none⟩) lp7).trans b3; have y4 := (hSw.cell (p := ⟨p7, ia * 5 + 4, none⟩) lp7).trans a4; have z4 := (hSw.cell (p := ⟨p7, ib * 5 + 4, none⟩) lp7).trans b4; clear hSw; go_simp; first | done | with_reducible rfl)
    simp only [Act.put, List.setIfInBounds_toArray, List.set_cons_zero, List.set_cons_succ]
    refine Ord.go_three (i := 0) (j := 11) (k := 17) (by kernel_rfl) (by kernel_rfl) ?_ ?_ ?_
    ·
      apply Ord.go_done1
      next => (simp only [List.getElem?_toArray, List.getElem?_cons_zero]; rfl)
      next => rfl
      intro K hK
      go_wp2_with fail
      refine (one_is _).mono ?_; rintro _ wq1 ⟨vb, db, rfl, hv, hd, hb'⟩; dsimp only
      refine hK.out _ _ (hb.trans (hb'.mono hb.size)) (fun hHeld => ?_)
      clear hb hb'
      have hb := hHeld
      clear hK K
      try simp only [Act.put, List.setIfInBounds_toArray, List.set_cons_zero, List.set_cons_succ]
      refine Ord.go_three (i := 1) (j := 11) (k := 17) (by kernel_rfl) (by kernel_rfl) ?_ ?_ ?_
      ·
        apply Ord.go_done1
        next => (simp only [List.getElem?_toArray, List.getElem?_cons_succ, List.getElem?_cons_zero]; rfl)
        next => rfl
        intro K hK
        go_wp2_with fail
        refine (body_is _).mono ?_; rintro _ wq2 ⟨rfl, hb'⟩; dsimp only
        refine hK.out _ _ (hb.trans (hb'.mono hb.size)) (fun hHeld => ?_)
        replace hv := hv.below hb' hv.lt
        replace hd := hd.below hb' hd.lt
        clear hb hb'
        have hb := hHeld
        clear hK K
        try simp only [Act.put, List.setIfInBounds_toArray, List.set_cons_zero, List.set_cons_succ]
        refine Ord.go_two (i := 11) (j := 17) (by kernel_rfl) (by kernel_rfl) ?_ ?_
        ·
          apply Ord.go_done1
          next => (simp only [List.getElem?_toArray, List.getElem?_cons_succ, List.getElem?_cons_zero]; rfl)
          next => rfl
          intro K hK
          go_wp2_with fail
          obtain ⟨wq3, hx⟩ : ∃ q, wq2.alloc (.cells #[.int .i64 sa.k, .int .i64 sa.n, .string sa.name, .string sa.what, .slice sa.A sa.args.length sa.c, .int .i64 sb.k, .int .i64 sb.n, .string sb.name, .string sb.what, .slice sb.A sb.args.length sb.c] 29) = q := ⟨_, rfl⟩
          have hg := Aid.Has.new wq2 [.int .i64 sa.k, .int .i64 sa.n, .string sa.name, .string sa.what, .slice sa.A sa.args.length sa.c, .int .i64 sb.k, .int .i64 sb.n, .string sb.name, .string sb.what, .slice sb.A sb.args.length sb.c] 29
          have hb' := below_new wq2 (.cells #[.int .i64 sa.k, .int .i64 sa.n, .string sa.name, .string sa.what, .slice sa.A sa.args.length sa.c, .int .i64 sb.k, .int .i64 sb.n, .string sb.name, .string sb.what, .slice sb.A sb.args.length sb.c] 29)
          rw [hx] at hg hb' ⊢
          refine hK.out _ _ (hb.trans (hb'.mono hb.size)) (fun hHeld => ?_)
          replace hv := hv.below hb' hv.lt
          replace hd := hd.below hb' hd.lt
          generalize wq2.heap.size = gb at *
          clear hb hb'
          have hb := hHeld
          clear hx
          clear hK K
          try simp only [Act.put, List.setIfInBounds_toArray, List.set_cons_zero, List.set_cons_succ]
          apply Ord.go_light (i := 12) (by kernel_rfl)
          next => (simp only [List.getElem?_toArray, List.getElem?_cons_succ, List.getElem?_cons_zero]; rfl)
          next => rfl
          next => (intro w' hSw; clear hSw; go_simp; first | done | with_reducible rfl)
          simp only [Act.put, List.setIfInBounds_toArray, List.set_cons_zero, List.set_cons_succ]
          refine Ord.go_two (i := 13) (j := 17) (by kernel_rfl) (by kernel_rfl) ?_ ?_
          ·
            apply Ord.go_done1
            next => (simp only [List.getElem?_toArray, List.getElem?_cons_succ, List.getElem?_cons_zero]; rfl)
            next => rfl
            intro K hK
            go_wp2_with fail
            refine (Expr_prog 2 [Ty.oneD vb] (some ⟨db, 0, none⟩) _ 1 0 (Ty.oneD vb) (Ex.bn op gb sa sb) t c _ rfl rfl (by simp [Ty.oneD]) (one_at hv hd) (Nat.le_refl _) (exs_bn HA.out HB.out hg) (exlim_bn op gb HA.out HB.out) (HTC.out vb gb)).mono ?_; rintro _ wq4 ⟨rfl, hb'⟩; dsimp only
            refine hK.out _ _ (hb.trans (hb'.mono hb.size)) (fun hHeld => ?_)
            replace hv := hv.below hb' hv.lt
            replace hd := hd.below hb' hd.lt
            replace hg := hg.below hb' hg.lt
            clear hb hb'
            have hb := hHeld
            clear hK K
            try simp only [Act.put, List.setIfInBounds_toArray, List.set_cons_zero, List.set_cons_succ]
            apply Ord.go_light (i := 14) (by kernel_rfl)
            next => (simp only [List.getElem?_toArray, List.getElem?_cons_succ, List.getElem?_cons_zero]; rfl)
            next => rfl
            next => (intro w' hSw; clear hSw; go_simp; first | done | with_reducible rfl)
            simp only [Act.put, List.setIfInBounds_toArray, List.set_cons_zero, List.set_cons_succ]
            apply Ord.go_light (i := 15) (by kernel_rfl)
            next => (simp only [List.getElem?_toArray, List.getElem?_cons_succ, List.getElem?_cons_zero]; rfl)
            next => rfl
            next => (intro w' hSw; clear hSw; go_simp; first | done | with_reducible rfl)
            simp only [Act.put, List.setIfInBounds_toArray, List.set_cons_zero, List.set_cons_succ]
            apply Ord.go_light (i := 16) (by kernel_rfl)
            next => (simp only [List.getElem?_toArray, List.getElem?_cons_succ, List.getElem?_cons_zero]; rfl)
            next => rfl
            next => (intro w' hSw; clear hSw; go_simp; first | done | with_reducible rfl)
            simp only [Act.put, List.setIfInBounds_toArray, List.set_cons_zero, List.set_cons_succ]
            refine Ord.go_one (i := 17) (by kernel_rfl) (by kernel_rfl) ?_
            apply Ord.go_done1
            next => (simp only [List.getElem?_toArray, List.getElem?_cons_succ, List.getElem?_cons_zero]; rfl)
            next => rfl
            intro K hK
            go_wp2_with fail
            obtain ⟨wq5, hx⟩ : ∃ q, wq4.alloc (.cells #[.int .i64 0, .int .i64 0, .int .i64 0, .string ⟨#[]⟩] 36) = q := ⟨_, rfl⟩
            have ha := Aid.Has.new wq4 [.int .i64 0, .int .i64 0, .int .i64 0, .string ⟨#[]⟩] 36
            have hb' := below_new wq4 (.cells #[.int .i64 0, .int .i64 0, .int .i64 0, .string ⟨#[]⟩] 36)
            rw [hx] at ha hb' ⊢
            have hal : W.heap.size ≤ wq4.heap.size := hb.size
            refine hK.out _ _ (hb.trans (hb'.mono hb.size)) (fun hHeld => ?_)
            replace hv := hv.below hb' hv.lt
            replace hd := hd.below hb' hd.lt
            replace hg := hg.below hb' hg.lt
            generalize wq4.heap.size = ga at *
            clear hb hb'
            have hb := hHeld
            clear hx
            clear hK K
            try simp only [Act.put, List.setIfInBounds_toArray, List.set_cons_zero, List.set_cons_succ]
            refine Ord.go_one (i := 18) (by kernel_rfl) (by kernel_rfl) ?_
            apply Ord.go_done1
            next => (simp only [List.getElem?_toArray, List.getElem?_cons_succ, List.getElem?_cons_zero]; rfl)
            next => rfl
            intro K hK
            have q0 := ha.cell 0 _ rfl
            have q1 := ha.cell 1 _ rfl
            have q2 := ha.cell 2 _ rfl
            have q3 := ha.cell 3 _ rfl
            have f0 := ha.frozen 0
            have f1 := ha.frozen 1
            have f2 := ha.frozen 2
            have f3 := ha.frozen 3
            have lga := ha.lt
            go_wp2_with fail
            refine hK.out _ _ (below4 (g := ga) _ _ _ _ hb hal) (fun hHeld => ?_)
            replace ha := set4 (.int .i64 t.k) (.int .i64 t.lo) (.int .i64 t.hi) (.string t.name) ha
            clear hb q0 q1 q2 q3 f0 f1 f2 f3 lga
            have hb := hHeld
            clear hK K
            refine Ord.go_tail ?_; simp only [List.drop_succ_cons, List.drop_zero]
            go_wp2_with fail
            refine ⟨rfl, db, gb, ga, ?_, ha, hb⟩
            simp only [putL, Act.put, List.setIfInBounds_toArray, List.set_cons_zero, List.set_cons_succ]
            try rfl
          ·
            apply Ord.go_done1
            next => (simp only [List.getElem?_toArray, List.getElem?_cons_succ, List.getElem?_cons_zero]; rfl)
            next => rfl
            intro K hK
            go_wp2_with fail
            obtain ⟨wq4, hx⟩ : ∃ q, wq3.alloc (.cells #[.int .i64 0, .int .i64 0, .int .i64 0, .string ⟨#[]⟩] 36) = q := ⟨_, rfl⟩
            have ha := Aid.Has.new wq3 [.int .i64 0, .int .i64 0, .int .i64 0, .string ⟨#[]⟩] 36
            have hb' := below_new wq3 (.cells #[.int .i64 0, .int .i64 0, .int .i64 0, .string ⟨#[]⟩] 36)
            rw [hx] at ha hb' ⊢
            have hal : W.heap.size ≤ wq3.heap.size := hb.size
            refine hK.out _ _ (hb.trans (hb'.mono hb.size)) (fun hHeld => ?_)
            replace hv := hv.below hb' hv.lt
            replace hd := hd.below hb' hd.lt
            replace hg := hg.below hb' hg.lt
            generalize wq3.heap.size = ga at *
            clear hb hb'
            have hb := hHeld
            clear hx
            clear hK K
            try simp only [Act.put, List.setIfInBounds_toArray, List.set_cons_zero, List.set_cons_succ]
            refine Ord.go_one (i := 13) (by kernel_rfl) (by kernel_rfl) ?_
            apply Ord.go_done1
            next => (simp only [List.getElem?_toArray, List.getElem?_cons_succ, List.getElem?_cons_zero]; rfl)
            next => rfl
            intro K hK
            go_wp2_with fail
            refine (Expr_prog 2 [Ty.oneD vb] (some ⟨db, 0, none⟩) _ 1 0 (Ty.oneD vb) (Ex.bn op gb sa sb) t c _ rfl rfl (by simp [Ty.oneD]) (one_at hv hd) (Nat.le_refl _) (exs_bn HA.out HB.out hg) (exlim_bn op gb HA.out HB.out) (HTC.out vb gb)).mono ?_; rintro _ wq5 ⟨rfl, hb'⟩; dsimp only
            refine hK.out _ _ (hb.trans (hb'.mono hb.size)) (fun hHeld => ?_)
            replace hv := hv.below hb' hv.lt
            replace hd := hd.below hb' hd.lt
            replace hg := hg.below hb' hg.lt
            replace ha := ha.below hb' ha.lt
            clear hb hb'
            have hb := hHeld
            clear hK K
            try simp only [Act.put, List.setIfInBounds_toArray, List.set_cons_zero, List.set_cons_succ]
            apply Ord.go_light (i := 14) (by kernel_rfl)
            next => (simp only [List.getElem?_toArray, List.getElem?_cons_succ, List.getElem?_cons_zero]; rfl)
            next => rfl
            next => (intro w' hSw; clear hSw; go_simp; first | done | with_reducible rfl)
            simp only [Act.put, List.setIfInBounds_toArray, List.set_cons_zero, List.set_cons_succ]
            apply Ord.go_light (i := 15) (by kernel_rfl)
            next => (simp only [List.getElem?_toArray, List.getElem?_cons_succ, List.getElem?_cons_zero]; rfl)
            next => rfl
            next => (intro w' hSw; clear hSw; go_simp; first | done | with_reducible rfl)
            simp only [Act.put, List.setIfInBounds_toArray, List.set_cons_zero, List.set_cons_succ]
            apply Ord.go_light (i := 16) (by kernel_rfl)
            next => (simp only [List.getElem?_toArray, List.getElem?_cons_succ, List.getElem?_cons_zero]; rfl)
            next => rfl
            next => (intro w' hSw; clear hSw; go_simp; first | done | with_reducible rfl)
            simp only [Act.put, List.setIfInBounds_toArray, List.set_cons_zero, List.set_cons_succ]
            refine Ord.go_one (i := 18) (by kernel_rfl) (by kernel_rfl) ?_
            apply Ord.go_done1
            next => (simp only [List.getElem?_toArray, List.getElem?_cons_succ, List.getElem?_cons_zero]; rfl)
            next => rfl
            intro K hK
            have q0 := ha.cell 0 _ rfl
            have q1 := ha.cell 1 _ rfl
            have q2 := ha.cell 2 _ rfl
            have q3 := ha.cell 3 _ rfl
            have f0 := ha.frozen 0
            have f1 := ha.frozen 1
            have f2 := ha.frozen 2
            have f3 := ha.frozen 3
            have lga := ha.lt
            go_wp2_with fail
            refine hK.out _ _ (below4 (g := ga) _ _ _ _ hb hal) (fun hHeld => ?_)
            replace ha := set4 (.int .i64 t.k) (.int .i64 t.lo) (.int .i64 t.hi) (.string t.name) ha
            clear hb q0 q1 q2 q3 f0 f1 f2 f3 lga
            have hb := hHeld
            clear hK K
            refine Ord.go_tail ?_; simp only [List.drop_succ_cons, List.drop_zero]
            go_wp2_with fail
            refine ⟨rfl, db, gb, ga, ?_, ha, hb⟩
            simp only [putL, Act.put, List.setIfInBounds_toArray, List.set_cons_zero, List.set_cons_succ]
            try rfl
        ·
          apply Ord.go_done1
          next => (simp only [List.getElem?_toArray, List.getElem?_cons_succ, List.getElem?_cons_zero]; rfl)
          next => rfl
          intro K hK
          go_wp2_with fail
          obtain ⟨wq3, hx⟩ : ∃ q, wq2.alloc (.cells #[.int .i64 0, .int .i64 0, .int .i64 0, .string ⟨#[]⟩] 36) = q := ⟨_, rfl⟩
          have ha := Aid.Has.new wq2 [.int .i64 0, .int .i64 0, .int .i64 0, .string ⟨#[]⟩] 36
          have hb' := below_new wq2 (.cells #[.int .i64 0, .int .i64 0, .int .i64 0, .string ⟨#[]⟩] 36)
          rw [hx] at ha hb' ⊢
          have hal : W.heap.size ≤ wq2.heap.size := hb.size
          refine hK.out _ _ (hb.trans (hb'.mono hb.size)) (fun hHeld => ?_)
          replace hv := hv.below hb' hv.lt
          replace hd := hd.below hb' hd.lt
          generalize wq2.heap.size = ga at *
          clear hb hb'
          have hb := hHeld
          clear hx
          clear hK K
          try simp only [Act.put, List.setIfInBounds_toArray, List.set_cons_zero, List.set_cons_succ]
          refine Ord.go_one (i := 11) (by kernel_rfl) (by kernel_rfl) ?_
          apply Ord.go_done1
          next => (simp only [List.getElem?_toArray, List.getElem?_cons_succ, List.getElem?_cons_zero]; rfl)
          next => rfl
          intro K hK
          go_wp2_with fail
          obtain ⟨wq4, hx⟩ : ∃ q, wq3.alloc (.cells #[.int .i64 sa.k, .int .i64 sa.n, .string sa.name, .string sa.what, .slice sa.A sa.args.length sa.c, .int .i64 sb.k, .int .i64 sb.n, .string sb.name, .string sb.what, .slice sb.A sb.args.length sb.c] 29) = q := ⟨_, rfl⟩
          have hg := Aid.Has.new wq3 [.int .i64 sa.k, .int .i64 sa.n, .string sa.name, .string sa.what, .slice sa.A sa.args.length sa.c, .int .i64 sb.k, .int .i64 sb.n, .string sb.name, .string sb.what, .slice sb.A sb.args.length sb.c] 29
          have hb' := below_new wq3 (.cells #[.int .i64 sa.k, .int .i64 sa.n, .string sa.name, .string sa.what, .slice sa.A sa.args.length sa.c, .int .i64 sb.k, .int .i64 sb.n, .string sb.name, .string sb.what, .slice sb.A sb.args.length sb.c] 29)
          rw [hx] at hg hb' ⊢
          refine hK.out _ _ (hb.trans (hb'.mono hb.size)) (fun hHeld => ?_)
          replace hv := hv.below hb' hv.lt
          replace hd := hd.below hb' hd.lt
          replace ha := ha.below hb' ha.lt
          generalize wq3.heap.size = gb at *
          clear hb hb'
          have hb := hHeld
          clear hx
          clear hK K
          try simp only [Act.put, List.setIfInBounds_toArray, List.set_cons_zero, List.set_cons_succ]
          apply Ord.go_light (i := 12) (by kernel_rfl)
          next => (simp only [List.getElem?_toArray, List.getElem?_cons_succ, List.getElem?_cons_zero]; rfl)
          next => rfl
          next => (intro w' hSw; clear hSw; go_simp; first | done | with_reducible rfl)
          simp only [Act.put, List.setIfInBounds_toArray, List.set_cons_zero, List.set_cons_succ]
          refine Ord.go_one (i := 13) (by kernel_rfl) (by kernel_rfl) ?_
          apply Ord.go_done1
          next => (simp only [List.getElem?_toArray, List.getElem?_cons_succ, List.getElem?_cons_zero]; rfl)
          next => rfl
          intro K hK
          go_wp2_with fail
          refine (Expr_prog 2 [Ty.oneD vb] (some ⟨db, 0, none⟩) _ 1 0 (Ty.oneD vb) (Ex.bn op gb sa sb) t c _ rfl rfl (by simp [Ty.oneD]) (one_at hv hd) (Nat.le_refl _) (exs_bn HA.out HB.out hg) (exlim_bn op gb HA.out HB.out) (HTC.out vb gb)).mono ?_; rintro _ wq5 ⟨rfl, hb'⟩; dsimp only
          refine hK.out _ _ (hb.trans (hb'.mono hb.size)) (fun hHeld => ?_)
          replace hv := hv.below hb' hv.lt
          replace hd := hd.below hb' hd.lt
          replace hg := hg.below hb' hg.lt
          replace ha := ha.below hb' ha.lt
          clear hb hb'
          have hb := hHeld
          clear hK K
          try simp only [Act.put, List.setIfInBounds_toArray, List.set_cons_zero, List.set_cons_succ]
          apply Ord.go_light (i := 14) (by kernel_rfl)
          next => (simp only [List.getElem?_toArray, List.getElem?_cons_succ, List.getElem?_cons_zero]; rfl)
          next => rfl
          next => (intro w' hSw; clear hSw; go_simp; first | done | with_reducible rfl)
          simp only [Act.put, List.setIfInBounds_toArray, List.set_cons_zero, List.set_cons_succ]
          apply Ord.go_light (i := 15) (by kernel_rfl)
          next => (simp only [List.getElem?_toArray, List.getElem?_cons_succ, List.getElem?_cons_zero]; rfl)
          next => rfl
          next => (intro w' hSw; clear hSw; go_simp; first | done | with_reducible rfl)
          simp only [Act.put, List.setIfInBounds_toArray, List.set_cons_zero, List.set_cons_succ]
          apply Ord.go_light (i := 16) (by kernel_rfl)
          next => (simp only [List.getElem?_toArray, List.getElem?_cons_succ, List.getElem?_cons_zero]; rfl)
          next => rfl
          next => (intro w' hSw; clear hSw; go_simp; first | done | with_reducible rfl)
          simp only [Act.put, List.setIfInBounds_toArray, List.set_cons_zero, List.set_cons_succ]
          refine Ord.go_one (i := 18) (by kernel_rfl) (by kernel_rfl) ?_
          apply Ord.go_done1
          next => (simp only [List.getElem?_toArray, List.getElem?_cons_succ, List.getElem?_cons_zero]; rfl)
          next => rfl
          intro K hK
          have q0 := ha.cell 0 _ rfl
          have q1 := ha.cell 1 _ rfl
          have q2 := ha.cell 2 _ rfl
          have q3 := ha.cell 3 _ rfl
          have f0 := ha.frozen 0
          have f1 := ha.frozen 1
          have f2 := ha.frozen 2
          have f3 := ha.frozen 3
          have lga := ha.lt
          go_wp2_with fail
          refine hK.out _ _ (below4 (g := ga) _ _ _ _ hb hal) (fun hHeld => ?_)
          replace ha := set4 (.int .i64 t.k) (.int .i64 t.lo) (.int .i64 t.hi) (.string t.name) ha
          clear hb q0 q1 q2 q3 f0 f1 f2 f3 lga
          have hb := hHeld
          clear hK K
          refine Ord.go_tail ?_; simp only [List.drop_succ_cons, List.drop_zero]
          go_wp2_with fail
          refine ⟨rfl, db, gb, ga, ?_, ha, hb⟩
          simp only [putL, Act.put, List.setIfInBounds_toArray, List.set_cons_zero, List.set_cons_succ]
          try rfl
      ·
        apply Ord.go_done1
        next => (simp only [List.getElem?_toArray, List.getElem?_cons_succ, List.getElem?_cons_zero]; rfl)
        next => rfl
        intro K hK
        go_wp2_with fail
        obtain ⟨wq2, hx⟩ : ∃ q, wq1.alloc (.cells #[.int .i64 sa.k, .int .i64 sa.n, .string sa.name, .string sa.what, .slice sa.A sa.args.length sa.c, .int .i64 sb.k, .int .i64 sb.n, .string sb.name, .string sb.what, .slice sb.A sb.args.length sb.c] 29) = q := ⟨_, rfl⟩
        have hg := Aid.Has.new wq1 [.int .i64 sa.k, .int .i64 sa.n, .string sa.name, .string sa.what, .slice sa.A sa.args.length sa.c, .int .i64 sb.k, .int .i64 sb.n, .string sb.name, .string sb.what, .slice sb.A sb.args.length sb.c] 29
        have hb' := below_new wq1 (.cells #[.int .i64 sa.k, .int .i64 sa.n, .string sa.name, .string sa.what, .slice sa.A sa.args.length sa.c, .int .i64 sb.k, .int .i64 sb.n, .string sb.name, .string sb.what, .slice sb.A sb.args.length sb.c] 29)
        rw [hx] at hg hb' ⊢
        refine hK.out _ _ (hb.trans (hb'.mono hb.size)) (fun hHeld => ?_)
        replace hv := hv.below hb' hv.lt
        replace hd := hd.below hb' hd.lt
        generalize wq1.heap.size = gb at *
        clear hb hb'
        have hb := hHeld
        clear hx
        clear hK K
        try simp only [Act.put, List.setIfInBounds_toArray, List.set_cons_zero, List.set_cons_succ]
        apply Ord.go_light (i := 12) (by kernel_rfl)
        next => (simp only [List.getElem?_toArray, List.getElem?_cons_succ, List.getElem?_cons_zero]; rfl)
        next => rfl
        next => (intro w' hSw; clear hSw; go_simp; first | done | with_reducible rfl)
        simp only [Act.put, List.setIfInBounds_toArray, List.set_cons_zero, List.set_cons_succ]
        refine Ord.go_two (i := 1) (j := 17) (by kernel_rfl) (by kernel_rfl) ?_ ?_
        ·
          apply Ord.go_done1
          next => (simp only [List.getElem?_toArray, List.getElem?_cons_succ, List.getElem?_cons_zero]; rfl)
          next => rfl
          intro K hK
          go_wp2_with fail
          refine (body_is _).mono ?_; rintro _ wq3 ⟨rfl, hb'⟩; dsimp only
          refine hK.out _ _ (hb.trans (hb'.mono hb.size)) (fun hHeld => ?_)
          replace hv := hv.below hb' hv.lt
          replace hd := hd.below hb' hd.lt
          replace hg := hg.below hb' hg.lt
          clear hb hb'
          have hb := hHeld
          clear hK K
          try simp only [Act.put, List.setIfInBounds_toArray, List.set_cons_zero, List.set_cons_succ]
          refine Ord.go_two (i := 13) (j := 17) (by kernel_rfl) (by kernel_rfl) ?_ ?_
          ·
            apply Ord.go_done1
            next => (simp only [List.getElem?_toArray, List.getElem?_cons_succ, List.getElem?_cons_zero]; rfl)
            next => rfl
            intro K hK
            go_wp2_with fail
            refine (Expr_prog 2 [Ty.oneD vb] (some ⟨db, 0, none⟩) _ 1 0 (Ty.oneD vb) (Ex.bn op gb sa sb) t c _ rfl rfl (by simp [Ty.oneD]) (one_at hv hd) (Nat.le_refl _) (exs_bn HA.out HB.out hg) (exlim_bn op gb HA.out HB.out) (HTC.out vb gb)).mono ?_; rintro _ wq4 ⟨rfl, hb'⟩; dsimp only
            refine hK.out _ _ (hb.trans (hb'.mono hb.size)) (fun hHeld => ?_)
            replace hv := hv.below hb' hv.lt
            replace hd := hd.below hb' hd.lt
            replace hg := hg.below hb' hg.lt
            clear hb hb'
            have hb := hHeld
            clear hK K
            try simp only [Act.put, List.setIfInBounds_toArray, List.set_cons_zero, List.set_cons_succ]
            apply Ord.go_light (i := 14) (by kernel_rfl)
            next => (simp only [List.getElem?_toArray, List.getElem?_cons_succ, List.getElem?_cons_zero]; rfl)
            next => rfl
            next => (intro w' hSw; clear hSw; go_simp; first | done | with_reducible rfl)
            simp only [Act.put, List.setIfInBounds_toArray, List.set_cons_zero, List.set_cons_succ]
            apply Ord.go_light (i := 15) (by kernel_rfl)
            next => (simp only [List.getElem?_toArray, List.getElem?_cons_succ, List.getElem?_cons_zero]; rfl)
            next => rfl
            next => (intro w' hSw; clear hSw; go_simp; first | done | with_reducible rfl)
            simp only [Act.put, List.setIfInBounds_toArray, List.set_cons_zero, List.set_cons_succ]
            apply Ord.go_light (i := 16) (by kernel_rfl)
            next => (simp only [List.getElem?_toArray, List.getElem?_cons_succ, List.getElem?_cons_zero]; rfl)
            next => rfl
            next => (intro w' hSw; clear hSw; go_simp; first | done | with_reducible rfl)
            simp only [Act.put, List.setIfInBounds_toArray, List.set_cons_zero, List.set_cons_succ]
            refine Ord.go_one (i := 17) (by kernel_rfl) (by kernel_rfl) ?_
            apply Ord.go_done1
            next => (simp only [List.getElem?_toArray, List.getElem?_cons_succ, List.getElem?_cons_zero]; rfl)
            next => rfl
            intro K hK
            go_wp2_with fail
            obtain ⟨wq5, hx⟩ : ∃ q, wq4.alloc (.cells #[.int .i64 0, .int .i64 0, .int .i64 0, .string ⟨#[]⟩] 36) = q := ⟨_, rfl⟩
            have ha := Aid.Has.new wq4 [.int .i64 0, .int .i64 0, .int .i64 0, .string ⟨#[]⟩] 36
            have hb' := below_new wq4 (.cells #[.int .i64 0, .int .i64 0, .int .i64 0, .string ⟨#[]⟩] 36)
            rw [hx] at ha hb' ⊢
            have hal : W.heap.size ≤ wq4.heap.size := hb.size
            refine hK.out _ _ (hb.trans (hb'.mono hb.size)) (fun hHeld => ?_)
            replace hv := hv.below hb' hv.lt
            replace hd := hd.below hb' hd.lt
            replace hg := hg.below hb' hg.lt
            generalize wq4.heap.size = ga at *
            clear hb hb'
            have hb := hHeld
            clear hx
            clear hK K
            try simp only [Act.put, List.setIfInBounds_toArray, List.set_cons_zero, List.set_cons_succ]
            refine Ord.go_one (i := 18) (by kernel_rfl) (by kernel_rfl) ?_
            apply Ord.go_done1
            next => (simp only [List.getElem?_toArray, List.getElem?_cons_succ, List.getElem?_cons_zero]; rfl)
            next => rfl
            intro K hK
            have q0 := ha.cell 0 _ rfl
            have q1 := ha.cell 1 _ rfl
            have q2 := ha.cell 2 _ rfl
            have q3 := ha.cell 3 _ rfl
            have f0 := ha.frozen 0
            have f1 := ha.frozen 1
            have f2 := ha.frozen 2
            have f3 := ha.frozen 3
            have lga := ha.lt
            go_wp2_with fail
            refine hK.out _ _ (below4 (g := ga) _ _ _ _ hb hal) (fun hHeld => ?_)
            replace ha := set4 (.int .i64 t.k) (.int .i64 t.lo) (.int .i64 t.hi) (.string t.name) ha
            clear hb q0 q1 q2 q3 f0 f1 f2 f3 lga
            have hb := hHeld
            clear hK K
            refine Ord.go_tail ?_; simp only [List.drop_succ_cons, List.drop_zero]
            go_wp2_with fail
            refine ⟨rfl, db, gb, ga, ?_, ha, hb⟩
            simp only [putL, Act.put, List.setIfInBounds_toArray, List.set_cons_zero, List.set_cons_succ]
            try rfl
          ·
            apply Ord.go_done1
            next => (simp only [List.getElem?_toArray, List.getElem?_cons_succ, List.getElem?_cons_zero]; rfl)
            next => rfl
            intro K hK
            go_wp2_with fail
            obtain ⟨wq4, hx⟩ : ∃ q, wq3.alloc (.cells #[.int .i64 0, .int .i64 0, .int .i64 0, .string ⟨#[]⟩] 36) = q := ⟨_, rfl⟩
            have ha := Aid.Has.new wq3 [.int .i64 0, .int .i64 0, .int .i64 0, .string ⟨#[]⟩] 36
            have hb' := below_new wq3 (.cells #[.int .i64 0, .int .i64 0, .int .i64 0, .string ⟨#[]⟩] 36)
            rw [hx] at ha hb' ⊢
            have hal : W.heap.size ≤ wq3.heap.size := hb.size
            refine hK.out _ _ (hb.trans (hb'.mono hb.size)) (fun hHeld => ?_)
            replace hv := hv.below hb' hv.lt
            replace hd := hd.below hb' hd.lt
            replace hg := hg.below hb' hg.lt
            generalize wq3.heap.size = ga at *
            clear hb hb'
            have hb := hHeld
            clear hx
            clear hK K
            try simp only [Act.put, List.setIfInBounds_toArray, List.set_cons_zero, List.set_cons_succ]
            refine Ord.go_one (i := 13) (by kernel_rfl) (by kernel_rfl) ?_
            apply Ord.go_done1
            next => (simp only [List.getElem?_toArray, List.getElem?_cons_succ, List.getElem?_cons_zero]; rfl)
            next => rfl
            intro K hK
            go_wp2_with fail
            refine (Expr_prog 2 [Ty.oneD vb] (some ⟨db, 0, none⟩) _ 1 0 (Ty.oneD vb) (Ex.bn op gb sa sb) t c _ rfl rfl (by simp [Ty.oneD]) (one_at hv hd) (Nat.le_refl _) (exs_bn HA.out HB.out hg) (exlim_bn op gb HA.out HB.out) (HTC.out vb gb)).mono ?_; rintro _ wq5 ⟨rfl, hb'⟩; dsimp only
            refine hK.out _ _ (hb.trans (hb'.mono hb.size)) (fun hHeld => ?_)
            replace hv := hv.below hb' hv.lt
            replace hd := hd.below hb' hd.lt
            replace hg := hg.below hb' hg.lt
            replace ha := ha.below hb' ha.lt
            clear hb hb'
            have hb := hHeld
            clear hK K
            try simp only [Act.put, List.setIfInBounds_toArray, List.set_cons_zero, List.set_cons_succ]
            apply Ord.go_light (i := 14) (by kernel_rfl)
            next => (simp only [List.getElem?_toArray, List.getElem?_cons_succ, List.getElem?_cons_zero]; rfl)
            next => rfl
            next => (intro w' hSw; clear hSw; go_simp; first | done | with_reducible rfl)
            simp only [Act.put, List.setIfInBounds_toArray, List.set_cons_zero, List.set_cons_succ]
            apply Ord.go_light (i := 15) (by kernel_rfl)
            next => (simp only [List.getElem?_toArray, List.getElem?_cons_succ, List.getElem?_cons_zero]; rfl)
            next => rfl
            next => (intro w' hSw; clear hSw; go_simp; first | done | with_reducible rfl)
            simp only [Act.put, List.setIfInBounds_toArray, List.set_cons_zero, List.set_cons_succ]
            apply Ord.go_light (i := 16) (by kernel_rfl)
            next => (simp only [List.getElem?_toArray, List.getElem?_cons_succ, List.getElem?_cons_zero]; rfl)
            next => rfl
            next => (intro w' hSw; clear hSw; go_simp; first | done | with_reducible rfl)
            simp only [Act.put, List.setIfInBounds_toArray, List.set_cons_zero, List.set_cons_succ]
            refine Ord.go_one (i := 18) (by kernel_rfl) (by kernel_rfl) ?_
            apply Ord.go_done1
            next => (simp only [List.getElem?_toArray, List.getElem?_cons_succ, List.getElem?_cons_zero]; rfl)
            next => rfl
            intro K hK
            have q0 := ha.cell 0 _ rfl
            have q1 := ha.cell 1 _ rfl
            have q2 := ha.cell 2 _ rfl
            have q3 := ha.cell 3 _ rfl
            have f0 := ha.frozen 0
            have f1 := ha.frozen 1
            have f2 := ha.frozen 2
            have f3 := ha.frozen 3
            have lga := ha.lt
            go_wp2_with fail
            refine hK.out _ _ (below4 (g := ga) _ _ _ _ hb hal) (fun hHeld => ?_)
            replace ha := set4 (.int .i64 t.k) (.int .i64 t.lo) (.int .i64 t.hi) (.string t.name) ha
            clear hb q0 q1 q2 q3 f0 f1 f2 f3 lga
            have hb := hHeld
            clear hK K
            refine Ord.go_tail ?_; simp only [List.drop_succ_cons, List.drop_zero]
            go_wp2_with fail
            refine ⟨rfl, db, gb, ga, ?_, ha, hb⟩
            simp only [putL, Act.put, List.setIfInBounds_toArray, List.set_cons_zero, List.set_cons_succ]
            try rfl
        ·
          apply Ord.go_done1
          next => (simp only [List.getElem?_toArray, List.getElem?_cons_succ, List.getElem?_cons_zero]; rfl)
          next => rfl
          intro K hK
          go_wp2_with fail
          obtain ⟨wq3, hx⟩ : ∃ q, wq2.alloc (.cells #[.int .i64 0, .int .i64 0, .int .i64 0, .string ⟨#[]⟩] 36) = q := ⟨_, rfl⟩
          have ha := Aid.Has.new wq2 [.int .i64 0, .int .i64 0, .int .i64 0, .string ⟨#[]⟩] 36
          have hb' := below_new wq2 (.cells #[.int .i64 0, .int .i64 0, .int .i64 0, .string ⟨#[]⟩] 36)
          rw [hx] at ha hb' ⊢
          have hal : W.heap.size ≤ wq2.heap.size := hb.size
          refine hK.out _ _ (hb.trans (hb'.mono hb.size)) (fun hHeld => ?_)
          replace hv := hv.below hb' hv.lt
          replace hd := hd.below hb' hd.lt
          replace hg := hg.below hb' hg.lt
          generalize wq2.heap.size = ga at *
          clear hb hb'
          have hb := hHeld
          clear hx
          clear hK K
          try simp only [Act.put, List.setIfInBounds_toArray, List.set_cons_zero, List.set_cons_succ]
          refine Ord.go_one (i := 1) (by kernel_rfl) (by kernel_rfl) ?_
          apply Ord.go_done1
          next => (simp only [List.getElem?_toArray, List.getElem?_cons_succ, List.getElem?_cons_zero]; rfl)
          next => rfl
          intro K hK
          go_wp2_with fail
          refine (body_is _).mono ?_; rintro _ wq4 ⟨rfl, hb'⟩; dsimp only
          refine hK.out _ _ (hb.trans (hb'.mono hb.size)) (fun hHeld => ?_)
          replace hv := hv.below hb' hv.lt
          replace hd := hd.below hb' hd.lt
          replace hg := hg.below hb' hg.lt
          replace ha := ha.below hb' ha.lt
          clear hb hb'
          have hb := hHeld
          clear hK K
          try simp only [Act.put, List.setIfInBounds_toArray, List.set_cons_zero, List.set_cons_succ]
          refine Ord.go_one (i := 13) (by kernel_rfl) (by kernel_rfl) ?_
          apply Ord.go_done1
          next => (simp only [List.getElem?_toArray, List.getElem?_cons_succ, List.getElem?_cons_zero]; rfl)
          next => rfl
          intro K hK
          go_wp2_with fail
          refine (Expr_prog 2 [Ty.oneD vb] (some ⟨db, 0, none⟩) _ 1 0 (Ty.oneD vb) (Ex.bn op gb sa sb) t c _ rfl rfl (by simp [Ty.oneD]) (one_at hv hd) (Nat.le_refl _) (exs_bn HA.out HB.out hg) (exlim_bn op gb HA.out HB.out) (HTC.out vb gb)).mono ?_; rintro _ wq5 ⟨rfl, hb'⟩; dsimp only
          refine hK.out _ _ (hb.trans (hb'.mono hb.size)) (fun hHeld => ?_)
          replace hv := hv.below hb' hv.lt
          replace hd := hd.below hb' hd.lt
          replace hg := hg.below hb' hg.lt
          replace ha := ha.below hb' ha.lt
          clear hb hb'
          have hb := hHeld
          clear hK K
          try simp only [Act.put, List.setIfInBounds_toArray, List.set_cons_zero, List.set_cons_succ]
          apply Ord.go_light (i := 14) (by kernel_rfl)
          next => (simp only [List.getElem?_toArray, List.getElem?_cons_succ, List.getElem?_cons_zero]; rfl)
          next => rfl
          next => (intro w' hSw; clear hSw; go_simp; first | done | with_reducible rfl)
          simp only [Act.put, List.setIfInBounds_toArray, List.set_cons_zero, List.set_cons_succ]
          apply Ord.go_light (i := 15) (by kernel_rfl)
          next => (simp only [List.getElem?_toArray, List.getElem?_cons_succ, List.getElem?_cons_zero]; rfl)
          next => rfl
          next => (intro w' hSw; clear hSw; go_simp; first | done | with_reducible rfl)
          simp only [Act.put, List.setIfInBounds_toArray, List.set_cons_zero, List.set_cons_succ]
          apply Ord.go_light (i := 16) (by kernel_rfl)
          next => (simp only [List.getElem?_toArray, List.getElem?_cons_succ, List.getElem?_cons_zero]; rfl)
          next => rfl
          next => (intro w' hSw; clear hSw; go_simp; first | done | with_reducible rfl)
          simp only [Act.put, List.setIfInBounds_toArray, List.set_cons_zero, List.set_cons_succ]
          refine Ord.go_one (i := 18) (by kernel_rfl) (by kernel_rfl) ?_
          apply Ord.go_done1
          next => (simp only [List.getElem?_toArray, List.getElem?_cons_succ, List.getElem?_cons_zero]; rfl)
          next => rfl
          intro K hK
          have q0 := ha.cell 0 _ rfl
          have q1 := ha.cell 1 _ rfl
          have q2 := ha.cell 2 _ rfl
          have q3 := ha.cell 3 _ rfl
          have f0 := ha.frozen 0
          have f1 := ha.frozen 1
          have f2 := ha.frozen 2
          have f3 := ha.frozen 3
          have lga := ha.lt
          go_wp2_with fail
          refine hK.out _ _ (below4 (g := ga) _ _ _ _ hb hal) (fun hHeld => ?_)
          replace ha := set4 (.int .i64 t.k) (.int .i64 t.lo) (.int .i64 t.hi) (.string t.name) ha
          clear hb q0 q1 q2 q3 f0 f1 f2 f3 lga
          have hb := hHeld
          clear hK K
          refine Ord.go_tail ?_; simp only [List.drop_succ_cons, List.drop_zero]
          go_wp2_with fail
          refine ⟨rfl, db, gb, ga, ?_, ha, hb⟩
          simp only [putL, Act.put, List.setIfInBounds_toArray, List.set_cons_zero, List.set_cons_succ]
          try rfl
      ·
        apply Ord.go_done1
        next => (simp only [List.getElem?_toArray, List.getElem?_cons_succ, List.getElem?_cons_zero]; rfl)
        next => rfl
        intro K hK
        go_wp2_with fail
        obtain ⟨wq2, hx⟩ : ∃ q, wq1.alloc (.cells #[.int .i64 0, .int .i64 0, .int .i64 0, .string ⟨#[]⟩] 36) = q := ⟨_, rfl⟩
        have ha := Aid.Has.new wq1 [.int .i64 0, .int .i64 0, .int .i64 0, .string ⟨#[]⟩] 36
        have hb' := below_new wq1 (.cells #[.int .i64 0, .int .i64 0, .int .i64 0, .string ⟨#[]⟩] 36)
        rw [hx] at ha hb' ⊢
        have hal : W.heap.size ≤ wq1.heap.size := hb.size
        refine hK.out _ _ (hb.trans (hb'.mono hb.size)) (fun hHeld => ?_)
        replace hv := hv.below hb' hv.lt
        replace hd := hd.below hb' hd.lt
        generalize wq1.heap.size = ga at *
        clear hb hb'
        have hb := hHeld
        clear hx
        clear hK K
        try simp only [Act.put, List.setIfInBounds_toArray, List.set_cons_zero, List.set_cons_succ]
        refine Ord.go_two (i := 1) (j := 11) (by kernel_rfl) (by kernel_rfl) ?_ ?_
        ·
          apply Ord.go_done1
          next => (simp only [List.getElem?_toArray, List.getElem?_cons_succ, List.getElem?_cons_zero]; rfl)
          next => rfl
          intro K hK
          go_wp2_with fail
          refine (body_is _).mono ?_; rintro _ wq3 ⟨rfl, hb'⟩; dsimp only
          refine hK.out _ _ (hb.trans (hb'.mono hb.size)) (fun hHeld => ?_)
          replace hv := hv.below hb' hv.lt
          replace hd := hd.below hb' hd.lt
          replace ha := ha.below hb' ha.lt
          clear hb hb'
          have hb := hHeld
          clear hK K
          try simp only [Act.put, List.setIfInBounds_toArray, List.set_cons_zero, List.set_cons_succ]
          refine Ord.go_one (i := 11) (by kernel_rfl) (by kernel_rfl) ?_
          apply Ord.go_done1
          next => (simp only [List.getElem?_toArray, List.getElem?_cons_succ, List.getElem?_cons_zero]; rfl)
          next => rfl
          intro K hK
          go_wp2_with fail
          obtain ⟨wq4, hx⟩ : ∃ q, wq3.alloc (.cells #[.int .i64 sa.k, .int .i64 sa.n, .string sa.name, .string sa.what, .slice sa.A sa.args.length sa.c, .int .i64 sb.k, .int .i64 sb.n, .string sb.name, .string sb.what, .slice sb.A sb.args.length sb.c] 29) = q := ⟨_, rfl⟩
          have hg := Aid.Has.new wq3 [.int .i64 sa.k, .int .i64 sa.n, .string sa.name, .string sa.what, .slice sa.A sa.args.length sa.c, .int .i64 sb.k, .int .i64 sb.n, .string sb.name, .string sb.what, .slice sb.A sb.args.length sb.c] 29
          have hb' := below_new wq3 (.cells #[.int .i64 sa.k, .int .i64 sa.n, .string sa.name, .string sa.what, .slice sa.A sa.args.length sa.c, .int .i64 sb.k, .int .i64 sb.n, .string sb.name, .string sb.what, .slice sb.A sb.args.length sb.c] 29)
          rw [hx] at hg hb' ⊢
          refine hK.out _ _ (hb.trans (hb'.mono hb.size)) (fun hHeld => ?_)
          replace hv := hv.below hb' hv.lt
          replace hd := hd.below hb' hd.lt
          replace ha := ha.below hb' ha.lt
          generalize wq3.heap.size = gb at *
          clear hb hb'
          have hb := hHeld
          clear hx
          clear hK K
          try simp only [Act.put, List.setIfInBounds_toArray, List.set_cons_zero, List.set_cons_succ]
          apply Ord.go_light (i := 12) (by kernel_rfl)
          next => (simp only [List.getElem?_toArray, List.getElem?_cons_succ, List.getElem?_cons_zero]; rfl)
          next => rfl
          next => (intro w' hSw; clear hSw; go_simp; first | done | with_reducible rfl)
          simp only [Act.put, List.setIfInBounds_toArray, List.set_cons_zero, List.set_cons_succ]
          refine Ord.go_one (i := 13) (by kernel_rfl) (by kernel_rfl) ?_
          apply Ord.go_done1
          next => (simp only [List.getElem?_toArray, List.getElem?_cons_succ, List.getElem?_cons_zero]; rfl)
          next => rfl
          intro K hK
          go_wp2_with fail
          refine (Expr_prog 2 [Ty.oneD vb] (some ⟨db, 0, none⟩) _ 1 0 (Ty.oneD vb) (Ex.bn op gb sa sb) t c _ rfl rfl (by simp [Ty.oneD]) (one_at hv hd) (Nat.le_refl _) (exs_bn HA.out HB.out hg) (exlim_bn op gb HA.out HB.out) (HTC.out vb gb)).mono ?_; rintro _ wq5 ⟨rfl, hb'⟩; dsimp only
          refine hK.out _ _ (hb.trans (hb'.mono hb.size)) (fun hHeld => ?_)
          replace hv := hv.below hb' hv.lt
          replace hd := hd.below hb' hd.lt
          replace hg := hg.below hb' hg.lt
          replace ha := ha.below hb' ha.lt
          clear hb hb'
          have hb := hHeld
          clear hK K
          try simp only [Act.put, List.setIfInBounds_toArray, List.set_cons_zero, List.set_cons_succ]
          apply Ord.go_light (i := 14) (by kernel_rfl)
          next => (simp only [List.getElem?_toArray, List.getElem?_cons_succ, List.getElem?_cons_zero]; rfl)
          next => rfl
          next => (intro w' hSw; clear hSw; go_simp; first | done | with_reducible rfl)
          simp only [Act.put, List.setIfInBounds_toArray, List.set_cons_zero, List.set_cons_succ]
          apply Ord.go_light (i := 15) (by kernel_rfl)
          next => (simp only [List.getElem?_toArray, List.getElem?_cons_succ, List.getElem?_cons_zero]; rfl)
          next => rfl
          next => (intro w' hSw; clear hSw; go_simp; first | done | with_reducible rfl)
          simp only [Act.put, List.setIfInBounds_toArray, List.set_cons_zero, List.set_cons_succ]
          apply Ord.go_light (i := 16) (by kernel_rfl)
          next => (simp only [List.getElem?_toArray, List.getElem?_cons_succ, List.getElem?_cons_zero]; rfl)
          next => rfl
          next => (intro w' hSw; clear hSw; go_simp; first | done | with_reducible rfl)
          simp only [Act.put, List.setIfInBounds_toArray, List.set_cons_zero, List.set_cons_succ]
          refine Ord.go_one (i := 18) (by kernel_rfl) (by kernel_rfl) ?_
          apply Ord.go_done1
          next => (simp only [List.getElem?_toArray, List.getElem?_cons_succ, List.getElem?_cons_zero]; rfl)
          next => rfl
          intro K hK
          have q0 := ha.cell 0 _ rfl
          have q1 := ha.cell 1 _ rfl
          have q2 := ha.cell 2 _ rfl
          have q3 := ha.cell 3 _ rfl
          have f0 := ha.frozen 0
          have f1 := ha.frozen 1
          have f2 := ha.frozen 2
          have f3 := ha.frozen 3
          have lga := ha.lt
          go_wp2_with fail
          refine hK.out _ _ (below4 (g := ga) _ _ _ _ hb hal) (fun hHeld => ?_)
          replace ha := set4 (.int .i64 t.k) (.int .i64 t.lo) (.int .i64 t.hi) (.string t.name) ha
          clear hb q0 q1 q2 q3 f0 f1 f2 f3 lga
          have hb := hHeld
          clear hK K
          refine Ord.go_tail ?_; simp only [List.drop_succ_cons, List.drop_zero]
          go_wp2_with fail
          refine ⟨rfl, db, gb, ga, ?_, ha, hb⟩
          simp only [putL, Act.put, List.setIfInBounds_toArray, List.set_cons_zero, List.set_cons_succ]
          try rfl
        ·
          apply Ord.go_done1
          next => (simp only [List.getElem?_toArray, List.getElem?_cons_succ, List.getElem?_cons_zero]; rfl)
          next => rfl
          intro K hK
          go_wp2_with fail
          obtain ⟨wq3, hx⟩ : ∃ q, wq2.alloc (.cells #[.int .i64 sa.k, .int .i64 sa.n, .string sa.name, .string sa.what, .slice sa.A sa.args.length sa.c, .int .i64 sb.k, .int .i64 sb.n, .string sb.name, .string sb.what, .slice sb.A sb.args.length sb.c] 29) = q := ⟨_, rfl⟩
          have hg := Aid.Has.new wq2 [.int .i64 sa.k, .int .i64 sa.n, .string sa.name, .string sa.what, .slice sa.A sa.args.length sa.c, .int .i64 sb.k, .int .i64 sb.n, .string sb.name, .string sb.what, .slice sb.A sb.args.length sb.c] 29
          have hb' := below_new wq2 (.cells #[.int .i64 sa.k, .int .i64 sa.n, .string sa.name, .string sa.what, .slice sa.A sa.args.length sa.c, .int .i64 sb.k, .int .i64 sb.n, .string sb.name, .string sb.what, .slice sb.A sb.args.length sb.c] 29)
          rw [hx] at hg hb' ⊢
          refine hK.out _ _ (hb.trans (hb'.mono hb.size)) (fun hHeld => ?_)
          replace hv := hv.below hb' hv.lt
          replace hd := hd.below hb' hd.lt
          replace ha := ha.below hb' ha.lt
          generalize wq2.heap.size = gb at *
          clear hb hb'
          have hb := hHeld
          clear hx
          clear hK K
          try simp only [Act.put, List.setIfInBounds_toArray, List.set_cons_zero, List.set_cons_succ]
          apply Ord.go_light (i := 12) (by kernel_rfl)
          next => (simp only [List.getElem?_toArray, List.getElem?_cons_succ, List.getElem?_cons_zero]; rfl)
          next => rfl
          next => (intro w' hSw; clear hSw; go_simp; first | done | with_reducible rfl)
          simp only [Act.put, List.setIfInBounds_toArray, List.set_cons_zero, List.set_cons_succ]
          refine Ord.go_one (i := 1) (by kernel_rfl) (by kernel_rfl) ?_
          apply Ord.go_done1
          next => (simp only [List.getElem?_toArray, List.getElem?_cons_succ, List.getElem?_cons_zero]; rfl)
          next => rfl
          intro K hK
          go_wp2_with fail
          refine (body_is _).mono ?_; rintro _ wq4 ⟨rfl, hb'⟩; dsimp only
          refine hK.out _ _ (hb.trans (hb'.mono hb.size)) (fun hHeld => ?_)
          replace hv := hv.below hb' hv.lt
          replace hd := hd.below hb' hd.lt
          replace hg := hg.below hb' hg.lt
          replace ha := ha.below hb' ha.lt
          clear hb hb'
          have hb := hHeld
          clear hK K
          try simp only [Act.put, List.setIfInBounds_toArray, List.set_cons_zero, List.set_cons_succ]
          refine Ord.go_one (i := 13) (by kernel_rfl) (by kernel_rfl) ?_
          apply Ord.go_done1
          next => (simp only [List.getElem?_toArray, List.getElem?_cons_succ, List.getElem?_cons_zero]; rfl)
          next => rfl
          intro K hK
          go_wp2_with fail
          refine (Expr_prog 2 [Ty.oneD vb] (some ⟨db, 0, none⟩) _ 1 0 (Ty.oneD vb) (Ex.bn op gb sa sb) t c _ rfl rfl (by simp [Ty.oneD]) (one_at hv hd) (Nat.le_refl _) (exs_bn HA.out HB.out hg) (exlim_bn op gb HA.out HB.out) (HTC.out vb gb)).mono ?_; rintro _ wq5 ⟨rfl, hb'⟩; dsimp only
          refine hK.out _ _ (hb.trans (hb'.mono hb.size)) (fun hHeld => ?_)
          replace hv := hv.below hb' hv.lt
          replace hd := hd.below hb' hd.lt
          replace hg := hg.below hb' hg.lt
          replace ha := ha.below hb' ha.lt
          clear hb hb'
          have hb := hHeld
          clear hK K
          try simp only [Act.put, List.setIfInBounds_toArray, List.set_cons_zero, List.set_cons_succ]
          apply Ord.go_light (i := 14) (by kernel_rfl)
          next => (simp only [List.getElem?_toArray, List.getElem?_cons_succ, List.getElem?_cons_zero]; rfl)
          next => rfl
          next => (intro w' hSw; clear hSw; go_simp; first | done | with_reducible rfl)
          simp only [Act.put, List.setIfInBounds_toArray, List.set_cons_zero, List.set_cons_succ]
          apply Ord.go_light (i := 15) (by kernel_rfl)
          next => (simp only [List.getElem?_toArray, List.getElem?_cons_succ, List.getElem?_cons_zero]; rfl)
          next => rfl
          next => (intro w' hSw; clear hSw; go_simp; first | done | with_reducible rfl)
          simp only [Act.put, List.setIfInBounds_toArray, List.set_cons_zero, List.set_cons_succ]
          apply Ord.go_light (i := 16) (by kernel_rfl)
          next => (simp only [List.getElem?_toArray, List.getElem?_cons_succ, List.getElem?_cons_zero]; rfl)
          next => rfl
          next => (intro w' hSw; clear hSw; go_simp; first | done | with_reducible rfl)
          simp only [Act.put, List.setIfInBounds_toArray, List.set_cons_zero, List.set_cons_succ]
          refine Ord.go_one (i := 18) (by kernel_rfl) (by kernel_rfl) ?_
          apply Ord.go_done1
          next => (simp only [List.getElem?_toArray, List.getElem?_cons_succ, List.getElem?_cons_zero]; rfl)
          next => rfl
          intro K hK
          have q0 := ha.cell 0 _ rfl
          have q1 := ha.cell 1 _ rfl
          have q2 := ha.cell 2 _ rfl
          have q3 := ha.cell 3 _ rfl
          have f0 := ha.frozen 0
          have f1 := ha.frozen 1
          have f2 := ha.frozen 2
          have f3 := ha.frozen 3
          have lga := ha.lt
          go_wp2_with fail
          refine hK.out _ _ (below4 (g := ga) _ _ _ _ hb hal) (fun hHeld => ?_)
          replace ha := set4 (.int .i64 t.k) (.int .i64 t.lo) (.int .i64 t.hi) (.string t.name) ha
          clear hb q0 q1 q2 q3 f0 f1 f2 f3 lga
          have hb := hHeld
          clear hK K
          refine Ord.go_tail ?_; simp only [List.drop_succ_cons, List.drop_zero]
          go_wp2_with fail
          refine ⟨rfl, db, gb, ga, ?_, ha, hb⟩
          simp only [putL, Act.put, List.setIfInBounds_toArray, List.set_cons_zero, List.set_cons_succ]
          try rfl
    ·
      apply Ord.go_done1
      next => (simp only [List.getElem?_toArray, List.getElem?_cons_succ, List.getElem?_cons_zero]; rfl)
      next => rfl
      intro K hK
      go_wp2_with fail
      obtain ⟨wq1, hx⟩ : ∃ q, wd0.alloc (.cells #[.int .i64 sa.k, .int .i64 sa.n, .string sa.name, .string sa.what, .slice sa.A sa.args.length sa.c, .int .i64 sb.k, .int .i64 sb.n, .string sb.name, .string sb.what, .slice sb.A sb.args.length sb.c] 29) = q := ⟨_, rfl⟩
      have hg := Aid.Has.new wd0 [.int .i64 sa.k, .int .i64 sa.n, .string sa.name, .string sa.what, .slice sa.A sa.args.length sa.c, .int .i64 sb.k, .int .i64 sb.n, .string sb.name, .string sb.what, .slice sb.A sb.args.length sb.c] 29
      have hb' := below_new wd0 (.cells #[.int .i64 sa.k, .int .i64 sa.n, .string sa.name, .string sa.what, .slice sa.A sa.args.length sa.c, .int .i64 sb.k, .int .i64 sb.n, .string sb.name, .string sb.what, .slice sb.A sb.args.length sb.c] 29)
      rw [hx] at hg hb' ⊢
      refine hK.out _ _ (hb.trans (hb'.mono hb.size)) (fun hHeld => ?_)
      generalize wd0.heap.size = gb at *
      clear hb hb'
      have hb := hHeld
      clear hx
      clear hK K
      try simp only [Act.put, List.setIfInBounds_toArray, List.set_cons_zero, List.set_cons_succ]
      apply Ord.go_light (i := 12) (by kernel_rfl)
      next => (simp only [List.getElem?_toArray, List.getElem?_cons_succ, List.getElem?_cons_zero]; rfl)
      next => rfl
      next => (intro w' hSw; clear hSw; go_simp; first | done | with_reducible rfl)
      simp only [Act.put, List.setIfInBounds_toArray, List.set_cons_zero, List.set_cons_succ]
      refine Ord.go_two (i := 0) (j := 17) (by kernel_rfl) (by kernel_rfl) ?_ ?_
      ·
        apply Ord.go_done1
        next => (simp only [List.getElem?_toArray, List.getElem?_cons_zero]; rfl)
        next => rfl
        intro K hK
        go_wp2_with fail
        refine (one_is _).mono ?_; rintro _ wq2 ⟨vb, db, rfl, hv, hd, hb'⟩; dsimp only
        refine hK.out _ _ (hb.trans (hb'.mono hb.size)) (fun hHeld => ?_)
        replace hg := hg.below hb' hg.lt
        clear hb hb'
        have hb := hHeld
        clear hK K
        try simp only [Act.put, List.setIfInBounds_toArray, List.set_cons_zero, List.set_cons_succ]
        refine Ord.go_two (i := 1) (j := 17) (by kernel_rfl) (by kernel_rfl) ?_ ?_
        ·
          apply Ord.go_done1
          next => (simp only [List.getElem?_toArray, List.getElem?_cons_succ, List.getElem?_cons_zero]; rfl)
          next => rfl
          intro K hK
          go_wp2_with fail
          refine (body_is _).mono ?_; rintro _ wq3 ⟨rfl, hb'⟩; dsimp only
          refine hK.out _ _ (hb.trans (hb'.mono hb.size)) (fun hHeld => ?_)
          replace hv := hv.below hb' hv.lt
          replace hd := hd.below hb' hd.lt
          replace hg := hg.below hb' hg.lt
          clear hb hb'
          have hb := hHeld
          clear hK K
          try simp only [Act.put, List.setIfInBounds_toArray, List.set_cons_zero, List.set_cons_succ]
          refine Ord.go_two (i := 13) (j := 17) (by kernel_rfl) (by kernel_rfl) ?_ ?_
          ·
            apply Ord.go_done1
            next => (simp only [List.getElem?_toArray, List.getElem?_cons_succ, List.getElem?_cons_zero]; rfl)
            next => rfl
            intro K hK
            go_wp2_with fail
            refine (Expr_prog 2 [Ty.oneD vb] (some ⟨db, 0, none⟩) _ 1 0 (Ty.oneD vb) (Ex.bn op gb sa sb) t c _ rfl rfl (by simp [Ty.oneD]) (one_at hv hd) (Nat.le_refl _) (exs_bn HA.out HB.out hg) (exlim_bn op gb HA.out HB.out) (HTC.out vb gb)).mono ?_; rintro _ wq4 ⟨rfl, hb'⟩; dsimp only
            refine hK.out _ _ (hb.trans (hb'.mono hb.size)) (fun hHeld => ?_)
            replace hv := hv.below hb' hv.lt
            replace hd := hd.below hb' hd.lt
            replace hg := hg.below hb' hg.lt
            clear hb hb'
            have hb := hHeld
            clear hK K
            try simp only [Act.put, List.setIfInBounds_toArray, List.set_cons_zero, List.set_cons_succ]
            apply Ord.go_light (i := 14) (by kernel_rfl)
            next => (simp only [List.getElem?_toArray, List.getElem?_cons_succ, List.getElem?_cons_zero]; rfl)
            next => rfl
            next => (intro w' hSw; clear hSw; go_simp; first | done | with_reducible rfl)
            simp only [Act.put, List.setIfInBounds_toArray, List.set_cons_zero, List.set_cons_succ]
            apply Ord.go_light (i := 15) (by kernel_rfl)
            next => (simp only [List.getElem?_toArray, List.getElem?_cons_succ, List.getElem?_cons_zero]; rfl)
            next => rfl
            next => (intro w' hSw; clear hSw; go_simp; first | done | with_reducible rfl)
            simp only [Act.put, List.setIfInBounds_toArray, List.set_cons_zero, List.set_cons_succ]
            apply Ord.go_light (i := 16) (by kernel_rfl)
            next => (simp only [List.getElem?_toArray, List.getElem?_cons_succ, List.getElem?_cons_zero]; rfl)
            next => rfl
            next => (intro w' hSw; clear hSw; go_simp; first | done | with_reducible rfl)
            simp only [Act.put, List.setIfInBounds_toArray, List.set_cons_zero, List.set_cons_succ]
            refine Ord.go_one (i := 17) (by kernel_rfl) (by kernel_rfl) ?_
            apply Ord.go_done1
            next => (simp only [List.getElem?_toArray, List.getElem?_cons_succ, List.getElem?_cons_zero]; rfl)
            next => rfl
            intro K hK
            go_wp2_with fail
            obtain ⟨wq5, hx⟩ : ∃ q, wq4.alloc (.cells #[.int .i64 0, .int .i64 0, .int .i64 0, .string ⟨#[]⟩] 36) = q := ⟨_, rfl⟩
            have ha := Aid.Has.new wq4 [.int .i64 0, .int .i64 0, .int .i64 0, .string ⟨#[]⟩] 36
            have hb' := below_new wq4 (.cells #[.int .i64 0, .int .i64 0, .int .i64 0, .string ⟨#[]⟩] 36)
            rw [hx] at ha hb' ⊢
            have hal : W.heap.size ≤ wq4.heap.size := hb.size
            refine hK.out _ _ (hb.trans (hb'.mono hb.size)) (fun hHeld => ?_)
            replace hv := hv.below hb' hv.lt
            replace hd := hd.below hb' hd.lt
            replace hg := hg.below hb' hg.lt
            generalize wq4.heap.size = ga at *
            clear hb hb'
            have hb := hHeld
            clear hx
            clear hK K
            try simp only [Act.put, List.setIfInBounds_toArray, List.set_cons_zero, List.set_cons_succ]
            refine Ord.go_one (i := 18) (by kernel_rfl) (by kernel_rfl) ?_
            apply Ord.go_done1
            next => (simp only [List.getElem?_toArray, List.getElem?_cons_succ, List.getElem?_cons_zero]; rfl)
            next => rfl
            intro K hK
            have q0 := ha.cell 0 _ rfl
            have q1 := ha.cell 1 _ rfl
            have q2 := ha.cell 2 _ rfl
            have q3 := ha.cell 3 _ rfl
            have f0 := ha.frozen 0
            have f1 := ha.frozen 1
            have f2 := ha.frozen 2
            have f3 := ha.frozen 3
            have lga := ha.lt
            go_wp2_with fail
            refine hK.out _ _ (below4 (g := ga) _ _ _ _ hb hal) (fun hHeld => ?_)
            replace ha := set4 (.int .i64 t.k) (.int .i64 t.lo) (.int .i64 t.hi) (.string t.name) ha
            clear hb q0 q1 q2 q3 f0 f1 f2 f3 lga
            have hb := hHeld
            clear hK K
            refine Ord.go_tail ?_; simp only [List.drop_succ_cons, List.drop_zero]
            go_wp2_with fail
            refine ⟨rfl, db, gb, ga, ?_, ha, hb⟩
            simp only [putL, Act.put, List.setIfInBounds_toArray, List.set_cons_zero, List.set_cons_succ]
            try rfl
          ·
            apply Ord.go_done1
            next => (simp only [List.getElem?_toArray, List.getElem?_cons_succ, List.getElem?_cons_zero]; rfl)
            next => rfl
            intro K hK
            go_wp2_with fail
            obtain ⟨wq4, hx⟩ : ∃ q, wq3.alloc (.cells #[.int .i64 0, .int .i64 0, .int .i64 0, .string ⟨#[]⟩] 36) = q := ⟨_, rfl⟩
            have ha := Aid.Has.new wq3 [.int .i64 0, .int .i64 0, .int .i64 0, .string ⟨#[]⟩] 36
            have hb' := below_new wq3 (.cells #[.int .i64 0, .int .i64 0, .int .i64 0, .string ⟨#[]⟩] 36)
            rw [hx] at ha hb' ⊢
            have hal : W.heap.size ≤ wq3.heap.size := hb.size
            refine hK.out _ _ (hb.trans (hb'.mono hb.size)) (fun hHeld => ?_)
            replace hv := hv.below hb' hv.lt
            replace hd := hd.below hb' hd.lt
            replace hg := hg.below hb' hg.lt
            generalize wq3.heap.size = ga at *
            clear hb hb'
            have hb := hHeld
            clear hx
            clear hK K
            try simp only [Act.put, List.setIfInBounds_toArray, List.set_cons_zero, List.set_cons_succ]
            refine Ord.go_one (i := 13) (by kernel_rfl) (by kernel_rfl) ?_
            apply Ord.go_done1
            next => (simp only [List.getElem?_toArray, List.getElem?_cons_succ, List.getElem?_cons_zero]; rfl)
            next => rfl
            intro K hK
            go_wp2_with fail
            refine (Expr_prog 2 [Ty.oneD vb] (some ⟨db, 0, none⟩) _ 1 0 (Ty.oneD vb) (Ex.bn op gb sa sb) t c _ rfl rfl (by simp [Ty.oneD]) (one_at hv hd) (Nat.le_refl _) (exs_bn HA.out HB.out hg) (exlim_bn op gb HA.out HB.out) (HTC.out vb gb)).mono ?_; rintro _ wq5 ⟨rfl, hb'⟩; dsimp only
            refine hK.out _ _ (hb.trans (hb'.mono hb.size)) (fun hHeld => ?_)
            replace hv := hv.below hb' hv.lt
            replace hd := hd.below hb' hd.lt
            replace hg := hg.below hb' hg.lt
            replace ha := ha.below hb' ha.lt
            clear hb hb'
            have hb := hHeld
            clear hK K
            try simp only [Act.put, List.setIfInBounds_toArray, List.set_cons_zero, List.set_cons_succ]
            apply Ord.go_light (i := 14) (by kernel_rfl)
            next => (simp only [List.getElem?_toArray, List.getElem?_cons_succ, List.getElem?_cons_zero]; rfl)
            next => rfl
            next => (intro w' hSw; clear hSw; go_simp; first | done | with_reducible rfl)
            simp only [Act.put, List.setIfInBounds_toArray, List.set_cons_zero, List.set_cons_succ]
            apply Ord.go_light (i := 15) (by kernel_rfl)
            next => (simp only [List.getElem?_toArray, List.getElem?_cons_succ, List.getElem?_cons_zero]; rfl)
            next => rfl
            next => (intro w' hSw; clear hSw; go_simp; first | done | with_reducible rfl)
            simp only [Act.put, List.setIfInBounds_toArray, List.set_cons_zero, List.set_cons_succ]
            apply Ord.go_light (i := 16) (by kernel_rfl)
            next => (simp only [List.getElem?_toArray, List.getElem?_cons_succ, List.getElem?_cons_zero]; rfl)
            next => rfl
            next => (intro w' hSw; clear hSw; go_simp; first | done | with_reducible rfl)
            simp only [Act.put, List.setIfInBounds_toArray, List.set_cons_zero, List.set_cons_succ]
            refine Ord.go_one (i := 18) (by kernel_rfl) (by kernel_rfl) ?_
            apply Ord.go_done1
            next => (simp only [List.getElem?_toArray, List.getElem?_cons_succ, List.getElem?_cons_zero]; rfl)
            next => rfl
            intro K hK
            have q0 := ha.cell 0 _ rfl
            have q1 := ha.cell 1 _ rfl
            have q2 := ha.cell 2 _ rfl
            have q3 := ha.cell 3 _ rfl
            have f0 := ha.frozen 0
            have f1 := ha.frozen 1
            have f2 := ha.frozen 2
            have f3 := ha.frozen 3
            have lga := ha.lt
            go_wp2_with fail
            refine hK.out _ _ (below4 (g := ga) _ _ _ _ hb hal) (fun hHeld => ?_)
            replace ha := set4 (.int .i64 t.k) (.int .i64 t.lo) (.int .i64 t.hi) (.string t.name) ha
            clear hb q0 q1 q2 q3 f0 f1 f2 f3 lga
            have hb := hHeld
            clear hK K
            refine Ord.go_tail ?_; simp only [List.drop_succ_cons, List.drop_zero]
            go_wp2_with fail
            refine ⟨rfl, db, gb, ga, ?_, ha, hb⟩
            simp only [putL, Act.put, List.setIfInBounds_toArray, List.set_cons_zero, List.set_cons_succ]
            try rfl
        ·
          apply Ord.go_done1
          next => (simp only [List.getElem?_toArray, List.getElem?_cons_succ, List.getElem?_cons_zero]; rfl)
          next => rfl
          intro K hK
          go_wp2_with fail
          obtain ⟨wq3, hx⟩ : ∃ q, wq2.alloc (.cells #[.int .i64 0, .int .i64 0, .int .i64 0, .string ⟨#[]⟩] 36) = q := ⟨_, rfl⟩
          have ha := Aid.Has.new wq2 [.int .i64 0, .int .i64 0, .int .i64 0, .string ⟨#[]⟩] 36
          have hb' := below_new wq2 (.cells #[.int .i64 0, .int .i64 0, .int .i64 0, .string ⟨#[]⟩] 36)
          rw [hx] at ha hb' ⊢
          have hal : W.heap.size ≤ wq2.heap.size := hb.size
          refine hK.out _ _ (hb.trans (hb'.mono hb.size)) (fun hHeld => ?_)
          replace hv := hv.below hb' hv.lt
          replace hd := hd.below hb' hd.lt
          replace hg := hg.below hb' hg.lt
          generalize wq2.heap.size = ga at *
          clear hb hb'
          have hb := hHeld
          clear hx
          clear hK K
          try simp only [Act.put, List.setIfInBounds_toArray, List.set_cons_zero, List.set_cons_succ]
          refine Ord.go_one (i := 1) (by kernel_rfl) (by kernel_rfl) ?_
          apply Ord.go_done1
          next => (simp only [List.getElem?_toArray, List.getElem?_cons_succ, List.getElem?_cons_zero]; rfl)
          next => rfl
          intro K hK
          go_wp2_with fail
          refine (body_is _).mono ?_; rintro _ wq4 ⟨rfl, hb'⟩; dsimp only
          refine hK.out _ _ (hb.trans (hb'.mono hb.size)) (fun hHeld => ?_)
          replace hv := hv.below hb' hv.lt
          replace hd := hd.below hb' hd.lt
          replace hg := hg.below hb' hg.lt
          replace ha := ha.below hb' ha.lt
          clear hb hb'
          have hb := hHeld
          clear hK K
          try simp only [Act.put, List.setIfInBounds_toArray, List.set_cons_zero, List.set_cons_succ]
          refine Ord.go_one (i := 13) (by kernel_rfl) (by kernel_rfl) ?_
          apply Ord.go_done1
          next => (simp only [List.getElem?_toArray, List.getElem?_cons_succ, List.getElem?_cons_zero]; rfl)
          next => rfl
          intro K hK
          go_wp2_with fail
          refine (Expr_prog 2 [Ty.oneD vb] (some ⟨db, 0, none⟩) _ 1 0 (Ty.oneD vb) (Ex.bn op gb sa sb) t c _ rfl rfl (by simp [Ty.oneD]) (one_at hv hd) (Nat.le_refl _) (exs_bn HA.out HB.out hg) (exlim_bn op gb HA.out HB.out) (HTC.out vb gb)).mono ?_; rintro _ wq5 ⟨rfl, hb'⟩; dsimp only
          refine hK.out _ _ (hb.trans (hb'.mono hb.size)) (fun hHeld => ?_)
          replace hv := hv.below hb' hv.lt
          replace hd := hd.below hb' hd.lt
          replace hg := hg.below hb' hg.lt
          replace ha := ha.below hb' ha.lt
          clear hb hb'
          have hb := hHeld
          clear hK K
          try simp only [Act.put, List.setIfInBounds_toArray, List.set_cons_zero, List.set_cons_succ]
          apply Ord.go_light (i := 14) (by kernel_rfl)
          next => (simp only [List.getElem?_toArray, List.getElem?_cons_succ, List.getElem?_cons_zero]; rfl)
          next => rfl
          next => (intro w' hSw; clear hSw; go_simp; first | done | with_reducible rfl)
          simp only [Act.put, List.setIfInBounds_toArray, List.set_cons_zero, List.set_cons_succ]
          apply Ord.go_light (i := 15) (by kernel_rfl)
          next => (simp only [List.getElem?_toArray, List.getElem?_cons_succ, List.getElem?_cons_zero]; rfl)
          next => rfl
          next => (intro w' hSw; clear hSw; go_simp; first | done | with_reducible rfl)
          simp only [Act.put, List.setIfInBounds_toArray, List.set_cons_zero, List.set_cons_succ]
          apply Ord.go_light (i := 16) (by kernel_rfl)
          next => (simp only [List.getElem?_toArray, List.getElem?_cons_succ, List.getElem?_cons_zero]; rfl)
          next => rfl
          next => (intro w' hSw; clear hSw; go_simp; first | done | with_reducible rfl)
          simp only [Act.put, List.setIfInBounds_toArray, List.set_cons_zero, List.set_cons_succ]
          refine Ord.go_one (i := 18) (by kernel_rfl) (by kernel_rfl) ?_
          apply Ord.go_done1
          next => (simp only [List.getElem?_toArray, List.getElem?_cons_succ, List.getElem?_cons_zero]; rfl)
          next => rfl
          intro K hK
          have q0 := ha.cell 0 _ rfl
          have q1 := ha.cell 1 _ rfl
          have q2 := ha.cell 2 _ rfl
          have q3 := ha.cell 3 _ rfl
          have f0 := ha.frozen 0
          have f1 := ha.frozen 1
          have f2 := ha.frozen 2
          have f3 := ha.frozen 3
          have lga := ha.lt
          go_wp2_with fail
          refine hK.out _ _ (below4 (g := ga) _ _ _ _ hb hal) (fun hHeld => ?_)
          replace ha := set4 (.int .i64 t.k) (.int .i64 t.lo) (.int .i64 t.hi) (.string t.name) ha
          clear hb q0 q1 q2 q3 f0 f1 f2 f3 lga
          have hb := hHeld
          clear hK K
          refine Ord.go_tail ?_; simp only [List.drop_succ_cons, List.drop_zero]
          go_wp2_with fail
          refine ⟨rfl, db, gb, ga, ?_, ha, hb⟩
          simp only [putL, Act.put, List.setIfInBounds_toArray, List.set_cons_zero, List.set_cons_succ]
          try rfl
      ·
        apply Ord.go_done1
        next => (simp only [List.getElem?_toArray, List.getElem?_cons_succ, List.getElem?_cons_zero]; rfl)
        next => rfl
        intro K hK
        go_wp2_with fail
        obtain ⟨wq2, hx⟩ : ∃ q, wq1.alloc (.cells #[.int .i64 0, .int .i64 0, .int .i64 0, .string ⟨#[]⟩] 36) = q := ⟨_, rfl⟩
        have ha := Aid.Has.new wq1 [.int .i64 0, .int .i64 0, .int .i64 0, .string ⟨#[]⟩] 36
        have hb' := below_new wq1 (.cells #[.int .i64 0, .int .i64 0, .int .i64 0, .string ⟨#[]⟩] 36)
        rw [hx] at ha hb' ⊢
        have hal : W.heap.size ≤ wq1.heap.size := hb.size
        refine hK.out _ _ (hb.trans (hb'.mono hb.size)) (fun hHeld => ?_)
        replace hg := hg.below hb' hg.lt
        generalize wq1.heap.size = ga at *
        clear hb hb'
        have hb := hHeld
        clear hx
        clear hK K
        try simp only [Act.put, List.setIfInBounds_toArray, List.set_cons_zero, List.set_cons_succ]
        refine Ord.go_one (i := 0) (by kernel_rfl) (by kernel_rfl) ?_
        apply Ord.go_done1
        next => (simp only [List.getElem?_toArray, List.getElem?_cons_zero]; rfl)
        next => rfl
        intro K hK
        go_wp2_with fail
        refine (one_is _).mono ?_; rintro _ wq3 ⟨vb, db, rfl, hv, hd, hb'⟩; dsimp only
        refine hK.out _ _ (hb.trans (hb'.mono hb.size)) (fun hHeld => ?_)
        replace hg := hg.below hb' hg.lt
        replace ha := ha.below hb' ha.lt
        clear hb hb'
        have hb := hHeld
        clear hK K
        try simp only [Act.put, List.setIfInBounds_toArray, List.set_cons_zero, List.set_cons_succ]
        refine Ord.go_one (i := 1) (by kernel_rfl) (by kernel_rfl) ?_
        apply Ord.go_done1
        next => (simp only [List.getElem?_toArray, List.getElem?_cons_succ, List.getElem?_cons_zero]; rfl)
        next => rfl
        intro K hK
        go_wp2_with fail
        refine (body_is _).mono ?_; rintro _ wq4 ⟨rfl, hb'⟩; dsimp only
        refine hK.out _ _ (hb.trans (hb'.mono hb.size)) (fun hHeld => ?_)
        replace hv := hv.below hb' hv.lt
        replace hd := hd.below hb' hd.lt
        replace hg := hg.below hb' hg.lt
        replace ha := ha.below hb' ha.lt
        clear hb hb'
        have hb := hHeld
        clear hK K
        try simp only [Act.put, List.setIfInBounds_toArray, List.set_cons_zero, List.set_cons_succ]
        refine Ord.go_one (i := 13) (by kernel_rfl) (by kernel_rfl) ?_
        apply Ord.go_done1
        next => (simp only [List.getElem?_toArray, List.getElem?_cons_succ, List.getElem?_cons_zero]; rfl)
        next => rfl
        intro K hK
        go_wp2_with fail
        refine (Expr_prog 2 [Ty.oneD vb] (some ⟨db, 0, none⟩) _ 1 0 (Ty.oneD vb) (Ex.bn op gb sa sb) t c _ rfl rfl (by simp [Ty.oneD]) (one_at hv hd) (Nat.le_refl _) (exs_bn HA.out HB.out hg) (exlim_bn op gb HA.out HB.out) (HTC.out vb gb)).mono ?_; rintro _ wq5 ⟨rfl, hb'⟩; dsimp only
        refine hK.out _ _ (hb.trans (hb'.mono hb.size)) (fun hHeld => ?_)
        replace hv := hv.below hb' hv.lt
        replace hd := hd.below hb' hd.lt
        replace hg := hg.below hb' hg.lt
        replace ha := ha.below hb' ha.lt
        clear hb hb'
        have hb := hHeld
        clear hK K
        try simp only [Act.put, List.setIfInBounds_toArray, List.set_cons_zero, List.set_cons_succ]
        apply Ord.go_light (i := 14) (by kernel_rfl)
        next => (simp only [List.getElem?_toArray, List.getElem?_cons_succ, List.getElem?_cons_zero]; rfl)
        next => rfl
        next => (intro w' hSw; clear hSw; go_simp; first | done | with_reducible rfl)
        simp only [Act.put, List.setIfInBounds_toArray, List.set_cons_zero, List.set_cons_succ]
        apply Ord.go_light (i := 15) (by kernel_rfl)
        next => (simp only [List.getElem?_toArray, List.getElem?_cons_succ, List.getElem?_cons_zero]; rfl)
        next => rfl
        next => (intro w' hSw; clear hSw; go_simp; first | done | with_reducible rfl)
        simp only [Act.put, List.setIfInBounds_toArray, List.set_cons_zero, List.set_cons_succ]
        apply Ord.go_light (i := 16) (by kernel_rfl)
        next => (simp only [List.getElem?_toArray, List.getElem?_cons_succ, List.getElem?_cons_zero]; rfl)
        next => rfl
        next => (intro w' hSw; clear hSw; go_simp; first | done | with_reducible rfl)
        simp only [Act.put, List.setIfInBounds_toArray, List.set_cons_zero, List.set_cons_succ]
        refine Ord.go_one (i := 18) (by kernel_rfl) (by kernel_rfl) ?_
        apply Ord.go_done1
        next => (simp only [List.getElem?_toArray, List.getElem?_cons_succ, List.getElem?_cons_zero]; rfl)
        next => rfl
        intro K hK
        have q0 := ha.cell 0 _ rfl
        have q1 := ha.cell 1 _ rfl
        have q2 := ha.cell 2 _ rfl
        have q3 := ha.cell 3 _ rfl
        have f0 := ha.frozen 0
        have f1 := ha.frozen 1
        have f2 := ha.frozen 2
        have f3 := ha.frozen 3
        have lga := ha.lt
        go_wp2_with fail
        refine hK.out _ _ (below4 (g := ga) _ _ _ _ hb hal) (fun hHeld => ?_)
        replace ha := set4 (.int .i64 t.k) (.int .i64 t.lo) (.int .i64 t.hi) (.string t.name) ha
        clear hb q0 q1 q2 q3 f0 f1 f2 f3 lga
        have hb := hHeld
        clear hK K
        refine Ord.go_tail ?_; simp only [List.drop_succ_cons, List.drop_zero]
        go_wp2_with fail
        refine ⟨rfl, db, gb, ga, ?_, ha, hb⟩
        simp only [putL, Act.put, List.setIfInBounds_toArray, List.set_cons_zero, List.set_cons_succ]
        try rfl
    ·
      apply Ord.go_done1
      next => (simp only [List.getElem?_toArray, List.getElem?_cons_succ, List.getElem?_cons_zero]; rfl)
      next => rfl
      intro K hK
      go_wp2_with fail
      obtain ⟨wq1, hx⟩ : ∃ q, wd0.alloc (.cells #[.int .i64 0, .int .i64 0, .int .i64 0, .string ⟨#[]⟩] 36) = q := ⟨_, rfl⟩
      have ha := Aid.Has.new wd0 [.int .i64 0, .int .i64 0, .int .i64 0, .string ⟨#[]⟩] 36
      have hb' := below_new wd0 (.cells #[.int .i64 0, .int .i64 0, .int .i64 0, .string ⟨#[]⟩] 36)
      rw [hx] at ha hb' ⊢
      have hal : W.heap.size ≤ wd0.heap.size := hb.size
      refine hK.out _ _ (hb.trans (hb'.mono hb.size)) (fun hHeld => ?_)
      generalize wd0.heap.size = ga at *
      clear hb hb'
      have hb := hHeld
      clear hx
      clear hK K
      try simp only [Act.put, List.setIfInBounds_toArray, List.set_cons_zero, List.set_cons_succ]
      refine Ord.go_two (i := 0) (j := 11) (by kernel_rfl) (by kernel_rfl) ?_ ?_
      ·
        apply Ord.go_done1
        next => (simp only [List.getElem?_toArray, List.getElem?_cons_zero]; rfl)
        next => rfl
        intro K hK
        go_wp2_with fail
        refine (one_is _).mono ?_; rintro _ wq2 ⟨vb, db, rfl, hv, hd, hb'⟩; dsimp only
        refine hK.out _ _ (hb.trans (hb'.mono hb.size)) (fun hHeld => ?_)
        replace ha := ha.below hb' ha.lt
        clear hb hb'
        have hb := hHeld
        clear hK K
        try simp only [Act.put, List.setIfInBounds_toArray, List.set_cons_zero, List.set_cons_succ]
        refine Ord.go_two (i := 1) (j := 11) (by kernel_rfl) (by kernel_rfl) ?_ ?_
        ·
          apply Ord.go_done1
          next => (simp only [List.getElem?_toArray, List.getElem?_cons_succ, List.getElem?_cons_zero]; rfl)
          next => rfl
          intro K hK
          go_wp2_with fail
          refine (body_is _).mono ?_; rintro _ wq3 ⟨rfl, hb'⟩; dsimp only
          refine hK.out _ _ (hb.trans (hb'.mono hb.size)) (fun hHeld => ?_)
          replace hv := hv.below hb' hv.lt
          replace hd := hd.below hb' hd.lt
          replace ha := ha.below hb' ha.lt
          clear hb hb'
          have hb := hHeld
          clear hK K
          try simp only [Act.put, List.setIfInBounds_toArray, List.set_cons_zero, List.set_cons_succ]
          refine Ord.go_one (i := 11) (by kernel_rfl) (by kernel_rfl) ?_
          apply Ord.go_done1
          next => (simp only [List.getElem?_toArray, List.getElem?_cons_succ, List.getElem?_cons_zero]; rfl)
          next => rfl
          intro K hK
          go_wp2_with fail
          obtain ⟨wq4, hx⟩ : ∃ q, wq3.alloc (.cells #[.int .i64 sa.k, .int .i64 sa.n, .string sa.name, .string sa.what, .slice sa.A sa.args.length sa.c, .int .i64 sb.k, .int .i64 sb.n, .string sb.name, .string sb.what, .slice sb.A sb.args.length sb.c] 29) = q := ⟨_, rfl⟩
          have hg := Aid.Has.new wq3 [.int .i64 sa.k, .int .i64 sa.n, .string sa.name, .string sa.what, .slice sa.A sa.args.length sa.c, .int .i64 sb.k, .int .i64 sb.n, .string sb.name, .string sb.what, .slice sb.A sb.args.length sb.c] 29
          have hb' := below_new wq3 (.cells #[.int .i64 sa.k, .int .i64 sa.n, .string sa.name, .string sa.what, .slice sa.A sa.args.length sa.c, .int .i64 sb.k, .int .i64 sb.n, .string sb.name, .string sb.what, .slice sb.A sb.args.length sb.c] 29)
          rw [hx] at hg hb' ⊢
          refine hK.out _ _ (hb.trans (hb'.mono hb.size)) (fun hHeld => ?_)
          replace hv := hv.below hb' hv.lt
          replace hd := hd.below hb' hd.lt
          replace ha := ha.below hb' ha.lt
          generalize wq3.heap.size = gb at *
          clear hb hb'
          have hb := hHeld
          clear hx
          clear hK K
          try simp only [Act.put, List.setIfInBounds_toArray, List.set_cons_zero, List.set_cons_succ]
          apply Ord.go_light (i := 12) (by kernel_rfl)
          next => (simp only [List.getElem?_toArray, List.getElem?_cons_succ, List.getElem?_cons_zero]; rfl)
          next => rfl
          next => (intro w' hSw; clear hSw; go_simp; first | done | with_reducible rfl)
          simp only [Act.put, List.setIfInBounds_toArray, List.set_cons_zero, List.set_cons_succ]
          refine Ord.go_one (i := 13) (by kernel_rfl) (by kernel_rfl) ?_
          apply Ord.go_done1
          next => (simp only [List.getElem?_toArray, List.getElem?_cons_succ, List.getElem?_cons_zero]; rfl)
          next => rfl
          intro K hK
          go_wp2_with fail
          refine (Expr_prog 2 [Ty.oneD vb] (some ⟨db, 0, none⟩) _ 1 0 (Ty.oneD vb) (Ex.bn op gb sa sb) t c _ rfl rfl (by simp [Ty.oneD]) (one_at hv hd) (Nat.le_refl _) (exs_bn HA.out HB.out hg) (exlim_bn op gb HA.out HB.out) (HTC.out vb gb)).mono ?_; rintro _ wq5 ⟨rfl, hb'⟩; dsimp only
          refine hK.out _ _ (hb.trans (hb'.mono hb.size)) (fun hHeld => ?_)
          replace hv := hv.below hb' hv.lt
          replace hd := hd.below hb' hd.lt
          replace hg := hg.below hb' hg.lt
          replace ha := ha.below hb' ha.lt
          clear hb hb'
          have hb := hHeld
          clear hK K
          try simp only [Act.put, List.setIfInBounds_toArray, List.set_cons_zero, List.set_cons_succ]
          apply Ord.go_light (i := 14) (by kernel_rfl)
          next => (simp only [List.getElem?_toArray, List.getElem?_cons_succ, List.getElem?_cons_zero]; rfl)
          next => rfl
          next => (intro w' hSw; clear hSw; go_simp; first | done | with_reducible rfl)
          simp only [Act.put, List.setIfInBounds_toArray, List.set_cons_zero, List.set_cons_succ]
          apply Ord.go_light (i := 15) (by kernel_rfl)
          next => (simp only [List.getElem?_toArray, List.getElem?_cons_succ, List.getElem?_cons_zero]; rfl)
          next => rfl
          next => (intro w' hSw; clear hSw; go_simp; first | done | with_reducible rfl)
          simp only [Act.put, List.setIfInBounds_toArray, List.set_cons_zero, List.set_cons_succ]
          apply Ord.go_light (i := 16) (by kernel_rfl)
          next => (simp only [List.getElem?_toArray, List.getElem?_cons_succ, List.getElem?_cons_zero]; rfl)
          next => rfl
          next => (intro w' hSw; clear hSw; go_simp; first | done | with_reducible rfl)
          simp only [Act.put, List.setIfInBounds_toArray, List.set_cons_zero, List.set_cons_succ]
          refine Ord.go_one (i := 18) (by kernel_rfl) (by kernel_rfl) ?_
          apply Ord.go_done1
          next => (simp only [List.getElem?_toArray, List.getElem?_cons_succ, List.getElem?_cons_zero]; rfl)
          next => rfl
          intro K hK
          have q0 := ha.cell 0 _ rfl
          have q1 := ha.cell 1 _ rfl
          have q2 := ha.cell 2 _ rfl
          have q3 := ha.cell 3 _ rfl
          have f0 := ha.frozen 0
          have f1 := ha.frozen 1
          have f2 := ha.frozen 2
          have f3 := ha.frozen 3
          have lga := ha.lt
          go_wp2_with fail
          refine hK.out _ _ (below4 (g := ga) _ _ _ _ hb hal) (fun hHeld => ?_)
          replace ha := set4 (.int .i64 t.k) (.int .i64 t.lo) (.int .i64 t.hi) (.string t.name) ha
          clear hb q0 q1 q2 q3 f0 f1 f2 f3 lga
          have hb := hHeld
          clear hK K
          refine Ord.go_tail ?_; simp only [List.drop_succ_cons, List.drop_zero]
          go_wp2_with fail
          refine ⟨rfl, db, gb, ga, ?_, ha, hb⟩
          simp only [putL, Act.put, List.setIfInBounds_toArray, List.set_cons_zero, List.set_cons_succ]
          try rfl
        ·
          apply Ord.go_done1
          next => (simp only [List.getElem?_toArray, List.getElem?_cons_succ, List.getElem?_cons_zero]; rfl)
          next => rfl
          intro K hK
          go_wp2_with fail
          obtain ⟨wq3, hx⟩ : ∃ q, wq2.alloc (.cells #[.int .i64 sa.k, .int .i64 sa.n, .string sa.name, .string sa.what, .slice sa.A sa.args.length sa.c, .int .i64 sb.k, .int .i64 sb.n, .string sb.name, .string sb.what, .slice sb.A sb.args.length sb.c] 29) = q := ⟨_, rfl⟩
          have hg := Aid.Has.new wq2 [.int .i64 sa.k, .int .i64 sa.n, .string sa.name, .string sa.what, .slice sa.A sa.args.length sa.c, .int .i64 sb.k, .int .i64 sb.n, .string sb.name, .string sb.what, .slice sb.A sb.args.length sb.c] 29
          have hb' := below_new wq2 (.cells #[.int .i64 sa.k, .int .i64 sa.n, .string sa.name, .string sa.what, .slice sa.A sa.args.length sa.c, .int .i64 sb.k, .int .i64 sb.n, .string sb.name, .string sb.what, .slice sb.A sb.args.length sb.c] 29)
          rw [hx] at hg hb' ⊢
          refine hK.out _ _ (hb.trans (hb'.mono hb.size)) (fun hHeld => ?_)
          replace hv := hv.below hb' hv.lt
          replace hd := hd.below hb' hd.lt
          replace ha := ha.below hb' ha.lt
          generalize wq2.heap.size = gb at *
          clear hb hb'
          have hb := hHeld
          clear hx
          clear hK K
          try simp only [Act.put, List.setIfInBounds_toArray, List.set_cons_zero, List.set_cons_succ]
          apply Ord.go_light (i := 12) (by kernel_rfl)
          next => (simp only [List.getElem?_toArray, List.getElem?_cons_succ, List.getElem?_cons_zero]; rfl)
          next => rfl
          next => (intro w' hSw; clear hSw; go_simp; first | done | with_reducible rfl)
          simp only [Act.put, List.setIfInBounds_toArray, List.set_cons_zero, List.set_cons_succ]
          refine Ord.go_one (i := 1) (by kernel_rfl) (by kernel_rfl) ?_
          apply Ord.go_done1
          next => (simp only [List.getElem?_toArray, List.getElem?_cons_succ, List.getElem?_cons_zero]; rfl)
          next => rfl
          intro K hK
          go_wp2_with fail
          refine (body_is _).mono ?_; rintro _ wq4 ⟨rfl, hb'⟩; dsimp only
          refine hK.out _ _ (hb.trans (hb'.mono hb.size)) (fun hHeld => ?_)
          replace hv := hv.below hb' hv.lt
          replace hd := hd.below hb' hd.lt
          replace hg := hg.below hb' hg.lt
          replace ha := ha.below hb' ha.lt
          clear hb hb'
          have hb := hHeld
          clear hK K
          try simp only [Act.put, List.setIfInBounds_toArray, List.set_cons_zero, List.set_cons_succ]
          refine Ord.go_one (i := 13) (by kernel_rfl) (by kernel_rfl) ?_
          apply Ord.go_done1
          next => (simp only [List.getElem?_toArray, List.getElem?_cons_succ, List.getElem?_cons_zero]; rfl)
          next => rfl
          intro K hK
          go_wp2_with fail
          refine (Expr_prog 2 [Ty.oneD vb] (some ⟨db, 0, none⟩) _ 1 0 (Ty.oneD vb) (Ex.bn op gb sa sb) t c _ rfl rfl (by simp [Ty.oneD]) (one_at hv hd) (Nat.le_refl _) (exs_bn HA.out HB.out hg) (exlim_bn op gb HA.out HB.out) (HTC.out vb gb)).mono ?_; rintro _ wq5 ⟨rfl, hb'⟩; dsimp only
          refine hK.out _ _ (hb.trans (hb'.mono hb.size)) (fun hHeld => ?_)
          replace hv := hv.below hb' hv.lt
          replace hd := hd.below hb' hd.lt
          replace hg := hg.below hb' hg.lt
          replace ha := ha.below hb' ha.lt
          clear hb hb'
          have hb := hHeld
          clear hK K
          try simp only [Act.put, List.setIfInBounds_toArray, List.set_cons_zero, List.set_cons_succ]
          apply Ord.go_light (i := 14) (by kernel_rfl)
          next => (simp only [List.getElem?_toArray, List.getElem?_cons_succ, List.getElem?_cons_zero]; rfl)
          next => rfl
          next => (intro w' hSw; clear hSw; go_simp; first | done | with_reducible rfl)
          simp only [Act.put, List.setIfInBounds_toArray, List.set_cons_zero, List.set_cons_succ]
          apply Ord.go_light (i := 15) (by kernel_rfl)
          next => (simp only [List.getElem?_toArray, List.getElem?_cons_succ, List.getElem?_cons_zero]; rfl)
          next => rfl
          next => (intro w' hSw; clear hSw; go_simp; first | done | with_reducible rfl)
          simp only [Act.put, List.setIfInBounds_toArray, List.set_cons_zero, List.set_cons_succ]
          apply Ord.go_light (i := 16) (by kernel_rfl)
          next => (simp only [List.getElem?_toArray, List.getElem?_cons_succ, List.getElem?_cons_zero]; rfl)
          next => rfl
          next => (intro w' hSw; clear hSw; go_simp; first | done | with_reducible rfl)
          simp only [Act.put, List.setIfInBounds_toArray, List.set_cons_zero, List.set_cons_succ]
          refine Ord.go_one (i := 18) (by kernel_rfl) (by kernel_rfl) ?_
          apply Ord.go_done1
          next => (simp only [List.getElem?_toArray, List.getElem?_cons_succ, List.getElem?_cons_zero]; rfl)
          next => rfl
          intro K hK
          have q0 := ha.cell 0 _ rfl
          have q1 := ha.cell 1 _ rfl
          have q2 := ha.cell 2 _ rfl
          have q3 := ha.cell 3 _ rfl
          have f0 := ha.frozen 0
          have f1 := ha.frozen 1
          have f2 := ha.frozen 2
          have f3 := ha.frozen 3
          have lga := ha.lt
          go_wp2_with fail
          refine hK.out _ _ (below4 (g := ga) _ _ _ _ hb hal) (fun hHeld => ?_)
          replace ha := set4 (.int .i64 t.k) (.int .i64 t.lo) (.int .i64 t.hi) (.string t.name) ha
          clear hb q0 q1 q2 q3 f0 f1 f2 f3 lga
          have hb := hHeld
          clear hK K
          refine Ord.go_tail ?_; simp only [List.drop_succ_cons, List.drop_zero]
          go_wp2_with fail
          refine ⟨rfl, db, gb, ga, ?_, ha, hb⟩
          simp only [putL, Act.put, List.setIfInBounds_toArray, List.set_cons_zero, List.set_cons_succ]
          try rfl
      ·
        apply Ord.go_done1
        next => (simp only [List.getElem?_toArray, List.getElem?_cons_succ, List.getElem?_cons_zero]; rfl)
        next => rfl
        intro K hK
        go_wp2_with fail
        obtain ⟨wq2, hx⟩ : ∃ q, wq1.alloc (.cells #[.int .i64 sa.k, .int .i64 sa.n, .string sa.name, .string sa.what, .slice sa.A sa.args.length sa.c, .int .i64 sb.k, .int .i64 sb.n, .string sb.name, .string sb.what, .slice sb.A sb.args.length sb.c] 29) = q := ⟨_, rfl⟩
        have hg := Aid.Has.new wq1 [.int .i64 sa.k, .int .i64 sa.n, .string sa.name, .string sa.what, .slice sa.A sa.args.length sa.c, .int .i64 sb.k, .int .i64 sb.n, .string sb.name, .string sb.what, .slice sb.A sb.args.length sb.c] 29
        have hb' := below_new wq1 (.cells #[.int .i64 sa.k, .int .i64 sa.n, .string sa.name, .string sa.what, .slice sa.A sa.args.length sa.c, .int .i64 sb.k, .int .i64 sb.n, .string sb.name, .string sb.what, .slice sb.A sb.args.length sb.c] 29)
        rw [hx] at hg hb' ⊢
        refine hK.out _ _ (hb.trans (hb'.mono hb.size)) (fun hHeld => ?_)
        replace ha := ha.below hb' ha.lt
        generalize wq1.heap.size = gb at *
        clear hb hb'
        have hb := hHeld
        clear hx
        clear hK K
        try simp only [Act.put, List.setIfInBounds_toArray, List.set_cons_zero, List.set_cons_succ]
        apply Ord.go_light (i := 12) (by kernel_rfl)
        next => (simp only [List.getElem?_toArray, List.getElem?_cons_succ, List.getElem?_cons_zero]; rfl)
        next => rfl
        next => (intro w' hSw; clear hSw; go_simp; first | done | with_reducible rfl)
        simp only [Act.put, List.setIfInBounds_toArray, List.set_cons_zero, List.set_cons_succ]
        refine Ord.go_one (i := 0) (by kernel_rfl) (by kernel_rfl) ?_
        apply Ord.go_done1
        next => (simp only [List.getElem?_toArray, List.getElem?_cons_zero]; rfl)
        next => rfl
        intro K hK
        go_wp2_with fail
        refine (one_is _).mono ?_; rintro _ wq3 ⟨vb, db, rfl, hv, hd, hb'⟩; dsimp only
        refine hK.out _ _ (hb.trans (hb'.mono hb.size)) (fun hHeld => ?_)
        replace hg := hg.below hb' hg.lt
        replace ha := ha.below hb' ha.lt
        clear hb hb'
        have hb := hHeld
        clear hK K
        try simp only [Act.put, List.setIfInBounds_toArray, List.set_cons_zero, List.set_cons_succ]
        refine Ord.go_one (i := 1) (by kernel_rfl) (by kernel_rfl) ?_
        apply Ord.go_done1
        next => (simp only [List.getElem?_toArray, List.getElem?_cons_succ, List.getElem?_cons_zero]; rfl)
        next => rfl
        intro K hK
        go_wp2_with fail
        refine (body_is _).mono ?_; rintro _ wq4 ⟨rfl, hb'⟩; dsimp only
        refine hK.out _ _ (hb.trans (hb'.mono hb.size)) (fun hHeld => ?_)
        replace hv := hv.below hb' hv.lt
        replace hd := hd.below hb' hd.lt
        replace hg := hg.below hb' hg.lt
        replace ha := ha.below hb' ha.lt
        clear hb hb'
        have hb := hHeld
        clear hK K
        try simp only [Act.put, List.setIfInBounds_toArray, List.set_cons_zero, List.set_cons_succ]
        refine Ord.go_one (i := 13) (by kernel_rfl) (by kernel_rfl) ?_
        apply Ord.go_done1
        next => (simp only [List.getElem?_toArray, List.getElem?_cons_succ, List.getElem?_cons_zero]; rfl)
        next => rfl
        intro K hK
        go_wp2_with fail
        refine (Expr_prog 2 [Ty.oneD vb] (some ⟨db, 0, none⟩) _ 1 0 (Ty.oneD vb) (Ex.bn op gb sa sb) t c _ rfl rfl (by simp [Ty.oneD]) (one_at hv hd) (Nat.le_refl _) (exs_bn HA.out HB.out hg) (exlim_bn op gb HA.out HB.out) (HTC.out vb gb)).mono ?_; rintro _ wq5 ⟨rfl, hb'⟩; dsimp only
        refine hK.out _ _ (hb.trans (hb'.mono hb.size)) (fun hHeld => ?_)
        replace hv := hv.below hb' hv.lt
        replace hd := hd.below hb' hd.lt
        replace hg := hg.below hb' hg.lt
        replace ha := ha.below hb' ha.lt
        clear hb hb'
        have hb := hHeld
        clear hK K
        try simp only [Act.put, List.setIfInBounds_toArray, List.set_cons_zero, List.set_cons_succ]
        apply Ord.go_light (i := 14) (by kernel_rfl)
        next => (simp only [List.getElem?_toArray, List.getElem?_cons_succ, List.getElem?_cons_zero]; rfl)
        next => rfl
        next => (intro w' hSw; clear hSw; go_simp; first | done | with_reducible rfl)
        simp only [Act.put, List.setIfInBounds_toArray, List.set_cons_zero, List.set_cons_succ]
        apply Ord.go_light (i := 15) (by kernel_rfl)
        next => (simp only [List.getElem?_toArray, List.getElem?_cons_succ, List.getElem?_cons_zero]; rfl)
        next => rfl
        next => (intro w' hSw; clear hSw; go_simp; first | done | with_reducible rfl)
        simp only [Act.put, List.setIfInBounds_toArray, List.set_cons_zero, List.set_cons_succ]
        apply Ord.go_light (i := 16) (by kernel_rfl)
        next => (simp only [List.getElem?_toArray, List.getElem?_cons_succ, List.getElem?_cons_zero]; rfl)
        next => rfl
        next => (intro w' hSw; clear hSw; go_simp; first | done | with_reducible rfl)
        simp only [Act.put, List.setIfInBounds_toArray, List.set_cons_zero, List.set_cons_succ]
        refine Ord.go_one (i := 18) (by kernel_rfl) (by kernel_rfl) ?_
        apply Ord.go_done1
        next => (simp only [List.getElem?_toArray, List.getElem?_cons_succ, List.getElem?_cons_zero]; rfl)
        next => rfl
        intro K hK
        have q0 := ha.cell 0 _ rfl
        have q1 := ha.cell 1 _ rfl
        have q2 := ha.cell 2 _ rfl
        have q3 := ha.cell 3 _ rfl
        have f0 := ha.frozen 0
        have f1 := ha.frozen 1
        have f2 := ha.frozen 2
        have f3 := ha.frozen 3
        have lga := ha.lt
        go_wp2_with fail
        refine hK.out _ _ (below4 (g := ga) _ _ _ _ hb hal) (fun hHeld => ?_)
        replace ha := set4 (.int .i64 t.k) (.int .i64 t.lo) (.int .i64 t.hi) (.string t.name) ha
        clear hb q0 q1 q2 q3 f0 f1 f2 f3 lga
        have hb := hHeld
        clear hK K
        refine Ord.go_tail ?_; simp only [List.drop_succ_cons, List.drop_zero]
        go_wp2_with fail
        refine ⟨rfl, db, gb, ga, ?_, ha, hb⟩
        simp only [putL, Act.put, List.setIfInBounds_toArray, List.set_cons_zero, List.set_cons_succ]
        try rfl
  rintro e' a' w2 ⟨rfl, db, g, g2, rfl, ha, hb⟩
  simp only [putL, Act.put, List.setIfInBounds_toArray, List.set_cons_zero, List.set_cons_succ]
  have HT := Aid.hid ha
  have K2 := Aid.hid (K0.out.trans (hb.mono K0.out.size))
  have LG := HT.out.lt
  clear n7 hsa hsb ha hb K0 HTC HA HB
  by_cases hab : ia = ib
  · subst hab
    have hops : op = -1 ∨ op = 0 ∨ op = 1 ∨ op = 2 ∨ op = 3 ∨ op = 4 ∨ op = 5 ∨ op = 6 ∨ op = 7 ∨ op = 8 ∨ op = 9 ∨ op = 10 ∨ op = 11 ∨ op = 12 ∨ op = 13 ∨ op = 14 ∨ op = 15 ∨ op = 16 := by omega
    have hia3 : ia = 0 ∨ ia = 1 ∨ ia = 2 := by omega
    clear o1 o2 jia jib hia hib
    rcases hia3 with rfl | rfl | rfl
    all_goals rcases hops with rfl | rfl | rfl | rfl | rfl | rfl | rfl | rfl | rfl | rfl | rfl | rfl | rfl | rfl | rfl | rfl | rfl | rfl
    all_goals
      have h := HBIN.out
      simp [Ty.bin, Ty.opk, Ty.of, Ex.sk, Ty.none_] at h
      obtain ⟨rfl, rfl⟩ := h
      clear HBIN
      have q0 := HT.out.cell 0 _ rfl
      have q1 := HT.out.cell 1 _ rfl
      have q2 := HT.out.cell 2 _ rfl
      have q3 := HT.out.cell 3 _ rfl
      simp only at q0 q1 q2 q3
      go_wp2_with fail
      first
        | (refine (awake_is _).mono ?_; rintro _ w9 ⟨rfl, hb9⟩
           have K9 := Aid.hid (K2.out.trans (hb9.mono K2.out.size))
           clear hb9
           go_wp2_with fail
           go_ret
           exact ⟨rfl, K9.out⟩)
  · have h : Ty.none_ = t ∧ 14 = c := by
      have h := HBIN.out
      have hs : Ex.sk ia ≠ Ex.sk ib := by
        unfold Ex.sk
        have : (ia = 0 ∨ ia = 1 ∨ ia = 2) ∧ (ib = 0 ∨ ib = 1 ∨ ib = 2) := by omega
        rcases this with ⟨rfl | rfl | rfl, rfl | rfl | rfl⟩ <;> first | decide | exact absurd rfl hab
      rw [Ty.bin, if_neg (by simp), if_neg (by simp), if_pos (by
        by_cases h1 : (Ty.of (Ex.sk ia)).k = Ty.opk op (Ty.of (Ex.sk ia))
        · right; right
          intro h2
          exact hs (h1.trans h2.symm)
        · exact .inr (.inl h1))] at h
      simpa using h
    obtain ⟨rfl, rfl⟩ := h
    have hne : ((ia : Int) != (ib : Int)) = true := bne_iff_ne.2 (fun h => hab (by omega))
    have q0 := HT.out.cell 0 _ rfl
    have q1 := HT.out.cell 1 _ rfl
    have q2 := HT.out.cell 2 _ rfl
    have q3 := HT.out.cell 3 _ rfl
    simp only [Ty.none_] at q0 q1 q2 q3
    clear HBIN hab
    go_wp2_with fail
    first
      | (refine (awake_is _).mono ?_; rintro _ w9 ⟨rfl, hb9⟩
         have K9 := Aid.hid (K2.out.trans (hb9.mono K2.out.size))
         clear hb9
         go_wp2_with fail
         go_ret
         exact ⟨rfl, K9.out⟩)
end Go.Proofs.Ytmhdcehpddbjaaa
