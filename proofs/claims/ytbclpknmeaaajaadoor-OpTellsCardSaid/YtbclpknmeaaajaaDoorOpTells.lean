/- The law OpTells: each of the program's answers and the document's by their contracts. -/
import Derived.Test.YtbclpknmeaaajaaDoorOpAwake
import Derived.Test.YtbclpknmeaaajaaDoorOrd
namespace Go.Proofs.YtbclpknmeaaajaaDoor
open Go.RowKit

theorem sig_is (p : ByteArray) (r : Bool) (Z : ByteArray) (hZ : (p ++ if r then ⟨#[62, 105]⟩ else ⟨#[62]⟩) = Z) (w : World) (hp : p.size ≤ 1000) :
    Calls Tryd.prog 13 #[.string p, .bool r] w fun e w' => e = .returned (.string Z) ∧ w = w' := by
  rw [← hZ]; exact sig_any p r w hp
theorem rsig_is (p : ByteArray) (r : Bool) (Z : ByteArray) (hZ : (p ++ if r then ⟨#[62, 105]⟩ else ⟨#[62]⟩) = Z) (w : World) (hp : p.size ≤ 1000) :
    Calls Tryd.prog 14 #[.string p, .bool r] w fun e w' => e = .returned (.string Z) ∧ w = w' := by
  rw [← hZ]; exact rsig_any p r w hp
theorem frame_is (c : Int) (p l : ByteArray) (r : Bool) (st : Int) (A : Option Addr) (n k : Nat) (G : Int) (hG : Op.frame p l st = G) (w : World) (hp : p.size ≤ 1000) (hl : l.size ≤ 1000) :
    Calls Tryd.prog 15 #[.agg #[.int .i64 c, .string p, .string l, .bool r, .int .i64 st, .slice A n k]] w fun e w' => e = .returned (.int .i64 G) ∧ Below w.heap.size w w' := by
  rw [← hG]; exact frame_any c p l r st A n k w hp hl
theorem rframe_is (c : Int) (p l : ByteArray) (r : Bool) (st : Int) (A : Option Addr) (n k : Nat) (G : Int) (hG : Op.frame p l st = G) (w : World) (hp : p.size ≤ 1000) (hl : l.size ≤ 1000) :
    Calls Tryd.prog 16 #[.agg #[.int .i64 c, .string p, .string l, .bool r, .int .i64 st, .slice A n k]] w fun e w' => e = .returned (.int .i64 G) ∧ Below w.heap.size w w' := by
  rw [← hG]; exact rframe_any c p l r st A n k w hp hl

set_option maxRecDepth 100000 in
set_option maxHeartbeats 4000000 in
theorem opTells_any (k a b : Int) (s : ByteArray) (r : Bool) (ci : Int) (p l : ByteArray) (cr : Bool) (st : Int) (A : Option Addr) (n cap : Nat) (w : World) (hm : Op.Len w) (hs : s.size ≤ 60) (hp : p.size ≤ 60) (hl : l.size ≤ 60) :
    Calls Tryd.prog 3 #[.agg #[.int .i64 k, .int .i64 a, .int .i64 b], .string s, .bool r, .agg #[.int .i64 ci, .string p, .string l, .bool cr, .int .i64 st, .slice A n cap]] w fun e w' => e = .returned (.bool true) ∧ Below w.heap.size w w' := by
  obtain ⟨M, hM⟩ : ∃ M, Op.may k a b = M := ⟨_, rfl⟩
  obtain ⟨Z, hZ⟩ : ∃ Z : ByteArray, (s ++ if r then ⟨#[62, 105]⟩ else ⟨#[62]⟩) = Z := ⟨_, rfl⟩
  have HZ := Aid.hid hZ
  clear hZ
  obtain ⟨N, hN⟩ : ∃ N, Op.operands k = N := ⟨_, rfl⟩
  obtain ⟨G, hG⟩ : ∃ G, Op.frame p l st = G := ⟨_, rfl⟩
  obtain ⟨P, pb, po, hP⟩ : ∃ (P : ByteArray) (pb po : Bool), Op.parts s.data.toList = (P.data.toList, pb, po) := ⟨⟨(Op.parts s.data.toList).1.toArray⟩, _, _, rfl⟩
  have HM := Aid.hid hM; have HN := Aid.hid hN; have HG := Aid.hid hG; have HP := Aid.hid hP
  have hs1 : s.size ≤ 1000 := by omega
  have hp1 : p.size ≤ 1000 := by omega
  have hl1 : l.size ≤ 1000 := by omega
  have e1 : (w.alloc (.cells #[.int .i64 k, .int .i64 a, .int .i64 b] 23)).heap.size = w.heap.size + 1 := by simp
  have O0 := (Aid.Has.new w [.int .i64 k, .int .i64 a, .int .i64 b] 23).alloc (.cells #[.int .i64 ci, .string p, .string l, .bool cr, .int .i64 st, .slice A n cap] 26)
  have C0 := Aid.Has.new (w.alloc (.cells #[.int .i64 k, .int .i64 a, .int .i64 b] 23)) [.int .i64 ci, .string p, .string l, .bool cr, .int .i64 st, .slice A n cap] 26
  rw [e1] at C0
  have B0 : Below w.heap.size w ((w.alloc (.cells #[.int .i64 k, .int .i64 a, .int .i64 b] 23)).alloc (.cells #[.int .i64 ci, .string p, .string l, .bool cr, .int .i64 st, .slice A n cap] 26)) := ((Below.refl _ _).alloc (Nat.le_refl _) _).alloc (by simp) _
  have L0 := hm.below B0
  clear hM hN hG hP e1 hm
  go_enter Tryd.func3, Tryd.ntmps3
  try simp only [List.append_eq, List.cons_append, List.nil_append]
  go_wp2_with fail
  obtain ⟨ob, hob⟩ : ∃ ob, w.heap.size = ob := ⟨_, rfl⟩
  obtain ⟨V, hV⟩ : ∃ V, (w.alloc (.cells #[.int .i64 k, .int .i64 a, .int .i64 b] 23)).alloc (.cells #[.int .i64 ci, .string p, .string l, .bool cr, .int .i64 st, .slice A n cap] 26) = V := ⟨_, rfl⟩
  rw [hV] at B0 O0 C0 L0 ⊢
  rw [hob] at O0 C0 ⊢
  have BV := Aid.hid B0
  have HL0 := Aid.hid L0
  clear B0 L0 hV
  refine (parts_of s P pb po HP.out hs1 _ HL0.out).mono ?_; rintro e W ⟨rfl, hb⟩
  have HO := Aid.hid (O0.below hb O0.lt)
  have HC := Aid.hid (C0.below hb C0.lt)
  have HLen := Aid.hid (HL0.out.below hb)
  have BW := Aid.hid (BV.out.trans (hb.mono BV.out.size))
  have hol := HO.out.lt
  have hcl := HC.out.lt
  clear O0 C0 hb HL0
  go_wp2_with fail
  refine (rparts_of s P pb po HP.out hs1 _).mono ?_; rintro e w' ⟨rfl, rfl⟩
  go_wp2_with fail
  refine Ord.wp_region_walk (fun w' => Below W.heap.size W w') 48 [(true, 0), (true, 2), (false, 1), (false, 3), (true, 4), (true, 5), (true, 6), (true, 7), (true, 9), (true, 10), (false, 8), (false, 11), (true, 12), (true, 13), (true, 14), (true, 15), (true, 16), (true, 18), (true, 19), (false, 17), (false, 20), (true, 21), (true, 22), (true, 23), (true, 24), (true, 25), (true, 26), (true, 27), (true, 28), (true, 29), (true, 30), (true, 31), (true, 32), (true, 33), (true, 34), (true, 35), (true, 36), (true, 37), (true, 38), (true, 39), (true, 41), (false, 40), (false, 42), (true, 43), (true, 44), (true, 45), (false, 46), (true, 47)] (by kernel_rfl) (by kernel_rfl) (fun _ _ d _ _ h => by cases d <;> exact h) ((Below.refl _ _).drew) ?_
  have hc : Below W.heap.size W W.drew := (Below.refl _ _).drew
  generalize W.drew = wz at hc ⊢
  apply Ord.walk_light
  next => (simp only [List.getElem?_toArray, List.getElem?_cons_zero]; rfl)
  next => rfl
  next => (intro w' hSw; have g := HO.out.below hSw hol; have q0 := g.cell 0 _ rfl; have q1 := g.cell 1 _ rfl; have q2 := g.cell 2 _ rfl; go_simp; first | done | with_reducible rfl)
  simp only [Act.put, List.setIfInBounds_toArray, List.set_cons_zero, List.set_cons_succ]
  apply Ord.walk_light
  next => (simp only [List.getElem?_toArray, List.getElem?_cons_succ, List.getElem?_cons_zero]; rfl)
  next => rfl
  next => (intro w' hSw; have g := HO.out.below hSw hol; have q0 := g.cell 0 _ rfl; have q1 := g.cell 1 _ rfl; have q2 := g.cell 2 _ rfl; go_simp; first | done | with_reducible rfl)
  simp only [Act.put, List.setIfInBounds_toArray, List.set_cons_zero, List.set_cons_succ]
  apply Ord.walk_heavy
  next => (simp only [List.getElem?_toArray, List.getElem?_cons_succ, List.getElem?_cons_zero]; rfl)
  next => rfl
  intro K hK
  go_wp2_with fail
  refine (may_is k a b M HM.out _).mono ?_; rintro x w' ⟨rfl, hx⟩; dsimp only
  refine hK.out _ _ (hc.trans (hx.mono hc.size)) (fun hHeld => ?_)
  clear hc hx
  have hc := hHeld
  clear hK K
  try simp only [Act.put, List.setIfInBounds_toArray, List.set_cons_zero, List.set_cons_succ]
  apply Ord.walk_heavy
  next => (simp only [List.getElem?_toArray, List.getElem?_cons_succ, List.getElem?_cons_zero]; rfl)
  next => rfl
  intro K hK
  go_wp2_with fail
  refine (rmay_is k a b M HM.out _).mono ?_; rintro x w' ⟨rfl, hx⟩; dsimp only
  refine hK.out _ _ (hc.trans (hx.mono hc.size)) (fun hHeld => ?_)
  clear hc hx
  have hc := hHeld
  clear hK K
  try simp only [Act.put, List.setIfInBounds_toArray, List.set_cons_zero, List.set_cons_succ]
  apply Ord.walk_light
  next => (simp only [List.getElem?_toArray, List.getElem?_cons_succ, List.getElem?_cons_zero]; rfl)
  next => rfl
  next => (intro w' hSw; clear hSw; go_simp; first | done | with_reducible rfl)
  simp only [Act.put, List.setIfInBounds_toArray, List.set_cons_zero, List.set_cons_succ]
  apply Ord.walk_light
  next => (simp only [List.getElem?_toArray, List.getElem?_cons_succ, List.getElem?_cons_zero]; rfl)
  next => rfl
  next => (intro w' hSw; clear hSw; go_simp; first | done | with_reducible rfl)
  simp only [Act.put, List.setIfInBounds_toArray, List.set_cons_zero, List.set_cons_succ]
  apply Ord.walk_light
  next => (simp only [List.getElem?_toArray, List.getElem?_cons_succ, List.getElem?_cons_zero]; rfl)
  next => rfl
  next => (intro w' hSw; clear hSw; go_simp; first | done | with_reducible rfl)
  simp only [Act.put, List.setIfInBounds_toArray, List.set_cons_zero, List.set_cons_succ]
  apply Ord.walk_light
  next => (simp only [List.getElem?_toArray, List.getElem?_cons_succ, List.getElem?_cons_zero]; rfl)
  next => rfl
  next => (intro w' hSw; have g := HO.out.below hSw hol; have q0 := g.cell 0 _ rfl; have q1 := g.cell 1 _ rfl; have q2 := g.cell 2 _ rfl; go_simp; first | done | with_reducible rfl)
  simp only [Act.put, List.setIfInBounds_toArray, List.set_cons_zero, List.set_cons_succ]
  apply Ord.walk_light
  next => (simp only [List.getElem?_toArray, List.getElem?_cons_succ, List.getElem?_cons_zero]; rfl)
  next => rfl
  next => (intro w' hSw; clear hSw; go_simp; first | done | with_reducible rfl)
  simp only [Act.put, List.setIfInBounds_toArray, List.set_cons_zero, List.set_cons_succ]
  apply Ord.walk_light
  next => (simp only [List.getElem?_toArray, List.getElem?_cons_succ, List.getElem?_cons_zero]; rfl)
  next => rfl
  next => (intro w' hSw; have g := HO.out.below hSw hol; have q0 := g.cell 0 _ rfl; have q1 := g.cell 1 _ rfl; have q2 := g.cell 2 _ rfl; go_simp; first | done | with_reducible rfl)
  simp only [Act.put, List.setIfInBounds_toArray, List.set_cons_zero, List.set_cons_succ]
  apply Ord.walk_heavy
  next => (simp only [List.getElem?_toArray, List.getElem?_cons_succ, List.getElem?_cons_zero]; rfl)
  next => rfl
  intro K hK
  go_wp2_with fail
  refine (operands_is k N HN.out _).mono ?_; rintro x w' ⟨rfl, rfl⟩; dsimp only
  refine hK.out _ _ hc (fun hHeld => ?_)
  clear hc
  have hc := hHeld
  clear hK K
  try simp only [Act.put, List.setIfInBounds_toArray, List.set_cons_zero, List.set_cons_succ]
  apply Ord.walk_heavy
  next => (simp only [List.getElem?_toArray, List.getElem?_cons_succ, List.getElem?_cons_zero]; rfl)
  next => rfl
  intro K hK
  go_wp2_with fail
  refine (roperands_is k N HN.out _).mono ?_; rintro x w' ⟨rfl, rfl⟩; dsimp only
  refine hK.out _ _ hc (fun hHeld => ?_)
  clear hc
  have hc := hHeld
  clear hK K
  try simp only [Act.put, List.setIfInBounds_toArray, List.set_cons_zero, List.set_cons_succ]
  apply Ord.walk_light
  next => (simp only [List.getElem?_toArray, List.getElem?_cons_succ, List.getElem?_cons_zero]; rfl)
  next => rfl
  next => (intro w' hSw; clear hSw; go_simp; first | done | with_reducible rfl)
  simp only [Act.put, List.setIfInBounds_toArray, List.set_cons_zero, List.set_cons_succ]
  apply Ord.walk_light
  next => (simp only [List.getElem?_toArray, List.getElem?_cons_succ, List.getElem?_cons_zero]; rfl)
  next => rfl
  next => (intro w' hSw; clear hSw; go_simp; first | done | with_reducible rfl)
  simp only [Act.put, List.setIfInBounds_toArray, List.set_cons_zero, List.set_cons_succ]
  apply Ord.walk_light
  next => (simp only [List.getElem?_toArray, List.getElem?_cons_succ, List.getElem?_cons_zero]; rfl)
  next => rfl
  next => (intro w' hSw; clear hSw; go_simp; first | done | with_reducible rfl)
  simp only [Act.put, List.setIfInBounds_toArray, List.set_cons_zero, List.set_cons_succ]
  apply Ord.walk_light
  next => (simp only [List.getElem?_toArray, List.getElem?_cons_succ, List.getElem?_cons_zero]; rfl)
  next => rfl
  next => (intro w' hSw; clear hSw; go_simp; first | done | with_reducible rfl)
  simp only [Act.put, List.setIfInBounds_toArray, List.set_cons_zero, List.set_cons_succ]
  apply Ord.walk_light
  next => (simp only [List.getElem?_toArray, List.getElem?_cons_succ, List.getElem?_cons_zero]; rfl)
  next => rfl
  next => (intro w' hSw; clear hSw; go_simp; first | done | with_reducible rfl)
  simp only [Act.put, List.setIfInBounds_toArray, List.set_cons_zero, List.set_cons_succ]
  apply Ord.walk_light
  next => (simp only [List.getElem?_toArray, List.getElem?_cons_succ, List.getElem?_cons_zero]; rfl)
  next => rfl
  next => (intro w' hSw; clear hSw; go_simp; first | done | with_reducible rfl)
  simp only [Act.put, List.setIfInBounds_toArray, List.set_cons_zero, List.set_cons_succ]
  apply Ord.walk_light
  next => (simp only [List.getElem?_toArray, List.getElem?_cons_succ, List.getElem?_cons_zero]; rfl)
  next => rfl
  next => (intro w' hSw; clear hSw; go_simp; first | done | with_reducible rfl)
  simp only [Act.put, List.setIfInBounds_toArray, List.set_cons_zero, List.set_cons_succ]
  apply Ord.walk_heavy
  next => (simp only [List.getElem?_toArray, List.getElem?_cons_succ, List.getElem?_cons_zero]; rfl)
  next => rfl
  intro K hK
  go_wp2_with fail
  refine (sig_is s r Z HZ.out _ hs1).mono ?_; rintro x w' ⟨rfl, rfl⟩; dsimp only
  refine hK.out _ _ hc (fun hHeld => ?_)
  clear hc
  have hc := hHeld
  clear hK K
  try simp only [Act.put, List.setIfInBounds_toArray, List.set_cons_zero, List.set_cons_succ]
  apply Ord.walk_heavy
  next => (simp only [List.getElem?_toArray, List.getElem?_cons_succ, List.getElem?_cons_zero]; rfl)
  next => rfl
  intro K hK
  go_wp2_with fail
  refine (rsig_is s r Z HZ.out _ hs1).mono ?_; rintro x w' ⟨rfl, rfl⟩; dsimp only
  refine hK.out _ _ hc (fun hHeld => ?_)
  clear hc
  have hc := hHeld
  clear hK K
  try simp only [Act.put, List.setIfInBounds_toArray, List.set_cons_zero, List.set_cons_succ]
  apply Ord.walk_light
  next => (simp only [List.getElem?_toArray, List.getElem?_cons_succ, List.getElem?_cons_zero]; rfl)
  next => rfl
  next => (intro w' hSw; clear hSw; go_simp; first | done | with_reducible rfl)
  simp only [Act.put, List.setIfInBounds_toArray, List.set_cons_zero, List.set_cons_succ]
  apply Ord.walk_light
  next => (simp only [List.getElem?_toArray, List.getElem?_cons_succ, List.getElem?_cons_zero]; rfl)
  next => rfl
  next => (intro w' hSw; clear hSw; go_simp; first | done | with_reducible rfl)
  simp only [Act.put, List.setIfInBounds_toArray, List.set_cons_zero, List.set_cons_succ]
  apply Ord.walk_light
  next => (simp only [List.getElem?_toArray, List.getElem?_cons_succ, List.getElem?_cons_zero]; rfl)
  next => rfl
  next => (intro w' hSw; clear hSw; go_simp; first | done | with_reducible rfl)
  simp only [Act.put, List.setIfInBounds_toArray, List.set_cons_zero, List.set_cons_succ]
  apply Ord.walk_light
  next => (simp only [List.getElem?_toArray, List.getElem?_cons_succ, List.getElem?_cons_zero]; rfl)
  next => rfl
  next => (intro w' hSw; clear hSw; go_simp; first | done | with_reducible rfl)
  simp only [Act.put, List.setIfInBounds_toArray, List.set_cons_zero, List.set_cons_succ]
  apply Ord.walk_light
  next => (simp only [List.getElem?_toArray, List.getElem?_cons_succ, List.getElem?_cons_zero]; rfl)
  next => rfl
  next => (intro w' hSw; clear hSw; go_simp; first | done | with_reducible rfl)
  simp only [Act.put, List.setIfInBounds_toArray, List.set_cons_zero, List.set_cons_succ]
  apply Ord.walk_light
  next => (simp only [List.getElem?_toArray, List.getElem?_cons_succ, List.getElem?_cons_zero]; rfl)
  next => rfl
  next => (intro w' hSw; clear hSw; go_simp; first | done | with_reducible rfl)
  simp only [Act.put, List.setIfInBounds_toArray, List.set_cons_zero, List.set_cons_succ]
  apply Ord.walk_light
  next => (simp only [List.getElem?_toArray, List.getElem?_cons_succ, List.getElem?_cons_zero]; rfl)
  next => rfl
  next => (intro w' hSw; clear hSw; go_simp; first | done | with_reducible rfl)
  simp only [Act.put, List.setIfInBounds_toArray, List.set_cons_zero, List.set_cons_succ]
  apply Ord.walk_light
  next => (simp only [List.getElem?_toArray, List.getElem?_cons_succ, List.getElem?_cons_zero]; rfl)
  next => rfl
  next => (intro w' hSw; clear hSw; go_simp; first | done | with_reducible rfl)
  simp only [Act.put, List.setIfInBounds_toArray, List.set_cons_zero, List.set_cons_succ]
  apply Ord.walk_light
  next => (simp only [List.getElem?_toArray, List.getElem?_cons_succ, List.getElem?_cons_zero]; rfl)
  next => rfl
  next => (intro w' hSw; clear hSw; go_simp; first | done | with_reducible rfl)
  simp only [Act.put, List.setIfInBounds_toArray, List.set_cons_zero, List.set_cons_succ]
  apply Ord.walk_light
  next => (simp only [List.getElem?_toArray, List.getElem?_cons_succ, List.getElem?_cons_zero]; rfl)
  next => rfl
  next => (intro w' hSw; clear hSw; go_simp; first | done | with_reducible rfl)
  simp only [Act.put, List.setIfInBounds_toArray, List.set_cons_zero, List.set_cons_succ]
  apply Ord.walk_light
  next => (simp only [List.getElem?_toArray, List.getElem?_cons_succ, List.getElem?_cons_zero]; rfl)
  next => rfl
  next => (intro w' hSw; clear hSw; go_simp; first | done | with_reducible rfl)
  simp only [Act.put, List.setIfInBounds_toArray, List.set_cons_zero, List.set_cons_succ]
  apply Ord.walk_light
  next => (simp only [List.getElem?_toArray, List.getElem?_cons_succ, List.getElem?_cons_zero]; rfl)
  next => rfl
  next => (intro w' hSw; clear hSw; go_simp; first | done | with_reducible rfl)
  simp only [Act.put, List.setIfInBounds_toArray, List.set_cons_zero, List.set_cons_succ]
  apply Ord.walk_light
  next => (simp only [List.getElem?_toArray, List.getElem?_cons_succ, List.getElem?_cons_zero]; rfl)
  next => rfl
  next => (intro w' hSw; clear hSw; go_simp; first | done | with_reducible rfl)
  simp only [Act.put, List.setIfInBounds_toArray, List.set_cons_zero, List.set_cons_succ]
  apply Ord.walk_light
  next => (simp only [List.getElem?_toArray, List.getElem?_cons_succ, List.getElem?_cons_zero]; rfl)
  next => rfl
  next => (intro w' hSw; clear hSw; go_simp; first | done | with_reducible rfl)
  simp only [Act.put, List.setIfInBounds_toArray, List.set_cons_zero, List.set_cons_succ]
  apply Ord.walk_light
  next => (simp only [List.getElem?_toArray, List.getElem?_cons_succ, List.getElem?_cons_zero]; rfl)
  next => rfl
  next => (intro w' hSw; clear hSw; go_simp; first | done | with_reducible rfl)
  simp only [Act.put, List.setIfInBounds_toArray, List.set_cons_zero, List.set_cons_succ]
  apply Ord.walk_light
  next => (simp only [List.getElem?_toArray, List.getElem?_cons_succ, List.getElem?_cons_zero]; rfl)
  next => rfl
  next => (intro w' hSw; clear hSw; go_simp; first | done | with_reducible rfl)
  simp only [Act.put, List.setIfInBounds_toArray, List.set_cons_zero, List.set_cons_succ]
  apply Ord.walk_light
  next => (simp only [List.getElem?_toArray, List.getElem?_cons_succ, List.getElem?_cons_zero]; rfl)
  next => rfl
  next => (intro w' hSw; clear hSw; go_simp; first | done | with_reducible rfl)
  simp only [Act.put, List.setIfInBounds_toArray, List.set_cons_zero, List.set_cons_succ]
  apply Ord.walk_light
  next => (simp only [List.getElem?_toArray, List.getElem?_cons_succ, List.getElem?_cons_zero]; rfl)
  next => rfl
  next => (intro w' hSw; clear hSw; go_simp; first | done | with_reducible rfl)
  simp only [Act.put, List.setIfInBounds_toArray, List.set_cons_zero, List.set_cons_succ]
  apply Ord.walk_light
  next => (simp only [List.getElem?_toArray, List.getElem?_cons_succ, List.getElem?_cons_zero]; rfl)
  next => rfl
  next => (intro w' hSw; have g := HC.out.below hSw hcl; have q0 := g.cell 0 _ rfl; have q1 := g.cell 1 _ rfl; have q2 := g.cell 2 _ rfl; have q3 := g.cell 3 _ rfl; have q4 := g.cell 4 _ rfl; have q5 := g.cell 5 _ rfl; go_simp; first | done | with_reducible rfl)
  simp only [Act.put, List.setIfInBounds_toArray, List.set_cons_zero, List.set_cons_succ]
  apply Ord.walk_light
  next => (simp only [List.getElem?_toArray, List.getElem?_cons_succ, List.getElem?_cons_zero]; rfl)
  next => rfl
  next => (intro w' hSw; have g := HC.out.below hSw hcl; have q0 := g.cell 0 _ rfl; have q1 := g.cell 1 _ rfl; have q2 := g.cell 2 _ rfl; have q3 := g.cell 3 _ rfl; have q4 := g.cell 4 _ rfl; have q5 := g.cell 5 _ rfl; go_simp; first | done | with_reducible rfl)
  simp only [Act.put, List.setIfInBounds_toArray, List.set_cons_zero, List.set_cons_succ]
  apply Ord.walk_heavy
  next => (simp only [List.getElem?_toArray, List.getElem?_cons_succ, List.getElem?_cons_zero]; rfl)
  next => rfl
  intro K hK
  go_wp2_with fail
  refine (frame_is ci p l cr st A n cap G HG.out _ hp1 hl1).mono ?_; rintro x w' ⟨rfl, hx⟩; dsimp only
  refine hK.out _ _ (hc.trans (hx.mono hc.size)) (fun hHeld => ?_)
  clear hc hx
  have hc := hHeld
  clear hK K
  try simp only [Act.put, List.setIfInBounds_toArray, List.set_cons_zero, List.set_cons_succ]
  apply Ord.walk_heavy
  next => (simp only [List.getElem?_toArray, List.getElem?_cons_succ, List.getElem?_cons_zero]; rfl)
  next => rfl
  intro K hK
  go_wp2_with fail
  refine (rframe_is ci p l cr st A n cap G HG.out _ hp1 hl1).mono ?_; rintro x w' ⟨rfl, hx⟩; dsimp only
  refine hK.out _ _ (hc.trans (hx.mono hc.size)) (fun hHeld => ?_)
  clear hc hx
  have hc := hHeld
  clear hK K
  try simp only [Act.put, List.setIfInBounds_toArray, List.set_cons_zero, List.set_cons_succ]
  apply Ord.walk_light
  next => (simp only [List.getElem?_toArray, List.getElem?_cons_succ, List.getElem?_cons_zero]; rfl)
  next => rfl
  next => (intro w' hSw; clear hSw; go_simp; first | done | with_reducible rfl)
  simp only [Act.put, List.setIfInBounds_toArray, List.set_cons_zero, List.set_cons_succ]
  apply Ord.walk_light
  next => (simp only [List.getElem?_toArray, List.getElem?_cons_succ, List.getElem?_cons_zero]; rfl)
  next => rfl
  next => (intro w' hSw; clear hSw; go_simp; first | done | with_reducible rfl)
  simp only [Act.put, List.setIfInBounds_toArray, List.set_cons_zero, List.set_cons_succ]
  apply Ord.walk_light
  next => (simp only [List.getElem?_toArray, List.getElem?_cons_succ, List.getElem?_cons_zero]; rfl)
  next => rfl
  next => (intro w' hSw; clear hSw; go_simp; first | done | with_reducible rfl)
  simp only [Act.put, List.setIfInBounds_toArray, List.set_cons_zero, List.set_cons_succ]
  apply Ord.walk_heavy
  next => (simp only [List.getElem?_toArray, List.getElem?_cons_succ, List.getElem?_cons_zero]; rfl)
  next => rfl
  intro K hK
  go_wp2_with fail
  refine (awake_any _ (HLen.out.below hc)).mono ?_; rintro x w' ⟨rfl, hx⟩; dsimp only
  refine hK.out _ _ (hc.trans (hx.mono hc.size)) (fun hHeld => ?_)
  clear hc hx
  have hc := hHeld
  clear hK K
  try simp only [Act.put, List.setIfInBounds_toArray, List.set_cons_zero, List.set_cons_succ]
  apply Ord.walk_light
  next => (simp only [List.getElem?_toArray, List.getElem?_cons_succ, List.getElem?_cons_zero]; rfl)
  next => rfl
  next => (intro w' hSw; clear hSw; go_simp; first | done | with_reducible rfl)
  simp only [Act.put, List.setIfInBounds_toArray, List.set_cons_zero, List.set_cons_succ]
  refine Ord.walk_tail ?_; simp only [List.drop_succ_cons, List.drop_zero]
  go_wp2_with fail
  go_ret
  exact ⟨rfl, BW.out.trans (hc.mono BW.out.size)⟩

set_option maxRecDepth 100000 in
set_option maxHeartbeats 1000000 in
theorem opTells_long1 (k a b : Int) (s : ByteArray) (r : Bool) (ci : Int) (p l : ByteArray) (cr : Bool) (st : Int) (A : Option Addr) (n cap : Nat) (w : World) (hm : Op.Len w) (h : 60 < s.size) :
    Calls Tryd.prog 3 #[.agg #[.int .i64 k, .int .i64 a, .int .i64 b], .string s, .bool r, .agg #[.int .i64 ci, .string p, .string l, .bool cr, .int .i64 st, .slice A n cap]] w fun e w' => e = .returned (.bool true) ∧ Below w.heap.size w w' := by
  have B0 : Below w.heap.size w ((w.alloc (.cells #[.int .i64 k, .int .i64 a, .int .i64 b] 23)).alloc (.cells #[.int .i64 ci, .string p, .string l, .bool cr, .int .i64 st, .slice A n cap] 26)) := ((Below.refl _ _).alloc (Nat.le_refl _) _).alloc (by simp) _
  have L0 := Aid.hid (hm.below B0)
  clear hm
  go_enter Tryd.func3, Tryd.ntmps3
  try simp only [List.append_eq, List.cons_append, List.nil_append]
  go_wp2_with fail
  refine (awake_any _ L0.out).mono ?_; rintro e w' ⟨rfl, hb⟩
  go_wp2_with fail
  go_ret
  exact ⟨rfl, B0.trans (hb.mono B0.size)⟩

set_option maxRecDepth 100000 in
set_option maxHeartbeats 1000000 in
theorem opTells_long2 (k a b : Int) (s : ByteArray) (r : Bool) (ci : Int) (p l : ByteArray) (cr : Bool) (st : Int) (A : Option Addr) (n cap : Nat) (w : World) (hm : Op.Len w) (h1 : s.size ≤ 60) (h : 60 < p.size) :
    Calls Tryd.prog 3 #[.agg #[.int .i64 k, .int .i64 a, .int .i64 b], .string s, .bool r, .agg #[.int .i64 ci, .string p, .string l, .bool cr, .int .i64 st, .slice A n cap]] w fun e w' => e = .returned (.bool true) ∧ Below w.heap.size w w' := by
  have B0 : Below w.heap.size w ((w.alloc (.cells #[.int .i64 k, .int .i64 a, .int .i64 b] 23)).alloc (.cells #[.int .i64 ci, .string p, .string l, .bool cr, .int .i64 st, .slice A n cap] 26)) := ((Below.refl _ _).alloc (Nat.le_refl _) _).alloc (by simp) _
  have L0 := Aid.hid (hm.below B0)
  clear hm
  go_enter Tryd.func3, Tryd.ntmps3
  try simp only [List.append_eq, List.cons_append, List.nil_append]
  go_wp2_with fail
  refine (awake_any _ L0.out).mono ?_; rintro e w' ⟨rfl, hb⟩
  go_wp2_with fail
  go_ret
  exact ⟨rfl, B0.trans (hb.mono B0.size)⟩

set_option maxRecDepth 100000 in
set_option maxHeartbeats 1000000 in
theorem opTells_long3 (k a b : Int) (s : ByteArray) (r : Bool) (ci : Int) (p l : ByteArray) (cr : Bool) (st : Int) (A : Option Addr) (n cap : Nat) (w : World) (hm : Op.Len w) (h1 : s.size ≤ 60) (h2 : p.size ≤ 60) (h : 60 < l.size) :
    Calls Tryd.prog 3 #[.agg #[.int .i64 k, .int .i64 a, .int .i64 b], .string s, .bool r, .agg #[.int .i64 ci, .string p, .string l, .bool cr, .int .i64 st, .slice A n cap]] w fun e w' => e = .returned (.bool true) ∧ Below w.heap.size w w' := by
  have B0 : Below w.heap.size w ((w.alloc (.cells #[.int .i64 k, .int .i64 a, .int .i64 b] 23)).alloc (.cells #[.int .i64 ci, .string p, .string l, .bool cr, .int .i64 st, .slice A n cap] 26)) := ((Below.refl _ _).alloc (Nat.le_refl _) _).alloc (by simp) _
  have L0 := Aid.hid (hm.below B0)
  clear hm
  go_enter Tryd.func3, Tryd.ntmps3
  try simp only [List.append_eq, List.cons_append, List.nil_append]
  go_wp2_with fail
  refine (awake_any _ L0.out).mono ?_; rintro e w' ⟨rfl, hb⟩
  go_wp2_with fail
  go_ret
  exact ⟨rfl, B0.trans (hb.mono B0.size)⟩
end Go.Proofs.YtbclpknmeaaajaaDoor
