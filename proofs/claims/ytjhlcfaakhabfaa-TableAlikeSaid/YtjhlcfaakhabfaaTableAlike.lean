/- The law TableAlike, walked. -/
import Derived.Test.YtjhlcfaakhabfaaTabAlike3
namespace Go.Proofs.Ytjhlcfaakhabfaa
open Go.RowKit

theorem Ty.same_self (t : Ty) : Ty.same t t = true := by simp [Ty.same]
theorem Ty.same_comm (s t : Ty) : Ty.same s t = Ty.same t s := by
  have c : ∀ x y : Int, (x == y) = (y == x) := fun x y => by rw [Bool.eq_iff_iff, beq_iff_eq, beq_iff_eq]; exact eq_comm
  have d : ∀ x y : List UInt8, (x == y) = (y == x) := fun x y => by rw [Bool.eq_iff_iff, beq_iff_eq, beq_iff_eq]; exact eq_comm
  simp only [Ty.same, c s.k, c s.lo, c s.hi, d s.name.toList]
theorem Tb.samePs_self : ∀ l : List Vd, Tb.samePs l l = true
  | [] => rfl
  | a :: l => by rw [Tb.samePs, Ty.same_self, Tb.samePs_self l]; rfl
theorem Tb.samePs_comm : ∀ l m : List Vd, Tb.samePs l m = Tb.samePs m l
  | [], [] => rfl
  | [], _ :: _ => rfl
  | _ :: _, [] => rfl
  | a :: l, b :: m => by rw [Tb.samePs, Tb.samePs, Ty.same_comm, Tb.samePs_comm l m]
def Vd.named (nm : ByteArray) (v : Vd) : Vd := { v with name := nm }
theorem Tb.samePs_named (nm : ByteArray) : ∀ l : List Vd, Tb.samePs l (l.map (Vd.named nm)) = true
  | [] => rfl
  | a :: l => by
    show (Ty.same a.ty a.ty && Tb.samePs l (l.map (Vd.named nm))) = true
    rw [Ty.same_self, Tb.samePs_named nm l]; rfl
theorem Tb.alike_comm (a b : Md) : Tb.alike a b = Tb.alike b a := by unfold Tb.alike; rw [Tb.samePs_comm, Ty.same_comm]
theorem Tb.alike_self (a : Md) : Tb.alike a a = true := by unfold Tb.alike; rw [Tb.samePs_self, Ty.same_self]; rfl
theorem info_vd : (Try.prog.info? 44).map (fun i => (i.zero.map fun z => z.cells.size, i.size, i.bytes)) = some (some 8, 8, 80) := by kernel_rfl

theorem info_vd_parts : ∃ i z, Try.prog.info? 44 = some i ∧ i.zero = some z ∧ i.size = 8 ∧ i.bytes = 80 ∧ z.cells.size = 8 := by
  obtain ⟨i, hi, h⟩ := Option.map_eq_some_iff.1 info_vd
  simp only [Prod.mk.injEq] at h
  obtain ⟨z, hz, hs⟩ := Option.map_eq_some_iff.1 h.1
  exact ⟨i, z, hi, hz, h.2.1, h.2.2, hs⟩
theorem Vd.cells_len (v : Vd) : v.cells.length = 8 := rfl
theorem flat_len : ∀ ps : List Vd, ((ps.map Vd.cells).flatten).length = ps.length * 8
  | [] => rfl
  | v :: ps => by
    have := flat_len ps
    simp only [List.map_cons, List.flatten_cons, List.length_append, Vd.cells_len, List.length_cons]
    omega
theorem flat_get (P : Nat → Value → Prop) : ∀ (ps : List Vd) (off : Nat), (∀ i v, ps[i]? = some v → ∀ j x, v.cells[j]? = some x → P (off + i * 8 + j) x) → ∀ j u, ((ps.map Vd.cells).flatten)[j]? = some u → P (off + j) u
  | [], _, _, j, u, hu => by simp at hu
  | v :: ps, off, h, j, u, hu => by
    simp only [List.map_cons, List.flatten_cons] at hu
    rcases Nat.lt_or_ge j 8 with hj | hj
    · rw [List.getElem?_append_left (by rw [Vd.cells_len]; exact hj)] at hu
      have := h 0 v rfl j u hu
      simpa using this
    · rw [List.getElem?_append_right (by rw [Vd.cells_len]; exact hj), Vd.cells_len] at hu
      have := flat_get P ps (off + 8) (fun i w hw j x hx => by
        have := h (i + 1) w (by simpa using hw) j x hx
        rw [show off + (i + 1) * 8 + j = off + 8 + i * 8 + j by omega] at this
        exact this) (j - 8) u hu
      rw [show off + 8 + (j - 8) = off + j by omega] at this
      exact this
theorem flat_at : ∀ (ps : List Vd) (i : Nat) (v : Vd), ps[i]? = some v → ∀ j x, v.cells[j]? = some x → ((ps.map Vd.cells).flatten)[i * 8 + j]? = some x
  | [], _, _, h, _, _, _ => by simp at h
  | w :: ps, 0, v, h, j, x, hx => by
    simp at h; subst h
    have hj : j < 8 := by have := (List.getElem?_eq_some_iff.1 hx).1; rwa [Vd.cells_len] at this
    simp only [List.map_cons, List.flatten_cons]
    rw [List.getElem?_append_left (by rw [Vd.cells_len]; omega)]
    simpa using hx
  | w :: ps, i + 1, v, h, j, x, hx => by
    simp only [List.map_cons, List.flatten_cons]
    rw [List.getElem?_append_right (by rw [Vd.cells_len]; omega), Vd.cells_len, show (i + 1) * 8 + j - 8 = i * 8 + j by omega]
    exact flat_at ps i v (by simpa using h) j x hx
theorem Rows.reads {w : World} {B : Nat} {A : Option Addr} {ps : List Vd} (h : Rows w B 8 A (ps.map Vd.cells)) : Reads w B 8 A ps.length ((ps.map Vd.cells).flatten) := by
  refine ⟨flat_len ps, fun hn => ?_⟩
  obtain ⟨b, off, h1, h2, h3⟩ := Rows.vd h hn
  refine ⟨⟨b, off, none⟩, h1, h2, fun j u hu => ?_⟩
  have e : (⟨b, off, none⟩ : Addr).add j = ⟨b, off + j, none⟩ := by unfold Addr.add; split <;> simp_all
  rw [e]
  exact flat_get (fun k x => w.cell? ⟨b, k, none⟩ = some x) ps off h3 j u hu
theorem vd_one (ps : List Vd) : ∀ u ∈ (ps.map Vd.cells).flatten, u.oneCell' = true := by
  intro u hu
  obtain ⟨l, hl, hul⟩ := List.mem_flatten.1 hu
  obtain ⟨v, _, rfl⟩ := List.mem_map.1 hl
  simp [Vd.cells] at hul
  rcases hul with h | h | h | h | h | h | h | h <;> subst h <;> rfl
/-- The first k names are written over. -/
def Part (ps : List Vd) (nm : ByteArray) (k : Nat) (xs : List Value) : Prop := ∀ i v, ps[i]? = some v → ∀ j x, (if i < k then Vd.named nm v else v).cells[j]? = some x → xs[i * 8 + j]? = some x
theorem Part.start (ps : List Vd) (nm : ByteArray) : Part ps nm 0 ((ps.map Vd.cells).flatten) := fun i v hv j x hx => by
  rw [if_neg (by omega)] at hx
  exact flat_at ps i v hv j x hx
theorem Part.next {ps : List Vd} {nm : ByteArray} {k : Nat} {xs : List Value} (h : Part ps nm k xs) (hl : xs.length = ps.length * 8) (hk : k < ps.length) : Part ps nm (k + 1) (xs.set (k * 8) (.string nm)) := fun i v hv j x hx => by
  have hi : i < ps.length := (List.getElem?_eq_some_iff.1 hv).1
  have hj : j < 8 := by have := (List.getElem?_eq_some_iff.1 hx).1; rwa [Vd.cells_len] at this
  by_cases hik : i = k
  · subst hik
    rw [if_pos (by omega)] at hx
    by_cases hj0 : j = 0
    · subst hj0
      have : x = .string nm := by simpa [Vd.cells, Vd.named] using hx.symm
      subst this
      rw [Nat.add_zero, List.getElem?_set_self (by omega)]
    · rw [List.getElem?_set_ne (by omega)]
      refine h i v hv j x ?_
      rw [if_neg (by omega)]
      match j, hj0, hx with
      | j + 1, _, hx => simpa [Vd.cells, Vd.named] using hx
  · rw [List.getElem?_set_ne (by omega)]
    refine h i v hv j x ?_
    by_cases hlt : i < k
    · rw [if_pos (by omega)] at hx; rw [if_pos hlt]; exact hx
    · rw [if_neg (by omega)] at hx; rw [if_neg hlt]; exact hx

set_option maxRecDepth 100000 in
set_option maxHeartbeats 4000000 in
theorem tableAlike_any (a b : Md) (nm : ByteArray) (w : World) (ha : MdP w w.heap.size a) (hb : MdP w w.heap.size b) (la : a.ps.length ≤ 5) (lb : b.ps.length ≤ 5) (ln : nm.size ≤ 60) :
    Calls Try.prog 4 #[.agg #[.string a.name, .bool a.over, .bool a.abs, .bool a.fin, .slice a.pA a.ps.length a.pc, .int .i64 a.res.k, .int .i64 a.res.lo, .int .i64 a.res.hi, .string a.res.name, .slice a.vA a.vs.length a.vc, .slice a.bA a.bn a.bc], .agg #[.string b.name, .bool b.over, .bool b.abs, .bool b.fin, .slice b.pA b.ps.length b.pc, .int .i64 b.res.k, .int .i64 b.res.lo, .int .i64 b.res.hi, .string b.res.name, .slice b.vA b.vs.length b.vc, .slice b.bA b.bn b.bc], .string nm] w fun e w' => e = .returned (.bool true) ∧ Below w.heap.size w w' := by
  have MA := Aid.hid ha; have MB := Aid.hid hb
  clear ha hb
  have H1 : Aid.Has (((w.alloc (.cells a.cells.toArray 42)).alloc (.cells b.cells.toArray 42)).alloc (.cells a.cells.toArray 42)) w.heap.size a.cells 42 := ((Aid.Has.new w _ _).alloc _).alloc _
  have H2 : Aid.Has (((w.alloc (.cells a.cells.toArray 42)).alloc (.cells b.cells.toArray 42)).alloc (.cells a.cells.toArray 42)) (w.heap.size + 1) b.cells 42 := by
    have e : (w.alloc (.cells a.cells.toArray 42)).heap.size = w.heap.size + 1 := by simp
    rw [← e]; exact (Aid.Has.new _ _ _).alloc _
  have H3 : Aid.Has (((w.alloc (.cells a.cells.toArray 42)).alloc (.cells b.cells.toArray 42)).alloc (.cells a.cells.toArray 42)) (w.heap.size + 1 + 1) a.cells 42 := by
    have e : ((w.alloc (.cells a.cells.toArray 42)).alloc (.cells b.cells.toArray 42)).heap.size = w.heap.size + 1 + 1 := by simp
    rw [← e]; exact Aid.Has.new _ _ _
  have hb0 : Below w.heap.size w (((w.alloc (.cells a.cells.toArray 42)).alloc (.cells b.cells.toArray 42)).alloc (.cells a.cells.toArray 42)) := (((Below.refl _ _).alloc (Nat.le_refl _) _).alloc (by simp) _).alloc (by simp; omega) _
  have s3 : (((w.alloc (.cells a.cells.toArray 42)).alloc (.cells b.cells.toArray 42)).alloc (.cells a.cells.toArray 42)).heap.size = w.heap.size + 1 + 1 + 1 := by simp
  go_enter Try.func4, Try.ntmps4
  try simp only [List.append_eq, List.cons_append, List.nil_append]
  go_upto_region 4 with (fail)
  obtain ⟨wd, hwd⟩ : ∃ W, (((w.alloc (.cells a.cells.toArray 42)).alloc (.cells b.cells.toArray 42)).alloc (.cells a.cells.toArray 42)) = W := ⟨_, rfl⟩
  change Code.wp _ _ _ _ (((w.alloc (.cells a.cells.toArray 42)).alloc (.cells b.cells.toArray 42)).alloc (.cells a.cells.toArray 42))
  rw [hwd] at H1 H2 H3 hb0 s3 ⊢
  clear hwd
  obtain ⟨p1, e1⟩ : ∃ p, w.heap.size = p := ⟨_, rfl⟩
  obtain ⟨p2, e2⟩ : ∃ p, w.heap.size + 1 = p := ⟨_, rfl⟩
  obtain ⟨p3, e3⟩ : ∃ p, w.heap.size + 1 + 1 = p := ⟨_, rfl⟩
  rw [e3] at H3 ⊢
  rw [e2] at H2 ⊢
  rw [e1] at H1 ⊢
  have ne13 : p1 ≠ p3 := by omega
  have ne23 : p2 ≠ p3 := by omega
  have k1 : wd.drew.cell? ⟨p1, 1, none⟩ = some (.bool a.over) := H1.cell 1 _ rfl
  have k2 : wd.drew.cell? ⟨p1, 2, none⟩ = some (.bool a.abs) := H1.cell 2 _ rfl
  have k3 : wd.drew.cell? ⟨p1, 3, none⟩ = some (.bool a.fin) := H1.cell 3 _ rfl
  refine Ord.wp_region_walk (fun w' => w'.cell? ⟨p1, 1, none⟩ = some (.bool a.over) ∧ w'.cell? ⟨p1, 2, none⟩ = some (.bool a.abs) ∧ w'.cell? ⟨p1, 3, none⟩ = some (.bool a.fin)) 17 [(true, 0), (true, 1), (true, 2), (true, 3), (true, 4), (true, 5), (true, 6), (true, 7), (true, 8), (true, 9), (true, 10), (false, 11), (true, 12), (false, 13), (true, 14), (false, 15), (true, 16)] (by kernel_rfl) (by kernel_rfl) (fun _ _ d _ _ h => by cases d <;> exact h) (⟨k1, k2, k3⟩) ?_
  replace H1 := H1.drew; replace H2 := H2.drew; replace H3 := H3.drew; replace hb0 := hb0.drew
  generalize wd.drew = wd at *
  apply Ord.walk_light
  next => (simp only [List.getElem?_toArray, List.getElem?_cons_zero]; rfl)
  next => rfl
  next => (intro w' hSw; clear hSw; go_simp; first | done | with_reducible rfl)
  simp only [Act.put, List.setIfInBounds_toArray, List.set_cons_zero, List.set_cons_succ]
  apply Ord.walk_light
  next => (simp only [List.getElem?_toArray, List.getElem?_cons_succ, List.getElem?_cons_zero]; rfl)
  next => rfl
  next => (intro w' hSw; clear hSw; go_simp; first | done | with_reducible rfl)
  simp only [Act.put, List.setIfInBounds_toArray, List.set_cons_zero, List.set_cons_succ]
  apply Ord.walk_light
  next => (simp only [List.getElem?_toArray, List.getElem?_cons_succ, List.getElem?_cons_zero]; rfl)
  next => rfl
  next => (intro w' hSw; obtain ⟨k1, k2, k3⟩ := hSw; go_simp; first | done | with_reducible rfl)
  simp only [Act.put, List.setIfInBounds_toArray, List.set_cons_zero, List.set_cons_succ]
  apply Ord.walk_light
  next => (simp only [List.getElem?_toArray, List.getElem?_cons_succ, List.getElem?_cons_zero]; rfl)
  next => rfl
  next => (intro w' hSw; clear hSw; go_simp; first | done | with_reducible rfl)
  simp only [Act.put, List.setIfInBounds_toArray, List.set_cons_zero, List.set_cons_succ]
  apply Ord.walk_light
  next => (simp only [List.getElem?_toArray, List.getElem?_cons_succ, List.getElem?_cons_zero]; rfl)
  next => rfl
  next => (intro w' hSw; clear hSw; go_simp; first | done | with_reducible rfl)
  simp only [Act.put, List.setIfInBounds_toArray, List.set_cons_zero, List.set_cons_succ]
  apply Ord.walk_light
  next => (simp only [List.getElem?_toArray, List.getElem?_cons_succ, List.getElem?_cons_zero]; rfl)
  next => rfl
  next => (intro w' hSw; obtain ⟨k1, k2, k3⟩ := hSw; go_simp; first | done | with_reducible rfl)
  simp only [Act.put, List.setIfInBounds_toArray, List.set_cons_zero, List.set_cons_succ]
  apply Ord.walk_light
  next => (simp only [List.getElem?_toArray, List.getElem?_cons_succ, List.getElem?_cons_zero]; rfl)
  next => rfl
  next => (intro w' hSw; clear hSw; go_simp; first | done | with_reducible rfl)
  simp only [Act.put, List.setIfInBounds_toArray, List.set_cons_zero, List.set_cons_succ]
  apply Ord.walk_light
  next => (simp only [List.getElem?_toArray, List.getElem?_cons_succ, List.getElem?_cons_zero]; rfl)
  next => rfl
  next => (intro w' hSw; clear hSw; go_simp; first | done | with_reducible rfl)
  simp only [Act.put, List.setIfInBounds_toArray, List.set_cons_zero, List.set_cons_succ]
  apply Ord.walk_light
  next => (simp only [List.getElem?_toArray, List.getElem?_cons_succ, List.getElem?_cons_zero]; rfl)
  next => rfl
  next => (intro w' hSw; obtain ⟨k1, k2, k3⟩ := hSw; go_simp; first | done | with_reducible rfl)
  simp only [Act.put, List.setIfInBounds_toArray, List.set_cons_zero, List.set_cons_succ]
  apply Ord.walk_light
  next => (simp only [List.getElem?_toArray, List.getElem?_cons_succ, List.getElem?_cons_zero]; rfl)
  next => rfl
  next => (intro w' hSw; clear hSw; go_simp; first | done | with_reducible rfl)
  simp only [Act.put, List.setIfInBounds_toArray, List.set_cons_zero, List.set_cons_succ]
  apply Ord.walk_light
  next => (simp only [List.getElem?_toArray, List.getElem?_cons_succ, List.getElem?_cons_zero]; rfl)
  next => rfl
  next => (intro w' hSw; clear hSw; go_simp; first | done | with_reducible rfl)
  simp only [Act.put, List.setIfInBounds_toArray, List.set_cons_zero, List.set_cons_succ]
  apply Ord.walk_heavy
  next => (simp only [List.getElem?_toArray, List.getElem?_cons_succ, List.getElem?_cons_zero]; rfl)
  next => rfl
  intro K hK
  have d0 := H3.cell 0 _ rfl
  have dl := H3.lt
  have df := H3.frozen
  go_wp2_with fail
  have g1 := (World.cell?_of_block (w := wd) (Below.heap_setCell wd ⟨p3, 0, none⟩ (.string nm) p1 ne13) (a := ⟨p1, 1, none⟩)).trans k1
  have g2 := (World.cell?_of_block (w := wd) (Below.heap_setCell wd ⟨p3, 0, none⟩ (.string nm) p1 ne13) (a := ⟨p1, 2, none⟩)).trans k2
  have g3 := (World.cell?_of_block (w := wd) (Below.heap_setCell wd ⟨p3, 0, none⟩ (.string nm) p1 ne13) (a := ⟨p1, 3, none⟩)).trans k3
  refine hK.out _ _ ⟨g1, g2, g3⟩ (fun _ => ?_)
  replace H1 := H1.other ⟨p3, 0, none⟩ (.string nm) ne13
  replace H2 := H2.other ⟨p3, 0, none⟩ (.string nm) ne23
  replace H3 := H3.set 0 (.string nm)
  replace hb0 := hb0.setCell (p := ⟨p3, 0, none⟩) (by simp; omega) (.string nm)
  clear k1 k2 k3 d0 dl df
  have k1 := g1; have k2 := g2; have k3 := g3; clear g1 g2 g3
  generalize wd.setCell ⟨p3, 0, none⟩ (.string nm) = wd at *
  clear hK K
  try simp only [Act.put, List.setIfInBounds_toArray, List.set_cons_zero, List.set_cons_succ]
  apply Ord.walk_light
  next => (simp only [List.getElem?_toArray, List.getElem?_cons_succ, List.getElem?_cons_zero]; rfl)
  next => rfl
  next => (intro w' hSw; clear hSw; go_simp; first | done | with_reducible rfl)
  simp only [Act.put, List.setIfInBounds_toArray, List.set_cons_zero, List.set_cons_succ]
  apply Ord.walk_heavy
  next => (simp only [List.getElem?_toArray, List.getElem?_cons_succ, List.getElem?_cons_zero]; rfl)
  next => rfl
  intro K hK
  have d0 := H3.cell 1 _ rfl
  have dl := H3.lt
  have df := H3.frozen
  go_wp2_with fail
  have g1 := (World.cell?_of_block (w := wd) (Below.heap_setCell wd ⟨p3, 1, none⟩ (.bool (!a.over)) p1 ne13) (a := ⟨p1, 1, none⟩)).trans k1
  have g2 := (World.cell?_of_block (w := wd) (Below.heap_setCell wd ⟨p3, 1, none⟩ (.bool (!a.over)) p1 ne13) (a := ⟨p1, 2, none⟩)).trans k2
  have g3 := (World.cell?_of_block (w := wd) (Below.heap_setCell wd ⟨p3, 1, none⟩ (.bool (!a.over)) p1 ne13) (a := ⟨p1, 3, none⟩)).trans k3
  refine hK.out _ _ ⟨g1, g2, g3⟩ (fun _ => ?_)
  replace H1 := H1.other ⟨p3, 1, none⟩ (.bool (!a.over)) ne13
  replace H2 := H2.other ⟨p3, 1, none⟩ (.bool (!a.over)) ne23
  replace H3 := H3.set 1 (.bool (!a.over))
  replace hb0 := hb0.setCell (p := ⟨p3, 1, none⟩) (by simp; omega) (.bool (!a.over))
  clear k1 k2 k3 d0 dl df
  have k1 := g1; have k2 := g2; have k3 := g3; clear g1 g2 g3
  generalize wd.setCell ⟨p3, 1, none⟩ (.bool (!a.over)) = wd at *
  clear hK K
  try simp only [Act.put, List.setIfInBounds_toArray, List.set_cons_zero, List.set_cons_succ]
  apply Ord.walk_light
  next => (simp only [List.getElem?_toArray, List.getElem?_cons_succ, List.getElem?_cons_zero]; rfl)
  next => rfl
  next => (intro w' hSw; clear hSw; go_simp; first | done | with_reducible rfl)
  simp only [Act.put, List.setIfInBounds_toArray, List.set_cons_zero, List.set_cons_succ]
  apply Ord.walk_heavy
  next => (simp only [List.getElem?_toArray, List.getElem?_cons_succ, List.getElem?_cons_zero]; rfl)
  next => rfl
  intro K hK
  have d0 := H3.cell 2 _ rfl
  have dl := H3.lt
  have df := H3.frozen
  go_wp2_with fail
  have g1 := (World.cell?_of_block (w := wd) (Below.heap_setCell wd ⟨p3, 2, none⟩ (.bool (!a.abs)) p1 ne13) (a := ⟨p1, 1, none⟩)).trans k1
  have g2 := (World.cell?_of_block (w := wd) (Below.heap_setCell wd ⟨p3, 2, none⟩ (.bool (!a.abs)) p1 ne13) (a := ⟨p1, 2, none⟩)).trans k2
  have g3 := (World.cell?_of_block (w := wd) (Below.heap_setCell wd ⟨p3, 2, none⟩ (.bool (!a.abs)) p1 ne13) (a := ⟨p1, 3, none⟩)).trans k3
  refine hK.out _ _ ⟨g1, g2, g3⟩ (fun _ => ?_)
  replace H1 := H1.other ⟨p3, 2, none⟩ (.bool (!a.abs)) ne13
  replace H2 := H2.other ⟨p3, 2, none⟩ (.bool (!a.abs)) ne23
  replace H3 := H3.set 2 (.bool (!a.abs))
  replace hb0 := hb0.setCell (p := ⟨p3, 2, none⟩) (by simp; omega) (.bool (!a.abs))
  clear k1 k2 k3 d0 dl df
  have k1 := g1; have k2 := g2; have k3 := g3; clear g1 g2 g3
  generalize wd.setCell ⟨p3, 2, none⟩ (.bool (!a.abs)) = wd at *
  clear hK K
  try simp only [Act.put, List.setIfInBounds_toArray, List.set_cons_zero, List.set_cons_succ]
  apply Ord.walk_light
  next => (simp only [List.getElem?_toArray, List.getElem?_cons_succ, List.getElem?_cons_zero]; rfl)
  next => rfl
  next => (intro w' hSw; clear hSw; go_simp; first | done | with_reducible rfl)
  simp only [Act.put, List.setIfInBounds_toArray, List.set_cons_zero, List.set_cons_succ]
  refine Ord.walk_tail ?_; simp only [List.drop_succ_cons, List.drop_zero]
  have d0 := H3.cell 3 _ rfl
  have dl := H3.lt
  have df := H3.frozen
  go_upto_region 5 with (fail)
  replace H1 := H1.other ⟨p3, 3, none⟩ (.bool (!a.fin)) ne13
  replace H2 := H2.other ⟨p3, 3, none⟩ (.bool (!a.fin)) ne23
  replace H3 := H3.set 3 (.bool (!a.fin))
  replace hb0 := hb0.setCell (p := ⟨p3, 3, none⟩) (by simp; omega) (.bool (!a.fin))
  clear k1 k2 k3 d0 dl df
  generalize wd.setCell ⟨p3, 3, none⟩ (.bool (!a.fin)) = wd at *
  have a4 := H1.cell 4 _ rfl
  have RD := Aid.hid ((MA.out.below hb0 (Nat.le_refl _)).params.reads)
  obtain ⟨i0, z, hi, hz0, hz1, hz2, hz3⟩ := info_vd_parts
  have hsz := hb0.size
  go_upto_region 6 with (at_builtin; refine wpList_append_any _ rfl _ _ 28 rfl wd.heap.size 44 i0 z 8 80 Try.underlying28 hi hz0 hz1 hz2 hz3 (by decide) _ 0 [] rfl (World.ownsRow_nil _ _ _ _) w.heap.size _ a.ps.length _ _ rfl RD.out (vd_one _) (by unfold maxLen; omega) (by omega) (Nat.le_refl _) ?_)
  intro v' w5 hown hgrow _
  obtain ⟨A', c', rfl⟩ : ∃ A' c', v' = .slice A' a.ps.length c' := by
    rcases hown.2 with ⟨h1, h2⟩ | ⟨g, cp, _, h1, _⟩
    · exact ⟨none, 0, by rw [h1]; simp at h2; simp [h2]⟩
    · exact ⟨_, cp, by simpa using h1⟩
  try simp only [Nat.zero_add, List.nil_append] at hown
  have hl1 := H1.lt; have hl2 := H2.lt; have hl3 := H3.lt
  replace H1 : Aid.Has w5 p1 _ _ := (hgrow.block p1 H1.lt (fun h => by cases h)).trans H1
  replace H2 : Aid.Has w5 p2 _ _ := (hgrow.block p2 H2.lt (fun h => by cases h)).trans H2
  replace H3 : Aid.Has w5 p3 _ _ := (hgrow.block p3 H3.lt (fun h => by cases h)).trans H3
  replace hb0 := hb0.grown hgrow hsz (fun q hq => by cases hq)
  have hH0 := hgrow.size
  obtain ⟨H0, hH⟩ : ∃ H0, wd.heap.size = H0 := ⟨_, rfl⟩
  rw [hH] at hown hl1 hl2 hl3 hsz hH0
  clear hgrow a4 hH
  have d0 := H3.cell 4 _ rfl
  have dl := H3.lt
  have df := H3.frozen
  go_upto_region 6 with (fail)
  replace H1 := H1.other ⟨p3, 4, none⟩ (.slice A' a.ps.length c') ne13
  replace H2 := H2.other ⟨p3, 4, none⟩ (.slice A' a.ps.length c') ne23
  replace H3 := H3.set 4 (.slice A' a.ps.length c')
  replace hb0 := hb0.setCell (p := ⟨p3, 4, none⟩) (by simp; omega) (.slice A' a.ps.length c')
  replace hown := ownsRow_setCell_below hown (a := ⟨p3, 4, none⟩) (by simpa using hl3) (.slice A' a.ps.length c')
  have hH1 : H0 ≤ (w5.setCell ⟨p3, 4, none⟩ (.slice A' a.ps.length c')).heap.size := by rw [Aid.size_setCell]; exact hH0
  clear d0 dl df
  generalize w5.setCell ⟨p3, 4, none⟩ (.slice A' a.ps.length c') = W at *
  have O := Aid.hid hown
  have PT := Aid.hid (Part.start a.ps nm)
  have HA := Aid.hid H1; have HB := Aid.hid H2; have HC := Aid.hid H3
  have BW := Aid.hid hb0
  have hb : Below H0 W W := Below.refl _ _
  clear H1 H2 H3 hb0 hown
  go_wp2_with fail
  go_loopw [8] (fun vi wr => ∃ (k : Nat) (xs : List Value), vi = .int .i64 k ∧ k ≤ a.ps.length ∧ Hid (wr.ownsRow H0 44 8 (.slice A' a.ps.length c') a.ps.length xs) ∧ Hid (Part a.ps nm k xs) ∧ Below H0 W wr) (fun vi _ => a.ps.length - (intOf vi).toNat)
  case atStart => exact ⟨0, _, rfl, Nat.zero_le _, O, PT, hb⟩
  case round =>
    clear hb O PT
    obtain ⟨k, xs, rfl, hk, O, PT, hb⟩ := hrel
    have c4 := (HC.out.below hb hl3).cell 4 _ rfl
    by_cases hlt : k < a.ps.length
    · obtain ⟨g, cc, hv, hg, hgl⟩ := O.out.form (by omega)
      obtain ⟨rfl, rfl⟩ : A' = some ⟨g, 0, none⟩ ∧ c' = cc := by simpa using hv
      have hxl := O.out.1
      have cg := O.out.cellAt (k * 8) (by omega)
      have cf := O.out.frozenAt (k * 8)
      obtain ⟨u, hu⟩ : ∃ u, xs[k * 8]? = some u := ⟨_, List.getElem?_eq_getElem (by omega)⟩
      rw [hu] at cg
      have NO := Aid.hid (O.out.stored (k * 8) (.string nm))
      have NP := Aid.hid (PT.out.next hxl hlt)
      clear hv hu
      go_wp2_with fail
      go_roundw
      case rel => exact ⟨k + 1, _, by go_num, by omega, Aid.hid NO.out.1, NP, hb.grown NO.out.2 (Nat.le_trans hH1 hb.size) (fun q hq => by cases hq; exact hg)⟩
      case measure => simp [intOf]; omega
    · obtain rfl : k = a.ps.length := by omega
      have RC : Hid (Rows wr wr.heap.size 8 A' ((a.ps.map (Vd.named nm)).map Vd.cells)) := Aid.hid (by
        intro hn
        have hn' : 0 < a.ps.length := by simpa using hn
        obtain ⟨g, cc, hv, hg, hgl⟩ := O.out.form hn'
        obtain ⟨rfl, rfl⟩ : A' = some ⟨g, 0, none⟩ ∧ c' = cc := by simpa using hv
        refine ⟨g, 0, rfl, hgl, fun i r hr j x hx => ?_⟩
        have hil : i < a.ps.length := by have := (List.getElem?_eq_some_iff.1 hr).1; simpa using this
        have hr2 : r = (Vd.named nm a.ps[i]).cells := by simpa [hil] using hr.symm
        subst hr2
        have hj : j < 8 := by have := (List.getElem?_eq_some_iff.1 hx).1; rwa [Vd.cells_len] at this
        rw [Nat.zero_add, O.out.cellAt (i * 8 + j) (by omega)]
        exact PT.out i a.ps[i] (List.getElem?_eq_getElem hil) j x (by rw [if_pos hil]; exact hx))
      obtain ⟨cM, hcM⟩ : ∃ cM : Md, cM = ⟨nm, !a.over, !a.abs, !a.fin, A', a.ps.map (Vd.named nm), c', a.res, a.vA, a.vs, a.vc, a.bA, a.bn, a.bc⟩ := ⟨_, rfl⟩
      have CM := Aid.hid hcM
      have EC : Hid (Tb.alike a cM = true) := Aid.hid (by rw [hcM]; unfold Tb.alike; rw [Tb.samePs_named, Ty.same_self]; rfl)
      have HC2 : Hid (Aid.Has wr p3 cM.cells 42) := Aid.hid (by
        have := HC.out.below hb hl3
        rw [hcM]
        simpa [Md.cells] using this)
      have HA2 := Aid.hid (HA.out.below hb hl1)
      have HB2 := Aid.hid (HB.out.below hb hl2)
      have RC2 : Hid (MdP wr wr.heap.size cM) := Aid.hid ⟨by rw [hcM]; exact RC.out, by rw [hcM]; simp; omega⟩
      have BT := Aid.hid (BW.out.trans (hb.mono hsz))
      have hcl := HC2.out.lt; have hal := HA2.out.lt; have hbl := HB2.out.lt
      clear hcM
      go_upto_region 10 with (fail)
      obtain ⟨r, hr⟩ : ∃ r, Tb.alike a b = r := ⟨_, rfl⟩
      have R1 := Aid.hid hr
      have R2 : Hid (Tb.alike b a = r) := Aid.hid (by rw [Tb.alike_comm]; exact hr)
      have hw0 : w.heap.size ≤ wr.heap.size := BT.out.size
      have MA2 := Aid.hid ((MA.out.below BT.out (Nat.le_refl _)))
      have MB2 := Aid.hid ((MB.out.below BT.out (Nat.le_refl _)))
      have hb : Below wr.heap.size wr wr.drew := (Below.refl _ _).drew
      clear hr hb c4
      cases r
      all_goals
        refine Ord.wp_region_walk (fun w' => Below wr.heap.size wr w') 29 [(true, 0), (true, 1), (true, 3), (true, 4), (false, 2), (false, 5), (true, 6), (true, 7), (true, 8), (true, 9), (true, 11), (true, 12), (false, 10), (false, 13), (true, 14), (true, 15), (true, 16), (true, 17), (true, 18), (false, 19), (true, 20), (true, 21), (true, 22), (true, 23), (false, 24), (true, 25), (true, 26), (false, 27), (true, 28)] (by kernel_rfl) (by kernel_rfl) (fun _ _ d _ _ h => by cases d <;> exact h) ((Below.refl _ _).drew) ?_
        have hc : Below wr.heap.size wr wr.drew := (Below.refl _ _).drew
        generalize wr.drew = wz at hc ⊢
        apply Ord.walk_light
        next => (simp only [List.getElem?_toArray, List.getElem?_cons_zero]; rfl)
        next => rfl
        next => (intro w' hSw; have g := HA2.out.below hSw hal; have q0 := g.cell 0 _ rfl; have q1 := g.cell 1 _ rfl; have q2 := g.cell 2 _ rfl; have q3 := g.cell 3 _ rfl; have q4 := g.cell 4 _ rfl; have q5 := g.cell 5 _ rfl; have q6 := g.cell 6 _ rfl; have q7 := g.cell 7 _ rfl; have q8 := g.cell 8 _ rfl; have q9 := g.cell 9 _ rfl; have q10 := g.cell 10 _ rfl; go_simp; first | done | with_reducible rfl)
        simp only [Act.put, List.setIfInBounds_toArray, List.set_cons_zero, List.set_cons_succ]
        apply Ord.walk_light
        next => (simp only [List.getElem?_toArray, List.getElem?_cons_succ, List.getElem?_cons_zero]; rfl)
        next => rfl
        next => (intro w' hSw; have g := HB2.out.below hSw hbl; have q0 := g.cell 0 _ rfl; have q1 := g.cell 1 _ rfl; have q2 := g.cell 2 _ rfl; have q3 := g.cell 3 _ rfl; have q4 := g.cell 4 _ rfl; have q5 := g.cell 5 _ rfl; have q6 := g.cell 6 _ rfl; have q7 := g.cell 7 _ rfl; have q8 := g.cell 8 _ rfl; have q9 := g.cell 9 _ rfl; have q10 := g.cell 10 _ rfl; go_simp; first | done | with_reducible rfl)
        simp only [Act.put, List.setIfInBounds_toArray, List.set_cons_zero, List.set_cons_succ]
        apply Ord.walk_light
        next => (simp only [List.getElem?_toArray, List.getElem?_cons_succ, List.getElem?_cons_zero]; rfl)
        next => rfl
        next => (intro w' hSw; have g := HA2.out.below hSw hal; have q0 := g.cell 0 _ rfl; have q1 := g.cell 1 _ rfl; have q2 := g.cell 2 _ rfl; have q3 := g.cell 3 _ rfl; have q4 := g.cell 4 _ rfl; have q5 := g.cell 5 _ rfl; have q6 := g.cell 6 _ rfl; have q7 := g.cell 7 _ rfl; have q8 := g.cell 8 _ rfl; have q9 := g.cell 9 _ rfl; have q10 := g.cell 10 _ rfl; go_simp; first | done | with_reducible rfl)
        simp only [Act.put, List.setIfInBounds_toArray, List.set_cons_zero, List.set_cons_succ]
        apply Ord.walk_light
        next => (simp only [List.getElem?_toArray, List.getElem?_cons_succ, List.getElem?_cons_zero]; rfl)
        next => rfl
        next => (intro w' hSw; have g := HB2.out.below hSw hbl; have q0 := g.cell 0 _ rfl; have q1 := g.cell 1 _ rfl; have q2 := g.cell 2 _ rfl; have q3 := g.cell 3 _ rfl; have q4 := g.cell 4 _ rfl; have q5 := g.cell 5 _ rfl; have q6 := g.cell 6 _ rfl; have q7 := g.cell 7 _ rfl; have q8 := g.cell 8 _ rfl; have q9 := g.cell 9 _ rfl; have q10 := g.cell 10 _ rfl; go_simp; first | done | with_reducible rfl)
        simp only [Act.put, List.setIfInBounds_toArray, List.set_cons_zero, List.set_cons_succ]
        apply Ord.walk_heavy
        next => (simp only [List.getElem?_toArray, List.getElem?_cons_succ, List.getElem?_cons_zero]; rfl)
        next => rfl
        intro K hK
        go_wp2_with fail
        refine (alike_is a b _ _ R1.out _ _ (MA2.out.below hc hw0) (MB2.out.below hc hw0) (Nat.le_trans hw0 hc.size) (Nat.le_trans hw0 hc.size)).mono ?_; rintro x w' ⟨rfl, hx⟩; dsimp only
        refine hK.out _ _ (hc.trans (hx.mono hc.size)) (fun hHeld => ?_)
        clear hc hx
        have hc := hHeld
        clear hK K
        try simp only [Act.put, List.setIfInBounds_toArray, List.set_cons_zero, List.set_cons_succ]
        apply Ord.walk_heavy
        next => (simp only [List.getElem?_toArray, List.getElem?_cons_succ, List.getElem?_cons_zero]; rfl)
        next => rfl
        intro K hK
        go_wp2_with fail
        refine (ralike_is a b _ _ R1.out _ _ (MA2.out.below hc hw0) (MB2.out.below hc hw0) (Nat.le_trans hw0 hc.size) (Nat.le_trans hw0 hc.size)).mono ?_; rintro x w' ⟨rfl, hx⟩; dsimp only
        refine hK.out _ _ (hc.trans (hx.mono hc.size)) (fun hHeld => ?_)
        clear hc hx
        have hc := hHeld
        clear hK K
        try simp only [Act.put, List.setIfInBounds_toArray, List.set_cons_zero, List.set_cons_succ]
        apply Ord.walk_light
        next => (simp only [List.getElem?_toArray, List.getElem?_cons_succ, List.getElem?_cons_zero]; rfl)
        next => rfl
        next => (intro w' hSw; clear hSw; go_simp; first | done | with_reducible rfl)
        simp only [Act.put, List.setIfInBounds_toArray, List.set_cons_zero, List.set_cons_succ]
        apply Ord.walk_light
        next => (simp only [List.getElem?_toArray, List.getElem?_cons_succ, List.getElem?_cons_zero]; rfl)
        next => rfl
        next => (intro w' hSw; clear hSw; go_simp; first | done | with_reducible rfl)
        simp only [Act.put, List.setIfInBounds_toArray, List.set_cons_zero, List.set_cons_succ]
        apply Ord.walk_light
        next => (simp only [List.getElem?_toArray, List.getElem?_cons_succ, List.getElem?_cons_zero]; rfl)
        next => rfl
        next => (intro w' hSw; have g := HB2.out.below hSw hbl; have q0 := g.cell 0 _ rfl; have q1 := g.cell 1 _ rfl; have q2 := g.cell 2 _ rfl; have q3 := g.cell 3 _ rfl; have q4 := g.cell 4 _ rfl; have q5 := g.cell 5 _ rfl; have q6 := g.cell 6 _ rfl; have q7 := g.cell 7 _ rfl; have q8 := g.cell 8 _ rfl; have q9 := g.cell 9 _ rfl; have q10 := g.cell 10 _ rfl; go_simp; first | done | with_reducible rfl)
        simp only [Act.put, List.setIfInBounds_toArray, List.set_cons_zero, List.set_cons_succ]
        apply Ord.walk_light
        next => (simp only [List.getElem?_toArray, List.getElem?_cons_succ, List.getElem?_cons_zero]; rfl)
        next => rfl
        next => (intro w' hSw; have g := HA2.out.below hSw hal; have q0 := g.cell 0 _ rfl; have q1 := g.cell 1 _ rfl; have q2 := g.cell 2 _ rfl; have q3 := g.cell 3 _ rfl; have q4 := g.cell 4 _ rfl; have q5 := g.cell 5 _ rfl; have q6 := g.cell 6 _ rfl; have q7 := g.cell 7 _ rfl; have q8 := g.cell 8 _ rfl; have q9 := g.cell 9 _ rfl; have q10 := g.cell 10 _ rfl; go_simp; first | done | with_reducible rfl)
        simp only [Act.put, List.setIfInBounds_toArray, List.set_cons_zero, List.set_cons_succ]
        apply Ord.walk_light
        next => (simp only [List.getElem?_toArray, List.getElem?_cons_succ, List.getElem?_cons_zero]; rfl)
        next => rfl
        next => (intro w' hSw; have g := HA2.out.below hSw hal; have q0 := g.cell 0 _ rfl; have q1 := g.cell 1 _ rfl; have q2 := g.cell 2 _ rfl; have q3 := g.cell 3 _ rfl; have q4 := g.cell 4 _ rfl; have q5 := g.cell 5 _ rfl; have q6 := g.cell 6 _ rfl; have q7 := g.cell 7 _ rfl; have q8 := g.cell 8 _ rfl; have q9 := g.cell 9 _ rfl; have q10 := g.cell 10 _ rfl; go_simp; first | done | with_reducible rfl)
        simp only [Act.put, List.setIfInBounds_toArray, List.set_cons_zero, List.set_cons_succ]
        apply Ord.walk_light
        next => (simp only [List.getElem?_toArray, List.getElem?_cons_succ, List.getElem?_cons_zero]; rfl)
        next => rfl
        next => (intro w' hSw; have g := HB2.out.below hSw hbl; have q0 := g.cell 0 _ rfl; have q1 := g.cell 1 _ rfl; have q2 := g.cell 2 _ rfl; have q3 := g.cell 3 _ rfl; have q4 := g.cell 4 _ rfl; have q5 := g.cell 5 _ rfl; have q6 := g.cell 6 _ rfl; have q7 := g.cell 7 _ rfl; have q8 := g.cell 8 _ rfl; have q9 := g.cell 9 _ rfl; have q10 := g.cell 10 _ rfl; go_simp; first | done | with_reducible rfl)
        simp only [Act.put, List.setIfInBounds_toArray, List.set_cons_zero, List.set_cons_succ]
        apply Ord.walk_heavy
        next => (simp only [List.getElem?_toArray, List.getElem?_cons_succ, List.getElem?_cons_zero]; rfl)
        next => rfl
        intro K hK
        go_wp2_with fail
        refine (alike_is b a _ _ R2.out _ _ (MB2.out.below hc hw0) (MA2.out.below hc hw0) (Nat.le_trans hw0 hc.size) (Nat.le_trans hw0 hc.size)).mono ?_; rintro x w' ⟨rfl, hx⟩; dsimp only
        refine hK.out _ _ (hc.trans (hx.mono hc.size)) (fun hHeld => ?_)
        clear hc hx
        have hc := hHeld
        clear hK K
        try simp only [Act.put, List.setIfInBounds_toArray, List.set_cons_zero, List.set_cons_succ]
        apply Ord.walk_heavy
        next => (simp only [List.getElem?_toArray, List.getElem?_cons_succ, List.getElem?_cons_zero]; rfl)
        next => rfl
        intro K hK
        go_wp2_with fail
        refine (alike_is a b _ _ R1.out _ _ (MA2.out.below hc hw0) (MB2.out.below hc hw0) (Nat.le_trans hw0 hc.size) (Nat.le_trans hw0 hc.size)).mono ?_; rintro x w' ⟨rfl, hx⟩; dsimp only
        refine hK.out _ _ (hc.trans (hx.mono hc.size)) (fun hHeld => ?_)
        clear hc hx
        have hc := hHeld
        clear hK K
        try simp only [Act.put, List.setIfInBounds_toArray, List.set_cons_zero, List.set_cons_succ]
        apply Ord.walk_light
        next => (simp only [List.getElem?_toArray, List.getElem?_cons_succ, List.getElem?_cons_zero]; rfl)
        next => rfl
        next => (intro w' hSw; clear hSw; go_simp; first | done | with_reducible rfl)
        simp only [Act.put, List.setIfInBounds_toArray, List.set_cons_zero, List.set_cons_succ]
        apply Ord.walk_light
        next => (simp only [List.getElem?_toArray, List.getElem?_cons_succ, List.getElem?_cons_zero]; rfl)
        next => rfl
        next => (intro w' hSw; clear hSw; go_simp; first | done | with_reducible rfl)
        simp only [Act.put, List.setIfInBounds_toArray, List.set_cons_zero, List.set_cons_succ]
        apply Ord.walk_light
        next => (simp only [List.getElem?_toArray, List.getElem?_cons_succ, List.getElem?_cons_zero]; rfl)
        next => rfl
        next => (intro w' hSw; clear hSw; go_simp; first | done | with_reducible rfl)
        simp only [Act.put, List.setIfInBounds_toArray, List.set_cons_zero, List.set_cons_succ]
        apply Ord.walk_light
        next => (simp only [List.getElem?_toArray, List.getElem?_cons_succ, List.getElem?_cons_zero]; rfl)
        next => rfl
        next => (intro w' hSw; have g := HA2.out.below hSw hal; have q0 := g.cell 0 _ rfl; have q1 := g.cell 1 _ rfl; have q2 := g.cell 2 _ rfl; have q3 := g.cell 3 _ rfl; have q4 := g.cell 4 _ rfl; have q5 := g.cell 5 _ rfl; have q6 := g.cell 6 _ rfl; have q7 := g.cell 7 _ rfl; have q8 := g.cell 8 _ rfl; have q9 := g.cell 9 _ rfl; have q10 := g.cell 10 _ rfl; go_simp; first | done | with_reducible rfl)
        simp only [Act.put, List.setIfInBounds_toArray, List.set_cons_zero, List.set_cons_succ]
        apply Ord.walk_light
        next => (simp only [List.getElem?_toArray, List.getElem?_cons_succ, List.getElem?_cons_zero]; rfl)
        next => rfl
        next => (intro w' hSw; have g := HA2.out.below hSw hal; have q0 := g.cell 0 _ rfl; have q1 := g.cell 1 _ rfl; have q2 := g.cell 2 _ rfl; have q3 := g.cell 3 _ rfl; have q4 := g.cell 4 _ rfl; have q5 := g.cell 5 _ rfl; have q6 := g.cell 6 _ rfl; have q7 := g.cell 7 _ rfl; have q8 := g.cell 8 _ rfl; have q9 := g.cell 9 _ rfl; have q10 := g.cell 10 _ rfl; go_simp; first | done | with_reducible rfl)
        simp only [Act.put, List.setIfInBounds_toArray, List.set_cons_zero, List.set_cons_succ]
        apply Ord.walk_heavy
        next => (simp only [List.getElem?_toArray, List.getElem?_cons_succ, List.getElem?_cons_zero]; rfl)
        next => rfl
        intro K hK
        go_wp2_with fail
        refine (alike_is a a true _ (Tb.alike_self a) _ _ (MA2.out.below hc hw0) (MA2.out.below hc hw0) (Nat.le_trans hw0 hc.size) (Nat.le_trans hw0 hc.size)).mono ?_; rintro x w' ⟨rfl, hx⟩; dsimp only
        refine hK.out _ _ (hc.trans (hx.mono hc.size)) (fun hHeld => ?_)
        clear hc hx
        have hc := hHeld
        clear hK K
        try simp only [Act.put, List.setIfInBounds_toArray, List.set_cons_zero, List.set_cons_succ]
        apply Ord.walk_light
        next => (simp only [List.getElem?_toArray, List.getElem?_cons_succ, List.getElem?_cons_zero]; rfl)
        next => rfl
        next => (intro w' hSw; clear hSw; go_simp; first | done | with_reducible rfl)
        simp only [Act.put, List.setIfInBounds_toArray, List.set_cons_zero, List.set_cons_succ]
        apply Ord.walk_light
        next => (simp only [List.getElem?_toArray, List.getElem?_cons_succ, List.getElem?_cons_zero]; rfl)
        next => rfl
        next => (intro w' hSw; clear hSw; go_simp; first | done | with_reducible rfl)
        simp only [Act.put, List.setIfInBounds_toArray, List.set_cons_zero, List.set_cons_succ]
        apply Ord.walk_light
        next => (simp only [List.getElem?_toArray, List.getElem?_cons_succ, List.getElem?_cons_zero]; rfl)
        next => rfl
        next => (intro w' hSw; have g := HA2.out.below hSw hal; have q0 := g.cell 0 _ rfl; have q1 := g.cell 1 _ rfl; have q2 := g.cell 2 _ rfl; have q3 := g.cell 3 _ rfl; have q4 := g.cell 4 _ rfl; have q5 := g.cell 5 _ rfl; have q6 := g.cell 6 _ rfl; have q7 := g.cell 7 _ rfl; have q8 := g.cell 8 _ rfl; have q9 := g.cell 9 _ rfl; have q10 := g.cell 10 _ rfl; go_simp; first | done | with_reducible rfl)
        simp only [Act.put, List.setIfInBounds_toArray, List.set_cons_zero, List.set_cons_succ]
        apply Ord.walk_light
        next => (simp only [List.getElem?_toArray, List.getElem?_cons_succ, List.getElem?_cons_zero]; rfl)
        next => rfl
        next => (intro w' hSw; have g := HC2.out.below hSw hcl; have q0 := g.cell 0 _ rfl; have q1 := g.cell 1 _ rfl; have q2 := g.cell 2 _ rfl; have q3 := g.cell 3 _ rfl; have q4 := g.cell 4 _ rfl; have q5 := g.cell 5 _ rfl; have q6 := g.cell 6 _ rfl; have q7 := g.cell 7 _ rfl; have q8 := g.cell 8 _ rfl; have q9 := g.cell 9 _ rfl; have q10 := g.cell 10 _ rfl; go_simp; first | done | with_reducible rfl)
        simp only [Act.put, List.setIfInBounds_toArray, List.set_cons_zero, List.set_cons_succ]
        apply Ord.walk_heavy
        next => (simp only [List.getElem?_toArray, List.getElem?_cons_succ, List.getElem?_cons_zero]; rfl)
        next => rfl
        intro K hK
        go_wp2_with fail
        refine (alike_is a cM true _ EC.out _ _ (MA2.out.below hc hw0) (RC2.out.below hc (Nat.le_refl _)) (Nat.le_trans hw0 hc.size) hc.size).mono ?_; rintro x w' ⟨rfl, hx⟩; dsimp only
        refine hK.out _ _ (hc.trans (hx.mono hc.size)) (fun hHeld => ?_)
        clear hc hx
        have hc := hHeld
        clear hK K
        try simp only [Act.put, List.setIfInBounds_toArray, List.set_cons_zero, List.set_cons_succ]
        apply Ord.walk_light
        next => (simp only [List.getElem?_toArray, List.getElem?_cons_succ, List.getElem?_cons_zero]; rfl)
        next => rfl
        next => (intro w' hSw; clear hSw; go_simp; first | done | with_reducible rfl)
        simp only [Act.put, List.setIfInBounds_toArray, List.set_cons_zero, List.set_cons_succ]
        apply Ord.walk_light
        next => (simp only [List.getElem?_toArray, List.getElem?_cons_succ, List.getElem?_cons_zero]; rfl)
        next => rfl
        next => (intro w' hSw; clear hSw; go_simp; first | done | with_reducible rfl)
        simp only [Act.put, List.setIfInBounds_toArray, List.set_cons_zero, List.set_cons_succ]
        apply Ord.walk_heavy
        next => (simp only [List.getElem?_toArray, List.getElem?_cons_succ, List.getElem?_cons_zero]; rfl)
        next => rfl
        intro K hK
        go_wp2_with fail
        refine (awake_any _).mono ?_; rintro x w' ⟨rfl, hx⟩; dsimp only
        refine hK.out _ _ (hc.trans (hx.mono hc.size)) (fun hHeld => ?_)
        clear hc hx
        have hc := hHeld
        clear hK K
        try simp only [Act.put, List.setIfInBounds_toArray, List.set_cons_zero, List.set_cons_succ]
        apply Ord.walk_light
        next => (simp only [List.getElem?_toArray, List.getElem?_cons_succ, List.getElem?_cons_zero]; rfl)
        next => rfl
        next => (intro w' hSw; clear hSw; go_simp; first | done | with_reducible rfl)
        simp only [Act.put, List.setIfInBounds_toArray, List.set_cons_zero, List.set_cons_succ]
        refine Ord.walk_tail ?_; simp only [List.drop_succ_cons, List.drop_zero]
        go_wp2_with fail
        go_ret
        exact ⟨rfl, by first | exact BT.out.trans (hc.mono hw0) | exact e1 ▸ (BT.out.trans (hc.mono hw0))⟩
end Go.Proofs.Ytjhlcfaakhabfaa
