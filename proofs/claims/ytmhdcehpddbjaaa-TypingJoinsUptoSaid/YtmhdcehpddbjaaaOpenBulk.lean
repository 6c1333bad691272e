/- A unit that was handed in, of bulk at most so much: so long are its lists of variables at most. -/
import Derived.Test.YtmhdcehpddbjaaaOpenUnit
import Derived.Test.YtmhdcehpddbjaaaRows
namespace Go.Proofs.Ytmhdcehpddbjaaa
open Go.ChangeShapes Go.WideShapes Go.ChangeAt Go.RowKit Go.Deep

section
variable {H : Type}
theorem bulk_one (d : DataW H) : 1 ≤ Rows.uptoBulk d := by
  cases d with
  | lit l => cases l <;> simp [Rows.uptoBulk]
  | _ => simp [Rows.uptoBulk]
theorem bulk_part {d : DataW H} : ∀ {l : List (DataW H)}, d ∈ l → Rows.uptoBulk d ≤ Rows.uptoBulkAll l
  | x :: r, h => by
    simp only [Rows.uptoBulkAll]
    rcases List.mem_cons.1 h with rfl | h
    · omega
    · have := bulk_part h; omega
theorem bulk_len : ∀ l : List (DataW H), l.length ≤ Rows.uptoBulkAll l
  | [] => by simp
  | x :: r => by
    have h1 := bulk_len r
    have h2 := bulk_one x
    simp only [Rows.uptoBulkAll, List.length_cons]; omega
variable {enc : TypeId × Value → H} {W : World} {P : Program}
theorem slice_bulk {t e : TypeId} {fuel n c : Nat} {A : Option Addr} {z : DataW H × List MemPlace} {M : Nat} (ht : P.underlying t = some (.slice e))
    (hf : DataW.trod enc P W 0 (fun _ => true) true fuel t [.slice A n c] = some z) (hb : Rows.uptoBulk z.1 ≤ M) :
    n ≤ M ∧ ∀ i, i < n → ∃ (a : Addr) (m : Nat) (cs' : List Value) (y : DataW H × List MemPlace), A = some a ∧ W.cells? 0 (a.add (i * P.cellsOf e)) (P.cellsOf e) = some cs' ∧ DataW.trod enc P W 0 (fun _ => true) true m e cs' = some y ∧ Rows.uptoBulk y.1 ≤ M := by
  obtain ⟨d, p⟩ := z
  rcases DataW.trod_slice ht hf with ⟨hcs, _⟩ | ⟨a, len, cap, elems, rest, m, hfu, hcs, hx, _, hl, hm, hlen, hel2, _, _⟩
  · obtain ⟨_, rfl, _⟩ : A = none ∧ n = 0 ∧ c = 0 := by simpa using hcs
    exact ⟨Nat.zero_le _, fun i hi => absurd hi (Nat.not_lt_zero _)⟩
  · obtain ⟨rfl, rfl, rfl⟩ : A = some a ∧ n = len ∧ c = cap := by simpa using hcs
    simp only [Prod.mk.injEq] at hx
    have hb' := hb
    simp only [hx.1, Rows.uptoBulk] at hb'
    have h1 := bulk_len (elems.map (·.1))
    rw [List.length_map] at h1
    refine ⟨by omega, fun i hi => ?_⟩
    obtain ⟨y, hy⟩ : ∃ y, elems[i]? = some y := ⟨_, List.getElem?_eq_getElem (by omega)⟩
    have h3 := (hel2 i hi).trans hy
    obtain ⟨cs', hc, ht'⟩ := Option.bind_eq_some_iff.1 h3
    have h4 := bulk_part (List.mem_map_of_mem (f := (·.1)) (List.mem_of_getElem? hy))
    exact ⟨a, m, cs', y, rfl, hc, ht', by omega⟩
theorem struct_bulk {fs : Array Field} {t : TypeId} {fuel : Nat} {cs : List Value} {y : DataW H × List MemPlace} {M : Nat} (ht : P.underlying t = some (.struct fs)) (h : DataW.trod enc P W 0 (fun _ => true) true fuel t cs = some y) (hb : Rows.uptoBulk y.1 ≤ M) :
    ∃ n, ∀ (i : Nat) (f : Field), fs[i]? = some f → ∃ z : DataW H × List MemPlace, DataW.trod enc P W 0 (fun _ => true) true n f.type ((cs.drop f.offset).take (P.cellsOf f.type)) = some z ∧ Rows.uptoBulk z.1 ≤ M := by
  obtain ⟨xs, n, hfu, hy, hl, hxl, hf⟩ := DataW.trod_struct ht h
  refine ⟨n, fun i f hi => ?_⟩
  obtain ⟨z, hz⟩ : ∃ z, xs[i]? = some z := ⟨_, List.getElem?_eq_getElem (by rw [hxl]; exact (Array.getElem?_eq_some_iff.1 hi).1)⟩
  have h4 := bulk_part (List.mem_map_of_mem (f := (·.1)) (List.mem_of_getElem? hz))
  rw [hy] at hb
  simp only [Rows.uptoBulk] at hb
  exact ⟨z, (hf i f hi).trans hz, by omega⟩
end
set_option maxRecDepth 100000 in
theorem unit_bulk {H : Type} {enc : TypeId × Value → H} {W : World} {fuel c M : Nat} {a : Option Addr} {u : List Dk} {y : DataW H × List MemPlace}
    (h : DataW.trod enc Try.prog W 0 (fun _ => true) true fuel 24 [.slice a u.length c] = some y) (hb : Rows.uptoBulk y.1 ≤ M) (hu : UnitAt W W.heap.size a u) : ∀ x ∈ u, x.vs.length ≤ M := by
  intro x hx
  obtain ⟨i, hi⟩ := List.getElem?_of_mem hx
  have hil : i < u.length := (List.getElem?_eq_some_iff.1 hi).1
  obtain ⟨n, hs⟩ := struct_bulk Try.underlying24 h hb
  obtain ⟨z, hz, hzb⟩ := hs 0 _ rfl
  obtain ⟨b, off, rfl, _, hc⟩ := hu.at_ (by omega)
  have hz' : DataW.trod enc Try.prog W 0 (fun _ => true) true n 22 [.slice (some ⟨b, off, none⟩) u.length c] = some z := hz
  obtain ⟨_, hel⟩ := slice_bulk Try.underlying22 hz' hzb
  obtain ⟨ad, m, cs', y', had, hcs', hy', hyb⟩ := hel i hil
  obtain rfl : ⟨b, off, none⟩ = ad := by simpa using had
  have e11 : Try.prog.cellsOf 48 = 11 := by kernel_rfl
  rw [e11] at hcs'
  obtain ⟨_, hlen, hat⟩ := World.cells?_some hcs'
  obtain ⟨n2, hs2⟩ := struct_bulk Try.underlying48 hy' hyb
  obtain ⟨z6, hz6, hzb6⟩ := hs2 6 _ rfl
  have h6 : cs'[6]? = some (.slice x.vA x.vs.length x.vc) := by
    rw [← hat 6 (by omega), Go.WideShapes.add_plain, Go.WideShapes.add_plain]
    exact hc i x hi 6 _ rfl
  have e1 : Try.prog.cellsOf 39 = 1 := by kernel_rfl
  have hl6 : (cs'.drop 6).take 1 = [.slice x.vA x.vs.length x.vc] := by
    obtain ⟨h61, h62⟩ := List.getElem?_eq_some_iff.1 h6
    rw [List.drop_eq_getElem_cons h61, h62]; rfl
  have hz6' : DataW.trod enc Try.prog W 0 (fun _ => true) true n2 39 ((cs'.drop 6).take (Try.prog.cellsOf 39)) = some z6 := hz6
  rw [e1, hl6] at hz6'
  exact (slice_bulk Try.underlying39 hz6' hzb6).1
theorem string_bulk {H : Type} {enc : TypeId × Value → H} {W : World} {n M : Nat} {s : ByteArray} {z : DataW H × List MemPlace}
    (h : DataW.trod enc Try.prog W 0 (fun _ => true) true n 9 [.string s] = some z) (hb : Rows.uptoBulk z.1 ≤ M) : s.size ≤ M := by
  obtain ⟨d, p⟩ := z
  obtain ⟨s', g, hd, _⟩ := DataW.trod_string Try.underlying9 h
  obtain rfl : s = s' := by simpa using g
  have hd' : d = .lit (.string s.data.toList) := (Prod.mk.inj hd).1
  subst hd'
  simp only [Rows.uptoBulk] at hb
  have e : s.data.toList.length = s.size := by rw [Array.length_toList]; rfl
  omega
/-- What is known of each declaration: how long its lists and names are. -/
structure BulkAt (M : Nat) (d : Dk) : Prop where
  vars : d.vs.length ≤ M
  name : d.name.size ≤ M
  base : d.base.size ≤ M
  many : d.faces.length ≤ M
  faces : ∀ f ∈ d.faces, f.size ≤ M
set_option maxRecDepth 100000 in
theorem unit_bulks {H : Type} {enc : TypeId × Value → H} {W : World} {fuel c M : Nat} {a : Option Addr} {u : List Dk} {y : DataW H × List MemPlace}
    (h : DataW.trod enc Try.prog W 0 (fun _ => true) true fuel 24 [.slice a u.length c] = some y) (hb : Rows.uptoBulk y.1 ≤ M) (hu : UnitAt W W.heap.size a u) : ∀ x ∈ u, BulkAt M x := by
  intro x hx
  have hv := unit_bulk h hb hu x hx
  have hdk := hu.decls x hx
  obtain ⟨i, hi⟩ := List.getElem?_of_mem hx
  have hil : i < u.length := (List.getElem?_eq_some_iff.1 hi).1
  obtain ⟨n, hs⟩ := struct_bulk Try.underlying24 h hb
  obtain ⟨z, hz, hzb⟩ := hs 0 _ rfl
  obtain ⟨b, off, rfl, _, hc⟩ := hu.at_ (by omega)
  have hz' : DataW.trod enc Try.prog W 0 (fun _ => true) true n 22 [.slice (some ⟨b, off, none⟩) u.length c] = some z := hz
  obtain ⟨_, hel⟩ := slice_bulk Try.underlying22 hz' hzb
  obtain ⟨ad, m, cs', y', had, hcs', hy', hyb⟩ := hel i hil
  obtain rfl : ⟨b, off, none⟩ = ad := by simpa using had
  have e11 : Try.prog.cellsOf 48 = 11 := by kernel_rfl
  rw [e11] at hcs'
  obtain ⟨_, hlen, hat⟩ := World.cells?_some hcs'
  obtain ⟨n2, hs2⟩ := struct_bulk Try.underlying48 hy' hyb
  have at_ : ∀ j, j < 11 → ∀ v, x.cells[j]? = some v → (cs'.drop j).take 1 = [v] := fun j hj v hv => by
    have h6 : cs'[j]? = some v := by
      rw [← hat j (by omega), Go.WideShapes.add_plain, Go.WideShapes.add_plain]
      exact hc i x hi j _ hv
    obtain ⟨h61, h62⟩ := List.getElem?_eq_some_iff.1 h6
    rw [List.drop_eq_getElem_cons h61, h62]; rfl
  have eS : Try.prog.cellsOf 9 = 1 := by kernel_rfl
  have eF : Try.prog.cellsOf 45 = 1 := by kernel_rfl
  obtain ⟨z1, hz1, hb1⟩ := hs2 1 _ rfl
  obtain ⟨z2, hz2, hb2⟩ := hs2 2 _ rfl
  obtain ⟨z3, hz3, hb3⟩ := hs2 3 _ rfl
  have g1 : DataW.trod enc Try.prog W 0 (fun _ => true) true n2 9 ((cs'.drop 1).take (Try.prog.cellsOf 9)) = some z1 := hz1
  have g2 : DataW.trod enc Try.prog W 0 (fun _ => true) true n2 9 ((cs'.drop 2).take (Try.prog.cellsOf 9)) = some z2 := hz2
  have g3 : DataW.trod enc Try.prog W 0 (fun _ => true) true n2 45 ((cs'.drop 3).take (Try.prog.cellsOf 45)) = some z3 := hz3
  rw [eS, at_ 1 (by omega) _ rfl] at g1
  rw [eS, at_ 2 (by omega) _ rfl] at g2
  rw [eF, at_ 3 (by omega) _ rfl] at g3
  obtain ⟨f1, f2⟩ := slice_bulk Try.underlying45 g3 hb3
  refine ⟨hv, string_bulk g1 hb1, string_bulk g2 hb2, f1, fun f hf => ?_⟩
  obtain ⟨j, hj⟩ := List.getElem?_of_mem hf
  have hjl : j < x.faces.length := (List.getElem?_eq_some_iff.1 hj).1
  obtain ⟨ad, m2, cs2, y2, had2, hcs2, hy2, hyb2⟩ := f2 j hjl
  obtain ⟨b2, off2, hfa, _, hcf⟩ := hdk.face (by omega)
  rw [hfa] at had2
  obtain rfl : ⟨b2, off2, none⟩ = ad := by simpa using had2
  rw [eS] at hcs2
  obtain ⟨_, hlen2, hat2⟩ := World.cells?_some hcs2
  have h0 : cs2[0]? = some (.string f) := by
    rw [← hat2 0 (by omega), Go.WideShapes.add_plain, Go.WideShapes.add_plain]
    simpa using hcf j f hj
  have hcs : cs2 = [.string f] := by
    match cs2, hlen2, h0 with
    | [v], _, h0 => simpa using h0
  rw [hcs] at hy2
  exact string_bulk hy2 hyb2
end Go.Proofs.Ytmhdcehpddbjaaa
