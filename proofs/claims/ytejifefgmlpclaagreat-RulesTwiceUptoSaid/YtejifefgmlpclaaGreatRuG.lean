/- A method of a class; interfaces that are none: as walks. -/
import Derived.Test.YtejifefgmlpclaaGreatRuF
import Derived.Test.YtejifefgmlpclaaGreatTabG
import Derived.WalkKit
import Derived.WalkSpells
import Derived.WalkLawsBesides
import Derived.LoopTactic
import Derived.Deep.QuietTactic
import Derived.BigQuiet
import Derived.Below
import Derived.Laws.ResultCell
import Derived.Laws.Tables
import Derived.Laws.Rows
import Derived.Deep.Cut
import Derived.KernelRfl
set_option linter.unusedSimpArgs false
set_option linter.unusedVariables false
namespace Go.Proofs.YtejifefgmlpclaaGreat
open Go.RowKit

/-- No method. -/
def Ru.md0 : Md := ⟨⟨#[]⟩, false, false, false, none, [], 0, ⟨0, 0, 0, ⟨#[]⟩⟩, none, [], 0, none, [], 0⟩
theorem Ru.methodIn_at (u : List Dk) (s : ByteArray) : ∀ (l : List Int), (∀ c ∈ l, 0 ≤ c) → (Tb.methodIn u s l).2.2 = true → ∃ (j k : Nat) (e : Dk) (m : Md), Tb.methodIn u s l = ((j : Int), (k : Int), true) ∧ u[j]? = some e ∧ e.ms[k]? = some m
  | [], _, h => by cases h
  | c :: l, h0, h => by
    unfold Tb.methodIn at h ⊢
    by_cases hc : 0 ≤ Tb.mindex (Tb.msOf u c) s
    · rw [if_pos hc]
      have hc0 := h0 c (by simp)
      unfold Tb.mindex at hc ⊢
      cases hf : (Tb.msOf u c).findIdx? (fun m => m.name.toList == s.toList) with
      | none => rw [hf] at hc; exact absurd hc (by decide)
      | some k =>
        obtain ⟨hk, _⟩ := List.findIdx?_eq_some_iff_getElem.1 hf
        unfold Tb.msOf at hk
        cases hd : u[c.toNat]? with
        | none => rw [hd] at hk; exact absurd hk (Nat.not_lt_zero _)
        | some e =>
          rw [hd] at hk
          exact ⟨c.toNat, k, e, e.ms[k], by rw [Int.toNat_of_nonneg hc0], hd, List.getElem?_eq_getElem hk⟩
    · rw [if_neg hc] at h ⊢
      exact Ru.methodIn_at u s l (fun x hx => h0 x (by simp [hx])) h
theorem Ru.method_at {u : List Dk} {d : Int} {s : ByteArray} (h : (Tb.method u d s).2.2 = true) : ∃ (j k : Nat) (e : Dk) (m : Md), Tb.method u d s = ((j : Int), (k : Int), true) ∧ u[j]? = some e ∧ e.ms[k]? = some m := by
  unfold Tb.method at h ⊢
  refine Ru.methodIn_at u s _ (fun c hc => ?_) h
  by_cases hk : Tb.kind u d = 1
  · rw [if_pos hk] at hc
    obtain ⟨i, _, rfl, _⟩ := Tb.kind_in hk (by decide)
    obtain rfl : c = (i : Int) := by simpa using hc
    exact Int.natCast_nonneg i
  · rw [if_neg hk] at hc; exact (Tb.chain_in u d c hc).1
theorem Ru.method_no {u : List Dk} {d : Int} {s : ByteArray} (h : (Tb.method u d s).2.2 = false) : Ru.method u d s = none := by
  unfold Ru.method; rw [h]; rfl
theorem Ru.method_yes {u : List Dk} {d : Int} {s : ByteArray} {j k : Nat} {e : Dk} {m : Md} (h : Tb.method u d s = ((j : Int), (k : Int), true)) (he : u[j]? = some e) (hm : e.ms[k]? = some m) : Ru.method u d s = some m := by
  unfold Ru.method; rw [h]
  simp [Tb.msOf, he, hm]
theorem Ru.isAbs_eq (o : Option Md) : Ru.isAbs o = (o.getD Ru.md0).abs := by cases o <;> rfl
theorem Ru.strange_step {u : List Dk} {l : List ByteArray} {k : Nat} {s : ByteArray} (hs : l[k]? = some s) :
    Ru.strangeGo u (l.take k) (l.drop k) = ((decide (Ru.kind u s ≠ 1) || (l.take k).any (fun t => t.toList == s.toList)) || Ru.strangeGo u (l.take (k + 1)) (l.drop (k + 1))) := by
  obtain ⟨hk, rfl⟩ := List.getElem?_eq_some_iff.1 hs
  rw [List.drop_eq_getElem_cons hk, Ru.strangeGo, List.take_succ_eq_append_getElem hk]
theorem Ru.strange_end {u : List Dk} {l : List ByteArray} {k : Nat} (hk : l.length ≤ k) : Ru.strangeGo u (l.take k) (l.drop k) = false := by
  rw [List.drop_eq_nil_of_le hk]; rfl
set_option maxRecDepth 100000 in
set_option maxHeartbeats 4000000 in
theorem rmethod_is (u : List Dk) (a : Option Addr) (B cap b i : Nat) (d : Dk) (dd : Int) (s : ByteArray) (o : Option Md) (w : World) (ho : Ru.method u dd s = o) (hx : Aid.Has w b [.slice a u.length cap, .int .i64 (i : Int), .int .i64 d.kind, .string d.name, .string d.base, .slice d.fA d.faces.length d.fc, .bool d.abs, .bool d.fin, .slice d.vA d.vs.length d.vc, .slice d.mA d.ms.length d.mc, .slice d.bA d.body.length d.bc, .int .i64 d.every, .int .i64 d.first] 50) (hd : u[i]? = some d) (hu : UnitAt w B a u) (hB : B ≤ w.heap.size) :
    Calls Tryz.prog 56 #[.pointer (some ⟨b, 0, none⟩), .int .i64 dd, .string s] w fun z w' => z = .returned (.tuple #[.agg #[.string (o.getD Ru.md0).name, .bool (o.getD Ru.md0).over, .bool (o.getD Ru.md0).abs, .bool (o.getD Ru.md0).fin, .slice (o.getD Ru.md0).pA (o.getD Ru.md0).ps.length (o.getD Ru.md0).pc, .int .i64 (o.getD Ru.md0).res.k, .int .i64 (o.getD Ru.md0).res.lo, .int .i64 (o.getD Ru.md0).res.hi, .string (o.getD Ru.md0).res.name, .slice (o.getD Ru.md0).vA (o.getD Ru.md0).vs.length (o.getD Ru.md0).vc, .slice (o.getD Ru.md0).bA (o.getD Ru.md0).body.length (o.getD Ru.md0).bc], .bool o.isSome]) ∧ Below w.heap.size w w' := by
  have HO := Aid.hid ho
  obtain ⟨⟨RD, RM, RK⟩, hrr⟩ : ∃ r, Tb.method u dd s = r := ⟨_, rfl⟩
  have HRR := Aid.hid hrr
  have HU := Aid.hid hu; have HX := Aid.hid hx; have HD := Aid.hid hd
  have sm := hu.small
  have hil : i < u.length := (List.getElem?_eq_some_iff.1 hd).1
  obtain ⟨W, hW, qz, k0⟩ := newn1 w [.string ⟨#[]⟩, .bool false, .bool false, .bool false, .slice none 0 0, .int .i64 0, .int .i64 0, .int .i64 0, .string ⟨#[]⟩, .slice none 0 0, .slice none 0 0] 46
  have K0 := Aid.hid k0
  have Nz := Aid.hid qz
  clear qz k0 ho hrr hu hx hd
  go_enter Tryz.func56, Tryz.ntmps56
  try simp only [List.append_eq, List.cons_append, List.nil_append]
  have Nx := Aid.hid (HX.out.below (K0.out) HX.out.lt)
  have xx0 := Nx.out.cell 0 _ rfl
  have lx := Nx.out.lt
  go_wp2_with fail
  (try clear hW)
  refine (method_is u a B cap dd s RD RM RK _ HRR.out (HU.out.below (K0.out) hB) (Nat.le_trans hB (K0.out).size)).mono ?_; rintro _ w1 ⟨rfl, hb1⟩
  have Kx1 := Aid.hid ((K0.out).trans (hb1.mono (K0.out).size))
  have Nz_1 := Aid.hid (Nz.out.below hb1 Nz.out.lt)
  have Nx_1 := Aid.hid (Nx.out.below hb1 Nx.out.lt)
  clear xx0 lx
  clear hb1
  have xx0 := Nx_1.out.cell 0 _ rfl
  have lx := Nx_1.out.lt
  obtain ⟨X2, hX⟩ : ∃ X, w1.alloc (.cells #[.int .i64 RD, .int .i64 RM] 76) = X := ⟨_, rfl⟩
  have qwh := new_at hX
  have qz := all_at hX Nz_1.out
  have qx := all_at hX Nx_1.out
  have qqk := below_at hX (Kx1.out)
  have qqs := below_at0 hX
  have Nz_2 := Aid.hid qz
  have Nx_2 := Aid.hid qx
  have Nwh_2 := Aid.hid qwh
  have Kx2 := Aid.hid qqk
  have Qs2 := Aid.hid qqs
  clear qqk qqs qz qx qwh
  clear xx0 lx
  have xwh0 := Nwh_2.out.cell 0 _ rfl
  have xwh1 := Nwh_2.out.cell 1 _ rfl
  have lwh := Nwh_2.out.lt
  have xx0 := Nx_2.out.cell 0 _ rfl
  have lx := Nx_2.out.lt
  cases RK
  · obtain rfl : none = o := by rw [← HO.out]; exact (Ru.method_no (by rw [HRR.out])).symm
    go_wp2_with (refine wpList_store_row rfl 46 _ _ rfl (w.heap.size) _ rfl rfl 46 _ (Nz_2.out) (by kernel_rfl) rfl (by simp [Value.oneCell']) ?_)
    refine bodyPost_ret (v := _) (results_row2 rfl _ _ (w.heap.size) 46 _ (0, 0) _ _ rfl rfl (row_has (Nz_2.out)) Tryz.underlying46 rfl (by kernel_rfl)) rfl ⟨rfl, row_below (Kx2.out) (by omega) _⟩
  · obtain ⟨j, k, e, m, e1, he, hm⟩ := Ru.method_at (u := u) (d := dd) (s := s) (by rw [HRR.out])
    obtain ⟨rfl, rfl⟩ : (j : Int) = RD ∧ (k : Int) = RM := by have h := e1.symm.trans HRR.out; simpa using h
    obtain rfl : some m = o := by rw [← HO.out]; exact (Ru.method_yes e1 he hm).symm
    have HE := Aid.hid he; have HM := Aid.hid hm
    have hjl : j < u.length := (List.getElem?_eq_some_iff.1 he).1
    have hkl : k < e.ms.length := (List.getElem?_eq_some_iff.1 hm).1
    have HEK := Aid.hid (HU.out.decls e (List.mem_of_getElem? he))
    clear e1 he hm
    go_wp2_with fail
    (try clear hX)
    obtain ⟨ub, uo, rfl, hlt_ub, hc_ub⟩ := (HU.out.below (Kx2.out) hB).at_ (by omega)
    have lub : ub < X2.heap.size := Nat.lt_of_lt_of_le hlt_ub (Nat.le_trans hB (Kx2.out).size)
    have ce := hc_ub j e HE.out 7 _ rfl
    clear hc_ub
    obtain ⟨mb, mo, emA, lmb, hc_m⟩ := (HEK.out.meths.below (Kx2.out) hB).at_map (by omega)
    have llm : mb < X2.heap.size := Nat.lt_of_lt_of_le lmb (Nat.le_trans hB (Kx2.out).size)
    rw [emA] at ce
    have c0 := hc_m k m HM.out 0 _ rfl
    have c1 := hc_m k m HM.out 1 _ rfl
    have c2 := hc_m k m HM.out 2 _ rfl
    have c3 := hc_m k m HM.out 3 _ rfl
    have c4 := hc_m k m HM.out 4 _ rfl
    have c5 := hc_m k m HM.out 5 _ rfl
    have c6 := hc_m k m HM.out 6 _ rfl
    have c7 := hc_m k m HM.out 7 _ rfl
    have c8 := hc_m k m HM.out 8 _ rfl
    have c9 := hc_m k m HM.out 9 _ rfl
    have c10 := hc_m k m HM.out 10 _ rfl
    simp only [Nat.add_zero] at c0
    clear hc_m lmb emA
    have HZ := Aid.hid (fun (w' : World) (hSw : Below X2.heap.size X2 w') => (⟨(hSw.cell (p := ⟨w1.heap.size, 0, none⟩) lwh).trans xwh0, (hSw.cell (p := ⟨w1.heap.size, 1, none⟩) lwh).trans xwh1, (hSw.cell (p := ⟨b, 0, none⟩) lx).trans xx0, (hSw.cell (p := ⟨ub, uo + j * 11 + 7, none⟩) lub).trans ce, (hSw.cell (p := ⟨mb, mo + k * 11, none⟩) llm).trans c0, (hSw.cell (p := ⟨mb, mo + k * 11 + 1, none⟩) llm).trans c1, (hSw.cell (p := ⟨mb, mo + k * 11 + 2, none⟩) llm).trans c2, (hSw.cell (p := ⟨mb, mo + k * 11 + 3, none⟩) llm).trans c3, (hSw.cell (p := ⟨mb, mo + k * 11 + 4, none⟩) llm).trans c4, (hSw.cell (p := ⟨mb, mo + k * 11 + 5, none⟩) llm).trans c5, (hSw.cell (p := ⟨mb, mo + k * 11 + 6, none⟩) llm).trans c6, (hSw.cell (p := ⟨mb, mo + k * 11 + 7, none⟩) llm).trans c7, (hSw.cell (p := ⟨mb, mo + k * 11 + 8, none⟩) llm).trans c8, (hSw.cell (p := ⟨mb, mo + k * 11 + 9, none⟩) llm).trans c9, (hSw.cell (p := ⟨mb, mo + k * 11 + 10, none⟩) llm).trans c10⟩ : _ ∧ _ ∧ _ ∧ _ ∧ _ ∧ _ ∧ _ ∧ _ ∧ _ ∧ _ ∧ _ ∧ _ ∧ _ ∧ _ ∧ _))
    have hb : Below X2.heap.size X2 X2.drew := (Below.refl _ _).drew
    refine Ord.wp_region_walk (fun w' => Below X2.heap.size X2 w') 14 [(true, 0), (true, 1), (true, 2), (true, 3), (true, 4), (true, 5), (true, 6), (true, 7), (true, 8), (true, 9), (true, 10), (true, 11), (true, 12), (true, 13)] (by kernel_rfl) (by kernel_rfl) (fun _ _ d _ _ h => by cases d <;> exact h) (hb) ?_
    clear hb
    have hb : Below X2.heap.size X2 X2.drew := (Below.refl _ _).drew
    generalize X2.drew = wd2 at *
    iterate 14
      apply Ord.walk_light
      next => (simp only [la0, la1, la2]; rfl)
      next => rfl
      next => (intro w' hSw; obtain ⟨z0, z1, z2, z3, z4, z5, z6, z7, z8, z9, z10, z11, z12, z13, z14⟩ := HZ.out w' hSw; clear hSw; go_simp; first | done | with_reducible rfl)
      simp only [Act.put, la3, la4, la5]
    refine Ord.walk_tail ?_; simp only [List.drop_succ_cons, List.drop_zero]
    have hbx := hb
    clear hb HZ
    have Kx3 := Aid.hid ((Kx2.out).trans (hbx.mono (Kx2.out).size))
    have Nz_3 := Aid.hid (Nz_2.out.below hbx Nz_2.out.lt)
    have Nx_3 := Aid.hid (Nx_2.out.below hbx Nx_2.out.lt)
    have Nwh_3 := Aid.hid (Nwh_2.out.below hbx Nwh_2.out.lt)
    clear xwh0 xwh1 lwh xx0 lx ce lub c0 c1 c2 c3 c4 c5 c6 c7 c8 c9 c10 llm
    clear hbx
    go_wp2_with (refine wpList_store_row rfl 46 _ _ rfl (w.heap.size) _ rfl rfl 46 _ (Nz_3.out) (by kernel_rfl) rfl (by simp [Value.oneCell']) ?_)
    refine bodyPost_ret (v := _) (results_row2 rfl _ _ (w.heap.size) 46 _ (0, 0) _ _ rfl rfl (row_has (Nz_3.out)) Tryz.underlying46 rfl (by kernel_rfl)) rfl ⟨rfl, row_below (Kx3.out) (by omega) _⟩
set_option maxRecDepth 100000 in
set_option maxHeartbeats 4000000 in
theorem strange_is (u : List Dk) (a : Option Addr) (B cap b i : Nat) (d : Dk) (r : Bool) (w : World) (hr : Ru.strange u d = r) (hcap : UCap u cap) (hx : Aid.Has w b [.slice a u.length cap, .int .i64 (i : Int), .int .i64 d.kind, .string d.name, .string d.base, .slice d.fA d.faces.length d.fc, .bool d.abs, .bool d.fin, .slice d.vA d.vs.length d.vc, .slice d.mA d.ms.length d.mc, .slice d.bA d.body.length d.bc, .int .i64 d.every, .int .i64 d.first] 50) (hd : u[i]? = some d) (hu : UnitAt w B a u) (hB : B ≤ w.heap.size) :
    Calls Tryz.prog 32 #[.pointer (some ⟨b, 0, none⟩)] w fun z w' => z = .returned (.bool r) ∧ Below w.heap.size w w' := by
  have HS0 : Hid (Ru.strangeGo u (d.faces.take 0) (d.faces.drop 0) = r) := Aid.hid (by rw [← hr]; rfl)
  have hmem := List.mem_of_getElem? hd
  have HDK := Aid.hid (hu.decls d hmem)
  have smM := HDK.out.smallM; have smV := HDK.out.smallV; have smF := HDK.out.smallF
  have HCP := Aid.hid hcap
  have HU := Aid.hid hu; have HX := Aid.hid hx; have HD := Aid.hid hd
  have sm := hu.small
  have hil : i < u.length := (List.getElem?_eq_some_iff.1 hd).1
  clear hr hmem hcap hu hx hd
  go_enter Tryz.func32, Tryz.ntmps32
  try simp only [List.append_eq, List.cons_append, List.nil_append]
  have Nx := Aid.hid (HX.out.below ((Below.refl w.heap.size w)) HX.out.lt)
  have xx0 := Nx.out.cell 0 _ rfl
  have xx5 := Nx.out.cell 5 _ rfl
  have lx := Nx.out.lt
  go_wp2_with fail
  clear xx0 xx5 lx
  go_loopw [11] (fun vi wi => ∃ k : Nat, vi = .int .i64 k ∧ k ≤ d.faces.length ∧ Hid (Ru.strangeGo u (d.faces.take k) (d.faces.drop k) = r) ∧ Hid (Below w.heap.size w wi)) (fun vi _ => d.faces.length - (intOf vi).toNat)
  case atStart => exact ⟨0, rfl, Nat.zero_le _, HS0, Aid.hid (Below.refl _ _)⟩
  case round =>
    obtain ⟨k, rfl, hk, HK, HB⟩ := hrel
    have KHB := Aid.hid (((Below.refl w.heap.size w)).trans (HB.out.mono ((Below.refl w.heap.size w)).size))
    have Nx_HB := Aid.hid (Nx.out.below HB.out Nx.out.lt)
    by_cases hkl : k < d.faces.length
    · obtain ⟨fb, fo, efA, lfb, hc_f⟩ := (HDK.out.faces.below (KHB.out) hB).at_map (by omega)
      obtain ⟨s, hs⟩ : ∃ x, d.faces[k]? = some x := ⟨_, List.getElem?_eq_getElem hkl⟩
      have HS := Aid.hid hs
      have cs := hc_f k s hs 0 _ rfl
      simp only [Nat.add_zero, Nat.mul_one] at cs
      have lfs : fb < wr.heap.size := Nat.lt_of_lt_of_le lfb (Nat.le_trans hB (KHB.out).size)
      clear hc_f hs lfb
      rw [efA]
      have EFA := Aid.hid efA
      clear efA
      have xx0 := Nx_HB.out.cell 0 _ rfl
      have xx5 := Nx_HB.out.cell 5 _ rfl
      have lx := Nx_HB.out.lt
      rw [EFA.out] at xx5
      obtain ⟨kk, hkk⟩ : ∃ q, Ru.kind u s = q := ⟨_, rfl⟩
      obtain ⟨q, hq⟩ : ∃ q, (d.faces.take k).any (fun t => t.toList == s.toList) = q := ⟨_, rfl⟩
      have E : Hid ((decide (kk ≠ 1) || q || Ru.strangeGo u (d.faces.take (k + 1)) (d.faces.drop (k + 1))) = r) := Aid.hid (by rw [← HK.out, Ru.strange_step HS.out, hkk, hq])
      have HKK := Aid.hid hkk; have HQ := Aid.hid hq
      clear hkk hq
      go_wp2_with fail
      refine (rkind_is u a B cap s kk _ HKK.out (HU.out.below (KHB.out) hB) (Nat.le_trans hB (KHB.out).size)).mono ?_; rintro _ w1 ⟨rfl, hb1⟩
      have R1_1 := Aid.hid ((HB).out.trans (hb1.mono (HB).out.size))
      have Kx1 := Aid.hid ((KHB.out).trans (hb1.mono (KHB.out).size))
      have Nx_1 := Aid.hid (Nx_HB.out.below hb1 Nx_HB.out.lt)
      clear cs lfs xx0 xx5 lx
      clear hb1
      have xx0 := Nx_1.out.cell 0 _ rfl
      have xx5 := Nx_1.out.cell 5 _ rfl
      have lx := Nx_1.out.lt
      rw [EFA.out] at xx5
      by_cases h1 : kk = 1
      · subst h1
        have hkc : k ≤ d.fc := by have := HCP.out.f d (List.mem_of_getElem? HD.out); omega
        go_wp2_with fail
        have hlen : (d.faces.take k).length = k := by simp; omega
        have HC := containsS_is (some ⟨fb, fo, none⟩) d.fc B (d.faces.take k) s q _ HQ.out (by have h := (HDK.out.faces.take k).below (Kx1.out) hB; rwa [EFA.out] at h) (by rw [hlen]; omega)
        rw [hlen] at HC
        refine (HC).mono ?_; rintro _ w2 ⟨rfl, hb2⟩
        have R2_2 := Aid.hid ((R1_1).out.trans (hb2.mono (R1_1).out.size))
        have Kx2 := Aid.hid ((Kx1.out).trans (hb2.mono (Kx1.out).size))
        have Nx_2 := Aid.hid (Nx_1.out.below hb2 Nx_1.out.lt)
        clear xx0 xx5 lx
        clear hb2
        cases q
        · have NX : Hid (Ru.strangeGo u (d.faces.take (k + 1)) (d.faces.drop (k + 1)) = r) := Aid.hid (by rw [← E.out]; simp)
          go_wp2_with fail
          go_roundw
          case rel => exact ⟨k + 1, by go_num, by omega, NX, R2_2⟩
          case measure => simp [intOf]; omega
        · obtain rfl : true = r := by rw [← E.out]; simp
          go_wp2_with fail
          go_ret
          exact ⟨rfl, Kx2.out⟩
      · have e1 : (kk != 1) = true := by simpa using h1
        obtain rfl : true = r := by rw [← E.out]; simp [h1]
        clear h1
        go_wp2_with fail
        go_ret
        exact ⟨rfl, Kx1.out⟩
    · obtain rfl : false = r := by rw [← HK.out]; exact (Ru.strange_end (by omega)).symm
      go_wp2_with fail
      go_ret
      exact ⟨rfl, KHB.out⟩
end Go.Proofs.YtejifefgmlpclaaGreat
/- What is wrong with a task: as walks. -/
namespace Go.Proofs.YtejifefgmlpclaaGreat
open Go.RowKit

set_option maxRecDepth 100000 in
set_option maxHeartbeats 4000000 in
theorem task1_is (u : List Dk) (a : Option Addr) (B cap b i : Nat) (d : Dk) (e : Dk) (p : Nat) (r : Bool) (w : World) (hr : (e.kind == 4 && e.base.toList == d.base.toList) = r) (hp : Aid.Has w p [.pointer (some ⟨b, 0, none⟩)] 48) (hx : Aid.Has w b [.slice a u.length cap, .int .i64 (i : Int), .int .i64 d.kind, .string d.name, .string d.base, .slice d.fA d.faces.length d.fc, .bool d.abs, .bool d.fin, .slice d.vA d.vs.length d.vc, .slice d.mA d.ms.length d.mc, .slice d.bA d.body.length d.bc, .int .i64 d.every, .int .i64 d.first] 50) (hd : u[i]? = some d) (hu : UnitAt w B a u) (hB : B ≤ w.heap.size) :
    Calls Tryz.prog 43 #[.agg #[.int .i64 e.kind, .string e.name, .string e.base, .slice e.fA e.faces.length e.fc, .bool e.abs, .bool e.fin, .slice e.vA e.vs.length e.vc, .slice e.mA e.ms.length e.mc, .slice e.bA e.body.length e.bc, .int .i64 e.every, .int .i64 e.first], .pointer (some ⟨p, 0, none⟩)] w fun z w' => z = .returned (.bool r) ∧ Below w.heap.size w w' := by
  have HPP := Aid.hid hp
  have HR := Aid.hid hr
  have HU := Aid.hid hu; have HX := Aid.hid hx; have HD := Aid.hid hd
  have sm := hu.small
  have hil : i < u.length := (List.getElem?_eq_some_iff.1 hd).1
  obtain ⟨W, hW, qe, k0⟩ := newn1 w [.int .i64 e.kind, .string e.name, .string e.base, .slice e.fA e.faces.length e.fc, .bool e.abs, .bool e.fin, .slice e.vA e.vs.length e.vc, .slice e.mA e.ms.length e.mc, .slice e.bA e.body.length e.bc, .int .i64 e.every, .int .i64 e.first] 34
  have K0 := Aid.hid k0
  have Ne := Aid.hid qe
  clear qe k0 hr hp hu hx hd
  have xe0 := Ne.out.cell 0 _ rfl
  have xe2 := Ne.out.cell 2 _ rfl
  have le := Ne.out.lt
  go_enter Tryz.func43, Tryz.ntmps43
  try simp only [List.append_eq, List.cons_append, List.nil_append]
  have Nx := Aid.hid (HX.out.below (K0.out) HX.out.lt)
  have xx4 := Nx.out.cell 4 _ rfl
  have lx := Nx.out.lt
  have Np := Aid.hid (HPP.out.below (K0.out) HPP.out.lt)
  have xp0 := Np.out.cell 0 _ rfl
  have lp := Np.out.lt
  obtain ⟨ek, hek⟩ : ∃ x, e.kind = x := ⟨_, rfl⟩
  rw [hek] at xe0 HR
  have HEK2 := Aid.hid hek
  clear hek
  by_cases h4 : ek = 4
  · subst h4
    go_wp2_with fail
    have HZ := Aid.hid (fun (w' : World) (hSw : Below W.heap.size W w') => (⟨(hSw.cell (p := ⟨w.heap.size, 0, none⟩) le).trans xe0, (hSw.cell (p := ⟨w.heap.size, 2, none⟩) le).trans xe2, (hSw.cell (p := ⟨b, 4, none⟩) lx).trans xx4, (hSw.cell (p := ⟨p, 0, none⟩) lp).trans xp0⟩ : _ ∧ _ ∧ _ ∧ _))
    have hb : Below W.heap.size W W.drew := (Below.refl _ _).drew
    refine Ord.wp_region_walk (fun w' => Below W.heap.size W w') 13 [(true, 0), (true, 1), (true, 2), (true, 3), (true, 4), (true, 5), (true, 6), (true, 7), (true, 8), (true, 9), (true, 10), (true, 11), (true, 12)] (by kernel_rfl) (by kernel_rfl) (fun _ _ d _ _ h => by cases d <;> exact h) (hb) ?_
    clear hb
    have hb : Below W.heap.size W W.drew := (Below.refl _ _).drew
    generalize W.drew = wd0 at *
    iterate 13
      apply Ord.walk_light
      next => (simp only [la0, la1, la2]; rfl)
      next => rfl
      next => (intro w' hSw; obtain ⟨z0, z1, z2, z3⟩ := HZ.out w' hSw; clear hSw; go_simp; first | done | with_reducible rfl)
      simp only [Act.put, la3, la4, la5]
    refine Ord.walk_tail ?_; simp only [List.drop_succ_cons, List.drop_zero]
    have hbx := hb
    clear hb HZ
    have Kx1 := Aid.hid ((K0.out).trans (hbx.mono (K0.out).size))
    have Ne_1 := Aid.hid (Ne.out.below hbx Ne.out.lt)
    have Nx_1 := Aid.hid (Nx.out.below hbx Nx.out.lt)
    have Np_1 := Aid.hid (Np.out.below hbx Np.out.lt)
    clear xe0 xe2 le xx4 lx xp0 lp
    clear hbx
    go_wp2_with fail
    go_ret
    exact ⟨Aid.ret_bool (by rw [← HR.out]; simp), Kx1.out⟩
  · have e4 : (ek == 4) = false := by simpa using h4
    clear h4
    go_wp2_with fail
    have HZ := Aid.hid (fun (w' : World) (hSw : Below W.heap.size W w') => (⟨(hSw.cell (p := ⟨w.heap.size, 0, none⟩) le).trans xe0, (hSw.cell (p := ⟨w.heap.size, 2, none⟩) le).trans xe2, (hSw.cell (p := ⟨b, 4, none⟩) lx).trans xx4, (hSw.cell (p := ⟨p, 0, none⟩) lp).trans xp0⟩ : _ ∧ _ ∧ _ ∧ _))
    have hb : Below W.heap.size W W.drew := (Below.refl _ _).drew
    refine Ord.wp_region_walk (fun w' => Below W.heap.size W w') 13 [(true, 0), (true, 1), (true, 2), (true, 3), (true, 4), (true, 5), (true, 6), (true, 7), (true, 8), (true, 9), (true, 10), (true, 11), (true, 12)] (by kernel_rfl) (by kernel_rfl) (fun _ _ d _ _ h => by cases d <;> exact h) (hb) ?_
    clear hb
    have hb : Below W.heap.size W W.drew := (Below.refl _ _).drew
    generalize W.drew = wd0 at *
    iterate 4
      apply Ord.walk_light
      next => (simp only [la0, la1, la2]; rfl)
      next => rfl
      next => (intro w' hSw; obtain ⟨z0, z1, z2, z3⟩ := HZ.out w' hSw; clear hSw; go_simp; first | done | with_reducible rfl)
      simp only [Act.put, la3, la4, la5]
    iterate 8
      apply Ord.walk_idle
      next => (simp only [la0, la1, la2]; rfl)
      next => rfl
      simp only [Act.put, la3, la4, la5]
    apply Ord.walk_light
    next => (simp only [la0, la1, la2]; rfl)
    next => rfl
    next => (intro w' hSw; obtain ⟨z0, z1, z2, z3⟩ := HZ.out w' hSw; clear hSw; go_simp; first | done | with_reducible rfl)
    simp only [Act.put, la3, la4, la5]
    refine Ord.walk_tail ?_; simp only [List.drop_succ_cons, List.drop_zero]
    have hbx := hb
    clear hb HZ
    have Kx1 := Aid.hid ((K0.out).trans (hbx.mono (K0.out).size))
    have Ne_1 := Aid.hid (Ne.out.below hbx Ne.out.lt)
    have Nx_1 := Aid.hid (Nx.out.below hbx Nx.out.lt)
    have Np_1 := Aid.hid (Np.out.below hbx Np.out.lt)
    clear xe0 xe2 le xx4 lx xp0 lp
    clear hbx
    go_wp2_with fail
    go_ret
    exact ⟨Aid.ret_bool (by rw [← HR.out, e4]; rfl), Kx1.out⟩
def Ru.taskBad (k : Int) (x : Dk) : Bool := decide (k ≠ 3) || (decide (x.every < 1) || (decide (x.every > 100) || (decide (x.first < 0) || decide (x.first > 9))))
theorem Ru.task_at {u : List Dk} {i : Nat} {x : Dk} {q : Int} (hq : Tb.find u x.base = q) :
    Ru.task u i x = if (decide (q < 0) || (decide (q ≥ i) || Ru.taskBad (Tb.kind u q) x)) = true then 17 else if ((u.take i).any fun y => y.kind == 4 && y.base.toList == x.base.toList) = true then 17 else 0 := by
  unfold Ru.task Ru.kind Ru.taskBad
  rw [hq]
set_option maxRecDepth 100000 in
set_option maxHeartbeats 4000000 in
theorem task_is (u : List Dk) (a : Option Addr) (B cap b i : Nat) (d : Dk) (r : Int) (w : World) (hr : Ru.task u i d = r) (hcap : UCap u cap) (hx : Aid.Has w b [.slice a u.length cap, .int .i64 (i : Int), .int .i64 d.kind, .string d.name, .string d.base, .slice d.fA d.faces.length d.fc, .bool d.abs, .bool d.fin, .slice d.vA d.vs.length d.vc, .slice d.mA d.ms.length d.mc, .slice d.bA d.body.length d.bc, .int .i64 d.every, .int .i64 d.first] 50) (hd : u[i]? = some d) (hu : UnitAt w B a u) (hB : B ≤ w.heap.size) :
    Calls Tryz.prog 18 #[.pointer (some ⟨b, 0, none⟩)] w fun z w' => z = .returned (.int .i64 r) ∧ Below w.heap.size w w' := by
  obtain ⟨q, hq⟩ : ∃ q, Tb.find u d.base = q := ⟨_, rfl⟩
  have E := Ru.task_at (i := i) hq
  rw [hr] at E
  have HQ := Aid.hid hq
  have hrg := Tb.find_range u d.base
  rw [hq] at hrg
  have hmem := List.mem_of_getElem? hd
  have HDK := Aid.hid (hu.decls d hmem)
  have smM := HDK.out.smallM; have smV := HDK.out.smallV; have smF := HDK.out.smallF
  have HCP := Aid.hid hcap
  have HU := Aid.hid hu; have HX := Aid.hid hx; have HD := Aid.hid hd
  have sm := hu.small
  have hil : i < u.length := (List.getElem?_eq_some_iff.1 hd).1
  obtain ⟨W, hW, qp, k0⟩ := newn1 w [.pointer (some ⟨b, 0, none⟩)] 48
  have K0 := Aid.hid k0
  have Np := Aid.hid qp
  clear qp k0 hr hq hmem hcap hu hx hd
  have xp0 := Np.out.cell 0 _ rfl
  have lp := Np.out.lt
  go_enter Tryz.func18, Tryz.ntmps18
  try simp only [List.append_eq, List.cons_append, List.nil_append]
  have Nx := Aid.hid (HX.out.below (K0.out) HX.out.lt)
  have xx0 := Nx.out.cell 0 _ rfl
  have xx4 := Nx.out.cell 4 _ rfl
  have lx := Nx.out.lt
  go_wp2_with fail
  have HZ := Aid.hid (fun (w' : World) (hSw : Below W.heap.size W w') => (⟨(hSw.cell (p := ⟨w.heap.size, 0, none⟩) lp).trans xp0, (hSw.cell (p := ⟨b, 0, none⟩) lx).trans xx0, (hSw.cell (p := ⟨b, 4, none⟩) lx).trans xx4⟩ : _ ∧ _ ∧ _))
  have hb : Below W.heap.size W W.drew := (Below.refl _ _).drew
  refine Ord.wp_region_walk (fun w' => Below W.heap.size W w') 10 [(true, 0), (true, 1), (true, 2), (true, 3), (true, 4), (true, 5), (true, 6), (true, 7), (true, 8), (false, 9)] (by kernel_rfl) (by kernel_rfl) (fun _ _ d _ _ h => by cases d <;> exact h) (hb) ?_
  clear hb
  have hb : Below W.heap.size W W.drew := (Below.refl _ _).drew
  generalize W.drew = wd0 at *
  iterate 9
    apply Ord.walk_light
    next => (simp only [la0, la1, la2]; rfl)
    next => rfl
    next => (intro w' hSw; obtain ⟨z0, z1, z2⟩ := HZ.out w' hSw; clear hSw; go_simp; first | done | with_reducible rfl)
    simp only [Act.put, la3, la4, la5]
  apply Ord.walk_heavy
  next => (simp only [la0, la1, la2]; rfl)
  next => rfl
  intro K hK
  go_wp2_with fail
  refine (find_is u a B cap d.base q _ HQ.out (HU.out.below (((K0.out).trans (hb.mono (K0.out).size))) hB) (Nat.le_trans hB (((K0.out).trans (hb.mono (K0.out).size))).size)).mono ?_; rintro _ v0_1 ⟨rfl, hb'⟩; dsimp only
  refine hK.out _ _ (hb.trans (hb'.mono hb.size)) (fun hHeld => ?_)
  clear hb hb'
  have hb := hHeld
  clear hK K
  try simp only [Act.put, la3, la4, la5]
  refine Ord.walk_tail ?_; simp only [List.drop_succ_cons, List.drop_zero]
  have hbx := hb
  clear hb HZ
  have Kx1 := Aid.hid ((K0.out).trans (hbx.mono (K0.out).size))
  have Np_1 := Aid.hid (Np.out.below hbx Np.out.lt)
  have Nx_1 := Aid.hid (Nx.out.below hbx Nx.out.lt)
  clear xp0 lp xx0 xx4 lx
  clear hbx
  have xx0 := Nx_1.out.cell 0 _ rfl
  have xx1 := Nx_1.out.cell 1 _ rfl
  have xx11 := Nx_1.out.cell 11 _ rfl
  have xx12 := Nx_1.out.cell 12 _ rfl
  have lx := Nx_1.out.lt
  have xp0 := Np_1.out.cell 0 _ rfl
  have lp := Np_1.out.lt
  by_cases h0 : q < 0
  · obtain rfl : r = 17 := by rw [E]; simp [h0]
    have e0 : decide (q < 0) = true := decide_eq_true h0
    clear E
    go_wp2_with fail
    go_ret
    exact ⟨rfl, Kx1.out⟩
  · obtain ⟨j, rfl⟩ : ∃ j : Nat, q = j := ⟨q.toNat, by omega⟩
    obtain ⟨e, he⟩ : ∃ e, u[j]? = some e := ⟨_, List.getElem?_eq_getElem (by omega)⟩
    have HE := Aid.hid he
    have hj : j < u.length := by omega
    have hk : Tb.kind u (j : Int) = e.kind := by rw [Tb.kind, if_pos (by omega)]; simp [he]
    rw [hk] at E
    clear he hk
    by_cases h1 : i ≤ j
    · obtain rfl : r = 17 := by rw [E, decide_eq_false (by omega), decide_eq_true (by omega)]; (try rfl)
      have EE := Aid.hid E
      clear E HE
      clear h0 hrg
      go_wp2_with fail
      go_ret
      exact ⟨rfl, Kx1.out⟩
    · have E2 : Hid (r = if Ru.taskBad e.kind d = true then 17 else if ((u.take i).any fun y => y.kind == 4 && y.base.toList == d.base.toList) = true then 17 else 0) := Aid.hid (by rw [E, decide_eq_false (by omega), decide_eq_false (by omega)]; (try rfl))
      clear E h0 hrg
      have j0 : decide ((j : Int) < 0) = false := decide_eq_false (by omega)
      obtain ⟨ub, uo, rfl, hlt_ub, hc_ub⟩ := (HU.out.below (Kx1.out) hB).at_ (by omega)
      have lub : ub < v0_1.heap.size := Nat.lt_of_lt_of_le hlt_ub (Nat.le_trans hB (Kx1.out).size)
      have ce := hc_ub j e HE.out 0 _ rfl
      simp only [Nat.add_zero] at ce
      clear hc_ub
      obtain ⟨ek, hek⟩ : ∃ x, e.kind = x := ⟨_, rfl⟩
      rw [hek] at ce E2
      clear hek
      by_cases h3 : ek = 3
      · subst h3
        by_cases ga : d.every < 1
        · have fa : decide (d.every < 1) = true := decide_eq_true ga
          obtain rfl : r = 17 := by rw [E2.out, Ru.taskBad, if_pos (by simp; omega)]
          clear E2
          go_wp2_with fail
          go_ret
          exact ⟨rfl, Kx1.out⟩
        · have fa : decide (d.every < 1) = false := decide_eq_false ga
          by_cases gb : 100 < d.every
          · have fb : decide (100 < d.every) = true := decide_eq_true gb
            obtain rfl : r = 17 := by rw [E2.out, Ru.taskBad, if_pos (by simp; omega)]
            clear E2
            go_wp2_with fail
            go_ret
            exact ⟨rfl, Kx1.out⟩
          · have fb : decide (100 < d.every) = false := decide_eq_false gb
            by_cases gc : d.first < 0
            · have fc : decide (d.first < 0) = true := decide_eq_true gc
              obtain rfl : r = 17 := by rw [E2.out, Ru.taskBad, if_pos (by simp; omega)]
              clear E2
              go_wp2_with fail
              go_ret
              exact ⟨rfl, Kx1.out⟩
            · have fc : decide (d.first < 0) = false := decide_eq_false gc
              by_cases gd : 9 < d.first
              · have fd : decide (9 < d.first) = true := decide_eq_true gd
                obtain rfl : r = 17 := by rw [E2.out, Ru.taskBad, if_pos (by simp; omega)]
                clear E2
                go_wp2_with fail
                go_ret
                exact ⟨rfl, Kx1.out⟩
              · have fd : decide (9 < d.first) = false := decide_eq_false gd
                obtain ⟨q2, hq2⟩ : ∃ q, ((u.take i).any fun y => y.kind == 4 && y.base.toList == d.base.toList) = q := ⟨_, rfl⟩
                have hb : Ru.taskBad 3 d = false := by simp [Ru.taskBad]; omega
                have E3 : Hid (r = if q2 = true then 17 else 0) := Aid.hid (by rw [E2.out, hq2, hb]; rfl)
                clear hb
                have HQ2 := Aid.hid hq2
                have hic : i ≤ cap := by have := HCP.out.n; omega
                clear E2 hq2 ga gb gc gd
                go_wp2_with fail
                have HZ := Aid.hid (fun (w' : World) (hSw : Below v0_1.heap.size v0_1 w') => (⟨(hSw.cell (p := ⟨b, 0, none⟩) lx).trans xx0, (hSw.cell (p := ⟨b, 1, none⟩) lx).trans xx1, (hSw.cell (p := ⟨b, 11, none⟩) lx).trans xx11, (hSw.cell (p := ⟨b, 12, none⟩) lx).trans xx12, (hSw.cell (p := ⟨w.heap.size, 0, none⟩) lp).trans xp0, (hSw.cell (p := ⟨ub, uo + j * 11, none⟩) lub).trans ce⟩ : _ ∧ _ ∧ _ ∧ _ ∧ _ ∧ _))
                have hb : Below v0_1.heap.size v0_1 v0_1.drew := (Below.refl _ _).drew
                refine Ord.wp_region_walk (fun w' => Below v0_1.heap.size v0_1 w') 11 [(true, 0), (true, 1), (true, 2), (true, 3), (true, 4), (true, 5), (true, 6), (true, 7), (true, 8), (true, 9), (true, 10)] (by kernel_rfl) (by kernel_rfl) (fun _ _ d _ _ h => by cases d <;> exact h) (hb) ?_
                clear hb
                have hb : Below v0_1.heap.size v0_1 v0_1.drew := (Below.refl _ _).drew
                generalize v0_1.drew = wd1 at *
                iterate 11
                  apply Ord.walk_light
                  next => (simp only [la0, la1, la2]; rfl)
                  next => rfl
                  next => (intro w' hSw; obtain ⟨z0, z1, z2, z3, z4, z5⟩ := HZ.out w' hSw; clear hSw; go_simp; first | done | with_reducible rfl)
                  simp only [Act.put, la3, la4, la5]
                refine Ord.walk_tail ?_; simp only [List.drop_succ_cons, List.drop_zero]
                have hbx := hb
                clear hb HZ
                have Kx2 := Aid.hid ((Kx1.out).trans (hbx.mono (Kx1.out).size))
                have Np_2 := Aid.hid (Np_1.out.below hbx Np_1.out.lt)
                have Nx_2 := Aid.hid (Nx_1.out.below hbx Nx_1.out.lt)
                clear xx0 xx1 xx11 xx12 lx xp0 lp ce lub
                clear hbx
                go_wp2_with fail
                have hlen : (u.take i).length = i := by simp; omega
                have HC := hasD_is (u.take i) (some ⟨ub, uo, none⟩) cap B 43 #[.pointer (some ⟨w.heap.size, 0, none⟩)] (fun y => y.kind == 4 && y.base.toList == d.base.toList) q2 _ HQ2.out (fun _ _ => enter_of Tryz.func43 (by kernel_rfl) (by kernel_rfl) _ _) ((HU.out.rows.take i).below (Kx2.out) hB) (Nat.le_trans hB (Kx2.out).size) (by rw [hlen]; omega) (fun y _ w1 hb1 => task1_is u (some ⟨ub, uo, none⟩) B cap b i d y (w.heap.size) _ w1 rfl (Np_2.out.below hb1 Np_2.out.lt) (Nx_2.out.below hb1 Nx_2.out.lt) HD.out (HU.out.below ((Kx2.out).trans (hb1.mono (Kx2.out).size)) hB) (Nat.le_trans hB (Nat.le_trans (Kx2.out).size hb1.size)))
                rw [hlen] at HC
                refine (HC).mono ?_; rintro _ w3 ⟨rfl, hb3⟩
                have Kx3 := Aid.hid ((Kx2.out).trans (hb3.mono (Kx2.out).size))
                have Np_3 := Aid.hid (Np_2.out.below hb3 Np_2.out.lt)
                have Nx_3 := Aid.hid (Nx_2.out.below hb3 Nx_2.out.lt)
                clear hb3
                cases q2
                · obtain rfl : r = 0 := E3.out
                  go_wp2_with fail
                  go_ret
                  exact ⟨rfl, Kx3.out⟩
                · obtain rfl : r = 17 := E3.out
                  go_wp2_with fail
                  go_ret
                  exact ⟨rfl, Kx3.out⟩
      · have e3 : (ek != 3) = true := by simpa using h3
        obtain rfl : r = 17 := by rw [E2.out, Ru.taskBad, if_pos (by simp [h3])]
        clear h3 E2
        go_wp2_with fail
        go_ret
        exact ⟨rfl, Kx1.out⟩
end Go.Proofs.YtejifefgmlpclaaGreat
