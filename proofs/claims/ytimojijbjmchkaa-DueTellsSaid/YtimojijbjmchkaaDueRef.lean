/- The document's Which, walked. -/
import Derived.Test.YtimojijbjmchkaaDueOrder
import Derived.Test.YtimojijbjmchkaaOrd
import Derived.Deep.CutRange
namespace Go.Proofs.Ytimojijbjmchkaa
open Go.RowKit

theorem rdue_isN (e b a : Int) (r : Bool) (h : Du.due e b a = r) (w : World) (ha : a ≤ 9223372036854775807) :
    Calls Try.prog 12 #[.int .i64 e, .int .i64 b, .int .i64 a] w fun x w' => x = .returned (.bool r) ∧ ∃ n, w' = w.drewN n := by
  rw [← h]; exact rdue_walk e b a w ha

theorem Du.Is.no {e f : Int → Int} {b a : Int} {k : Nat} {zs : List Int} (h : Du.Is e f b a k zs) (hd : Du.due (e k) b a = false) : Du.Is e f b a (k + 1) zs := by
  unfold Du.Is; rw [Du.list_no hd]; exact h
theorem Du.Is.yes {e f : Int → Int} {b a : Int} {k : Nat} {p1 p2 : List Int} (h : Du.Is e f b a k (p1 ++ p2)) (hd : Du.due (e k) b a = true) (h2 : ∀ y ∈ p2, f k < f y) (hs : p1 = [] ∨ ∃ q z, p1 = q ++ [z] ∧ f z ≤ f k) :
    Du.Is e f b a (k + 1) (p1 ++ [(k : Int)] ++ p2) := by
  unfold Du.Is; rw [Du.list_yes hd, List.append_assoc]
  refine ⟨?_, Du.insert_sorted h.2 h2 (fun y hy => ?_) hs⟩
  · show (p1 ++ (k : Int) :: p2).Perm _
    refine List.perm_middle.trans ?_
    exact (List.Perm.cons _ h.1).trans (List.perm_append_comm (l₁ := [(k : Int)]))
  · obtain ⟨_, h1, _⟩ := Du.list_mem (h.1.subset (List.mem_append_left _ hy))
    exact h1
theorem ints_oneCell' (xs : List Int) : ∀ u ∈ xs.map (Value.int .i64), u.oneCell' = true := by
  intro u hu
  obtain ⟨z, _, rfl⟩ := List.mem_map.1 hu
  rfl
theorem own_lower {w : World} {H base n : Nat} {v : Value} {xs : List Value} (h : w.ownsRow H 3 1 v n xs) (hl : base ≤ H) : w.ownsRow base 3 1 v n xs := by
  rcases h with ⟨h1, h2 | ⟨g, cp, cur, p1, p2, p3⟩⟩
  · exact ⟨h1, Or.inl h2⟩
  · exact ⟨h1, Or.inr ⟨g, cp, cur, p1, by omega, p3⟩⟩
theorem own_cap {w : World} {base n c : Nat} {A : Option Addr} {xs : List Value} (h : w.ownsRow base 3 1 (.slice A n c) n xs) : n ≤ c := by
  rcases h.2 with ⟨_, h2⟩ | ⟨g, cp, cur, p1, _, _, hc, _⟩
  · omega
  · simp only [Value.slice.injEq, true_and] at p1
    obtain ⟨_, rfl⟩ := p1
    exact hc
theorem IntsAt.fst {w : World} {B : Nat} {A : Option Addr} {p1 p2 : List Int} (h : IntsAt w B A (p1 ++ p2)) : Reads w B 1 A p1.length (p1.map (Value.int .i64)) := by
  refine ⟨by simp, fun hn => ?_⟩
  obtain ⟨ad, h1, h2, h3⟩ := h.2 (by simp; omega)
  refine ⟨ad, h1, h2, fun j u hj => h3 j u ?_⟩
  have hjl : j < (p1.map (Value.int .i64)).length := (List.getElem?_eq_some_iff.1 hj).1
  rw [List.map_append, List.getElem?_append_left hjl]; exact hj
theorem IntsAt.snd {w : World} {B c : Nat} {A : Option Addr} {p1 p2 : List Int} (h : IntsAt w B A (p1 ++ p2)) (hc : p1.length + p2.length ≤ c) : Reads w B 1 (if c = p1.length then A else A.map (·.add p1.length)) p2.length (p2.map (Value.int .i64)) := by
  have := Reads.cut (k := p1.length) (cap := c) h (by simp) (by simpa using hc)
  simpa using this

set_option maxRecDepth 100000 in
set_option maxHeartbeats 4000000 in
theorem rwhich_any (a : Option Addr) (b off len cap : Nat) (e f : Int → Int) (x y : Int) (w : World) (hlen : len ≤ 20) (hj : JobsIn w a b off len e f) (hy : y ≤ 9223372036854775807) :
    Calls Try.prog 10 #[.slice a len cap, .int .i64 x, .int .i64 y] w fun r w' => ∃ A c zs, r = .returned (.slice A zs.length c) ∧ Du.Is e f x y len zs ∧
      w'.ownsRow w.heap.size 3 1 (.slice A zs.length c) zs.length (zs.map (Value.int .i64)) ∧ Below w.heap.size w w' := by
  have HJ := Aid.hid hj
  clear hj
  go_enter Try.func10, Try.ntmps10
  try simp only [List.append_eq, List.cons_append, List.nil_append]
  obtain ⟨i0, hi, hz0, hz1, hz2⟩ := info_parts info_int
  go_wp2_with fail
  have Is0 : Du.Is e f x y 0 [] := ⟨List.Perm.refl _, List.Pairwise.nil⟩
  go_loopw [7, 8] (fun v i wr => ∃ (k : Nat) (A : Option Addr) (c : Nat) (zs : List Int), k ≤ len ∧ i = .int .i64 k ∧ v = .slice A zs.length c ∧ Hid (Du.Is e f x y k zs) ∧ Hid (wr.ownsRow w.heap.size 3 1 (.slice A zs.length c) zs.length (zs.map (Value.int .i64))) ∧
      Below w.heap.size w wr) (fun _ i _ => len - (intOf i).toNat)
  case atStart => exact ⟨0, none, 0, [], Nat.zero_le _, rfl, rfl, Aid.hid Is0, Aid.hid (World.ownsRow_nil _ _ _ _), Below.refl _ _⟩
  case round =>
    obtain ⟨k, A, c, zs, hk, rfl, rfl, IS, O, hb⟩ := hrel
    by_cases hlt : k < len
    · obtain rfl := HJ.out.addr (by omega)
      have HJ2 := HJ.out.below hb
      have c1 := HJ2.every k hlt
      clear HJ2
      obtain ⟨r, hr⟩ : ∃ r, Du.due (e k) x y = r := ⟨_, rfl⟩
      have HR := Aid.hid hr
      clear hr
      go_wp2_with fail
      refine (rdue_isN _ _ _ r HR.out _ hy).mono ?_; rintro e' w2 ⟨rfl, n, hw⟩
      clear c1
      have O2 : Hid (w2.ownsRow w.heap.size 3 1 (.slice A zs.length c) zs.length (zs.map (Value.int .i64))) := Aid.hid (by rw [hw]; exact O.out)
      replace hb : Below w.heap.size w w2 := by rw [hw]; exact below_drewN' hb _
      clear hw O
      cases r
      · go_wp2_with fail
        go_roundw
        case rel => exact ⟨k + 1, A, c, zs, by omega, by go_num, rfl, Aid.hid (IS.out.no HR.out), O2, hb⟩
        case measure => simp [intOf]; omega
      · have ln : zs.length ≤ 20 := by have := IS.out.1.length_eq; have := Du.list_len e x y k; omega
        go_wp2_with fail
        obtain ⟨wo, hwo⟩ : ∃ wo : World, wo = wr := ⟨_, rfl⟩
        go_loopw [9] (fun v9 w' => ∃ p1 p2 : List Int, v9 = .int .i64 p1.length ∧ Hid (zs = p1 ++ p2) ∧ Hid (∀ y ∈ p2, f k < f y) ∧
            Hid (w'.ownsRow w.heap.size 3 1 (.slice A zs.length c) zs.length (zs.map (Value.int .i64))) ∧ Below w.heap.size w w') (fun v9 _ => (intOf v9).toNat)
        case atStart => exact ⟨zs, [], rfl, Aid.hid (by simp), Aid.hid (by simp), O2, hb⟩
        case round =>
          clear hb O2
          obtain ⟨p1, p2, rfl, ZS, H2, O2, hb⟩ := hrel
          have HJ2 := HJ.out.below hb
          have ck := HJ2.first k hlt
          have pl : p1.length ≤ 20 := by have := ZS.out; rw [this, List.length_append] at ln; omega
          rcases Nat.eq_zero_or_pos p1.length with h0 | hpos
          · have HS : Hid (p1 = [] ∨ ∃ q z, p1 = q ++ [z] ∧ f z ≤ f k) := Aid.hid (Or.inl (List.eq_nil_of_length_eq_zero h0))
            obtain ⟨P, hP⟩ : ∃ P, p1.length = P := ⟨_, rfl⟩
            have g0 : decide ((0 : Int) < (P : Int)) = false := decide_eq_false (by omega)
            have g1 : decide (0 < P) = false := decide_eq_false (by omega)
            rw [hP]
            have HP := Aid.hid hP
            clear h0 hP
            go_wp2_with fail
            go_quiet (fail)
            go_upto_region 9 with (fail)
            have HE : (P : Int) = (p1.length : Int) := by rw [HP.out]
            simp only [HE]
            replace O2 : Hid ((wr.drewN nq).ownsRow w.heap.size 3 1 (.slice A zs.length c) zs.length (zs.map (Value.int .i64))) := O2
            replace hb := below_drewN' hb nq
            clear HE g0 g1 HP
            generalize wr.drewN nq = wr at *
            have HL : w.heap.size ≤ wr.drew.heap.size := hb.size
            replace hb := hb.drew
            have RDQ : IntsAt wr.drew wr.drew.heap.size A (p1 ++ p2) := by rw [← ZS.out]; exact IntsAt.of_own O2.out
            have zl : zs.length = p1.length + p2.length := by rw [ZS.out, List.length_append]
            have cc : zs.length ≤ c := own_cap O2.out
            have RD1 := Aid.hid RDQ.fst
            have rd2 := RDQ.snd (c := c) (by omega)
            obtain ⟨A2, hA2⟩ : ∃ A2, (if c = p1.length then A else A.map (·.add p1.length)) = A2 := ⟨_, rfl⟩
            rw [hA2] at rd2
            have RD2 := Aid.hid rd2
            have HA2 := Aid.hid hA2
            clear hA2 rd2
            have ISY : Hid (Du.Is e f x y k (p1 ++ p2)) := Aid.hid (by rw [← ZS.out]; exact IS.out)
            have HB : Below wr.drew.heap.size wr.drew wr.drew := Below.refl _ _
            have ln2 : p1.length + p2.length ≤ 20 := by omega
            have cp : p1.length + p2.length ≤ c := by omega
            have CP0 : p1.length ≤ c := by omega
            have CP1 : (p1.length : Int) ≤ (p1.length : Int) + (p2.length : Int) := by omega
            rw [zl]
            clear zl cc RDQ ln
            refine Ord.wp_region_go (fun w' => Below wr.drew.heap.size wr.drew w') 11 [0, 1, 2, 4, 7, 8, 9] (by kernel_rfl) (by kernel_rfl) (fun _ _ d _ _ h => by cases d <;> exact h) (Below.refl _ _) ?_
            generalize wr.drew = wd at *
            generalize hH0 : wd.heap.size = H0 at *
            apply Ord.go_light (i := 0) (by kernel_rfl)
            next => (simp only [List.getElem?_toArray, List.getElem?_cons_zero]; rfl)
            next => rfl
            next => (intro w' hSw; clear hSw; go_simp; first | done | with_reducible rfl)
            simp only [Act.put, List.setIfInBounds_toArray, List.set_cons_zero, List.set_cons_succ]
            apply Ord.go_light (i := 1) (by kernel_rfl)
            next => (simp only [List.getElem?_toArray, List.getElem?_cons_succ, List.getElem?_cons_zero]; rfl)
            next => rfl
            next => (intro w' hSw; clear hSw; go_simp; first | done | with_reducible rfl)
            simp only [Act.put, List.setIfInBounds_toArray, List.set_cons_zero, List.set_cons_succ]
            apply Ord.go_light (i := 2) (by kernel_rfl)
            next => (simp only [List.getElem?_toArray, List.getElem?_cons_succ, List.getElem?_cons_zero]; rfl)
            next => rfl
            next => (intro w' hSw; clear hSw; go_simp; (first | rw [if_pos CP0] | rw [if_pos CP1, HA2.out] | rw [HA2.out] | skip); first | done | with_reducible rfl)
            simp only [Act.put, List.setIfInBounds_toArray, List.set_cons_zero, List.set_cons_succ]
            apply Ord.go_light (i := 4) (by kernel_rfl)
            next => (simp only [List.getElem?_toArray, List.getElem?_cons_succ, List.getElem?_cons_zero]; rfl)
            next => rfl
            next => (intro w' hSw; clear hSw; go_simp; first | done | with_reducible rfl)
            simp only [Act.put, List.setIfInBounds_toArray, List.set_cons_zero, List.set_cons_succ]
            apply Ord.go_light (i := 7) (by kernel_rfl)
            next => (simp only [List.getElem?_toArray, List.getElem?_cons_succ, List.getElem?_cons_zero]; rfl)
            next => rfl
            next => (intro w' hSw; clear hSw; go_simp; first | done | with_reducible rfl)
            simp only [Act.put, List.setIfInBounds_toArray, List.set_cons_zero, List.set_cons_succ]
            apply Ord.go_light (i := 8) (by kernel_rfl)
            next => (simp only [List.getElem?_toArray, List.getElem?_cons_succ, List.getElem?_cons_zero]; rfl)
            next => rfl
            next => (intro w' hSw; clear hSw; go_simp; first | done | with_reducible rfl)
            simp only [Act.put, List.setIfInBounds_toArray, List.set_cons_zero, List.set_cons_succ]
            apply Ord.go_light (i := 9) (by kernel_rfl)
            next => (simp only [List.getElem?_toArray, List.getElem?_cons_succ, List.getElem?_cons_zero]; rfl)
            next => rfl
            next => (intro w' hSw; clear hSw; go_simp; (first | rw [if_pos CP0] | rw [if_pos CP1, HA2.out] | rw [HA2.out] | skip); first | done | with_reducible rfl)
            simp only [Act.put, List.setIfInBounds_toArray, List.set_cons_zero, List.set_cons_succ]
            refine Ord.go_two (i := 3) (j := 5) (by kernel_rfl) (by kernel_rfl) ?_ ?_
            ·
              apply Ord.go_done1
              next => (simp only [List.getElem?_toArray, List.getElem?_cons_succ, List.getElem?_cons_zero]; rfl)
              next => rfl
              intro K hK
              refine wp_append_any _ _ _ _ rfl H0 3 i0 (.int .i64 0) 1 8 Try.underlying24 hi hz0 hz1 hz2 rfl (by decide) _ 0 [] rfl (World.ownsRow_nil _ _ _ _) H0 _ p1.length _ (p1.map (Value.int .i64)) rfl (RD1.out.below HB) (ints_oneCell' _) (by unfold maxLen; omega) (by omega) (hH0 ▸ HB.size) ?_
              intro v1 w1 own1 grow1 _
              have HB1 := HB.grown grow1 (hH0 ▸ HB.size) (fun q hq => by cases hq)
              simp only [Nat.zero_add, List.nil_append] at own1
              refine hK.out _ _ HB1 (fun _ => ?_)
              clear HB grow1
              have HB := HB1; clear HB1
              clear hK K
              try simp only [Act.put, List.setIfInBounds_toArray, List.set_cons_zero, List.set_cons_succ]
              refine Ord.go_one (i := 5) (by kernel_rfl) (by kernel_rfl) ?_
              apply Ord.go_done1
              next => (simp only [List.getElem?_toArray, List.getElem?_cons_succ, List.getElem?_cons_zero]; rfl)
              next => rfl
              intro K hK
              go_wp2_with fail
              have NB := Aid.Has.new w1 [.int .i64 k] 3
              refine hK.out _ _ (HB.alloc (hH0 ▸ HB.size) _) (fun _ => ?_)
              replace HB := HB.alloc (hH0 ▸ HB.size) (.cells #[.int .i64 k] 3)
              replace own1 := own1.alloc (.cells #[.int .i64 k] 3)
              obtain ⟨nb, hnb⟩ : ∃ nb, w1.heap.size = nb := ⟨_, rfl⟩
              simp only [hnb] at NB ⊢
              clear hnb
              generalize w1.alloc (.cells #[.int .i64 k] 3) = w1b at *
              clear hK K
              try simp only [Act.put, List.setIfInBounds_toArray, List.set_cons_zero, List.set_cons_succ]
              refine Ord.go_one (i := 6) (by kernel_rfl) (by kernel_rfl) ?_
              apply Ord.go_done1
              next => (simp only [List.getElem?_toArray, List.getElem?_cons_succ, List.getElem?_cons_zero]; rfl)
              next => rfl
              intro K hK
              refine wp_append_own _ _ _ _ rfl H0 3 i0 (.int .i64 0) 1 8 Try.underlying24 hi hz0 hz1 hz2 rfl (by decide) v1 p1.length (p1.map (Value.int .i64)) rfl own1 ⟨nb, 0, none⟩ 1 1 [.int .i64 k] rfl rfl (fun j u hj => by match j, hj with | 0, hj => simp at hj; subst hj; simpa [Addr.add] using NB.cell 0 _ rfl) (by intro u hu; simp at hu; subst hu; rfl) (by unfold maxLen; omega) (by omega) (hH0 ▸ HB.size) ?_
              intro v2 w2' own2 grow2 _
              have HB1 := HB.grown grow2 (hH0 ▸ HB.size) (fun q hq => (own1.lt q hq).1)
              refine hK.out _ _ HB1 (fun _ => ?_)
              clear HB grow2 own1 NB
              have HB := HB1; clear HB1
              clear hK K
              try simp only [Act.put, List.setIfInBounds_toArray, List.set_cons_zero, List.set_cons_succ]
              refine Ord.go_one (i := 10) (by kernel_rfl) (by kernel_rfl) ?_
              apply Ord.go_done1
              next => (simp only [List.getElem?_toArray, List.getElem?_cons_succ, List.getElem?_cons_zero]; rfl)
              next => rfl
              intro K hK
              refine wp_append_any _ _ _ _ rfl H0 3 i0 (.int .i64 0) 1 8 Try.underlying24 hi hz0 hz1 hz2 rfl (by decide) v2 (p1.length + 1) (p1.map (Value.int .i64) ++ [.int .i64 k]) rfl own2 H0 _ p2.length _ (p2.map (Value.int .i64)) rfl (RD2.out.below HB) (ints_oneCell' _) (by unfold maxLen; omega) (by omega) (hH0 ▸ HB.size) ?_
              intro v3 w3 own3 grow3 _
              have HB1 := HB.grown grow3 (hH0 ▸ HB.size) (fun q hq => (own2.lt q hq).1)
              refine hK.out _ _ HB1 (fun _ => ?_)
              clear HB grow3 own2
              have HB := HB1; clear HB1
              clear hK K
              try simp only [Act.put, List.setIfInBounds_toArray, List.set_cons_zero, List.set_cons_succ]
              refine Ord.go_tail ?_; simp only [List.drop_succ_cons, List.drop_zero]
              obtain ⟨g3, c3, rfl, _, _⟩ := own3.form (by omega)
              have FIN : w3.ownsRow w.heap.size 3 1 (.slice (some ⟨g3, 0, none⟩) (p1 ++ [(k : Int)] ++ p2).length c3) (p1 ++ [(k : Int)] ++ p2).length ((p1 ++ [(k : Int)] ++ p2).map (Value.int .i64)) := by
                have e : (p1 ++ [(k : Int)] ++ p2).length = p1.length + 1 + p2.length := by simp; omega
                rw [e]
                have o := own_lower own3 HL
                simpa using o
              have FB : Below w.heap.size w w3 := hb.trans (HB.mono HL)
              clear own3 HB
              go_wp2_with fail
              go_roundw
              case rel => exact ⟨k + 1, some ⟨g3, 0, none⟩, c3, p1 ++ [(k : Int)] ++ p2, by omega, by go_num, by simp <;> omega, Aid.hid (Du.Is.yes ISY.out HR.out H2.out HS.out), Aid.hid FIN, FB⟩
              case measure => simp [intOf]; omega
            ·
              apply Ord.go_done1
              next => (simp only [List.getElem?_toArray, List.getElem?_cons_succ, List.getElem?_cons_zero]; rfl)
              next => rfl
              intro K hK
              go_wp2_with fail
              have NB : Aid.Has (wd.alloc (.cells #[.int .i64 k] 3)) H0 [.int .i64 k] 3 := by rw [← hH0]; exact Aid.Has.new wd _ _
              refine hK.out _ _ (HB.alloc (hH0 ▸ HB.size) _) (fun _ => ?_)
              replace HB := HB.alloc (hH0 ▸ HB.size) (.cells #[.int .i64 k] 3)
              try simp only [hH0]
              generalize wd.alloc (.cells #[.int .i64 k] 3) = wdb at *
              clear hK K
              try simp only [Act.put, List.setIfInBounds_toArray, List.set_cons_zero, List.set_cons_succ]
              refine Ord.go_one (i := 3) (by kernel_rfl) (by kernel_rfl) ?_
              apply Ord.go_done1
              next => (simp only [List.getElem?_toArray, List.getElem?_cons_succ, List.getElem?_cons_zero]; rfl)
              next => rfl
              intro K hK
              refine wp_append_any _ _ _ _ rfl H0 3 i0 (.int .i64 0) 1 8 Try.underlying24 hi hz0 hz1 hz2 rfl (by decide) _ 0 [] rfl (World.ownsRow_nil _ _ _ _) H0 _ p1.length _ (p1.map (Value.int .i64)) rfl (RD1.out.below HB) (ints_oneCell' _) (by unfold maxLen; omega) (by omega) (hH0 ▸ HB.size) ?_
              intro v1 w1 own1 grow1 _
              have HB1 := HB.grown grow1 (hH0 ▸ HB.size) (fun q hq => by cases hq)
              have NB1 : Aid.Has w1 H0 [.int .i64 k] 3 := (grow1.block H0 NB.lt (fun h => by cases h)).trans NB
              simp only [Nat.zero_add, List.nil_append] at own1
              refine hK.out _ _ HB1 (fun _ => ?_)
              clear HB grow1 NB
              have HB := HB1; clear HB1
              have NB := NB1; clear NB1
              clear hK K
              try simp only [Act.put, List.setIfInBounds_toArray, List.set_cons_zero, List.set_cons_succ]
              refine Ord.go_one (i := 6) (by kernel_rfl) (by kernel_rfl) ?_
              apply Ord.go_done1
              next => (simp only [List.getElem?_toArray, List.getElem?_cons_succ, List.getElem?_cons_zero]; rfl)
              next => rfl
              intro K hK
              refine wp_append_own _ _ _ _ rfl H0 3 i0 (.int .i64 0) 1 8 Try.underlying24 hi hz0 hz1 hz2 rfl (by decide) v1 p1.length (p1.map (Value.int .i64)) rfl own1 ⟨H0, 0, none⟩ 1 1 [.int .i64 k] rfl rfl (fun j u hj => by match j, hj with | 0, hj => simp at hj; subst hj; simpa [Addr.add] using NB.cell 0 _ rfl) (by intro u hu; simp at hu; subst hu; rfl) (by unfold maxLen; omega) (by omega) (hH0 ▸ HB.size) ?_
              intro v2 w2' own2 grow2 _
              have HB1 := HB.grown grow2 (hH0 ▸ HB.size) (fun q hq => (own1.lt q hq).1)
              refine hK.out _ _ HB1 (fun _ => ?_)
              clear HB grow2 own1 NB
              have HB := HB1; clear HB1
              clear hK K
              try simp only [Act.put, List.setIfInBounds_toArray, List.set_cons_zero, List.set_cons_succ]
              refine Ord.go_one (i := 10) (by kernel_rfl) (by kernel_rfl) ?_
              apply Ord.go_done1
              next => (simp only [List.getElem?_toArray, List.getElem?_cons_succ, List.getElem?_cons_zero]; rfl)
              next => rfl
              intro K hK
              refine wp_append_any _ _ _ _ rfl H0 3 i0 (.int .i64 0) 1 8 Try.underlying24 hi hz0 hz1 hz2 rfl (by decide) v2 (p1.length + 1) (p1.map (Value.int .i64) ++ [.int .i64 k]) rfl own2 H0 _ p2.length _ (p2.map (Value.int .i64)) rfl (RD2.out.below HB) (ints_oneCell' _) (by unfold maxLen; omega) (by omega) (hH0 ▸ HB.size) ?_
              intro v3 w3 own3 grow3 _
              have HB1 := HB.grown grow3 (hH0 ▸ HB.size) (fun q hq => (own2.lt q hq).1)
              refine hK.out _ _ HB1 (fun _ => ?_)
              clear HB grow3 own2
              have HB := HB1; clear HB1
              clear hK K
              try simp only [Act.put, List.setIfInBounds_toArray, List.set_cons_zero, List.set_cons_succ]
              refine Ord.go_tail ?_; simp only [List.drop_succ_cons, List.drop_zero]
              obtain ⟨g3, c3, rfl, _, _⟩ := own3.form (by omega)
              have FIN : w3.ownsRow w.heap.size 3 1 (.slice (some ⟨g3, 0, none⟩) (p1 ++ [(k : Int)] ++ p2).length c3) (p1 ++ [(k : Int)] ++ p2).length ((p1 ++ [(k : Int)] ++ p2).map (Value.int .i64)) := by
                have e : (p1 ++ [(k : Int)] ++ p2).length = p1.length + 1 + p2.length := by simp; omega
                rw [e]
                have o := own_lower own3 HL
                simpa using o
              have FB : Below w.heap.size w w3 := hb.trans (HB.mono HL)
              clear own3 HB
              go_wp2_with fail
              go_roundw
              case rel => exact ⟨k + 1, some ⟨g3, 0, none⟩, c3, p1 ++ [(k : Int)] ++ p2, by omega, by go_num, by simp <;> omega, Aid.hid (Du.Is.yes ISY.out HR.out H2.out HS.out), Aid.hid FIN, FB⟩
              case measure => simp [intOf]; omega
          · obtain ⟨q, z, hqz⟩ : ∃ q z, p1 = q ++ [z] := by
              rcases List.eq_nil_or_concat p1 with h | ⟨q, z, h⟩
              · rw [h] at hpos; simp at hpos
              · exact ⟨q, z, by rw [h, List.concat_eq_append]⟩
            have hz : zs[q.length]? = some z := by rw [ZS.out, hqz]; simp
            obtain ⟨i2, rfl, hi2, _⟩ := Du.of_mem IS.out q.length z hz
            have c2 := HJ2.first i2 (by omega)
            obtain ⟨g, cc, hv, _, _⟩ := O2.out.form (by have := (List.getElem?_eq_some_iff.1 hz).1; omega)
            obtain ⟨rfl, rfl⟩ : A = some ⟨g, 0, none⟩ ∧ c = cc := by simpa using hv
            have cz := own_at O2.out q.length _ hz
            have hql : p1.length = q.length + 1 := by rw [hqz]; simp
            have zql : q.length < zs.length := (List.getElem?_eq_some_iff.1 hz).1
            have HQ := Aid.hid hqz
            have QL := Aid.hid hql
            obtain ⟨m, hm⟩ : ∃ m, q.length = m := ⟨_, rfl⟩
            have HM := Aid.hid hm
            rw [hql, hm] at pl ⊢
            rw [hm] at cz zql
            clear hqz hql hm hpos hv hz
            have z3 : (0 : Int) < (m : Int) + 1 := by omega
            have z5 : ((m : Int) + 1).toNat = m + 1 := by omega
            by_cases hgo : f k < f i2
            · go_wp2_with fail
              go_quiet (fail)
              go_wp2_with fail
              go_roundw
              case rel => exact ⟨q, (i2 : Int) :: p2, by rw [HM.out], Aid.hid (by rw [ZS.out, HQ.out]; simp), Aid.hid (fun y hy => by rcases List.mem_cons.1 hy with rfl | h; exact hgo; exact H2.out y h), O2, below_drewN' hb _⟩
              case measure => simp [intOf]
            · have HS : Hid (p1 = [] ∨ ∃ q z, p1 = q ++ [z] ∧ f z ≤ f k) := Aid.hid (Or.inr ⟨q, i2, HQ.out, by omega⟩)
              have g1 : decide (f k < f i2) = false := by simpa using hgo
              clear hgo
              go_wp2_with fail
              go_quiet (fail)
              go_upto_region 9 with (fail)
              have HE : (m : Int) + 1 = (p1.length : Int) := by rw [QL.out, HM.out]; rfl
              have HE2 : ((m + 1 : Nat) : Int) = (p1.length : Int) := by rw [QL.out, HM.out]
              simp only [HE, HE2]
              replace O2 : Hid ((wr.drewN nq).ownsRow w.heap.size 3 1 (.slice (some ⟨g, 0, none⟩) zs.length c) zs.length (zs.map (Value.int .i64))) := O2
              replace hb := below_drewN' hb nq
              clear HE HE2 g1 cz c2 ck z3 z5 zql
              generalize wr.drewN nq = wr at *
              obtain ⟨A, hA⟩ : ∃ A : Option Addr, some ⟨g, 0, none⟩ = A := ⟨_, rfl⟩
              rw [hA] at O2
              simp only [hA]
              clear hA
              have HL : w.heap.size ≤ wr.drew.heap.size := hb.size
              replace hb := hb.drew
              have RDQ : IntsAt wr.drew wr.drew.heap.size A (p1 ++ p2) := by rw [← ZS.out]; exact IntsAt.of_own O2.out
              have zl : zs.length = p1.length + p2.length := by rw [ZS.out, List.length_append]
              have cc : zs.length ≤ c := own_cap O2.out
              have RD1 := Aid.hid RDQ.fst
              have rd2 := RDQ.snd (c := c) (by omega)
              obtain ⟨A2, hA2⟩ : ∃ A2, (if c = p1.length then A else A.map (·.add p1.length)) = A2 := ⟨_, rfl⟩
              rw [hA2] at rd2
              have RD2 := Aid.hid rd2
              have HA2 := Aid.hid hA2
              clear hA2 rd2
              have ISY : Hid (Du.Is e f x y k (p1 ++ p2)) := Aid.hid (by rw [← ZS.out]; exact IS.out)
              have HB : Below wr.drew.heap.size wr.drew wr.drew := Below.refl _ _
              have ln2 : p1.length + p2.length ≤ 20 := by omega
              have cp : p1.length + p2.length ≤ c := by omega
              have CP0 : p1.length ≤ c := by omega
              have CP1 : (p1.length : Int) ≤ (p1.length : Int) + (p2.length : Int) := by omega
              rw [zl]
              clear zl cc RDQ ln
              refine Ord.wp_region_go (fun w' => Below wr.drew.heap.size wr.drew w') 11 [0, 1, 2, 4, 7, 8, 9] (by kernel_rfl) (by kernel_rfl) (fun _ _ d _ _ h => by cases d <;> exact h) (Below.refl _ _) ?_
              generalize wr.drew = wd at *
              generalize hH0 : wd.heap.size = H0 at *
              apply Ord.go_light (i := 0) (by kernel_rfl)
              next => (simp only [List.getElem?_toArray, List.getElem?_cons_zero]; rfl)
              next => rfl
              next => (intro w' hSw; clear hSw; go_simp; first | done | with_reducible rfl)
              simp only [Act.put, List.setIfInBounds_toArray, List.set_cons_zero, List.set_cons_succ]
              apply Ord.go_light (i := 1) (by kernel_rfl)
              next => (simp only [List.getElem?_toArray, List.getElem?_cons_succ, List.getElem?_cons_zero]; rfl)
              next => rfl
              next => (intro w' hSw; clear hSw; go_simp; first | done | with_reducible rfl)
              simp only [Act.put, List.setIfInBounds_toArray, List.set_cons_zero, List.set_cons_succ]
              apply Ord.go_light (i := 2) (by kernel_rfl)
              next => (simp only [List.getElem?_toArray, List.getElem?_cons_succ, List.getElem?_cons_zero]; rfl)
              next => rfl
              next => (intro w' hSw; clear hSw; go_simp; (first | rw [if_pos CP0] | rw [if_pos CP1, HA2.out] | rw [HA2.out] | skip); first | done | with_reducible rfl)
              simp only [Act.put, List.setIfInBounds_toArray, List.set_cons_zero, List.set_cons_succ]
              apply Ord.go_light (i := 4) (by kernel_rfl)
              next => (simp only [List.getElem?_toArray, List.getElem?_cons_succ, List.getElem?_cons_zero]; rfl)
              next => rfl
              next => (intro w' hSw; clear hSw; go_simp; first | done | with_reducible rfl)
              simp only [Act.put, List.setIfInBounds_toArray, List.set_cons_zero, List.set_cons_succ]
              apply Ord.go_light (i := 7) (by kernel_rfl)
              next => (simp only [List.getElem?_toArray, List.getElem?_cons_succ, List.getElem?_cons_zero]; rfl)
              next => rfl
              next => (intro w' hSw; clear hSw; go_simp; first | done | with_reducible rfl)
              simp only [Act.put, List.setIfInBounds_toArray, List.set_cons_zero, List.set_cons_succ]
              apply Ord.go_light (i := 8) (by kernel_rfl)
              next => (simp only [List.getElem?_toArray, List.getElem?_cons_succ, List.getElem?_cons_zero]; rfl)
              next => rfl
              next => (intro w' hSw; clear hSw; go_simp; first | done | with_reducible rfl)
              simp only [Act.put, List.setIfInBounds_toArray, List.set_cons_zero, List.set_cons_succ]
              apply Ord.go_light (i := 9) (by kernel_rfl)
              next => (simp only [List.getElem?_toArray, List.getElem?_cons_succ, List.getElem?_cons_zero]; rfl)
              next => rfl
              next => (intro w' hSw; clear hSw; go_simp; (first | rw [if_pos CP0] | rw [if_pos CP1, HA2.out] | rw [HA2.out] | skip); first | done | with_reducible rfl)
              simp only [Act.put, List.setIfInBounds_toArray, List.set_cons_zero, List.set_cons_succ]
              refine Ord.go_two (i := 3) (j := 5) (by kernel_rfl) (by kernel_rfl) ?_ ?_
              ·
                apply Ord.go_done1
                next => (simp only [List.getElem?_toArray, List.getElem?_cons_succ, List.getElem?_cons_zero]; rfl)
                next => rfl
                intro K hK
                refine wp_append_any _ _ _ _ rfl H0 3 i0 (.int .i64 0) 1 8 Try.underlying24 hi hz0 hz1 hz2 rfl (by decide) _ 0 [] rfl (World.ownsRow_nil _ _ _ _) H0 _ p1.length _ (p1.map (Value.int .i64)) rfl (RD1.out.below HB) (ints_oneCell' _) (by unfold maxLen; omega) (by omega) (hH0 ▸ HB.size) ?_
                intro v1 w1 own1 grow1 _
                have HB1 := HB.grown grow1 (hH0 ▸ HB.size) (fun q hq => by cases hq)
                simp only [Nat.zero_add, List.nil_append] at own1
                refine hK.out _ _ HB1 (fun _ => ?_)
                clear HB grow1
                have HB := HB1; clear HB1
                clear hK K
                try simp only [Act.put, List.setIfInBounds_toArray, List.set_cons_zero, List.set_cons_succ]
                refine Ord.go_one (i := 5) (by kernel_rfl) (by kernel_rfl) ?_
                apply Ord.go_done1
                next => (simp only [List.getElem?_toArray, List.getElem?_cons_succ, List.getElem?_cons_zero]; rfl)
                next => rfl
                intro K hK
                go_wp2_with fail
                have NB := Aid.Has.new w1 [.int .i64 k] 3
                refine hK.out _ _ (HB.alloc (hH0 ▸ HB.size) _) (fun _ => ?_)
                replace HB := HB.alloc (hH0 ▸ HB.size) (.cells #[.int .i64 k] 3)
                replace own1 := own1.alloc (.cells #[.int .i64 k] 3)
                obtain ⟨nb, hnb⟩ : ∃ nb, w1.heap.size = nb := ⟨_, rfl⟩
                simp only [hnb] at NB ⊢
                clear hnb
                generalize w1.alloc (.cells #[.int .i64 k] 3) = w1b at *
                clear hK K
                try simp only [Act.put, List.setIfInBounds_toArray, List.set_cons_zero, List.set_cons_succ]
                refine Ord.go_one (i := 6) (by kernel_rfl) (by kernel_rfl) ?_
                apply Ord.go_done1
                next => (simp only [List.getElem?_toArray, List.getElem?_cons_succ, List.getElem?_cons_zero]; rfl)
                next => rfl
                intro K hK
                refine wp_append_own _ _ _ _ rfl H0 3 i0 (.int .i64 0) 1 8 Try.underlying24 hi hz0 hz1 hz2 rfl (by decide) v1 p1.length (p1.map (Value.int .i64)) rfl own1 ⟨nb, 0, none⟩ 1 1 [.int .i64 k] rfl rfl (fun j u hj => by match j, hj with | 0, hj => simp at hj; subst hj; simpa [Addr.add] using NB.cell 0 _ rfl) (by intro u hu; simp at hu; subst hu; rfl) (by unfold maxLen; omega) (by omega) (hH0 ▸ HB.size) ?_
                intro v2 w2' own2 grow2 _
                have HB1 := HB.grown grow2 (hH0 ▸ HB.size) (fun q hq => (own1.lt q hq).1)
                refine hK.out _ _ HB1 (fun _ => ?_)
                clear HB grow2 own1 NB
                have HB := HB1; clear HB1
                clear hK K
                try simp only [Act.put, List.setIfInBounds_toArray, List.set_cons_zero, List.set_cons_succ]
                refine Ord.go_one (i := 10) (by kernel_rfl) (by kernel_rfl) ?_
                apply Ord.go_done1
                next => (simp only [List.getElem?_toArray, List.getElem?_cons_succ, List.getElem?_cons_zero]; rfl)
                next => rfl
                intro K hK
                refine wp_append_any _ _ _ _ rfl H0 3 i0 (.int .i64 0) 1 8 Try.underlying24 hi hz0 hz1 hz2 rfl (by decide) v2 (p1.length + 1) (p1.map (Value.int .i64) ++ [.int .i64 k]) rfl own2 H0 _ p2.length _ (p2.map (Value.int .i64)) rfl (RD2.out.below HB) (ints_oneCell' _) (by unfold maxLen; omega) (by omega) (hH0 ▸ HB.size) ?_
                intro v3 w3 own3 grow3 _
                have HB1 := HB.grown grow3 (hH0 ▸ HB.size) (fun q hq => (own2.lt q hq).1)
                refine hK.out _ _ HB1 (fun _ => ?_)
                clear HB grow3 own2
                have HB := HB1; clear HB1
                clear hK K
                try simp only [Act.put, List.setIfInBounds_toArray, List.set_cons_zero, List.set_cons_succ]
                refine Ord.go_tail ?_; simp only [List.drop_succ_cons, List.drop_zero]
                obtain ⟨g3, c3, rfl, _, _⟩ := own3.form (by omega)
                have FIN : w3.ownsRow w.heap.size 3 1 (.slice (some ⟨g3, 0, none⟩) (p1 ++ [(k : Int)] ++ p2).length c3) (p1 ++ [(k : Int)] ++ p2).length ((p1 ++ [(k : Int)] ++ p2).map (Value.int .i64)) := by
                  have e : (p1 ++ [(k : Int)] ++ p2).length = p1.length + 1 + p2.length := by simp; omega
                  rw [e]
                  have o := own_lower own3 HL
                  simpa using o
                have FB : Below w.heap.size w w3 := hb.trans (HB.mono HL)
                clear own3 HB
                go_wp2_with fail
                go_roundw
                case rel => exact ⟨k + 1, some ⟨g3, 0, none⟩, c3, p1 ++ [(k : Int)] ++ p2, by omega, by go_num, by simp <;> omega, Aid.hid (Du.Is.yes ISY.out HR.out H2.out HS.out), Aid.hid FIN, FB⟩
                case measure => simp [intOf]; omega
              ·
                apply Ord.go_done1
                next => (simp only [List.getElem?_toArray, List.getElem?_cons_succ, List.getElem?_cons_zero]; rfl)
                next => rfl
                intro K hK
                go_wp2_with fail
                have NB : Aid.Has (wd.alloc (.cells #[.int .i64 k] 3)) H0 [.int .i64 k] 3 := by rw [← hH0]; exact Aid.Has.new wd _ _
                refine hK.out _ _ (HB.alloc (hH0 ▸ HB.size) _) (fun _ => ?_)
                replace HB := HB.alloc (hH0 ▸ HB.size) (.cells #[.int .i64 k] 3)
                try simp only [hH0]
                generalize wd.alloc (.cells #[.int .i64 k] 3) = wdb at *
                clear hK K
                try simp only [Act.put, List.setIfInBounds_toArray, List.set_cons_zero, List.set_cons_succ]
                refine Ord.go_one (i := 3) (by kernel_rfl) (by kernel_rfl) ?_
                apply Ord.go_done1
                next => (simp only [List.getElem?_toArray, List.getElem?_cons_succ, List.getElem?_cons_zero]; rfl)
                next => rfl
                intro K hK
                refine wp_append_any _ _ _ _ rfl H0 3 i0 (.int .i64 0) 1 8 Try.underlying24 hi hz0 hz1 hz2 rfl (by decide) _ 0 [] rfl (World.ownsRow_nil _ _ _ _) H0 _ p1.length _ (p1.map (Value.int .i64)) rfl (RD1.out.below HB) (ints_oneCell' _) (by unfold maxLen; omega) (by omega) (hH0 ▸ HB.size) ?_
                intro v1 w1 own1 grow1 _
                have HB1 := HB.grown grow1 (hH0 ▸ HB.size) (fun q hq => by cases hq)
                have NB1 : Aid.Has w1 H0 [.int .i64 k] 3 := (grow1.block H0 NB.lt (fun h => by cases h)).trans NB
                simp only [Nat.zero_add, List.nil_append] at own1
                refine hK.out _ _ HB1 (fun _ => ?_)
                clear HB grow1 NB
                have HB := HB1; clear HB1
                have NB := NB1; clear NB1
                clear hK K
                try simp only [Act.put, List.setIfInBounds_toArray, List.set_cons_zero, List.set_cons_succ]
                refine Ord.go_one (i := 6) (by kernel_rfl) (by kernel_rfl) ?_
                apply Ord.go_done1
                next => (simp only [List.getElem?_toArray, List.getElem?_cons_succ, List.getElem?_cons_zero]; rfl)
                next => rfl
                intro K hK
                refine wp_append_own _ _ _ _ rfl H0 3 i0 (.int .i64 0) 1 8 Try.underlying24 hi hz0 hz1 hz2 rfl (by decide) v1 p1.length (p1.map (Value.int .i64)) rfl own1 ⟨H0, 0, none⟩ 1 1 [.int .i64 k] rfl rfl (fun j u hj => by match j, hj with | 0, hj => simp at hj; subst hj; simpa [Addr.add] using NB.cell 0 _ rfl) (by intro u hu; simp at hu; subst hu; rfl) (by unfold maxLen; omega) (by omega) (hH0 ▸ HB.size) ?_
                intro v2 w2' own2 grow2 _
                have HB1 := HB.grown grow2 (hH0 ▸ HB.size) (fun q hq => (own1.lt q hq).1)
                refine hK.out _ _ HB1 (fun _ => ?_)
                clear HB grow2 own1 NB
                have HB := HB1; clear HB1
                clear hK K
                try simp only [Act.put, List.setIfInBounds_toArray, List.set_cons_zero, List.set_cons_succ]
                refine Ord.go_one (i := 10) (by kernel_rfl) (by kernel_rfl) ?_
                apply Ord.go_done1
                next => (simp only [List.getElem?_toArray, List.getElem?_cons_succ, List.getElem?_cons_zero]; rfl)
                next => rfl
                intro K hK
                refine wp_append_any _ _ _ _ rfl H0 3 i0 (.int .i64 0) 1 8 Try.underlying24 hi hz0 hz1 hz2 rfl (by decide) v2 (p1.length + 1) (p1.map (Value.int .i64) ++ [.int .i64 k]) rfl own2 H0 _ p2.length _ (p2.map (Value.int .i64)) rfl (RD2.out.below HB) (ints_oneCell' _) (by unfold maxLen; omega) (by omega) (hH0 ▸ HB.size) ?_
                intro v3 w3 own3 grow3 _
                have HB1 := HB.grown grow3 (hH0 ▸ HB.size) (fun q hq => (own2.lt q hq).1)
                refine hK.out _ _ HB1 (fun _ => ?_)
                clear HB grow3 own2
                have HB := HB1; clear HB1
                clear hK K
                try simp only [Act.put, List.setIfInBounds_toArray, List.set_cons_zero, List.set_cons_succ]
                refine Ord.go_tail ?_; simp only [List.drop_succ_cons, List.drop_zero]
                obtain ⟨g3, c3, rfl, _, _⟩ := own3.form (by omega)
                have FIN : w3.ownsRow w.heap.size 3 1 (.slice (some ⟨g3, 0, none⟩) (p1 ++ [(k : Int)] ++ p2).length c3) (p1 ++ [(k : Int)] ++ p2).length ((p1 ++ [(k : Int)] ++ p2).map (Value.int .i64)) := by
                  have e : (p1 ++ [(k : Int)] ++ p2).length = p1.length + 1 + p2.length := by simp; omega
                  rw [e]
                  have o := own_lower own3 HL
                  simpa using o
                have FB : Below w.heap.size w w3 := hb.trans (HB.mono HL)
                clear own3 HB
                go_wp2_with fail
                go_roundw
                case rel => exact ⟨k + 1, some ⟨g3, 0, none⟩, c3, p1 ++ [(k : Int)] ++ p2, by omega, by go_num, by simp <;> omega, Aid.hid (Du.Is.yes ISY.out HR.out H2.out HS.out), Aid.hid FIN, FB⟩
                case measure => simp [intOf]; omega
    · obtain rfl : k = len := by omega
      go_wp2_with fail
      go_ret
      exact ⟨A, c, zs, rfl, IS.out, O.out, hb⟩
end Go.Proofs.Ytimojijbjmchkaa
