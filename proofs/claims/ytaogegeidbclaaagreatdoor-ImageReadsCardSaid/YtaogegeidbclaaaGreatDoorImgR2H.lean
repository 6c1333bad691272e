/- The document's Read, walked. -/
import Derived.Test.YtaogegeidbclaaaGreatDoorImgR2G
namespace Go.Proofs.YtaogegeidbclaaaGreatDoor
open Go.RowKit

set_option maxRecDepth 100000 in
set_option maxHeartbeats 8000000 in
theorem read2_is (B : Nat) (A : Option Addr) (c : Nat) (bs : List Int) (w : World) (hr : Reads w B 1 A bs.length (bs.map (Value.int .u8))) (hB : B ≤ w.heap.size) (hc : bs.length ≤ c) (hl : bs.length ≤ 100000000000000) (hy : ∀ y ∈ bs, 0 ≤ y ∧ y < 256) :
    Calls Tryz.prog 17 #[.slice A bs.length c] w fun e w' => Below w.heap.size w w' ∧ ReadP2 bs w.heap.size e w' := by
  obtain ⟨W, hW⟩ : ∃ W, (((w.alloc (.cells #[.slice none 0 0, .slice none 0 0, .slice none 0 0, .slice none 0 0, .string ⟨#[]⟩, .slice none 0 0, .slice none 0 0, .slice none 0 0, .slice none 0 0, .slice none 0 0, .int .i64 0, .int .i64 0] 29)).alloc (.cells #[.slice A bs.length c, .int .i64 0, .bool false] 97)).alloc (.cells #[.slice none 0 0, .slice none 0 0, .slice none 0 0, .slice none 0 0, .string ⟨#[]⟩, .slice none 0 0, .slice none 0 0, .slice none 0 0, .slice none 0 0, .slice none 0 0, .int .i64 0, .int .i64 0] 29)) = W := ⟨_, rfl⟩
  have hq0 : Aid.Has W w.heap.size [.slice none 0 0, .slice none 0 0, .slice none 0 0, .slice none 0 0, .string ⟨#[]⟩, .slice none 0 0, .slice none 0 0, .slice none 0 0, .slice none 0 0, .slice none 0 0, .int .i64 0, .int .i64 0] 29 := by subst hW; exact ((Aid.Has.new w [.slice none 0 0, .slice none 0 0, .slice none 0 0, .slice none 0 0, .string ⟨#[]⟩, .slice none 0 0, .slice none 0 0, .slice none 0 0, .slice none 0 0, .slice none 0 0, .int .i64 0, .int .i64 0] 29).alloc _).alloc _
  have hx0 : Aid.Has W (w.heap.size + 2) [.slice none 0 0, .slice none 0 0, .slice none 0 0, .slice none 0 0, .string ⟨#[]⟩, .slice none 0 0, .slice none 0 0, .slice none 0 0, .slice none 0 0, .slice none 0 0, .int .i64 0, .int .i64 0] 29 := by
    have h1 := Aid.Has.new ((w.alloc (.cells #[.slice none 0 0, .slice none 0 0, .slice none 0 0, .slice none 0 0, .string ⟨#[]⟩, .slice none 0 0, .slice none 0 0, .slice none 0 0, .slice none 0 0, .slice none 0 0, .int .i64 0, .int .i64 0] 29)).alloc (.cells #[.slice A bs.length c, .int .i64 0, .bool false] 97)) [.slice none 0 0, .slice none 0 0, .slice none 0 0, .slice none 0 0, .string ⟨#[]⟩, .slice none 0 0, .slice none 0 0, .slice none 0 0, .slice none 0 0, .slice none 0 0, .int .i64 0, .int .i64 0] 29
    simp only [World.size_alloc] at h1
    subst hW; exact h1
  have b0 : Below w.heap.size w W := by subst hW; exact (((Below.refl _ w).alloc (Nat.le_refl _) _).alloc (by simp) _).alloc (by simp; omega) _
  have sz0 : W.heap.size = w.heap.size + 3 := by subst hW; simp
  have i0 : Rd2.Is W 97 (w.heap.size + 1) ⟨bs, false⟩ := by
    have h1 := (Aid.Has.new (w.alloc (.cells #[.slice none 0 0, .slice none 0 0, .slice none 0 0, .slice none 0 0, .string ⟨#[]⟩, .slice none 0 0, .slice none 0 0, .slice none 0 0, .slice none 0 0, .slice none 0 0, .int .i64 0, .int .i64 0] 29)) [.slice A bs.length c, .int .i64 0, .bool false] 97).alloc (.cells #[.slice none 0 0, .slice none 0 0, .slice none 0 0, .slice none 0 0, .string ⟨#[]⟩, .slice none 0 0, .slice none 0 0, .slice none 0 0, .slice none 0 0, .slice none 0 0, .int .i64 0, .int .i64 0] 29)
    rw [World.size_alloc] at h1
    exact ⟨A, c, bs, 0, by subst hW; exact h1, Nat.zero_le _, rfl, hc, hl, (hr.below (b0.mono hB)).more (by omega), hy⟩
  have HC := Aid.hid (text2_is (w.heap.size + 1) ⟨bs, false⟩ W i0)
  have Q0 := Aid.hid hq0
  have X0 := Aid.hid hx0
  have B0 := Aid.hid b0
  have HR := Aid.hid hr
  have HY := Aid.hid hy
  have SZ0 := Aid.hid sz0
  clear hq0 hx0 b0 i0 hr hy sz0
  subst hW
  go_enter Tryz.func17, Tryz.ntmps17
  try simp only [List.append_eq, List.cons_append, List.nil_append]
  go_wp2_with fail
  go_at_call 46
  refine HC.out.mono ?_
  rintro e wf0 ⟨t, s0, rfl, _, h2, h3, h4⟩
  clear HC
  have BH := Aid.hid (Behind.of h4).2
  have IA := Aid.hid h2
  have S0 := Aid.hid (KeepQ.of (q := (w.heap.size + 2)) h3)
  have BX := Aid.hid (h3.has (by omega : (w.heap.size + 2) ≠ (w.heap.size + 1)) X0.out)
  have SZ : Hid (w.heap.size + 3 ≤ wf0.heap.size) := Aid.hid (by rw [← SZ0.out]; exact h3.size)
  clear h2 h3 h4 X0
  have HC := Aid.hid (many2_is (w.heap.size + 1) s0 wf0 IA.out)
  go_wp2_with fail
  go_at_call 47
  refine HC.out.mono ?_
  rintro e wm1 ⟨n, sm, rfl, hn, h2, h3, h4, _⟩
  clear HC
  have I0 := Aid.hid (show BoxInv Pc.fc Fc.eqb (fun x => Txts x.l) Fc.At (fun v => [.slice v.A v.l.length v.c]) 52 1 97 (w.heap.size + 1) (w.heap.size + 2) s0 wf0 n 0 none 0 [] wm1 from BoxInv.startM (fun u => by unfold Pc.fc Pc.texts; rw [Pc.list, Pc.len]; exact Nat.le_trans (by decide : 1 ≤ 4) (Nat.le_add_right _ _)) h2 (KeepQ.of h3) h4)
  have X0 := Aid.hid (h3.has (by omega : (w.heap.size + 2) ≠ (w.heap.size + 1)) BX.out)
  clear h2 h3 h4 IA
  go_upto_block 0 with fail
  go_cut [] from 6 (fun wx => Hid (Filled Pc.fc Fc.eqb (fun x => Txts x.l) LFcs 97 (w.heap.size + 1) (w.heap.size + 2) s0 wf0 (fun A n c => [.slice A n c, .slice none 0 0, .slice none 0 0, .slice none 0 0, .string ⟨#[]⟩, .slice none 0 0, .slice none 0 0, .slice none 0 0, .slice none 0 0, .slice none 0 0, .int .i64 0, .int .i64 0]) 29 wx))
  case first =>
    clear BX
    obtain ⟨i0, hi, hz0, hz1, hz2⟩ := info_parts infoR_fc
    go_wp2_with fail
    go_loopw [7] (fun vi wr => ∃ (k : Nat) (A : Option Addr) (c : Nat) (l : List Fc), vi = .int .i64 k ∧ k ≤ n ∧ Hid (BoxInv Pc.fc Fc.eqb (fun x => Txts x.l) Fc.At (fun v => [.slice v.A v.l.length v.c]) 52 1 97 (w.heap.size + 1) (w.heap.size + 2) s0 wf0 n k A c l wr) ∧ Hid (Aid.Has wr (w.heap.size + 2) [.slice A l.length c, .slice none 0 0, .slice none 0 0, .slice none 0 0, .string ⟨#[]⟩, .slice none 0 0, .slice none 0 0, .slice none 0 0, .slice none 0 0, .slice none 0 0, .int .i64 0, .int .i64 0] 29)) (fun vi _ => n - (intOf vi).toNat)
    case atStart => exact ⟨0, none, 0, [], rfl, Nat.zero_le _, I0, X0⟩
    case round =>
      clear I0 X0
      obtain ⟨k, A, c, l, rfl, hk, I, X⟩ := hrel
      obtain ⟨hl, HO, HE, HK, sk, hI, HT⟩ := I.out
      have hrow := fresh_rows (sz := 1) (rows := l.map (fun v => [.slice v.A v.l.length v.c])) (by intro r hr; obtain ⟨x, _, rfl⟩ := List.mem_map.1 hr; rfl) (by rw [List.length_map]; exact HO)
      have hLim : l.length ≤ Lim := by show _ ≤ 9223372036854775807; omega
      have hqs := SZ.out
      have PL : LFcs (fresh wr wf0.heap.size) wr.heap.size A l := ⟨hLim, hrow, fun x hx => Fc.At.kc (HE x hx).2 Kc.row_out (Nat.le_refl _)⟩
      have FIN : Hid (Got (fun us => Pc.list Pc.fc us) (fun us => eqAll Fc.eqb l us = true) s0 sk → Hid (Filled Pc.fc Fc.eqb (fun x => Txts x.l) LFcs 97 (w.heap.size + 1) (w.heap.size + 2) s0 wf0 (fun A n c => [.slice A n c, .slice none 0 0, .slice none 0 0, .slice none 0 0, .string ⟨#[]⟩, .slice none 0 0, .slice none 0 0, .slice none 0 0, .slice none 0 0, .slice none 0 0, .int .i64 0, .int .i64 0]) 29 wr)) := Aid.hid fun hG => Aid.hid ⟨A, c, l, sk, hI, X.out, by omega, fun x hx => (HE x hx).1, PL.kc (kc_q (KeepQ.refl (w.heap.size + 1) (w.heap.size + 2) wr) (by omega) (by omega) (by omega)) (Nat.le_refl _), HK, hG⟩
      clear hrow PL hLim
      by_cases hlt : k < n
      · cases hx : sk.x
        · have HLL := Aid.hid hl
          have hO := Aid.hid HO; have hE := Aid.hid HE; have hK0 := Aid.hid HK; have hT := Aid.hid HT
          have x5 := (show Aid.Has wr.drew (w.heap.size + 2) [.slice A l.length c, .slice none 0 0, .slice none 0 0, .slice none 0 0, .string ⟨#[]⟩, .slice none 0 0, .slice none 0 0, .slice none 0 0, .slice none 0 0, .slice none 0 0, .int .i64 0, .int .i64 0] 29 from X.out).cell 0 _ rfl
          have HXd := Aid.hid (show Aid.Has wr.drew (w.heap.size + 2) [.slice A l.length c, .slice none 0 0, .slice none 0 0, .slice none 0 0, .string ⟨#[]⟩, .slice none 0 0, .slice none 0 0, .slice none 0 0, .slice none 0 0, .slice none 0 0, .int .i64 0, .int .i64 0] 29 from X.out)
          have KD := Aid.hid (Keep.of_below (p := (w.heap.size + 1)) ((Below.refl wr.heap.size wr).drew))
          have HC := Aid.hid (fc2_el (w.heap.size + 1) sk wr.drew hI.drew)
          obtain ⟨B0, d0, bs0, a0, q0, _⟩ := hI
          have z2 := q0.cell 2 _ rfl
          rw [hx] at z2
          clear q0 hx I X hl HO HE HK HT FIN
          go_wp2_with fail
          clear z2
          refine Ord.wp_region_walk (fun w' : World => w'.cell? ⟨(w.heap.size + 2), 0, none⟩ = some (.slice A l.length c)) 6 [(true, 0), (true, 1), (true, 2), (false, 3), (false, 4), (false, 5)] (by kernel_rfl) (by kernel_rfl) (fun _ _ d _ _ h => by cases d <;> exact h) (x5) ?_
          apply Ord.walk_light
          next => (simp only [List.getElem?_toArray, List.getElem?_cons_zero]; rfl)
          next => rfl
          next => (intro w' hSw; go_simp; first | done | with_reducible rfl)
          simp only [Act.put, List.setIfInBounds_toArray, List.set_cons_zero, List.set_cons_succ]
          apply Ord.walk_light
          next => (simp only [List.getElem?_toArray, List.getElem?_cons_succ, List.getElem?_cons_zero]; rfl)
          next => rfl
          next => (intro w' hSw; go_simp; first | done | with_reducible rfl)
          simp only [Act.put, List.setIfInBounds_toArray, List.set_cons_zero, List.set_cons_succ]
          apply Ord.walk_light
          next => (simp only [List.getElem?_toArray, List.getElem?_cons_succ, List.getElem?_cons_zero]; rfl)
          next => rfl
          next => (intro w' hSw; go_simp; first | done | with_reducible rfl)
          simp only [Act.put, List.setIfInBounds_toArray, List.set_cons_zero, List.set_cons_succ]
          apply Ord.walk_heavy
          next => (simp only [List.getElem?_toArray, List.getElem?_cons_succ, List.getElem?_cons_zero]; rfl)
          next => rfl
          intro K hK
          go_wp2_with fail
          refine HC.out.mono ?_; rintro e w2 ⟨v, s', rfl, g1, g2, g3, g4, g5⟩; dsimp only
          refine hK.out _ _ ((g4.has (by omega : (w.heap.size + 2) ≠ (w.heap.size + 1)) HXd.out).cell 0 _ rfl) (fun hHeld => ?_)
          clear hHeld x5 HC
          have G1 := Aid.hid g1; have G2 := Aid.hid g2; have G3 := Aid.hid g3; have G4 := Aid.hid (KD.out.trans g4); have G5 := Aid.hid g5
          have X2 := g4.has (by omega : (w.heap.size + 2) ≠ (w.heap.size + 1)) HXd.out
          clear g1 g2 g3 g4 g5
          have k3 : Below w2.heap.size w2 (w2.alloc (.cells #[.slice v.A v.l.length v.c] 52)) := (Below.refl _ _).alloc (Nat.le_refl _) _
          have hpd : (w.heap.size + 1) < wf0.heap.size := by omega
          have ho3 : (w2.alloc (.cells #[.slice v.A v.l.length v.c] 52)).ownsRow wf0.heap.size 52 1 (.slice A l.length c) l.length ((l.map (fun v => [.slice v.A v.l.length v.c])).flatten) := own_keeps (G4.out.own hpd hO.out) k3
          have hnew := Aid.Has.new w2 [.slice v.A v.l.length v.c] 52
          have hr : Reads (w2.alloc (.cells #[.slice v.A v.l.length v.c] 52)) (w2.alloc (.cells #[.slice v.A v.l.length v.c] 52)).heap.size 1 (some ⟨w2.heap.size, 0, none⟩) 1 [.slice v.A v.l.length v.c] := ⟨by simp, fun _ => ⟨⟨w2.heap.size, 0, none⟩, rfl, by rw [World.size_alloc]; exact Nat.lt_succ_self _, fun j u hj => by
            rw [Go.WideShapes.add_plain, Nat.zero_add]
            exact hnew.cell j u hj⟩⟩
          have hbs : wf0.heap.size ≤ (w2.alloc (.cells #[.slice v.A v.l.length v.c] 52)).heap.size := Nat.le_trans hK0.out.size (Nat.le_trans G4.out.size k3.size)
          have hll : l.length ≤ 10000 := by have := HLL.out; omega
          have XX := Aid.hid (X2.below k3 X2.lt)
          have QS : (w.heap.size + 2) < (w2.alloc (.cells #[.slice v.A v.l.length v.c] 52)).heap.size := by have := hbs; omega
          have K3 := Aid.hid k3
          clear k3 hnew X2
          have hqf : (w.heap.size + 2) < wf0.heap.size := by omega
          clear hK K
          try simp only [Act.put, List.setIfInBounds_toArray, List.set_cons_zero, List.set_cons_succ]
          apply Ord.walk_heavy
          next => (simp only [List.getElem?_toArray, List.getElem?_cons_succ, List.getElem?_cons_zero]; rfl)
          next => rfl
          intro K hK
          go_wp2_with fail
          refine hK.out _ _ (XX.out.cell 0 _ rfl) (fun hHeld => ?_)
          clear hHeld
          clear hK K
          try simp only [Act.put, List.setIfInBounds_toArray, List.set_cons_zero, List.set_cons_succ]
          apply Ord.walk_heavy
          next => (simp only [List.getElem?_toArray, List.getElem?_cons_succ, List.getElem?_cons_zero]; rfl)
          next => rfl
          intro K hK
          refine wp_append_any _ _ _ 22 rfl wf0.heap.size 52 i0 (.slice none 0 0) 1 24 Tryz.underlying22 hi hz0 hz1 hz2 rfl (by decide) (.slice A l.length c) _ _ rfl ho3 _ (some ⟨w2.heap.size, 0, none⟩) 1 1 [.slice v.A v.l.length v.c] rfl hr ?d1 ?d2 ?d3 hbs ?_
          case d1 => intro u hu; simp at hu; subst hu; rfl
          case d2 => unfold maxLen; omega
          case d3 => omega
          intro vz wz ho9 hg9 hob
          have X9 : Aid.Has wz (w.heap.size + 2) [.slice A l.length c, .slice none 0 0, .slice none 0 0, .slice none 0 0, .string ⟨#[]⟩, .slice none 0 0, .slice none 0 0, .slice none 0 0, .slice none 0 0, .slice none 0 0, .int .i64 0, .int .i64 0] 29 := (hg9.block (w.heap.size + 2) QS (fun e => by have := (hO.out.lt (w.heap.size + 2) e.symm).1; omega)).trans XX.out
          obtain ⟨A2, c2, rfl, J⟩ := BoxInv.next (S := (fun x => Txts x.l)) (At := Fc.At) (cells := (fun v => [.slice v.A v.l.length v.c])) (v := v) (Fc.At.kc) HLL.out hO.out hE.out hK0.out hT.out hpd hlt G1.out G2.out G3.out G4.out G5.out K3.out ho9 hg9 (by simpa only [World.size_alloc] using hob)
          have HJ := Aid.hid (BoxInv.set (At := Fc.At) (Fc.At.kc) J (by omega) hqf 0 (.slice A2 (l.length + 1) c2))
          have Y5 := X9.cell 0 _ rfl
          have F5 := X9.frozen 0
          have X10 := Aid.hid (X9.set 0 (.slice A2 (l.length + 1) c2))
          have LQ : (l ++ [v]).length = l.length + 1 := by simp
          refine hK.out _ _ Y5 (fun hHeld => ?_)
          clear hHeld
          clear J ho9 hg9 hob ho3 hr hbs hO hE hK0 hT G1 G2 G3 G4 G5 K3 HLL XX HXd KD X9
          clear hK K
          try simp only [Act.put, List.setIfInBounds_toArray, List.set_cons_zero, List.set_cons_succ]
          refine Ord.walk_tail ?_; simp only [List.drop_succ_cons, List.drop_zero]
          go_wp2_with fail
          go_roundw
          case rel => exact ⟨k + 1, A2, c2, l ++ [v], by go_num, by omega, HJ, by rw [LQ]; exact X10⟩
          case measure => simp [intOf]; omega
        · have FE := Aid.hid (FIN.out (HT.ended hx))
          obtain ⟨B0, d0, bs0, a0, q0, _⟩ := hI
          have z2 := q0.cell 2 _ rfl
          rw [hx] at z2
          clear I X hl HO HE HK HT q0 FIN hx hqs
          go_wp2_with fail
          go_meet
          exact FE.out
      · have FE := Aid.hid (FIN.out (HT.done (by omega)))
        clear I X hl HO HE HK HT hI FIN hqs
        go_wp2_with fail
        go_meet
        exact FE.out
  rename World => wf1
  have SB := SZ
  clear I0 X0 BX SZ
  obtain ⟨A1, c1, v1, s1, q1, q2, q3, q4, q5, q6, q7⟩ := hcut.out
  have IA := Aid.hid q1; have BX := Aid.hid q2; have N1 := Aid.hid q3; have D1 := Aid.hid q4; have P1 := Aid.hid q5; have S1 := Aid.hid q6; have G1 := Aid.hid q7
  have SZ : Hid (w.heap.size + 3 ≤ wf1.heap.size) := Aid.hid (Nat.le_trans SB.out q6.size)
  clear q1 q2 q3 q4 q5 q6 q7 SB hcut
  have HC := Aid.hid (many2_is (w.heap.size + 1) s1 wf1 IA.out)
  go_wp2_with fail
  go_at_call 47
  refine HC.out.mono ?_
  rintro e wm2 ⟨n, sm, rfl, hn, h2, h3, h4, _⟩
  clear HC
  have I0 := Aid.hid (show BoxInv Pc.desc Desc.eqb Desc.Small Desc.At (fun v => [.int .i64 v.base, .string v.fields, .slice v.iA v.init.length v.ic, .slice v.vA v.vtab.length v.vc, .slice v.sA v.sigs.length v.sc, .slice v.tA v.tabs.length v.tc]) 55 6 97 (w.heap.size + 1) (w.heap.size + 2) s1 wf1 n 0 none 0 [] wm2 from BoxInv.startM (fun u => by unfold Pc.desc; simp only [Pc.len, Pc.num_len]; omega) h2 (KeepQ.of h3) h4)
  have X0 := Aid.hid (h3.has (by omega : (w.heap.size + 2) ≠ (w.heap.size + 1)) BX.out)
  clear h2 h3 h4 IA
  go_upto_block 2 with fail
  go_cut [] from 6 (fun wx => Hid (Filled Pc.desc Desc.eqb Desc.Small LDescs 97 (w.heap.size + 1) (w.heap.size + 2) s1 wf1 (fun A n c => [.slice A1 v1.length c1, .slice A n c, .slice none 0 0, .slice none 0 0, .string ⟨#[]⟩, .slice none 0 0, .slice none 0 0, .slice none 0 0, .slice none 0 0, .slice none 0 0, .int .i64 0, .int .i64 0]) 29 wx))
  case first =>
    clear BX
    obtain ⟨i0, hi, hz0, hz1, hz2⟩ := info_parts infoR_desc
    go_wp2_with fail
    go_loopw [8] (fun vi wr => ∃ (k : Nat) (A : Option Addr) (c : Nat) (l : List Desc), vi = .int .i64 k ∧ k ≤ n ∧ Hid (BoxInv Pc.desc Desc.eqb Desc.Small Desc.At (fun v => [.int .i64 v.base, .string v.fields, .slice v.iA v.init.length v.ic, .slice v.vA v.vtab.length v.vc, .slice v.sA v.sigs.length v.sc, .slice v.tA v.tabs.length v.tc]) 55 6 97 (w.heap.size + 1) (w.heap.size + 2) s1 wf1 n k A c l wr) ∧ Hid (Aid.Has wr (w.heap.size + 2) [.slice A1 v1.length c1, .slice A l.length c, .slice none 0 0, .slice none 0 0, .string ⟨#[]⟩, .slice none 0 0, .slice none 0 0, .slice none 0 0, .slice none 0 0, .slice none 0 0, .int .i64 0, .int .i64 0] 29)) (fun vi _ => n - (intOf vi).toNat)
    case atStart => exact ⟨0, none, 0, [], rfl, Nat.zero_le _, I0, X0⟩
    case round =>
      clear I0 X0
      obtain ⟨k, A, c, l, rfl, hk, I, X⟩ := hrel
      obtain ⟨hl, HO, HE, HK, sk, hI, HT⟩ := I.out
      have hrow := fresh_rows (sz := 6) (rows := l.map (fun v => [.int .i64 v.base, .string v.fields, .slice v.iA v.init.length v.ic, .slice v.vA v.vtab.length v.vc, .slice v.sA v.sigs.length v.sc, .slice v.tA v.tabs.length v.tc])) (by intro r hr; obtain ⟨x, _, rfl⟩ := List.mem_map.1 hr; rfl) (by rw [List.length_map]; exact HO)
      have hLim : l.length ≤ Lim := by show _ ≤ 9223372036854775807; omega
      have hqs := SZ.out
      have PL : LDescs (fresh wr wf1.heap.size) wr.heap.size A l := ⟨hLim, hrow, fun x hx => Desc.At.kc (HE x hx).2 Kc.row_out (Nat.le_refl _)⟩
      have FIN : Hid (Got (fun us => Pc.list Pc.desc us) (fun us => eqAll Desc.eqb l us = true) s1 sk → Hid (Filled Pc.desc Desc.eqb Desc.Small LDescs 97 (w.heap.size + 1) (w.heap.size + 2) s1 wf1 (fun A n c => [.slice A1 v1.length c1, .slice A n c, .slice none 0 0, .slice none 0 0, .string ⟨#[]⟩, .slice none 0 0, .slice none 0 0, .slice none 0 0, .slice none 0 0, .slice none 0 0, .int .i64 0, .int .i64 0]) 29 wr)) := Aid.hid fun hG => Aid.hid ⟨A, c, l, sk, hI, X.out, by omega, fun x hx => (HE x hx).1, PL.kc (kc_q (KeepQ.refl (w.heap.size + 1) (w.heap.size + 2) wr) (by omega) (by omega) (by omega)) (Nat.le_refl _), HK, hG⟩
      clear hrow PL hLim
      by_cases hlt : k < n
      · cases hx : sk.x
        · have HLL := Aid.hid hl
          have hO := Aid.hid HO; have hE := Aid.hid HE; have hK0 := Aid.hid HK; have hT := Aid.hid HT
          have x5 := (show Aid.Has wr.drew (w.heap.size + 2) [.slice A1 v1.length c1, .slice A l.length c, .slice none 0 0, .slice none 0 0, .string ⟨#[]⟩, .slice none 0 0, .slice none 0 0, .slice none 0 0, .slice none 0 0, .slice none 0 0, .int .i64 0, .int .i64 0] 29 from X.out).cell 1 _ rfl
          have HXd := Aid.hid (show Aid.Has wr.drew (w.heap.size + 2) [.slice A1 v1.length c1, .slice A l.length c, .slice none 0 0, .slice none 0 0, .string ⟨#[]⟩, .slice none 0 0, .slice none 0 0, .slice none 0 0, .slice none 0 0, .slice none 0 0, .int .i64 0, .int .i64 0] 29 from X.out)
          have KD := Aid.hid (Keep.of_below (p := (w.heap.size + 1)) ((Below.refl wr.heap.size wr).drew))
          have HC := Aid.hid (desc2_el (w.heap.size + 1) sk wr.drew hI.drew)
          obtain ⟨B0, d0, bs0, a0, q0, _⟩ := hI
          have z2 := q0.cell 2 _ rfl
          rw [hx] at z2
          clear q0 hx I X hl HO HE HK HT FIN
          go_wp2_with fail
          clear z2
          refine Ord.wp_region_walk (fun w' : World => w'.cell? ⟨(w.heap.size + 2), 1, none⟩ = some (.slice A l.length c)) 6 [(true, 0), (true, 1), (true, 2), (false, 3), (false, 4), (false, 5)] (by kernel_rfl) (by kernel_rfl) (fun _ _ d _ _ h => by cases d <;> exact h) (x5) ?_
          apply Ord.walk_light
          next => (simp only [List.getElem?_toArray, List.getElem?_cons_zero]; rfl)
          next => rfl
          next => (intro w' hSw; go_simp; first | done | with_reducible rfl)
          simp only [Act.put, List.setIfInBounds_toArray, List.set_cons_zero, List.set_cons_succ]
          apply Ord.walk_light
          next => (simp only [List.getElem?_toArray, List.getElem?_cons_succ, List.getElem?_cons_zero]; rfl)
          next => rfl
          next => (intro w' hSw; go_simp; first | done | with_reducible rfl)
          simp only [Act.put, List.setIfInBounds_toArray, List.set_cons_zero, List.set_cons_succ]
          apply Ord.walk_light
          next => (simp only [List.getElem?_toArray, List.getElem?_cons_succ, List.getElem?_cons_zero]; rfl)
          next => rfl
          next => (intro w' hSw; go_simp; first | done | with_reducible rfl)
          simp only [Act.put, List.setIfInBounds_toArray, List.set_cons_zero, List.set_cons_succ]
          apply Ord.walk_heavy
          next => (simp only [List.getElem?_toArray, List.getElem?_cons_succ, List.getElem?_cons_zero]; rfl)
          next => rfl
          intro K hK
          go_wp2_with fail
          refine HC.out.mono ?_; rintro e w2 ⟨v, s', rfl, g1, g2, g3, g4, g5⟩; dsimp only
          refine hK.out _ _ ((g4.has (by omega : (w.heap.size + 2) ≠ (w.heap.size + 1)) HXd.out).cell 1 _ rfl) (fun hHeld => ?_)
          clear hHeld x5 HC
          have G1 := Aid.hid g1; have G2 := Aid.hid g2; have G3 := Aid.hid g3; have G4 := Aid.hid (KD.out.trans g4); have G5 := Aid.hid g5
          have X2 := g4.has (by omega : (w.heap.size + 2) ≠ (w.heap.size + 1)) HXd.out
          clear g1 g2 g3 g4 g5
          have k3 : Below w2.heap.size w2 (w2.alloc (.cells #[.int .i64 v.base, .string v.fields, .slice v.iA v.init.length v.ic, .slice v.vA v.vtab.length v.vc, .slice v.sA v.sigs.length v.sc, .slice v.tA v.tabs.length v.tc] 55)) := (Below.refl _ _).alloc (Nat.le_refl _) _
          have hpd : (w.heap.size + 1) < wf1.heap.size := by omega
          have ho3 : (w2.alloc (.cells #[.int .i64 v.base, .string v.fields, .slice v.iA v.init.length v.ic, .slice v.vA v.vtab.length v.vc, .slice v.sA v.sigs.length v.sc, .slice v.tA v.tabs.length v.tc] 55)).ownsRow wf1.heap.size 55 6 (.slice A l.length c) l.length ((l.map (fun v => [.int .i64 v.base, .string v.fields, .slice v.iA v.init.length v.ic, .slice v.vA v.vtab.length v.vc, .slice v.sA v.sigs.length v.sc, .slice v.tA v.tabs.length v.tc])).flatten) := own_keeps (G4.out.own hpd hO.out) k3
          have hnew := Aid.Has.new w2 [.int .i64 v.base, .string v.fields, .slice v.iA v.init.length v.ic, .slice v.vA v.vtab.length v.vc, .slice v.sA v.sigs.length v.sc, .slice v.tA v.tabs.length v.tc] 55
          have hr : Reads (w2.alloc (.cells #[.int .i64 v.base, .string v.fields, .slice v.iA v.init.length v.ic, .slice v.vA v.vtab.length v.vc, .slice v.sA v.sigs.length v.sc, .slice v.tA v.tabs.length v.tc] 55)) (w2.alloc (.cells #[.int .i64 v.base, .string v.fields, .slice v.iA v.init.length v.ic, .slice v.vA v.vtab.length v.vc, .slice v.sA v.sigs.length v.sc, .slice v.tA v.tabs.length v.tc] 55)).heap.size 6 (some ⟨w2.heap.size, 0, none⟩) 1 [.int .i64 v.base, .string v.fields, .slice v.iA v.init.length v.ic, .slice v.vA v.vtab.length v.vc, .slice v.sA v.sigs.length v.sc, .slice v.tA v.tabs.length v.tc] := ⟨by simp, fun _ => ⟨⟨w2.heap.size, 0, none⟩, rfl, by rw [World.size_alloc]; exact Nat.lt_succ_self _, fun j u hj => by
            rw [Go.WideShapes.add_plain, Nat.zero_add]
            exact hnew.cell j u hj⟩⟩
          have hbs : wf1.heap.size ≤ (w2.alloc (.cells #[.int .i64 v.base, .string v.fields, .slice v.iA v.init.length v.ic, .slice v.vA v.vtab.length v.vc, .slice v.sA v.sigs.length v.sc, .slice v.tA v.tabs.length v.tc] 55)).heap.size := Nat.le_trans hK0.out.size (Nat.le_trans G4.out.size k3.size)
          have hll : l.length ≤ 10000 := by have := HLL.out; omega
          have XX := Aid.hid (X2.below k3 X2.lt)
          have QS : (w.heap.size + 2) < (w2.alloc (.cells #[.int .i64 v.base, .string v.fields, .slice v.iA v.init.length v.ic, .slice v.vA v.vtab.length v.vc, .slice v.sA v.sigs.length v.sc, .slice v.tA v.tabs.length v.tc] 55)).heap.size := by have := hbs; omega
          have K3 := Aid.hid k3
          clear k3 hnew X2
          have hqf : (w.heap.size + 2) < wf1.heap.size := by omega
          clear hK K
          try simp only [Act.put, List.setIfInBounds_toArray, List.set_cons_zero, List.set_cons_succ]
          apply Ord.walk_heavy
          next => (simp only [List.getElem?_toArray, List.getElem?_cons_succ, List.getElem?_cons_zero]; rfl)
          next => rfl
          intro K hK
          go_wp2_with fail
          refine hK.out _ _ (XX.out.cell 1 _ rfl) (fun hHeld => ?_)
          clear hHeld
          clear hK K
          try simp only [Act.put, List.setIfInBounds_toArray, List.set_cons_zero, List.set_cons_succ]
          apply Ord.walk_heavy
          next => (simp only [List.getElem?_toArray, List.getElem?_cons_succ, List.getElem?_cons_zero]; rfl)
          next => rfl
          intro K hK
          refine wp_append_any _ _ _ 23 rfl wf1.heap.size 55 i0 (.agg #[.int .i64 0, .string ⟨#[]⟩, .slice none 0 0, .slice none 0 0, .slice none 0 0, .slice none 0 0]) 6 120 Tryz.underlying23 hi hz0 hz1 hz2 rfl (by decide) (.slice A l.length c) _ _ rfl ho3 _ (some ⟨w2.heap.size, 0, none⟩) 1 1 [.int .i64 v.base, .string v.fields, .slice v.iA v.init.length v.ic, .slice v.vA v.vtab.length v.vc, .slice v.sA v.sigs.length v.sc, .slice v.tA v.tabs.length v.tc] rfl hr ?d1 ?d2 ?d3 hbs ?_
          case d1 => intro u hu; simp at hu; rcases hu with rfl | rfl | rfl | rfl | rfl | rfl <;> rfl
          case d2 => unfold maxLen; omega
          case d3 => omega
          intro vz wz ho9 hg9 hob
          have X9 : Aid.Has wz (w.heap.size + 2) [.slice A1 v1.length c1, .slice A l.length c, .slice none 0 0, .slice none 0 0, .string ⟨#[]⟩, .slice none 0 0, .slice none 0 0, .slice none 0 0, .slice none 0 0, .slice none 0 0, .int .i64 0, .int .i64 0] 29 := (hg9.block (w.heap.size + 2) QS (fun e => by have := (hO.out.lt (w.heap.size + 2) e.symm).1; omega)).trans XX.out
          obtain ⟨A2, c2, rfl, J⟩ := BoxInv.next (S := Desc.Small) (At := Desc.At) (cells := (fun v => [.int .i64 v.base, .string v.fields, .slice v.iA v.init.length v.ic, .slice v.vA v.vtab.length v.vc, .slice v.sA v.sigs.length v.sc, .slice v.tA v.tabs.length v.tc])) (v := v) (Desc.At.kc) HLL.out hO.out hE.out hK0.out hT.out hpd hlt G1.out G2.out G3.out G4.out G5.out K3.out ho9 hg9 (by simpa only [World.size_alloc] using hob)
          have HJ := Aid.hid (BoxInv.set (At := Desc.At) (Desc.At.kc) J (by omega) hqf 1 (.slice A2 (l.length + 1) c2))
          have Y5 := X9.cell 1 _ rfl
          have F5 := X9.frozen 1
          have X10 := Aid.hid (X9.set 1 (.slice A2 (l.length + 1) c2))
          have LQ : (l ++ [v]).length = l.length + 1 := by simp
          refine hK.out _ _ Y5 (fun hHeld => ?_)
          clear hHeld
          clear J ho9 hg9 hob ho3 hr hbs hO hE hK0 hT G1 G2 G3 G4 G5 K3 HLL XX HXd KD X9
          clear hK K
          try simp only [Act.put, List.setIfInBounds_toArray, List.set_cons_zero, List.set_cons_succ]
          refine Ord.walk_tail ?_; simp only [List.drop_succ_cons, List.drop_zero]
          go_wp2_with fail
          go_roundw
          case rel => exact ⟨k + 1, A2, c2, l ++ [v], by go_num, by omega, HJ, by rw [LQ]; exact X10⟩
          case measure => simp [intOf]; omega
        · have FE := Aid.hid (FIN.out (HT.ended hx))
          obtain ⟨B0, d0, bs0, a0, q0, _⟩ := hI
          have z2 := q0.cell 2 _ rfl
          rw [hx] at z2
          clear I X hl HO HE HK HT q0 FIN hx hqs
          go_wp2_with fail
          go_meet
          exact FE.out
      · have FE := Aid.hid (FIN.out (HT.done (by omega)))
        clear I X hl HO HE HK HT hI FIN hqs
        go_wp2_with fail
        go_meet
        exact FE.out
  rename World => wf2
  have SB := SZ
  clear I0 X0 BX SZ
  obtain ⟨A2, c2, v2, s2, q1, q2, q3, q4, q5, q6, q7⟩ := hcut.out
  have IA := Aid.hid q1; have BX := Aid.hid q2; have N2 := Aid.hid q3; have D2 := Aid.hid q4; have P2 := Aid.hid q5; have S2 := Aid.hid q6; have G2 := Aid.hid q7
  have SZ : Hid (w.heap.size + 3 ≤ wf2.heap.size) := Aid.hid (Nat.le_trans SB.out q6.size)
  clear q1 q2 q3 q4 q5 q6 q7 SB hcut
  have HC := Aid.hid (many2_is (w.heap.size + 1) s2 wf2 IA.out)
  go_wp2_with fail
  go_at_call 47
  refine HC.out.mono ?_
  rintro e wm3 ⟨n, sm, rfl, hn, h2, h3, h4, _⟩
  clear HC
  have I0 := Aid.hid (show BoxInv Pc.cod Cod.eqb Cod.Small Cod.At (fun v => [.int .i64 v.cls, .string v.params, .string v.locals, .bool v.ret, .int .i64 v.stack, .slice v.oA v.ops.length v.oc]) 60 6 97 (w.heap.size + 1) (w.heap.size + 2) s2 wf2 n 0 none 0 [] wm3 from BoxInv.startM (fun u => by unfold Pc.cod; simp only [Pc.len, Pc.num_len]; omega) h2 (KeepQ.of h3) h4)
  have X0 := Aid.hid (h3.has (by omega : (w.heap.size + 2) ≠ (w.heap.size + 1)) BX.out)
  clear h2 h3 h4 IA
  go_upto_block 4 with fail
  go_cut [] from 6 (fun wx => Hid (Filled Pc.cod Cod.eqb Cod.Small LCods 97 (w.heap.size + 1) (w.heap.size + 2) s2 wf2 (fun A n c => [.slice A1 v1.length c1, .slice A2 v2.length c2, .slice A n c, .slice none 0 0, .string ⟨#[]⟩, .slice none 0 0, .slice none 0 0, .slice none 0 0, .slice none 0 0, .slice none 0 0, .int .i64 0, .int .i64 0]) 29 wx))
  case first =>
    clear BX
    obtain ⟨i0, hi, hz0, hz1, hz2⟩ := info_parts infoR_cod
    go_wp2_with fail
    go_loopw [9] (fun vi wr => ∃ (k : Nat) (A : Option Addr) (c : Nat) (l : List Cod), vi = .int .i64 k ∧ k ≤ n ∧ Hid (BoxInv Pc.cod Cod.eqb Cod.Small Cod.At (fun v => [.int .i64 v.cls, .string v.params, .string v.locals, .bool v.ret, .int .i64 v.stack, .slice v.oA v.ops.length v.oc]) 60 6 97 (w.heap.size + 1) (w.heap.size + 2) s2 wf2 n k A c l wr) ∧ Hid (Aid.Has wr (w.heap.size + 2) [.slice A1 v1.length c1, .slice A2 v2.length c2, .slice A l.length c, .slice none 0 0, .string ⟨#[]⟩, .slice none 0 0, .slice none 0 0, .slice none 0 0, .slice none 0 0, .slice none 0 0, .int .i64 0, .int .i64 0] 29)) (fun vi _ => n - (intOf vi).toNat)
    case atStart => exact ⟨0, none, 0, [], rfl, Nat.zero_le _, I0, X0⟩
    case round =>
      clear I0 X0
      obtain ⟨k, A, c, l, rfl, hk, I, X⟩ := hrel
      obtain ⟨hl, HO, HE, HK, sk, hI, HT⟩ := I.out
      have hrow := fresh_rows (sz := 6) (rows := l.map (fun v => [.int .i64 v.cls, .string v.params, .string v.locals, .bool v.ret, .int .i64 v.stack, .slice v.oA v.ops.length v.oc])) (by intro r hr; obtain ⟨x, _, rfl⟩ := List.mem_map.1 hr; rfl) (by rw [List.length_map]; exact HO)
      have hLim : l.length ≤ Lim := by show _ ≤ 9223372036854775807; omega
      have hqs := SZ.out
      have PL : LCods (fresh wr wf2.heap.size) wr.heap.size A l := ⟨hLim, hrow, fun x hx => Cod.At.kc (HE x hx).2 Kc.row_out (Nat.le_refl _)⟩
      have FIN : Hid (Got (fun us => Pc.list Pc.cod us) (fun us => eqAll Cod.eqb l us = true) s2 sk → Hid (Filled Pc.cod Cod.eqb Cod.Small LCods 97 (w.heap.size + 1) (w.heap.size + 2) s2 wf2 (fun A n c => [.slice A1 v1.length c1, .slice A2 v2.length c2, .slice A n c, .slice none 0 0, .string ⟨#[]⟩, .slice none 0 0, .slice none 0 0, .slice none 0 0, .slice none 0 0, .slice none 0 0, .int .i64 0, .int .i64 0]) 29 wr)) := Aid.hid fun hG => Aid.hid ⟨A, c, l, sk, hI, X.out, by omega, fun x hx => (HE x hx).1, PL.kc (kc_q (KeepQ.refl (w.heap.size + 1) (w.heap.size + 2) wr) (by omega) (by omega) (by omega)) (Nat.le_refl _), HK, hG⟩
      clear hrow PL hLim
      by_cases hlt : k < n
      · cases hx : sk.x
        · have HLL := Aid.hid hl
          have hO := Aid.hid HO; have hE := Aid.hid HE; have hK0 := Aid.hid HK; have hT := Aid.hid HT
          have x5 := (show Aid.Has wr.drew (w.heap.size + 2) [.slice A1 v1.length c1, .slice A2 v2.length c2, .slice A l.length c, .slice none 0 0, .string ⟨#[]⟩, .slice none 0 0, .slice none 0 0, .slice none 0 0, .slice none 0 0, .slice none 0 0, .int .i64 0, .int .i64 0] 29 from X.out).cell 2 _ rfl
          have HXd := Aid.hid (show Aid.Has wr.drew (w.heap.size + 2) [.slice A1 v1.length c1, .slice A2 v2.length c2, .slice A l.length c, .slice none 0 0, .string ⟨#[]⟩, .slice none 0 0, .slice none 0 0, .slice none 0 0, .slice none 0 0, .slice none 0 0, .int .i64 0, .int .i64 0] 29 from X.out)
          have KD := Aid.hid (Keep.of_below (p := (w.heap.size + 1)) ((Below.refl wr.heap.size wr).drew))
          have HC := Aid.hid (cod2_el (w.heap.size + 1) sk wr.drew hI.drew)
          obtain ⟨B0, d0, bs0, a0, q0, _⟩ := hI
          have z2 := q0.cell 2 _ rfl
          rw [hx] at z2
          clear q0 hx I X hl HO HE HK HT FIN
          go_wp2_with fail
          clear z2
          refine Ord.wp_region_walk (fun w' : World => w'.cell? ⟨(w.heap.size + 2), 2, none⟩ = some (.slice A l.length c)) 6 [(true, 0), (true, 1), (true, 2), (false, 3), (false, 4), (false, 5)] (by kernel_rfl) (by kernel_rfl) (fun _ _ d _ _ h => by cases d <;> exact h) (x5) ?_
          apply Ord.walk_light
          next => (simp only [List.getElem?_toArray, List.getElem?_cons_zero]; rfl)
          next => rfl
          next => (intro w' hSw; go_simp; first | done | with_reducible rfl)
          simp only [Act.put, List.setIfInBounds_toArray, List.set_cons_zero, List.set_cons_succ]
          apply Ord.walk_light
          next => (simp only [List.getElem?_toArray, List.getElem?_cons_succ, List.getElem?_cons_zero]; rfl)
          next => rfl
          next => (intro w' hSw; go_simp; first | done | with_reducible rfl)
          simp only [Act.put, List.setIfInBounds_toArray, List.set_cons_zero, List.set_cons_succ]
          apply Ord.walk_light
          next => (simp only [List.getElem?_toArray, List.getElem?_cons_succ, List.getElem?_cons_zero]; rfl)
          next => rfl
          next => (intro w' hSw; go_simp; first | done | with_reducible rfl)
          simp only [Act.put, List.setIfInBounds_toArray, List.set_cons_zero, List.set_cons_succ]
          apply Ord.walk_heavy
          next => (simp only [List.getElem?_toArray, List.getElem?_cons_succ, List.getElem?_cons_zero]; rfl)
          next => rfl
          intro K hK
          go_wp2_with fail
          refine HC.out.mono ?_; rintro e w2 ⟨v, s', rfl, g1, g2, g3, g4, g5⟩; dsimp only
          refine hK.out _ _ ((g4.has (by omega : (w.heap.size + 2) ≠ (w.heap.size + 1)) HXd.out).cell 2 _ rfl) (fun hHeld => ?_)
          clear hHeld x5 HC
          have G1 := Aid.hid g1; have G2 := Aid.hid g2; have G3 := Aid.hid g3; have G4 := Aid.hid (KD.out.trans g4); have G5 := Aid.hid g5
          have X2 := g4.has (by omega : (w.heap.size + 2) ≠ (w.heap.size + 1)) HXd.out
          clear g1 g2 g3 g4 g5
          have k3 : Below w2.heap.size w2 (w2.alloc (.cells #[.int .i64 v.cls, .string v.params, .string v.locals, .bool v.ret, .int .i64 v.stack, .slice v.oA v.ops.length v.oc] 60)) := (Below.refl _ _).alloc (Nat.le_refl _) _
          have hpd : (w.heap.size + 1) < wf2.heap.size := by omega
          have ho3 : (w2.alloc (.cells #[.int .i64 v.cls, .string v.params, .string v.locals, .bool v.ret, .int .i64 v.stack, .slice v.oA v.ops.length v.oc] 60)).ownsRow wf2.heap.size 60 6 (.slice A l.length c) l.length ((l.map (fun v => [.int .i64 v.cls, .string v.params, .string v.locals, .bool v.ret, .int .i64 v.stack, .slice v.oA v.ops.length v.oc])).flatten) := own_keeps (G4.out.own hpd hO.out) k3
          have hnew := Aid.Has.new w2 [.int .i64 v.cls, .string v.params, .string v.locals, .bool v.ret, .int .i64 v.stack, .slice v.oA v.ops.length v.oc] 60
          have hr : Reads (w2.alloc (.cells #[.int .i64 v.cls, .string v.params, .string v.locals, .bool v.ret, .int .i64 v.stack, .slice v.oA v.ops.length v.oc] 60)) (w2.alloc (.cells #[.int .i64 v.cls, .string v.params, .string v.locals, .bool v.ret, .int .i64 v.stack, .slice v.oA v.ops.length v.oc] 60)).heap.size 6 (some ⟨w2.heap.size, 0, none⟩) 1 [.int .i64 v.cls, .string v.params, .string v.locals, .bool v.ret, .int .i64 v.stack, .slice v.oA v.ops.length v.oc] := ⟨by simp, fun _ => ⟨⟨w2.heap.size, 0, none⟩, rfl, by rw [World.size_alloc]; exact Nat.lt_succ_self _, fun j u hj => by
            rw [Go.WideShapes.add_plain, Nat.zero_add]
            exact hnew.cell j u hj⟩⟩
          have hbs : wf2.heap.size ≤ (w2.alloc (.cells #[.int .i64 v.cls, .string v.params, .string v.locals, .bool v.ret, .int .i64 v.stack, .slice v.oA v.ops.length v.oc] 60)).heap.size := Nat.le_trans hK0.out.size (Nat.le_trans G4.out.size k3.size)
          have hll : l.length ≤ 10000 := by have := HLL.out; omega
          have XX := Aid.hid (X2.below k3 X2.lt)
          have QS : (w.heap.size + 2) < (w2.alloc (.cells #[.int .i64 v.cls, .string v.params, .string v.locals, .bool v.ret, .int .i64 v.stack, .slice v.oA v.ops.length v.oc] 60)).heap.size := by have := hbs; omega
          have K3 := Aid.hid k3
          clear k3 hnew X2
          have hqf : (w.heap.size + 2) < wf2.heap.size := by omega
          clear hK K
          try simp only [Act.put, List.setIfInBounds_toArray, List.set_cons_zero, List.set_cons_succ]
          apply Ord.walk_heavy
          next => (simp only [List.getElem?_toArray, List.getElem?_cons_succ, List.getElem?_cons_zero]; rfl)
          next => rfl
          intro K hK
          go_wp2_with fail
          refine hK.out _ _ (XX.out.cell 2 _ rfl) (fun hHeld => ?_)
          clear hHeld
          clear hK K
          try simp only [Act.put, List.setIfInBounds_toArray, List.set_cons_zero, List.set_cons_succ]
          apply Ord.walk_heavy
          next => (simp only [List.getElem?_toArray, List.getElem?_cons_succ, List.getElem?_cons_zero]; rfl)
          next => rfl
          intro K hK
          refine wp_append_any _ _ _ 24 rfl wf2.heap.size 60 i0 (.agg #[.int .i64 0, .string ⟨#[]⟩, .string ⟨#[]⟩, .bool false, .int .i64 0, .slice none 0 0]) 6 80 Tryz.underlying24 hi hz0 hz1 hz2 rfl (by decide) (.slice A l.length c) _ _ rfl ho3 _ (some ⟨w2.heap.size, 0, none⟩) 1 1 [.int .i64 v.cls, .string v.params, .string v.locals, .bool v.ret, .int .i64 v.stack, .slice v.oA v.ops.length v.oc] rfl hr ?d1 ?d2 ?d3 hbs ?_
          case d1 => intro u hu; simp at hu; rcases hu with rfl | rfl | rfl | rfl | rfl | rfl <;> rfl
          case d2 => unfold maxLen; omega
          case d3 => omega
          intro vz wz ho9 hg9 hob
          have X9 : Aid.Has wz (w.heap.size + 2) [.slice A1 v1.length c1, .slice A2 v2.length c2, .slice A l.length c, .slice none 0 0, .string ⟨#[]⟩, .slice none 0 0, .slice none 0 0, .slice none 0 0, .slice none 0 0, .slice none 0 0, .int .i64 0, .int .i64 0] 29 := (hg9.block (w.heap.size + 2) QS (fun e => by have := (hO.out.lt (w.heap.size + 2) e.symm).1; omega)).trans XX.out
          obtain ⟨A2, c2, rfl, J⟩ := BoxInv.next (S := Cod.Small) (At := Cod.At) (cells := (fun v => [.int .i64 v.cls, .string v.params, .string v.locals, .bool v.ret, .int .i64 v.stack, .slice v.oA v.ops.length v.oc])) (v := v) (Cod.At.kc) HLL.out hO.out hE.out hK0.out hT.out hpd hlt G1.out G2.out G3.out G4.out G5.out K3.out ho9 hg9 (by simpa only [World.size_alloc] using hob)
          have HJ := Aid.hid (BoxInv.set (At := Cod.At) (Cod.At.kc) J (by omega) hqf 2 (.slice A2 (l.length + 1) c2))
          have Y5 := X9.cell 2 _ rfl
          have F5 := X9.frozen 2
          have X10 := Aid.hid (X9.set 2 (.slice A2 (l.length + 1) c2))
          have LQ : (l ++ [v]).length = l.length + 1 := by simp
          refine hK.out _ _ Y5 (fun hHeld => ?_)
          clear hHeld
          clear J ho9 hg9 hob ho3 hr hbs hO hE hK0 hT G1 G2 G3 G4 G5 K3 HLL XX HXd KD X9
          clear hK K
          try simp only [Act.put, List.setIfInBounds_toArray, List.set_cons_zero, List.set_cons_succ]
          refine Ord.walk_tail ?_; simp only [List.drop_succ_cons, List.drop_zero]
          go_wp2_with fail
          go_roundw
          case rel => exact ⟨k + 1, A2, c2, l ++ [v], by go_num, by omega, HJ, by rw [LQ]; exact X10⟩
          case measure => simp [intOf]; omega
        · have FE := Aid.hid (FIN.out (HT.ended hx))
          obtain ⟨B0, d0, bs0, a0, q0, _⟩ := hI
          have z2 := q0.cell 2 _ rfl
          rw [hx] at z2
          clear I X hl HO HE HK HT q0 FIN hx hqs
          go_wp2_with fail
          go_meet
          exact FE.out
      · have FE := Aid.hid (FIN.out (HT.done (by omega)))
        clear I X hl HO HE HK HT hI FIN hqs
        go_wp2_with fail
        go_meet
        exact FE.out
  rename World => wf3
  have SB := SZ
  clear I0 X0 BX SZ
  obtain ⟨A3, c3, v3, s3, q1, q2, q3, q4, q5, q6, q7⟩ := hcut.out
  have IA := Aid.hid q1; have BX := Aid.hid q2; have N3 := Aid.hid q3; have D3 := Aid.hid q4; have P3 := Aid.hid q5; have S3 := Aid.hid q6; have G3 := Aid.hid q7
  have SZ : Hid (w.heap.size + 3 ≤ wf3.heap.size) := Aid.hid (Nat.le_trans SB.out q6.size)
  clear q1 q2 q3 q4 q5 q6 q7 SB hcut
  have HC := Aid.hid (nums2_is (w.heap.size + 1) s3 wf3 IA.out)
  go_wp2_with fail
  go_at_call 51
  refine HC.out.mono ?_
  rintro e w4 ⟨A4, c4, v4, s4, rfl, a4, d4, b4, i4, k4, g4⟩
  clear HC
  have hqs := SZ.out
  have bb := k4.has (by omega : (w.heap.size + 2) ≠ (w.heap.size + 1)) BX.out
  have cb4 := bb.cell 3 _ rfl
  have fb4 := bb.frozen 3
  replace BX : Hid (Aid.Has (w4.setCell ⟨(w.heap.size + 2), 3, none⟩ (.slice A4 v4.length c4)) (w.heap.size + 2) [.slice A1 v1.length c1, .slice A2 v2.length c2, .slice A3 v3.length c3, .slice A4 v4.length c4, .string ⟨#[]⟩, .slice none 0 0, .slice none 0 0, .slice none 0 0, .slice none 0 0, .slice none 0 0, .int .i64 0, .int .i64 0] 29) := Aid.hid (bb.set 3 _)
  have S4 : Hid (KeepQ (w.heap.size + 1) (w.heap.size + 2) wf3 (w4.setCell ⟨(w.heap.size + 2), 3, none⟩ (.slice A4 v4.length c4))) := Aid.hid ((KeepQ.of k4).set 3 (.slice A4 v4.length c4))
  have G4 := Aid.hid g4
  have N4 := Aid.hid a4
  have D4 := Aid.hid d4
  have P4 : Hid (LNums (fresh (w4.setCell ⟨(w.heap.size + 2), 3, none⟩ (.slice A4 v4.length c4)) ((w.heap.size + 2) + 1)) (w4.setCell ⟨(w.heap.size + 2), 3, none⟩ (.slice A4 v4.length c4)).heap.size A4 v4) := Aid.hid (b4.kc (kc_q ((KeepQ.refl (w.heap.size + 1) (w.heap.size + 2) w4).set 3 (.slice A4 v4.length c4)) (by omega : (w.heap.size + 1) < (w.heap.size + 2) + 1) (by omega) (by omega)) (by rw [Aid.size_setCell]; exact Nat.le_refl _))
  replace IA := Aid.hid (i4.low ((Below.refl ((w.heap.size + 1) + 1) w4).setCell (p := ⟨(w.heap.size + 2), 3, none⟩) (show (w.heap.size + 1) + 1 ≤ (w.heap.size + 2) by omega) (.slice A4 v4.length c4)))
  replace SZ : Hid (w.heap.size + 3 ≤ (w4.setCell ⟨(w.heap.size + 2), 3, none⟩ (.slice A4 v4.length c4)).heap.size) := Aid.hid (Nat.le_trans SZ.out S4.out.size)
  clear bb i4 k4 g4 hqs a4 d4 b4
  have HC := Aid.hid (text2_el (w.heap.size + 1) s4 (w4.setCell ⟨(w.heap.size + 2), 3, none⟩ (.slice A4 v4.length c4)) IA.out)
  go_wp2_with fail
  go_at_call 46
  refine HC.out.mono ?_
  rintro e w5 ⟨v5, s5, rfl, a5, _, i5, k5, g5⟩
  clear HC
  have hqs := SZ.out
  have bb := k5.has (by omega : (w.heap.size + 2) ≠ (w.heap.size + 1)) BX.out
  have cb5 := bb.cell 4 _ rfl
  have fb5 := bb.frozen 4
  replace BX : Hid (Aid.Has (w5.setCell ⟨(w.heap.size + 2), 4, none⟩ (.string v5)) (w.heap.size + 2) [.slice A1 v1.length c1, .slice A2 v2.length c2, .slice A3 v3.length c3, .slice A4 v4.length c4, .string v5, .slice none 0 0, .slice none 0 0, .slice none 0 0, .slice none 0 0, .slice none 0 0, .int .i64 0, .int .i64 0] 29) := Aid.hid (bb.set 4 _)
  have S5 : Hid (KeepQ (w.heap.size + 1) (w.heap.size + 2) (w4.setCell ⟨(w.heap.size + 2), 3, none⟩ (.slice A4 v4.length c4)) (w5.setCell ⟨(w.heap.size + 2), 4, none⟩ (.string v5))) := Aid.hid ((KeepQ.of k5).set 4 (.string v5))
  have G5 := Aid.hid g5
  have N5 := Aid.hid a5
  replace IA := Aid.hid (i5.low ((Below.refl ((w.heap.size + 1) + 1) w5).setCell (p := ⟨(w.heap.size + 2), 4, none⟩) (show (w.heap.size + 1) + 1 ≤ (w.heap.size + 2) by omega) (.string v5)))
  replace SZ : Hid (w.heap.size + 3 ≤ (w5.setCell ⟨(w.heap.size + 2), 4, none⟩ (.string v5)).heap.size) := Aid.hid (Nat.le_trans SZ.out S5.out.size)
  clear bb i5 k5 g5 hqs a5
  have HC := Aid.hid (nums2_is (w.heap.size + 1) s5 (w5.setCell ⟨(w.heap.size + 2), 4, none⟩ (.string v5)) IA.out)
  go_wp2_with fail
  go_at_call 51
  refine HC.out.mono ?_
  rintro e w6 ⟨A6, c6, v6, s6, rfl, a6, d6, b6, i6, k6, g6⟩
  clear HC
  have hqs := SZ.out
  have bb := k6.has (by omega : (w.heap.size + 2) ≠ (w.heap.size + 1)) BX.out
  have cb6 := bb.cell 5 _ rfl
  have fb6 := bb.frozen 5
  replace BX : Hid (Aid.Has (w6.setCell ⟨(w.heap.size + 2), 5, none⟩ (.slice A6 v6.length c6)) (w.heap.size + 2) [.slice A1 v1.length c1, .slice A2 v2.length c2, .slice A3 v3.length c3, .slice A4 v4.length c4, .string v5, .slice A6 v6.length c6, .slice none 0 0, .slice none 0 0, .slice none 0 0, .slice none 0 0, .int .i64 0, .int .i64 0] 29) := Aid.hid (bb.set 5 _)
  have S6 : Hid (KeepQ (w.heap.size + 1) (w.heap.size + 2) (w5.setCell ⟨(w.heap.size + 2), 4, none⟩ (.string v5)) (w6.setCell ⟨(w.heap.size + 2), 5, none⟩ (.slice A6 v6.length c6))) := Aid.hid ((KeepQ.of k6).set 5 (.slice A6 v6.length c6))
  have G6 := Aid.hid g6
  have N6 := Aid.hid a6
  have D6 := Aid.hid d6
  have P6 : Hid (LNums (fresh (w6.setCell ⟨(w.heap.size + 2), 5, none⟩ (.slice A6 v6.length c6)) ((w.heap.size + 2) + 1)) (w6.setCell ⟨(w.heap.size + 2), 5, none⟩ (.slice A6 v6.length c6)).heap.size A6 v6) := Aid.hid (b6.kc (kc_q ((KeepQ.refl (w.heap.size + 1) (w.heap.size + 2) w6).set 5 (.slice A6 v6.length c6)) (by omega : (w.heap.size + 1) < (w.heap.size + 2) + 1) (by omega) (by omega)) (by rw [Aid.size_setCell]; exact Nat.le_refl _))
  replace IA := Aid.hid (i6.low ((Below.refl ((w.heap.size + 1) + 1) w6).setCell (p := ⟨(w.heap.size + 2), 5, none⟩) (show (w.heap.size + 1) + 1 ≤ (w.heap.size + 2) by omega) (.slice A6 v6.length c6)))
  replace SZ : Hid (w.heap.size + 3 ≤ (w6.setCell ⟨(w.heap.size + 2), 5, none⟩ (.slice A6 v6.length c6)).heap.size) := Aid.hid (Nat.le_trans SZ.out S6.out.size)
  clear bb i6 k6 g6 hqs a6 d6 b6
  have HC := Aid.hid (nums2_is (w.heap.size + 1) s6 (w6.setCell ⟨(w.heap.size + 2), 5, none⟩ (.slice A6 v6.length c6)) IA.out)
  go_wp2_with fail
  go_at_call 51
  refine HC.out.mono ?_
  rintro e w7 ⟨A7, c7, v7, s7, rfl, a7, d7, b7, i7, k7, g7⟩
  clear HC
  have hqs := SZ.out
  have bb := k7.has (by omega : (w.heap.size + 2) ≠ (w.heap.size + 1)) BX.out
  have cb7 := bb.cell 6 _ rfl
  have fb7 := bb.frozen 6
  replace BX : Hid (Aid.Has (w7.setCell ⟨(w.heap.size + 2), 6, none⟩ (.slice A7 v7.length c7)) (w.heap.size + 2) [.slice A1 v1.length c1, .slice A2 v2.length c2, .slice A3 v3.length c3, .slice A4 v4.length c4, .string v5, .slice A6 v6.length c6, .slice A7 v7.length c7, .slice none 0 0, .slice none 0 0, .slice none 0 0, .int .i64 0, .int .i64 0] 29) := Aid.hid (bb.set 6 _)
  have S7 : Hid (KeepQ (w.heap.size + 1) (w.heap.size + 2) (w6.setCell ⟨(w.heap.size + 2), 5, none⟩ (.slice A6 v6.length c6)) (w7.setCell ⟨(w.heap.size + 2), 6, none⟩ (.slice A7 v7.length c7))) := Aid.hid ((KeepQ.of k7).set 6 (.slice A7 v7.length c7))
  have G7 := Aid.hid g7
  have N7 := Aid.hid a7
  have D7 := Aid.hid d7
  have P7 : Hid (LNums (fresh (w7.setCell ⟨(w.heap.size + 2), 6, none⟩ (.slice A7 v7.length c7)) ((w.heap.size + 2) + 1)) (w7.setCell ⟨(w.heap.size + 2), 6, none⟩ (.slice A7 v7.length c7)).heap.size A7 v7) := Aid.hid (b7.kc (kc_q ((KeepQ.refl (w.heap.size + 1) (w.heap.size + 2) w7).set 6 (.slice A7 v7.length c7)) (by omega : (w.heap.size + 1) < (w.heap.size + 2) + 1) (by omega) (by omega)) (by rw [Aid.size_setCell]; exact Nat.le_refl _))
  replace IA := Aid.hid (i7.low ((Below.refl ((w.heap.size + 1) + 1) w7).setCell (p := ⟨(w.heap.size + 2), 6, none⟩) (show (w.heap.size + 1) + 1 ≤ (w.heap.size + 2) by omega) (.slice A7 v7.length c7)))
  replace SZ : Hid (w.heap.size + 3 ≤ (w7.setCell ⟨(w.heap.size + 2), 6, none⟩ (.slice A7 v7.length c7)).heap.size) := Aid.hid (Nat.le_trans SZ.out S7.out.size)
  clear bb i7 k7 g7 hqs a7 d7 b7
  have HC := Aid.hid (links2_is (w.heap.size + 1) s7 (w7.setCell ⟨(w.heap.size + 2), 6, none⟩ (.slice A7 v7.length c7)) IA.out)
  go_wp2_with fail
  go_at_call 52
  refine HC.out.mono ?_
  rintro e w8 ⟨A8, c8, v8, s8, rfl, a8, d8, b8, i8, k8, g8⟩
  clear HC
  have hqs := SZ.out
  have bb := k8.has (by omega : (w.heap.size + 2) ≠ (w.heap.size + 1)) BX.out
  have cb8 := bb.cell 7 _ rfl
  have fb8 := bb.frozen 7
  replace BX : Hid (Aid.Has (w8.setCell ⟨(w.heap.size + 2), 7, none⟩ (.slice A8 v8.length c8)) (w.heap.size + 2) [.slice A1 v1.length c1, .slice A2 v2.length c2, .slice A3 v3.length c3, .slice A4 v4.length c4, .string v5, .slice A6 v6.length c6, .slice A7 v7.length c7, .slice A8 v8.length c8, .slice none 0 0, .slice none 0 0, .int .i64 0, .int .i64 0] 29) := Aid.hid (bb.set 7 _)
  have S8 : Hid (KeepQ (w.heap.size + 1) (w.heap.size + 2) (w7.setCell ⟨(w.heap.size + 2), 6, none⟩ (.slice A7 v7.length c7)) (w8.setCell ⟨(w.heap.size + 2), 7, none⟩ (.slice A8 v8.length c8))) := Aid.hid ((KeepQ.of k8).set 7 (.slice A8 v8.length c8))
  have G8 := Aid.hid g8
  have N8 := Aid.hid a8
  have D8 := Aid.hid d8
  have P8 : Hid (LLnks (fresh (w8.setCell ⟨(w.heap.size + 2), 7, none⟩ (.slice A8 v8.length c8)) ((w.heap.size + 2) + 1)) (w8.setCell ⟨(w.heap.size + 2), 7, none⟩ (.slice A8 v8.length c8)).heap.size A8 v8) := Aid.hid (b8.kc (kc_q ((KeepQ.refl (w.heap.size + 1) (w.heap.size + 2) w8).set 7 (.slice A8 v8.length c8)) (by omega : (w.heap.size + 1) < (w.heap.size + 2) + 1) (by omega) (by omega)) (by rw [Aid.size_setCell]; exact Nat.le_refl _))
  replace IA := Aid.hid (i8.low ((Below.refl ((w.heap.size + 1) + 1) w8).setCell (p := ⟨(w.heap.size + 2), 7, none⟩) (show (w.heap.size + 1) + 1 ≤ (w.heap.size + 2) by omega) (.slice A8 v8.length c8)))
  replace SZ : Hid (w.heap.size + 3 ≤ (w8.setCell ⟨(w.heap.size + 2), 7, none⟩ (.slice A8 v8.length c8)).heap.size) := Aid.hid (Nat.le_trans SZ.out S8.out.size)
  clear bb i8 k8 g8 hqs a8 d8 b8
  have HC := Aid.hid (links2_is (w.heap.size + 1) s8 (w8.setCell ⟨(w.heap.size + 2), 7, none⟩ (.slice A8 v8.length c8)) IA.out)
  go_wp2_with fail
  go_at_call 52
  refine HC.out.mono ?_
  rintro e w9 ⟨A9, c9, v9, s9, rfl, a9, d9, b9, i9, k9, g9⟩
  clear HC
  have hqs := SZ.out
  have bb := k9.has (by omega : (w.heap.size + 2) ≠ (w.heap.size + 1)) BX.out
  have cb9 := bb.cell 8 _ rfl
  have fb9 := bb.frozen 8
  replace BX : Hid (Aid.Has (w9.setCell ⟨(w.heap.size + 2), 8, none⟩ (.slice A9 v9.length c9)) (w.heap.size + 2) [.slice A1 v1.length c1, .slice A2 v2.length c2, .slice A3 v3.length c3, .slice A4 v4.length c4, .string v5, .slice A6 v6.length c6, .slice A7 v7.length c7, .slice A8 v8.length c8, .slice A9 v9.length c9, .slice none 0 0, .int .i64 0, .int .i64 0] 29) := Aid.hid (bb.set 8 _)
  have S9 : Hid (KeepQ (w.heap.size + 1) (w.heap.size + 2) (w8.setCell ⟨(w.heap.size + 2), 7, none⟩ (.slice A8 v8.length c8)) (w9.setCell ⟨(w.heap.size + 2), 8, none⟩ (.slice A9 v9.length c9))) := Aid.hid ((KeepQ.of k9).set 8 (.slice A9 v9.length c9))
  have G9 := Aid.hid g9
  have N9 := Aid.hid a9
  have D9 := Aid.hid d9
  have P9 : Hid (LLnks (fresh (w9.setCell ⟨(w.heap.size + 2), 8, none⟩ (.slice A9 v9.length c9)) ((w.heap.size + 2) + 1)) (w9.setCell ⟨(w.heap.size + 2), 8, none⟩ (.slice A9 v9.length c9)).heap.size A9 v9) := Aid.hid (b9.kc (kc_q ((KeepQ.refl (w.heap.size + 1) (w.heap.size + 2) w9).set 8 (.slice A9 v9.length c9)) (by omega : (w.heap.size + 1) < (w.heap.size + 2) + 1) (by omega) (by omega)) (by rw [Aid.size_setCell]; exact Nat.le_refl _))
  replace IA := Aid.hid (i9.low ((Below.refl ((w.heap.size + 1) + 1) w9).setCell (p := ⟨(w.heap.size + 2), 8, none⟩) (show (w.heap.size + 1) + 1 ≤ (w.heap.size + 2) by omega) (.slice A9 v9.length c9)))
  replace SZ : Hid (w.heap.size + 3 ≤ (w9.setCell ⟨(w.heap.size + 2), 8, none⟩ (.slice A9 v9.length c9)).heap.size) := Aid.hid (Nat.le_trans SZ.out S9.out.size)
  clear bb i9 k9 g9 hqs a9 d9 b9
  have HC := Aid.hid (many2_is (w.heap.size + 1) s9 (w9.setCell ⟨(w.heap.size + 2), 8, none⟩ (.slice A9 v9.length c9)) IA.out)
  go_wp2_with fail
  go_at_call 47
  refine HC.out.mono ?_
  rintro e wm10 ⟨n, sm, rfl, hn, h2, h3, h4, _⟩
  clear HC
  have I0 := Aid.hid (show BoxInv Pc.op Opr.eqb (fun _ => True) (fun _ _ _ => True) (fun v => [.int .i64 v.k, .int .i64 v.a, .int .i64 v.b]) 77 3 97 (w.heap.size + 1) (w.heap.size + 2) s9 (w9.setCell ⟨(w.heap.size + 2), 8, none⟩ (.slice A9 v9.length c9)) n 0 none 0 [] wm10 from BoxInv.startM (fun u => by rw [Pc.op_len]; decide) h2 (KeepQ.of h3) h4)
  have X0 := Aid.hid (h3.has (by omega : (w.heap.size + 2) ≠ (w.heap.size + 1)) BX.out)
  clear h2 h3 h4 IA
  go_upto_block 6 with fail
  go_cut [] from 6 (fun wx => Hid (Filled Pc.op Opr.eqb (fun _ => True) LOps 97 (w.heap.size + 1) (w.heap.size + 2) s9 (w9.setCell ⟨(w.heap.size + 2), 8, none⟩ (.slice A9 v9.length c9)) (fun A n c => [.slice A1 v1.length c1, .slice A2 v2.length c2, .slice A3 v3.length c3, .slice A4 v4.length c4, .string v5, .slice A6 v6.length c6, .slice A7 v7.length c7, .slice A8 v8.length c8, .slice A9 v9.length c9, .slice A n c, .int .i64 0, .int .i64 0]) 29 wx))
  case first =>
    clear BX
    obtain ⟨i0, hi, hz0, hz1, hz2⟩ := info_parts infoR_job
    go_wp2_with fail
    go_loopw [10] (fun vi wr => ∃ (k : Nat) (A : Option Addr) (c : Nat) (l : List Opr), vi = .int .i64 k ∧ k ≤ n ∧ Hid (BoxInv Pc.op Opr.eqb (fun _ => True) (fun _ _ _ => True) (fun v => [.int .i64 v.k, .int .i64 v.a, .int .i64 v.b]) 77 3 97 (w.heap.size + 1) (w.heap.size + 2) s9 (w9.setCell ⟨(w.heap.size + 2), 8, none⟩ (.slice A9 v9.length c9)) n k A c l wr) ∧ Hid (Aid.Has wr (w.heap.size + 2) [.slice A1 v1.length c1, .slice A2 v2.length c2, .slice A3 v3.length c3, .slice A4 v4.length c4, .string v5, .slice A6 v6.length c6, .slice A7 v7.length c7, .slice A8 v8.length c8, .slice A9 v9.length c9, .slice A l.length c, .int .i64 0, .int .i64 0] 29)) (fun vi _ => n - (intOf vi).toNat)
    case atStart => exact ⟨0, none, 0, [], rfl, Nat.zero_le _, I0, X0⟩
    case round =>
      clear I0 X0
      obtain ⟨k, A, c, l, rfl, hk, I, X⟩ := hrel
      obtain ⟨hl, HO, HE, HK, sk, hI, HT⟩ := I.out
      have hrow := fresh_rows (sz := 3) (rows := l.map (fun v => [.int .i64 v.k, .int .i64 v.a, .int .i64 v.b])) (by intro r hr; obtain ⟨x, _, rfl⟩ := List.mem_map.1 hr; rfl) (by rw [List.length_map]; exact HO)
      have hLim : l.length ≤ Lim := by show _ ≤ 9223372036854775807; omega
      have hqs := SZ.out
      have PL : LOps (fresh wr (w9.setCell ⟨(w.heap.size + 2), 8, none⟩ (.slice A9 v9.length c9)).heap.size) wr.heap.size A l := ⟨hLim, hrow⟩
      have FIN : Hid (Got (fun us => Pc.list Pc.op us) (fun us => eqAll Opr.eqb l us = true) s9 sk → Hid (Filled Pc.op Opr.eqb (fun _ => True) LOps 97 (w.heap.size + 1) (w.heap.size + 2) s9 (w9.setCell ⟨(w.heap.size + 2), 8, none⟩ (.slice A9 v9.length c9)) (fun A n c => [.slice A1 v1.length c1, .slice A2 v2.length c2, .slice A3 v3.length c3, .slice A4 v4.length c4, .string v5, .slice A6 v6.length c6, .slice A7 v7.length c7, .slice A8 v8.length c8, .slice A9 v9.length c9, .slice A n c, .int .i64 0, .int .i64 0]) 29 wr)) := Aid.hid fun hG => Aid.hid ⟨A, c, l, sk, hI, X.out, by omega, fun x hx => (HE x hx).1, PL.kc (kc_q (KeepQ.refl (w.heap.size + 1) (w.heap.size + 2) wr) (by omega) (by omega) (by omega)) (Nat.le_refl _), HK, hG⟩
      clear hrow PL hLim
      by_cases hlt : k < n
      · cases hx : sk.x
        · have HLL := Aid.hid hl
          have hO := Aid.hid HO; have hE := Aid.hid HE; have hK0 := Aid.hid HK; have hT := Aid.hid HT
          have HX := X
          have hpr := hI.lt
          have HC := Aid.hid (num2_el (w.heap.size + 1) sk wr hI)
          have ZB := Aid.hid (⟨hI.lt, Nat.le_refl wr.heap.size⟩ : (w.heap.size + 1) < wr.heap.size ∧ _)
          obtain ⟨B0, d0, bs0, a0, q0, _⟩ := hI
          have z2 := q0.cell 2 _ rfl
          rw [hx] at z2
          clear q0 hx I hl HO HE HK HT FIN hqs
          go_wp2_with fail
          go_at_call 53
          refine HC.out.mono ?_
          rintro e w1e ⟨x1, s1e, rfl, _, _, i1, k1, g1⟩
          clear HC z2
          obtain ⟨wa, hwa⟩ : ∃ wa, w1e.alloc (.cells #[.int .i64 x1, .int .i64 0, .int .i64 0] 77) = wa := ⟨_, rfl⟩
          have ka : Below w1e.heap.size w1e wa := by subst hwa; exact (Below.refl _ _).alloc (Nat.le_refl _) _
          have ba : Aid.Has wa w1e.heap.size [.int .i64 x1, .int .i64 0, .int .i64 0] 77 := by subst hwa; exact Aid.Has.new w1e [.int .i64 x1, .int .i64 0, .int .i64 0] 77
          have KA := Aid.hid (k1.trans (Keep.of_below ka))
          have G1 := Aid.hid g1
          have BA := Aid.hid ba
          have IA := Aid.hid (i1.low (ka.mono (by have := i1.lt; omega)))
          have QW : Hid (wr.heap.size ≤ w1e.heap.size ∧ (w.heap.size + 1) < w1e.heap.size) := Aid.hid ⟨k1.size, i1.lt⟩
          have SA : Hid (w1e.heap.size + 1 ≤ wa.heap.size) := Aid.hid (by subst hwa; rw [World.size_alloc]; exact Nat.le_refl _)
          have HC := Aid.hid (num2_el (w.heap.size + 1) s1e wa IA.out)
          clear i1 k1 g1 ka ba
          subst hwa
          go_wp2_with fail
          go_at_call 53
          refine HC.out.mono ?_
          rintro e w2e ⟨x2, s2e, rfl, _, _, i2, k2, g2⟩
          clear HC
          have bb := k2.has (by have := QW.out; omega : w1e.heap.size ≠ (w.heap.size + 1)) BA.out
          have cb1 := bb.cell 1 _ rfl
          have fb1 := bb.frozen 1
          have BB1 : Hid (Aid.Has (w2e.setCell ⟨w1e.heap.size, 1, none⟩ (.int .i64 x2)) w1e.heap.size [.int .i64 x1, .int .i64 x2, .int .i64 0] 77) := Aid.hid (bb.set 1 _)
          replace KA := Aid.hid (Keep.setNew (q := w1e.heap.size) (KA.out.trans k2) (by have := QW.out; omega) 1 (.int .i64 x2))
          replace IA := Aid.hid (i2.low ((Below.refl ((w.heap.size + 1) + 1) w2e).setCell (p := ⟨w1e.heap.size, 1, none⟩) (show (w.heap.size + 1) + 1 ≤ w1e.heap.size by have := QW.out; omega) (.int .i64 x2)))
          have G2 := Aid.hid g2
          clear bb i2 k2 g2
          have HC := Aid.hid (num2_el (w.heap.size + 1) s2e (w2e.setCell ⟨w1e.heap.size, 1, none⟩ (.int .i64 x2)) IA.out)
          go_wp2_with fail
          go_at_call 53
          refine HC.out.mono ?_
          rintro e w3e ⟨x3, s3e, rfl, _, _, i3, k3, g3⟩
          clear HC
          have bb := k3.has (by have := QW.out; omega : w1e.heap.size ≠ (w.heap.size + 1)) BB1.out
          have cb2 := bb.cell 2 _ rfl
          have fb2 := bb.frozen 2
          have BB2 : Hid (Aid.Has (w3e.setCell ⟨w1e.heap.size, 2, none⟩ (.int .i64 x3)) w1e.heap.size [.int .i64 x1, .int .i64 x2, .int .i64 x3] 77) := Aid.hid (bb.set 2 _)
          replace KA := Aid.hid (Keep.setNew (q := w1e.heap.size) (KA.out.trans k3) (by have := QW.out; omega) 2 (.int .i64 x3))
          replace IA := Aid.hid (i3.low ((Below.refl ((w.heap.size + 1) + 1) w3e).setCell (p := ⟨w1e.heap.size, 2, none⟩) (show (w.heap.size + 1) + 1 ≤ w1e.heap.size by have := QW.out; omega) (.int .i64 x3)))
          have G3 := Aid.hid g3
          clear bb i3 k3 g3
          have k3 : Below (w3e.setCell ⟨w1e.heap.size, 2, none⟩ (.int .i64 x3)).heap.size (w3e.setCell ⟨w1e.heap.size, 2, none⟩ (.int .i64 x3)) ((w3e.setCell ⟨w1e.heap.size, 2, none⟩ (.int .i64 x3)).alloc (.cells #[.int .i64 x1, .int .i64 x2, .int .i64 x3] 77)) := (Below.refl _ _).alloc (Nat.le_refl _) _
          have hqs := SZ.out
          have hpd : (w.heap.size + 1) < (w9.setCell ⟨(w.heap.size + 2), 8, none⟩ (.slice A9 v9.length c9)).heap.size := by rw [Aid.size_setCell]; rw [Aid.size_setCell] at hqs; omega
          have ho3 : ((w3e.setCell ⟨w1e.heap.size, 2, none⟩ (.int .i64 x3)).alloc (.cells #[.int .i64 x1, .int .i64 x2, .int .i64 x3] 77)).ownsRow (w9.setCell ⟨(w.heap.size + 2), 8, none⟩ (.slice A9 v9.length c9)).heap.size 77 3 (.slice A l.length c) l.length ((l.map (fun v => [.int .i64 v.k, .int .i64 v.a, .int .i64 v.b])).flatten) := own_keeps (KA.out.own hpd hO.out) k3
          have hnew := Aid.Has.new (w3e.setCell ⟨w1e.heap.size, 2, none⟩ (.int .i64 x3)) [.int .i64 x1, .int .i64 x2, .int .i64 x3] 77
          have hws : (w3e.setCell ⟨w1e.heap.size, 2, none⟩ (.int .i64 x3)).heap.size = w3e.heap.size := Aid.size_setCell _ _ _
          have hr : Reads ((w3e.setCell ⟨w1e.heap.size, 2, none⟩ (.int .i64 x3)).alloc (.cells #[.int .i64 x1, .int .i64 x2, .int .i64 x3] 77)) ((w3e.setCell ⟨w1e.heap.size, 2, none⟩ (.int .i64 x3)).alloc (.cells #[.int .i64 x1, .int .i64 x2, .int .i64 x3] 77)).heap.size 3 (some ⟨w3e.heap.size, 0, none⟩) 1 [.int .i64 x1, .int .i64 x2, .int .i64 x3] := ⟨by simp, fun _ => ⟨⟨w3e.heap.size, 0, none⟩, rfl, by rw [World.size_alloc, hws]; exact Nat.lt_succ_self _, fun j u hj => by
            rw [Go.WideShapes.add_plain, Nat.zero_add, ← hws]
            exact hnew.cell j u hj⟩⟩
          have hbs : (w9.setCell ⟨(w.heap.size + 2), 8, none⟩ (.slice A9 v9.length c9)).heap.size ≤ ((w3e.setCell ⟨w1e.heap.size, 2, none⟩ (.int .i64 x3)).alloc (.cells #[.int .i64 x1, .int .i64 x2, .int .i64 x3] 77)).heap.size := Nat.le_trans hK0.out.size (Nat.le_trans KA.out.size k3.size)
          have hll : l.length ≤ 10000 := by have := HLL.out; omega
          have bx := BB2.out
          have e0 := bx.cell 0 _ rfl
          have e1 := bx.cell 1 _ rfl
          have e2 := bx.cell 2 _ rfl
          have xx := KA.out.has (by omega : (w.heap.size + 2) ≠ (w.heap.size + 1)) HX.out
          have x5 := xx.cell 9 _ rfl
          have GG : Hid (Got Pc.op (fun u => Opr.eqb (⟨x1, x2, x3⟩ : Opr) u = true) sk s3e) := Aid.hid (Got.of (((G1.out.map (fun v : Opr => v.k)).seq (G2.out.map (fun v : Opr => v.a))).seq (G3.out.map (fun v : Opr => v.b))) (fun v => by rw [Pc.op_eq, Pc.assoc]) (fun v h => by simpa [Opr.eqb, Int.eqb] using h))
          have XX := Aid.hid (xx.below k3 xx.lt)
          have QS : (w.heap.size + 2) < ((w3e.setCell ⟨w1e.heap.size, 2, none⟩ (.int .i64 x3)).alloc (.cells #[.int .i64 x1, .int .i64 x2, .int .i64 x3] 77)).heap.size := by have := hbs; rw [Aid.size_setCell] at this hqs; omega
          have K3 := Aid.hid k3
          have HWS := Aid.hid hws
          clear k3 hnew bx hws xx
          have hqf : (w.heap.size + 2) < (w9.setCell ⟨(w.heap.size + 2), 8, none⟩ (.slice A9 v9.length c9)).heap.size := by rw [Aid.size_setCell] at hqs ⊢; omega
          go_wp2_with (at_builtin; refine wpList_append_any _ rfl _ _ 27 rfl (w9.setCell ⟨(w.heap.size + 2), 8, none⟩ (.slice A9 v9.length c9)).heap.size 77 i0 (.agg #[.int .i64 0, .int .i64 0, .int .i64 0]) 3 24 Tryz.underlying27 hi hz0 hz1 hz2 rfl (by decide) (.slice A l.length c) _ _ rfl ho3 _ (some ⟨w3e.heap.size, 0, none⟩) 1 1 [.int .i64 x1, .int .i64 x2, .int .i64 x3] rfl hr ?d1 ?d2 ?d3 hbs ?_)
          case d1 => intro u hu; simp at hu; rcases hu with rfl | rfl | rfl <;> rfl
          case d2 => unfold maxLen; omega
          case d3 => omega
          intro vz wz ho9 hg9 hob
          have X9 : Aid.Has wz (w.heap.size + 2) [.slice A1 v1.length c1, .slice A2 v2.length c2, .slice A3 v3.length c3, .slice A4 v4.length c4, .string v5, .slice A6 v6.length c6, .slice A7 v7.length c7, .slice A8 v8.length c8, .slice A9 v9.length c9, .slice A l.length c, .int .i64 0, .int .i64 0] 29 := (hg9.block (w.heap.size + 2) QS (fun e => by have := (hO.out.lt (w.heap.size + 2) e.symm).1; rw [Aid.size_setCell] at this hqf; omega)).trans XX.out
          obtain ⟨A2, c2, rfl, J⟩ := BoxInv.next (S := (fun _ => True)) (At := (fun _ _ _ => True)) (cells := (fun v => [.int .i64 v.k, .int .i64 v.a, .int .i64 v.b])) (v := (⟨x1, x2, x3⟩ : Opr)) (fun _ _ _ => trivial) HLL.out hO.out hE.out hK0.out hT.out hpd hlt trivial trivial IA.out KA.out GG.out K3.out (by rw [Aid.size_setCell]; exact ho9) hg9 (by simpa only [World.size_alloc, HWS.out] using hob)
          have HJ := Aid.hid (BoxInv.set (At := (fun _ _ _ => True)) (fun _ _ _ => trivial) J (by omega) hqf 9 (.slice A2 (l.length + 1) c2))
          have Y5 := X9.cell 9 _ rfl
          have F5 := X9.frozen 9
          have X10 := Aid.hid (X9.set 9 (.slice A2 (l.length + 1) c2))
          have LQ : (l ++ [(⟨x1, x2, x3⟩ : Opr)]).length = l.length + 1 := by simp
          clear J ho9 hg9 hob ho3 hr hbs hO hE hK0 hT G1 G2 G3 GG KA IA K3 HLL XX HX X e0 e1 e2 cb1 fb1 cb2 fb2 x5 X9
          go_wp2_with fail
          go_roundw
          case rel => exact ⟨k + 1, A2, c2, l ++ [(⟨x1, x2, x3⟩ : Opr)], by go_num, by omega, HJ, by rw [LQ]; exact X10⟩
          case measure => simp [intOf]; omega
        · have FE := Aid.hid (FIN.out (HT.ended hx))
          obtain ⟨B0, d0, bs0, a0, q0, _⟩ := hI
          have z2 := q0.cell 2 _ rfl
          rw [hx] at z2
          clear I X hl HO HE HK HT q0 FIN hx hqs
          go_wp2_with fail
          go_meet
          exact FE.out
      · have FE := Aid.hid (FIN.out (HT.done (by omega)))
        clear I X hl HO HE HK HT hI FIN hqs
        go_wp2_with fail
        go_meet
        exact FE.out
  rename World => wf10
  have SB := SZ
  clear I0 X0 BX SZ
  obtain ⟨A10, c10, v10, s10, q1, q2, q3, q4, q5, q6, q7⟩ := hcut.out
  have IA := Aid.hid q1; have BX := Aid.hid q2; have N10 := Aid.hid q3; have D10 := Aid.hid q4; have P10 := Aid.hid q5; have S10 := Aid.hid q6; have G10 := Aid.hid q7
  have SZ : Hid (w.heap.size + 3 ≤ wf10.heap.size) := Aid.hid (Nat.le_trans SB.out q6.size)
  clear q1 q2 q3 q4 q5 q6 q7 SB hcut
  have HC := Aid.hid (num2_el (w.heap.size + 1) s10 wf10 IA.out)
  go_wp2_with fail
  go_at_call 53
  refine HC.out.mono ?_
  rintro e w11 ⟨v11, s11, rfl, _, _, i11, k11, g11⟩
  clear HC
  have hqs := SZ.out
  have bb := k11.has (by omega : (w.heap.size + 2) ≠ (w.heap.size + 1)) BX.out
  have cb11 := bb.cell 10 _ rfl
  have fb11 := bb.frozen 10
  replace BX : Hid (Aid.Has (w11.setCell ⟨(w.heap.size + 2), 10, none⟩ (.int .i64 v11)) (w.heap.size + 2) [.slice A1 v1.length c1, .slice A2 v2.length c2, .slice A3 v3.length c3, .slice A4 v4.length c4, .string v5, .slice A6 v6.length c6, .slice A7 v7.length c7, .slice A8 v8.length c8, .slice A9 v9.length c9, .slice A10 v10.length c10, .int .i64 v11, .int .i64 0] 29) := Aid.hid (bb.set 10 _)
  have S11 : Hid (KeepQ (w.heap.size + 1) (w.heap.size + 2) wf10 (w11.setCell ⟨(w.heap.size + 2), 10, none⟩ (.int .i64 v11))) := Aid.hid ((KeepQ.of k11).set 10 (.int .i64 v11))
  have G11 := Aid.hid g11
  replace IA := Aid.hid (i11.low ((Below.refl ((w.heap.size + 1) + 1) w11).setCell (p := ⟨(w.heap.size + 2), 10, none⟩) (show (w.heap.size + 1) + 1 ≤ (w.heap.size + 2) by omega) (.int .i64 v11)))
  replace SZ : Hid (w.heap.size + 3 ≤ (w11.setCell ⟨(w.heap.size + 2), 10, none⟩ (.int .i64 v11)).heap.size) := Aid.hid (Nat.le_trans SZ.out S11.out.size)
  clear bb i11 k11 g11 hqs
  have HC := Aid.hid (num2_el (w.heap.size + 1) s11 (w11.setCell ⟨(w.heap.size + 2), 10, none⟩ (.int .i64 v11)) IA.out)
  go_wp2_with fail
  go_at_call 53
  refine HC.out.mono ?_
  rintro e w12 ⟨v12, s12, rfl, _, _, i12, k12, g12⟩
  clear HC
  have hqs := SZ.out
  have bb := k12.has (by omega : (w.heap.size + 2) ≠ (w.heap.size + 1)) BX.out
  have cb12 := bb.cell 11 _ rfl
  have fb12 := bb.frozen 11
  replace BX : Hid (Aid.Has (w12.setCell ⟨(w.heap.size + 2), 11, none⟩ (.int .i64 v12)) (w.heap.size + 2) [.slice A1 v1.length c1, .slice A2 v2.length c2, .slice A3 v3.length c3, .slice A4 v4.length c4, .string v5, .slice A6 v6.length c6, .slice A7 v7.length c7, .slice A8 v8.length c8, .slice A9 v9.length c9, .slice A10 v10.length c10, .int .i64 v11, .int .i64 v12] 29) := Aid.hid (bb.set 11 _)
  have S12 : Hid (KeepQ (w.heap.size + 1) (w.heap.size + 2) (w11.setCell ⟨(w.heap.size + 2), 10, none⟩ (.int .i64 v11)) (w12.setCell ⟨(w.heap.size + 2), 11, none⟩ (.int .i64 v12))) := Aid.hid ((KeepQ.of k12).set 11 (.int .i64 v12))
  have G12 := Aid.hid g12
  replace IA := Aid.hid (i12.low ((Below.refl ((w.heap.size + 1) + 1) w12).setCell (p := ⟨(w.heap.size + 2), 11, none⟩) (show (w.heap.size + 1) + 1 ≤ (w.heap.size + 2) by omega) (.int .i64 v12)))
  replace SZ : Hid (w.heap.size + 3 ≤ (w12.setCell ⟨(w.heap.size + 2), 11, none⟩ (.int .i64 v12)).heap.size) := Aid.hid (Nat.le_trans SZ.out S12.out.size)
  clear bb i12 k12 g12 hqs
  obtain ⟨x, XF, XB, HS, G3⟩ : ∃ x : Img, Hid (Img.At (fresh (w12.setCell ⟨(w.heap.size + 2), 11, none⟩ (.int .i64 v12)) ((w.heap.size + 2) + 1)) (w12.setCell ⟨(w.heap.size + 2), 11, none⟩ (.int .i64 v12)).heap.size x) ∧ Hid (Aid.Has (w12.setCell ⟨(w.heap.size + 2), 11, none⟩ (.int .i64 v12)) (w.heap.size + 2) [.slice x.fA x.faces.length x.fc, .slice x.cA x.classes.length x.cc, .slice x.dA x.codes.length x.dc, .slice x.nA x.insts.length x.nc, .string x.globals, .slice x.iA x.init.length x.ic, .slice x.bA x.blocks.length x.bc, .slice x.xA x.ins.length x.xc, .slice x.oA x.outs.length x.oc, .slice x.jA x.jobs.length x.jc, .int .i64 x.d, .int .i64 x.w] 29) ∧ Hid x.Small ∧ Hid (Got Pc.body (fun u => Img.eqb x u = true) s0 s12) :=
    ⟨⟨A1, v1, c1, A2, v2, c2, A3, v3, c3, A4, v4, c4, v5, A6, v6, c6, A7, v7, c7, A8, v8, c8, A9, v9, c9, A10, v10, c10, v11, v12⟩, Aid.hid ⟨(P1.out.kc (kc_q ((((((((((S2.out.trans S3.out).trans S4.out).trans S5.out).trans S6.out).trans S7.out).trans S8.out).trans S9.out).trans S10.out).trans S11.out).trans S12.out) (by omega : (w.heap.size + 1) < (w.heap.size + 2) + 1) (Nat.le_refl _) (by omega : (w.heap.size + 2) < (w.heap.size + 2) + 1)) ((((((((((S2.out.trans S3.out).trans S4.out).trans S5.out).trans S6.out).trans S7.out).trans S8.out).trans S9.out).trans S10.out).trans S11.out).trans S12.out).size), (P2.out.kc (kc_q (((((((((S3.out.trans S4.out).trans S5.out).trans S6.out).trans S7.out).trans S8.out).trans S9.out).trans S10.out).trans S11.out).trans S12.out) (by omega : (w.heap.size + 1) < (w.heap.size + 2) + 1) (Nat.le_refl _) (by omega : (w.heap.size + 2) < (w.heap.size + 2) + 1)) (((((((((S3.out.trans S4.out).trans S5.out).trans S6.out).trans S7.out).trans S8.out).trans S9.out).trans S10.out).trans S11.out).trans S12.out).size), (P3.out.kc (kc_q ((((((((S4.out.trans S5.out).trans S6.out).trans S7.out).trans S8.out).trans S9.out).trans S10.out).trans S11.out).trans S12.out) (by omega : (w.heap.size + 1) < (w.heap.size + 2) + 1) (Nat.le_refl _) (by omega : (w.heap.size + 2) < (w.heap.size + 2) + 1)) ((((((((S4.out.trans S5.out).trans S6.out).trans S7.out).trans S8.out).trans S9.out).trans S10.out).trans S11.out).trans S12.out).size), (P4.out.kc (kc_q (((((((S5.out.trans S6.out).trans S7.out).trans S8.out).trans S9.out).trans S10.out).trans S11.out).trans S12.out) (by omega : (w.heap.size + 1) < (w.heap.size + 2) + 1) (Nat.le_refl _) (by omega : (w.heap.size + 2) < (w.heap.size + 2) + 1)) (((((((S5.out.trans S6.out).trans S7.out).trans S8.out).trans S9.out).trans S10.out).trans S11.out).trans S12.out).size), (P6.out.kc (kc_q (((((S7.out.trans S8.out).trans S9.out).trans S10.out).trans S11.out).trans S12.out) (by omega : (w.heap.size + 1) < (w.heap.size + 2) + 1) (Nat.le_refl _) (by omega : (w.heap.size + 2) < (w.heap.size + 2) + 1)) (((((S7.out.trans S8.out).trans S9.out).trans S10.out).trans S11.out).trans S12.out).size), (P7.out.kc (kc_q ((((S8.out.trans S9.out).trans S10.out).trans S11.out).trans S12.out) (by omega : (w.heap.size + 1) < (w.heap.size + 2) + 1) (Nat.le_refl _) (by omega : (w.heap.size + 2) < (w.heap.size + 2) + 1)) ((((S8.out.trans S9.out).trans S10.out).trans S11.out).trans S12.out).size), (P8.out.kc (kc_q (((S9.out.trans S10.out).trans S11.out).trans S12.out) (by omega : (w.heap.size + 1) < (w.heap.size + 2) + 1) (Nat.le_refl _) (by omega : (w.heap.size + 2) < (w.heap.size + 2) + 1)) (((S9.out.trans S10.out).trans S11.out).trans S12.out).size), (P9.out.kc (kc_q ((S10.out.trans S11.out).trans S12.out) (by omega : (w.heap.size + 1) < (w.heap.size + 2) + 1) (Nat.le_refl _) (by omega : (w.heap.size + 2) < (w.heap.size + 2) + 1)) ((S10.out.trans S11.out).trans S12.out).size), (P10.out.kc (kc_q (S11.out.trans S12.out) (by omega : (w.heap.size + 1) < (w.heap.size + 2) + 1) (Nat.le_refl _) (by omega : (w.heap.size + 2) < (w.heap.size + 2) + 1)) (S11.out.trans S12.out).size)⟩, BX, Aid.hid ⟨⟨N1.out, D1.out⟩, ⟨N2.out, D2.out⟩, ⟨N3.out, D3.out⟩, N4.out, N5.out, N6.out, N7.out, N8.out, N9.out, N10.out⟩, Aid.hid (Got.of ((((((((((((G1.out.map (fun v : Img => v.faces)).seq (G2.out.map (fun v : Img => v.classes))).seq (G3.out.map (fun v : Img => v.codes))).seq (G4.out.map (fun v : Img => v.insts))).seq (G5.out.map (fun v : Img => v.globals))).seq (G6.out.map (fun v : Img => v.init))).seq (G7.out.map (fun v : Img => v.blocks))).seq (G8.out.map (fun v : Img => v.ins))).seq (G9.out.map (fun v : Img => v.outs))).seq (G10.out.map (fun v : Img => v.jobs))).seq (G11.out.map (fun v : Img => v.d))).seq (G12.out.map (fun v : Img => v.w))) (fun v => rfl) (fun v h => by simp only [Img.eqb, Img.eqN, Img.eqT, Img.eqL, Int.eqb, Txt.eqb, Bool.and_eq_true, decide_eq_true_eq] at h ⊢; obtain ⟨⟨⟨⟨⟨⟨⟨⟨⟨⟨⟨h1, h2⟩, h3⟩, h4⟩, h5⟩, h6⟩, h7⟩, h8⟩, h9⟩, h10⟩, h11⟩, h12⟩ := h; exact ⟨⟨⟨⟨⟨⟨h1, ⟨⟨h4, h5⟩, h6⟩, h7⟩, ⟨h8, h9⟩, h10⟩, h2⟩, h3⟩, h11⟩, h12⟩))⟩
  have KW := Aid.hid (S0.out.trans (S1.out.trans ((((((((((S2.out.trans S3.out).trans S4.out).trans S5.out).trans S6.out).trans S7.out).trans S8.out).trans S9.out).trans S10.out).trans S11.out).trans S12.out)))
  clear BX G1 G2 G4 G5 G6 G7 G8 G9 G10 G11 G12 N1 N2 N3 N4 N5 N6 N7 N8 N9 N10 D1 D2 D3 D4 D6 D7 D8 D9 D10 P1 P2 P3 P4 P6 P7 P8 P9 P10 S0 S1 S2 S3 S4 S5 S6 S7 S8 S9 S10 S11 S12
  have B3 : Hid (Below w.heap.size w (w12.setCell ⟨(w.heap.size + 2), 11, none⟩ (.int .i64 v12))) := Aid.hid (B0.out.trans (KW.out.low (by omega) (by omega) (by rw [SZ0.out]; omega)))
  have Q3 : Hid (Aid.Has (w12.setCell ⟨(w.heap.size + 2), 11, none⟩ (.int .i64 v12)) w.heap.size [.slice none 0 0, .slice none 0 0, .slice none 0 0, .slice none 0 0, .string ⟨#[]⟩, .slice none 0 0, .slice none 0 0, .slice none 0 0, .slice none 0 0, .slice none 0 0, .int .i64 0, .int .i64 0] 29) := Aid.hid ((KW.out.block w.heap.size (by rw [SZ0.out]; omega) (by omega) (by omega)).trans Q0.out)
  have HC := Aid.hid (rlay_is x (w12.setCell ⟨(w.heap.size + 2), 11, none⟩ (.int .i64 v12)) (XF.out.kc (Kc.unwipe _ _) (Nat.le_refl _)) HS.out.len)
  have bx := XB.out
  have e0 := bx.cell 0 _ rfl
  have e1 := bx.cell 1 _ rfl
  have e2 := bx.cell 2 _ rfl
  have e3 := bx.cell 3 _ rfl
  have e4 := bx.cell 4 _ rfl
  have e5 := bx.cell 5 _ rfl
  have e6 := bx.cell 6 _ rfl
  have e7 := bx.cell 7 _ rfl
  have e8 := bx.cell 8 _ rfl
  have e9 := bx.cell 9 _ rfl
  have e10 := bx.cell 10 _ rfl
  have e11 := bx.cell 11 _ rfl
  clear bx KW Q0 B0 SZ0
  go_wp2_with fail
  go_at_call 9
  refine HC.out.mono ?_
  rintro e w4 ⟨hb4, hl⟩
  clear HC e0 e1 e2 e3 e4 e5 e6 e7 e8 e9 e10 e11
  have B4 : Hid (Below w.heap.size w w4) := Aid.hid (B3.out.trans (hb4.mono (by have := SZ.out; omega)))
  have HQ : Hid (Aid.Has w4 w.heap.size [.slice none 0 0, .slice none 0 0, .slice none 0 0, .slice none 0 0, .string ⟨#[]⟩, .slice none 0 0, .slice none 0 0, .slice none 0 0, .slice none 0 0, .slice none 0 0, .int .i64 0, .int .i64 0] 29) := Aid.hid (Q3.out.below hb4 Q3.out.lt)
  have I4 : Hid (Rd2.Is w4 97 (w.heap.size + 1) s12) := Aid.hid (IA.out.low (hb4.mono (by have := SZ.out; omega)))
  have BX : Hid (Aid.Has w4 (w.heap.size + 2) [.slice x.fA x.faces.length x.fc, .slice x.cA x.classes.length x.cc, .slice x.dA x.codes.length x.dc, .slice x.nA x.insts.length x.nc, .string x.globals, .slice x.iA x.init.length x.ic, .slice x.bA x.blocks.length x.bc, .slice x.xA x.ins.length x.xc, .slice x.oA x.outs.length x.oc, .slice x.jA x.jobs.length x.jc, .int .i64 x.d, .int .i64 x.w] 29) := Aid.hid (XB.out.below hb4 XB.out.lt)
  have R4 : Hid (Reads w4 w.heap.size 1 A bs.length (bs.map (Value.int .u8))) := Aid.hid ((HR.out.more hB).below B4.out)
  have BG : Hid (∀ (v : Img) (t : List Int), bs = (Pc.img v).b ++ t → (Pc.img v).x = false → Img.eqb x v = true ∧ Pc.img x = Pc.img v ∧ s12 = ⟨t, false⟩) := Aid.hid (fun v t h1 h2 => BH.out.got G3.out v t h1 h2)
  have FX : Hid (∀ cs, Img.At (fresh (w4.setRow w.heap.size cs) w.heap.size) (w4.setRow w.heap.size cs).heap.size x) := Aid.hid fun cs => XF.out.kc (kc_row3 hb4 (by omega) (by omega) cs) (by rw [row_size]; exact hb4.size)
  have hq4 := HQ.out.lt
  have END : Hid ((∀ v : Img, (Pc.img v).b = bs → (Pc.img v).x = false → False) → Below w.heap.size w (w4.setRow w.heap.size #[.slice none 0 0, .slice none 0 0, .slice none 0 0, .slice none 0 0, .string ⟨#[]⟩, .slice none 0 0, .slice none 0 0, .slice none 0 0, .slice none 0 0, .slice none 0 0, .int .i64 0, .int .i64 0]) ∧ ReadP2 bs w.heap.size (.returned (.tuple #[.agg #[.slice none 0 0, .slice none 0 0, .slice none 0 0, .slice none 0 0, .string ⟨#[]⟩, .slice none 0 0, .slice none 0 0, .slice none 0 0, .slice none 0 0, .slice none 0 0, .int .i64 0, .int .i64 0], .int .i64 19])) (w4.setRow w.heap.size #[.slice none 0 0, .slice none 0 0, .slice none 0 0, .slice none 0 0, .string ⟨#[]⟩, .slice none 0 0, .slice none 0 0, .slice none 0 0, .slice none 0 0, .slice none 0 0, .int .i64 0, .int .i64 0])) := Aid.hid fun hno =>
    ⟨row_below B4.out (Nat.le_refl _) _, Or.inr ⟨rfl, hno⟩⟩
  obtain ⟨B1, d1, bs1, a1, q1, _⟩ := I4.out
  have p2 := q1.cell 2 _ rfl
  clear q1 hb4 BH G3 XF XB IA B3 Q3 SZ
  rcases hl with ⟨hx, rfl⟩ | ⟨hx, A2, c2, rfl, ho⟩
  · have NO := Aid.hid (END.out (fun v h1 h2 => by rw [(BG.out v [] (bs_nil h1) h2).2.1, h2] at hx; cases hx))
    clear hx
    cases hsx : s12.x
    · rw [hsx] at p2
      clear hsx
      go_wp2_with (refine wpList_store_row rfl 29 _ _ rfl w.heap.size #[.slice none 0 0, .slice none 0 0, .slice none 0 0, .slice none 0 0, .string ⟨#[]⟩, .slice none 0 0, .slice none 0 0, .slice none 0 0, .slice none 0 0, .slice none 0 0, .int .i64 0, .int .i64 0] rfl rfl 29 #[.slice none 0 0, .slice none 0 0, .slice none 0 0, .slice none 0 0, .string ⟨#[]⟩, .slice none 0 0, .slice none 0 0, .slice none 0 0, .slice none 0 0, .slice none 0 0, .int .i64 0, .int .i64 0] HQ.out (by kernel_rfl) rfl (by simp [Value.oneCell']) ?_)
      refine bodyPost_ret (v := .tuple #[.agg #[.slice none 0 0, .slice none 0 0, .slice none 0 0, .slice none 0 0, .string ⟨#[]⟩, .slice none 0 0, .slice none 0 0, .slice none 0 0, .slice none 0 0, .slice none 0 0, .int .i64 0, .int .i64 0], .int .i64 19]) (results_row2 rfl _ _ w.heap.size 29 #[.slice none 0 0, .slice none 0 0, .slice none 0 0, .slice none 0 0, .string ⟨#[]⟩, .slice none 0 0, .slice none 0 0, .slice none 0 0, .slice none 0 0, .slice none 0 0, .int .i64 0, .int .i64 0] (0, 0) _ _ rfl rfl (row_has (ys := [.slice none 0 0, .slice none 0 0, .slice none 0 0, .slice none 0 0, .string ⟨#[]⟩, .slice none 0 0, .slice none 0 0, .slice none 0 0, .slice none 0 0, .slice none 0 0, .int .i64 0, .int .i64 0]) HQ.out) Tryz.underlying29 rfl (by kernel_rfl)) rfl ?_
      exact NO.out
    · rw [hsx] at p2
      clear hsx
      go_wp2_with (refine wpList_store_row rfl 29 _ _ rfl w.heap.size #[.slice none 0 0, .slice none 0 0, .slice none 0 0, .slice none 0 0, .string ⟨#[]⟩, .slice none 0 0, .slice none 0 0, .slice none 0 0, .slice none 0 0, .slice none 0 0, .int .i64 0, .int .i64 0] rfl rfl 29 #[.slice none 0 0, .slice none 0 0, .slice none 0 0, .slice none 0 0, .string ⟨#[]⟩, .slice none 0 0, .slice none 0 0, .slice none 0 0, .slice none 0 0, .slice none 0 0, .int .i64 0, .int .i64 0] HQ.out (by kernel_rfl) rfl (by simp [Value.oneCell']) ?_)
      refine bodyPost_ret (v := .tuple #[.agg #[.slice none 0 0, .slice none 0 0, .slice none 0 0, .slice none 0 0, .string ⟨#[]⟩, .slice none 0 0, .slice none 0 0, .slice none 0 0, .slice none 0 0, .slice none 0 0, .int .i64 0, .int .i64 0], .int .i64 19]) (results_row2 rfl _ _ w.heap.size 29 #[.slice none 0 0, .slice none 0 0, .slice none 0 0, .slice none 0 0, .string ⟨#[]⟩, .slice none 0 0, .slice none 0 0, .slice none 0 0, .slice none 0 0, .slice none 0 0, .int .i64 0, .int .i64 0] (0, 0) _ _ rfl rfl (row_has (ys := [.slice none 0 0, .slice none 0 0, .slice none 0 0, .slice none 0 0, .string ⟨#[]⟩, .slice none 0 0, .slice none 0 0, .slice none 0 0, .slice none 0 0, .slice none 0 0, .int .i64 0, .int .i64 0]) HQ.out) Tryz.underlying29 rfl (by kernel_rfl)) rfl ?_
      exact NO.out
  · cases hsx : s12.x
    · rw [hsx] at p2
      clear hsx
      have T1 := Rd.str w4 w.heap.size A bs c R4.out
      have T2 := Rd.str w4 w4.heap.size A2 (Pc.img x).b c2 (Reads.of_own ho)
      cases hr : ((strOfNums (Pc.img x).b).toList == (strOfNums bs).toList)
      · have NO := Aid.hid (END.out (fun v h1 h2 => by rw [(BG.out v [] (bs_nil h1) h2).2.1, h1] at hr; simp at hr))
        clear hx ho
        go_wp2_with (refine wpList_store_row rfl 29 _ _ rfl w.heap.size #[.slice none 0 0, .slice none 0 0, .slice none 0 0, .slice none 0 0, .string ⟨#[]⟩, .slice none 0 0, .slice none 0 0, .slice none 0 0, .slice none 0 0, .slice none 0 0, .int .i64 0, .int .i64 0] rfl rfl 29 #[.slice none 0 0, .slice none 0 0, .slice none 0 0, .slice none 0 0, .string ⟨#[]⟩, .slice none 0 0, .slice none 0 0, .slice none 0 0, .slice none 0 0, .slice none 0 0, .int .i64 0, .int .i64 0] HQ.out (by kernel_rfl) rfl (by simp [Value.oneCell']) ?_)
        refine bodyPost_ret (v := .tuple #[.agg #[.slice none 0 0, .slice none 0 0, .slice none 0 0, .slice none 0 0, .string ⟨#[]⟩, .slice none 0 0, .slice none 0 0, .slice none 0 0, .slice none 0 0, .slice none 0 0, .int .i64 0, .int .i64 0], .int .i64 19]) (results_row2 rfl _ _ w.heap.size 29 #[.slice none 0 0, .slice none 0 0, .slice none 0 0, .slice none 0 0, .string ⟨#[]⟩, .slice none 0 0, .slice none 0 0, .slice none 0 0, .slice none 0 0, .slice none 0 0, .int .i64 0, .int .i64 0] (0, 0) _ _ rfl rfl (row_has (ys := [.slice none 0 0, .slice none 0 0, .slice none 0 0, .slice none 0 0, .string ⟨#[]⟩, .slice none 0 0, .slice none 0 0, .slice none 0 0, .slice none 0 0, .slice none 0 0, .int .i64 0, .int .i64 0]) HQ.out) Tryz.underlying29 rfl (by kernel_rfl)) rfl ?_
        exact NO.out
      · have EQ : Hid ((Pc.img x).b = bs) := Aid.hid (str_inj (Byt.img x) HY.out hr)
        have HXX := Aid.hid hx
        clear hx ho
        have z0 := BX.out.cell 0 _ rfl
        have z1 := BX.out.cell 1 _ rfl
        have z2 := BX.out.cell 2 _ rfl
        have z3 := BX.out.cell 3 _ rfl
        have z4 := BX.out.cell 4 _ rfl
        have z5 := BX.out.cell 5 _ rfl
        have z6 := BX.out.cell 6 _ rfl
        have z7 := BX.out.cell 7 _ rfl
        have z8 := BX.out.cell 8 _ rfl
        have z9 := BX.out.cell 9 _ rfl
        have z10 := BX.out.cell 10 _ rfl
        have z11 := BX.out.cell 11 _ rfl
        go_wp2_with (refine wpList_store_row rfl 29 _ _ rfl w.heap.size #[.slice x.fA x.faces.length x.fc, .slice x.cA x.classes.length x.cc, .slice x.dA x.codes.length x.dc, .slice x.nA x.insts.length x.nc, .string x.globals, .slice x.iA x.init.length x.ic, .slice x.bA x.blocks.length x.bc, .slice x.xA x.ins.length x.xc, .slice x.oA x.outs.length x.oc, .slice x.jA x.jobs.length x.jc, .int .i64 x.d, .int .i64 x.w] rfl rfl 29 #[.slice none 0 0, .slice none 0 0, .slice none 0 0, .slice none 0 0, .string ⟨#[]⟩, .slice none 0 0, .slice none 0 0, .slice none 0 0, .slice none 0 0, .slice none 0 0, .int .i64 0, .int .i64 0] HQ.out (by kernel_rfl) rfl (by simp [Value.oneCell']) ?_)
        refine bodyPost_ret (v := .tuple #[.agg #[.slice x.fA x.faces.length x.fc, .slice x.cA x.classes.length x.cc, .slice x.dA x.codes.length x.dc, .slice x.nA x.insts.length x.nc, .string x.globals, .slice x.iA x.init.length x.ic, .slice x.bA x.blocks.length x.bc, .slice x.xA x.ins.length x.xc, .slice x.oA x.outs.length x.oc, .slice x.jA x.jobs.length x.jc, .int .i64 x.d, .int .i64 x.w], .int .i64 0]) (results_row2 rfl _ _ w.heap.size 29 #[.slice x.fA x.faces.length x.fc, .slice x.cA x.classes.length x.cc, .slice x.dA x.codes.length x.dc, .slice x.nA x.insts.length x.nc, .string x.globals, .slice x.iA x.init.length x.ic, .slice x.bA x.blocks.length x.bc, .slice x.xA x.ins.length x.xc, .slice x.oA x.outs.length x.oc, .slice x.jA x.jobs.length x.jc, .int .i64 x.d, .int .i64 x.w] (0, 0) _ _ rfl rfl (row_has (ys := [.slice x.fA x.faces.length x.fc, .slice x.cA x.classes.length x.cc, .slice x.dA x.codes.length x.dc, .slice x.nA x.insts.length x.nc, .string x.globals, .slice x.iA x.init.length x.ic, .slice x.bA x.blocks.length x.bc, .slice x.xA x.ins.length x.xc, .slice x.oA x.outs.length x.oc, .slice x.jA x.jobs.length x.jc, .int .i64 x.d, .int .i64 x.w]) HQ.out) Tryz.underlying29 rfl (by kernel_rfl)) rfl ?_
        exact ⟨row_below B4.out (Nat.le_refl _) _, Or.inl ⟨x, rfl, FX.out _, HS.out, EQ.out, HXX.out⟩⟩
    · have NO := Aid.hid (END.out (fun v h1 h2 => by rw [(BG.out v [] (bs_nil h1) h2).2.2] at hsx; cases hsx))
      rw [hsx] at p2
      clear hx ho hsx
      go_wp2_with (refine wpList_store_row rfl 29 _ _ rfl w.heap.size #[.slice none 0 0, .slice none 0 0, .slice none 0 0, .slice none 0 0, .string ⟨#[]⟩, .slice none 0 0, .slice none 0 0, .slice none 0 0, .slice none 0 0, .slice none 0 0, .int .i64 0, .int .i64 0] rfl rfl 29 #[.slice none 0 0, .slice none 0 0, .slice none 0 0, .slice none 0 0, .string ⟨#[]⟩, .slice none 0 0, .slice none 0 0, .slice none 0 0, .slice none 0 0, .slice none 0 0, .int .i64 0, .int .i64 0] HQ.out (by kernel_rfl) rfl (by simp [Value.oneCell']) ?_)
      refine bodyPost_ret (v := .tuple #[.agg #[.slice none 0 0, .slice none 0 0, .slice none 0 0, .slice none 0 0, .string ⟨#[]⟩, .slice none 0 0, .slice none 0 0, .slice none 0 0, .slice none 0 0, .slice none 0 0, .int .i64 0, .int .i64 0], .int .i64 19]) (results_row2 rfl _ _ w.heap.size 29 #[.slice none 0 0, .slice none 0 0, .slice none 0 0, .slice none 0 0, .string ⟨#[]⟩, .slice none 0 0, .slice none 0 0, .slice none 0 0, .slice none 0 0, .slice none 0 0, .int .i64 0, .int .i64 0] (0, 0) _ _ rfl rfl (row_has (ys := [.slice none 0 0, .slice none 0 0, .slice none 0 0, .slice none 0 0, .string ⟨#[]⟩, .slice none 0 0, .slice none 0 0, .slice none 0 0, .slice none 0 0, .slice none 0 0, .int .i64 0, .int .i64 0]) HQ.out) Tryz.underlying29 rfl (by kernel_rfl)) rfl ?_
      exact NO.out
end Go.Proofs.YtaogegeidbclaaaGreatDoor
