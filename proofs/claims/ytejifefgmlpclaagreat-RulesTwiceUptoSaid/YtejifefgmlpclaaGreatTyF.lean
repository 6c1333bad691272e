/- Parts of typing, as walks: whose. -/
import Derived.Test.YtejifefgmlpclaaGreatTyE
import Derived.Test.YtejifefgmlpclaaGreatTabC
import Derived.StillTail
import Derived.StillTailTactics
import Derived.WalkKit
import Derived.WalkSpells
import Derived.WalkLawsBesides
import Derived.LoopTactic
import Derived.Deep.QuietTactic
import Derived.BigQuiet
import Derived.Below
import Derived.Laws.ResultCell
import Derived.Laws.Tables
import Derived.Laws.Rows
import Derived.Deep.Cut
import Derived.KernelRfl
set_option linter.unusedSimpArgs false
set_option linter.unusedVariables false
namespace Go.Proofs.YtejifefgmlpclaaGreat
open Go.RowKit

set_option maxRecDepth 100000 in
set_option maxHeartbeats 4000000 in
theorem whose_is (B b : Nat) (p : Pl) (a : Pa) (e : Ex) (d c : Int) (w : World) (hr : Ty.whose p e.n e.name = (d, c)) (h : PlAt w B b p a) :
    Calls Tryz.prog 90 #[.pointer (some ⟨b, 0, none⟩), .agg #[.int .i64 e.k, .int .i64 e.n, .string e.name, .string e.what, .slice e.A e.args.length e.c]] w fun r w' => r = .returned (.tuple #[.int .i64 d, .int .i64 c]) ∧ Below w.heap.size w w' := by
  have P0 := Aid.Has.new w [.int .i64 e.k, .int .i64 e.n, .string e.name, .string e.what, .slice e.A e.args.length e.c] 79
  have k0 := below_new w (.cells #[.int .i64 e.k, .int .i64 e.n, .string e.name, .string e.what, .slice e.A e.args.length e.c] 79)
  have HR := Aid.hid hr
  have HH := Aid.hid h
  obtain ⟨W, hW⟩ : ∃ W, w.alloc (.cells #[.int .i64 e.k, .int .i64 e.n, .string e.name, .string e.what, .slice e.A e.args.length e.c] 79) = W := ⟨_, rfl⟩
  rw [hW] at P0 k0
  have b1 := P0.cell 1 _ rfl
  have b2 := P0.cell 2 _ rfl
  have lp := P0.lt
  have HP := (h.below k0).has
  have a0 := HP.cell 0 _ rfl
  have a1 := HP.cell 1 _ rfl
  have a2 := HP.cell 2 _ rfl
  have la := HP.lt
  have K0 := Aid.hid k0
  clear hr h P0 k0 HP
  obtain ⟨q0, h0⟩ : ∃ q, (e.n == 0) = q := ⟨_, rfl⟩
  cases q0
  · obtain ⟨q1, h1⟩ : ∃ q, (e.n == 1) = q := ⟨_, rfl⟩
    have g0 : ¬ e.n = 0 := by simpa using h0
    cases q1
    · obtain ⟨q2, h2⟩ : ∃ q, (e.n == 2) = q := ⟨_, rfl⟩
      have g1 : ¬ e.n = 1 := by simpa using h1
      cases q2
      · have g2 : ¬ e.n = 2 := by simpa using h2
        obtain ⟨rfl, rfl⟩ : -1 = d ∧ 14 = c := by have := HR.out; simpa [Ty.whose, g0, g1, g2] using this
        clear g0 g1 g2
        go_enter Tryz.func90, Tryz.ntmps90
        try simp only [List.append_eq, List.cons_append, List.nil_append]
        go_wp2_with fail
        go_ret2
        exact ⟨rfl, K0.out⟩
      · have g2 : e.n = 2 := by simpa using h2
        have hr : (if p.me.isNone = true ∨ (Tb.chain p.u p.d).length < 2 then ((-1 : Int), (15 : Int)) else ((Tb.chain p.u p.d)[1]?.getD 0, 0)) = (d, c) := by have := HR.out; simpa [Ty.whose, g0, g1, g2] using this
        obtain ⟨ch, hch⟩ : ∃ ch, Tb.chain p.u p.d = ch := ⟨_, rfl⟩
        have hcl : ch.length ≤ 1000000000 := by have := Tb.chain_len p.u p.d; have := HH.out.unit.small; rw [hch] at *; omega
        rw [hch] at hr
        have HR := Aid.hid hr
        have HC := Aid.hid hch
        clear hr hch g0 g1 g2
        go_enter Tryz.func90, Tryz.ntmps90
        try simp only [List.append_eq, List.cons_append, List.nil_append]
        go_wp2_with fail
        clear hW b1 b2 lp
        go_still_tail 8, (by kernel_rfl)
        change wpList _ _ _ _ _ W.drew
        have k0 := K0.out.drew
        clear a0 a1 a2 la K0
        generalize W.drew = w2 at *
        have HP := HH.out.below k0
        go_wp2_with fail
        refine (chain_is p.u a.uA B a.uc p.d ch _ HC.out HP.unit HP.le).mono ?_; rintro _ w3 ⟨A, cp, rfl, ow, hb3⟩
        have K3 := Aid.hid (k0.trans (hb3.mono k0.size))
        have HP3 := (HH.out.below K3.out)
        have a2 := HP3.has.cell 2 _ rfl
        have la := HP3.has.lt
        have I := Aid.hid (IntsAt.of_own ow)
        cases hme : p.me with
        | none =>
          have hmp := HP3.mno hme
          rw [hmp] at a2
          obtain ⟨rfl, rfl⟩ : -1 = d ∧ 15 = c := by have := HR.out; simpa [hme] using this
          clear HP HP3 k0 hb3 ow hme hmp
          go_wp2_with fail
          go_ret2
          exact ⟨rfl, K3.out⟩
        | some m =>
          obtain ⟨g, hmp, _⟩ := HP3.mhas m hme
          rw [hmp] at a2
          by_cases hl : ch.length < 2
          · obtain ⟨rfl, rfl⟩ : -1 = d ∧ 15 = c := by have := HR.out; simpa [hme, hl] using this
            have hl2 : decide ((ch.length : Int) < 2) = true := decide_eq_true (by omega)
            clear HP HP3 k0 hb3 ow hme hmp
            go_wp2_with fail
            go_ret2
            exact ⟨rfl, K3.out⟩
          · obtain ⟨z, hz⟩ : ∃ z, ch[1]? = some z := ⟨_, List.getElem?_eq_getElem (by omega)⟩
            obtain ⟨rfl, rfl⟩ : z = d ∧ 0 = c := by have := HR.out; simpa [hme, hl, hz] using this
            have hl2 : decide ((ch.length : Int) < 2) = false := decide_eq_false (by omega)
            have hl3 : (1 : Int) < (ch.length : Int) := by omega
            obtain ⟨ad, hA, _, hc⟩ := IntsAt.at_ I.out (k := 1) (by omega)
            obtain ⟨g9, cp9, hv9, _, _⟩ := ow.form (by omega)
            obtain ⟨rfl, rfl⟩ : A = some ⟨g9, 0, none⟩ ∧ cp = cp9 := by simpa using hv9
            obtain rfl := Option.some.inj hA
            have cz : w3.cell? ⟨g9, 1, none⟩ = some (.int .i64 z) := by simpa [Addr.add] using hc 1 z hz
            clear hA hv9
            clear HP HP3 k0 hb3 ow hme hmp hc hz hl
            go_wp2_with fail
            go_ret2
            exact ⟨rfl, K3.out⟩
    · have g1 : e.n = 1 := by simpa using h1
      have hr : (if p.me.isNone = true then ((-1 : Int), (15 : Int)) else (p.d, 0)) = (d, c) := by have := HR.out; simpa [Ty.whose, g0, g1] using this
      have HP3 := HH.out.below K0.out
      cases hme : p.me with
      | none =>
        have hmp := HP3.mno hme
        rw [hmp] at a2
        obtain ⟨rfl, rfl⟩ : -1 = d ∧ 15 = c := by simpa [hme] using hr
        clear HP3 hme hmp hr g0 g1
        go_enter Tryz.func90, Tryz.ntmps90
        try simp only [List.append_eq, List.cons_append, List.nil_append]
        go_wp2_with fail
        go_ret2
        exact ⟨rfl, K0.out⟩
      | some m =>
        obtain ⟨g, hmp, _⟩ := HP3.mhas m hme
        rw [hmp] at a2
        obtain ⟨rfl, rfl⟩ : p.d = d ∧ 0 = c := by simpa [hme] using hr
        clear HP3 hme hmp hr g0 g1
        go_enter Tryz.func90, Tryz.ntmps90
        try simp only [List.append_eq, List.cons_append, List.nil_append]
        go_wp2_with fail
        go_ret2
        exact ⟨rfl, K0.out⟩
  · have g0 : e.n = 0 := by simpa using h0
    obtain ⟨o, ho⟩ : ∃ o, p.var e.name = o := ⟨_, rfl⟩
    have hr : ∀ o, p.var e.name = o → (match o with | none => ((-1 : Int), (13 : Int)) | some v => if v.ty.k ≠ 6 ∧ (v.ty.k ≠ 5 ∨ v.ty.name.toList.isEmpty = true) then (-1, 14) else if Tb.typed p.u v.ty.name = false then (-1, 13) else (Tb.find p.u v.ty.name, 0)) = (d, c) := by
      rintro _ rfl
      rw [← HR.out, Ty.whose, if_pos g0]
      cases p.var e.name <;> rfl
    have HR := Aid.hid (hr o ho)
    have HO := Aid.hid ho
    clear hr ho g0
    go_enter Tryz.func90, Tryz.ntmps90
    try simp only [List.append_eq, List.cons_append, List.nil_append]
    go_wp2_with fail
    clear hW b1 b2 a0 a1 a2
    cases o with
    | none =>
      refine (visible_x B b p a e.name none Vd.zero false _ (HH.out.below K0.out) HO.out rfl rfl).mono ?_; rintro _ w1 ⟨rfl, hb1⟩
      obtain ⟨rfl, rfl⟩ : -1 = d ∧ 13 = c := by have := HR.out; simpa using this
      have KW := Aid.hid (K0.out.trans (hb1.mono K0.out.size))
      clear hb1
      go_wp2_with fail
      go_ret2
      exact ⟨rfl, KW.out.alloc KW.out.size _⟩
    | some v =>
      refine (visible_x B b p a e.name (some v) v true _ (HH.out.below K0.out) HO.out rfl rfl).mono ?_; rintro _ w1 ⟨rfl, hb1⟩
      have kw1 := K0.out.trans (hb1.mono K0.out.size)
      have n6 := Aid.Has.new w1 [.string v.name, .int .i64 v.ty.k, .int .i64 v.ty.lo, .int .i64 v.ty.hi, .string v.ty.name, .int .i64 v.init, .int .i64 v.dir, .int .i64 v.slot] 55
      have kx := kw1.alloc kw1.size (.cells #[.string v.name, .int .i64 v.ty.k, .int .i64 v.ty.lo, .int .i64 v.ty.hi, .string v.ty.name, .int .i64 v.init, .int .i64 v.dir, .int .i64 v.slot] 55)
      obtain ⟨X, hX⟩ : ∃ X, w1.alloc (.cells #[.string v.name, .int .i64 v.ty.k, .int .i64 v.ty.lo, .int .i64 v.ty.hi, .string v.ty.name, .int .i64 v.init, .int .i64 v.dir, .int .i64 v.slot] 55) = X := ⟨_, rfl⟩
      rw [hX] at n6 kx
      have i1 := n6.cell 1 _ rfl
      have i4 := n6.cell 4 _ rfl
      have l6 := n6.lt
      have HP := HH.out.below kx
      have a0 := HP.has.cell 0 _ rfl
      have a1 := HP.has.cell 1 _ rfl
      have la := HP.has.lt
      have KX := Aid.hid kx
      have N6 := Aid.hid n6
      clear hb1 kw1 n6 kx HP HO
      obtain ⟨q6, h6⟩ : ∃ q, (v.ty.k != 6) = q := ⟨_, rfl⟩
      obtain ⟨q5, h5⟩ : ∃ q, (v.ty.k != 5) = q := ⟨_, rfl⟩
      by_cases hbad : v.ty.k ≠ 6 ∧ (v.ty.k ≠ 5 ∨ v.ty.name.toList.isEmpty = true)
      · obtain ⟨rfl, rfl⟩ : -1 = d ∧ 14 = c := by have := HR.out; simp only [if_pos hbad] at this; simpa using this
        obtain ⟨g6, g5⟩ := hbad
        obtain rfl : true = q6 := by rw [← h6]; simp [g6]
        cases q5
        · have hn : v.ty.name.toList.isEmpty = true := by
            rcases g5 with g5 | g5
            · exact absurd (by simpa using h5) g5
            · exact g5
          clear g6 g5
          go_wp2_with fail
          go_ret2
          exact ⟨rfl, KX.out⟩
        · clear g6 g5
          go_wp2_with fail
          go_ret2
          exact ⟨rfl, KX.out⟩
      · obtain ⟨r, htr⟩ : ∃ r, Tb.typed p.u v.ty.name = r := ⟨_, rfl⟩
        have hr : (if r = false then ((-1 : Int), (13 : Int)) else (Tb.find p.u v.ty.name, 0)) = (d, c) := by have := HR.out; simp only [if_neg hbad, htr] at this; exact this
        have HR := Aid.hid hr
        have HTR := Aid.hid htr
        have hcase : q6 = false ∨ (q6 = true ∧ q5 = false ∧ v.ty.name.toList.isEmpty = false) := by
          cases q6
          · exact .inl rfl
          · right
            have g6 : v.ty.k ≠ 6 := by simpa using h6
            have g5 : ¬ (v.ty.k ≠ 5 ∨ v.ty.name.toList.isEmpty = true) := fun h => hbad ⟨g6, h⟩
            refine ⟨rfl, ?_, ?_⟩
            · rw [← h5]; simp at g5 ⊢; exact g5.1
            · cases hh : v.ty.name.toList.isEmpty
              · rfl
              · exact absurd (.inr hh) g5
        clear hr htr hbad
        rcases hcase with rfl | ⟨rfl, rfl, hne⟩
        all_goals
          go_wp2_with fail
          clear hX
          go_still_tail 7, (by kernel_rfl)
          change wpList _ _ _ _ _ X.drew
          have k0 := KX.out.drew
          have n6 := N6.out.drew
          clear a0 a1 i1 i4 l6 la KX N6
          generalize X.drew = w2 at *
          have HP := HH.out.below k0
          go_wp2_with fail
          refine (typed_is p.u a.uA B a.uc v.ty.name r _ HTR.out HP.unit HP.le).mono ?_; rintro _ w3 ⟨rfl, hb3⟩
          have kx := k0.trans (hb3.mono k0.size)
          have n6 := n6.below hb3 n6.lt
          have HP := HP.below hb3
          clear k0 hb3
          have i4 := n6.cell 4 _ rfl
          have l6 := n6.lt
          have a0 := HP.has.cell 0 _ rfl
          have la := HP.has.lt
          have KX := Aid.hid kx
          have HPH := Aid.hid HP
          clear kx n6 HP
          cases r
          · obtain ⟨rfl, rfl⟩ : -1 = d ∧ 13 = c := by have := HR.out; simpa using this
            go_wp2_with fail
            go_ret2
            exact ⟨rfl, KX.out⟩
          · obtain ⟨rfl, rfl⟩ : Tb.find p.u v.ty.name = d ∧ 0 = c := by have := HR.out; simpa using this
            go_wp2_with fail
            go_still_tail 7, (by kernel_rfl)
            change wpList _ _ _ _ _ w3.drew
            have k0 := KX.out.drew
            have HP := HPH.out.drew
            clear a0 i4 l6 la KX HPH
            generalize w3.drew = w4 at *
            go_wp2_with fail
            refine (find_is p.u a.uA B a.uc v.ty.name _ _ rfl HP.unit HP.le).mono ?_; rintro _ w5 ⟨rfl, hb5⟩
            have kx := k0.trans (hb5.mono k0.size)
            clear k0 hb5 HP
            go_wp2_with fail
            go_ret2
            exact ⟨rfl, kx⟩
end Go.Proofs.YtejifefgmlpclaaGreat
