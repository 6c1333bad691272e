/- Parts of typing, as walks: a Return, a statement that changes a variable. -/
import Derived.Test.YtejifefgmlpclaaGreatTyJ
import Derived.StillTail
import Derived.StillTailTactics
import Derived.WalkKit
import Derived.WalkSpells
import Derived.WalkLawsBesides
import Derived.LoopTactic
import Derived.Deep.QuietTactic
import Derived.BigQuiet
import Derived.Below
import Derived.Laws.ResultCell
import Derived.Laws.Tables
import Derived.Laws.Rows
import Derived.Deep.Cut
import Derived.KernelRfl
set_option linter.unusedSimpArgs false
set_option linter.unusedVariables false
namespace Go.Proofs.YtejifefgmlpclaaGreat
open Go.RowKit

set_option maxRecDepth 100000 in
set_option maxHeartbeats 4000000 in
theorem returned_is (f B b : Nat) (p : Pl) (a : Pa) (s : St) (r : Int) (w : World) (hX : ∀ x ∈ s.es, ExOK f B b p a x) (hr : Ty.returned p (s.es.map (Ty.expr p)) = r) (h : PlAt w B b p a) (he : ExsAt (f + 1) w B s.eA s.es) (hlim : s.es.length ≤ 1000000000) :
    Calls Tryz.prog 83 #[.pointer (some ⟨b, 0, none⟩), .agg #[.int .i64 s.k, .int .i64 s.n, .string s.name, .slice s.eA s.es.length s.ec, .slice s.lA s.ls.length s.lc, .slice s.bA s.bs.length s.bc]] w fun z w' => z = .returned (.int .i64 r) ∧ Below w.heap.size w w' := by
  have n3 := Aid.Has.new w [.int .i64 s.k, .int .i64 s.n, .string s.name, .slice s.eA s.es.length s.ec, .slice s.lA s.ls.length s.lc, .slice s.bA s.bs.length s.bc] 60
  have k0 := below_new w (.cells #[.int .i64 s.k, .int .i64 s.n, .string s.name, .slice s.eA s.es.length s.ec, .slice s.lA s.ls.length s.lc, .slice s.bA s.bs.length s.bc] 60)
  have HR := Aid.hid hr
  have HX := Aid.hid hX
  have HH := Aid.hid h
  have HE := Aid.hid he
  have HLI := Aid.hid hlim
  have hB := h.le
  obtain ⟨W, hW⟩ : ∃ W, w.alloc (.cells #[.int .i64 s.k, .int .i64 s.n, .string s.name, .slice s.eA s.es.length s.ec, .slice s.lA s.ls.length s.lc, .slice s.bA s.bs.length s.bc] 60) = W := ⟨_, rfl⟩
  rw [hW] at n3 k0
  have b3 := n3.cell 3 _ rfl
  have l3 := n3.lt
  have HP := h.below k0
  have a0 := HP.has.cell 0 _ rfl
  have a2 := HP.has.cell 2 _ rfl
  have la := HP.has.lt
  have K0 := Aid.hid k0
  have hes : ∃ an, p.answers = an := ⟨_, rfl⟩
  obtain ⟨an, han⟩ := hes
  have HAN := Aid.hid han
  have key : (p.me = none ∧ an = false ∧ a.mp = none) ∨ ∃ m g, p.me = some m ∧ a.mp = some ⟨g, 0, none⟩ ∧ Aid.Has W g m.cells 46 ∧ (m.res.k != 0) = an ∧ p.res = m.res := by
    cases hme : p.me with
    | none => exact .inl ⟨rfl, by rw [← han, Pl.answers, hme], HP.mno hme⟩
    | some m =>
      obtain ⟨g, h1, h2⟩ := HP.mhas m hme
      exact .inr ⟨m, g, rfl, h1, h2, by rw [← han, Pl.answers, hme]; simp [bne, Bool.beq_eq_decide_eq], by rw [Pl.res, hme]⟩
  have KEY := Aid.hid key
  clear hX hr h he n3 k0 HP hlim han key
  obtain ⟨L, hes⟩ : ∃ L, s.es = L := ⟨_, rfl⟩
  cases L with
  | nil =>
    have hr : (if an = true then (14 : Int) else 0) = r := by rw [← HR.out, hes, ← HAN.out]; rfl
    have h0 : s.es.length = 0 := by rw [hes]; rfl
    rw [h0] at hW b3 ⊢
    rcases KEY.out with ⟨_, rfl, hm⟩ | ⟨m, g, _, hm, hg, hk, _⟩
    · rw [hm] at a2
      obtain rfl : 0 = r := by simpa using hr
      clear hes hm hr h0 HR
      go_enter Tryz.func83, Tryz.ntmps83
      try simp only [List.append_eq, List.cons_append, List.nil_append]
      go_wp2_with fail
      go_ret
      exact ⟨rfl, K0.out⟩
    · rw [hm] at a2
      have m5 := hg.cell 5 _ rfl
      have lg := hg.lt
      cases an
      · obtain rfl : 0 = r := by simpa using hr
        clear hes hm hr h0 HR hg
        go_enter Tryz.func83, Tryz.ntmps83
        try simp only [List.append_eq, List.cons_append, List.nil_append]
        go_wp2_with fail
        go_ret
        exact ⟨rfl, K0.out⟩
      · obtain rfl : 14 = r := by simpa using hr
        clear hes hm hr h0 HR hg
        go_enter Tryz.func83, Tryz.ntmps83
        try simp only [List.append_eq, List.cons_append, List.nil_append]
        go_wp2_with fail
        go_ret
        exact ⟨rfl, K0.out⟩
  | cons x l =>
    obtain ⟨⟨t1, c1⟩, h1⟩ : ∃ q, Ty.expr p x = q := ⟨_, rfl⟩
    have hr : (if c1 = 0 ∧ (an = false ∨ Ty.fits p.u p.res t1 = false) then (14 : Int) else c1) = r := by rw [← HR.out, hes, List.map_cons, h1, ← HAN.out]; rfl
    have HRR := Aid.hid hr
    have HES := Aid.hid hes
    obtain ⟨n, hn⟩ : ∃ n, s.es.length = n + 1 := ⟨l.length, by rw [hes]; rfl⟩
    have hn2 : n + 1 ≤ 1000000000 := by rw [← hn]; exact HLI.out
    rw [hn] at hW b3 ⊢
    obtain ⟨eb, off, hA, hebB, hc, hs⟩ := Ex.at1 (HE.out.below K0.out hB) (i := 0) (e := x) (by rw [hes]; rfl)
    have HC := Aid.hid (HX.out x (by rw [hes]; simp) W t1 c1 h1 (HH.out.below K0.out) hs)
    rw [hA] at hW b3 ⊢
    have c0 := hc 0 _ rfl
    have d1 := hc 1 _ rfl
    have d2 := hc 2 _ rfl
    have d3 := hc 3 _ rfl
    have d4 := hc 4 _ rfl
    simp only [Nat.add_zero, Nat.zero_mul] at c0 d1 d2 d3 d4
    have leb : eb < W.heap.size := by have := K0.out.size; omega
    clear hr hes hA hc hs h1 hn HR HX
    have fin_ : ∀ (R : Int) (w' : World), Below w.heap.size w w' → Ending.returned (.int .i64 R) = Ending.returned (.int .i64 R) ∧ Below w.heap.size w w' := fun _ _ h => ⟨rfl, h⟩
    rcases KEY.out with ⟨_, rfl, hm⟩ | ⟨m, g, _, hm, hg, hk, hres⟩
    · rw [hm] at a2
      clear hm KEY
      go_enter Tryz.func83, Tryz.ntmps83
      try simp only [List.append_eq, List.cons_append, List.nil_append]
      go_wp2_with fail
      clear hW
      refine HC.out.mono ?_; rintro _ w1 ⟨rfl, hb1⟩
      have KW := Aid.hid ((K0.out.trans (hb1.mono K0.out.size)).alloc (K0.out.trans (hb1.mono K0.out.size)).size (.cells #[.int .i64 t1.k, .int .i64 t1.lo, .int .i64 t1.hi, .string t1.name] 44))
      clear hb1 HC c0 d1 d2 d3 d4 a0 a2 la b3 l3
      by_cases hc : c1 = 0
      · subst hc
        obtain rfl : 14 = r := by have := HRR.out; simpa using this
        go_wp2_with fail
        go_quiet (fail)
        go_wp2_with fail
        go_ret
        exact ⟨rfl, Fl_drewN KW.out _⟩
      · obtain rfl : c1 = r := by have := HRR.out; simpa [hc] using this
        have hc2 : (c1 == 0) = false := by simpa using hc
        go_wp2_with fail
        go_quiet (fail)
        go_wp2_with fail
        go_ret
        exact ⟨rfl, Fl_drewN KW.out _⟩
    · rw [hm] at a2
      have m5 := hg.cell 5 _ rfl
      have lg := hg.lt
      have HG := Aid.hid hg
      have HRES := Aid.hid hres
      clear hg KEY hres
      go_enter Tryz.func83, Tryz.ntmps83
      try simp only [List.append_eq, List.cons_append, List.nil_append]
      go_wp2_with fail
      clear hW
      refine HC.out.mono ?_; rintro _ w1 ⟨rfl, hb1⟩
      have k1 := K0.out.trans (hb1.mono K0.out.size)
      have kx := k1.alloc k1.size (.cells #[.int .i64 t1.k, .int .i64 t1.lo, .int .i64 t1.hi, .string t1.name] 44)
      have g1 := (HG.out.below hb1 HG.out.lt).alloc (.cells #[.int .i64 t1.k, .int .i64 t1.lo, .int .i64 t1.hi, .string t1.name] 44)
      have n6 := Aid.Has.new w1 [.int .i64 t1.k, .int .i64 t1.lo, .int .i64 t1.hi, .string t1.name] 44
      obtain ⟨X, hX⟩ : ∃ X, w1.alloc (.cells #[.int .i64 t1.k, .int .i64 t1.lo, .int .i64 t1.hi, .string t1.name] 44) = X := ⟨_, rfl⟩
      rw [hX] at kx g1 n6
      have KX := Aid.hid kx
      clear hb1 k1 HC c0 d1 d2 d3 d4 a0 a2 la b3 l3 m5 lg HG
      by_cases hc : c1 = 0
      · subst hc
        cases an
        · obtain rfl : 14 = r := by have := HRR.out; simpa using this
          clear kx g1 n6
          go_wp2_with fail
          clear hX
          go_quiet (fail)
          go_wp2_with fail
          go_ret
          exact ⟨rfl, Fl_drewN KX.out _⟩
        · obtain ⟨q, hq⟩ : ∃ q, Ty.fits p.u m.res t1 = q := ⟨_, rfl⟩
          have HF := Aid.hid hq
          have hr : (if q = false then (14 : Int) else 0) = r := by have := HRR.out; rw [HRES.out, hq] at this; simpa using this
          have HRR := Aid.hid hr
          have HP := HH.out.below kx
          have a0 := HP.has.cell 0 _ rfl
          have a2 := HP.has.cell 2 _ rfl
          have la := HP.has.lt
          have hmp : a.mp = some ⟨g, 0, none⟩ := by assumption
          rw [hmp] at a2
          have m5 := g1.cell 5 _ rfl
          have m6 := g1.cell 6 _ rfl
          have m7 := g1.cell 7 _ rfl
          have m8 := g1.cell 8 _ rfl
          have lg := g1.lt
          have j0 := n6.cell 0 _ rfl
          have j1 := n6.cell 1 _ rfl
          have j2 := n6.cell 2 _ rfl
          have j3 := n6.cell 3 _ rfl
          have l6 := n6.lt
          clear kx g1 n6 HP hq hr hmp
          go_wp2_with fail
          clear hX
          go_still_tail 18, (by kernel_rfl)
          change wpList _ _ _ _ _ X.drew
          have kx := KX.out.drew
          clear a0 a2 la m5 m6 m7 m8 lg j0 j1 j2 j3 l6 KX
          generalize X.drew = w2 at *
          have HP := HH.out.below kx
          go_wp2_with fail
          refine (fits_is p.u a.uA B a.uc m.res t1 q _ HF.out HP.unit HP.le).mono ?_; rintro _ w3 ⟨rfl, hb3⟩
          have K3 := Aid.hid (kx.trans (hb3.mono kx.size))
          clear kx hb3 HP
          cases q
          all_goals
            obtain rfl := HRR.out
            go_wp2_with fail
            go_ret
            exact ⟨rfl, K3.out⟩
      · obtain rfl : c1 = r := by have := HRR.out; simpa [hc] using this
        have hc2 : (c1 == 0) = false := by simpa using hc
        clear kx g1 n6
        go_wp2_with fail
        clear hX
        go_quiet (fail)
        go_wp2_with fail
        go_ret
        exact ⟨rfl, Fl_drewN KX.out _⟩
end Go.Proofs.YtejifefgmlpclaaGreat
