/- Parts of typing, as walks: statements (a Case left open). -/
import Derived.Test.YtejifefgmlpclaaGreatTyQ
import Derived.WalkKit
import Derived.WalkSpells
import Derived.WalkLawsBesides
import Derived.LoopTactic
import Derived.Deep.QuietTactic
import Derived.BigQuiet
import Derived.Below
import Derived.Laws.ResultCell
import Derived.Laws.Tables
import Derived.Laws.Rows
import Derived.Deep.Cut
import Derived.KernelRfl
set_option linter.unusedSimpArgs false
set_option linter.unusedVariables false
namespace Go.Proofs.YtejifefgmlpclaaGreat
open Go.RowKit

set_option maxRecDepth 100000 in
set_option maxHeartbeats 4000000 in
theorem stmt_4 (f B b : Nat) (p : Pl) (a : Pa) (s : St) (lo : Bool) (hX : ∀ x ∈ s.es, ExOK f B b p a x) (hI : ∀ x ∈ s.es, InvOK f B b p a x) (hS : ∀ x ∈ s.bs, StsOK f B b p a x.l) (hC : CaOK f B b p a s) (r : Int) (w : World) (hr : Ty.stmt p lo s = r) (h : PlAt w B b p a) (he : StAt f w B s) (hl : StLim s) (hk : s.k = 4) :
    Calls Tryz.prog 72 #[.pointer (some ⟨b, 0, none⟩), .agg #[.int .i64 s.k, .int .i64 s.n, .string s.name, .slice s.eA s.es.length s.ec, .slice s.lA s.ls.length s.lc, .slice s.bA s.bs.length s.bc], .bool lo] w fun z w' => z = .returned (.int .i64 r) ∧ Below w.heap.size w w' := by
  have n4 := Aid.Has.new w [.int .i64 s.k, .int .i64 s.n, .string s.name, .slice s.eA s.es.length s.ec, .slice s.lA s.ls.length s.lc, .slice s.bA s.bs.length s.bc] 60
  have k0 := below_new w (.cells #[.int .i64 s.k, .int .i64 s.n, .string s.name, .slice s.eA s.es.length s.ec, .slice s.lA s.ls.length s.lc, .slice s.bA s.bs.length s.bc] 60)
  obtain ⟨W, hW⟩ : ∃ W, w.alloc (.cells #[.int .i64 s.k, .int .i64 s.n, .string s.name, .slice s.eA s.es.length s.ec, .slice s.lA s.ls.length s.lc, .slice s.bA s.bs.length s.bc] 60) = W := ⟨_, rfl⟩
  rw [hW] at n4 k0
  rw [Ty.stmt_eq] at hr
  obtain ⟨fo, hfo⟩ : ∃ q, Ty.formed s.k s.es.length s.bs.length s.ls = q := ⟨_, rfl⟩
  have HF := Aid.hid (formed_is s B fo W hfo (he.lr.below k0 h.le) (Nat.le_trans h.le k0.size) hl.e hl.b hl.l)
  have hr' := hr
  rw [Ty.stmtG.eq_def, List.length_map] at hr'
  have c0 := n4.cell 0 _ rfl
  have c1 := n4.cell 1 _ rfl
  have c2 := n4.cell 2 _ rfl
  have c3 := n4.cell 3 _ rfl
  have c4 := n4.cell 4 _ rfl
  have c5 := n4.cell 5 _ rfl
  have l4 := n4.lt
  have N4 := Aid.hid n4; have K0 := Aid.hid k0; have HR := Aid.hid hr'; have HFO := Aid.hid hfo
  have HX := Aid.hid hX; have HI := Aid.hid hI; have HS := Aid.hid hS; have HCA := Aid.hid hC; have HH := Aid.hid h; have HE := Aid.hid he; have HL := Aid.hid hl
  have hB := h.le
  have k1 : (s.k == 1) = false := by simp [hk]
  have k2 : (s.k == 2) = false := by simp [hk]
  have k3 : (s.k == 3) = false := by simp [hk]
  have k8 : (s.k == 8) = false := by simp [hk]
  have k11 : (s.k == 11) = false := by simp [hk]
  have k4 : (s.k == 4) = true := by simp [hk]
  have k5 : (s.k == 5) = false := by simp [hk]
  have k6 : (s.k == 6) = false := by simp [hk]
  have k7 : (s.k == 7) = false := by simp [hk]
  have k9 : (s.k == 9) = false := by simp [hk]
  have HKK := Aid.hid hk
  clear hk
  clear hX hI hS hC h he hl hr hr' n4 k0 hfo
  go_enter Tryz.func72, Tryz.ntmps72
  try simp only [List.append_eq, List.cons_append, List.nil_append]
  go_wp2_with fail
  clear hW
  refine HF.out.mono ?_; rintro _ w1 ⟨rfl, hb1⟩
  have k1 := K0.out.trans (hb1.mono K0.out.size)
  have n4 := N4.out.below hb1 N4.out.lt
  have e0 := n4.cell 0 _ rfl
  have e1 := n4.cell 1 _ rfl
  have e2 := n4.cell 2 _ rfl
  have e3 := n4.cell 3 _ rfl
  have e4 := n4.cell 4 _ rfl
  have e5 := n4.cell 5 _ rfl
  have l4b := n4.lt
  clear c0 c1 c2 c3 c4 c5 l4 HF
  cases fo
  · obtain rfl : 14 = r := by have := HR.out; rw [if_pos HFO.out] at this; exact this
    have K1 := Aid.hid k1
    clear n4 hb1 k1
    go_wp2_with fail
    go_ret
    exact ⟨rfl, K1.out⟩
  · have K1 := Aid.hid k1
    have N4b := Aid.hid n4
    have HP := Aid.hid (HH.out.below k1)
    have HE1 := Aid.hid (HE.out.below k1 hB)
    clear n4 hb1 k1
    have hf := HFO.out
    have hes : s.es.length = 1 := by rw [HKK.out] at hf; simp [Ty.formed] at hf; omega
    obtain ⟨x, hx⟩ := len1 hes
    obtain ⟨⟨t1, cc⟩, hiv⟩ : ∃ q, Ty.inv p x = q := ⟨_, rfl⟩
    have hr : (if x.k ≠ 13 then (14 : Int) else cc) = r := by
      have := HR.out
      rw [if_neg (by rw [hf]; simp), if_neg (by rw [HKK.out]; decide), if_pos HKK.out, hx] at this
      simp only [hiv] at this
      exact this
    have HRR := Aid.hid hr
    obtain ⟨eb, off, hA, hebB, hc, hs⟩ := Ex.at1 HE1.out.ex (i := 0) (e := x) (by rw [hx]; rfl)
    have c0 := hc 0 _ rfl
    have d1 := hc 1 _ rfl
    have d2 := hc 2 _ rfl
    have d3 := hc 3 _ rfl
    have d4 := hc 4 _ rfl
    simp only [Nat.add_zero, Nat.zero_mul] at c0 d1 d2 d3 d4
    have leb : eb < w1.heap.size := by have := K1.out.size; omega
    rw [hA, hes] at e3
    have HC := Aid.hid (HI.out x (by rw [hx]; simp) w1 t1 cc hiv HP.out hs)
    obtain ⟨q13, h13⟩ : ∃ q, (x.k != 13) = q := ⟨_, rfl⟩
    clear hf hes hr hx hA hc hs hiv
    cases q13
    · obtain rfl : cc = r := by
        have := HRR.out
        have h : x.k = 13 := by simpa using h13
        simpa [h] using this
      go_wp2_with fail
      refine HC.out.mono ?_; rintro _ w2 ⟨rfl, hb2⟩
      have K2 := Aid.hid ((K1.out.trans (hb2.mono K1.out.size)).alloc (K1.out.trans (hb2.mono K1.out.size)).size (.cells #[.int .i64 t1.k, .int .i64 t1.lo, .int .i64 t1.hi, .string t1.name] 44))
      clear hb2
      go_wp2_with fail
      go_ret
      exact ⟨rfl, K2.out⟩
    · obtain rfl : 14 = r := by
        have := HRR.out
        have h : ¬ x.k = 13 := by simpa using h13
        simpa [h] using this
      go_wp2_with fail
      go_ret
      exact ⟨rfl, K1.out⟩
set_option maxRecDepth 100000 in
set_option maxHeartbeats 4000000 in
theorem stmt_5 (f B b : Nat) (p : Pl) (a : Pa) (s : St) (lo : Bool) (hX : ∀ x ∈ s.es, ExOK f B b p a x) (hI : ∀ x ∈ s.es, InvOK f B b p a x) (hS : ∀ x ∈ s.bs, StsOK f B b p a x.l) (hC : CaOK f B b p a s) (r : Int) (w : World) (hr : Ty.stmt p lo s = r) (h : PlAt w B b p a) (he : StAt f w B s) (hl : StLim s) (hk : s.k = 5) :
    Calls Tryz.prog 72 #[.pointer (some ⟨b, 0, none⟩), .agg #[.int .i64 s.k, .int .i64 s.n, .string s.name, .slice s.eA s.es.length s.ec, .slice s.lA s.ls.length s.lc, .slice s.bA s.bs.length s.bc], .bool lo] w fun z w' => z = .returned (.int .i64 r) ∧ Below w.heap.size w w' := by
  have n4 := Aid.Has.new w [.int .i64 s.k, .int .i64 s.n, .string s.name, .slice s.eA s.es.length s.ec, .slice s.lA s.ls.length s.lc, .slice s.bA s.bs.length s.bc] 60
  have k0 := below_new w (.cells #[.int .i64 s.k, .int .i64 s.n, .string s.name, .slice s.eA s.es.length s.ec, .slice s.lA s.ls.length s.lc, .slice s.bA s.bs.length s.bc] 60)
  obtain ⟨W, hW⟩ : ∃ W, w.alloc (.cells #[.int .i64 s.k, .int .i64 s.n, .string s.name, .slice s.eA s.es.length s.ec, .slice s.lA s.ls.length s.lc, .slice s.bA s.bs.length s.bc] 60) = W := ⟨_, rfl⟩
  rw [hW] at n4 k0
  rw [Ty.stmt_eq] at hr
  obtain ⟨fo, hfo⟩ : ∃ q, Ty.formed s.k s.es.length s.bs.length s.ls = q := ⟨_, rfl⟩
  have HF := Aid.hid (formed_is s B fo W hfo (he.lr.below k0 h.le) (Nat.le_trans h.le k0.size) hl.e hl.b hl.l)
  have hr' := hr
  rw [Ty.stmtG.eq_def, List.length_map] at hr'
  have c0 := n4.cell 0 _ rfl
  have c1 := n4.cell 1 _ rfl
  have c2 := n4.cell 2 _ rfl
  have c3 := n4.cell 3 _ rfl
  have c4 := n4.cell 4 _ rfl
  have c5 := n4.cell 5 _ rfl
  have l4 := n4.lt
  have N4 := Aid.hid n4; have K0 := Aid.hid k0; have HR := Aid.hid hr'; have HFO := Aid.hid hfo
  have HX := Aid.hid hX; have HI := Aid.hid hI; have HS := Aid.hid hS; have HCA := Aid.hid hC; have HH := Aid.hid h; have HE := Aid.hid he; have HL := Aid.hid hl
  have hB := h.le
  have k1 : (s.k == 1) = false := by simp [hk]
  have k2 : (s.k == 2) = false := by simp [hk]
  have k3 : (s.k == 3) = false := by simp [hk]
  have k8 : (s.k == 8) = false := by simp [hk]
  have k11 : (s.k == 11) = false := by simp [hk]
  have k4 : (s.k == 4) = false := by simp [hk]
  have k5 : (s.k == 5) = true := by simp [hk]
  have k6 : (s.k == 6) = false := by simp [hk]
  have k7 : (s.k == 7) = false := by simp [hk]
  have k9 : (s.k == 9) = false := by simp [hk]
  have HKK := Aid.hid hk
  clear hk
  clear hX hI hS hC h he hl hr hr' n4 k0 hfo
  go_enter Tryz.func72, Tryz.ntmps72
  try simp only [List.append_eq, List.cons_append, List.nil_append]
  go_wp2_with fail
  clear hW
  refine HF.out.mono ?_; rintro _ w1 ⟨rfl, hb1⟩
  have k1 := K0.out.trans (hb1.mono K0.out.size)
  have n4 := N4.out.below hb1 N4.out.lt
  have e0 := n4.cell 0 _ rfl
  have e1 := n4.cell 1 _ rfl
  have e2 := n4.cell 2 _ rfl
  have e3 := n4.cell 3 _ rfl
  have e4 := n4.cell 4 _ rfl
  have e5 := n4.cell 5 _ rfl
  have l4b := n4.lt
  clear c0 c1 c2 c3 c4 c5 l4 HF
  cases fo
  · obtain rfl : 14 = r := by have := HR.out; rw [if_pos HFO.out] at this; exact this
    have K1 := Aid.hid k1
    clear n4 hb1 k1
    go_wp2_with fail
    go_ret
    exact ⟨rfl, K1.out⟩
  · have K1 := Aid.hid k1
    have N4b := Aid.hid n4
    have HP := Aid.hid (HH.out.below k1)
    have HE1 := Aid.hid (HE.out.below k1 hB)
    clear n4 hb1 k1
    have hf := HFO.out
    have hbs : s.bs.length = s.es.length + 1 := by rw [HKK.out] at hf; simp [Ty.formed] at hf; omega
    have hr : Ty.choice (s.es.map (Ty.expr p)) (s.bs.map fun x => Ty.stmts p lo x.l) = r := by
      have := HR.out
      rw [if_neg (by rw [hf]; simp), if_neg (by rw [HKK.out]; decide), if_neg (by rw [HKK.out]; decide), if_pos HKK.out] at this
      exact this
    have HC := Aid.hid (choice_is f B b p a s lo r w1 HX.out HS.out hr HP.out HE1.out HL.out hbs)
    clear hf hbs hr
    go_wp2_with fail
    refine HC.out.mono ?_; rintro _ w2 ⟨rfl, hb2⟩
    have K2 := Aid.hid (K1.out.trans (hb2.mono K1.out.size))
    clear hb2
    go_wp2_with fail
    go_ret
    exact ⟨rfl, K2.out⟩
set_option maxRecDepth 100000 in
set_option maxHeartbeats 4000000 in
theorem stmt_6 (f B b : Nat) (p : Pl) (a : Pa) (s : St) (lo : Bool) (hX : ∀ x ∈ s.es, ExOK f B b p a x) (hI : ∀ x ∈ s.es, InvOK f B b p a x) (hS : ∀ x ∈ s.bs, StsOK f B b p a x.l) (hC : CaOK f B b p a s) (r : Int) (w : World) (hr : Ty.stmt p lo s = r) (h : PlAt w B b p a) (he : StAt f w B s) (hl : StLim s) (hk : s.k = 6) :
    Calls Tryz.prog 72 #[.pointer (some ⟨b, 0, none⟩), .agg #[.int .i64 s.k, .int .i64 s.n, .string s.name, .slice s.eA s.es.length s.ec, .slice s.lA s.ls.length s.lc, .slice s.bA s.bs.length s.bc], .bool lo] w fun z w' => z = .returned (.int .i64 r) ∧ Below w.heap.size w w' := by
  have n4 := Aid.Has.new w [.int .i64 s.k, .int .i64 s.n, .string s.name, .slice s.eA s.es.length s.ec, .slice s.lA s.ls.length s.lc, .slice s.bA s.bs.length s.bc] 60
  have k0 := below_new w (.cells #[.int .i64 s.k, .int .i64 s.n, .string s.name, .slice s.eA s.es.length s.ec, .slice s.lA s.ls.length s.lc, .slice s.bA s.bs.length s.bc] 60)
  obtain ⟨W, hW⟩ : ∃ W, w.alloc (.cells #[.int .i64 s.k, .int .i64 s.n, .string s.name, .slice s.eA s.es.length s.ec, .slice s.lA s.ls.length s.lc, .slice s.bA s.bs.length s.bc] 60) = W := ⟨_, rfl⟩
  rw [hW] at n4 k0
  rw [Ty.stmt_eq] at hr
  obtain ⟨fo, hfo⟩ : ∃ q, Ty.formed s.k s.es.length s.bs.length s.ls = q := ⟨_, rfl⟩
  have HF := Aid.hid (formed_is s B fo W hfo (he.lr.below k0 h.le) (Nat.le_trans h.le k0.size) hl.e hl.b hl.l)
  have hr' := hr
  rw [Ty.stmtG.eq_def, List.length_map] at hr'
  have c0 := n4.cell 0 _ rfl
  have c1 := n4.cell 1 _ rfl
  have c2 := n4.cell 2 _ rfl
  have c3 := n4.cell 3 _ rfl
  have c4 := n4.cell 4 _ rfl
  have c5 := n4.cell 5 _ rfl
  have l4 := n4.lt
  have N4 := Aid.hid n4; have K0 := Aid.hid k0; have HR := Aid.hid hr'; have HFO := Aid.hid hfo
  have HX := Aid.hid hX; have HI := Aid.hid hI; have HS := Aid.hid hS; have HCA := Aid.hid hC; have HH := Aid.hid h; have HE := Aid.hid he; have HL := Aid.hid hl
  have hB := h.le
  have k1 : (s.k == 1) = false := by simp [hk]
  have k2 : (s.k == 2) = false := by simp [hk]
  have k3 : (s.k == 3) = false := by simp [hk]
  have k8 : (s.k == 8) = false := by simp [hk]
  have k11 : (s.k == 11) = false := by simp [hk]
  have k4 : (s.k == 4) = false := by simp [hk]
  have k5 : (s.k == 5) = false := by simp [hk]
  have k6 : (s.k == 6) = true := by simp [hk]
  have k7 : (s.k == 7) = false := by simp [hk]
  have k9 : (s.k == 9) = false := by simp [hk]
  have HKK := Aid.hid hk
  clear hk
  clear hX hI hS hC h he hl hr hr' n4 k0 hfo
  go_enter Tryz.func72, Tryz.ntmps72
  try simp only [List.append_eq, List.cons_append, List.nil_append]
  go_wp2_with fail
  clear hW
  refine HF.out.mono ?_; rintro _ w1 ⟨rfl, hb1⟩
  have k1 := K0.out.trans (hb1.mono K0.out.size)
  have n4 := N4.out.below hb1 N4.out.lt
  have e0 := n4.cell 0 _ rfl
  have e1 := n4.cell 1 _ rfl
  have e2 := n4.cell 2 _ rfl
  have e3 := n4.cell 3 _ rfl
  have e4 := n4.cell 4 _ rfl
  have e5 := n4.cell 5 _ rfl
  have l4b := n4.lt
  clear c0 c1 c2 c3 c4 c5 l4 HF
  cases fo
  · obtain rfl : 14 = r := by have := HR.out; rw [if_pos HFO.out] at this; exact this
    have K1 := Aid.hid k1
    clear n4 hb1 k1
    go_wp2_with fail
    go_ret
    exact ⟨rfl, K1.out⟩
  · have K1 := Aid.hid k1
    have N4b := Aid.hid n4
    have HP := Aid.hid (HH.out.below k1)
    have HE1 := Aid.hid (HE.out.below k1 hB)
    clear n4 hb1 k1
    have hf := HFO.out
    have hes : s.es.length = 1 ∧ s.bs.length = s.ls.length + 1 := by rw [HKK.out] at hf; simp [Ty.formed] at hf; omega
    have hr : Ty.cases (Ty.hd (s.es.map (Ty.expr p))) s.ls (s.bs.map fun x => Ty.stmts p lo x.l) = r := by
      have := HR.out
      rw [if_neg (by rw [hf]; simp), if_neg (by rw [HKK.out]; decide), if_neg (by rw [HKK.out]; decide), if_neg (by rw [HKK.out]; decide), if_pos HKK.out] at this
      exact this
    have HC := Aid.hid (HCA.out w1 lo r hr HP.out HE1.out hes.1 hes.2)
    clear hf hes hr
    go_wp2_with fail
    refine HC.out.mono ?_; rintro _ w2 ⟨rfl, hb2⟩
    have K2 := Aid.hid (K1.out.trans (hb2.mono K1.out.size))
    clear hb2
    go_wp2_with fail
    go_ret
    exact ⟨rfl, K2.out⟩
set_option maxRecDepth 100000 in
set_option maxHeartbeats 4000000 in
theorem stmt_7 (f B b : Nat) (p : Pl) (a : Pa) (s : St) (lo : Bool) (hX : ∀ x ∈ s.es, ExOK f B b p a x) (hI : ∀ x ∈ s.es, InvOK f B b p a x) (hS : ∀ x ∈ s.bs, StsOK f B b p a x.l) (hC : CaOK f B b p a s) (r : Int) (w : World) (hr : Ty.stmt p lo s = r) (h : PlAt w B b p a) (he : StAt f w B s) (hl : StLim s) (hk : s.k = 7) :
    Calls Tryz.prog 72 #[.pointer (some ⟨b, 0, none⟩), .agg #[.int .i64 s.k, .int .i64 s.n, .string s.name, .slice s.eA s.es.length s.ec, .slice s.lA s.ls.length s.lc, .slice s.bA s.bs.length s.bc], .bool lo] w fun z w' => z = .returned (.int .i64 r) ∧ Below w.heap.size w w' := by
  have n4 := Aid.Has.new w [.int .i64 s.k, .int .i64 s.n, .string s.name, .slice s.eA s.es.length s.ec, .slice s.lA s.ls.length s.lc, .slice s.bA s.bs.length s.bc] 60
  have k0 := below_new w (.cells #[.int .i64 s.k, .int .i64 s.n, .string s.name, .slice s.eA s.es.length s.ec, .slice s.lA s.ls.length s.lc, .slice s.bA s.bs.length s.bc] 60)
  obtain ⟨W, hW⟩ : ∃ W, w.alloc (.cells #[.int .i64 s.k, .int .i64 s.n, .string s.name, .slice s.eA s.es.length s.ec, .slice s.lA s.ls.length s.lc, .slice s.bA s.bs.length s.bc] 60) = W := ⟨_, rfl⟩
  rw [hW] at n4 k0
  rw [Ty.stmt_eq] at hr
  obtain ⟨fo, hfo⟩ : ∃ q, Ty.formed s.k s.es.length s.bs.length s.ls = q := ⟨_, rfl⟩
  have HF := Aid.hid (formed_is s B fo W hfo (he.lr.below k0 h.le) (Nat.le_trans h.le k0.size) hl.e hl.b hl.l)
  have hr' := hr
  rw [Ty.stmtG.eq_def, List.length_map] at hr'
  have c0 := n4.cell 0 _ rfl
  have c1 := n4.cell 1 _ rfl
  have c2 := n4.cell 2 _ rfl
  have c3 := n4.cell 3 _ rfl
  have c4 := n4.cell 4 _ rfl
  have c5 := n4.cell 5 _ rfl
  have l4 := n4.lt
  have N4 := Aid.hid n4; have K0 := Aid.hid k0; have HR := Aid.hid hr'; have HFO := Aid.hid hfo
  have HX := Aid.hid hX; have HI := Aid.hid hI; have HS := Aid.hid hS; have HCA := Aid.hid hC; have HH := Aid.hid h; have HE := Aid.hid he; have HL := Aid.hid hl
  have hB := h.le
  have k1 : (s.k == 1) = false := by simp [hk]
  have k2 : (s.k == 2) = false := by simp [hk]
  have k3 : (s.k == 3) = false := by simp [hk]
  have k8 : (s.k == 8) = false := by simp [hk]
  have k11 : (s.k == 11) = false := by simp [hk]
  have k4 : (s.k == 4) = false := by simp [hk]
  have k5 : (s.k == 5) = false := by simp [hk]
  have k6 : (s.k == 6) = false := by simp [hk]
  have k7 : (s.k == 7) = true := by simp [hk]
  have k9 : (s.k == 9) = false := by simp [hk]
  have HKK := Aid.hid hk
  clear hk
  clear hX hI hS hC h he hl hr hr' n4 k0 hfo
  go_enter Tryz.func72, Tryz.ntmps72
  try simp only [List.append_eq, List.cons_append, List.nil_append]
  go_wp2_with fail
  clear hW
  refine HF.out.mono ?_; rintro _ w1 ⟨rfl, hb1⟩
  have k1 := K0.out.trans (hb1.mono K0.out.size)
  have n4 := N4.out.below hb1 N4.out.lt
  have e0 := n4.cell 0 _ rfl
  have e1 := n4.cell 1 _ rfl
  have e2 := n4.cell 2 _ rfl
  have e3 := n4.cell 3 _ rfl
  have e4 := n4.cell 4 _ rfl
  have e5 := n4.cell 5 _ rfl
  have l4b := n4.lt
  clear c0 c1 c2 c3 c4 c5 l4 HF
  cases fo
  · obtain rfl : 14 = r := by have := HR.out; rw [if_pos HFO.out] at this; exact this
    have K1 := Aid.hid k1
    clear n4 hb1 k1
    go_wp2_with fail
    go_ret
    exact ⟨rfl, K1.out⟩
  · have K1 := Aid.hid k1
    have N4b := Aid.hid n4
    have HP := Aid.hid (HH.out.below k1)
    have HE1 := Aid.hid (HE.out.below k1 hB)
    clear n4 hb1 k1
    have hf := HFO.out
    have hes : s.es.length = 1 := by rw [HKK.out] at hf; simp [Ty.formed] at hf; omega
    have hbl : s.bs.length = 1 := by rw [HKK.out] at hf; simp [Ty.formed] at hf; omega
    obtain ⟨x, hx⟩ := len1 hes
    obtain ⟨blk, hbs⟩ := len1 hbl
    obtain ⟨⟨t1, cc⟩, hsm⟩ : ∃ q, Ty.same (Ty.expr p x) 2 = q := ⟨_, rfl⟩
    obtain ⟨cb, hcb⟩ : ∃ q, Ty.stmts p true blk.l = q := ⟨_, rfl⟩
    have hr : (if cc ≠ 0 then cc else cb) = r := by
      have := HR.out
      rw [if_neg (by rw [hf]; simp), if_neg (by rw [HKK.out]; decide), if_neg (by rw [HKK.out]; decide), if_neg (by rw [HKK.out]; decide), if_neg (by rw [HKK.out]; decide), if_pos HKK.out, hx, hbs] at this
      simpa [Ty.hd, hsm, hcb] using this
    have HRR := Aid.hid hr
    obtain ⟨eb, off, hA, hebB, hc, hs⟩ := Ex.at1 HE1.out.ex (i := 0) (e := x) (by rw [hx]; rfl)
    have c0 := hc 0 _ rfl
    have d1 := hc 1 _ rfl
    have d2 := hc 2 _ rfl
    have d3 := hc 3 _ rfl
    have d4 := hc 4 _ rfl
    simp only [Nat.add_zero, Nat.zero_mul] at c0 d1 d2 d3 d4
    have leb : eb < w1.heap.size := by have := K1.out.size; omega
    rw [hA, hes] at e3
    have HC := Aid.hid (same_is f B b p a x 2 t1 cc w1 (HX.out x (by rw [hx]; simp)) hsm HP.out hs)
    have HCB := Aid.hid hcb; have HBS := Aid.hid hbs; have HBL := Aid.hid hbl
    clear hf hes hr hx hA hc hs hsm hcb hbs hbl
    go_wp2_with fail
    refine HC.out.mono ?_; rintro _ w2 ⟨rfl, hb2⟩
    have k2 := K1.out.trans (hb2.mono K1.out.size)
    have k3 := k2.alloc k2.size (.cells #[.int .i64 t1.k, .int .i64 t1.lo, .int .i64 t1.hi, .string t1.name] 44)
    have n5 := (N4b.out.below hb2 N4b.out.lt).alloc (.cells #[.int .i64 t1.k, .int .i64 t1.lo, .int .i64 t1.hi, .string t1.name] 44)
    obtain ⟨X, hX⟩ : ∃ X, w2.alloc (.cells #[.int .i64 t1.k, .int .i64 t1.lo, .int .i64 t1.hi, .string t1.name] 44) = X := ⟨_, rfl⟩
    rw [hX] at k3 n5
    have KX := Aid.hid k3
    have e5 := n5.cell 5 _ rfl
    have l5 := n5.lt
    clear hb2 k2 k3 n5 HC e0 e1 e2 e3 e4 l4b c0 d1 d2 d3 d4 leb
    by_cases hc : cc = 0
    · subst hc
      obtain rfl : cb = r := by have := HRR.out; simpa using this
      obtain ⟨g, go, hgA, hgB, cg⟩ := Bk.at1 (HE.out.br.below KX.out hB) (i := 0) (x := blk) (by rw [HBS.out]; rfl)
      rw [hgA, HBL.out] at e5
      have lg : g < X.heap.size := by have := KX.out.size; omega
      simp only [Nat.add_zero] at cg
      have HC2 := Aid.hid (HS.out blk (by rw [HBS.out]; simp) X blk.A blk.c true cb HCB.out (HH.out.below KX.out) ((HE.out.ba blk (by rw [HBS.out]; simp)).below KX.out hB))
      clear hgA
      go_wp2_with fail
      clear hX
      refine HC2.out.mono ?_; rintro _ w4 ⟨rfl, hb4⟩
      have K4 := Aid.hid (KX.out.trans (hb4.mono KX.out.size))
      clear hb4
      go_wp2_with fail
      go_ret
      exact ⟨rfl, K4.out⟩
    · obtain rfl : cc = r := by have := HRR.out; simpa [hc] using this
      go_wp2_with fail
      clear hX
      go_ret
      exact ⟨rfl, KX.out⟩
set_option maxRecDepth 100000 in
set_option maxHeartbeats 4000000 in
theorem stmt_9 (f B b : Nat) (p : Pl) (a : Pa) (s : St) (lo : Bool) (hX : ∀ x ∈ s.es, ExOK f B b p a x) (hI : ∀ x ∈ s.es, InvOK f B b p a x) (hS : ∀ x ∈ s.bs, StsOK f B b p a x.l) (hC : CaOK f B b p a s) (r : Int) (w : World) (hr : Ty.stmt p lo s = r) (h : PlAt w B b p a) (he : StAt f w B s) (hl : StLim s) (hk : s.k = 9) :
    Calls Tryz.prog 72 #[.pointer (some ⟨b, 0, none⟩), .agg #[.int .i64 s.k, .int .i64 s.n, .string s.name, .slice s.eA s.es.length s.ec, .slice s.lA s.ls.length s.lc, .slice s.bA s.bs.length s.bc], .bool lo] w fun z w' => z = .returned (.int .i64 r) ∧ Below w.heap.size w w' := by
  have n4 := Aid.Has.new w [.int .i64 s.k, .int .i64 s.n, .string s.name, .slice s.eA s.es.length s.ec, .slice s.lA s.ls.length s.lc, .slice s.bA s.bs.length s.bc] 60
  have k0 := below_new w (.cells #[.int .i64 s.k, .int .i64 s.n, .string s.name, .slice s.eA s.es.length s.ec, .slice s.lA s.ls.length s.lc, .slice s.bA s.bs.length s.bc] 60)
  obtain ⟨W, hW⟩ : ∃ W, w.alloc (.cells #[.int .i64 s.k, .int .i64 s.n, .string s.name, .slice s.eA s.es.length s.ec, .slice s.lA s.ls.length s.lc, .slice s.bA s.bs.length s.bc] 60) = W := ⟨_, rfl⟩
  rw [hW] at n4 k0
  rw [Ty.stmt_eq] at hr
  obtain ⟨fo, hfo⟩ : ∃ q, Ty.formed s.k s.es.length s.bs.length s.ls = q := ⟨_, rfl⟩
  have HF := Aid.hid (formed_is s B fo W hfo (he.lr.below k0 h.le) (Nat.le_trans h.le k0.size) hl.e hl.b hl.l)
  have hr' := hr
  rw [Ty.stmtG.eq_def, List.length_map] at hr'
  have c0 := n4.cell 0 _ rfl
  have c1 := n4.cell 1 _ rfl
  have c2 := n4.cell 2 _ rfl
  have c3 := n4.cell 3 _ rfl
  have c4 := n4.cell 4 _ rfl
  have c5 := n4.cell 5 _ rfl
  have l4 := n4.lt
  have N4 := Aid.hid n4; have K0 := Aid.hid k0; have HR := Aid.hid hr'; have HFO := Aid.hid hfo
  have HX := Aid.hid hX; have HI := Aid.hid hI; have HS := Aid.hid hS; have HCA := Aid.hid hC; have HH := Aid.hid h; have HE := Aid.hid he; have HL := Aid.hid hl
  have hB := h.le
  have k1 : (s.k == 1) = false := by simp [hk]
  have k2 : (s.k == 2) = false := by simp [hk]
  have k3 : (s.k == 3) = false := by simp [hk]
  have k8 : (s.k == 8) = false := by simp [hk]
  have k11 : (s.k == 11) = false := by simp [hk]
  have k4 : (s.k == 4) = false := by simp [hk]
  have k5 : (s.k == 5) = false := by simp [hk]
  have k6 : (s.k == 6) = false := by simp [hk]
  have k7 : (s.k == 7) = false := by simp [hk]
  have k9 : (s.k == 9) = true := by simp [hk]
  have HKK := Aid.hid hk
  clear hk
  clear hX hI hS hC h he hl hr hr' n4 k0 hfo
  go_enter Tryz.func72, Tryz.ntmps72
  try simp only [List.append_eq, List.cons_append, List.nil_append]
  go_wp2_with fail
  clear hW
  refine HF.out.mono ?_; rintro _ w1 ⟨rfl, hb1⟩
  have k1 := K0.out.trans (hb1.mono K0.out.size)
  have n4 := N4.out.below hb1 N4.out.lt
  have e0 := n4.cell 0 _ rfl
  have e1 := n4.cell 1 _ rfl
  have e2 := n4.cell 2 _ rfl
  have e3 := n4.cell 3 _ rfl
  have e4 := n4.cell 4 _ rfl
  have e5 := n4.cell 5 _ rfl
  have l4b := n4.lt
  clear c0 c1 c2 c3 c4 c5 l4 HF
  cases fo
  · obtain rfl : 14 = r := by have := HR.out; rw [if_pos HFO.out] at this; exact this
    have K1 := Aid.hid k1
    clear n4 hb1 k1
    go_wp2_with fail
    go_ret
    exact ⟨rfl, K1.out⟩
  · have K1 := Aid.hid k1
    have N4b := Aid.hid n4
    have HP := Aid.hid (HH.out.below k1)
    have HE1 := Aid.hid (HE.out.below k1 hB)
    clear n4 hb1 k1
    have hf := HFO.out
    have hr : Ty.returned p (s.es.map (Ty.expr p)) = r := by
      have := HR.out
      rw [if_neg (by rw [hf]; simp), if_neg (by rw [HKK.out]; decide), if_neg (by rw [HKK.out]; decide), if_neg (by rw [HKK.out]; decide), if_neg (by rw [HKK.out]; decide), if_neg (by rw [HKK.out]; decide), if_pos HKK.out] at this
      exact this
    have HC := Aid.hid (returned_is f B b p a s r w1 HX.out hr HP.out HE1.out.ex HL.out.e)
    clear hf hr
    go_wp2_with fail
    refine HC.out.mono ?_; rintro _ w2 ⟨rfl, hb2⟩
    have K2 := Aid.hid (K1.out.trans (hb2.mono K1.out.size))
    clear hb2
    go_wp2_with fail
    go_ret
    exact ⟨rfl, K2.out⟩
set_option maxRecDepth 100000 in
set_option maxHeartbeats 4000000 in
theorem stmt_0 (f B b : Nat) (p : Pl) (a : Pa) (s : St) (lo : Bool) (hX : ∀ x ∈ s.es, ExOK f B b p a x) (hI : ∀ x ∈ s.es, InvOK f B b p a x) (hS : ∀ x ∈ s.bs, StsOK f B b p a x.l) (hC : CaOK f B b p a s) (r : Int) (w : World) (hr : Ty.stmt p lo s = r) (h : PlAt w B b p a) (he : StAt f w B s) (hl : StLim s) (hk : ¬ s.k = 1 ∧ ¬ s.k = 2 ∧ ¬ s.k = 3 ∧ ¬ s.k = 8 ∧ ¬ s.k = 11 ∧ ¬ s.k = 4 ∧ ¬ s.k = 5 ∧ ¬ s.k = 6 ∧ ¬ s.k = 7 ∧ ¬ s.k = 9) :
    Calls Tryz.prog 72 #[.pointer (some ⟨b, 0, none⟩), .agg #[.int .i64 s.k, .int .i64 s.n, .string s.name, .slice s.eA s.es.length s.ec, .slice s.lA s.ls.length s.lc, .slice s.bA s.bs.length s.bc], .bool lo] w fun z w' => z = .returned (.int .i64 r) ∧ Below w.heap.size w w' := by
  have n4 := Aid.Has.new w [.int .i64 s.k, .int .i64 s.n, .string s.name, .slice s.eA s.es.length s.ec, .slice s.lA s.ls.length s.lc, .slice s.bA s.bs.length s.bc] 60
  have k0 := below_new w (.cells #[.int .i64 s.k, .int .i64 s.n, .string s.name, .slice s.eA s.es.length s.ec, .slice s.lA s.ls.length s.lc, .slice s.bA s.bs.length s.bc] 60)
  obtain ⟨W, hW⟩ : ∃ W, w.alloc (.cells #[.int .i64 s.k, .int .i64 s.n, .string s.name, .slice s.eA s.es.length s.ec, .slice s.lA s.ls.length s.lc, .slice s.bA s.bs.length s.bc] 60) = W := ⟨_, rfl⟩
  rw [hW] at n4 k0
  rw [Ty.stmt_eq] at hr
  obtain ⟨fo, hfo⟩ : ∃ q, Ty.formed s.k s.es.length s.bs.length s.ls = q := ⟨_, rfl⟩
  have HF := Aid.hid (formed_is s B fo W hfo (he.lr.below k0 h.le) (Nat.le_trans h.le k0.size) hl.e hl.b hl.l)
  have hr' := hr
  rw [Ty.stmtG.eq_def, List.length_map] at hr'
  have c0 := n4.cell 0 _ rfl
  have c1 := n4.cell 1 _ rfl
  have c2 := n4.cell 2 _ rfl
  have c3 := n4.cell 3 _ rfl
  have c4 := n4.cell 4 _ rfl
  have c5 := n4.cell 5 _ rfl
  have l4 := n4.lt
  have N4 := Aid.hid n4; have K0 := Aid.hid k0; have HR := Aid.hid hr'; have HFO := Aid.hid hfo
  have HX := Aid.hid hX; have HI := Aid.hid hI; have HS := Aid.hid hS; have HCA := Aid.hid hC; have HH := Aid.hid h; have HE := Aid.hid he; have HL := Aid.hid hl
  have hB := h.le
  obtain ⟨g1, g2, g3, g8, g11, g4, g5, g6, g7, g9⟩ := hk
  have k1 : (s.k == 1) = false := by simpa using g1
  have k2 : (s.k == 2) = false := by simpa using g2
  have k3 : (s.k == 3) = false := by simpa using g3
  have k8 : (s.k == 8) = false := by simpa using g8
  have k11 : (s.k == 11) = false := by simpa using g11
  have k4 : (s.k == 4) = false := by simpa using g4
  have k5 : (s.k == 5) = false := by simpa using g5
  have k6 : (s.k == 6) = false := by simpa using g6
  have k7 : (s.k == 7) = false := by simpa using g7
  have k9 : (s.k == 9) = false := by simpa using g9
  have hr2 : (if fo = false then (14 : Int) else if lo = false then 14 else 0) = r := by
    rw [← hr', hfo]
    have hno : ¬ (s.k = 1 ∨ s.k = 2 ∨ s.k = 3 ∨ s.k = 8 ∨ s.k = 11) := by
      rintro (h | h | h | h | h)
      · exact g1 h
      · exact g2 h
      · exact g3 h
      · exact g8 h
      · exact g11 h
    rw [if_neg hno, if_neg g4, if_neg g5, if_neg g6, if_neg g7, if_neg g9]
  have HR2 := Aid.hid hr2
  clear hX hI hS hC h he hl hr hr' hr2 n4 k0 hfo g1 g2 g3 g8 g11 g4 g5 g6 g7 g9
  go_enter Tryz.func72, Tryz.ntmps72
  try simp only [List.append_eq, List.cons_append, List.nil_append]
  go_wp2_with fail
  clear hW
  refine HF.out.mono ?_; rintro _ w1 ⟨rfl, hb1⟩
  have k1 := K0.out.trans (hb1.mono K0.out.size)
  have n4 := N4.out.below hb1 N4.out.lt
  have e0 := n4.cell 0 _ rfl
  have e1 := n4.cell 1 _ rfl
  have e2 := n4.cell 2 _ rfl
  have e3 := n4.cell 3 _ rfl
  have e4 := n4.cell 4 _ rfl
  have e5 := n4.cell 5 _ rfl
  have l4b := n4.lt
  have K1 := Aid.hid k1
  clear c0 c1 c2 c3 c4 c5 l4 HF n4 hb1 k1
  cases fo <;> cases lo
  all_goals
    obtain rfl := HR2.out
    go_wp2_with fail
    go_ret
    exact ⟨rfl, K1.out⟩
theorem stmt_is (f B b : Nat) (p : Pl) (a : Pa) (s : St) (lo : Bool) (hX : ∀ x ∈ s.es, ExOK f B b p a x) (hI : ∀ x ∈ s.es, InvOK f B b p a x) (hS : ∀ x ∈ s.bs, StsOK f B b p a x.l) (hC : CaOK f B b p a s) (r : Int) (w : World) (hr : Ty.stmt p lo s = r) (h : PlAt w B b p a) (he : StAt f w B s) (hl : StLim s) :
    Calls Tryz.prog 72 #[.pointer (some ⟨b, 0, none⟩), .agg #[.int .i64 s.k, .int .i64 s.n, .string s.name, .slice s.eA s.es.length s.ec, .slice s.lA s.ls.length s.lc, .slice s.bA s.bs.length s.bc], .bool lo] w fun z w' => z = .returned (.int .i64 r) ∧ Below w.heap.size w w' := by
  by_cases h1 : s.k = 1
  · exact stmt_1 f B b p a s lo hX hI hS hC r w hr h he hl h1
  by_cases h2 : s.k = 2
  · exact stmt_2 f B b p a s lo hX hI hS hC r w hr h he hl h2
  by_cases h3 : s.k = 3
  · exact stmt_3 f B b p a s lo hX hI hS hC r w hr h he hl h3
  by_cases h8 : s.k = 8
  · exact stmt_8 f B b p a s lo hX hI hS hC r w hr h he hl h8
  by_cases h11 : s.k = 11
  · exact stmt_11 f B b p a s lo hX hI hS hC r w hr h he hl h11
  by_cases h4 : s.k = 4
  · exact stmt_4 f B b p a s lo hX hI hS hC r w hr h he hl h4
  by_cases h5 : s.k = 5
  · exact stmt_5 f B b p a s lo hX hI hS hC r w hr h he hl h5
  by_cases h6 : s.k = 6
  · exact stmt_6 f B b p a s lo hX hI hS hC r w hr h he hl h6
  by_cases h7 : s.k = 7
  · exact stmt_7 f B b p a s lo hX hI hS hC r w hr h he hl h7
  by_cases h9 : s.k = 9
  · exact stmt_9 f B b p a s lo hX hI hS hC r w hr h he hl h9
  exact stmt_0 f B b p a s lo hX hI hS hC r w hr h he hl ⟨h1, h2, h3, h8, h11, h4, h5, h6, h7, h9⟩
set_option maxRecDepth 100000 in
set_option maxHeartbeats 4000000 in
theorem stmts_step (f B b : Nat) (p : Pl) (a : Pa) (l : List St) (A : Option Addr) (cap : Nat) (lo : Bool) (r : Int) (w : World)
    (hS : ∀ s ∈ l, ∀ (lo : Bool) (r : Int) (w : World), Ty.stmt p lo s = r → PlAt w B b p a → StAt f w B s → Calls Tryz.prog 72 #[.pointer (some ⟨b, 0, none⟩), .agg #[.int .i64 s.k, .int .i64 s.n, .string s.name, .slice s.eA s.es.length s.ec, .slice s.lA s.ls.length s.lc, .slice s.bA s.bs.length s.bc], .bool lo] w fun z w' => z = .returned (.int .i64 r) ∧ Below w.heap.size w w')
    (hr : Ty.stmts p lo l = r) (h : PlAt w B b p a) (he : StsAt (f + 1) w B A l) :
    Calls Tryz.prog 60 #[.pointer (some ⟨b, 0, none⟩), .slice A l.length cap, .bool lo] w fun z w' => z = .returned (.int .i64 r) ∧ Below w.heap.size w w' := by
  have HS := Aid.hid hS; have HR := Aid.hid hr; have HH := Aid.hid h; have HE := Aid.hid he
  have hB := h.le
  have hll := he.1
  clear hS hr h he
  go_enter Tryz.func60, Tryz.ntmps60
  try simp only [List.append_eq, List.cons_append, List.nil_append]
  go_wp2_with fail
  go_loopw [12] (fun vi wr => ∃ k : Nat, vi = .int .i64 k ∧ k ≤ l.length ∧ Hid (Ty.stmts p lo (l.drop k) = r) ∧ Hid (Below w.heap.size w wr)) (fun vi _ => l.length - (intOf vi).toNat)
  case atStart => exact ⟨0, rfl, Nat.zero_le _, HR, Aid.hid (Below.refl _ _)⟩
  case round =>
    obtain ⟨k, rfl, hk, HK, HB⟩ := hrel
    by_cases hlt : k < l.length
    · obtain ⟨s, hs⟩ : ∃ s, l[k]? = some s := ⟨_, List.getElem?_eq_getElem hlt⟩
      have he := HE.out.below HB.out hB
      obtain ⟨g, off, hA, hgB, hc⟩ := he.2.1 (by simp; omega)
      subst hA
      have hcs := hc k s.cells (by simp [hs])
      have c0 := hcs 0 _ rfl
      have c1 := hcs 1 _ rfl
      have c2 := hcs 2 _ rfl
      have c3 := hcs 3 _ rfl
      have c4 := hcs 4 _ rfl
      have c5 := hcs 5 _ rfl
      simp only [Nat.add_zero] at c0
      have lg : g < wr.heap.size := by have := HB.out.size; omega
      obtain ⟨c, hcc⟩ : ∃ c, Ty.stmt p lo s = c := ⟨_, rfl⟩
      have kk := below_new wr (.cells #[.int .i64 s.k, .int .i64 s.n, .string s.name, .slice s.eA s.es.length s.ec, .slice s.lA s.ls.length s.lc, .slice s.bA s.bs.length s.bc] 60)
      have k2 := HB.out.trans (kk.mono HB.out.size)
      have HC := Aid.hid (HS.out s (List.mem_of_getElem? hs) lo c (wr.alloc (.cells #[.int .i64 s.k, .int .i64 s.n, .string s.name, .slice s.eA s.es.length s.ec, .slice s.lA s.ls.length s.lc, .slice s.bA s.bs.length s.bc] 60)) hcc (HH.out.below k2) ((he.at (List.mem_of_getElem? hs)).below kk (by have := HB.out.size; omega)))
      have HK2 := Aid.hid (show (if c ≠ 0 then c else Ty.stmts p lo (l.drop (k + 1))) = r by have := HK.out; rw [tdrop_at hs, Ty.stmts_cons, hcc] at this; exact this)
      have K2 := Aid.hid k2
      clear hc hcs hs he hcc kk k2 HK
      go_wp2_with fail
      refine HC.out.mono ?_; rintro _ w5 ⟨rfl, hb5⟩
      have K5 := Aid.hid (K2.out.trans (hb5.mono K2.out.size))
      clear hb5 HC c0 c1 c2 c3 c4 c5 lg K2
      by_cases hz : c = 0
      · subst hz
        have NX := Aid.hid (show Ty.stmts p lo (l.drop (k + 1)) = r by have := HK2.out; simpa using this)
        go_wp2_with fail
        go_roundw
        case rel => exact ⟨k + 1, by go_num, by omega, NX, K5⟩
        case measure => simp [intOf]; omega
      · obtain rfl : c = r := by have := HK2.out; simpa [hz] using this
        go_wp2_with fail
        go_ret
        exact ⟨rfl, K5.out⟩
    · obtain rfl : 0 = r := by have := HK.out; rw [List.drop_eq_nil_of_le (by omega), Ty.stmts_nil] at this; exact this
      go_wp2_with fail
      go_ret
      exact ⟨rfl, HB.out⟩
end Go.Proofs.YtejifefgmlpclaaGreat
