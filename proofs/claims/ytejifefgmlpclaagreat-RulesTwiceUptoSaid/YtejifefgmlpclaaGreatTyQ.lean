/- Parts of typing, as walks: a statement; statements (a Case left open). -/
import Derived.Test.YtejifefgmlpclaaGreatTyM
import Derived.WalkKit
import Derived.WalkSpells
import Derived.WalkLawsBesides
import Derived.LoopTactic
import Derived.Deep.QuietTactic
import Derived.BigQuiet
import Derived.Below
import Derived.Laws.ResultCell
import Derived.Laws.Tables
import Derived.Laws.Rows
import Derived.Deep.Cut
import Derived.KernelRfl
set_option linter.unusedSimpArgs false
set_option linter.unusedVariables false
namespace Go.Proofs.YtejifefgmlpclaaGreat
open Go.RowKit

def InvOK (f B b : Nat) (p : Pl) (a : Pa) (x : Ex) : Prop :=
  ∀ (w : World) (t : Ty) (c : Int), Ty.inv p x = (t, c) → PlAt w B b p a → ExsAt f w B x.A x.args →
    Calls Tryz.prog 79 #[.pointer (some ⟨b, 0, none⟩), .agg #[.int .i64 x.k, .int .i64 x.n, .string x.name, .string x.what, .slice x.A x.args.length x.c]] w fun r w' => r = .returned (.tuple #[.agg #[.int .i64 t.k, .int .i64 t.lo, .int .i64 t.hi, .string t.name], .int .i64 c]) ∧ Below w.heap.size w w'
theorem inv_ok (B b : Nat) (p : Pl) (a : Pa) : ∀ (f : Nat) (x : Ex), ExLim f x.args → InvOK f B b p a x
  | 0, x, _ => fun w t c hr h he => by
    have ha : x.args = [] := he
    exact invoke_is 0 B b p a x t c w (by rw [ha]; simp) hr h (by rw [ha]; exact ⟨by simp, Rows.nil_ _ _ _ _, by simp⟩) (by rw [ha]; simp)
  | f + 1, x, hl => fun w t c hr h he => invoke_is f B b p a x t c w (fun y hy => expr_is B b p a f y (hl.2 y hy)) hr h he hl.1
/-- A Case is answered as the program does. -/
def CaOK (f B b : Nat) (p : Pl) (a : Pa) (s : St) : Prop :=
  ∀ (w : World) (lo : Bool) (r : Int), Ty.cases (Ty.hd (s.es.map (Ty.expr p))) s.ls (s.bs.map fun x => Ty.stmts p lo x.l) = r → PlAt w B b p a → StAt f w B s → s.es.length = 1 → s.bs.length = s.ls.length + 1 →
    Calls Tryz.prog 81 #[.pointer (some ⟨b, 0, none⟩), .agg #[.int .i64 s.k, .int .i64 s.n, .string s.name, .slice s.eA s.es.length s.ec, .slice s.lA s.ls.length s.lc, .slice s.bA s.bs.length s.bc], .bool lo] w fun z w' => z = .returned (.int .i64 r) ∧ Below w.heap.size w w'

set_option maxRecDepth 100000 in
set_option maxHeartbeats 4000000 in
theorem stmt_1 (f B b : Nat) (p : Pl) (a : Pa) (s : St) (lo : Bool) (hX : ∀ x ∈ s.es, ExOK f B b p a x) (hI : ∀ x ∈ s.es, InvOK f B b p a x) (hS : ∀ x ∈ s.bs, StsOK f B b p a x.l) (hC : CaOK f B b p a s) (r : Int) (w : World) (hr : Ty.stmt p lo s = r) (h : PlAt w B b p a) (he : StAt f w B s) (hl : StLim s) (hk : s.k = 1) :
    Calls Tryz.prog 72 #[.pointer (some ⟨b, 0, none⟩), .agg #[.int .i64 s.k, .int .i64 s.n, .string s.name, .slice s.eA s.es.length s.ec, .slice s.lA s.ls.length s.lc, .slice s.bA s.bs.length s.bc], .bool lo] w fun z w' => z = .returned (.int .i64 r) ∧ Below w.heap.size w w' := by
  have n4 := Aid.Has.new w [.int .i64 s.k, .int .i64 s.n, .string s.name, .slice s.eA s.es.length s.ec, .slice s.lA s.ls.length s.lc, .slice s.bA s.bs.length s.bc] 60
  have k0 := below_new w (.cells #[.int .i64 s.k, .int .i64 s.n, .string s.name, .slice s.eA s.es.length s.ec, .slice s.lA s.ls.length s.lc, .slice s.bA s.bs.length s.bc] 60)
  obtain ⟨W, hW⟩ : ∃ W, w.alloc (.cells #[.int .i64 s.k, .int .i64 s.n, .string s.name, .slice s.eA s.es.length s.ec, .slice s.lA s.ls.length s.lc, .slice s.bA s.bs.length s.bc] 60) = W := ⟨_, rfl⟩
  rw [hW] at n4 k0
  rw [Ty.stmt_eq] at hr
  obtain ⟨fo, hfo⟩ : ∃ q, Ty.formed s.k s.es.length s.bs.length s.ls = q := ⟨_, rfl⟩
  have HF := Aid.hid (formed_is s B fo W hfo (he.lr.below k0 h.le) (Nat.le_trans h.le k0.size) hl.e hl.b hl.l)
  have hr' := hr
  rw [Ty.stmtG.eq_def, List.length_map] at hr'
  have c0 := n4.cell 0 _ rfl
  have c1 := n4.cell 1 _ rfl
  have c2 := n4.cell 2 _ rfl
  have c3 := n4.cell 3 _ rfl
  have c4 := n4.cell 4 _ rfl
  have c5 := n4.cell 5 _ rfl
  have l4 := n4.lt
  have N4 := Aid.hid n4; have K0 := Aid.hid k0; have HR := Aid.hid hr'; have HFO := Aid.hid hfo
  have HX := Aid.hid hX; have HI := Aid.hid hI; have HS := Aid.hid hS; have HCA := Aid.hid hC; have HH := Aid.hid h; have HE := Aid.hid he; have HL := Aid.hid hl
  have hB := h.le
  have k1 : (s.k == 1) = true := by simp [hk]
  have k2 : (s.k == 2) = false := by simp [hk]
  have k3 : (s.k == 3) = false := by simp [hk]
  have k8 : (s.k == 8) = false := by simp [hk]
  have k11 : (s.k == 11) = false := by simp [hk]
  have k4 : (s.k == 4) = false := by simp [hk]
  have k5 : (s.k == 5) = false := by simp [hk]
  have k6 : (s.k == 6) = false := by simp [hk]
  have k7 : (s.k == 7) = false := by simp [hk]
  have k9 : (s.k == 9) = false := by simp [hk]
  have HKK := Aid.hid hk
  clear hk
  clear hX hI hS hC h he hl hr hr' n4 k0 hfo
  go_enter Tryz.func72, Tryz.ntmps72
  try simp only [List.append_eq, List.cons_append, List.nil_append]
  go_wp2_with fail
  clear hW
  refine HF.out.mono ?_; rintro _ w1 ⟨rfl, hb1⟩
  have k1 := K0.out.trans (hb1.mono K0.out.size)
  have n4 := N4.out.below hb1 N4.out.lt
  have e0 := n4.cell 0 _ rfl
  have e1 := n4.cell 1 _ rfl
  have e2 := n4.cell 2 _ rfl
  have e3 := n4.cell 3 _ rfl
  have e4 := n4.cell 4 _ rfl
  have e5 := n4.cell 5 _ rfl
  have l4b := n4.lt
  clear c0 c1 c2 c3 c4 c5 l4 HF
  cases fo
  · obtain rfl : 14 = r := by have := HR.out; rw [if_pos HFO.out] at this; exact this
    have K1 := Aid.hid k1
    clear n4 hb1 k1
    go_wp2_with fail
    go_ret
    exact ⟨rfl, K1.out⟩
  · have K1 := Aid.hid k1
    have N4b := Aid.hid n4
    have HP := Aid.hid (HH.out.below k1)
    have HE1 := Aid.hid (HE.out.below k1 hB)
    clear n4 hb1 k1
    have hf := HFO.out
    have hes : s.es.length = 1 := by rw [HKK.out] at hf; simp [Ty.formed] at hf; omega

    have hr : Ty.changed p s.k s.n s.name (s.es.map (Ty.expr p)) (s.bs.map fun x => Ty.stmts p true x.l) = r := by
      have := HR.out
      rw [if_neg (by rw [hf]; simp), if_pos (by rw [HKK.out]; decide)] at this
      exact this
    have HC := Aid.hid (changed_1 f B b p a s r w1 HKK.out HX.out hr HP.out HE1.out.ex hes)
    clear hf hes hr
    go_wp2_with fail
    refine HC.out.mono ?_; rintro _ w2 ⟨rfl, hb2⟩
    have K2 := Aid.hid (K1.out.trans (hb2.mono K1.out.size))
    clear hb2
    go_wp2_with fail
    go_ret
    exact ⟨rfl, K2.out⟩
set_option maxRecDepth 100000 in
set_option maxHeartbeats 4000000 in
theorem stmt_2 (f B b : Nat) (p : Pl) (a : Pa) (s : St) (lo : Bool) (hX : ∀ x ∈ s.es, ExOK f B b p a x) (hI : ∀ x ∈ s.es, InvOK f B b p a x) (hS : ∀ x ∈ s.bs, StsOK f B b p a x.l) (hC : CaOK f B b p a s) (r : Int) (w : World) (hr : Ty.stmt p lo s = r) (h : PlAt w B b p a) (he : StAt f w B s) (hl : StLim s) (hk : s.k = 2) :
    Calls Tryz.prog 72 #[.pointer (some ⟨b, 0, none⟩), .agg #[.int .i64 s.k, .int .i64 s.n, .string s.name, .slice s.eA s.es.length s.ec, .slice s.lA s.ls.length s.lc, .slice s.bA s.bs.length s.bc], .bool lo] w fun z w' => z = .returned (.int .i64 r) ∧ Below w.heap.size w w' := by
  have n4 := Aid.Has.new w [.int .i64 s.k, .int .i64 s.n, .string s.name, .slice s.eA s.es.length s.ec, .slice s.lA s.ls.length s.lc, .slice s.bA s.bs.length s.bc] 60
  have k0 := below_new w (.cells #[.int .i64 s.k, .int .i64 s.n, .string s.name, .slice s.eA s.es.length s.ec, .slice s.lA s.ls.length s.lc, .slice s.bA s.bs.length s.bc] 60)
  obtain ⟨W, hW⟩ : ∃ W, w.alloc (.cells #[.int .i64 s.k, .int .i64 s.n, .string s.name, .slice s.eA s.es.length s.ec, .slice s.lA s.ls.length s.lc, .slice s.bA s.bs.length s.bc] 60) = W := ⟨_, rfl⟩
  rw [hW] at n4 k0
  rw [Ty.stmt_eq] at hr
  obtain ⟨fo, hfo⟩ : ∃ q, Ty.formed s.k s.es.length s.bs.length s.ls = q := ⟨_, rfl⟩
  have HF := Aid.hid (formed_is s B fo W hfo (he.lr.below k0 h.le) (Nat.le_trans h.le k0.size) hl.e hl.b hl.l)
  have hr' := hr
  rw [Ty.stmtG.eq_def, List.length_map] at hr'
  have c0 := n4.cell 0 _ rfl
  have c1 := n4.cell 1 _ rfl
  have c2 := n4.cell 2 _ rfl
  have c3 := n4.cell 3 _ rfl
  have c4 := n4.cell 4 _ rfl
  have c5 := n4.cell 5 _ rfl
  have l4 := n4.lt
  have N4 := Aid.hid n4; have K0 := Aid.hid k0; have HR := Aid.hid hr'; have HFO := Aid.hid hfo
  have HX := Aid.hid hX; have HI := Aid.hid hI; have HS := Aid.hid hS; have HCA := Aid.hid hC; have HH := Aid.hid h; have HE := Aid.hid he; have HL := Aid.hid hl
  have hB := h.le
  have k1 : (s.k == 1) = false := by simp [hk]
  have k2 : (s.k == 2) = true := by simp [hk]
  have k3 : (s.k == 3) = false := by simp [hk]
  have k8 : (s.k == 8) = false := by simp [hk]
  have k11 : (s.k == 11) = false := by simp [hk]
  have k4 : (s.k == 4) = false := by simp [hk]
  have k5 : (s.k == 5) = false := by simp [hk]
  have k6 : (s.k == 6) = false := by simp [hk]
  have k7 : (s.k == 7) = false := by simp [hk]
  have k9 : (s.k == 9) = false := by simp [hk]
  have HKK := Aid.hid hk
  clear hk
  clear hX hI hS hC h he hl hr hr' n4 k0 hfo
  go_enter Tryz.func72, Tryz.ntmps72
  try simp only [List.append_eq, List.cons_append, List.nil_append]
  go_wp2_with fail
  clear hW
  refine HF.out.mono ?_; rintro _ w1 ⟨rfl, hb1⟩
  have k1 := K0.out.trans (hb1.mono K0.out.size)
  have n4 := N4.out.below hb1 N4.out.lt
  have e0 := n4.cell 0 _ rfl
  have e1 := n4.cell 1 _ rfl
  have e2 := n4.cell 2 _ rfl
  have e3 := n4.cell 3 _ rfl
  have e4 := n4.cell 4 _ rfl
  have e5 := n4.cell 5 _ rfl
  have l4b := n4.lt
  clear c0 c1 c2 c3 c4 c5 l4 HF
  cases fo
  · obtain rfl : 14 = r := by have := HR.out; rw [if_pos HFO.out] at this; exact this
    have K1 := Aid.hid k1
    clear n4 hb1 k1
    go_wp2_with fail
    go_ret
    exact ⟨rfl, K1.out⟩
  · have K1 := Aid.hid k1
    have N4b := Aid.hid n4
    have HP := Aid.hid (HH.out.below k1)
    have HE1 := Aid.hid (HE.out.below k1 hB)
    clear n4 hb1 k1
    have hf := HFO.out
    have hes : s.es.length = 2 := by rw [HKK.out] at hf; simp [Ty.formed] at hf; omega

    have hr : Ty.changed p s.k s.n s.name (s.es.map (Ty.expr p)) (s.bs.map fun x => Ty.stmts p true x.l) = r := by
      have := HR.out
      rw [if_neg (by rw [hf]; simp), if_pos (by rw [HKK.out]; decide)] at this
      exact this
    have HC := Aid.hid (changed_2 f B b p a s r w1 HKK.out HX.out hr HP.out HE1.out.ex hes)
    clear hf hes hr
    go_wp2_with fail
    refine HC.out.mono ?_; rintro _ w2 ⟨rfl, hb2⟩
    have K2 := Aid.hid (K1.out.trans (hb2.mono K1.out.size))
    clear hb2
    go_wp2_with fail
    go_ret
    exact ⟨rfl, K2.out⟩
set_option maxRecDepth 100000 in
set_option maxHeartbeats 4000000 in
theorem stmt_3 (f B b : Nat) (p : Pl) (a : Pa) (s : St) (lo : Bool) (hX : ∀ x ∈ s.es, ExOK f B b p a x) (hI : ∀ x ∈ s.es, InvOK f B b p a x) (hS : ∀ x ∈ s.bs, StsOK f B b p a x.l) (hC : CaOK f B b p a s) (r : Int) (w : World) (hr : Ty.stmt p lo s = r) (h : PlAt w B b p a) (he : StAt f w B s) (hl : StLim s) (hk : s.k = 3) :
    Calls Tryz.prog 72 #[.pointer (some ⟨b, 0, none⟩), .agg #[.int .i64 s.k, .int .i64 s.n, .string s.name, .slice s.eA s.es.length s.ec, .slice s.lA s.ls.length s.lc, .slice s.bA s.bs.length s.bc], .bool lo] w fun z w' => z = .returned (.int .i64 r) ∧ Below w.heap.size w w' := by
  have n4 := Aid.Has.new w [.int .i64 s.k, .int .i64 s.n, .string s.name, .slice s.eA s.es.length s.ec, .slice s.lA s.ls.length s.lc, .slice s.bA s.bs.length s.bc] 60
  have k0 := below_new w (.cells #[.int .i64 s.k, .int .i64 s.n, .string s.name, .slice s.eA s.es.length s.ec, .slice s.lA s.ls.length s.lc, .slice s.bA s.bs.length s.bc] 60)
  obtain ⟨W, hW⟩ : ∃ W, w.alloc (.cells #[.int .i64 s.k, .int .i64 s.n, .string s.name, .slice s.eA s.es.length s.ec, .slice s.lA s.ls.length s.lc, .slice s.bA s.bs.length s.bc] 60) = W := ⟨_, rfl⟩
  rw [hW] at n4 k0
  rw [Ty.stmt_eq] at hr
  obtain ⟨fo, hfo⟩ : ∃ q, Ty.formed s.k s.es.length s.bs.length s.ls = q := ⟨_, rfl⟩
  have HF := Aid.hid (formed_is s B fo W hfo (he.lr.below k0 h.le) (Nat.le_trans h.le k0.size) hl.e hl.b hl.l)
  have hr' := hr
  rw [Ty.stmtG.eq_def, List.length_map] at hr'
  have c0 := n4.cell 0 _ rfl
  have c1 := n4.cell 1 _ rfl
  have c2 := n4.cell 2 _ rfl
  have c3 := n4.cell 3 _ rfl
  have c4 := n4.cell 4 _ rfl
  have c5 := n4.cell 5 _ rfl
  have l4 := n4.lt
  have N4 := Aid.hid n4; have K0 := Aid.hid k0; have HR := Aid.hid hr'; have HFO := Aid.hid hfo
  have HX := Aid.hid hX; have HI := Aid.hid hI; have HS := Aid.hid hS; have HCA := Aid.hid hC; have HH := Aid.hid h; have HE := Aid.hid he; have HL := Aid.hid hl
  have hB := h.le
  have k1 : (s.k == 1) = false := by simp [hk]
  have k2 : (s.k == 2) = false := by simp [hk]
  have k3 : (s.k == 3) = true := by simp [hk]
  have k8 : (s.k == 8) = false := by simp [hk]
  have k11 : (s.k == 11) = false := by simp [hk]
  have k4 : (s.k == 4) = false := by simp [hk]
  have k5 : (s.k == 5) = false := by simp [hk]
  have k6 : (s.k == 6) = false := by simp [hk]
  have k7 : (s.k == 7) = false := by simp [hk]
  have k9 : (s.k == 9) = false := by simp [hk]
  have HKK := Aid.hid hk
  clear hk
  clear hX hI hS hC h he hl hr hr' n4 k0 hfo
  go_enter Tryz.func72, Tryz.ntmps72
  try simp only [List.append_eq, List.cons_append, List.nil_append]
  go_wp2_with fail
  clear hW
  refine HF.out.mono ?_; rintro _ w1 ⟨rfl, hb1⟩
  have k1 := K0.out.trans (hb1.mono K0.out.size)
  have n4 := N4.out.below hb1 N4.out.lt
  have e0 := n4.cell 0 _ rfl
  have e1 := n4.cell 1 _ rfl
  have e2 := n4.cell 2 _ rfl
  have e3 := n4.cell 3 _ rfl
  have e4 := n4.cell 4 _ rfl
  have e5 := n4.cell 5 _ rfl
  have l4b := n4.lt
  clear c0 c1 c2 c3 c4 c5 l4 HF
  cases fo
  · obtain rfl : 14 = r := by have := HR.out; rw [if_pos HFO.out] at this; exact this
    have K1 := Aid.hid k1
    clear n4 hb1 k1
    go_wp2_with fail
    go_ret
    exact ⟨rfl, K1.out⟩
  · have K1 := Aid.hid k1
    have N4b := Aid.hid n4
    have HP := Aid.hid (HH.out.below k1)
    have HE1 := Aid.hid (HE.out.below k1 hB)
    clear n4 hb1 k1
    have hf := HFO.out
    have hes : s.es.length = 1 := by rw [HKK.out] at hf; simp [Ty.formed] at hf; omega

    have hr : Ty.changed p s.k s.n s.name (s.es.map (Ty.expr p)) (s.bs.map fun x => Ty.stmts p true x.l) = r := by
      have := HR.out
      rw [if_neg (by rw [hf]; simp), if_pos (by rw [HKK.out]; decide)] at this
      exact this
    have HC := Aid.hid (changed_3 f B b p a s r w1 HKK.out HX.out hr HP.out HE1.out.ex hes)
    clear hf hes hr
    go_wp2_with fail
    refine HC.out.mono ?_; rintro _ w2 ⟨rfl, hb2⟩
    have K2 := Aid.hid (K1.out.trans (hb2.mono K1.out.size))
    clear hb2
    go_wp2_with fail
    go_ret
    exact ⟨rfl, K2.out⟩
set_option maxRecDepth 100000 in
set_option maxHeartbeats 4000000 in
theorem stmt_8 (f B b : Nat) (p : Pl) (a : Pa) (s : St) (lo : Bool) (hX : ∀ x ∈ s.es, ExOK f B b p a x) (hI : ∀ x ∈ s.es, InvOK f B b p a x) (hS : ∀ x ∈ s.bs, StsOK f B b p a x.l) (hC : CaOK f B b p a s) (r : Int) (w : World) (hr : Ty.stmt p lo s = r) (h : PlAt w B b p a) (he : StAt f w B s) (hl : StLim s) (hk : s.k = 8) :
    Calls Tryz.prog 72 #[.pointer (some ⟨b, 0, none⟩), .agg #[.int .i64 s.k, .int .i64 s.n, .string s.name, .slice s.eA s.es.length s.ec, .slice s.lA s.ls.length s.lc, .slice s.bA s.bs.length s.bc], .bool lo] w fun z w' => z = .returned (.int .i64 r) ∧ Below w.heap.size w w' := by
  have n4 := Aid.Has.new w [.int .i64 s.k, .int .i64 s.n, .string s.name, .slice s.eA s.es.length s.ec, .slice s.lA s.ls.length s.lc, .slice s.bA s.bs.length s.bc] 60
  have k0 := below_new w (.cells #[.int .i64 s.k, .int .i64 s.n, .string s.name, .slice s.eA s.es.length s.ec, .slice s.lA s.ls.length s.lc, .slice s.bA s.bs.length s.bc] 60)
  obtain ⟨W, hW⟩ : ∃ W, w.alloc (.cells #[.int .i64 s.k, .int .i64 s.n, .string s.name, .slice s.eA s.es.length s.ec, .slice s.lA s.ls.length s.lc, .slice s.bA s.bs.length s.bc] 60) = W := ⟨_, rfl⟩
  rw [hW] at n4 k0
  rw [Ty.stmt_eq] at hr
  obtain ⟨fo, hfo⟩ : ∃ q, Ty.formed s.k s.es.length s.bs.length s.ls = q := ⟨_, rfl⟩
  have HF := Aid.hid (formed_is s B fo W hfo (he.lr.below k0 h.le) (Nat.le_trans h.le k0.size) hl.e hl.b hl.l)
  have hr' := hr
  rw [Ty.stmtG.eq_def, List.length_map] at hr'
  have c0 := n4.cell 0 _ rfl
  have c1 := n4.cell 1 _ rfl
  have c2 := n4.cell 2 _ rfl
  have c3 := n4.cell 3 _ rfl
  have c4 := n4.cell 4 _ rfl
  have c5 := n4.cell 5 _ rfl
  have l4 := n4.lt
  have N4 := Aid.hid n4; have K0 := Aid.hid k0; have HR := Aid.hid hr'; have HFO := Aid.hid hfo
  have HX := Aid.hid hX; have HI := Aid.hid hI; have HS := Aid.hid hS; have HCA := Aid.hid hC; have HH := Aid.hid h; have HE := Aid.hid he; have HL := Aid.hid hl
  have hB := h.le
  have k1 : (s.k == 1) = false := by simp [hk]
  have k2 : (s.k == 2) = false := by simp [hk]
  have k3 : (s.k == 3) = false := by simp [hk]
  have k8 : (s.k == 8) = true := by simp [hk]
  have k11 : (s.k == 11) = false := by simp [hk]
  have k4 : (s.k == 4) = false := by simp [hk]
  have k5 : (s.k == 5) = false := by simp [hk]
  have k6 : (s.k == 6) = false := by simp [hk]
  have k7 : (s.k == 7) = false := by simp [hk]
  have k9 : (s.k == 9) = false := by simp [hk]
  have HKK := Aid.hid hk
  clear hk
  clear hX hI hS hC h he hl hr hr' n4 k0 hfo
  go_enter Tryz.func72, Tryz.ntmps72
  try simp only [List.append_eq, List.cons_append, List.nil_append]
  go_wp2_with fail
  clear hW
  refine HF.out.mono ?_; rintro _ w1 ⟨rfl, hb1⟩
  have k1 := K0.out.trans (hb1.mono K0.out.size)
  have n4 := N4.out.below hb1 N4.out.lt
  have e0 := n4.cell 0 _ rfl
  have e1 := n4.cell 1 _ rfl
  have e2 := n4.cell 2 _ rfl
  have e3 := n4.cell 3 _ rfl
  have e4 := n4.cell 4 _ rfl
  have e5 := n4.cell 5 _ rfl
  have l4b := n4.lt
  clear c0 c1 c2 c3 c4 c5 l4 HF
  cases fo
  · obtain rfl : 14 = r := by have := HR.out; rw [if_pos HFO.out] at this; exact this
    have K1 := Aid.hid k1
    clear n4 hb1 k1
    go_wp2_with fail
    go_ret
    exact ⟨rfl, K1.out⟩
  · have K1 := Aid.hid k1
    have N4b := Aid.hid n4
    have HP := Aid.hid (HH.out.below k1)
    have HE1 := Aid.hid (HE.out.below k1 hB)
    clear n4 hb1 k1
    have hf := HFO.out
    have hes : s.es.length = 2 := by rw [HKK.out] at hf; simp [Ty.formed] at hf; omega
    have hbl : s.bs.length = 1 := by rw [HKK.out] at hf; simp [Ty.formed] at hf; omega
    have hr : Ty.changed p s.k s.n s.name (s.es.map (Ty.expr p)) (s.bs.map fun x => Ty.stmts p true x.l) = r := by
      have := HR.out
      rw [if_neg (by rw [hf]; simp), if_pos (by rw [HKK.out]; decide)] at this
      exact this
    have HC := Aid.hid (changed_8 f B b p a s r w1 HKK.out HX.out hr HP.out HE1.out.ex hes hbl HS.out HE1.out.br HE1.out.ba)
    clear hf hes hr hbl
    go_wp2_with fail
    refine HC.out.mono ?_; rintro _ w2 ⟨rfl, hb2⟩
    have K2 := Aid.hid (K1.out.trans (hb2.mono K1.out.size))
    clear hb2
    go_wp2_with fail
    go_ret
    exact ⟨rfl, K2.out⟩
set_option maxRecDepth 100000 in
set_option maxHeartbeats 4000000 in
theorem stmt_11 (f B b : Nat) (p : Pl) (a : Pa) (s : St) (lo : Bool) (hX : ∀ x ∈ s.es, ExOK f B b p a x) (hI : ∀ x ∈ s.es, InvOK f B b p a x) (hS : ∀ x ∈ s.bs, StsOK f B b p a x.l) (hC : CaOK f B b p a s) (r : Int) (w : World) (hr : Ty.stmt p lo s = r) (h : PlAt w B b p a) (he : StAt f w B s) (hl : StLim s) (hk : s.k = 11) :
    Calls Tryz.prog 72 #[.pointer (some ⟨b, 0, none⟩), .agg #[.int .i64 s.k, .int .i64 s.n, .string s.name, .slice s.eA s.es.length s.ec, .slice s.lA s.ls.length s.lc, .slice s.bA s.bs.length s.bc], .bool lo] w fun z w' => z = .returned (.int .i64 r) ∧ Below w.heap.size w w' := by
  have n4 := Aid.Has.new w [.int .i64 s.k, .int .i64 s.n, .string s.name, .slice s.eA s.es.length s.ec, .slice s.lA s.ls.length s.lc, .slice s.bA s.bs.length s.bc] 60
  have k0 := below_new w (.cells #[.int .i64 s.k, .int .i64 s.n, .string s.name, .slice s.eA s.es.length s.ec, .slice s.lA s.ls.length s.lc, .slice s.bA s.bs.length s.bc] 60)
  obtain ⟨W, hW⟩ : ∃ W, w.alloc (.cells #[.int .i64 s.k, .int .i64 s.n, .string s.name, .slice s.eA s.es.length s.ec, .slice s.lA s.ls.length s.lc, .slice s.bA s.bs.length s.bc] 60) = W := ⟨_, rfl⟩
  rw [hW] at n4 k0
  rw [Ty.stmt_eq] at hr
  obtain ⟨fo, hfo⟩ : ∃ q, Ty.formed s.k s.es.length s.bs.length s.ls = q := ⟨_, rfl⟩
  have HF := Aid.hid (formed_is s B fo W hfo (he.lr.below k0 h.le) (Nat.le_trans h.le k0.size) hl.e hl.b hl.l)
  have hr' := hr
  rw [Ty.stmtG.eq_def, List.length_map] at hr'
  have c0 := n4.cell 0 _ rfl
  have c1 := n4.cell 1 _ rfl
  have c2 := n4.cell 2 _ rfl
  have c3 := n4.cell 3 _ rfl
  have c4 := n4.cell 4 _ rfl
  have c5 := n4.cell 5 _ rfl
  have l4 := n4.lt
  have N4 := Aid.hid n4; have K0 := Aid.hid k0; have HR := Aid.hid hr'; have HFO := Aid.hid hfo
  have HX := Aid.hid hX; have HI := Aid.hid hI; have HS := Aid.hid hS; have HCA := Aid.hid hC; have HH := Aid.hid h; have HE := Aid.hid he; have HL := Aid.hid hl
  have hB := h.le
  have k1 : (s.k == 1) = false := by simp [hk]
  have k2 : (s.k == 2) = false := by simp [hk]
  have k3 : (s.k == 3) = false := by simp [hk]
  have k8 : (s.k == 8) = false := by simp [hk]
  have k11 : (s.k == 11) = true := by simp [hk]
  have k4 : (s.k == 4) = false := by simp [hk]
  have k5 : (s.k == 5) = false := by simp [hk]
  have k6 : (s.k == 6) = false := by simp [hk]
  have k7 : (s.k == 7) = false := by simp [hk]
  have k9 : (s.k == 9) = false := by simp [hk]
  have HKK := Aid.hid hk
  clear hk
  clear hX hI hS hC h he hl hr hr' n4 k0 hfo
  go_enter Tryz.func72, Tryz.ntmps72
  try simp only [List.append_eq, List.cons_append, List.nil_append]
  go_wp2_with fail
  clear hW
  refine HF.out.mono ?_; rintro _ w1 ⟨rfl, hb1⟩
  have k1 := K0.out.trans (hb1.mono K0.out.size)
  have n4 := N4.out.below hb1 N4.out.lt
  have e0 := n4.cell 0 _ rfl
  have e1 := n4.cell 1 _ rfl
  have e2 := n4.cell 2 _ rfl
  have e3 := n4.cell 3 _ rfl
  have e4 := n4.cell 4 _ rfl
  have e5 := n4.cell 5 _ rfl
  have l4b := n4.lt
  clear c0 c1 c2 c3 c4 c5 l4 HF
  cases fo
  · obtain rfl : 14 = r := by have := HR.out; rw [if_pos HFO.out] at this; exact this
    have K1 := Aid.hid k1
    clear n4 hb1 k1
    go_wp2_with fail
    go_ret
    exact ⟨rfl, K1.out⟩
  · have K1 := Aid.hid k1
    have N4b := Aid.hid n4
    have HP := Aid.hid (HH.out.below k1)
    have HE1 := Aid.hid (HE.out.below k1 hB)
    clear n4 hb1 k1
    have hf := HFO.out
    have hes : s.es.length = 2 := by rw [HKK.out] at hf; simp [Ty.formed] at hf; omega

    have hr : Ty.changed p s.k s.n s.name (s.es.map (Ty.expr p)) (s.bs.map fun x => Ty.stmts p true x.l) = r := by
      have := HR.out
      rw [if_neg (by rw [hf]; simp), if_pos (by rw [HKK.out]; decide)] at this
      exact this
    have HC := Aid.hid (changed_11 f B b p a s r w1 HKK.out HX.out hr HP.out HE1.out.ex hes)
    clear hf hes hr
    go_wp2_with fail
    refine HC.out.mono ?_; rintro _ w2 ⟨rfl, hb2⟩
    have K2 := Aid.hid (K1.out.trans (hb2.mono K1.out.size))
    clear hb2
    go_wp2_with fail
    go_ret
    exact ⟨rfl, K2.out⟩
end Go.Proofs.YtejifefgmlpclaaGreat
