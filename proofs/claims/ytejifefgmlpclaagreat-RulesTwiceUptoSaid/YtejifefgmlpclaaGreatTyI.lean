/- Parts of typing, as walks: an expression of one kind. -/
import Derived.Test.YtejifefgmlpclaaGreatTyH
import Derived.WalkKit
import Derived.WalkSpells
import Derived.WalkLawsBesides
import Derived.LoopTactic
import Derived.Deep.QuietTactic
import Derived.BigQuiet
import Derived.Below
import Derived.Laws.ResultCell
import Derived.Laws.Tables
import Derived.Laws.Rows
import Derived.Deep.Cut
import Derived.KernelRfl
set_option linter.unusedSimpArgs false
set_option linter.unusedVariables false
namespace Go.Proofs.YtejifefgmlpclaaGreat
open Go.RowKit

set_option maxRecDepth 100000 in
set_option maxHeartbeats 4000000 in
theorem expr_1 (f B b : Nat) (p : Pl) (a : Pa) (e : Ex) (hX : ∀ x ∈ e.args, ExOK f B b p a x) (hlim : e.args.length ≤ 1000000000) (w : World) (t : Ty) (c : Int) (hr : Ty.expr p e = (t, c)) (h : PlAt w B b p a) (he : ExsAt (f + 1) w B e.A e.args) (hk : e.k = 1) :
    Calls Tryz.prog 87 #[.pointer (some ⟨b, 0, none⟩), .agg #[.int .i64 e.k, .int .i64 e.n, .string e.name, .string e.what, .slice e.A e.args.length e.c]] w fun r w' => r = .returned (.tuple #[.agg #[.int .i64 t.k, .int .i64 t.lo, .int .i64 t.hi, .string t.name], .int .i64 c]) ∧ Below w.heap.size w w' := by
  obtain ⟨n3, n4, k0⟩ := two_new w [.int .i64 e.k, .int .i64 e.n, .string e.name, .string e.what, .slice e.A e.args.length e.c] [.int .i64 0, .int .i64 0, .int .i64 0, .string ⟨#[]⟩] 79 44
  rw [Ty.expr_eq] at hr
  have HR := Aid.hid hr
  have HH := Aid.hid h
  have HE := Aid.hid he
  have HX := Aid.hid hX
  obtain ⟨W, hW⟩ : ∃ W, (w.alloc (.cells #[.int .i64 e.k, .int .i64 e.n, .string e.name, .string e.what, .slice e.A e.args.length e.c] 79)).alloc (.cells #[.int .i64 0, .int .i64 0, .int .i64 0, .string ⟨#[]⟩] 44) = W := ⟨_, rfl⟩
  rw [hW] at n3 n4 k0
  have b0 := n3.cell 0 _ rfl
  have b1 := n3.cell 1 _ rfl
  have b2 := n3.cell 2 _ rfl
  have b3 := n3.cell 3 _ rfl
  have b4 := n3.cell 4 _ rfl
  have l3 := n3.lt
  have N4 := Aid.hid n4; have K0 := Aid.hid k0
  have HLIM := Aid.hid hlim
  clear hX hr h he n3 n4 k0 hlim
  have k1 : (e.k == 1) = true := by simp [hk]
  have k2 : (e.k == 2) = false := by simp [hk]
  have k3 : (e.k == 3) = false := by simp [hk]
  have k4 : (e.k == 4) = false := by simp [hk]
  have k7 : (e.k == 7) = false := by simp [hk]
  have k8 : (e.k == 8) = false := by simp [hk]
  have k9 : (e.k == 9) = false := by simp [hk]
  have k14 : (e.k == 14) = false := by simp [hk]
  have k13 : (e.k == 13) = false := by simp [hk]
  have k13n : (e.k != 13) = true := by simp [hk]
  have HKK := Aid.hid hk
  clear hk
  go_enter Tryz.func87, Tryz.ntmps87
  try simp only [List.append_eq, List.cons_append, List.nil_append]
  go_wp2_with fail
  clear hW
  refine (args_is e.k (0) W (by simp [Ty.args, HKK.out])).mono ?_; rintro _ w0 ⟨rfl, rfl⟩
  by_cases hlen : e.args.length = 0
  · have hl2 : ((e.args.length : Int) != 0) = false := by simp [hlen]
    have HLEN := Aid.hid hlen
    clear hlen
    obtain ⟨rfl, rfl⟩ : Ty.of 1 = t ∧ 0 = c := by have := HR.out; simpa [Ty.exprG, Ty.args, HKK.out, HLEN.out] using this
    go_wp2_with fail
    refine (of_x 1 _).mono ?_; rintro _ w8 ⟨rfl, hb8⟩
    have HZ8 := Aid.hid ((N4.out).below hb8 (N4.out).lt)
    have KW8 := Aid.hid ((K0.out).trans (hb8.mono (K0.out).size))
    clear hb8
    go_wp2_with (refine wpList_store_row rfl 44 _ _ rfl (w.heap.size + 1) _ rfl rfl 44 _ (HZ8.out) (by kernel_rfl) rfl (by simp [Value.oneCell']) ?_)
    refine bodyPost_ret (v := _) (results_row2 rfl _ _ (w.heap.size + 1) 44 _ (0, 0) _ _ rfl rfl (row_has (HZ8.out)) Tryz.underlying44 rfl (by kernel_rfl)) rfl ⟨rfl, row_below (KW8.out) (by omega) _⟩
  · have hl2 : ((e.args.length : Int) != 0) = true := bne_iff_ne.2 (fun h => hlen (by omega))
    obtain ⟨rfl, rfl⟩ : Ty.none_ = t ∧ 14 = c := by
      have := HR.out
      rw [Ty.exprG, if_pos (Or.inr ⟨by rw [List.length_map, show Ty.args e.k = 0 by simp [Ty.args, HKK.out]]; omega, by rw [HKK.out]; decide⟩)] at this
      simpa using this
    clear hlen
    go_wp2_with fail
    refine (wrong_x 14 _).mono ?_; rintro _ w8 ⟨rfl, hb8⟩
    have HZ8 := Aid.hid ((N4.out).below hb8 (N4.out).lt)
    have KW8 := Aid.hid ((K0.out).trans (hb8.mono (K0.out).size))
    clear hb8
    go_wp2_with (refine wpList_store_row rfl 44 _ _ rfl (w.heap.size + 1) _ rfl rfl 44 _ (HZ8.out) (by kernel_rfl) rfl (by simp [Value.oneCell']) ?_)
    refine bodyPost_ret (v := _) (results_row2 rfl _ _ (w.heap.size + 1) 44 _ (0, 0) _ _ rfl rfl (row_has (HZ8.out)) Tryz.underlying44 rfl (by kernel_rfl)) rfl ⟨rfl, row_below (KW8.out) (by omega) _⟩

set_option maxRecDepth 100000 in
set_option maxHeartbeats 4000000 in
theorem expr_2 (f B b : Nat) (p : Pl) (a : Pa) (e : Ex) (hX : ∀ x ∈ e.args, ExOK f B b p a x) (hlim : e.args.length ≤ 1000000000) (w : World) (t : Ty) (c : Int) (hr : Ty.expr p e = (t, c)) (h : PlAt w B b p a) (he : ExsAt (f + 1) w B e.A e.args) (hk : e.k = 2) :
    Calls Tryz.prog 87 #[.pointer (some ⟨b, 0, none⟩), .agg #[.int .i64 e.k, .int .i64 e.n, .string e.name, .string e.what, .slice e.A e.args.length e.c]] w fun r w' => r = .returned (.tuple #[.agg #[.int .i64 t.k, .int .i64 t.lo, .int .i64 t.hi, .string t.name], .int .i64 c]) ∧ Below w.heap.size w w' := by
  obtain ⟨n3, n4, k0⟩ := two_new w [.int .i64 e.k, .int .i64 e.n, .string e.name, .string e.what, .slice e.A e.args.length e.c] [.int .i64 0, .int .i64 0, .int .i64 0, .string ⟨#[]⟩] 79 44
  rw [Ty.expr_eq] at hr
  have HR := Aid.hid hr
  have HH := Aid.hid h
  have HE := Aid.hid he
  have HX := Aid.hid hX
  obtain ⟨W, hW⟩ : ∃ W, (w.alloc (.cells #[.int .i64 e.k, .int .i64 e.n, .string e.name, .string e.what, .slice e.A e.args.length e.c] 79)).alloc (.cells #[.int .i64 0, .int .i64 0, .int .i64 0, .string ⟨#[]⟩] 44) = W := ⟨_, rfl⟩
  rw [hW] at n3 n4 k0
  have b0 := n3.cell 0 _ rfl
  have b1 := n3.cell 1 _ rfl
  have b2 := n3.cell 2 _ rfl
  have b3 := n3.cell 3 _ rfl
  have b4 := n3.cell 4 _ rfl
  have l3 := n3.lt
  have N4 := Aid.hid n4; have K0 := Aid.hid k0
  have HLIM := Aid.hid hlim
  clear hX hr h he n3 n4 k0 hlim
  have k1 : (e.k == 1) = false := by simp [hk]
  have k2 : (e.k == 2) = true := by simp [hk]
  have k3 : (e.k == 3) = false := by simp [hk]
  have k4 : (e.k == 4) = false := by simp [hk]
  have k7 : (e.k == 7) = false := by simp [hk]
  have k8 : (e.k == 8) = false := by simp [hk]
  have k9 : (e.k == 9) = false := by simp [hk]
  have k14 : (e.k == 14) = false := by simp [hk]
  have k13 : (e.k == 13) = false := by simp [hk]
  have k13n : (e.k != 13) = true := by simp [hk]
  have HKK := Aid.hid hk
  clear hk
  go_enter Tryz.func87, Tryz.ntmps87
  try simp only [List.append_eq, List.cons_append, List.nil_append]
  go_wp2_with fail
  clear hW
  refine (args_is e.k (0) W (by simp [Ty.args, HKK.out])).mono ?_; rintro _ w0 ⟨rfl, rfl⟩
  by_cases hlen : e.args.length = 0
  · have hl2 : ((e.args.length : Int) != 0) = false := by simp [hlen]
    have HLEN := Aid.hid hlen
    clear hlen
    obtain ⟨rfl, rfl⟩ : Ty.of 2 = t ∧ 0 = c := by have := HR.out; simpa [Ty.exprG, Ty.args, HKK.out, HLEN.out] using this
    go_wp2_with fail
    refine (of_x 2 _).mono ?_; rintro _ w8 ⟨rfl, hb8⟩
    have HZ8 := Aid.hid ((N4.out).below hb8 (N4.out).lt)
    have KW8 := Aid.hid ((K0.out).trans (hb8.mono (K0.out).size))
    clear hb8
    go_wp2_with (refine wpList_store_row rfl 44 _ _ rfl (w.heap.size + 1) _ rfl rfl 44 _ (HZ8.out) (by kernel_rfl) rfl (by simp [Value.oneCell']) ?_)
    refine bodyPost_ret (v := _) (results_row2 rfl _ _ (w.heap.size + 1) 44 _ (0, 0) _ _ rfl rfl (row_has (HZ8.out)) Tryz.underlying44 rfl (by kernel_rfl)) rfl ⟨rfl, row_below (KW8.out) (by omega) _⟩
  · have hl2 : ((e.args.length : Int) != 0) = true := bne_iff_ne.2 (fun h => hlen (by omega))
    obtain ⟨rfl, rfl⟩ : Ty.none_ = t ∧ 14 = c := by
      have := HR.out
      rw [Ty.exprG, if_pos (Or.inr ⟨by rw [List.length_map, show Ty.args e.k = 0 by simp [Ty.args, HKK.out]]; omega, by rw [HKK.out]; decide⟩)] at this
      simpa using this
    clear hlen
    go_wp2_with fail
    refine (wrong_x 14 _).mono ?_; rintro _ w8 ⟨rfl, hb8⟩
    have HZ8 := Aid.hid ((N4.out).below hb8 (N4.out).lt)
    have KW8 := Aid.hid ((K0.out).trans (hb8.mono (K0.out).size))
    clear hb8
    go_wp2_with (refine wpList_store_row rfl 44 _ _ rfl (w.heap.size + 1) _ rfl rfl 44 _ (HZ8.out) (by kernel_rfl) rfl (by simp [Value.oneCell']) ?_)
    refine bodyPost_ret (v := _) (results_row2 rfl _ _ (w.heap.size + 1) 44 _ (0, 0) _ _ rfl rfl (row_has (HZ8.out)) Tryz.underlying44 rfl (by kernel_rfl)) rfl ⟨rfl, row_below (KW8.out) (by omega) _⟩

set_option maxRecDepth 100000 in
set_option maxHeartbeats 4000000 in
theorem expr_3 (f B b : Nat) (p : Pl) (a : Pa) (e : Ex) (hX : ∀ x ∈ e.args, ExOK f B b p a x) (hlim : e.args.length ≤ 1000000000) (w : World) (t : Ty) (c : Int) (hr : Ty.expr p e = (t, c)) (h : PlAt w B b p a) (he : ExsAt (f + 1) w B e.A e.args) (hk : e.k = 3) :
    Calls Tryz.prog 87 #[.pointer (some ⟨b, 0, none⟩), .agg #[.int .i64 e.k, .int .i64 e.n, .string e.name, .string e.what, .slice e.A e.args.length e.c]] w fun r w' => r = .returned (.tuple #[.agg #[.int .i64 t.k, .int .i64 t.lo, .int .i64 t.hi, .string t.name], .int .i64 c]) ∧ Below w.heap.size w w' := by
  obtain ⟨n3, n4, k0⟩ := two_new w [.int .i64 e.k, .int .i64 e.n, .string e.name, .string e.what, .slice e.A e.args.length e.c] [.int .i64 0, .int .i64 0, .int .i64 0, .string ⟨#[]⟩] 79 44
  rw [Ty.expr_eq] at hr
  have HR := Aid.hid hr
  have HH := Aid.hid h
  have HE := Aid.hid he
  have HX := Aid.hid hX
  obtain ⟨W, hW⟩ : ∃ W, (w.alloc (.cells #[.int .i64 e.k, .int .i64 e.n, .string e.name, .string e.what, .slice e.A e.args.length e.c] 79)).alloc (.cells #[.int .i64 0, .int .i64 0, .int .i64 0, .string ⟨#[]⟩] 44) = W := ⟨_, rfl⟩
  rw [hW] at n3 n4 k0
  have b0 := n3.cell 0 _ rfl
  have b1 := n3.cell 1 _ rfl
  have b2 := n3.cell 2 _ rfl
  have b3 := n3.cell 3 _ rfl
  have b4 := n3.cell 4 _ rfl
  have l3 := n3.lt
  have N4 := Aid.hid n4; have K0 := Aid.hid k0
  have HLIM := Aid.hid hlim
  clear hX hr h he n3 n4 k0 hlim
  have k1 : (e.k == 1) = false := by simp [hk]
  have k2 : (e.k == 2) = false := by simp [hk]
  have k3 : (e.k == 3) = true := by simp [hk]
  have k4 : (e.k == 4) = false := by simp [hk]
  have k7 : (e.k == 7) = false := by simp [hk]
  have k8 : (e.k == 8) = false := by simp [hk]
  have k9 : (e.k == 9) = false := by simp [hk]
  have k14 : (e.k == 14) = false := by simp [hk]
  have k13 : (e.k == 13) = false := by simp [hk]
  have k13n : (e.k != 13) = true := by simp [hk]
  have HKK := Aid.hid hk
  clear hk
  go_enter Tryz.func87, Tryz.ntmps87
  try simp only [List.append_eq, List.cons_append, List.nil_append]
  go_wp2_with fail
  clear hW
  refine (args_is e.k (0) W (by simp [Ty.args, HKK.out])).mono ?_; rintro _ w0 ⟨rfl, rfl⟩
  by_cases hlen : e.args.length = 0
  · have hl2 : ((e.args.length : Int) != 0) = false := by simp [hlen]
    have HLEN := Aid.hid hlen
    clear hlen
    obtain ⟨rfl, rfl⟩ : Ty.of 2 = t ∧ 0 = c := by have := HR.out; simpa [Ty.exprG, Ty.args, HKK.out, HLEN.out] using this
    go_wp2_with fail
    refine (of_x 2 _).mono ?_; rintro _ w8 ⟨rfl, hb8⟩
    have HZ8 := Aid.hid ((N4.out).below hb8 (N4.out).lt)
    have KW8 := Aid.hid ((K0.out).trans (hb8.mono (K0.out).size))
    clear hb8
    go_wp2_with (refine wpList_store_row rfl 44 _ _ rfl (w.heap.size + 1) _ rfl rfl 44 _ (HZ8.out) (by kernel_rfl) rfl (by simp [Value.oneCell']) ?_)
    refine bodyPost_ret (v := _) (results_row2 rfl _ _ (w.heap.size + 1) 44 _ (0, 0) _ _ rfl rfl (row_has (HZ8.out)) Tryz.underlying44 rfl (by kernel_rfl)) rfl ⟨rfl, row_below (KW8.out) (by omega) _⟩
  · have hl2 : ((e.args.length : Int) != 0) = true := bne_iff_ne.2 (fun h => hlen (by omega))
    obtain ⟨rfl, rfl⟩ : Ty.none_ = t ∧ 14 = c := by
      have := HR.out
      rw [Ty.exprG, if_pos (Or.inr ⟨by rw [List.length_map, show Ty.args e.k = 0 by simp [Ty.args, HKK.out]]; omega, by rw [HKK.out]; decide⟩)] at this
      simpa using this
    clear hlen
    go_wp2_with fail
    refine (wrong_x 14 _).mono ?_; rintro _ w8 ⟨rfl, hb8⟩
    have HZ8 := Aid.hid ((N4.out).below hb8 (N4.out).lt)
    have KW8 := Aid.hid ((K0.out).trans (hb8.mono (K0.out).size))
    clear hb8
    go_wp2_with (refine wpList_store_row rfl 44 _ _ rfl (w.heap.size + 1) _ rfl rfl 44 _ (HZ8.out) (by kernel_rfl) rfl (by simp [Value.oneCell']) ?_)
    refine bodyPost_ret (v := _) (results_row2 rfl _ _ (w.heap.size + 1) 44 _ (0, 0) _ _ rfl rfl (row_has (HZ8.out)) Tryz.underlying44 rfl (by kernel_rfl)) rfl ⟨rfl, row_below (KW8.out) (by omega) _⟩

set_option maxRecDepth 100000 in
set_option maxHeartbeats 4000000 in
theorem expr_4 (f B b : Nat) (p : Pl) (a : Pa) (e : Ex) (hX : ∀ x ∈ e.args, ExOK f B b p a x) (hlim : e.args.length ≤ 1000000000) (w : World) (t : Ty) (c : Int) (hr : Ty.expr p e = (t, c)) (h : PlAt w B b p a) (he : ExsAt (f + 1) w B e.A e.args) (hk : e.k = 4) :
    Calls Tryz.prog 87 #[.pointer (some ⟨b, 0, none⟩), .agg #[.int .i64 e.k, .int .i64 e.n, .string e.name, .string e.what, .slice e.A e.args.length e.c]] w fun r w' => r = .returned (.tuple #[.agg #[.int .i64 t.k, .int .i64 t.lo, .int .i64 t.hi, .string t.name], .int .i64 c]) ∧ Below w.heap.size w w' := by
  obtain ⟨n3, n4, k0⟩ := two_new w [.int .i64 e.k, .int .i64 e.n, .string e.name, .string e.what, .slice e.A e.args.length e.c] [.int .i64 0, .int .i64 0, .int .i64 0, .string ⟨#[]⟩] 79 44
  rw [Ty.expr_eq] at hr
  have HR := Aid.hid hr
  have HH := Aid.hid h
  have HE := Aid.hid he
  have HX := Aid.hid hX
  obtain ⟨W, hW⟩ : ∃ W, (w.alloc (.cells #[.int .i64 e.k, .int .i64 e.n, .string e.name, .string e.what, .slice e.A e.args.length e.c] 79)).alloc (.cells #[.int .i64 0, .int .i64 0, .int .i64 0, .string ⟨#[]⟩] 44) = W := ⟨_, rfl⟩
  rw [hW] at n3 n4 k0
  have b0 := n3.cell 0 _ rfl
  have b1 := n3.cell 1 _ rfl
  have b2 := n3.cell 2 _ rfl
  have b3 := n3.cell 3 _ rfl
  have b4 := n3.cell 4 _ rfl
  have l3 := n3.lt
  have N4 := Aid.hid n4; have K0 := Aid.hid k0
  have HLIM := Aid.hid hlim
  clear hX hr h he n3 n4 k0 hlim
  have k1 : (e.k == 1) = false := by simp [hk]
  have k2 : (e.k == 2) = false := by simp [hk]
  have k3 : (e.k == 3) = false := by simp [hk]
  have k4 : (e.k == 4) = true := by simp [hk]
  have k7 : (e.k == 7) = false := by simp [hk]
  have k8 : (e.k == 8) = false := by simp [hk]
  have k9 : (e.k == 9) = false := by simp [hk]
  have k14 : (e.k == 14) = false := by simp [hk]
  have k13 : (e.k == 13) = false := by simp [hk]
  have k13n : (e.k != 13) = true := by simp [hk]
  have HKK := Aid.hid hk
  clear hk
  go_enter Tryz.func87, Tryz.ntmps87
  try simp only [List.append_eq, List.cons_append, List.nil_append]
  go_wp2_with fail
  clear hW
  refine (args_is e.k (0) W (by simp [Ty.args, HKK.out])).mono ?_; rintro _ w0 ⟨rfl, rfl⟩
  by_cases hlen : e.args.length = 0
  · have hl2 : ((e.args.length : Int) != 0) = false := by simp [hlen]
    have HLEN := Aid.hid hlen
    clear hlen
    obtain ⟨rfl, rfl⟩ : Ty.of 5 = t ∧ 0 = c := by have := HR.out; simpa [Ty.exprG, Ty.args, HKK.out, HLEN.out] using this
    go_wp2_with fail
    refine (of_x 5 _).mono ?_; rintro _ w8 ⟨rfl, hb8⟩
    have HZ8 := Aid.hid ((N4.out).below hb8 (N4.out).lt)
    have KW8 := Aid.hid ((K0.out).trans (hb8.mono (K0.out).size))
    clear hb8
    go_wp2_with (refine wpList_store_row rfl 44 _ _ rfl (w.heap.size + 1) _ rfl rfl 44 _ (HZ8.out) (by kernel_rfl) rfl (by simp [Value.oneCell']) ?_)
    refine bodyPost_ret (v := _) (results_row2 rfl _ _ (w.heap.size + 1) 44 _ (0, 0) _ _ rfl rfl (row_has (HZ8.out)) Tryz.underlying44 rfl (by kernel_rfl)) rfl ⟨rfl, row_below (KW8.out) (by omega) _⟩
  · have hl2 : ((e.args.length : Int) != 0) = true := bne_iff_ne.2 (fun h => hlen (by omega))
    obtain ⟨rfl, rfl⟩ : Ty.none_ = t ∧ 14 = c := by
      have := HR.out
      rw [Ty.exprG, if_pos (Or.inr ⟨by rw [List.length_map, show Ty.args e.k = 0 by simp [Ty.args, HKK.out]]; omega, by rw [HKK.out]; decide⟩)] at this
      simpa using this
    clear hlen
    go_wp2_with fail
    refine (wrong_x 14 _).mono ?_; rintro _ w8 ⟨rfl, hb8⟩
    have HZ8 := Aid.hid ((N4.out).below hb8 (N4.out).lt)
    have KW8 := Aid.hid ((K0.out).trans (hb8.mono (K0.out).size))
    clear hb8
    go_wp2_with (refine wpList_store_row rfl 44 _ _ rfl (w.heap.size + 1) _ rfl rfl 44 _ (HZ8.out) (by kernel_rfl) rfl (by simp [Value.oneCell']) ?_)
    refine bodyPost_ret (v := _) (results_row2 rfl _ _ (w.heap.size + 1) 44 _ (0, 0) _ _ rfl rfl (row_has (HZ8.out)) Tryz.underlying44 rfl (by kernel_rfl)) rfl ⟨rfl, row_below (KW8.out) (by omega) _⟩

end Go.Proofs.YtejifefgmlpclaaGreat
/- Parts of typing, as walks: an expression of one kind. -/
namespace Go.Proofs.YtejifefgmlpclaaGreat
open Go.RowKit

set_option maxRecDepth 100000 in
set_option maxHeartbeats 4000000 in
theorem expr_5 (f B b : Nat) (p : Pl) (a : Pa) (e : Ex) (hX : ∀ x ∈ e.args, ExOK f B b p a x) (hlim : e.args.length ≤ 1000000000) (w : World) (t : Ty) (c : Int) (hr : Ty.expr p e = (t, c)) (h : PlAt w B b p a) (he : ExsAt (f + 1) w B e.A e.args) (hk : e.k = 5) :
    Calls Tryz.prog 87 #[.pointer (some ⟨b, 0, none⟩), .agg #[.int .i64 e.k, .int .i64 e.n, .string e.name, .string e.what, .slice e.A e.args.length e.c]] w fun r w' => r = .returned (.tuple #[.agg #[.int .i64 t.k, .int .i64 t.lo, .int .i64 t.hi, .string t.name], .int .i64 c]) ∧ Below w.heap.size w w' := by
  obtain ⟨n3, n4, k0⟩ := two_new w [.int .i64 e.k, .int .i64 e.n, .string e.name, .string e.what, .slice e.A e.args.length e.c] [.int .i64 0, .int .i64 0, .int .i64 0, .string ⟨#[]⟩] 79 44
  rw [Ty.expr_eq] at hr
  have HR := Aid.hid hr
  have HH := Aid.hid h
  have HE := Aid.hid he
  have HX := Aid.hid hX
  obtain ⟨W, hW⟩ : ∃ W, (w.alloc (.cells #[.int .i64 e.k, .int .i64 e.n, .string e.name, .string e.what, .slice e.A e.args.length e.c] 79)).alloc (.cells #[.int .i64 0, .int .i64 0, .int .i64 0, .string ⟨#[]⟩] 44) = W := ⟨_, rfl⟩
  rw [hW] at n3 n4 k0
  have b0 := n3.cell 0 _ rfl
  have b1 := n3.cell 1 _ rfl
  have b2 := n3.cell 2 _ rfl
  have b3 := n3.cell 3 _ rfl
  have b4 := n3.cell 4 _ rfl
  have l3 := n3.lt
  have N4 := Aid.hid n4; have K0 := Aid.hid k0
  have HLIM := Aid.hid hlim
  clear hX hr h he n3 n4 k0 hlim
  have k1 : (e.k == 1) = false := by simp [hk]
  have k2 : (e.k == 2) = false := by simp [hk]
  have k3 : (e.k == 3) = false := by simp [hk]
  have k4 : (e.k == 4) = false := by simp [hk]
  have k7 : (e.k == 7) = false := by simp [hk]
  have k8 : (e.k == 8) = false := by simp [hk]
  have k9 : (e.k == 9) = false := by simp [hk]
  have k14 : (e.k == 14) = false := by simp [hk]
  have k13 : (e.k == 13) = false := by simp [hk]
  have k13n : (e.k != 13) = true := by simp [hk]
  have HKK := Aid.hid hk
  clear hk
  go_enter Tryz.func87, Tryz.ntmps87
  try simp only [List.append_eq, List.cons_append, List.nil_append]
  go_wp2_with fail
  clear hW
  refine (args_is e.k (0) W (by simp [Ty.args, HKK.out])).mono ?_; rintro _ w0 ⟨rfl, rfl⟩
  by_cases hlen : e.args.length = 0
  · have hl2 : ((e.args.length : Int) != 0) = false := by simp [hlen]
    have HLEN := Aid.hid hlen
    clear hlen
    have hr : Ty.named e.k (p.var e.name) (Ty.hd (e.args.map (Ty.expr p))) = (t, c) := by have := HR.out; simpa [Ty.exprG, Ty.args, HKK.out, HLEN.out] using this
    have HC := Aid.hid (named_is f B b p a e _ t c W (fun _ => absurd ‹e.k = 6› (by rw [HKK.out]; decide)) rfl hr (HH.out.below K0.out) (HE.out.below K0.out HH.out.le))
    clear hr
    go_wp2_with fail
    refine HC.out.mono ?_; rintro _ w9 ⟨rfl, hb9⟩
    have K9 := Aid.hid (K0.out.trans (hb9.mono K0.out.size))
    have N9 := Aid.hid (N4.out.below hb9 N4.out.lt)
    clear hb9
    go_wp2_with (refine wpList_store_row rfl 44 _ _ rfl (w.heap.size + 1) _ rfl rfl 44 _ (N9.out) (by kernel_rfl) rfl (by simp [Value.oneCell']) ?_)
    refine bodyPost_ret (v := _) (results_row2 rfl _ _ (w.heap.size + 1) 44 _ (0, 0) _ _ rfl rfl (row_has (N9.out)) Tryz.underlying44 rfl (by kernel_rfl)) rfl ⟨rfl, row_below (K9.out) (by omega) _⟩
  · have hl2 : ((e.args.length : Int) != 0) = true := bne_iff_ne.2 (fun h => hlen (by omega))
    obtain ⟨rfl, rfl⟩ : Ty.none_ = t ∧ 14 = c := by
      have := HR.out
      rw [Ty.exprG, if_pos (Or.inr ⟨by rw [List.length_map, show Ty.args e.k = 0 by simp [Ty.args, HKK.out]]; omega, by rw [HKK.out]; decide⟩)] at this
      simpa using this
    clear hlen
    go_wp2_with fail
    refine (wrong_x 14 _).mono ?_; rintro _ w8 ⟨rfl, hb8⟩
    have HZ8 := Aid.hid ((N4.out).below hb8 (N4.out).lt)
    have KW8 := Aid.hid ((K0.out).trans (hb8.mono (K0.out).size))
    clear hb8
    go_wp2_with (refine wpList_store_row rfl 44 _ _ rfl (w.heap.size + 1) _ rfl rfl 44 _ (HZ8.out) (by kernel_rfl) rfl (by simp [Value.oneCell']) ?_)
    refine bodyPost_ret (v := _) (results_row2 rfl _ _ (w.heap.size + 1) 44 _ (0, 0) _ _ rfl rfl (row_has (HZ8.out)) Tryz.underlying44 rfl (by kernel_rfl)) rfl ⟨rfl, row_below (KW8.out) (by omega) _⟩

set_option maxRecDepth 100000 in
set_option maxHeartbeats 4000000 in
theorem expr_6 (f B b : Nat) (p : Pl) (a : Pa) (e : Ex) (hX : ∀ x ∈ e.args, ExOK f B b p a x) (hlim : e.args.length ≤ 1000000000) (w : World) (t : Ty) (c : Int) (hr : Ty.expr p e = (t, c)) (h : PlAt w B b p a) (he : ExsAt (f + 1) w B e.A e.args) (hk : e.k = 6) :
    Calls Tryz.prog 87 #[.pointer (some ⟨b, 0, none⟩), .agg #[.int .i64 e.k, .int .i64 e.n, .string e.name, .string e.what, .slice e.A e.args.length e.c]] w fun r w' => r = .returned (.tuple #[.agg #[.int .i64 t.k, .int .i64 t.lo, .int .i64 t.hi, .string t.name], .int .i64 c]) ∧ Below w.heap.size w w' := by
  obtain ⟨n3, n4, k0⟩ := two_new w [.int .i64 e.k, .int .i64 e.n, .string e.name, .string e.what, .slice e.A e.args.length e.c] [.int .i64 0, .int .i64 0, .int .i64 0, .string ⟨#[]⟩] 79 44
  rw [Ty.expr_eq] at hr
  have HR := Aid.hid hr
  have HH := Aid.hid h
  have HE := Aid.hid he
  have HX := Aid.hid hX
  obtain ⟨W, hW⟩ : ∃ W, (w.alloc (.cells #[.int .i64 e.k, .int .i64 e.n, .string e.name, .string e.what, .slice e.A e.args.length e.c] 79)).alloc (.cells #[.int .i64 0, .int .i64 0, .int .i64 0, .string ⟨#[]⟩] 44) = W := ⟨_, rfl⟩
  rw [hW] at n3 n4 k0
  have b0 := n3.cell 0 _ rfl
  have b1 := n3.cell 1 _ rfl
  have b2 := n3.cell 2 _ rfl
  have b3 := n3.cell 3 _ rfl
  have b4 := n3.cell 4 _ rfl
  have l3 := n3.lt
  have N4 := Aid.hid n4; have K0 := Aid.hid k0
  have HLIM := Aid.hid hlim
  clear hX hr h he n3 n4 k0 hlim
  have k1 : (e.k == 1) = false := by simp [hk]
  have k2 : (e.k == 2) = false := by simp [hk]
  have k3 : (e.k == 3) = false := by simp [hk]
  have k4 : (e.k == 4) = false := by simp [hk]
  have k7 : (e.k == 7) = false := by simp [hk]
  have k8 : (e.k == 8) = false := by simp [hk]
  have k9 : (e.k == 9) = false := by simp [hk]
  have k14 : (e.k == 14) = false := by simp [hk]
  have k13 : (e.k == 13) = false := by simp [hk]
  have k13n : (e.k != 13) = true := by simp [hk]
  have HKK := Aid.hid hk
  clear hk
  go_enter Tryz.func87, Tryz.ntmps87
  try simp only [List.append_eq, List.cons_append, List.nil_append]
  go_wp2_with fail
  clear hW
  refine (args_is e.k (1) W (by simp [Ty.args, HKK.out])).mono ?_; rintro _ w0 ⟨rfl, rfl⟩
  by_cases hlen : e.args.length = 1
  · have hl2 : ((e.args.length : Int) != 1) = false := by simp [hlen]
    have HLEN := Aid.hid hlen
    clear hlen
    have hr : Ty.named e.k (p.var e.name) (Ty.hd (e.args.map (Ty.expr p))) = (t, c) := by have := HR.out; simpa [Ty.exprG, Ty.args, HKK.out, HLEN.out] using this
    have HC := Aid.hid (named_is f B b p a e _ t c W (fun _ => by obtain ⟨x, hx⟩ := List.length_eq_one_iff.1 (show e.args.length = 1 by exact HLEN.out); exact ⟨x, hx, HX.out x (by rw [hx]; simp)⟩) rfl hr (HH.out.below K0.out) (HE.out.below K0.out HH.out.le))
    clear hr
    go_wp2_with fail
    refine HC.out.mono ?_; rintro _ w9 ⟨rfl, hb9⟩
    have K9 := Aid.hid (K0.out.trans (hb9.mono K0.out.size))
    have N9 := Aid.hid (N4.out.below hb9 N4.out.lt)
    clear hb9
    go_wp2_with (refine wpList_store_row rfl 44 _ _ rfl (w.heap.size + 1) _ rfl rfl 44 _ (N9.out) (by kernel_rfl) rfl (by simp [Value.oneCell']) ?_)
    refine bodyPost_ret (v := _) (results_row2 rfl _ _ (w.heap.size + 1) 44 _ (0, 0) _ _ rfl rfl (row_has (N9.out)) Tryz.underlying44 rfl (by kernel_rfl)) rfl ⟨rfl, row_below (K9.out) (by omega) _⟩
  · have hl2 : ((e.args.length : Int) != 1) = true := bne_iff_ne.2 (fun h => hlen (by omega))
    obtain ⟨rfl, rfl⟩ : Ty.none_ = t ∧ 14 = c := by
      have := HR.out
      rw [Ty.exprG, if_pos (Or.inr ⟨by rw [List.length_map, show Ty.args e.k = 1 by simp [Ty.args, HKK.out]]; omega, by rw [HKK.out]; decide⟩)] at this
      simpa using this
    clear hlen
    go_wp2_with fail
    refine (wrong_x 14 _).mono ?_; rintro _ w8 ⟨rfl, hb8⟩
    have HZ8 := Aid.hid ((N4.out).below hb8 (N4.out).lt)
    have KW8 := Aid.hid ((K0.out).trans (hb8.mono (K0.out).size))
    clear hb8
    go_wp2_with (refine wpList_store_row rfl 44 _ _ rfl (w.heap.size + 1) _ rfl rfl 44 _ (HZ8.out) (by kernel_rfl) rfl (by simp [Value.oneCell']) ?_)
    refine bodyPost_ret (v := _) (results_row2 rfl _ _ (w.heap.size + 1) 44 _ (0, 0) _ _ rfl rfl (row_has (HZ8.out)) Tryz.underlying44 rfl (by kernel_rfl)) rfl ⟨rfl, row_below (KW8.out) (by omega) _⟩

set_option maxRecDepth 100000 in
set_option maxHeartbeats 4000000 in
theorem expr_10 (f B b : Nat) (p : Pl) (a : Pa) (e : Ex) (hX : ∀ x ∈ e.args, ExOK f B b p a x) (hlim : e.args.length ≤ 1000000000) (w : World) (t : Ty) (c : Int) (hr : Ty.expr p e = (t, c)) (h : PlAt w B b p a) (he : ExsAt (f + 1) w B e.A e.args) (hk : e.k = 10) :
    Calls Tryz.prog 87 #[.pointer (some ⟨b, 0, none⟩), .agg #[.int .i64 e.k, .int .i64 e.n, .string e.name, .string e.what, .slice e.A e.args.length e.c]] w fun r w' => r = .returned (.tuple #[.agg #[.int .i64 t.k, .int .i64 t.lo, .int .i64 t.hi, .string t.name], .int .i64 c]) ∧ Below w.heap.size w w' := by
  obtain ⟨n3, n4, k0⟩ := two_new w [.int .i64 e.k, .int .i64 e.n, .string e.name, .string e.what, .slice e.A e.args.length e.c] [.int .i64 0, .int .i64 0, .int .i64 0, .string ⟨#[]⟩] 79 44
  rw [Ty.expr_eq] at hr
  have HR := Aid.hid hr
  have HH := Aid.hid h
  have HE := Aid.hid he
  have HX := Aid.hid hX
  obtain ⟨W, hW⟩ : ∃ W, (w.alloc (.cells #[.int .i64 e.k, .int .i64 e.n, .string e.name, .string e.what, .slice e.A e.args.length e.c] 79)).alloc (.cells #[.int .i64 0, .int .i64 0, .int .i64 0, .string ⟨#[]⟩] 44) = W := ⟨_, rfl⟩
  rw [hW] at n3 n4 k0
  have b0 := n3.cell 0 _ rfl
  have b1 := n3.cell 1 _ rfl
  have b2 := n3.cell 2 _ rfl
  have b3 := n3.cell 3 _ rfl
  have b4 := n3.cell 4 _ rfl
  have l3 := n3.lt
  have N4 := Aid.hid n4; have K0 := Aid.hid k0
  have HLIM := Aid.hid hlim
  clear hX hr h he n3 n4 k0 hlim
  have k1 : (e.k == 1) = false := by simp [hk]
  have k2 : (e.k == 2) = false := by simp [hk]
  have k3 : (e.k == 3) = false := by simp [hk]
  have k4 : (e.k == 4) = false := by simp [hk]
  have k7 : (e.k == 7) = false := by simp [hk]
  have k8 : (e.k == 8) = false := by simp [hk]
  have k9 : (e.k == 9) = false := by simp [hk]
  have k14 : (e.k == 14) = false := by simp [hk]
  have k13 : (e.k == 13) = false := by simp [hk]
  have k13n : (e.k != 13) = true := by simp [hk]
  have HKK := Aid.hid hk
  clear hk
  go_enter Tryz.func87, Tryz.ntmps87
  try simp only [List.append_eq, List.cons_append, List.nil_append]
  go_wp2_with fail
  clear hW
  refine (args_is e.k (0) W (by simp [Ty.args, HKK.out])).mono ?_; rintro _ w0 ⟨rfl, rfl⟩
  by_cases hlen : e.args.length = 0
  · have hl2 : ((e.args.length : Int) != 0) = false := by simp [hlen]
    have HLEN := Aid.hid hlen
    clear hlen
    have hr : Ty.named e.k (p.var e.name) (Ty.hd (e.args.map (Ty.expr p))) = (t, c) := by have := HR.out; simpa [Ty.exprG, Ty.args, HKK.out, HLEN.out] using this
    have HC := Aid.hid (named_is f B b p a e _ t c W (fun _ => absurd ‹e.k = 6› (by rw [HKK.out]; decide)) rfl hr (HH.out.below K0.out) (HE.out.below K0.out HH.out.le))
    clear hr
    go_wp2_with fail
    refine HC.out.mono ?_; rintro _ w9 ⟨rfl, hb9⟩
    have K9 := Aid.hid (K0.out.trans (hb9.mono K0.out.size))
    have N9 := Aid.hid (N4.out.below hb9 N4.out.lt)
    clear hb9
    go_wp2_with (refine wpList_store_row rfl 44 _ _ rfl (w.heap.size + 1) _ rfl rfl 44 _ (N9.out) (by kernel_rfl) rfl (by simp [Value.oneCell']) ?_)
    refine bodyPost_ret (v := _) (results_row2 rfl _ _ (w.heap.size + 1) 44 _ (0, 0) _ _ rfl rfl (row_has (N9.out)) Tryz.underlying44 rfl (by kernel_rfl)) rfl ⟨rfl, row_below (K9.out) (by omega) _⟩
  · have hl2 : ((e.args.length : Int) != 0) = true := bne_iff_ne.2 (fun h => hlen (by omega))
    obtain ⟨rfl, rfl⟩ : Ty.none_ = t ∧ 14 = c := by
      have := HR.out
      rw [Ty.exprG, if_pos (Or.inr ⟨by rw [List.length_map, show Ty.args e.k = 0 by simp [Ty.args, HKK.out]]; omega, by rw [HKK.out]; decide⟩)] at this
      simpa using this
    clear hlen
    go_wp2_with fail
    refine (wrong_x 14 _).mono ?_; rintro _ w8 ⟨rfl, hb8⟩
    have HZ8 := Aid.hid ((N4.out).below hb8 (N4.out).lt)
    have KW8 := Aid.hid ((K0.out).trans (hb8.mono (K0.out).size))
    clear hb8
    go_wp2_with (refine wpList_store_row rfl 44 _ _ rfl (w.heap.size + 1) _ rfl rfl 44 _ (HZ8.out) (by kernel_rfl) rfl (by simp [Value.oneCell']) ?_)
    refine bodyPost_ret (v := _) (results_row2 rfl _ _ (w.heap.size + 1) 44 _ (0, 0) _ _ rfl rfl (row_has (HZ8.out)) Tryz.underlying44 rfl (by kernel_rfl)) rfl ⟨rfl, row_below (KW8.out) (by omega) _⟩

set_option maxRecDepth 100000 in
set_option maxHeartbeats 4000000 in
theorem expr_11 (f B b : Nat) (p : Pl) (a : Pa) (e : Ex) (hX : ∀ x ∈ e.args, ExOK f B b p a x) (hlim : e.args.length ≤ 1000000000) (w : World) (t : Ty) (c : Int) (hr : Ty.expr p e = (t, c)) (h : PlAt w B b p a) (he : ExsAt (f + 1) w B e.A e.args) (hk : e.k = 11) :
    Calls Tryz.prog 87 #[.pointer (some ⟨b, 0, none⟩), .agg #[.int .i64 e.k, .int .i64 e.n, .string e.name, .string e.what, .slice e.A e.args.length e.c]] w fun r w' => r = .returned (.tuple #[.agg #[.int .i64 t.k, .int .i64 t.lo, .int .i64 t.hi, .string t.name], .int .i64 c]) ∧ Below w.heap.size w w' := by
  obtain ⟨n3, n4, k0⟩ := two_new w [.int .i64 e.k, .int .i64 e.n, .string e.name, .string e.what, .slice e.A e.args.length e.c] [.int .i64 0, .int .i64 0, .int .i64 0, .string ⟨#[]⟩] 79 44
  rw [Ty.expr_eq] at hr
  have HR := Aid.hid hr
  have HH := Aid.hid h
  have HE := Aid.hid he
  have HX := Aid.hid hX
  obtain ⟨W, hW⟩ : ∃ W, (w.alloc (.cells #[.int .i64 e.k, .int .i64 e.n, .string e.name, .string e.what, .slice e.A e.args.length e.c] 79)).alloc (.cells #[.int .i64 0, .int .i64 0, .int .i64 0, .string ⟨#[]⟩] 44) = W := ⟨_, rfl⟩
  rw [hW] at n3 n4 k0
  have b0 := n3.cell 0 _ rfl
  have b1 := n3.cell 1 _ rfl
  have b2 := n3.cell 2 _ rfl
  have b3 := n3.cell 3 _ rfl
  have b4 := n3.cell 4 _ rfl
  have l3 := n3.lt
  have N4 := Aid.hid n4; have K0 := Aid.hid k0
  have HLIM := Aid.hid hlim
  clear hX hr h he n3 n4 k0 hlim
  have k1 : (e.k == 1) = false := by simp [hk]
  have k2 : (e.k == 2) = false := by simp [hk]
  have k3 : (e.k == 3) = false := by simp [hk]
  have k4 : (e.k == 4) = false := by simp [hk]
  have k7 : (e.k == 7) = false := by simp [hk]
  have k8 : (e.k == 8) = false := by simp [hk]
  have k9 : (e.k == 9) = false := by simp [hk]
  have k14 : (e.k == 14) = false := by simp [hk]
  have k13 : (e.k == 13) = false := by simp [hk]
  have k13n : (e.k != 13) = true := by simp [hk]
  have HKK := Aid.hid hk
  clear hk
  go_enter Tryz.func87, Tryz.ntmps87
  try simp only [List.append_eq, List.cons_append, List.nil_append]
  go_wp2_with fail
  clear hW
  refine (args_is e.k (0) W (by simp [Ty.args, HKK.out])).mono ?_; rintro _ w0 ⟨rfl, rfl⟩
  by_cases hlen : e.args.length = 0
  · have hl2 : ((e.args.length : Int) != 0) = false := by simp [hlen]
    have HLEN := Aid.hid hlen
    clear hlen
    have hr : Ty.named e.k (p.var e.name) (Ty.hd (e.args.map (Ty.expr p))) = (t, c) := by have := HR.out; simpa [Ty.exprG, Ty.args, HKK.out, HLEN.out] using this
    have HC := Aid.hid (named_is f B b p a e _ t c W (fun _ => absurd ‹e.k = 6› (by rw [HKK.out]; decide)) rfl hr (HH.out.below K0.out) (HE.out.below K0.out HH.out.le))
    clear hr
    go_wp2_with fail
    refine HC.out.mono ?_; rintro _ w9 ⟨rfl, hb9⟩
    have K9 := Aid.hid (K0.out.trans (hb9.mono K0.out.size))
    have N9 := Aid.hid (N4.out.below hb9 N4.out.lt)
    clear hb9
    go_wp2_with (refine wpList_store_row rfl 44 _ _ rfl (w.heap.size + 1) _ rfl rfl 44 _ (N9.out) (by kernel_rfl) rfl (by simp [Value.oneCell']) ?_)
    refine bodyPost_ret (v := _) (results_row2 rfl _ _ (w.heap.size + 1) 44 _ (0, 0) _ _ rfl rfl (row_has (N9.out)) Tryz.underlying44 rfl (by kernel_rfl)) rfl ⟨rfl, row_below (K9.out) (by omega) _⟩
  · have hl2 : ((e.args.length : Int) != 0) = true := bne_iff_ne.2 (fun h => hlen (by omega))
    obtain ⟨rfl, rfl⟩ : Ty.none_ = t ∧ 14 = c := by
      have := HR.out
      rw [Ty.exprG, if_pos (Or.inr ⟨by rw [List.length_map, show Ty.args e.k = 0 by simp [Ty.args, HKK.out]]; omega, by rw [HKK.out]; decide⟩)] at this
      simpa using this
    clear hlen
    go_wp2_with fail
    refine (wrong_x 14 _).mono ?_; rintro _ w8 ⟨rfl, hb8⟩
    have HZ8 := Aid.hid ((N4.out).below hb8 (N4.out).lt)
    have KW8 := Aid.hid ((K0.out).trans (hb8.mono (K0.out).size))
    clear hb8
    go_wp2_with (refine wpList_store_row rfl 44 _ _ rfl (w.heap.size + 1) _ rfl rfl 44 _ (HZ8.out) (by kernel_rfl) rfl (by simp [Value.oneCell']) ?_)
    refine bodyPost_ret (v := _) (results_row2 rfl _ _ (w.heap.size + 1) 44 _ (0, 0) _ _ rfl rfl (row_has (HZ8.out)) Tryz.underlying44 rfl (by kernel_rfl)) rfl ⟨rfl, row_below (KW8.out) (by omega) _⟩

end Go.Proofs.YtejifefgmlpclaaGreat
/- Parts of typing, as walks: an expression of one kind. -/
namespace Go.Proofs.YtejifefgmlpclaaGreat
open Go.RowKit

set_option maxRecDepth 100000 in
set_option maxHeartbeats 4000000 in
theorem expr_12 (f B b : Nat) (p : Pl) (a : Pa) (e : Ex) (hX : ∀ x ∈ e.args, ExOK f B b p a x) (hlim : e.args.length ≤ 1000000000) (w : World) (t : Ty) (c : Int) (hr : Ty.expr p e = (t, c)) (h : PlAt w B b p a) (he : ExsAt (f + 1) w B e.A e.args) (hk : e.k = 12) :
    Calls Tryz.prog 87 #[.pointer (some ⟨b, 0, none⟩), .agg #[.int .i64 e.k, .int .i64 e.n, .string e.name, .string e.what, .slice e.A e.args.length e.c]] w fun r w' => r = .returned (.tuple #[.agg #[.int .i64 t.k, .int .i64 t.lo, .int .i64 t.hi, .string t.name], .int .i64 c]) ∧ Below w.heap.size w w' := by
  obtain ⟨n3, n4, k0⟩ := two_new w [.int .i64 e.k, .int .i64 e.n, .string e.name, .string e.what, .slice e.A e.args.length e.c] [.int .i64 0, .int .i64 0, .int .i64 0, .string ⟨#[]⟩] 79 44
  rw [Ty.expr_eq] at hr
  have HR := Aid.hid hr
  have HH := Aid.hid h
  have HE := Aid.hid he
  have HX := Aid.hid hX
  obtain ⟨W, hW⟩ : ∃ W, (w.alloc (.cells #[.int .i64 e.k, .int .i64 e.n, .string e.name, .string e.what, .slice e.A e.args.length e.c] 79)).alloc (.cells #[.int .i64 0, .int .i64 0, .int .i64 0, .string ⟨#[]⟩] 44) = W := ⟨_, rfl⟩
  rw [hW] at n3 n4 k0
  have b0 := n3.cell 0 _ rfl
  have b1 := n3.cell 1 _ rfl
  have b2 := n3.cell 2 _ rfl
  have b3 := n3.cell 3 _ rfl
  have b4 := n3.cell 4 _ rfl
  have l3 := n3.lt
  have N4 := Aid.hid n4; have K0 := Aid.hid k0
  have HLIM := Aid.hid hlim
  clear hX hr h he n3 n4 k0 hlim
  have k1 : (e.k == 1) = false := by simp [hk]
  have k2 : (e.k == 2) = false := by simp [hk]
  have k3 : (e.k == 3) = false := by simp [hk]
  have k4 : (e.k == 4) = false := by simp [hk]
  have k7 : (e.k == 7) = false := by simp [hk]
  have k8 : (e.k == 8) = false := by simp [hk]
  have k9 : (e.k == 9) = false := by simp [hk]
  have k14 : (e.k == 14) = false := by simp [hk]
  have k13 : (e.k == 13) = false := by simp [hk]
  have k13n : (e.k != 13) = true := by simp [hk]
  have HKK := Aid.hid hk
  clear hk
  go_enter Tryz.func87, Tryz.ntmps87
  try simp only [List.append_eq, List.cons_append, List.nil_append]
  go_wp2_with fail
  clear hW
  refine (args_is e.k (0) W (by simp [Ty.args, HKK.out])).mono ?_; rintro _ w0 ⟨rfl, rfl⟩
  by_cases hlen : e.args.length = 0
  · have hl2 : ((e.args.length : Int) != 0) = false := by simp [hlen]
    have HLEN := Aid.hid hlen
    clear hlen
    have hr : Ty.named e.k (p.var e.name) (Ty.hd (e.args.map (Ty.expr p))) = (t, c) := by have := HR.out; simpa [Ty.exprG, Ty.args, HKK.out, HLEN.out] using this
    have HC := Aid.hid (named_is f B b p a e _ t c W (fun _ => absurd ‹e.k = 6› (by rw [HKK.out]; decide)) rfl hr (HH.out.below K0.out) (HE.out.below K0.out HH.out.le))
    clear hr
    go_wp2_with fail
    refine HC.out.mono ?_; rintro _ w9 ⟨rfl, hb9⟩
    have K9 := Aid.hid (K0.out.trans (hb9.mono K0.out.size))
    have N9 := Aid.hid (N4.out.below hb9 N4.out.lt)
    clear hb9
    go_wp2_with (refine wpList_store_row rfl 44 _ _ rfl (w.heap.size + 1) _ rfl rfl 44 _ (N9.out) (by kernel_rfl) rfl (by simp [Value.oneCell']) ?_)
    refine bodyPost_ret (v := _) (results_row2 rfl _ _ (w.heap.size + 1) 44 _ (0, 0) _ _ rfl rfl (row_has (N9.out)) Tryz.underlying44 rfl (by kernel_rfl)) rfl ⟨rfl, row_below (K9.out) (by omega) _⟩
  · have hl2 : ((e.args.length : Int) != 0) = true := bne_iff_ne.2 (fun h => hlen (by omega))
    obtain ⟨rfl, rfl⟩ : Ty.none_ = t ∧ 14 = c := by
      have := HR.out
      rw [Ty.exprG, if_pos (Or.inr ⟨by rw [List.length_map, show Ty.args e.k = 0 by simp [Ty.args, HKK.out]]; omega, by rw [HKK.out]; decide⟩)] at this
      simpa using this
    clear hlen
    go_wp2_with fail
    refine (wrong_x 14 _).mono ?_; rintro _ w8 ⟨rfl, hb8⟩
    have HZ8 := Aid.hid ((N4.out).below hb8 (N4.out).lt)
    have KW8 := Aid.hid ((K0.out).trans (hb8.mono (K0.out).size))
    clear hb8
    go_wp2_with (refine wpList_store_row rfl 44 _ _ rfl (w.heap.size + 1) _ rfl rfl 44 _ (HZ8.out) (by kernel_rfl) rfl (by simp [Value.oneCell']) ?_)
    refine bodyPost_ret (v := _) (results_row2 rfl _ _ (w.heap.size + 1) 44 _ (0, 0) _ _ rfl rfl (row_has (HZ8.out)) Tryz.underlying44 rfl (by kernel_rfl)) rfl ⟨rfl, row_below (KW8.out) (by omega) _⟩

set_option maxRecDepth 100000 in
set_option maxHeartbeats 4000000 in
theorem expr_7 (f B b : Nat) (p : Pl) (a : Pa) (e : Ex) (hX : ∀ x ∈ e.args, ExOK f B b p a x) (hlim : e.args.length ≤ 1000000000) (w : World) (t : Ty) (c : Int) (hr : Ty.expr p e = (t, c)) (h : PlAt w B b p a) (he : ExsAt (f + 1) w B e.A e.args) (hk : e.k = 7) :
    Calls Tryz.prog 87 #[.pointer (some ⟨b, 0, none⟩), .agg #[.int .i64 e.k, .int .i64 e.n, .string e.name, .string e.what, .slice e.A e.args.length e.c]] w fun r w' => r = .returned (.tuple #[.agg #[.int .i64 t.k, .int .i64 t.lo, .int .i64 t.hi, .string t.name], .int .i64 c]) ∧ Below w.heap.size w w' := by
  obtain ⟨n3, n4, k0⟩ := two_new w [.int .i64 e.k, .int .i64 e.n, .string e.name, .string e.what, .slice e.A e.args.length e.c] [.int .i64 0, .int .i64 0, .int .i64 0, .string ⟨#[]⟩] 79 44
  rw [Ty.expr_eq] at hr
  have HR := Aid.hid hr
  have HH := Aid.hid h
  have HE := Aid.hid he
  have HX := Aid.hid hX
  obtain ⟨W, hW⟩ : ∃ W, (w.alloc (.cells #[.int .i64 e.k, .int .i64 e.n, .string e.name, .string e.what, .slice e.A e.args.length e.c] 79)).alloc (.cells #[.int .i64 0, .int .i64 0, .int .i64 0, .string ⟨#[]⟩] 44) = W := ⟨_, rfl⟩
  rw [hW] at n3 n4 k0
  have b0 := n3.cell 0 _ rfl
  have b1 := n3.cell 1 _ rfl
  have b2 := n3.cell 2 _ rfl
  have b3 := n3.cell 3 _ rfl
  have b4 := n3.cell 4 _ rfl
  have l3 := n3.lt
  have N4 := Aid.hid n4; have K0 := Aid.hid k0
  have HLIM := Aid.hid hlim
  clear hX hr h he n3 n4 k0 hlim
  have k1 : (e.k == 1) = false := by simp [hk]
  have k2 : (e.k == 2) = false := by simp [hk]
  have k3 : (e.k == 3) = false := by simp [hk]
  have k4 : (e.k == 4) = false := by simp [hk]
  have k7 : (e.k == 7) = true := by simp [hk]
  have k8 : (e.k == 8) = false := by simp [hk]
  have k9 : (e.k == 9) = false := by simp [hk]
  have k14 : (e.k == 14) = false := by simp [hk]
  have k13 : (e.k == 13) = false := by simp [hk]
  have k13n : (e.k != 13) = true := by simp [hk]
  have HKK := Aid.hid hk
  clear hk
  go_enter Tryz.func87, Tryz.ntmps87
  try simp only [List.append_eq, List.cons_append, List.nil_append]
  go_wp2_with fail
  clear hW
  refine (args_is e.k (1) W (by simp [Ty.args, HKK.out])).mono ?_; rintro _ w0 ⟨rfl, rfl⟩
  by_cases hlen : e.args.length = 1
  · have hl2 : ((e.args.length : Int) != 1) = false := by simp [hlen]
    have HLEN := Aid.hid hlen
    clear hlen
    obtain ⟨x, hx⟩ := List.length_eq_one_iff.1 (show e.args.length = 1 by exact HLEN.out)
    have hr : Ty.same (Ty.expr p x) 1 = (t, c) := by have := HR.out; simpa [Ty.exprG, Ty.args, HKK.out, hx, Ty.hd] using this
    have HC := Aid.hid (unary_is f B b p a e x 1 t c W (HX.out x (by rw [hx]; simp)) (by simp [HKK.out]) hr (HH.out.below K0.out) (HE.out.below K0.out HH.out.le) hx)
    clear hr hx
    go_wp2_with fail
    refine HC.out.mono ?_; rintro _ w9 ⟨rfl, hb9⟩
    have K9 := Aid.hid (K0.out.trans (hb9.mono K0.out.size))
    have N9 := Aid.hid (N4.out.below hb9 N4.out.lt)
    clear hb9
    go_wp2_with (refine wpList_store_row rfl 44 _ _ rfl (w.heap.size + 1) _ rfl rfl 44 _ (N9.out) (by kernel_rfl) rfl (by simp [Value.oneCell']) ?_)
    refine bodyPost_ret (v := _) (results_row2 rfl _ _ (w.heap.size + 1) 44 _ (0, 0) _ _ rfl rfl (row_has (N9.out)) Tryz.underlying44 rfl (by kernel_rfl)) rfl ⟨rfl, row_below (K9.out) (by omega) _⟩
  · have hl2 : ((e.args.length : Int) != 1) = true := bne_iff_ne.2 (fun h => hlen (by omega))
    obtain ⟨rfl, rfl⟩ : Ty.none_ = t ∧ 14 = c := by
      have := HR.out
      rw [Ty.exprG, if_pos (Or.inr ⟨by rw [List.length_map, show Ty.args e.k = 1 by simp [Ty.args, HKK.out]]; omega, by rw [HKK.out]; decide⟩)] at this
      simpa using this
    clear hlen
    go_wp2_with fail
    refine (wrong_x 14 _).mono ?_; rintro _ w8 ⟨rfl, hb8⟩
    have HZ8 := Aid.hid ((N4.out).below hb8 (N4.out).lt)
    have KW8 := Aid.hid ((K0.out).trans (hb8.mono (K0.out).size))
    clear hb8
    go_wp2_with (refine wpList_store_row rfl 44 _ _ rfl (w.heap.size + 1) _ rfl rfl 44 _ (HZ8.out) (by kernel_rfl) rfl (by simp [Value.oneCell']) ?_)
    refine bodyPost_ret (v := _) (results_row2 rfl _ _ (w.heap.size + 1) 44 _ (0, 0) _ _ rfl rfl (row_has (HZ8.out)) Tryz.underlying44 rfl (by kernel_rfl)) rfl ⟨rfl, row_below (KW8.out) (by omega) _⟩

set_option maxRecDepth 100000 in
set_option maxHeartbeats 4000000 in
theorem expr_8 (f B b : Nat) (p : Pl) (a : Pa) (e : Ex) (hX : ∀ x ∈ e.args, ExOK f B b p a x) (hlim : e.args.length ≤ 1000000000) (w : World) (t : Ty) (c : Int) (hr : Ty.expr p e = (t, c)) (h : PlAt w B b p a) (he : ExsAt (f + 1) w B e.A e.args) (hk : e.k = 8) :
    Calls Tryz.prog 87 #[.pointer (some ⟨b, 0, none⟩), .agg #[.int .i64 e.k, .int .i64 e.n, .string e.name, .string e.what, .slice e.A e.args.length e.c]] w fun r w' => r = .returned (.tuple #[.agg #[.int .i64 t.k, .int .i64 t.lo, .int .i64 t.hi, .string t.name], .int .i64 c]) ∧ Below w.heap.size w w' := by
  obtain ⟨n3, n4, k0⟩ := two_new w [.int .i64 e.k, .int .i64 e.n, .string e.name, .string e.what, .slice e.A e.args.length e.c] [.int .i64 0, .int .i64 0, .int .i64 0, .string ⟨#[]⟩] 79 44
  rw [Ty.expr_eq] at hr
  have HR := Aid.hid hr
  have HH := Aid.hid h
  have HE := Aid.hid he
  have HX := Aid.hid hX
  obtain ⟨W, hW⟩ : ∃ W, (w.alloc (.cells #[.int .i64 e.k, .int .i64 e.n, .string e.name, .string e.what, .slice e.A e.args.length e.c] 79)).alloc (.cells #[.int .i64 0, .int .i64 0, .int .i64 0, .string ⟨#[]⟩] 44) = W := ⟨_, rfl⟩
  rw [hW] at n3 n4 k0
  have b0 := n3.cell 0 _ rfl
  have b1 := n3.cell 1 _ rfl
  have b2 := n3.cell 2 _ rfl
  have b3 := n3.cell 3 _ rfl
  have b4 := n3.cell 4 _ rfl
  have l3 := n3.lt
  have N4 := Aid.hid n4; have K0 := Aid.hid k0
  have HLIM := Aid.hid hlim
  clear hX hr h he n3 n4 k0 hlim
  have k1 : (e.k == 1) = false := by simp [hk]
  have k2 : (e.k == 2) = false := by simp [hk]
  have k3 : (e.k == 3) = false := by simp [hk]
  have k4 : (e.k == 4) = false := by simp [hk]
  have k7 : (e.k == 7) = false := by simp [hk]
  have k8 : (e.k == 8) = true := by simp [hk]
  have k9 : (e.k == 9) = false := by simp [hk]
  have k14 : (e.k == 14) = false := by simp [hk]
  have k13 : (e.k == 13) = false := by simp [hk]
  have k13n : (e.k != 13) = true := by simp [hk]
  have HKK := Aid.hid hk
  clear hk
  go_enter Tryz.func87, Tryz.ntmps87
  try simp only [List.append_eq, List.cons_append, List.nil_append]
  go_wp2_with fail
  clear hW
  refine (args_is e.k (1) W (by simp [Ty.args, HKK.out])).mono ?_; rintro _ w0 ⟨rfl, rfl⟩
  by_cases hlen : e.args.length = 1
  · have hl2 : ((e.args.length : Int) != 1) = false := by simp [hlen]
    have HLEN := Aid.hid hlen
    clear hlen
    obtain ⟨x, hx⟩ := List.length_eq_one_iff.1 (show e.args.length = 1 by exact HLEN.out)
    have hr : Ty.same (Ty.expr p x) 2 = (t, c) := by have := HR.out; simpa [Ty.exprG, Ty.args, HKK.out, hx, Ty.hd] using this
    have HC := Aid.hid (unary_is f B b p a e x 2 t c W (HX.out x (by rw [hx]; simp)) (by simp [HKK.out]) hr (HH.out.below K0.out) (HE.out.below K0.out HH.out.le) hx)
    clear hr hx
    go_wp2_with fail
    refine HC.out.mono ?_; rintro _ w9 ⟨rfl, hb9⟩
    have K9 := Aid.hid (K0.out.trans (hb9.mono K0.out.size))
    have N9 := Aid.hid (N4.out.below hb9 N4.out.lt)
    clear hb9
    go_wp2_with (refine wpList_store_row rfl 44 _ _ rfl (w.heap.size + 1) _ rfl rfl 44 _ (N9.out) (by kernel_rfl) rfl (by simp [Value.oneCell']) ?_)
    refine bodyPost_ret (v := _) (results_row2 rfl _ _ (w.heap.size + 1) 44 _ (0, 0) _ _ rfl rfl (row_has (N9.out)) Tryz.underlying44 rfl (by kernel_rfl)) rfl ⟨rfl, row_below (K9.out) (by omega) _⟩
  · have hl2 : ((e.args.length : Int) != 1) = true := bne_iff_ne.2 (fun h => hlen (by omega))
    obtain ⟨rfl, rfl⟩ : Ty.none_ = t ∧ 14 = c := by
      have := HR.out
      rw [Ty.exprG, if_pos (Or.inr ⟨by rw [List.length_map, show Ty.args e.k = 1 by simp [Ty.args, HKK.out]]; omega, by rw [HKK.out]; decide⟩)] at this
      simpa using this
    clear hlen
    go_wp2_with fail
    refine (wrong_x 14 _).mono ?_; rintro _ w8 ⟨rfl, hb8⟩
    have HZ8 := Aid.hid ((N4.out).below hb8 (N4.out).lt)
    have KW8 := Aid.hid ((K0.out).trans (hb8.mono (K0.out).size))
    clear hb8
    go_wp2_with (refine wpList_store_row rfl 44 _ _ rfl (w.heap.size + 1) _ rfl rfl 44 _ (HZ8.out) (by kernel_rfl) rfl (by simp [Value.oneCell']) ?_)
    refine bodyPost_ret (v := _) (results_row2 rfl _ _ (w.heap.size + 1) 44 _ (0, 0) _ _ rfl rfl (row_has (HZ8.out)) Tryz.underlying44 rfl (by kernel_rfl)) rfl ⟨rfl, row_below (KW8.out) (by omega) _⟩

end Go.Proofs.YtejifefgmlpclaaGreat
/- Parts of typing, as walks: an expression of one kind. -/
namespace Go.Proofs.YtejifefgmlpclaaGreat
open Go.RowKit

theorem len2 {α : Type} : ∀ {l : List α}, l.length = 2 → ∃ x y, l = [x, y]
  | [x, y], _ => ⟨x, y, rfl⟩
set_option maxRecDepth 100000 in
set_option maxHeartbeats 4000000 in
theorem expr_9 (f B b : Nat) (p : Pl) (a : Pa) (e : Ex) (hX : ∀ x ∈ e.args, ExOK f B b p a x) (hlim : e.args.length ≤ 1000000000) (w : World) (t : Ty) (c : Int) (hr : Ty.expr p e = (t, c)) (h : PlAt w B b p a) (he : ExsAt (f + 1) w B e.A e.args) (hk : e.k = 9) :
    Calls Tryz.prog 87 #[.pointer (some ⟨b, 0, none⟩), .agg #[.int .i64 e.k, .int .i64 e.n, .string e.name, .string e.what, .slice e.A e.args.length e.c]] w fun r w' => r = .returned (.tuple #[.agg #[.int .i64 t.k, .int .i64 t.lo, .int .i64 t.hi, .string t.name], .int .i64 c]) ∧ Below w.heap.size w w' := by
  obtain ⟨n3, n4, k0⟩ := two_new w [.int .i64 e.k, .int .i64 e.n, .string e.name, .string e.what, .slice e.A e.args.length e.c] [.int .i64 0, .int .i64 0, .int .i64 0, .string ⟨#[]⟩] 79 44
  rw [Ty.expr_eq] at hr
  have HR := Aid.hid hr
  have HH := Aid.hid h
  have HE := Aid.hid he
  have HX := Aid.hid hX
  obtain ⟨W, hW⟩ : ∃ W, (w.alloc (.cells #[.int .i64 e.k, .int .i64 e.n, .string e.name, .string e.what, .slice e.A e.args.length e.c] 79)).alloc (.cells #[.int .i64 0, .int .i64 0, .int .i64 0, .string ⟨#[]⟩] 44) = W := ⟨_, rfl⟩
  rw [hW] at n3 n4 k0
  have b0 := n3.cell 0 _ rfl
  have b1 := n3.cell 1 _ rfl
  have b2 := n3.cell 2 _ rfl
  have b3 := n3.cell 3 _ rfl
  have b4 := n3.cell 4 _ rfl
  have l3 := n3.lt
  have N4 := Aid.hid n4; have K0 := Aid.hid k0
  have HLIM := Aid.hid hlim
  clear hX hr h he n3 n4 k0 hlim
  have k1 : (e.k == 1) = false := by simp [hk]
  have k2 : (e.k == 2) = false := by simp [hk]
  have k3 : (e.k == 3) = false := by simp [hk]
  have k4 : (e.k == 4) = false := by simp [hk]
  have k7 : (e.k == 7) = false := by simp [hk]
  have k8 : (e.k == 8) = false := by simp [hk]
  have k9 : (e.k == 9) = true := by simp [hk]
  have k14 : (e.k == 14) = false := by simp [hk]
  have k13 : (e.k == 13) = false := by simp [hk]
  have k13n : (e.k != 13) = true := by simp [hk]
  have HKK := Aid.hid hk
  clear hk
  go_enter Tryz.func87, Tryz.ntmps87
  try simp only [List.append_eq, List.cons_append, List.nil_append]
  go_wp2_with fail
  clear hW
  refine (args_is e.k (2) W (by simp [Ty.args, HKK.out])).mono ?_; rintro _ w0 ⟨rfl, rfl⟩
  by_cases hlen : e.args.length = 2
  · have hl2 : ((e.args.length : Int) != 2) = false := by simp [hlen]
    have HLEN := Aid.hid hlen
    clear hlen
    obtain ⟨x, y, hx⟩ : ∃ x y, e.args = [x, y] := len2 (show e.args.length = 2 by exact HLEN.out)
    obtain ⟨⟨t1, c1⟩, h1⟩ : ∃ r, Ty.expr p x = r := ⟨_, rfl⟩
    obtain ⟨⟨t2, c2⟩, h2⟩ : ∃ r, Ty.expr p y = r := ⟨_, rfl⟩
    have hr : Ty.bin e.n (t1, c1) (t2, c2) = (t, c) := by have := HR.out; simpa [Ty.exprG, Ty.args, HKK.out, hx, Ty.hd, Ty.hd2, h1, h2] using this
    have HC := Aid.hid (binary_is f B b p a e x y t1 t2 t c1 c2 c W (HX.out x (by rw [hx]; simp)) (HX.out y (by rw [hx]; simp)) h1 h2 hr (HH.out.below K0.out) (HE.out.below K0.out HH.out.le) hx)
    clear hr hx h1 h2
    go_wp2_with fail
    refine HC.out.mono ?_; rintro _ w9 ⟨rfl, hb9⟩
    have K9 := Aid.hid (K0.out.trans (hb9.mono K0.out.size))
    have N9 := Aid.hid (N4.out.below hb9 N4.out.lt)
    clear hb9
    go_wp2_with (refine wpList_store_row rfl 44 _ _ rfl (w.heap.size + 1) _ rfl rfl 44 _ (N9.out) (by kernel_rfl) rfl (by simp [Value.oneCell']) ?_)
    refine bodyPost_ret (v := _) (results_row2 rfl _ _ (w.heap.size + 1) 44 _ (0, 0) _ _ rfl rfl (row_has (N9.out)) Tryz.underlying44 rfl (by kernel_rfl)) rfl ⟨rfl, row_below (K9.out) (by omega) _⟩
  · have hl2 : ((e.args.length : Int) != 2) = true := bne_iff_ne.2 (fun h => hlen (by omega))
    obtain ⟨rfl, rfl⟩ : Ty.none_ = t ∧ 14 = c := by
      have := HR.out
      rw [Ty.exprG, if_pos (Or.inr ⟨by rw [List.length_map, show Ty.args e.k = 2 by simp [Ty.args, HKK.out]]; omega, by rw [HKK.out]; decide⟩)] at this
      simpa using this
    clear hlen
    go_wp2_with fail
    refine (wrong_x 14 _).mono ?_; rintro _ w8 ⟨rfl, hb8⟩
    have HZ8 := Aid.hid ((N4.out).below hb8 (N4.out).lt)
    have KW8 := Aid.hid ((K0.out).trans (hb8.mono (K0.out).size))
    clear hb8
    go_wp2_with (refine wpList_store_row rfl 44 _ _ rfl (w.heap.size + 1) _ rfl rfl 44 _ (HZ8.out) (by kernel_rfl) rfl (by simp [Value.oneCell']) ?_)
    refine bodyPost_ret (v := _) (results_row2 rfl _ _ (w.heap.size + 1) 44 _ (0, 0) _ _ rfl rfl (row_has (HZ8.out)) Tryz.underlying44 rfl (by kernel_rfl)) rfl ⟨rfl, row_below (KW8.out) (by omega) _⟩

set_option maxRecDepth 100000 in
set_option maxHeartbeats 4000000 in
theorem expr_14 (f B b : Nat) (p : Pl) (a : Pa) (e : Ex) (hX : ∀ x ∈ e.args, ExOK f B b p a x) (hlim : e.args.length ≤ 1000000000) (w : World) (t : Ty) (c : Int) (hr : Ty.expr p e = (t, c)) (h : PlAt w B b p a) (he : ExsAt (f + 1) w B e.A e.args) (hk : e.k = 14) :
    Calls Tryz.prog 87 #[.pointer (some ⟨b, 0, none⟩), .agg #[.int .i64 e.k, .int .i64 e.n, .string e.name, .string e.what, .slice e.A e.args.length e.c]] w fun r w' => r = .returned (.tuple #[.agg #[.int .i64 t.k, .int .i64 t.lo, .int .i64 t.hi, .string t.name], .int .i64 c]) ∧ Below w.heap.size w w' := by
  obtain ⟨n3, n4, k0⟩ := two_new w [.int .i64 e.k, .int .i64 e.n, .string e.name, .string e.what, .slice e.A e.args.length e.c] [.int .i64 0, .int .i64 0, .int .i64 0, .string ⟨#[]⟩] 79 44
  rw [Ty.expr_eq] at hr
  have HR := Aid.hid hr
  have HH := Aid.hid h
  have HE := Aid.hid he
  have HX := Aid.hid hX
  obtain ⟨W, hW⟩ : ∃ W, (w.alloc (.cells #[.int .i64 e.k, .int .i64 e.n, .string e.name, .string e.what, .slice e.A e.args.length e.c] 79)).alloc (.cells #[.int .i64 0, .int .i64 0, .int .i64 0, .string ⟨#[]⟩] 44) = W := ⟨_, rfl⟩
  rw [hW] at n3 n4 k0
  have b0 := n3.cell 0 _ rfl
  have b1 := n3.cell 1 _ rfl
  have b2 := n3.cell 2 _ rfl
  have b3 := n3.cell 3 _ rfl
  have b4 := n3.cell 4 _ rfl
  have l3 := n3.lt
  have N4 := Aid.hid n4; have K0 := Aid.hid k0
  have HLIM := Aid.hid hlim
  clear hX hr h he n3 n4 k0 hlim
  have k1 : (e.k == 1) = false := by simp [hk]
  have k2 : (e.k == 2) = false := by simp [hk]
  have k3 : (e.k == 3) = false := by simp [hk]
  have k4 : (e.k == 4) = false := by simp [hk]
  have k7 : (e.k == 7) = false := by simp [hk]
  have k8 : (e.k == 8) = false := by simp [hk]
  have k9 : (e.k == 9) = false := by simp [hk]
  have k14 : (e.k == 14) = true := by simp [hk]
  have k13 : (e.k == 13) = false := by simp [hk]
  have k13n : (e.k != 13) = true := by simp [hk]
  have HKK := Aid.hid hk
  clear hk
  go_enter Tryz.func87, Tryz.ntmps87
  try simp only [List.append_eq, List.cons_append, List.nil_append]
  go_wp2_with fail
  clear hW
  refine (args_is e.k (1) W (by simp [Ty.args, HKK.out])).mono ?_; rintro _ w0 ⟨rfl, rfl⟩
  by_cases hlen : e.args.length = 1
  · have hl2 : ((e.args.length : Int) != 1) = false := by simp [hlen]
    have HLEN := Aid.hid hlen
    clear hlen
    obtain ⟨x, hx⟩ := List.length_eq_one_iff.1 (show e.args.length = 1 by exact HLEN.out)
    have hr : Ty.cast p.u e.name (Ty.expr p x) = (t, c) := by have := HR.out; simpa [Ty.exprG, Ty.args, HKK.out, hx, Ty.hd] using this
    have HC := Aid.hid (cast_is f B b p a e x t c W (HX.out x (by rw [hx]; simp)) hr (HH.out.below K0.out) (HE.out.below K0.out HH.out.le) hx)
    clear hr hx
    go_wp2_with fail
    refine HC.out.mono ?_; rintro _ w9 ⟨rfl, hb9⟩
    have K9 := Aid.hid (K0.out.trans (hb9.mono K0.out.size))
    have N9 := Aid.hid (N4.out.below hb9 N4.out.lt)
    clear hb9
    go_wp2_with (refine wpList_store_row rfl 44 _ _ rfl (w.heap.size + 1) _ rfl rfl 44 _ (N9.out) (by kernel_rfl) rfl (by simp [Value.oneCell']) ?_)
    refine bodyPost_ret (v := _) (results_row2 rfl _ _ (w.heap.size + 1) 44 _ (0, 0) _ _ rfl rfl (row_has (N9.out)) Tryz.underlying44 rfl (by kernel_rfl)) rfl ⟨rfl, row_below (K9.out) (by omega) _⟩
  · have hl2 : ((e.args.length : Int) != 1) = true := bne_iff_ne.2 (fun h => hlen (by omega))
    obtain ⟨rfl, rfl⟩ : Ty.none_ = t ∧ 14 = c := by
      have := HR.out
      rw [Ty.exprG, if_pos (Or.inr ⟨by rw [List.length_map, show Ty.args e.k = 1 by simp [Ty.args, HKK.out]]; omega, by rw [HKK.out]; decide⟩)] at this
      simpa using this
    clear hlen
    go_wp2_with fail
    refine (wrong_x 14 _).mono ?_; rintro _ w8 ⟨rfl, hb8⟩
    have HZ8 := Aid.hid ((N4.out).below hb8 (N4.out).lt)
    have KW8 := Aid.hid ((K0.out).trans (hb8.mono (K0.out).size))
    clear hb8
    go_wp2_with (refine wpList_store_row rfl 44 _ _ rfl (w.heap.size + 1) _ rfl rfl 44 _ (HZ8.out) (by kernel_rfl) rfl (by simp [Value.oneCell']) ?_)
    refine bodyPost_ret (v := _) (results_row2 rfl _ _ (w.heap.size + 1) 44 _ (0, 0) _ _ rfl rfl (row_has (HZ8.out)) Tryz.underlying44 rfl (by kernel_rfl)) rfl ⟨rfl, row_below (KW8.out) (by omega) _⟩

set_option maxRecDepth 100000 in
set_option maxHeartbeats 4000000 in
theorem expr_13 (f B b : Nat) (p : Pl) (a : Pa) (e : Ex) (hX : ∀ x ∈ e.args, ExOK f B b p a x) (hlim : e.args.length ≤ 1000000000) (w : World) (t : Ty) (c : Int) (hr : Ty.expr p e = (t, c)) (h : PlAt w B b p a) (he : ExsAt (f + 1) w B e.A e.args) (hk : e.k = 13) :
    Calls Tryz.prog 87 #[.pointer (some ⟨b, 0, none⟩), .agg #[.int .i64 e.k, .int .i64 e.n, .string e.name, .string e.what, .slice e.A e.args.length e.c]] w fun r w' => r = .returned (.tuple #[.agg #[.int .i64 t.k, .int .i64 t.lo, .int .i64 t.hi, .string t.name], .int .i64 c]) ∧ Below w.heap.size w w' := by
  obtain ⟨n3, n4, k0⟩ := two_new w [.int .i64 e.k, .int .i64 e.n, .string e.name, .string e.what, .slice e.A e.args.length e.c] [.int .i64 0, .int .i64 0, .int .i64 0, .string ⟨#[]⟩] 79 44
  rw [Ty.expr_eq] at hr
  have HR := Aid.hid hr
  have HH := Aid.hid h
  have HE := Aid.hid he
  have HX := Aid.hid hX
  obtain ⟨W, hW⟩ : ∃ W, (w.alloc (.cells #[.int .i64 e.k, .int .i64 e.n, .string e.name, .string e.what, .slice e.A e.args.length e.c] 79)).alloc (.cells #[.int .i64 0, .int .i64 0, .int .i64 0, .string ⟨#[]⟩] 44) = W := ⟨_, rfl⟩
  rw [hW] at n3 n4 k0
  have b0 := n3.cell 0 _ rfl
  have b1 := n3.cell 1 _ rfl
  have b2 := n3.cell 2 _ rfl
  have b3 := n3.cell 3 _ rfl
  have b4 := n3.cell 4 _ rfl
  have l3 := n3.lt
  have N4 := Aid.hid n4; have K0 := Aid.hid k0
  have HLIM := Aid.hid hlim
  clear hX hr h he n3 n4 k0 hlim
  have k1 : (e.k == 1) = false := by simp [hk]
  have k2 : (e.k == 2) = false := by simp [hk]
  have k3 : (e.k == 3) = false := by simp [hk]
  have k4 : (e.k == 4) = false := by simp [hk]
  have k7 : (e.k == 7) = false := by simp [hk]
  have k8 : (e.k == 8) = false := by simp [hk]
  have k9 : (e.k == 9) = false := by simp [hk]
  have k14 : (e.k == 14) = false := by simp [hk]
  have k13 : (e.k == 13) = true := by simp [hk]
  have k13n : (e.k != 13) = false := by simp [hk]
  have HKK := Aid.hid hk
  clear hk
  obtain ⟨⟨t1, c1⟩, h1⟩ : ∃ r, Ty.inv p e = r := ⟨_, rfl⟩
  have hr : Ty.some_ (t1, c1) = (t, c) := by
    have := HR.out
    rw [← h1]
    simpa [Ty.exprG, Ty.args, HKK.out, Ty.inv] using this
  have HC := Aid.hid (invoke_is f B b p a e t1 c1 W HX.out h1 (HH.out.below K0.out) (HE.out.below K0.out HH.out.le) HLIM.out)
  have HR2 := Aid.hid hr
  go_enter Tryz.func87, Tryz.ntmps87
  try simp only [List.append_eq, List.cons_append, List.nil_append]
  go_wp2_with fail
  clear hW
  refine (args_is e.k (0) W (by simp [Ty.args, HKK.out])).mono ?_; rintro _ w0 ⟨rfl, rfl⟩
  clear h1 hr
  obtain ⟨q, hq⟩ : ∃ q, ((e.args.length : Int) != 0) = q := ⟨_, rfl⟩
  cases q
  all_goals
    go_wp2_with fail
    refine HC.out.mono ?_; rintro _ w9 ⟨rfl, hb9⟩
    have K9 := Aid.hid (K0.out.trans (hb9.mono K0.out.size))
    have N9 := Aid.hid (N4.out.below hb9 N4.out.lt)
    have hs9 : w.heap.size ≤ w9.heap.size := K9.out.size
    clear hb9
    by_cases hc : c1 = 0
    · subst hc
      obtain ⟨q5, h5⟩ : ∃ q, (t1.k == 0) = q := ⟨_, rfl⟩
      cases q5
      · obtain ⟨rfl, rfl⟩ : t1 = t ∧ 0 = c := by
          have := HR2.out
          have h : ¬ t1.k = 0 := by simpa using h5
          simpa [Ty.some_, h] using this
        go_wp2_with (refine wpList_store_row rfl 44 _ _ rfl (w.heap.size + 1) _ rfl rfl 44 _ (N9.out.alloc _) (by kernel_rfl) rfl (by simp [Value.oneCell']) ?_)
        refine bodyPost_ret (v := _) (results_row2 rfl _ _ (w.heap.size + 1) 44 _ (0, 0) _ _ rfl rfl (row_has (N9.out.alloc _)) Tryz.underlying44 rfl (by kernel_rfl)) rfl ⟨rfl, row_below (K9.out.alloc hs9 _) (by omega) _⟩
      · obtain ⟨rfl, rfl⟩ : t1 = t ∧ 14 = c := by
          have := HR2.out
          have h : t1.k = 0 := by simpa using h5
          simpa [Ty.some_, h] using this
        go_wp2_with (refine wpList_store_row rfl 44 _ _ rfl (w.heap.size + 1) _ rfl rfl 44 _ (N9.out.alloc _) (by kernel_rfl) rfl (by simp [Value.oneCell']) ?_)
        refine bodyPost_ret (v := _) (results_row2 rfl _ _ (w.heap.size + 1) 44 _ (0, 0) _ _ rfl rfl (row_has (N9.out.alloc _)) Tryz.underlying44 rfl (by kernel_rfl)) rfl ⟨rfl, row_below (K9.out.alloc hs9 _) (by omega) _⟩
    · obtain ⟨rfl, rfl⟩ : t1 = t ∧ c1 = c := by
        have := HR2.out
        simpa [Ty.some_, hc] using this
      go_wp2_with (refine wpList_store_row rfl 44 _ _ rfl (w.heap.size + 1) _ rfl rfl 44 _ (N9.out.alloc _) (by kernel_rfl) rfl (by simp [Value.oneCell']) ?_)
      refine bodyPost_ret (v := _) (results_row2 rfl _ _ (w.heap.size + 1) 44 _ (0, 0) _ _ rfl rfl (row_has (N9.out.alloc _)) Tryz.underlying44 rfl (by kernel_rfl)) rfl ⟨rfl, row_below (K9.out.alloc hs9 _) (by omega) _⟩
set_option maxRecDepth 100000 in
set_option maxHeartbeats 4000000 in
theorem expr_0 (f B b : Nat) (p : Pl) (a : Pa) (e : Ex) (hX : ∀ x ∈ e.args, ExOK f B b p a x) (hlim : e.args.length ≤ 1000000000) (w : World) (t : Ty) (c : Int) (hr : Ty.expr p e = (t, c)) (h : PlAt w B b p a) (he : ExsAt (f + 1) w B e.A e.args) (hk : ¬ e.k = 1 ∧ ¬ e.k = 2 ∧ ¬ e.k = 3 ∧ ¬ e.k = 4 ∧ ¬ e.k = 5 ∧ ¬ e.k = 6 ∧ ¬ e.k = 7 ∧ ¬ e.k = 8 ∧ ¬ e.k = 9 ∧ ¬ e.k = 10 ∧ ¬ e.k = 11 ∧ ¬ e.k = 12 ∧ ¬ e.k = 13 ∧ ¬ e.k = 14) :
    Calls Tryz.prog 87 #[.pointer (some ⟨b, 0, none⟩), .agg #[.int .i64 e.k, .int .i64 e.n, .string e.name, .string e.what, .slice e.A e.args.length e.c]] w fun r w' => r = .returned (.tuple #[.agg #[.int .i64 t.k, .int .i64 t.lo, .int .i64 t.hi, .string t.name], .int .i64 c]) ∧ Below w.heap.size w w' := by
  obtain ⟨n3, n4, k0⟩ := two_new w [.int .i64 e.k, .int .i64 e.n, .string e.name, .string e.what, .slice e.A e.args.length e.c] [.int .i64 0, .int .i64 0, .int .i64 0, .string ⟨#[]⟩] 79 44
  rw [Ty.expr_eq] at hr
  have HR := Aid.hid hr
  have HH := Aid.hid h
  have HE := Aid.hid he
  have HX := Aid.hid hX
  obtain ⟨W, hW⟩ : ∃ W, (w.alloc (.cells #[.int .i64 e.k, .int .i64 e.n, .string e.name, .string e.what, .slice e.A e.args.length e.c] 79)).alloc (.cells #[.int .i64 0, .int .i64 0, .int .i64 0, .string ⟨#[]⟩] 44) = W := ⟨_, rfl⟩
  rw [hW] at n3 n4 k0
  have b0 := n3.cell 0 _ rfl
  have b1 := n3.cell 1 _ rfl
  have b2 := n3.cell 2 _ rfl
  have b3 := n3.cell 3 _ rfl
  have b4 := n3.cell 4 _ rfl
  have l3 := n3.lt
  have N4 := Aid.hid n4; have K0 := Aid.hid k0
  have HLIM := Aid.hid hlim
  clear hX hr h he n3 n4 k0 hlim
  obtain ⟨g1, g2, g3, g4, g5, g6, g7, g8, g9, g10, g11, g12, g13, g14⟩ := hk
  have ha : Ty.args e.k = -1 := by simp [Ty.args, g1, g2, g3, g4, g5, g6, g7, g8, g9, g10, g11, g12, g13, g14]
  obtain ⟨rfl, rfl⟩ : Ty.none_ = t ∧ 14 = c := by have := HR.out; simpa [Ty.exprG, ha] using this
  go_enter Tryz.func87, Tryz.ntmps87
  try simp only [List.append_eq, List.cons_append, List.nil_append]
  go_wp2_with fail
  clear hW
  refine (args_is e.k (-1) W ha).mono ?_; rintro _ w0 ⟨rfl, rfl⟩
  clear g1 g2 g3 g4 g5 g6 g7 g8 g9 g10 g11 g12 g13 g14 ha
  go_wp2_with fail
  refine (wrong_x 14 _).mono ?_; rintro _ w8 ⟨rfl, hb8⟩
  have HZ8 := Aid.hid ((N4.out).below hb8 (N4.out).lt)
  have KW8 := Aid.hid ((K0.out).trans (hb8.mono (K0.out).size))
  clear hb8
  go_wp2_with (refine wpList_store_row rfl 44 _ _ rfl (w.heap.size + 1) _ rfl rfl 44 _ (HZ8.out) (by kernel_rfl) rfl (by simp [Value.oneCell']) ?_)
  refine bodyPost_ret (v := _) (results_row2 rfl _ _ (w.heap.size + 1) 44 _ (0, 0) _ _ rfl rfl (row_has (HZ8.out)) Tryz.underlying44 rfl (by kernel_rfl)) rfl ⟨rfl, row_below (KW8.out) (by omega) _⟩

end Go.Proofs.YtejifefgmlpclaaGreat
/- Parts of typing, as walks: an expression. -/
namespace Go.Proofs.YtejifefgmlpclaaGreat
open Go.RowKit

/-- No list is too long. -/
def ExLim : Nat → List Ex → Prop
  | 0, _ => True
  | f + 1, l => l.length ≤ 1000000000 ∧ ∀ e ∈ l, ExLim f e.args
theorem ExsAt.lift {w : World} {B : Nat} {A : Option Addr} (h : ExsAt 0 w B A []) : ExsAt 1 w B A [] := ⟨by simp, Rows.nil_ _ _ _ _, by simp⟩

theorem expr_step (f B b : Nat) (p : Pl) (a : Pa) (e : Ex) (hX : ∀ x ∈ e.args, ExOK f B b p a x) (hlim : e.args.length ≤ 1000000000) (w : World) (t : Ty) (c : Int) (hr : Ty.expr p e = (t, c)) (h : PlAt w B b p a) (he : ExsAt (f + 1) w B e.A e.args) :
    Calls Tryz.prog 87 #[.pointer (some ⟨b, 0, none⟩), .agg #[.int .i64 e.k, .int .i64 e.n, .string e.name, .string e.what, .slice e.A e.args.length e.c]] w fun r w' => r = .returned (.tuple #[.agg #[.int .i64 t.k, .int .i64 t.lo, .int .i64 t.hi, .string t.name], .int .i64 c]) ∧ Below w.heap.size w w' := by
  by_cases h1 : e.k = 1
  · exact expr_1 f B b p a e hX hlim w t c hr h he h1
  by_cases h2 : e.k = 2
  · exact expr_2 f B b p a e hX hlim w t c hr h he h2
  by_cases h3 : e.k = 3
  · exact expr_3 f B b p a e hX hlim w t c hr h he h3
  by_cases h4 : e.k = 4
  · exact expr_4 f B b p a e hX hlim w t c hr h he h4
  by_cases h5 : e.k = 5
  · exact expr_5 f B b p a e hX hlim w t c hr h he h5
  by_cases h6 : e.k = 6
  · exact expr_6 f B b p a e hX hlim w t c hr h he h6
  by_cases h7 : e.k = 7
  · exact expr_7 f B b p a e hX hlim w t c hr h he h7
  by_cases h8 : e.k = 8
  · exact expr_8 f B b p a e hX hlim w t c hr h he h8
  by_cases h9 : e.k = 9
  · exact expr_9 f B b p a e hX hlim w t c hr h he h9
  by_cases h10 : e.k = 10
  · exact expr_10 f B b p a e hX hlim w t c hr h he h10
  by_cases h11 : e.k = 11
  · exact expr_11 f B b p a e hX hlim w t c hr h he h11
  by_cases h12 : e.k = 12
  · exact expr_12 f B b p a e hX hlim w t c hr h he h12
  by_cases h13 : e.k = 13
  · exact expr_13 f B b p a e hX hlim w t c hr h he h13
  by_cases h14 : e.k = 14
  · exact expr_14 f B b p a e hX hlim w t c hr h he h14
  exact expr_0 f B b p a e hX hlim w t c hr h he ⟨h1, h2, h3, h4, h5, h6, h7, h8, h9, h10, h11, h12, h13, h14⟩
/-- The program's answer of any expression. -/
theorem expr_is (B b : Nat) (p : Pl) (a : Pa) : ∀ (f : Nat) (e : Ex), ExLim f e.args → ExOK f B b p a e
  | 0, e, _ => fun w t c hr h he => by
    have ha : e.args = [] := he
    exact expr_step 0 B b p a e (by rw [ha]; simp) (by rw [ha]; simp) w t c hr h (by rw [ha]; exact ⟨by simp, Rows.nil_ _ _ _ _, by simp⟩)
  | f + 1, e, hl => fun w t c hr h he => expr_step f B b p a e (fun x hx => expr_is B b p a f x (hl.2 x hx)) hl.1 w t c hr h he
end Go.Proofs.YtejifefgmlpclaaGreat
