/- Parts of typing, as walks: an expression of one kind. -/
import Derived.Test.YtmhdcehpddbjaaaTyH
import Derived.WalkKit
import Derived.WalkSpells
import Derived.WalkLawsBesides
import Derived.LoopTactic
import Derived.Deep.QuietTactic
import Derived.BigQuiet
import Derived.Below
import Derived.Laws.ResultCell
import Derived.Laws.Tables
import Derived.Laws.Rows
import Derived.Deep.Cut
import Derived.KernelRfl
namespace Go.Proofs.Ytmhdcehpddbjaaa
open Go.RowKit

set_option maxRecDepth 100000 in
set_option maxHeartbeats 4000000 in
theorem expr_5 (f B b : Nat) (p : Pl) (a : Pa) (e : Ex) (hX : ∀ x ∈ e.args, ExOK f B b p a x) (hlim : e.args.length ≤ 1000000000) (w : World) (t : Ty) (c : Int) (hr : Ty.expr p e = (t, c)) (h : PlAt w B b p a) (he : ExsAt (f + 1) w B e.A e.args) (hk : e.k = 5) :
    Calls Try.prog 31 #[.pointer (some ⟨b, 0, none⟩), .agg #[.int .i64 e.k, .int .i64 e.n, .string e.name, .string e.what, .slice e.A e.args.length e.c]] w fun r w' => r = .returned (.tuple #[.agg #[.int .i64 t.k, .int .i64 t.lo, .int .i64 t.hi, .string t.name], .int .i64 c]) ∧ Below w.heap.size w w' := by
  obtain ⟨n3, n4, k0⟩ := two_new w [.int .i64 e.k, .int .i64 e.n, .string e.name, .string e.what, .slice e.A e.args.length e.c] [.int .i64 0, .int .i64 0, .int .i64 0, .string ⟨#[]⟩] 29 36
  rw [Ty.expr_eq] at hr
  have HR := Aid.hid hr
  have HH := Aid.hid h
  have HE := Aid.hid he
  have HX := Aid.hid hX
  obtain ⟨W, hW⟩ : ∃ W, (w.alloc (.cells #[.int .i64 e.k, .int .i64 e.n, .string e.name, .string e.what, .slice e.A e.args.length e.c] 29)).alloc (.cells #[.int .i64 0, .int .i64 0, .int .i64 0, .string ⟨#[]⟩] 36) = W := ⟨_, rfl⟩
  rw [hW] at n3 n4 k0
  have b0 := n3.cell 0 _ rfl
  have b1 := n3.cell 1 _ rfl
  have b2 := n3.cell 2 _ rfl
  have b3 := n3.cell 3 _ rfl
  have b4 := n3.cell 4 _ rfl
  have l3 := n3.lt
  have N4 := Aid.hid n4; have K0 := Aid.hid k0
  have HLIM := Aid.hid hlim
  clear hX hr h he n3 n4 k0 hlim
  have k1 : (e.k == 1) = false := by simp [hk]
  have k2 : (e.k == 2) = false := by simp [hk]
  have k3 : (e.k == 3) = false := by simp [hk]
  have k4 : (e.k == 4) = false := by simp [hk]
  have k7 : (e.k == 7) = false := by simp [hk]
  have k8 : (e.k == 8) = false := by simp [hk]
  have k9 : (e.k == 9) = false := by simp [hk]
  have k14 : (e.k == 14) = false := by simp [hk]
  have k13 : (e.k == 13) = false := by simp [hk]
  have k13n : (e.k != 13) = true := by simp [hk]
  have HKK := Aid.hid hk
  clear hk
  go_enter Try.func31, Try.ntmps31
  try simp only [List.append_eq, List.cons_append, List.nil_append]
  go_wp2_with fail
  clear hW
  refine (args_is e.k (0) W (by simp [Ty.args, HKK.out])).mono ?_; rintro _ w0 ⟨rfl, rfl⟩
  by_cases hlen : e.args.length = 0
  · have hl2 : ((e.args.length : Int) != 0) = false := by simp [hlen]
    have HLEN := Aid.hid hlen
    clear hlen
    have hr : Ty.named e.k (p.var e.name) (Ty.hd (e.args.map (Ty.expr p))) = (t, c) := by have := HR.out; simpa [Ty.exprG, Ty.args, HKK.out, HLEN.out] using this
    have HC := Aid.hid (named_is f B b p a e _ t c W (fun _ => absurd ‹e.k = 6› (by rw [HKK.out]; decide)) rfl hr (HH.out.below K0.out) (HE.out.below K0.out HH.out.le))
    clear hr
    go_wp2_with fail
    refine HC.out.mono ?_; rintro _ w9 ⟨rfl, hb9⟩
    have K9 := Aid.hid (K0.out.trans (hb9.mono K0.out.size))
    have N9 := Aid.hid (N4.out.below hb9 N4.out.lt)
    clear hb9
    go_wp2_with (refine wpList_store_row rfl 36 _ _ rfl (w.heap.size + 1) _ rfl rfl 36 _ (N9.out) (by kernel_rfl) rfl (by simp [Value.oneCell']) ?_)
    refine bodyPost_ret (v := _) (results_row2 rfl _ _ (w.heap.size + 1) 36 _ (0, 0) _ _ rfl rfl (row_has (N9.out)) Try.underlying36 rfl (by kernel_rfl)) rfl ⟨rfl, row_below (K9.out) (by omega) _⟩
  · have hl2 : ((e.args.length : Int) != 0) = true := bne_iff_ne.2 (fun h => hlen (by omega))
    obtain ⟨rfl, rfl⟩ : Ty.none_ = t ∧ 14 = c := by
      have := HR.out
      rw [Ty.exprG, if_pos (Or.inr ⟨by rw [List.length_map, show Ty.args e.k = 0 by simp [Ty.args, HKK.out]]; omega, by rw [HKK.out]; decide⟩)] at this
      simpa using this
    clear hlen
    go_wp2_with fail
    refine (wrong_x 14 _).mono ?_; rintro _ w8 ⟨rfl, hb8⟩
    have HZ8 := Aid.hid ((N4.out).below hb8 (N4.out).lt)
    have KW8 := Aid.hid ((K0.out).trans (hb8.mono (K0.out).size))
    clear hb8
    go_wp2_with (refine wpList_store_row rfl 36 _ _ rfl (w.heap.size + 1) _ rfl rfl 36 _ (HZ8.out) (by kernel_rfl) rfl (by simp [Value.oneCell']) ?_)
    refine bodyPost_ret (v := _) (results_row2 rfl _ _ (w.heap.size + 1) 36 _ (0, 0) _ _ rfl rfl (row_has (HZ8.out)) Try.underlying36 rfl (by kernel_rfl)) rfl ⟨rfl, row_below (KW8.out) (by omega) _⟩

set_option maxRecDepth 100000 in
set_option maxHeartbeats 4000000 in
theorem expr_6 (f B b : Nat) (p : Pl) (a : Pa) (e : Ex) (hX : ∀ x ∈ e.args, ExOK f B b p a x) (hlim : e.args.length ≤ 1000000000) (w : World) (t : Ty) (c : Int) (hr : Ty.expr p e = (t, c)) (h : PlAt w B b p a) (he : ExsAt (f + 1) w B e.A e.args) (hk : e.k = 6) :
    Calls Try.prog 31 #[.pointer (some ⟨b, 0, none⟩), .agg #[.int .i64 e.k, .int .i64 e.n, .string e.name, .string e.what, .slice e.A e.args.length e.c]] w fun r w' => r = .returned (.tuple #[.agg #[.int .i64 t.k, .int .i64 t.lo, .int .i64 t.hi, .string t.name], .int .i64 c]) ∧ Below w.heap.size w w' := by
  obtain ⟨n3, n4, k0⟩ := two_new w [.int .i64 e.k, .int .i64 e.n, .string e.name, .string e.what, .slice e.A e.args.length e.c] [.int .i64 0, .int .i64 0, .int .i64 0, .string ⟨#[]⟩] 29 36
  rw [Ty.expr_eq] at hr
  have HR := Aid.hid hr
  have HH := Aid.hid h
  have HE := Aid.hid he
  have HX := Aid.hid hX
  obtain ⟨W, hW⟩ : ∃ W, (w.alloc (.cells #[.int .i64 e.k, .int .i64 e.n, .string e.name, .string e.what, .slice e.A e.args.length e.c] 29)).alloc (.cells #[.int .i64 0, .int .i64 0, .int .i64 0, .string ⟨#[]⟩] 36) = W := ⟨_, rfl⟩
  rw [hW] at n3 n4 k0
  have b0 := n3.cell 0 _ rfl
  have b1 := n3.cell 1 _ rfl
  have b2 := n3.cell 2 _ rfl
  have b3 := n3.cell 3 _ rfl
  have b4 := n3.cell 4 _ rfl
  have l3 := n3.lt
  have N4 := Aid.hid n4; have K0 := Aid.hid k0
  have HLIM := Aid.hid hlim
  clear hX hr h he n3 n4 k0 hlim
  have k1 : (e.k == 1) = false := by simp [hk]
  have k2 : (e.k == 2) = false := by simp [hk]
  have k3 : (e.k == 3) = false := by simp [hk]
  have k4 : (e.k == 4) = false := by simp [hk]
  have k7 : (e.k == 7) = false := by simp [hk]
  have k8 : (e.k == 8) = false := by simp [hk]
  have k9 : (e.k == 9) = false := by simp [hk]
  have k14 : (e.k == 14) = false := by simp [hk]
  have k13 : (e.k == 13) = false := by simp [hk]
  have k13n : (e.k != 13) = true := by simp [hk]
  have HKK := Aid.hid hk
  clear hk
  go_enter Try.func31, Try.ntmps31
  try simp only [List.append_eq, List.cons_append, List.nil_append]
  go_wp2_with fail
  clear hW
  refine (args_is e.k (1) W (by simp [Ty.args, HKK.out])).mono ?_; rintro _ w0 ⟨rfl, rfl⟩
  by_cases hlen : e.args.length = 1
  · have hl2 : ((e.args.length : Int) != 1) = false := by simp [hlen]
    have HLEN := Aid.hid hlen
    clear hlen
    have hr : Ty.named e.k (p.var e.name) (Ty.hd (e.args.map (Ty.expr p))) = (t, c) := by have := HR.out; simpa [Ty.exprG, Ty.args, HKK.out, HLEN.out] using this
    have HC := Aid.hid (named_is f B b p a e _ t c W (fun _ => by obtain ⟨x, hx⟩ := List.length_eq_one_iff.1 (show e.args.length = 1 by exact HLEN.out); exact ⟨x, hx, HX.out x (by rw [hx]; simp)⟩) rfl hr (HH.out.below K0.out) (HE.out.below K0.out HH.out.le))
    clear hr
    go_wp2_with fail
    refine HC.out.mono ?_; rintro _ w9 ⟨rfl, hb9⟩
    have K9 := Aid.hid (K0.out.trans (hb9.mono K0.out.size))
    have N9 := Aid.hid (N4.out.below hb9 N4.out.lt)
    clear hb9
    go_wp2_with (refine wpList_store_row rfl 36 _ _ rfl (w.heap.size + 1) _ rfl rfl 36 _ (N9.out) (by kernel_rfl) rfl (by simp [Value.oneCell']) ?_)
    refine bodyPost_ret (v := _) (results_row2 rfl _ _ (w.heap.size + 1) 36 _ (0, 0) _ _ rfl rfl (row_has (N9.out)) Try.underlying36 rfl (by kernel_rfl)) rfl ⟨rfl, row_below (K9.out) (by omega) _⟩
  · have hl2 : ((e.args.length : Int) != 1) = true := bne_iff_ne.2 (fun h => hlen (by omega))
    obtain ⟨rfl, rfl⟩ : Ty.none_ = t ∧ 14 = c := by
      have := HR.out
      rw [Ty.exprG, if_pos (Or.inr ⟨by rw [List.length_map, show Ty.args e.k = 1 by simp [Ty.args, HKK.out]]; omega, by rw [HKK.out]; decide⟩)] at this
      simpa using this
    clear hlen
    go_wp2_with fail
    refine (wrong_x 14 _).mono ?_; rintro _ w8 ⟨rfl, hb8⟩
    have HZ8 := Aid.hid ((N4.out).below hb8 (N4.out).lt)
    have KW8 := Aid.hid ((K0.out).trans (hb8.mono (K0.out).size))
    clear hb8
    go_wp2_with (refine wpList_store_row rfl 36 _ _ rfl (w.heap.size + 1) _ rfl rfl 36 _ (HZ8.out) (by kernel_rfl) rfl (by simp [Value.oneCell']) ?_)
    refine bodyPost_ret (v := _) (results_row2 rfl _ _ (w.heap.size + 1) 36 _ (0, 0) _ _ rfl rfl (row_has (HZ8.out)) Try.underlying36 rfl (by kernel_rfl)) rfl ⟨rfl, row_below (KW8.out) (by omega) _⟩

set_option maxRecDepth 100000 in
set_option maxHeartbeats 4000000 in
theorem expr_10 (f B b : Nat) (p : Pl) (a : Pa) (e : Ex) (hX : ∀ x ∈ e.args, ExOK f B b p a x) (hlim : e.args.length ≤ 1000000000) (w : World) (t : Ty) (c : Int) (hr : Ty.expr p e = (t, c)) (h : PlAt w B b p a) (he : ExsAt (f + 1) w B e.A e.args) (hk : e.k = 10) :
    Calls Try.prog 31 #[.pointer (some ⟨b, 0, none⟩), .agg #[.int .i64 e.k, .int .i64 e.n, .string e.name, .string e.what, .slice e.A e.args.length e.c]] w fun r w' => r = .returned (.tuple #[.agg #[.int .i64 t.k, .int .i64 t.lo, .int .i64 t.hi, .string t.name], .int .i64 c]) ∧ Below w.heap.size w w' := by
  obtain ⟨n3, n4, k0⟩ := two_new w [.int .i64 e.k, .int .i64 e.n, .string e.name, .string e.what, .slice e.A e.args.length e.c] [.int .i64 0, .int .i64 0, .int .i64 0, .string ⟨#[]⟩] 29 36
  rw [Ty.expr_eq] at hr
  have HR := Aid.hid hr
  have HH := Aid.hid h
  have HE := Aid.hid he
  have HX := Aid.hid hX
  obtain ⟨W, hW⟩ : ∃ W, (w.alloc (.cells #[.int .i64 e.k, .int .i64 e.n, .string e.name, .string e.what, .slice e.A e.args.length e.c] 29)).alloc (.cells #[.int .i64 0, .int .i64 0, .int .i64 0, .string ⟨#[]⟩] 36) = W := ⟨_, rfl⟩
  rw [hW] at n3 n4 k0
  have b0 := n3.cell 0 _ rfl
  have b1 := n3.cell 1 _ rfl
  have b2 := n3.cell 2 _ rfl
  have b3 := n3.cell 3 _ rfl
  have b4 := n3.cell 4 _ rfl
  have l3 := n3.lt
  have N4 := Aid.hid n4; have K0 := Aid.hid k0
  have HLIM := Aid.hid hlim
  clear hX hr h he n3 n4 k0 hlim
  have k1 : (e.k == 1) = false := by simp [hk]
  have k2 : (e.k == 2) = false := by simp [hk]
  have k3 : (e.k == 3) = false := by simp [hk]
  have k4 : (e.k == 4) = false := by simp [hk]
  have k7 : (e.k == 7) = false := by simp [hk]
  have k8 : (e.k == 8) = false := by simp [hk]
  have k9 : (e.k == 9) = false := by simp [hk]
  have k14 : (e.k == 14) = false := by simp [hk]
  have k13 : (e.k == 13) = false := by simp [hk]
  have k13n : (e.k != 13) = true := by simp [hk]
  have HKK := Aid.hid hk
  clear hk
  go_enter Try.func31, Try.ntmps31
  try simp only [List.append_eq, List.cons_append, List.nil_append]
  go_wp2_with fail
  clear hW
  refine (args_is e.k (0) W (by simp [Ty.args, HKK.out])).mono ?_; rintro _ w0 ⟨rfl, rfl⟩
  by_cases hlen : e.args.length = 0
  · have hl2 : ((e.args.length : Int) != 0) = false := by simp [hlen]
    have HLEN := Aid.hid hlen
    clear hlen
    have hr : Ty.named e.k (p.var e.name) (Ty.hd (e.args.map (Ty.expr p))) = (t, c) := by have := HR.out; simpa [Ty.exprG, Ty.args, HKK.out, HLEN.out] using this
    have HC := Aid.hid (named_is f B b p a e _ t c W (fun _ => absurd ‹e.k = 6› (by rw [HKK.out]; decide)) rfl hr (HH.out.below K0.out) (HE.out.below K0.out HH.out.le))
    clear hr
    go_wp2_with fail
    refine HC.out.mono ?_; rintro _ w9 ⟨rfl, hb9⟩
    have K9 := Aid.hid (K0.out.trans (hb9.mono K0.out.size))
    have N9 := Aid.hid (N4.out.below hb9 N4.out.lt)
    clear hb9
    go_wp2_with (refine wpList_store_row rfl 36 _ _ rfl (w.heap.size + 1) _ rfl rfl 36 _ (N9.out) (by kernel_rfl) rfl (by simp [Value.oneCell']) ?_)
    refine bodyPost_ret (v := _) (results_row2 rfl _ _ (w.heap.size + 1) 36 _ (0, 0) _ _ rfl rfl (row_has (N9.out)) Try.underlying36 rfl (by kernel_rfl)) rfl ⟨rfl, row_below (K9.out) (by omega) _⟩
  · have hl2 : ((e.args.length : Int) != 0) = true := bne_iff_ne.2 (fun h => hlen (by omega))
    obtain ⟨rfl, rfl⟩ : Ty.none_ = t ∧ 14 = c := by
      have := HR.out
      rw [Ty.exprG, if_pos (Or.inr ⟨by rw [List.length_map, show Ty.args e.k = 0 by simp [Ty.args, HKK.out]]; omega, by rw [HKK.out]; decide⟩)] at this
      simpa using this
    clear hlen
    go_wp2_with fail
    refine (wrong_x 14 _).mono ?_; rintro _ w8 ⟨rfl, hb8⟩
    have HZ8 := Aid.hid ((N4.out).below hb8 (N4.out).lt)
    have KW8 := Aid.hid ((K0.out).trans (hb8.mono (K0.out).size))
    clear hb8
    go_wp2_with (refine wpList_store_row rfl 36 _ _ rfl (w.heap.size + 1) _ rfl rfl 36 _ (HZ8.out) (by kernel_rfl) rfl (by simp [Value.oneCell']) ?_)
    refine bodyPost_ret (v := _) (results_row2 rfl _ _ (w.heap.size + 1) 36 _ (0, 0) _ _ rfl rfl (row_has (HZ8.out)) Try.underlying36 rfl (by kernel_rfl)) rfl ⟨rfl, row_below (KW8.out) (by omega) _⟩

set_option maxRecDepth 100000 in
set_option maxHeartbeats 4000000 in
theorem expr_11 (f B b : Nat) (p : Pl) (a : Pa) (e : Ex) (hX : ∀ x ∈ e.args, ExOK f B b p a x) (hlim : e.args.length ≤ 1000000000) (w : World) (t : Ty) (c : Int) (hr : Ty.expr p e = (t, c)) (h : PlAt w B b p a) (he : ExsAt (f + 1) w B e.A e.args) (hk : e.k = 11) :
    Calls Try.prog 31 #[.pointer (some ⟨b, 0, none⟩), .agg #[.int .i64 e.k, .int .i64 e.n, .string e.name, .string e.what, .slice e.A e.args.length e.c]] w fun r w' => r = .returned (.tuple #[.agg #[.int .i64 t.k, .int .i64 t.lo, .int .i64 t.hi, .string t.name], .int .i64 c]) ∧ Below w.heap.size w w' := by
  obtain ⟨n3, n4, k0⟩ := two_new w [.int .i64 e.k, .int .i64 e.n, .string e.name, .string e.what, .slice e.A e.args.length e.c] [.int .i64 0, .int .i64 0, .int .i64 0, .string ⟨#[]⟩] 29 36
  rw [Ty.expr_eq] at hr
  have HR := Aid.hid hr
  have HH := Aid.hid h
  have HE := Aid.hid he
  have HX := Aid.hid hX
  obtain ⟨W, hW⟩ : ∃ W, (w.alloc (.cells #[.int .i64 e.k, .int .i64 e.n, .string e.name, .string e.what, .slice e.A e.args.length e.c] 29)).alloc (.cells #[.int .i64 0, .int .i64 0, .int .i64 0, .string ⟨#[]⟩] 36) = W := ⟨_, rfl⟩
  rw [hW] at n3 n4 k0
  have b0 := n3.cell 0 _ rfl
  have b1 := n3.cell 1 _ rfl
  have b2 := n3.cell 2 _ rfl
  have b3 := n3.cell 3 _ rfl
  have b4 := n3.cell 4 _ rfl
  have l3 := n3.lt
  have N4 := Aid.hid n4; have K0 := Aid.hid k0
  have HLIM := Aid.hid hlim
  clear hX hr h he n3 n4 k0 hlim
  have k1 : (e.k == 1) = false := by simp [hk]
  have k2 : (e.k == 2) = false := by simp [hk]
  have k3 : (e.k == 3) = false := by simp [hk]
  have k4 : (e.k == 4) = false := by simp [hk]
  have k7 : (e.k == 7) = false := by simp [hk]
  have k8 : (e.k == 8) = false := by simp [hk]
  have k9 : (e.k == 9) = false := by simp [hk]
  have k14 : (e.k == 14) = false := by simp [hk]
  have k13 : (e.k == 13) = false := by simp [hk]
  have k13n : (e.k != 13) = true := by simp [hk]
  have HKK := Aid.hid hk
  clear hk
  go_enter Try.func31, Try.ntmps31
  try simp only [List.append_eq, List.cons_append, List.nil_append]
  go_wp2_with fail
  clear hW
  refine (args_is e.k (0) W (by simp [Ty.args, HKK.out])).mono ?_; rintro _ w0 ⟨rfl, rfl⟩
  by_cases hlen : e.args.length = 0
  · have hl2 : ((e.args.length : Int) != 0) = false := by simp [hlen]
    have HLEN := Aid.hid hlen
    clear hlen
    have hr : Ty.named e.k (p.var e.name) (Ty.hd (e.args.map (Ty.expr p))) = (t, c) := by have := HR.out; simpa [Ty.exprG, Ty.args, HKK.out, HLEN.out] using this
    have HC := Aid.hid (named_is f B b p a e _ t c W (fun _ => absurd ‹e.k = 6› (by rw [HKK.out]; decide)) rfl hr (HH.out.below K0.out) (HE.out.below K0.out HH.out.le))
    clear hr
    go_wp2_with fail
    refine HC.out.mono ?_; rintro _ w9 ⟨rfl, hb9⟩
    have K9 := Aid.hid (K0.out.trans (hb9.mono K0.out.size))
    have N9 := Aid.hid (N4.out.below hb9 N4.out.lt)
    clear hb9
    go_wp2_with (refine wpList_store_row rfl 36 _ _ rfl (w.heap.size + 1) _ rfl rfl 36 _ (N9.out) (by kernel_rfl) rfl (by simp [Value.oneCell']) ?_)
    refine bodyPost_ret (v := _) (results_row2 rfl _ _ (w.heap.size + 1) 36 _ (0, 0) _ _ rfl rfl (row_has (N9.out)) Try.underlying36 rfl (by kernel_rfl)) rfl ⟨rfl, row_below (K9.out) (by omega) _⟩
  · have hl2 : ((e.args.length : Int) != 0) = true := bne_iff_ne.2 (fun h => hlen (by omega))
    obtain ⟨rfl, rfl⟩ : Ty.none_ = t ∧ 14 = c := by
      have := HR.out
      rw [Ty.exprG, if_pos (Or.inr ⟨by rw [List.length_map, show Ty.args e.k = 0 by simp [Ty.args, HKK.out]]; omega, by rw [HKK.out]; decide⟩)] at this
      simpa using this
    clear hlen
    go_wp2_with fail
    refine (wrong_x 14 _).mono ?_; rintro _ w8 ⟨rfl, hb8⟩
    have HZ8 := Aid.hid ((N4.out).below hb8 (N4.out).lt)
    have KW8 := Aid.hid ((K0.out).trans (hb8.mono (K0.out).size))
    clear hb8
    go_wp2_with (refine wpList_store_row rfl 36 _ _ rfl (w.heap.size + 1) _ rfl rfl 36 _ (HZ8.out) (by kernel_rfl) rfl (by simp [Value.oneCell']) ?_)
    refine bodyPost_ret (v := _) (results_row2 rfl _ _ (w.heap.size + 1) 36 _ (0, 0) _ _ rfl rfl (row_has (HZ8.out)) Try.underlying36 rfl (by kernel_rfl)) rfl ⟨rfl, row_below (KW8.out) (by omega) _⟩

end Go.Proofs.Ytmhdcehpddbjaaa
