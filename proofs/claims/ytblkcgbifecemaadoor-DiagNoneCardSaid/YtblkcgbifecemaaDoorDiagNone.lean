/- The law DiagNone. -/
import Derived.Test.YtblkcgbifecemaaDoorErrAwake
namespace Go.Proofs.YtblkcgbifecemaaDoor
open Go.RowKit Go.Extern.Stop Go.Stop Go.Extern

theorem errorsNew_er (s : ByteArray) (w : World) :
    Calls Tryd.prog 19 #[.string s] w fun e w' => ∃ b, e = .returned (.iface 65 (.pointer (some ⟨b, 0, none⟩))) ∧ (Er.es b s).At w' ∧ Below w.heap.size w w' := by
  go_enter Tryd.func19, Tryd.ntmps19
  go_wp2_with fail
  go_ret
  exact ⟨w.heap.size, rfl, Aid.Has.new w [.string s] 67, (Below.refl _ _).alloc (Nat.le_refl _) _⟩
set_option maxHeartbeats 2000000 in
theorem chain_none (E : Er) (w : World) (hf : E.first = none) (hg : Door w) (hE : E.At w) :
    Calls Tryd.prog 11 #[E.v] w fun e w' => e = .returned (.slice none 0 0) ∧ Below w.heap.size w w' := by
  have hc := first_none E w hf hg hE
  clear hf hg hE
  go_enter Tryd.func11, Tryd.ntmps11
  try simp only [List.append_eq, List.cons_append, List.nil_append]
  go_wp2_with fail
  refine hc.mono ?_; rintro e w' ⟨rfl, hb⟩
  go_wp2_with fail
  refine wp_loop_rounds 1 ?_
  rw [rounds_succ]
  go_wp2_with fail
  go_ret
  exact ⟨rfl, hb⟩
set_option maxHeartbeats 1000000 in
theorem is_none_any (w : World) (bt : Nat) (c : Int) (ht : (Er.own bt c (-1) .nil).At w) :
    Calls Tryd.prog 22 #[.pointer none, .iface 46 (.pointer (some ⟨bt, 0, none⟩))] w fun e w' => e = .returned (.bool false) ∧ ∃ n, w' = w.drewN n := by
  have ta := Er.toE
  clear ht
  go_enter Tryd.func22, Tryd.ntmps22
  try simp only [List.append_eq, List.cons_append, List.nil_append]
  go_wp2_with fail
  go_quiet (fail)
  go_wp2_with fail
  go_ret
  exact ⟨rfl, _, rfl⟩
set_option maxRecDepth 100000 in
set_option maxHeartbeats 4000000 in
theorem diagNone_any (c a : Int) (s : ByteArray) (w : World) (hg : Door w) :
    Calls Tryd.prog 6 #[.int .i64 c, .int .i64 a, .string s] w fun e w' => e = .returned (.bool true) ∧ Below w.heap.size w w' := by
  have HG := Aid.hid hg
  clear hg
  by_cases hs : (100 : Int) < (s.size : Int)
  · go_enter Tryd.func6, Tryd.ntmps6
    try simp only [List.append_eq, List.cons_append, List.nil_append]
    go_wp2_with fail
    refine (awake_any _ HG.out).mono ?_; rintro e w1 ⟨rfl, hb⟩
    go_wp2_with fail
    go_ret
    exact ⟨rfl, hb⟩
  · have hs2 : decide ((100 : Int) < (s.size : Int)) = false := by simpa using hs
    go_enter Tryd.func6, Tryd.ntmps6
    try simp only [List.append_eq, List.cons_append, List.nil_append]
    go_wp2_with fail
    refine (find_none .nil _ rfl HG.out trivial).mono ?_; rintro e w1 ⟨rfl, hb1⟩
    have B1 := Aid.hid hb1
    clear hb1
    go_wp2_with fail
    refine (errorsNew_er s _).mono ?_; rintro e w2 ⟨b2, rfl, hE2, hb2⟩
    have H2 := Aid.hid hE2
    have B2 := Aid.hid (B1.out.trans (hb2.mono B1.out.size))
    clear hE2 hb2
    go_wp2_with fail
    refine (find_none (.es b2 s) _ rfl (HG.out.below B2.out) H2.out).mono ?_; rintro e w3 ⟨rfl, hb3⟩
    have B3 := Aid.hid (B2.out.trans (hb3.mono B2.out.size))
    clear hb3
    go_wp2_with fail
    refine (wrap_nil c a _).mono ?_; rintro e w' ⟨rfl, rfl⟩
    go_wp2_with fail
    refine (errorsNew_er s _).mono ?_; rintro e w4 ⟨b4, rfl, hE4, hb4⟩
    have H4 := Aid.hid hE4
    have B4 := Aid.hid (B3.out.trans (hb4.mono B3.out.size))
    clear hE4 hb4
    go_wp2_with fail
    refine (chain_none (.es b4 s) _ rfl (HG.out.below B4.out) H4.out).mono ?_; rintro e w5 ⟨rfl, hb5⟩
    have B5 := Aid.hid (B4.out.trans (hb5.mono B4.out.size))
    clear hb5
    go_wp2_with fail
    refine (error_fine _).mono ?_; rintro e w' ⟨rfl, rfl⟩
    go_wp2_with fail
    refine (unwrap_none _).mono ?_; rintro e w' ⟨rfl, rfl⟩
    go_wp2_with fail
    refine (of_er c _).mono ?_; rintro e w6 ⟨b6, rfl, _, hE6, hb6⟩
    have H6 := Aid.hid hE6
    have B6 := Aid.hid (B5.out.trans (hb6.mono B5.out.size))
    clear hE6 hb6
    go_wp2_with fail
    refine (is_none_any _ b6 c H6.out).mono ?_; rintro e w' ⟨rfl, n, rfl⟩
    have B7 := Aid.hid (below_drewN B6.out n)
    go_wp2_with fail
    refine (errorsNew_er s _).mono ?_; rintro e w8 ⟨b8, rfl, hE8, hb8⟩
    have H8 := Aid.hid hE8
    have B8 := Aid.hid (B7.out.trans (hb8.mono B7.out.size))
    clear hE8 hb8
    go_wp2_with fail
    refine (of_is (.es b8 s) c false rfl _ H8.out).mono ?_; rintro e w9 ⟨t9, rfl, hb9, HI9⟩
    go_wp2_with fail
    refine HI9.out.mono ?_; rintro e wa ⟨rfl, hba⟩
    have Ba := Aid.hid ((B8.out.trans (hb9.mono B8.out.size)).trans (hba.mono (Nat.le_trans B8.out.size hb9.size)))
    clear hb9 hba HI9
    go_wp2_with fail
    refine (awake_any _ (HG.out.below Ba.out)).mono ?_; rintro e wc ⟨rfl, hbc⟩
    go_wp2_with fail
    go_ret
    exact ⟨rfl, Ba.out.trans (hbc.mono Ba.out.size)⟩
end Go.Proofs.YtblkcgbifecemaaDoor
