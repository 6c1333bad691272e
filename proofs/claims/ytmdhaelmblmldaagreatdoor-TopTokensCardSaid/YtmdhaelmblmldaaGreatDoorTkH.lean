/- syntax.wrapped of an error of tokens: none, or one of package diag that wraps none. -/
import Derived.Test.YtmdhaelmblmldaaGreatDoorTkG
namespace Go.Proofs.YtmdhaelmblmldaaGreatDoor
set_option linter.constructorNameAsVariable false
set_option linter.unusedVariables false
set_option linter.unusedSimpArgs false
open Go.RowKit Go.Extern.Stop Go.Stop Go.Extern
set_option maxHeartbeats 400000 in
theorem newPl (c a : Int) (w : World) :
    Calls Tryz.prog 49 #[.int .i64 c, .int .i64 a] w fun e w' => e = .returned (.iface 82 (.pointer (some ⟨w.heap.size, 0, none⟩))) ∧ w' = w.alloc (.cells #[.int .i64 c, .int .i64 a, .nilIface] 87) := by
  go_enter Tryz.func49, Tryz.ntmps49
  go_wp2_with fail
  go_ret
  exact ⟨rfl, rfl⟩
theorem ofPl (c : Int) (w : World) :
    Calls Tryz.prog 243 #[.int .i64 c] w fun e w' => e = .returned (.iface 82 (.pointer (some ⟨w.heap.size, 0, none⟩))) ∧ w' = w.alloc (.cells #[.int .i64 c, .int .i64 (-1), .nilIface] 87) := by
  go_enter Tryz.func243, Tryz.ntmps243
  go_wp2_with fail
  refine (newPl c (-1) w).mono ?_; rintro e w' ⟨rfl, rfl⟩
  go_wp2_with fail
  go_ret
  exact ⟨rfl, rfl⟩
theorem wrapPl (t : TypeId) (x : Value) (c a : Int) (w : World) :
    Calls Tryz.prog 244 #[.iface t x, .int .i64 c, .int .i64 a] w fun e w' => e = .returned (.iface 82 (.pointer (some ⟨w.heap.size, 0, none⟩))) ∧ w' = w.alloc (.cells #[.int .i64 c, .int .i64 a, .iface t x] 87) := by
  go_enter Tryz.func244, Tryz.ntmps244
  go_wp2_with fail
  go_ret
  exact ⟨rfl, rfl⟩
theorem Tk.Has.ofAid {w : World} {b : Nat} {xs : List Value} {t : TypeId} (h : Aid.Has w b xs t) : Tk.Has w b 0 xs :=
  ⟨h.lt, ⟨_, _, _, h, by simp⟩, fun i v e => by rw [Nat.zero_add]; exact h.cell i v e⟩
theorem Tk.Has.at {w : World} {b o : Nat} {k a : Int} {l : List Value} (h : Tk.Has w b o (.int .i64 k :: .int .i64 a :: l)) : (Er.own b o k a).At w := ⟨h.lt, h.raw, fun i v e => h.cell i v (by match i, e with | 0, e => exact e | 1, e => exact e | i + 2, e => simp at e)⟩
theorem Is.ofNil (bt : Nat) (w : World) :
    Calls Tryz.prog 242 #[.nilIface, .iface 82 (.pointer (some ⟨bt, 0, none⟩))] w fun e w' => e = .returned (.bool false) ∧ Below w.heap.size w w' := is_nil _ w
set_option maxRecDepth 100000 in
set_option maxHeartbeats 8000000 in
theorem wrapped_some (b o : Nat) (k a : Int) (hk : k = 1 ∨ k = 2 ∨ k = 5) (W : World) (hD : Door W) (hE : Tk.Has W b o [.int .i64 k, .int .i64 a, .nilIface]) :
    Calls Tryz.prog 126 #[.iface 82 (.pointer (some ⟨b, o, none⟩))] W fun e w' => ∃ w1, e = .returned (.iface 82 (.pointer (some ⟨w1.heap.size, 0, none⟩))) ∧ Below W.heap.size W w1 ∧ w' = w1.alloc (.cells #[.int .i64 k, .int .i64 a, .iface 82 (.pointer (some ⟨b, o, none⟩))] 87) := by
  have DD := Aid.hid hD
  have HE := Aid.hid hE
  have HK := Aid.hid hk
  obtain ⟨W2, hW2⟩ : ∃ W2, W.alloc (.cells #[.int .i64 1, .int .i64 2, .int .i64 5] 3) = W2 := ⟨_, rfl⟩
  have b2 : Hid (Below W.heap.size W W2) := Aid.hid (hW2 ▸ (Below.refl _ _).alloc (Nat.le_refl _) _)
  have l2 : Hid (Aid.Has W2 W.heap.size [.int .i64 1, .int .i64 2, .int .i64 5] 3) := Aid.hid (hW2 ▸ Aid.Has.new W [.int .i64 1, .int .i64 2, .int .i64 5] 3)
  have H2 := Aid.hid hW2
  clear hD hE hk hW2
  go_enter Tryz.func126, Tryz.ntmps126
  try simp only [List.append_eq, List.cons_append, List.nil_append]
  go_wp2_with fail
  rw [H2.out]
  go_loopg [10] 3 (fun n v wr => ∃ i : Nat, v = .int .i64 i ∧ n = 3 - i ∧ Hid (i = 0 ∨ i = 1 ∧ k ≠ 1 ∨ i = 2 ∧ k ≠ 1 ∧ k ≠ 2) ∧ Hid (Below W2.heap.size W2 wr))
  case atStart => exact ⟨0, rfl, rfl, Aid.hid (.inl rfl), Aid.hid (Below.refl _ _)⟩
  case round =>
    obtain ⟨i, rfl, rfl, HI, HB⟩ := hrel
    have HX : Hid (Tk.Has wr b o [.int .i64 k, .int .i64 a, .nilIface]) := Aid.hid ((HE.out.below b2.out).below HB.out)
    have HL : Hid (Aid.Has wr W.heap.size [.int .i64 1, .int .i64 2, .int .i64 5] 3) := Aid.hid (l2.out.below HB.out l2.out.lt)
    have HD : Hid (Door wr) := Aid.hid ((DD.out.below b2.out).below HB.out)
    have BW : Hid (Below W.heap.size W wr) := Aid.hid (b2.out.trans (HB.out.mono b2.out.size))
    have c0 := HL.out.cell 0 _ rfl
    have c1 := HL.out.cell 1 _ rfl
    have c2 := HL.out.cell 2 _ rfl
    have clt := HL.out.lt
    rcases HI.out with rfl | ⟨rfl, hk1⟩ | ⟨rfl, hk1, hk2⟩
    · by_cases hne : k = 1
      · subst hne
        have HW : Hid (Tk.Has (wr.alloc (.cells #[.int .i64 1, .int .i64 (-1), .nilIface] 87)) b o [.int .i64 1, .int .i64 a, .nilIface]) := Aid.hid (HX.out.below ((Below.refl _ _).alloc (Nat.le_refl _) _))
        go_wp2_with fail
        refine (ofPl 1 _).mono ?_; rintro e w2 ⟨rfl, rfl⟩
        go_wp2_with fail
        refine (is_one b o wr.heap.size 0 1 (.int .i64 a) 1 true _ (by decide) HW.out (Tk.Has.ofAid (Aid.Has.new wr [.int .i64 1, .int .i64 (-1), .nilIface] 87)) (Nat.ne_of_lt HX.out.lt) ⟨_, _, (Aid.Has.new wr [.int .i64 1, .int .i64 (-1), .nilIface] 87)⟩).mono ?_; rintro e w3 ⟨rfl, hb3⟩
        have B3 : Hid (Below wr.heap.size wr w3) := Aid.hid (((Below.refl _ wr).alloc (Nat.le_refl _) _).trans (hb3.mono (by simp)))
        have A3 : Hid ((Er.own b o 1 a).At w3) := Aid.hid ((HX.out.below B3.out).at)
        have D3 : Hid (Door w3) := Aid.hid (HD.out.below B3.out)
        clear hb3
        go_wp2_with fail
        refine (find_some (.own b o 1 a) b o 1 a w3 rfl D3.out A3.out).mono ?_; rintro e w4 ⟨rfl, hb4⟩
        have B4 : Hid (Below W.heap.size W w4) := Aid.hid ((BW.out.trans (B3.out.mono BW.out.size)).trans (hb4.mono ((BW.out.trans (B3.out.mono BW.out.size))).size))
        clear hb4
        go_wp2_with fail
        refine (wrapPl _ _ _ _ _).mono ?_; rintro e w5 ⟨rfl, rfl⟩
        go_wp2_with fail
        go_ret
        exact ⟨w4, rfl, B4.out, rfl⟩
      · have HW : Hid (Tk.Has (wr.alloc (.cells #[.int .i64 1, .int .i64 (-1), .nilIface] 87)) b o [.int .i64 k, .int .i64 a, .nilIface]) := Aid.hid (HX.out.below ((Below.refl _ _).alloc (Nat.le_refl _) _))
        have HN := Aid.hid hne
        go_wp2_with fail
        refine (ofPl 1 _).mono ?_; rintro e w2 ⟨rfl, rfl⟩
        go_wp2_with fail
        refine (is_one b o wr.heap.size 0 k (.int .i64 a) 1 false _ (by simp; exact fun e => HN.out e.symm) HW.out (Tk.Has.ofAid (Aid.Has.new wr [.int .i64 1, .int .i64 (-1), .nilIface] 87)) (Nat.ne_of_lt HX.out.lt) ⟨_, _, (Aid.Has.new wr [.int .i64 1, .int .i64 (-1), .nilIface] 87)⟩).mono ?_; rintro e w3 ⟨rfl, hb3⟩
        have B3 : Hid (Below W2.heap.size W2 w3) := Aid.hid ((HB.out.trans (((Below.refl _ wr).alloc (Nat.le_refl _) _).mono HB.out.size)).trans (hb3.mono (by have := HB.out.size; simp; omega)))
        clear hb3
        go_wp2_with fail
        go_roundg 2
        case rel => exact ⟨1, rfl, rfl, Aid.hid (.inr (.inl ⟨rfl, hne⟩)), B3⟩
        case measure => decide
    · by_cases hne : k = 2
      · subst hne
        have HW : Hid (Tk.Has (wr.alloc (.cells #[.int .i64 2, .int .i64 (-1), .nilIface] 87)) b o [.int .i64 2, .int .i64 a, .nilIface]) := Aid.hid (HX.out.below ((Below.refl _ _).alloc (Nat.le_refl _) _))
        go_wp2_with fail
        refine (ofPl 2 _).mono ?_; rintro e w2 ⟨rfl, rfl⟩
        go_wp2_with fail
        refine (is_one b o wr.heap.size 0 2 (.int .i64 a) 2 true _ (by decide) HW.out (Tk.Has.ofAid (Aid.Has.new wr [.int .i64 2, .int .i64 (-1), .nilIface] 87)) (Nat.ne_of_lt HX.out.lt) ⟨_, _, (Aid.Has.new wr [.int .i64 2, .int .i64 (-1), .nilIface] 87)⟩).mono ?_; rintro e w3 ⟨rfl, hb3⟩
        have B3 : Hid (Below wr.heap.size wr w3) := Aid.hid (((Below.refl _ wr).alloc (Nat.le_refl _) _).trans (hb3.mono (by simp)))
        have A3 : Hid ((Er.own b o 2 a).At w3) := Aid.hid ((HX.out.below B3.out).at)
        have D3 : Hid (Door w3) := Aid.hid (HD.out.below B3.out)
        clear hb3
        go_wp2_with fail
        refine (find_some (.own b o 2 a) b o 2 a w3 rfl D3.out A3.out).mono ?_; rintro e w4 ⟨rfl, hb4⟩
        have B4 : Hid (Below W.heap.size W w4) := Aid.hid ((BW.out.trans (B3.out.mono BW.out.size)).trans (hb4.mono ((BW.out.trans (B3.out.mono BW.out.size))).size))
        clear hb4
        go_wp2_with fail
        refine (wrapPl _ _ _ _ _).mono ?_; rintro e w5 ⟨rfl, rfl⟩
        go_wp2_with fail
        go_ret
        exact ⟨w4, rfl, B4.out, rfl⟩
      · have HW : Hid (Tk.Has (wr.alloc (.cells #[.int .i64 2, .int .i64 (-1), .nilIface] 87)) b o [.int .i64 k, .int .i64 a, .nilIface]) := Aid.hid (HX.out.below ((Below.refl _ _).alloc (Nat.le_refl _) _))
        have HN := Aid.hid hne
        go_wp2_with fail
        refine (ofPl 2 _).mono ?_; rintro e w2 ⟨rfl, rfl⟩
        go_wp2_with fail
        refine (is_one b o wr.heap.size 0 k (.int .i64 a) 2 false _ (by simp; exact fun e => HN.out e.symm) HW.out (Tk.Has.ofAid (Aid.Has.new wr [.int .i64 2, .int .i64 (-1), .nilIface] 87)) (Nat.ne_of_lt HX.out.lt) ⟨_, _, (Aid.Has.new wr [.int .i64 2, .int .i64 (-1), .nilIface] 87)⟩).mono ?_; rintro e w3 ⟨rfl, hb3⟩
        have B3 : Hid (Below W2.heap.size W2 w3) := Aid.hid ((HB.out.trans (((Below.refl _ wr).alloc (Nat.le_refl _) _).mono HB.out.size)).trans (hb3.mono (by have := HB.out.size; simp; omega)))
        clear hb3
        go_wp2_with fail
        go_roundg 1
        case rel => exact ⟨2, rfl, rfl, Aid.hid (.inr (.inr ⟨rfl, hk1, hne⟩)), B3⟩
        case measure => decide
    · by_cases hne : k = 5
      · subst hne
        have HW : Hid (Tk.Has (wr.alloc (.cells #[.int .i64 5, .int .i64 (-1), .nilIface] 87)) b o [.int .i64 5, .int .i64 a, .nilIface]) := Aid.hid (HX.out.below ((Below.refl _ _).alloc (Nat.le_refl _) _))
        go_wp2_with fail
        refine (ofPl 5 _).mono ?_; rintro e w2 ⟨rfl, rfl⟩
        go_wp2_with fail
        refine (is_one b o wr.heap.size 0 5 (.int .i64 a) 5 true _ (by decide) HW.out (Tk.Has.ofAid (Aid.Has.new wr [.int .i64 5, .int .i64 (-1), .nilIface] 87)) (Nat.ne_of_lt HX.out.lt) ⟨_, _, (Aid.Has.new wr [.int .i64 5, .int .i64 (-1), .nilIface] 87)⟩).mono ?_; rintro e w3 ⟨rfl, hb3⟩
        have B3 : Hid (Below wr.heap.size wr w3) := Aid.hid (((Below.refl _ wr).alloc (Nat.le_refl _) _).trans (hb3.mono (by simp)))
        have A3 : Hid ((Er.own b o 5 a).At w3) := Aid.hid ((HX.out.below B3.out).at)
        have D3 : Hid (Door w3) := Aid.hid (HD.out.below B3.out)
        clear hb3
        go_wp2_with fail
        refine (find_some (.own b o 5 a) b o 5 a w3 rfl D3.out A3.out).mono ?_; rintro e w4 ⟨rfl, hb4⟩
        have B4 : Hid (Below W.heap.size W w4) := Aid.hid ((BW.out.trans (B3.out.mono BW.out.size)).trans (hb4.mono ((BW.out.trans (B3.out.mono BW.out.size))).size))
        clear hb4
        go_wp2_with fail
        refine (wrapPl _ _ _ _ _).mono ?_; rintro e w5 ⟨rfl, rfl⟩
        go_wp2_with fail
        go_ret
        exact ⟨w4, rfl, B4.out, rfl⟩
      · exact absurd HK.out (by omega)
set_option maxRecDepth 100000 in
set_option maxHeartbeats 8000000 in
theorem wrapped_nil (W : World) :
    Calls Tryz.prog 126 #[.nilIface] W fun e w' => e = .returned .nilIface ∧ Below W.heap.size W w' := by
  obtain ⟨W2, hW2⟩ : ∃ W2, W.alloc (.cells #[.int .i64 1, .int .i64 2, .int .i64 5] 3) = W2 := ⟨_, rfl⟩
  have b2 : Hid (Below W.heap.size W W2) := Aid.hid (hW2 ▸ (Below.refl _ _).alloc (Nat.le_refl _) _)
  have l2 : Hid (Aid.Has W2 W.heap.size [.int .i64 1, .int .i64 2, .int .i64 5] 3) := Aid.hid (hW2 ▸ Aid.Has.new W [.int .i64 1, .int .i64 2, .int .i64 5] 3)
  have H2 := Aid.hid hW2
  clear hW2
  go_enter Tryz.func126, Tryz.ntmps126
  try simp only [List.append_eq, List.cons_append, List.nil_append]
  go_wp2_with fail
  rw [H2.out]
  go_loopg [10] 3 (fun n v wr => ∃ i : Nat, v = .int .i64 i ∧ n = 3 - i ∧ Hid (i = 0 ∨ i = 1 ∨ i = 2 ∨ i = 3) ∧ Hid (Below W2.heap.size W2 wr))
  case atStart => exact ⟨0, rfl, rfl, Aid.hid (.inl rfl), Aid.hid (Below.refl _ _)⟩
  case round =>
    obtain ⟨i, rfl, rfl, HI, HB⟩ := hrel
    have HL : Hid (Aid.Has wr W.heap.size [.int .i64 1, .int .i64 2, .int .i64 5] 3) := Aid.hid (l2.out.below HB.out l2.out.lt)
    have BW : Hid (Below W.heap.size W wr) := Aid.hid (b2.out.trans (HB.out.mono b2.out.size))
    have c0 := HL.out.cell 0 _ rfl
    have c1 := HL.out.cell 1 _ rfl
    have c2 := HL.out.cell 2 _ rfl
    have clt := HL.out.lt
    rcases HI.out with rfl | rfl | rfl | rfl
    · go_wp2_with fail
      refine (ofPl 1 _).mono ?_; rintro e w2 ⟨rfl, rfl⟩
      go_wp2_with fail
      refine (Is.ofNil wr.heap.size _).mono ?_; rintro e w3 ⟨rfl, hb3⟩
      have B3 : Hid (Below W2.heap.size W2 w3) := Aid.hid ((HB.out.trans (((Below.refl _ wr).alloc (Nat.le_refl _) _).mono HB.out.size)).trans (hb3.mono (by have := HB.out.size; simp; omega)))
      clear hb3
      go_wp2_with fail
      go_roundg 2
      case rel => exact ⟨1, rfl, rfl, Aid.hid (.inr (.inl rfl)), B3⟩
      case measure => decide
    · go_wp2_with fail
      refine (ofPl 2 _).mono ?_; rintro e w2 ⟨rfl, rfl⟩
      go_wp2_with fail
      refine (Is.ofNil wr.heap.size _).mono ?_; rintro e w3 ⟨rfl, hb3⟩
      have B3 : Hid (Below W2.heap.size W2 w3) := Aid.hid ((HB.out.trans (((Below.refl _ wr).alloc (Nat.le_refl _) _).mono HB.out.size)).trans (hb3.mono (by have := HB.out.size; simp; omega)))
      clear hb3
      go_wp2_with fail
      go_roundg 1
      case rel => exact ⟨2, rfl, rfl, Aid.hid (.inr (.inr (.inl rfl))), B3⟩
      case measure => decide
    · go_wp2_with fail
      refine (ofPl 5 _).mono ?_; rintro e w2 ⟨rfl, rfl⟩
      go_wp2_with fail
      refine (Is.ofNil wr.heap.size _).mono ?_; rintro e w3 ⟨rfl, hb3⟩
      have B3 : Hid (Below W2.heap.size W2 w3) := Aid.hid ((HB.out.trans (((Below.refl _ wr).alloc (Nat.le_refl _) _).mono HB.out.size)).trans (hb3.mono (by have := HB.out.size; simp; omega)))
      clear hb3
      go_wp2_with fail
      go_roundg 0
      case rel => exact ⟨3, rfl, rfl, Aid.hid (.inr (.inr (.inr rfl))), B3⟩
      case measure => decide
    · go_wp2_with fail
      go_ret
      exact ⟨rfl, BW.out⟩
end Go.Proofs.YtmdhaelmblmldaaGreatDoor
