/- Chapter 1's awake, as a walk. -/
import Derived.Test.YtblkcgbifecemaaDoorErrText
namespace Go.Proofs.YtblkcgbifecemaaDoor
open Go.RowKit Go.Extern.Stop Go.Stop Go.Extern

theorem wrap_er (E : Er) (hn : E ≠ .nil) (c a : Int) (w : World) (hE : E.At w) :
    Calls Tryd.prog 16 #[E.v, .int .i64 c, .int .i64 a] w fun e w' => ∃ b, e = .returned (.iface 46 (.pointer (some ⟨b, 0, none⟩))) ∧ w.heap.size ≤ b ∧ (Er.own b c a E).At w' ∧ Below w.heap.size w w' := by
  obtain ⟨t, x, hv⟩ := Er.iface_of hn
  rw [hv]
  refine (wrap_some t x c a w).mono ?_
  rintro e w' ⟨rfl, rfl⟩
  have hb : Below w.heap.size w (w.alloc (.cells #[.int .i64 c, .int .i64 a, .iface t x] 52)) := (Below.refl _ _).alloc (Nat.le_refl _) _
  exact ⟨w.heap.size, rfl, Nat.le_refl _, ⟨hv ▸ Aid.Has.new w [.int .i64 c, .int .i64 a, .iface t x] 52, hE.below hb⟩, hb⟩
theorem dig (n : Nat) (d : UInt8) (h : Lib.decDigits n = [d]) (hn : n < 100) (W : World) : Tells W (n : Int) ⟨#[d]⟩ := by
  have := Tells.small W n hn
  rwa [h] at this
theorem dig3 : Lib.decDigits 3 = [51] := by unfold Lib.decDigits; rfl
theorem dig5 : Lib.decDigits 5 = [53] := by unfold Lib.decDigits; rfl
theorem dig7 : Lib.decDigits 7 = [55] := by unfold Lib.decDigits; rfl
theorem dig9 : Lib.decDigits 9 = [57] := by unfold Lib.decDigits; rfl
/-- errors.Is against what stands for a code: the two calls. -/
theorem of_is (E : Er) (c : Int) (r : Bool) (hr : E.has c = r) (w : World) (hE : E.At w) : Calls Tryd.prog 9 #[.int .i64 c] w fun e w' => ∃ b, e = .returned (.iface 46 (.pointer (some ⟨b, 0, none⟩))) ∧ Below w.heap.size w w' ∧
    Hid (Calls Tryd.prog 8 #[E.v, .iface 46 (.pointer (some ⟨b, 0, none⟩))] w' fun e w'' => e = .returned (.bool r) ∧ Below w'.heap.size w' w'') :=
  (of_er c w).mono fun _ w' ⟨b, he, h1, h2, hb⟩ => ⟨b, he, hb, Aid.hid (is_er E b c r w' hr (hE.below hb) h2 (hE.no h1))⟩
set_option maxRecDepth 100000 in
set_option maxHeartbeats 4000000 in
theorem awake_any (w : World) (hg : Door w) :
    Calls Tryd.prog 10 #[] w fun e w' => e = .returned (.bool true) ∧ Below w.heap.size w w' := by
  have HG := Aid.hid hg
  clear hg
  go_enter Tryd.func10, Tryd.ntmps10
  try simp only [List.append_eq, List.cons_append, List.nil_append]
  go_wp2_with fail
  refine (new_er 3 7 _).mono ?_; rintro e w1 ⟨b1, rfl, _, hE1, hb1⟩
  go_wp2_with fail
  refine (wrap_er (.own b1 3 7 .nil) (by simp) 5 9 _ hE1).mono ?_; rintro e w2 ⟨b2, rfl, _, hE2, hb2⟩
  have H2 := Aid.hid hE2
  have B2 := Aid.hid (hb1.trans (hb2.mono hb1.size))
  clear hE1 hb1 hb2 hE2
  go_wp2_with fail
  refine (find_some (.own b2 5 9 (.own b1 3 7 .nil)) b2 5 9 _ _ rfl (HG.out.below B2.out) H2.out).mono ?_; rintro e w3 ⟨rfl, hb3⟩
  have H3 := Aid.hid (H2.out.below hb3)
  have B3 := Aid.hid (B2.out.trans (hb3.mono B2.out.size))
  clear hb3
  go_wp2_with fail
  refine (of_is _ 3 true rfl _ H3.out).mono ?_; rintro e w4 ⟨t4, rfl, hb4, HI4⟩
  go_wp2_with fail
  refine HI4.out.mono ?_; rintro e w5 ⟨rfl, hb5⟩
  have H5 := Aid.hid ((H3.out.below hb4).below hb5)
  have B5 := Aid.hid ((B3.out.trans (hb4.mono B3.out.size)).trans (hb5.mono (Nat.le_trans B3.out.size hb4.size)))
  clear hb4 hb5 HI4
  go_wp2_with fail
  refine (of_is _ 5 true rfl _ H5.out).mono ?_; rintro e w6 ⟨t6, rfl, hb6, HI6⟩
  go_wp2_with fail
  refine HI6.out.mono ?_; rintro e w7 ⟨rfl, hb7⟩
  have H7 := Aid.hid ((H5.out.below hb6).below hb7)
  have B7 := Aid.hid ((B5.out.trans (hb6.mono B5.out.size)).trans (hb7.mono (Nat.le_trans B5.out.size hb6.size)))
  clear hb6 hb7 HI6
  go_wp2_with fail
  refine (of_is _ 4 false rfl _ H7.out).mono ?_; rintro e w8 ⟨t8, rfl, hb8, HI8⟩
  go_wp2_with fail
  refine HI8.out.mono ?_; rintro e w9 ⟨rfl, hb9⟩
  have H9 := Aid.hid ((H7.out.below hb8).below hb9)
  have B9 := Aid.hid ((B7.out.trans (hb8.mono B7.out.size)).trans (hb9.mono (Nat.le_trans B7.out.size hb8.size)))
  clear hb8 hb9 HI8
  have mE := Er.mError
  go_wp2_with fail
  refine (error_on b2 5 9 b1 3 7 .nil _ ⟨#[53]⟩ ⟨#[57]⟩ _ H9.out (dig 5 53 dig5 (by decide) _) (dig 9 57 dig9 (by decide) _) (by decide) (by decide) (by decide)
    (fun w' hb => error_leaf b1 3 7 ⟨#[51]⟩ ⟨#[55]⟩ w' (H9.out.2.below hb) (dig 3 51 dig3 (by decide) _) (dig 7 55 dig7 (by decide) _) (by decide) (by decide))).mono ?_; rintro e wa ⟨rfl, hba⟩
  have Ba := Aid.hid (B9.out.trans (hba.mono B9.out.size))
  clear hba
  rw [show ((⟨#[99, 111, 100, 101, 32]⟩ : ByteArray) ++ ⟨#[53]⟩ ++ ⟨#[32, 97, 116, 32]⟩ ++ ⟨#[57]⟩ ++ (⟨#[58, 32]⟩ ++ ((⟨#[99, 111, 100, 101, 32]⟩ : ByteArray) ++ ⟨#[51]⟩ ++ ⟨#[32, 97, 116, 32]⟩ ++ ⟨#[55]⟩))) = ⟨#[99, 111, 100, 101, 32, 53, 32, 97, 116, 32, 57, 58, 32, 99, 111, 100, 101, 32, 51, 32, 97, 116, 32, 55]⟩ from rfl]
  go_wp2_with fail
  refine (wrap_nil 1 1 _).mono ?_; rintro e w' ⟨rfl, rfl⟩
  go_wp2_with fail
  go_ret
  exact ⟨rfl, Ba.out⟩
end Go.Proofs.YtblkcgbifecemaaDoor
