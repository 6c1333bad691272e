/- Parts of typing, as walks: kinds, formed, returned. -/
import Derived.Test.YtejifefgmlpclaaGreatTyE
import Derived.Test.YtejifefgmlpclaaGreatInts
import Derived.StillTail
import Derived.StillTailTactics
import Derived.WalkKit
import Derived.WalkSpells
import Derived.WalkLawsBesides
import Derived.LoopTactic
import Derived.Deep.QuietTactic
import Derived.BigQuiet
import Derived.Below
import Derived.Laws.ResultCell
import Derived.Laws.Tables
import Derived.Laws.Rows
import Derived.Deep.Cut
import Derived.KernelRfl
set_option linter.unusedSimpArgs false
set_option linter.unusedVariables false
namespace Go.Proofs.YtejifefgmlpclaaGreat
open Go.RowKit

theorem tdrop_at {α : Type} {l : List α} {k : Nat} {x : α} (h : l[k]? = some x) : l.drop k = x :: l.drop (k + 1) := by
  obtain ⟨h1, h2⟩ := List.getElem?_eq_some_iff.1 h
  rw [← h2, List.getElem_cons_drop h1]
set_option maxRecDepth 100000 in
set_option maxHeartbeats 4000000 in
theorem kinds_is (f B b : Nat) (p : Pl) (a : Pa) (l : List Ex) (ks : List Int) (A KA : Option Addr) (cap kc : Nat) (r : Int) (w : World) (hX : ∀ x ∈ l, ExOK f B b p a x) (hl : l.length = ks.length) (hr : Ty.kindsGo (l.map (Ty.expr p)) ks false = r) (h : PlAt w B b p a) (he : ExsAt (f + 1) w B A l) (hk : IntsAt w w.heap.size KA ks) (hlim : l.length ≤ 1000000000) :
    Calls Tryz.prog 89 #[.pointer (some ⟨b, 0, none⟩), .slice A l.length cap, .slice KA ks.length kc] w fun z w' => z = .returned (.int .i64 r) ∧ Below w.heap.size w w' := by
  have HX := Aid.hid hX
  have HL := Aid.hid hl
  have HR := Aid.hid hr
  have HH := Aid.hid h
  have HE := Aid.hid he
  have HK := Aid.hid hk
  have hB := h.le
  have hkl : ks.length ≤ 1000000000 := by omega
  clear hX hl hr h he hk
  go_enter Tryz.func89, Tryz.ntmps89
  try simp only [List.append_eq, List.cons_append, List.nil_append]
  go_wp2_with fail
  go_loopw [7, 14] (fun vb vi wr => ∃ (k : Nat) (bad : Bool), vi = .int .i64 k ∧ vb = .bool bad ∧ k ≤ ks.length ∧ Hid (Ty.kindsGo ((l.map (Ty.expr p)).drop k) (ks.drop k) bad = r) ∧ Hid (Below w.heap.size w wr)) (fun _ vi _ => ks.length - (intOf vi).toNat)
  case atStart => exact ⟨0, false, rfl, rfl, Nat.zero_le _, HR, Aid.hid (Below.refl _ _)⟩
  case round =>
    obtain ⟨k, bad, rfl, rfl, hk, HG, HB⟩ := hrel
    by_cases hlt : k < ks.length
    · have hlt2 : k < l.length := by have := HL.out; omega
      obtain ⟨x, hx⟩ : ∃ x, l[k]? = some x := ⟨_, List.getElem?_eq_getElem hlt2⟩
      obtain ⟨kd, hkd⟩ : ∃ kd, ks[k]? = some kd := ⟨_, List.getElem?_eq_getElem hlt⟩
      obtain ⟨eb, off, rfl, hebB, hc, hs⟩ := Ex.at1 (HE.out.below HB.out hB) hx
      have c0 := hc 0 _ rfl
      have d1 := hc 1 _ rfl
      have d2 := hc 2 _ rfl
      have d3 := hc 3 _ rfl
      have d4 := hc 4 _ rfl
      simp only [Nat.add_zero] at c0
      obtain ⟨ad, rfl, _, hci⟩ := IntsAt.at_ (show IntsAt wr _ _ _ from Reads.below HK.out HB.out) hlt
      have ck := hci k kd hkd
      obtain ⟨⟨t1, c1⟩, he1⟩ : ∃ q, Ty.expr p x = q := ⟨_, rfl⟩
      have HG2 := Aid.hid (show Ty.kindsGo ((t1, c1) :: (l.map (Ty.expr p)).drop (k + 1)) (kd :: ks.drop (k + 1)) bad = r by
        have := HG.out
        rwa [tdrop_at (x := (t1, c1)) (by simp [hx, he1]), tdrop_at hkd] at this)
      have HC := Aid.hid (HX.out x (List.mem_of_getElem? hx) wr t1 c1 he1 (HH.out.below HB.out) hs)
      clear hc hx hs HG he1 hci hkd
      go_wp2_with fail
      refine HC.out.mono ?_; rintro _ w5 ⟨rfl, hb5⟩
      have K5 := HB.out.trans (hb5.mono HB.out.size)
      have HB5 := Aid.hid (K5.alloc K5.size (.cells #[.int .i64 t1.k, .int .i64 t1.lo, .int .i64 t1.hi, .string t1.name] 44))
      clear hb5 HC c0 d1 d2 d3 d4 ck K5
      by_cases hd : c1 = 0
      · subst hd
        have NX := Aid.hid (show Ty.kindsGo ((l.map (Ty.expr p)).drop (k + 1)) (ks.drop (k + 1)) (bad || decide (t1.k ≠ kd)) = r by
          have := HG2.out
          rw [Ty.kindsGo, if_neg (by simp)] at this
          exact this)
        cases bad
        · obtain ⟨q, hq⟩ : ∃ q, (t1.k != kd) = q := ⟨_, rfl⟩
          have NX := Aid.hid (show Ty.kindsGo ((l.map (Ty.expr p)).drop (k + 1)) (ks.drop (k + 1)) q = r by
            have := NX.out
            rwa [show (false || decide (t1.k ≠ kd)) = q by rw [← hq]; simp [bne, Bool.beq_eq_decide_eq]] at this)
          cases q
          all_goals
            go_wp2_with fail
            go_roundw
            case rel => exact ⟨k + 1, _, by go_num, rfl, by omega, NX, HB5⟩
            case measure => simp [intOf]; omega
        · go_wp2_with fail
          go_roundw
          case rel => exact ⟨k + 1, true, by go_num, rfl, by omega, by simpa using NX, HB5⟩
          case measure => simp [intOf]; omega
      · obtain rfl : c1 = r := by
          have := HG2.out
          rwa [Ty.kindsGo, if_pos hd] at this
        go_wp2_with fail
        go_ret
        exact ⟨rfl, HB5.out⟩
    · have E : (if bad = true then (14 : Int) else 0) = r := by
        have := HG.out
        rw [show ks.drop k = [] from List.drop_eq_nil_of_le (by omega)] at this
        cases hh : (l.map (Ty.expr p)).drop k <;> rw [hh, Ty.kindsGo] at this <;> first | exact this | (intros; contradiction) | skip
      cases bad
      all_goals
        obtain rfl := E
        go_wp2_with fail
        go_ret
        exact ⟨rfl, HB.out⟩
theorem len0 {α : Type} (l : List α) (i : Decidable (l = [])) : ((l.length : Int) == 0) = @decide (l = []) i := by
  by_cases h : l = []
  · subst h; simp
  · have : l.length ≠ 0 := by simpa using h
    rw [decide_eq_false h]; simp; exact h
theorem Fl_drewN {B : Nat} {a w : World} (h : Below B a w) (n : Nat) : Below B a (w.drewN n) := ⟨h.os, h.tape, h.output, h.size, h.block⟩
def Ty.formedI (k : Int) (es : Int) (bs : Int) (ls : List Lb) : Bool :=
  if k = 2 ∨ k = 11 then decide (es = 2) && (decide (bs = 0) && decide ((ls.length : Int) = 0))
  else if k = 8 then decide (es = 2) && (decide (bs = 1) && decide ((ls.length : Int) = 0))
  else if k = 7 then decide (es = 1) && (decide (bs = 1) && decide ((ls.length : Int) = 0))
  else if k = 1 ∨ k = 3 ∨ k = 4 then decide (es = 1) && (decide (bs = 0) && decide ((ls.length : Int) = 0))
  else if k = 5 then decide (1 ≤ es) && (decide (bs = es + 1) && decide ((ls.length : Int) = 0))
  else if k = 6 then !(ls.any fun l => decide (l.xs.length = 0)) && (decide (es = 1) && decide (bs = (ls.length : Int) + 1))
  else if k = 9 then decide (es ≤ 1) && (decide (bs = 0) && decide ((ls.length : Int) = 0))
  else if k = 10 then decide (es = 0) && (decide (bs = 0) && decide ((ls.length : Int) = 0))
  else false
theorem Ty.formed_int (k : Int) (es bs : Nat) (ls : List Lb) : Ty.formed k es bs ls = Ty.formedI k es bs ls := by
  have e : ∀ n m : Nat, decide (n = m) = decide ((n : Int) = (m : Int)) := fun n m => by
    by_cases h : n = m
    · subst h; simp
    · rw [decide_eq_false h, decide_eq_false (by omega)]
  have l : ∀ n m : Nat, decide (n ≤ m) = decide ((n : Int) ≤ (m : Int)) := fun n m => by
    by_cases h : n ≤ m
    · rw [decide_eq_true h, decide_eq_true (by omega)]
    · rw [decide_eq_false h, decide_eq_false (by omega)]
  unfold Ty.formed Ty.formedI
  rw [e es 2, e es 1, e es 0, e bs 0, e bs 1, e bs (es + 1), e bs (ls.length + 1), e ls.length 0, l 1 es, l es 1]
  rfl
set_option maxRecDepth 100000 in
set_option maxHeartbeats 4000000 in
theorem formed1_is (A : Option Addr) (n c : Nat) (w : World) :
    Calls Tryz.prog 85 #[.slice A n c] w fun z w' => z = .returned (.bool ((n : Int) == 0)) ∧ w = w' := by
  go_enter Tryz.func85, Tryz.ntmps85
  try simp only [List.append_eq, List.cons_append, List.nil_append]
  go_wp2_with fail
  go_ret
  exact ⟨rfl, rfl⟩
set_option maxRecDepth 100000 in
set_option maxHeartbeats 4000000 in
theorem indexEmpty_is (ls : List Lb) (A : Option Addr) (B cap : Nat) (w : World) (h : Rows w B 1 A (ls.map Lb.cells)) (hl : ls.length ≤ 9223372036854775807) :
    Calls Tryz.prog 95 #[.slice A ls.length cap, .func (.func 85) #[] #[]] w fun z w' => ∃ i : Int, z = .returned (.int .i64 i) ∧ decide (0 ≤ i) = (ls.any fun l => decide (l.xs.length = 0)) ∧ w = w' := by
  have H := Aid.hid h
  clear h
  go_enter Tryz.func95, Tryz.ntmps95
  try simp only [List.append_eq, List.cons_append, List.nil_append]
  go_wp2_with fail
  go_loopw [8] (fun vi wr => ∃ k : Nat, vi = .int .i64 k ∧ k ≤ ls.length ∧ Hid ((ls.any fun l => decide (l.xs.length = 0)) = ((ls.drop k).any fun l => decide (l.xs.length = 0))) ∧ wr = w) (fun vi _ => ls.length - (intOf vi).toNat)
  case atStart => exact ⟨0, rfl, Nat.zero_le _, Aid.hid (by simp), rfl⟩
  case round =>
    obtain ⟨k, rfl, hk, HK, rfl⟩ := hrel
    by_cases hlt : k < ls.length
    · obtain ⟨b, off, rfl, _, hc⟩ := H.out (by simp; omega)
      obtain ⟨x, hx⟩ : ∃ x, ls[k]? = some x := ⟨_, List.getElem?_eq_getElem hlt⟩
      have c0 := hc k x.cells (by simp [hx]) 0 _ rfl
      simp only [Nat.add_zero, Nat.mul_one] at c0
      have HD := Aid.hid (show (ls.any fun l => decide (l.xs.length = 0)) = (decide (x.xs.length = 0) || (ls.drop (k + 1)).any fun l => decide (l.xs.length = 0)) by rw [HK.out, tdrop_at hx, List.any_cons])
      obtain ⟨q, hq⟩ : ∃ q, ((x.xs.length : Int) == 0) = q := ⟨_, rfl⟩
      have hq2 : decide (x.xs.length = 0) = q := by rw [← hq]; simp [Bool.beq_eq_decide_eq]
      have HF := Aid.hid (formed1_is x.A x.xs.length x.c wr)
      rw [hq] at HF
      rw [hq2] at HD
      clear hc hx hq hq2 HK
      go_wp2_with fail
      refine HF.out.mono ?_; rintro _ w1 ⟨rfl, rfl⟩
      cases q
      · have NX := Aid.hid (show (ls.any fun l => decide (l.xs.length = 0)) = ((ls.drop (k + 1)).any fun l => decide (l.xs.length = 0)) by simpa using HD.out)
        go_wp2_with fail
        go_roundw
        case rel => exact ⟨k + 1, by go_num, by omega, NX, trivial⟩
        case measure => simp [intOf]; omega
      · have E : Hid ((ls.any fun l => decide (l.xs.length = 0)) = true) := Aid.hid (by simpa using HD.out)
        go_wp2_with fail
        go_ret
        exact ⟨(k : Int), rfl, by rw [E.out]; simp, rfl⟩
    · have E : Hid ((ls.any fun l => decide (l.xs.length = 0)) = false) := Aid.hid (by rw [HK.out, List.drop_eq_nil_of_le (by omega)]; rfl)
      go_wp2_with fail
      go_ret
      exact ⟨-1, rfl, by rw [E.out]; rfl, rfl⟩
set_option maxRecDepth 100000 in
set_option maxHeartbeats 4000000 in
theorem containsEmpty_is (ls : List Lb) (A : Option Addr) (B cap : Nat) (r : Bool) (w : World) (hr : (ls.any fun l => decide (l.xs.length = 0)) = r) (h : Rows w B 1 A (ls.map Lb.cells)) (hl : ls.length ≤ 9223372036854775807) :
    Calls Tryz.prog 84 #[.slice A ls.length cap, .func (.func 85) #[] #[]] w fun z w' => z = .returned (.bool r) ∧ w = w' := by
  have HC := Aid.hid (indexEmpty_is ls A B cap w h hl)
  have HR := Aid.hid hr
  clear h hr
  go_enter Tryz.func84, Tryz.ntmps84
  try simp only [List.append_eq, List.cons_append, List.nil_append]
  go_wp2_with fail
  refine HC.out.mono ?_; rintro _ w1 ⟨i, rfl, hi, rfl⟩
  have HI := Aid.hid hi
  clear hi HC
  go_wp2_with fail
  all_goals (go_ret; exact ⟨by rw [← HR.out, ← HI.out]; first | rfl | simp_all, rfl⟩)
set_option maxRecDepth 100000 in
set_option maxHeartbeats 4000000 in
theorem formed_is (s : St) (B : Nat) (r : Bool) (w : World) (hr : Ty.formed s.k s.es.length s.bs.length s.ls = r) (h : Rows w B 1 s.lA (s.ls.map Lb.cells)) (hB : B ≤ w.heap.size) (l1 : s.es.length ≤ 1000000000) (l2 : s.bs.length ≤ 1000000000) (l3 : s.ls.length ≤ 1000000000) :
    Calls Tryz.prog 77 #[.agg #[.int .i64 s.k, .int .i64 s.n, .string s.name, .slice s.eA s.es.length s.ec, .slice s.lA s.ls.length s.lc, .slice s.bA s.bs.length s.bc]] w fun z w' => z = .returned (.bool r) ∧ Below w.heap.size w w' := by
  have n1 := Aid.Has.new w [.int .i64 s.k, .int .i64 s.n, .string s.name, .slice s.eA s.es.length s.ec, .slice s.lA s.ls.length s.lc, .slice s.bA s.bs.length s.bc] 60
  have k0 := below_new w (.cells #[.int .i64 s.k, .int .i64 s.n, .string s.name, .slice s.eA s.es.length s.ec, .slice s.lA s.ls.length s.lc, .slice s.bA s.bs.length s.bc] 60)
  have HR := Aid.hid hr
  obtain ⟨q, hq⟩ : ∃ q, (s.ls.any fun l => decide (l.xs.length = 0)) = q := ⟨_, rfl⟩
  have HQ := Aid.hid hq
  have HC := Aid.hid (containsEmpty_is s.ls s.lA B s.lc q (w.alloc (.cells #[.int .i64 s.k, .int .i64 s.n, .string s.name, .slice s.eA s.es.length s.ec, .slice s.lA s.ls.length s.lc, .slice s.bA s.bs.length s.bc] 60)) hq (h.below k0 hB) (by omega))
  obtain ⟨W, hW⟩ : ∃ W, w.alloc (.cells #[.int .i64 s.k, .int .i64 s.n, .string s.name, .slice s.eA s.es.length s.ec, .slice s.lA s.ls.length s.lc, .slice s.bA s.bs.length s.bc] 60) = W := ⟨_, rfl⟩
  rw [hW] at n1 k0 HC
  have b0 := n1.cell 0 _ rfl
  have b3 := n1.cell 3 _ rfl
  have b4 := n1.cell 4 _ rfl
  have b5 := n1.cell 5 _ rfl
  have lp := n1.lt
  have K0 := Aid.hid k0
  clear hr h n1 k0 hq hB
  go_enter Tryz.func77, Tryz.ntmps77
  try simp only [List.append_eq, List.cons_append, List.nil_append]
  by_cases h6 : s.k = 6
  · have k2 : (s.k == 2) = false := by simp [h6]
    have k11 : (s.k == 11) = false := by simp [h6]
    have k8 : (s.k == 8) = false := by simp [h6]
    have k7 : (s.k == 7) = false := by simp [h6]
    have k1 : (s.k == 1) = false := by simp [h6]
    have k3 : (s.k == 3) = false := by simp [h6]
    have k4 : (s.k == 4) = false := by simp [h6]
    have k5 : (s.k == 5) = false := by simp [h6]
    have k6 : (s.k == 6) = true := by simp [h6]
    have hr : (!q && (decide ((s.es.length : Int) = 1) && decide ((s.bs.length : Int) = (s.ls.length : Int) + 1))) = r := by rw [← HR.out, ← HQ.out, Ty.formed_int]; simp only [Ty.formedI, h6]; rfl
    have HI := Aid.hid hr
    have HR := Aid.hid hr
    clear h6 hr
    go_wp2_with fail
    clear hW
    refine HC.out.mono ?_; rintro _ w1 ⟨rfl, rfl⟩
    cases q
    · have HR := Aid.hid (show (decide ((s.es.length : Int) = 1) && decide ((s.bs.length : Int) = (s.ls.length : Int) + 1)) = r by simpa using HI.out)
      go_wp2_with fail
      go_quiet (fail)
      go_wp2_with fail
      all_goals first | (go_ret; refine ⟨?_, Fl_drewN K0.out _⟩; rw [← HR.out]; clear HR HI K0 b0 b3 b4 b5 lp; simp_all [len0]; done)
    · obtain rfl : false = r := by simpa using HR.out
      go_wp2_with fail
      go_ret
      exact ⟨rfl, K0.out⟩
  · have k6 : (s.k == 6) = false := by simpa using h6
    go_wp2_with fail
    all_goals first | (go_ret; refine ⟨?_, K0.out⟩; rw [← HR.out, Ty.formed_int]; clear HR HC HQ K0 b0 b3 b4 b5 hW lp; first | (simp_all [Ty.formedI, len0]; done) | (simp_all [Ty.formedI, len0]; intros; omega))
end Go.Proofs.YtejifefgmlpclaaGreat
