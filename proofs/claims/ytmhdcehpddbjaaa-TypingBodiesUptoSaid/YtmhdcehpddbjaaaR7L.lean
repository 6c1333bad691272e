/- The document's shaped, as a walk. -/
import Derived.Test.YtmhdcehpddbjaaaR7G
import Derived.WalkKit
import Derived.WalkSpells
import Derived.WalkLawsBesides
import Derived.LoopTactic
import Derived.Deep.QuietTactic
import Derived.BigQuiet
import Derived.Below
import Derived.Laws.ResultCell
import Derived.Laws.Tables
import Derived.Laws.Rows
import Derived.Deep.Cut
import Derived.KernelRfl
import Derived.Test.YtmhdcehpddbjaaaR7H
set_option linter.unusedSimpArgs false
set_option linter.unusedVariables false
namespace Go.Proofs.Ytmhdcehpddbjaaa
open Go.RowKit

/-- Has a statement what its form has, and nothing else? -/
def Rf.shaped (k : Int) (n b : Nat) (e0 : Bool) (ls : List Lb) : Bool :=
 if k = 6 then !(ls.any fun l => decide (l.xs.length = 0)) && (decide (n = 1) && decide (b = ls.length + 1))
 else if 0 < ls.length then false
 else if k = 1 ∨ k = 3 then decide (n = 1) && decide (b = 0)
 else if k = 2 ∨ k = 11 then decide (n = 2) && decide (b = 0)
 else if k = 4 then decide (n = 1) && (decide (b = 0) && e0)
 else if k = 5 then decide (1 ≤ n) && decide (b = n + 1)
 else if k = 7 then decide (n = 1) && decide (b = 1)
 else if k = 8 then decide (n = 2) && decide (b = 1)
 else if k = 9 then decide (n ≤ 1) && decide (b = 0)
 else if k = 10 then decide (n = 0) && decide (b = 0)
 else false
def Rf.e0 (l : List Ex) : Bool := match l with | e :: _ => decide (e.k = 13) | [] => false
theorem Rf.shaped_eq (k : Int) (n b : Nat) (e0 : Bool) (ls : List Lb) : Rf.shaped k n b e0 ls = (Ty.formed k n b ls && (decide (k ≠ 4) || e0)) := by
 unfold Rf.shaped Ty.formed
 have hk : k = 1 ∨ k = 2 ∨ k = 3 ∨ k = 4 ∨ k = 5 ∨ k = 6 ∨ k = 7 ∨ k = 8 ∨ k = 9 ∨ k = 10 ∨ k = 11 ∨ (k ≠ 1 ∧ k ≠ 2 ∧ k ≠ 3 ∧ k ≠ 4 ∧ k ≠ 5 ∧ k ≠ 6 ∧ k ≠ 7 ∧ k ≠ 8 ∧ k ≠ 9 ∧ k ≠ 10 ∧ k ≠ 11) := by omega
 by_cases hm : 0 < ls.length
 ·
  have hm0 : ¬ ls.length = 0 := by omega
  rcases hk with rfl | rfl | rfl | rfl | rfl | rfl | rfl | rfl | rfl | rfl | rfl | hk
  all_goals first | (simp [hm, hm0]; done) | (obtain ⟨h1, h2, h3, h4, h5, h6, h7, h8, h9, h10, h11⟩ := hk; simp [hm, hm0, h1, h2, h3, h4, h5, h6, h7, h8, h9, h10, h11]; done)
 ·
  have hm0 : ls.length = 0 := by omega
  rcases hk with rfl | rfl | rfl | rfl | rfl | rfl | rfl | rfl | rfl | rfl | rfl | hk
  all_goals first | (simp [hm, hm0]; done) | (obtain ⟨h1, h2, h3, h4, h5, h6, h7, h8, h9, h10, h11⟩ := hk; simp [hm, hm0, h1, h2, h3, h4, h5, h6, h7, h8, h9, h10, h11]; done) | (simp [hm0, Bool.and_assoc]; done)
set_option maxRecDepth 100000 in
set_option maxHeartbeats 20000000 in
theorem rshaped_is (f : Nat) (B : Nat) (s : St) (r : Bool) (w : World) (hr : Rf.shaped s.k s.es.length s.bs.length (Rf.e0 s.es) s.ls = r) (hlw : Rows w B 1 s.lA (s.ls.map Lb.cells)) (he : ExsAt (f + 1) w B s.eA s.es) (hB : B ≤ w.heap.size) (l1 : s.es.length ≤ 1000000000) (l2 : s.bs.length ≤ 1000000000) (l3 : s.ls.length ≤ 1000000000) :
  Calls Try.prog 88 #[.agg #[.int .i64 s.k, .int .i64 s.n, .string s.name, .slice s.eA s.es.length s.ec, .slice s.lA s.ls.length s.lc, .slice s.bA s.bs.length s.bc]] w fun z w' => z = .returned (.bool r) ∧ Below w.heap.size w w' := by
 have HRW := Aid.hid hlw; have HES := Aid.hid he; have HR := Aid.hid hr
 have HL1 := Aid.hid l1; have HL2 := Aid.hid l2; have HL3 := Aid.hid l3
 obtain ⟨W, hW, Ns, K0⟩ := newh1 w [.int .i64 s.k, .int .i64 s.n, .string s.name, .slice s.eA s.es.length s.ec, .slice s.lA s.ls.length s.lc, .slice s.bA s.bs.length s.bc] 58
 clear hlw he hr l1 l2 l3
 obtain ⟨xs0, xs1, xs2, xs3, xs4, xs5, ls⟩ := xc6 Ns
 go_enter Try.func88, Try.ntmps88
 try simp only [List.append_eq, List.cons_append, List.nil_append]
 go_wp2_with fail
 (try clear hW)
 have HZ := Aid.hid (fun (w' : World) (hSw : Below W.heap.size W w') => (⟨kc hSw xs0 ls, kc hSw xs1 ls, kc hSw xs2 ls, kc hSw xs3 ls, kc hSw xs4 ls, kc hSw xs5 ls⟩ : _ ∧ _ ∧ _ ∧ _ ∧ _ ∧ _))
 have hb : Below W.heap.size W W.drew := (Below.refl _ _).drew
 refine Ord.wp_region_walk (fun w' => Below W.heap.size W w') 11 [(true, 0), (true, 1), (true, 2), (true, 3), (true, 4), (true, 5), (true, 6), (true, 7), (true, 8), (true, 9), (true, 10)] (by kernel_rfl) (by kernel_rfl) (fun _ _ d _ _ h => by cases d <;> exact h) (hb) ?_
 clear hb
 have hb : Below W.heap.size W W.drew := (Below.refl _ _).drew
 generalize W.drew = wd0 at *
 iterate 11
  apply Ord.walk_light
  next => (simp only [la0, la1, la2]; rfl)
  next => rfl
  next => (intro w' hSw; have z := HZ.out w' hSw; clear hSw; go_simp; first | done | with_reducible rfl)
  simp only [Act.put, la3, la4, la5]
 refine Ord.walk_tail ?_; simp only [List.drop_succ_cons, List.drop_zero]
 have hbx := hb
 clear hb HZ
 have Kx1 := kb K0 hbx
 have Ns_1 := nb hbx Ns
 clear xs0 xs1 xs2 xs3 xs4 xs5 ls
 clear hbx
 obtain ⟨xs0, ls⟩ := xc1 Ns_1
 by_cases h6 : s.k = 6
 ·
  have k6 : (s.k == 6) = true := by simp [h6]
  have HK := Aid.hid h6
  clear h6
  have HR6 : Hid ((!(s.ls.any fun l => decide (l.xs.length = 0)) && (decide (s.es.length = 1) && decide (s.bs.length = s.ls.length + 1))) = r) := Aid.hid (by have h := HR.out; rw [HK.out] at h; exact h)
  have l3 := HL3.out
  have l2 := HL2.out
  go_wp2_with fail
  clear xs0 ls
  go_loopw [6] (fun vi wr => ∃ k : Nat, vi = .int .i64 k ∧ k ≤ s.ls.length ∧ Hid ((s.ls.any fun l => decide (l.xs.length = 0)) = ((s.ls.drop k).any fun l => decide (l.xs.length = 0))) ∧ wr = wd0) (fun vi _ => s.ls.length - (intOf vi).toNat)
  case atStart => exact ⟨0, rfl, Nat.zero_le _, Aid.hid (by simp), rfl⟩
  case round =>
   obtain ⟨k, rfl, hk, HK1, rfl⟩ := hrel
   by_cases hlt : k < s.ls.length
   ·
    obtain ⟨b, off, hA, hbB, hc⟩ := (HRW.out.below Kx1.out hB) (by simp; omega)
    obtain ⟨x, hx⟩ : ∃ x, s.ls[k]? = some x := ⟨_, List.getElem?_eq_getElem hlt⟩
    have c0 := hc k x.cells (by simp [hx]) 0 _ rfl
    simp only [Nat.add_zero, Nat.mul_one] at c0
    have HD := Aid.hid (show (s.ls.any fun l => decide (l.xs.length = 0)) = (decide (x.xs.length = 0) || (s.ls.drop (k + 1)).any fun l => decide (l.xs.length = 0)) by rw [HK1.out, tdrop_at hx, List.any_cons])
    have hki : (k : Int) < (s.ls.length : Int) := by omega
    clear hc hx HK1
    have xs4 := Ns_1.out.cell 4 _ rfl
    have ls := Ns_1.out.lt
    rw [hA] at xs4
    have HA := Aid.hid hA
    clear hA
    by_cases h0 : x.xs.length = 0
    ·
     have q0 : ((x.xs.length : Int) == 0) = true := by rw [h0]; rfl
     obtain rfl : false = r := by have h := HR6.out; rw [HD.out] at h; simpa [h0] using h
     clear h0
     go_wp2_with fail
     all_goals go_ret
     all_goals exact ⟨by first | rfl | (simp only [q2]; rfl) | (simp only [q1]; rfl) | (show Ending.returned (.bool ((s.bs.length : Int) == _)) = _; rw [q2]), Kx1.out⟩
    ·
     have q0 : ((x.xs.length : Int) == 0) = false := by simpa [List.length_eq_zero_iff] using h0
     have NX := Aid.hid (show (s.ls.any fun l => decide (l.xs.length = 0)) = ((s.ls.drop (k + 1)).any fun l => decide (l.xs.length = 0)) by rw [HD.out]; simp [h0])
     clear h0
     go_wp2_with fail
     go_roundw
     case rel => exact ⟨k + 1, by go_num, by omega, NX, trivial⟩
     case measure => simp [intOf]; omega
   ·
    have HR7 : Hid ((decide (s.es.length = 1) && decide (s.bs.length = s.ls.length + 1)) = r) := Aid.hid (by have h := HR6.out; rw [HK1.out, List.drop_eq_nil_of_le (by omega)] at h; simpa using h)
    by_cases h1 : s.es.length = 1
    ·
     have q1 : ((s.es.length : Int) == 1) = true := by rw [h1]; rfl
     by_cases h2 : s.bs.length = s.ls.length + 1
     ·
      have q2 : ((s.bs.length : Int) == (s.ls.length : Int) + 1) = true := by rw [h2]; simp
      obtain rfl : true = r := by have h := HR7.out; simpa [h1, h2] using h
      clear h1 h2
      go_wp2_with fail
      all_goals go_ret
      all_goals exact ⟨by first | rfl | (simp only [q2]; rfl) | (simp only [q1]; rfl) | (show Ending.returned (.bool ((s.bs.length : Int) == _)) = _; rw [q2]), Kx1.out⟩
     ·
      have q2 : ((s.bs.length : Int) == (s.ls.length : Int) + 1) = false := by simp; omega
      obtain rfl : false = r := by have h := HR7.out; simpa [h1, h2] using h
      clear h1 h2
      go_wp2_with fail
      all_goals go_ret
      all_goals exact ⟨by first | rfl | (simp only [q2]; rfl) | (simp only [q1]; rfl) | (show Ending.returned (.bool ((s.bs.length : Int) == _)) = _; rw [q2]), Kx1.out⟩
    ·
     have q1 : ((s.es.length : Int) == 1) = false := by simp; omega
     obtain rfl : false = r := by have h := HR7.out; simpa [h1] using h
     clear h1
     go_wp2_with fail
     all_goals go_ret
     all_goals exact ⟨by first | rfl | (simp only [q2]; rfl) | (simp only [q1]; rfl) | (show Ending.returned (.bool ((s.bs.length : Int) == _)) = _; rw [q2]), Kx1.out⟩
 ·
  have k6 : (s.k == 6) = false := by simpa using h6
  by_cases hm : 0 < s.ls.length
  ·
   have q0 : decide ((0 : Int) < (s.ls.length : Int)) = true := by simpa using hm
   obtain rfl : false = r := by have h := HR.out; rw [Rf.shaped, if_neg h6, if_pos hm] at h; exact h
   go_wp2_with fail
   all_goals go_ret
   all_goals exact ⟨by first | rfl | (simp only [q2]; rfl) | (simp only [q1]; rfl) | (show Ending.returned (.bool ((s.bs.length : Int) == _)) = _; rw [q2]), Kx1.out⟩
  ·
   have q0 : decide ((0 : Int) < (s.ls.length : Int)) = false := by simpa using hm
   have HN6 := Aid.hid h6; have HM0 := Aid.hid hm
   clear h6
   have hk : s.k = 1 ∨ s.k = 3 ∨ s.k = 2 ∨ s.k = 11 ∨ s.k = 4 ∨ s.k = 5 ∨ s.k = 7 ∨ s.k = 8 ∨ s.k = 9 ∨ s.k = 10 ∨ (s.k ≠ 1 ∧ s.k ≠ 3 ∧ s.k ≠ 2 ∧ s.k ≠ 11 ∧ s.k ≠ 4 ∧ s.k ≠ 5 ∧ s.k ≠ 7 ∧ s.k ≠ 8 ∧ s.k ≠ 9 ∧ s.k ≠ 10) := by omega
   rcases hk with hk | hk | hk | hk | hk | hk | hk | hk | hk | hk | ⟨h1, h3, h2, h11, h4, h5, h7, h8, h9, h10⟩
   ·
    have k1 : (s.k == 1) = true := by simp [hk]
    obtain ⟨k3, k2, k11, k4, k5, k7, k8, k9, k10, -⟩ : nes s.k [3, 2, 11, 4, 5, 7, 8, 9, 10] := by simp [nes, hk]
    have HK := Aid.hid hk
    clear hk
    have l1 := HL1.out
    have l2 := HL2.out
    by_cases h1 : s.es.length = 1
    ·
     have q1 : ((s.es.length : Int) == 1) = true := by rw [h1]; rfl
     by_cases h2 : s.bs.length = 0
     ·
      have q2 : ((s.bs.length : Int) == 0) = true := by rw [h2]; rfl
      obtain rfl : true = r := by have h := HR.out; rw [Rf.shaped, if_neg HN6.out, if_neg HM0.out, HK.out] at h; simpa [h1, h2] using h
      clear h1 h2
      go_wp2_with fail
      all_goals go_ret
      all_goals exact ⟨by first | rfl | (simp only [q2]; rfl) | (simp only [q1]; rfl) | (show Ending.returned (.bool ((s.bs.length : Int) == _)) = _; rw [q2]), Kx1.out⟩
     ·
      have q2 : ((s.bs.length : Int) == 0) = false := by simpa [List.length_eq_zero_iff] using h2
      obtain rfl : false = r := by have h := HR.out; rw [Rf.shaped, if_neg HN6.out, if_neg HM0.out, HK.out] at h; simpa [h1, h2] using h
      clear h1 h2
      go_wp2_with fail
      all_goals go_ret
      all_goals exact ⟨by first | rfl | (simp only [q2]; rfl) | (simp only [q1]; rfl) | (show Ending.returned (.bool ((s.bs.length : Int) == _)) = _; rw [q2]), Kx1.out⟩
    ·
     have q1 : ((s.es.length : Int) == 1) = false := by simp; omega
     obtain rfl : false = r := by have h := HR.out; rw [Rf.shaped, if_neg HN6.out, if_neg HM0.out, HK.out] at h; simpa [h1] using h
     clear h1
     go_wp2_with fail
     all_goals go_ret
     all_goals exact ⟨by first | rfl | (simp only [q2]; rfl) | (simp only [q1]; rfl) | (show Ending.returned (.bool ((s.bs.length : Int) == _)) = _; rw [q2]), Kx1.out⟩
   ·
    have k1 : (s.k == 1) = false := by simp [hk]
    have k3 : (s.k == 3) = true := by simp [hk]
    obtain ⟨k2, k11, k4, k5, k7, k8, k9, k10, -⟩ : nes s.k [2, 11, 4, 5, 7, 8, 9, 10] := by simp [nes, hk]
    have HK := Aid.hid hk
    clear hk
    have l1 := HL1.out
    have l2 := HL2.out
    by_cases h1 : s.es.length = 1
    ·
     have q1 : ((s.es.length : Int) == 1) = true := by rw [h1]; rfl
     by_cases h2 : s.bs.length = 0
     ·
      have q2 : ((s.bs.length : Int) == 0) = true := by rw [h2]; rfl
      obtain rfl : true = r := by have h := HR.out; rw [Rf.shaped, if_neg HN6.out, if_neg HM0.out, HK.out] at h; simpa [h1, h2] using h
      clear h1 h2
      go_wp2_with fail
      all_goals go_ret
      all_goals exact ⟨by first | rfl | (simp only [q2]; rfl) | (simp only [q1]; rfl) | (show Ending.returned (.bool ((s.bs.length : Int) == _)) = _; rw [q2]), Kx1.out⟩
     ·
      have q2 : ((s.bs.length : Int) == 0) = false := by simpa [List.length_eq_zero_iff] using h2
      obtain rfl : false = r := by have h := HR.out; rw [Rf.shaped, if_neg HN6.out, if_neg HM0.out, HK.out] at h; simpa [h1, h2] using h
      clear h1 h2
      go_wp2_with fail
      all_goals go_ret
      all_goals exact ⟨by first | rfl | (simp only [q2]; rfl) | (simp only [q1]; rfl) | (show Ending.returned (.bool ((s.bs.length : Int) == _)) = _; rw [q2]), Kx1.out⟩
    ·
     have q1 : ((s.es.length : Int) == 1) = false := by simp; omega
     obtain rfl : false = r := by have h := HR.out; rw [Rf.shaped, if_neg HN6.out, if_neg HM0.out, HK.out] at h; simpa [h1] using h
     clear h1
     go_wp2_with fail
     all_goals go_ret
     all_goals exact ⟨by first | rfl | (simp only [q2]; rfl) | (simp only [q1]; rfl) | (show Ending.returned (.bool ((s.bs.length : Int) == _)) = _; rw [q2]), Kx1.out⟩
   ·
    have k1 : (s.k == 1) = false := by simp [hk]
    have k3 : (s.k == 3) = false := by simp [hk]
    have k2 : (s.k == 2) = true := by simp [hk]
    obtain ⟨k11, k4, k5, k7, k8, k9, k10, -⟩ : nes s.k [11, 4, 5, 7, 8, 9, 10] := by simp [nes, hk]
    have HK := Aid.hid hk
    clear hk
    have l1 := HL1.out
    have l2 := HL2.out
    by_cases h1 : s.es.length = 2
    ·
     have q1 : ((s.es.length : Int) == 2) = true := by rw [h1]; rfl
     by_cases h2 : s.bs.length = 0
     ·
      have q2 : ((s.bs.length : Int) == 0) = true := by rw [h2]; rfl
      obtain rfl : true = r := by have h := HR.out; rw [Rf.shaped, if_neg HN6.out, if_neg HM0.out, HK.out] at h; simpa [h1, h2] using h
      clear h1 h2
      go_wp2_with fail
      all_goals go_ret
      all_goals exact ⟨by first | rfl | (simp only [q2]; rfl) | (simp only [q1]; rfl) | (show Ending.returned (.bool ((s.bs.length : Int) == _)) = _; rw [q2]), Kx1.out⟩
     ·
      have q2 : ((s.bs.length : Int) == 0) = false := by simpa [List.length_eq_zero_iff] using h2
      obtain rfl : false = r := by have h := HR.out; rw [Rf.shaped, if_neg HN6.out, if_neg HM0.out, HK.out] at h; simpa [h1, h2] using h
      clear h1 h2
      go_wp2_with fail
      all_goals go_ret
      all_goals exact ⟨by first | rfl | (simp only [q2]; rfl) | (simp only [q1]; rfl) | (show Ending.returned (.bool ((s.bs.length : Int) == _)) = _; rw [q2]), Kx1.out⟩
    ·
     have q1 : ((s.es.length : Int) == 2) = false := by simp; omega
     obtain rfl : false = r := by have h := HR.out; rw [Rf.shaped, if_neg HN6.out, if_neg HM0.out, HK.out] at h; simpa [h1] using h
     clear h1
     go_wp2_with fail
     all_goals go_ret
     all_goals exact ⟨by first | rfl | (simp only [q2]; rfl) | (simp only [q1]; rfl) | (show Ending.returned (.bool ((s.bs.length : Int) == _)) = _; rw [q2]), Kx1.out⟩
   ·
    obtain ⟨k1, k3, k2, -⟩ : nes s.k [1, 3, 2] := by simp [nes, hk]
    have k11 : (s.k == 11) = true := by simp [hk]
    obtain ⟨k4, k5, k7, k8, k9, k10, -⟩ : nes s.k [4, 5, 7, 8, 9, 10] := by simp [nes, hk]
    have HK := Aid.hid hk
    clear hk
    have l1 := HL1.out
    have l2 := HL2.out
    by_cases h1 : s.es.length = 2
    ·
     have q1 : ((s.es.length : Int) == 2) = true := by rw [h1]; rfl
     by_cases h2 : s.bs.length = 0
     ·
      have q2 : ((s.bs.length : Int) == 0) = true := by rw [h2]; rfl
      obtain rfl : true = r := by have h := HR.out; rw [Rf.shaped, if_neg HN6.out, if_neg HM0.out, HK.out] at h; simpa [h1, h2] using h
      clear h1 h2
      go_wp2_with fail
      all_goals go_ret
      all_goals exact ⟨by first | rfl | (simp only [q2]; rfl) | (simp only [q1]; rfl) | (show Ending.returned (.bool ((s.bs.length : Int) == _)) = _; rw [q2]), Kx1.out⟩
     ·
      have q2 : ((s.bs.length : Int) == 0) = false := by simpa [List.length_eq_zero_iff] using h2
      obtain rfl : false = r := by have h := HR.out; rw [Rf.shaped, if_neg HN6.out, if_neg HM0.out, HK.out] at h; simpa [h1, h2] using h
      clear h1 h2
      go_wp2_with fail
      all_goals go_ret
      all_goals exact ⟨by first | rfl | (simp only [q2]; rfl) | (simp only [q1]; rfl) | (show Ending.returned (.bool ((s.bs.length : Int) == _)) = _; rw [q2]), Kx1.out⟩
    ·
     have q1 : ((s.es.length : Int) == 2) = false := by simp; omega
     obtain rfl : false = r := by have h := HR.out; rw [Rf.shaped, if_neg HN6.out, if_neg HM0.out, HK.out] at h; simpa [h1] using h
     clear h1
     go_wp2_with fail
     all_goals go_ret
     all_goals exact ⟨by first | rfl | (simp only [q2]; rfl) | (simp only [q1]; rfl) | (show Ending.returned (.bool ((s.bs.length : Int) == _)) = _; rw [q2]), Kx1.out⟩
   ·
    obtain ⟨k1, k3, k2, k11, -⟩ : nes s.k [1, 3, 2, 11] := by simp [nes, hk]
    have k4 : (s.k == 4) = true := by simp [hk]
    obtain ⟨k5, k7, k8, k9, k10, -⟩ : nes s.k [5, 7, 8, 9, 10] := by simp [nes, hk]
    have HK := Aid.hid hk
    clear hk
    have l1 := HL1.out
    have l2 := HL2.out
    by_cases h1 : s.es.length = 1
    ·
     have q1 : ((s.es.length : Int) == 1) = true := by rw [h1]; rfl
     by_cases h2 : s.bs.length = 0
     ·
      have q2 : ((s.bs.length : Int) == 0) = true := by rw [h2]; rfl
      obtain ⟨x0, hx0⟩ := List.length_eq_one_iff.1 h1
      obtain ⟨eb, off, hA, hebB, hc, _⟩ := Ex.at1 (HES.out.below Kx1.out hB) (i := 0) (e := x0) (by rw [hx0]; rfl)
      have c0 := hc 0 _ rfl
      simp only [Nat.add_zero, Nat.zero_mul] at c0
      have HX0 := Aid.hid hx0
      have h1' := h1
      have xs3 := Ns_1.out.cell 3 _ rfl
      rw [hA, h1] at xs3
      clear hc hx0
      have HR4 : Hid (decide (x0.k = 13) = r) := Aid.hid (by have h := HR.out; rw [Rf.shaped, if_neg HN6.out, if_neg HM0.out, HK.out] at h; simpa [h1, h2, HX0.out, Rf.e0] using h)
      have HA := Aid.hid hA
      clear hA h1 h1' h2
      by_cases h13 : x0.k = 13
      ·
       have q3 : (x0.k == 13) = true := by simp [h13]
       obtain rfl : true = r := by have h := HR4.out; simpa [h13] using h
       clear h13
       go_wp2_with fail
       all_goals go_ret
       all_goals exact ⟨by first | rfl | (simp only [q2]; rfl) | (simp only [q1]; rfl) | (show Ending.returned (.bool ((s.bs.length : Int) == _)) = _; rw [q2]), Kx1.out⟩
      ·
       have q3 : (x0.k == 13) = false := by simpa using h13
       obtain rfl : false = r := by have h := HR4.out; simpa [h13] using h
       clear h13
       go_wp2_with fail
       all_goals go_ret
       all_goals exact ⟨by first | rfl | (simp only [q2]; rfl) | (simp only [q1]; rfl) | (show Ending.returned (.bool ((s.bs.length : Int) == _)) = _; rw [q2]), Kx1.out⟩
     ·
      have q2 : ((s.bs.length : Int) == 0) = false := by simpa [List.length_eq_zero_iff] using h2
      obtain rfl : false = r := by have h := HR.out; rw [Rf.shaped, if_neg HN6.out, if_neg HM0.out, HK.out] at h; simpa [h1, h2] using h
      clear h1 h2
      go_wp2_with fail
      all_goals go_ret
      all_goals exact ⟨by first | rfl | (simp only [q2]; rfl) | (simp only [q1]; rfl) | (show Ending.returned (.bool ((s.bs.length : Int) == _)) = _; rw [q2]), Kx1.out⟩
    ·
     have q1 : ((s.es.length : Int) == 1) = false := by simp; omega
     obtain rfl : false = r := by have h := HR.out; rw [Rf.shaped, if_neg HN6.out, if_neg HM0.out, HK.out] at h; simpa [h1] using h
     clear h1
     go_wp2_with fail
     all_goals go_ret
     all_goals exact ⟨by first | rfl | (simp only [q2]; rfl) | (simp only [q1]; rfl) | (show Ending.returned (.bool ((s.bs.length : Int) == _)) = _; rw [q2]), Kx1.out⟩
   ·
    obtain ⟨k1, k3, k2, k11, k4, -⟩ : nes s.k [1, 3, 2, 11, 4] := by simp [nes, hk]
    have k5 : (s.k == 5) = true := by simp [hk]
    obtain ⟨k7, k8, k9, k10, -⟩ : nes s.k [7, 8, 9, 10] := by simp [nes, hk]
    have HK := Aid.hid hk
    clear hk
    have l1 := HL1.out
    have l2 := HL2.out
    by_cases h1 : 1 ≤ s.es.length
    ·
     have q1 : decide ((1 : Int) ≤ (s.es.length : Int)) = true := by simp; omega
     by_cases h2 : s.bs.length = s.es.length + 1
     ·
      have q2 : ((s.bs.length : Int) == (s.es.length : Int) + 1) = true := by rw [h2]; simp
      obtain rfl : true = r := by have h := HR.out; rw [Rf.shaped, if_neg HN6.out, if_neg HM0.out, HK.out] at h; simpa [h1, h2] using h
      clear h1 h2
      go_wp2_with fail
      all_goals go_ret
      all_goals exact ⟨by first | rfl | (simp only [q2]; rfl) | (simp only [q1]; rfl) | (show Ending.returned (.bool ((s.bs.length : Int) == _)) = _; rw [q2]), Kx1.out⟩
     ·
      have q2 : ((s.bs.length : Int) == (s.es.length : Int) + 1) = false := by simp; omega
      obtain rfl : false = r := by have h := HR.out; rw [Rf.shaped, if_neg HN6.out, if_neg HM0.out, HK.out] at h; simpa [h1, h2] using h
      clear h1 h2
      go_wp2_with fail
      all_goals go_ret
      all_goals exact ⟨by first | rfl | (simp only [q2]; rfl) | (simp only [q1]; rfl) | (show Ending.returned (.bool ((s.bs.length : Int) == _)) = _; rw [q2]), Kx1.out⟩
    ·
     have q1 : decide ((1 : Int) ≤ (s.es.length : Int)) = false := by simp; omega
     obtain rfl : false = r := by have h := HR.out; rw [Rf.shaped, if_neg HN6.out, if_neg HM0.out, HK.out] at h; simpa [h1] using h
     clear h1
     go_wp2_with fail
     all_goals go_ret
     all_goals exact ⟨by first | rfl | (simp only [q2]; rfl) | (simp only [q1]; rfl) | (show Ending.returned (.bool ((s.bs.length : Int) == _)) = _; rw [q2]), Kx1.out⟩
   ·
    obtain ⟨k1, k3, k2, k11, k4, k5, -⟩ : nes s.k [1, 3, 2, 11, 4, 5] := by simp [nes, hk]
    have k7 : (s.k == 7) = true := by simp [hk]
    obtain ⟨k8, k9, k10, -⟩ : nes s.k [8, 9, 10] := by simp [nes, hk]
    have HK := Aid.hid hk
    clear hk
    have l1 := HL1.out
    have l2 := HL2.out
    by_cases h1 : s.es.length = 1
    ·
     have q1 : ((s.es.length : Int) == 1) = true := by rw [h1]; rfl
     by_cases h2 : s.bs.length = 1
     ·
      have q2 : ((s.bs.length : Int) == 1) = true := by rw [h2]; rfl
      obtain rfl : true = r := by have h := HR.out; rw [Rf.shaped, if_neg HN6.out, if_neg HM0.out, HK.out] at h; simpa [h1, h2] using h
      clear h1 h2
      go_wp2_with fail
      all_goals go_ret
      all_goals exact ⟨by first | rfl | (simp only [q2]; rfl) | (simp only [q1]; rfl) | (show Ending.returned (.bool ((s.bs.length : Int) == _)) = _; rw [q2]), Kx1.out⟩
     ·
      have q2 : ((s.bs.length : Int) == 1) = false := by simp; omega
      obtain rfl : false = r := by have h := HR.out; rw [Rf.shaped, if_neg HN6.out, if_neg HM0.out, HK.out] at h; simpa [h1, h2] using h
      clear h1 h2
      go_wp2_with fail
      all_goals go_ret
      all_goals exact ⟨by first | rfl | (simp only [q2]; rfl) | (simp only [q1]; rfl) | (show Ending.returned (.bool ((s.bs.length : Int) == _)) = _; rw [q2]), Kx1.out⟩
    ·
     have q1 : ((s.es.length : Int) == 1) = false := by simp; omega
     obtain rfl : false = r := by have h := HR.out; rw [Rf.shaped, if_neg HN6.out, if_neg HM0.out, HK.out] at h; simpa [h1] using h
     clear h1
     go_wp2_with fail
     all_goals go_ret
     all_goals exact ⟨by first | rfl | (simp only [q2]; rfl) | (simp only [q1]; rfl) | (show Ending.returned (.bool ((s.bs.length : Int) == _)) = _; rw [q2]), Kx1.out⟩
   ·
    obtain ⟨k1, k3, k2, k11, k4, k5, k7, -⟩ : nes s.k [1, 3, 2, 11, 4, 5, 7] := by simp [nes, hk]
    have k8 : (s.k == 8) = true := by simp [hk]
    have k9 : (s.k == 9) = false := by simp [hk]
    have k10 : (s.k == 10) = false := by simp [hk]
    have HK := Aid.hid hk
    clear hk
    have l1 := HL1.out
    have l2 := HL2.out
    by_cases h1 : s.es.length = 2
    ·
     have q1 : ((s.es.length : Int) == 2) = true := by rw [h1]; rfl
     by_cases h2 : s.bs.length = 1
     ·
      have q2 : ((s.bs.length : Int) == 1) = true := by rw [h2]; rfl
      obtain rfl : true = r := by have h := HR.out; rw [Rf.shaped, if_neg HN6.out, if_neg HM0.out, HK.out] at h; simpa [h1, h2] using h
      clear h1 h2
      go_wp2_with fail
      all_goals go_ret
      all_goals exact ⟨by first | rfl | (simp only [q2]; rfl) | (simp only [q1]; rfl) | (show Ending.returned (.bool ((s.bs.length : Int) == _)) = _; rw [q2]), Kx1.out⟩
     ·
      have q2 : ((s.bs.length : Int) == 1) = false := by simp; omega
      obtain rfl : false = r := by have h := HR.out; rw [Rf.shaped, if_neg HN6.out, if_neg HM0.out, HK.out] at h; simpa [h1, h2] using h
      clear h1 h2
      go_wp2_with fail
      all_goals go_ret
      all_goals exact ⟨by first | rfl | (simp only [q2]; rfl) | (simp only [q1]; rfl) | (show Ending.returned (.bool ((s.bs.length : Int) == _)) = _; rw [q2]), Kx1.out⟩
    ·
     have q1 : ((s.es.length : Int) == 2) = false := by simp; omega
     obtain rfl : false = r := by have h := HR.out; rw [Rf.shaped, if_neg HN6.out, if_neg HM0.out, HK.out] at h; simpa [h1] using h
     clear h1
     go_wp2_with fail
     all_goals go_ret
     all_goals exact ⟨by first | rfl | (simp only [q2]; rfl) | (simp only [q1]; rfl) | (show Ending.returned (.bool ((s.bs.length : Int) == _)) = _; rw [q2]), Kx1.out⟩
   ·
    obtain ⟨k1, k3, k2, k11, k4, k5, k7, k8, -⟩ : nes s.k [1, 3, 2, 11, 4, 5, 7, 8] := by simp [nes, hk]
    have k9 : (s.k == 9) = true := by simp [hk]
    have k10 : (s.k == 10) = false := by simp [hk]
    have HK := Aid.hid hk
    clear hk
    have l1 := HL1.out
    have l2 := HL2.out
    by_cases h1 : s.es.length ≤ 1
    ·
     have q1 : decide ((s.es.length : Int) ≤ 1) = true := by simp; omega
     by_cases h2 : s.bs.length = 0
     ·
      have q2 : ((s.bs.length : Int) == 0) = true := by rw [h2]; rfl
      obtain rfl : true = r := by have h := HR.out; rw [Rf.shaped, if_neg HN6.out, if_neg HM0.out, HK.out] at h; simpa [h1, h2] using h
      clear h1 h2
      go_wp2_with fail
      all_goals go_ret
      all_goals exact ⟨by first | rfl | (simp only [q2]; rfl) | (simp only [q1]; rfl) | (show Ending.returned (.bool ((s.bs.length : Int) == _)) = _; rw [q2]), Kx1.out⟩
     ·
      have q2 : ((s.bs.length : Int) == 0) = false := by simpa [List.length_eq_zero_iff] using h2
      obtain rfl : false = r := by have h := HR.out; rw [Rf.shaped, if_neg HN6.out, if_neg HM0.out, HK.out] at h; simpa [h1, h2] using h
      clear h1 h2
      go_wp2_with fail
      all_goals go_ret
      all_goals exact ⟨by first | rfl | (simp only [q2]; rfl) | (simp only [q1]; rfl) | (show Ending.returned (.bool ((s.bs.length : Int) == _)) = _; rw [q2]), Kx1.out⟩
    ·
     have q1 : decide ((s.es.length : Int) ≤ 1) = false := by simp; omega
     obtain rfl : false = r := by have h := HR.out; rw [Rf.shaped, if_neg HN6.out, if_neg HM0.out, HK.out] at h; simpa [h1] using h
     clear h1
     go_wp2_with fail
     all_goals go_ret
     all_goals exact ⟨by first | rfl | (simp only [q2]; rfl) | (simp only [q1]; rfl) | (show Ending.returned (.bool ((s.bs.length : Int) == _)) = _; rw [q2]), Kx1.out⟩
   ·
    obtain ⟨k1, k3, k2, k11, k4, k5, k7, k8, k9, -⟩ : nes s.k [1, 3, 2, 11, 4, 5, 7, 8, 9] := by simp [nes, hk]
    have k10 : (s.k == 10) = true := by simp [hk]
    have HK := Aid.hid hk
    clear hk
    have l1 := HL1.out
    have l2 := HL2.out
    by_cases h1 : s.es.length = 0
    ·
     have q1 : ((s.es.length : Int) == 0) = true := by rw [h1]; rfl
     by_cases h2 : s.bs.length = 0
     ·
      have q2 : ((s.bs.length : Int) == 0) = true := by rw [h2]; rfl
      obtain rfl : true = r := by have h := HR.out; rw [Rf.shaped, if_neg HN6.out, if_neg HM0.out, HK.out] at h; simpa [h1, h2] using h
      clear h1 h2
      go_wp2_with fail
      all_goals go_ret
      all_goals exact ⟨by first | rfl | (simp only [q2]; rfl) | (simp only [q1]; rfl) | (show Ending.returned (.bool ((s.bs.length : Int) == _)) = _; rw [q2]), Kx1.out⟩
     ·
      have q2 : ((s.bs.length : Int) == 0) = false := by simpa [List.length_eq_zero_iff] using h2
      obtain rfl : false = r := by have h := HR.out; rw [Rf.shaped, if_neg HN6.out, if_neg HM0.out, HK.out] at h; simpa [h1, h2] using h
      clear h1 h2
      go_wp2_with fail
      all_goals go_ret
      all_goals exact ⟨by first | rfl | (simp only [q2]; rfl) | (simp only [q1]; rfl) | (show Ending.returned (.bool ((s.bs.length : Int) == _)) = _; rw [q2]), Kx1.out⟩
    ·
     have q1 : ((s.es.length : Int) == 0) = false := by simpa [List.length_eq_zero_iff] using h1
     obtain rfl : false = r := by have h := HR.out; rw [Rf.shaped, if_neg HN6.out, if_neg HM0.out, HK.out] at h; simpa [h1] using h
     clear h1
     go_wp2_with fail
     all_goals go_ret
     all_goals exact ⟨by first | rfl | (simp only [q2]; rfl) | (simp only [q1]; rfl) | (show Ending.returned (.bool ((s.bs.length : Int) == _)) = _; rw [q2]), Kx1.out⟩
   ·
    have k1 : (s.k == 1) = false := by simpa using h1
    have k3 : (s.k == 3) = false := by simpa using h3
    have k2 : (s.k == 2) = false := by simpa using h2
    have k11 : (s.k == 11) = false := by simpa using h11
    have k4 : (s.k == 4) = false := by simpa using h4
    have k5 : (s.k == 5) = false := by simpa using h5
    have k7 : (s.k == 7) = false := by simpa using h7
    have k8 : (s.k == 8) = false := by simpa using h8
    have k9 : (s.k == 9) = false := by simpa using h9
    have k10 : (s.k == 10) = false := by simpa using h10
    obtain rfl : false = r := by have h := HR.out; rw [Rf.shaped, if_neg HN6.out, if_neg HM0.out] at h; simpa [h1, h3, h2, h11, h4, h5, h7, h8, h9, h10] using h
    clear h1 h3 h2 h11 h4 h5 h7 h8 h9 h10
    go_wp2_with fail
    all_goals go_ret
    all_goals exact ⟨by first | rfl | (simp only [q2]; rfl) | (simp only [q1]; rfl) | (show Ending.returned (.bool ((s.bs.length : Int) == _)) = _; rw [q2]), Kx1.out⟩
end Go.Proofs.Ytmhdcehpddbjaaa
/- The document's Expr, whole; cond and returns, as walks. -/
namespace Go.Proofs.Ytmhdcehpddbjaaa
open Go.RowKit

/-- No slice of arguments is longer than what it has room for. -/
def ExCap : Nat → List Ex → Prop
 | 0, _ => True
 | f + 1, l => ∀ e ∈ l, e.args.length ≤ e.c ∧ ExCap f e.args
theorem rexpr_step (f : Nat) (u : List Dk) (a : Option Addr) (B cap : Nat) (x y : Int) (p : Pl) (e : Ex) (t : Ty) (c : Int) (w : World) (hr : Rf.expr p e = (t, c)) (hp : Pl.at u x y = some p) (hl : ULim u) (hX : ∀ q ∈ e.args, RExOK f u a B cap x y p q) (hu : UnitAt w B a u) (hB : B ≤ w.heap.size) (he : ExsAt (f + 1) w B e.A e.args) (hlim : e.args.length ≤ 1000000000) (hcap : e.args.length ≤ e.c) :
  Calls Try.prog 14 #[.agg #[.slice a u.length cap], .agg #[.int .i64 x, .int .i64 y], .agg #[.int .i64 e.k, .int .i64 e.n, .string e.name, .string e.what, .slice e.A e.args.length e.c]] w fun z w' => z = .returned (.tuple #[.agg #[.int .i64 t.k, .int .i64 t.lo, .int .i64 t.hi, .string t.name], .int .i64 c]) ∧ Below w.heap.size w w' := by
 by_cases h13 : e.k = 13
 ·
  exact rexpr_13 f u a B cap x y p e t c w hr hp hl hX hu hB he hlim hcap h13
 ·
  by_cases hb : Rf.need e.k = -1
  ·
   exact rexpr_bad f u a B cap x y p e t c w hr hp hl hX hu hB he hlim hcap h13 hb
  ·
   have hk : e.k = 1 ∨ e.k = 2 ∨ e.k = 3 ∨ e.k = 4 ∨ e.k = 5 ∨ e.k = 6 ∨ e.k = 7 ∨ e.k = 8 ∨ e.k = 9 ∨ e.k = 10 ∨ e.k = 11 ∨ e.k = 12 ∨ e.k = 14 := by
    have h1 : ¬ (e.k < 1 ∨ 15 ≤ e.k) := fun h => hb (by rw [Rf.need, if_pos h])
    omega
   have hn : 0 ≤ Rf.need e.k := by
    rcases hk with h | h | h | h | h | h | h | h | h | h | h | h | h <;> rw [h] <;> decide
   by_cases hlen : (e.args.length : Int) = Rf.need e.k
   ·
    rcases hk with h | h | h | h | h | h | h | h | h | h | h | h | h
    all_goals rw [h] at hlen
    ·
     exact rexpr_1 f u a B cap x y p e t c w hr hp hl hX hu hB he hlim hcap h (by have : (Rf.need 1) = 0 := rfl; omega)
    ·
     exact rexpr_2 f u a B cap x y p e t c w hr hp hl hX hu hB he hlim hcap h (by have : (Rf.need 2) = 0 := rfl; omega)
    ·
     exact rexpr_3 f u a B cap x y p e t c w hr hp hl hX hu hB he hlim hcap h (by have : (Rf.need 3) = 0 := rfl; omega)
    ·
     exact rexpr_4 f u a B cap x y p e t c w hr hp hl hX hu hB he hlim hcap h (by have : (Rf.need 4) = 0 := rfl; omega)
    ·
     exact rexpr_5 f u a B cap x y p e t c w hr hp hl hX hu hB he hlim hcap h (by have : (Rf.need 5) = 0 := rfl; omega)
    ·
     exact rexpr_6 f u a B cap x y p e t c w hr hp hl hX hu hB he hlim hcap h (by have : (Rf.need 6) = 1 := rfl; omega)
    ·
     exact rexpr_7 f u a B cap x y p e t c w hr hp hl hX hu hB he hlim hcap h (by have : (Rf.need 7) = 1 := rfl; omega)
    ·
     exact rexpr_8 f u a B cap x y p e t c w hr hp hl hX hu hB he hlim hcap h (by have : (Rf.need 8) = 1 := rfl; omega)
    ·
     exact rexpr_9 f u a B cap x y p e t c w hr hp hl hX hu hB he hlim hcap h (by have : (Rf.need 9) = 2 := rfl; omega)
    ·
     exact rexpr_10 f u a B cap x y p e t c w hr hp hl hX hu hB he hlim hcap h (by have : (Rf.need 10) = 0 := rfl; omega)
    ·
     exact rexpr_11 f u a B cap x y p e t c w hr hp hl hX hu hB he hlim hcap h (by have : (Rf.need 11) = 0 := rfl; omega)
    ·
     exact rexpr_12 f u a B cap x y p e t c w hr hp hl hX hu hB he hlim hcap h (by have : (Rf.need 12) = 0 := rfl; omega)
    ·
     exact rexpr_14 f u a B cap x y p e t c w hr hp hl hX hu hB he hlim hcap h (by have : (Rf.need 14) = 1 := rfl; omega)
   ·
    exact rexpr_len f u a B cap x y p e t c w hr hp hl hX hu hB he hlim hcap h13 (Rf.need e.k) hn rfl hlen
theorem rexpr_is (u : List Dk) (a : Option Addr) (B cap : Nat) (x y : Int) (p : Pl) (hp : Pl.at u x y = some p) (hl : ULim u) : ∀ (f : Nat) (e : Ex), e.args.length ≤ e.c → ExLim f e.args → ExCap f e.args → RExOK f u a B cap x y p e
 | 0, e, hc, _, _ => fun w t c hr hu hB he => by
  have h0 : e.args = [] := he
  exact rexpr_step 0 u a B cap x y p e t c w hr hp hl (fun q hq => by rw [h0] at hq; cases hq) hu hB (by rw [h0] at he ⊢; exact ⟨by simp, Rows.nil_ _ _ _ _, fun e he => by cases he⟩) (by rw [h0]; simp) hc
 | f + 1, e, hc, hlim, hcap => fun w t c hr hu hB he =>
  rexpr_step f u a B cap x y p e t c w hr hp hl (fun q hq => rexpr_is u a B cap x y p hp hl f q (hcap q hq).1 (hlim.2 q hq) (hcap q hq).2) hu hB he hlim.1 hc
theorem Rf.cond_code (p : Pl) (e : Ex) : (Ty.same (Ty.expr p e) 2).2 = if (Rf.expr p e).2 = 0 ∧ (Rf.expr p e).1.k ≠ 2 then 14 else (Rf.expr p e).2 := by
 unfold Rf.expr
 rw [Rf.norm_code]
 unfold Ty.same
 by_cases h : (Ty.expr p e).2 = 0
 ·
  rw [Rf.norm_type h]
  by_cases h2 : (Ty.expr p e).1.k = 2 <;> simp [h, h2]
 ·
  simp [h]
set_option maxRecDepth 100000 in
set_option maxHeartbeats 4000000 in
theorem rcond_is (f : Nat) (u : List Dk) (a : Option Addr) (B cap : Nat) (x y : Int) (p : Pl) (e : Ex) (r : Int) (w : World) (hr : (Ty.same (Ty.expr p e) 2).2 = r) (hX : RExOK f u a B cap x y p e) (hu : UnitAt w B a u) (hB : B ≤ w.heap.size) (he : ExsAt f w B e.A e.args) :
  Calls Try.prog 90 #[.agg #[.slice a u.length cap], .agg #[.int .i64 x, .int .i64 y], .agg #[.int .i64 e.k, .int .i64 e.n, .string e.name, .string e.what, .slice e.A e.args.length e.c]] w fun z w' => z = .returned (.int .i64 r) ∧ Below w.heap.size w w' := by
 have HU := Aid.hid hu; have HX := Aid.hid hX; have HE := Aid.hid he; have HR := Aid.hid hr
 obtain ⟨⟨t1, d1⟩, h1⟩ : ∃ r, Rf.expr p e = r := ⟨_, rfl⟩
 have HE1 := Aid.hid h1
 have HR2 : Hid ((if d1 = 0 ∧ t1.k ≠ 2 then 14 else d1) = r) := Aid.hid (by rw [← hr, Rf.cond_code, h1])
 obtain ⟨W, hW, Nu, Np, Ne, K0⟩ := newh3 w [.slice a u.length cap] [.int .i64 x, .int .i64 y] [.int .i64 e.k, .int .i64 e.n, .string e.name, .string e.what, .slice e.A e.args.length e.c] 24 26 29
 clear hu hX he hr h1
 obtain ⟨xu0, lu⟩ := xc1 Nu
 obtain ⟨xp0, xp1, lp⟩ := xc2 Np
 obtain ⟨xe0, xe1, xe2, xe3, xe4, le⟩ := xc5 Ne
 go_enter Try.func90, Try.ntmps90
 try simp only [List.append_eq, List.cons_append, List.nil_append]
 go_wp2_with fail
 (try clear hW)
 refine (HX.out _ t1 d1 HE1.out (HU.out.below (K0.out) hB) (Nat.le_trans hB (K0.out).size) (HE.out.below K0.out hB)).mono ?_; rintro _ w1 ⟨rfl, hb1⟩
 have Kx1 := kb K0 hb1
 have Nu_1 := nb hb1 Nu
 have Np_1 := nb hb1 Np
 have Ne_1 := nb hb1 Ne
 clear xu0 lu xp0 xp1 lp xe0 xe1 xe2 xe3 xe4 le
 clear hb1
 obtain ⟨X2, hX⟩ : ∃ X, w1.alloc (.cells #[.int .i64 t1.k, .int .i64 t1.lo, .int .i64 t1.hi, .string t1.name] 36) = X := ⟨_, rfl⟩
 have Nu_2 := na hX Nu_1
 have Np_2 := na hX Np_1
 have Ne_2 := na hX Ne_1
 have Nt_2 := nw hX
 have Kx2 := nk hX Kx1
 have Qs2 := nq hX
 obtain ⟨xt0, lt⟩ := xc1 Nt_2
 by_cases hd : d1 = 0
 ·
  subst hd
  by_cases h2 : t1.k = 2
  ·
   have f2 : (t1.k != 2) = false := by simp [h2]
   obtain rfl : 0 = r := by have h := HR2.out; simpa [h2] using h
   clear h2
   go_wp2_with fail
   go_ret
   exact ⟨rfl, Kx2.out⟩
  ·
   have f2 : (t1.k != 2) = true := by simpa using h2
   obtain rfl : 14 = r := by have h := HR2.out; simpa [h2] using h
   clear h2
   go_wp2_with fail
   go_ret
   exact ⟨rfl, Kx2.out⟩
 ·
  have f2 : (d1 == 0) = false := by simpa using hd
  obtain rfl : d1 = r := by have h := HR2.out; simpa [hd] using h
  clear hd
  go_wp2_with fail
  go_ret
  exact ⟨rfl, Kx2.out⟩
end Go.Proofs.Ytmhdcehpddbjaaa
/- The document's returns, as a walk. -/
namespace Go.Proofs.Ytmhdcehpddbjaaa
open Go.RowKit

theorem row_keep {w : World} {g b : Nat} {xs zs : List Value} {t t' : TypeId} (h : Aid.Has w b xs t) (_hg : Aid.Has w g zs t') (hne : b ≠ g) (cs : Array Value) : Aid.Has (w.setRow g cs) b xs t := by
 unfold Aid.Has at h ⊢; rw [row_heap w g cs b hne]; exact h
theorem Rf.returned_nil (p : Pl) : Ty.returned p [] = if p.answers = true then 14 else 0 := rfl
theorem Rf.returned_cons (p : Pl) (e : Ex) (l : List Ex) : Ty.returned p ((e :: l).map (Ty.expr p)) = if (Rf.expr p e).2 = 0 ∧ (p.answers = false ∨ Ty.fits p.u p.res (Rf.expr p e).1 = false) then 14 else (Rf.expr p e).2 := by
 unfold Rf.expr
 rw [Rf.norm_code]
 by_cases h : (Ty.expr p e).2 = 0
 ·
  rw [Rf.norm_type h]; rfl
 ·
  simp [Ty.returned, h]
set_option maxRecDepth 100000 in
set_option maxHeartbeats 4000000 in
theorem rreturns_is (f : Nat) (u : List Dk) (a : Option Addr) (B cap : Nat) (x y : Int) (p : Pl) (s : St) (r : Int) (w : World) (hr : Ty.returned p (s.es.map (Ty.expr p)) = r) (hp : Pl.at u x y = some p) (hl : ULim u) (hX : ∀ q ∈ s.es, RExOK f u a B cap x y p q) (hu : UnitAt w B a u) (hB : B ≤ w.heap.size) (he : ExsAt (f + 1) w B s.eA s.es) :
  Calls Try.prog 92 #[.agg #[.slice a u.length cap], .agg #[.int .i64 x, .int .i64 y], .agg #[.int .i64 s.k, .int .i64 s.n, .string s.name, .slice s.eA s.es.length s.ec, .slice s.lA s.ls.length s.lc, .slice s.bA s.bs.length s.bc]] w fun z w' => z = .returned (.int .i64 r) ∧ Below w.heap.size w w' := by
 have HU := Aid.hid hu; have HX := Aid.hid hX; have HE := Aid.hid he; have HR := Aid.hid hr; have HPU := Aid.hid (Pl.at_u hp)
 obtain ⟨i, d, rfl, hd, hil, hcase⟩ := Pl.at_in hp
 have sm := hu.small
 obtain ⟨W, hW, Nu, Np, Ns, K0⟩ := newh3 w [.slice a u.length cap] [.int .i64 (i : Int), .int .i64 y] [.int .i64 s.k, .int .i64 s.n, .string s.name, .slice s.eA s.es.length s.ec, .slice s.lA s.ls.length s.lc, .slice s.bA s.bs.length s.bc] 24 26 58
 have HD := Aid.hid hd
 have HC := Aid.hid hcase
 clear hu hX he hr hp hd hcase
 obtain ⟨xu0, lu⟩ := xc1 Nu
 obtain ⟨xp0, xp1, lp⟩ := xc2 Np
 obtain ⟨xs0, xs1, xs2, xs3, xs4, xs5, ls⟩ := xc6 Ns
 go_enter Try.func92, Try.ntmps92
 try simp only [List.append_eq, List.cons_append, List.nil_append]
 rcases HC.out with ⟨hk, rfl, hpe⟩ | ⟨hk, j, m, rfl, hm, hjl, hpe⟩
 ·
  have HAN : Hid (p.answers = false) := Aid.hid (by rw [hpe]; rfl)
  clear hpe HC
  by_cases hes : s.es = []
  ·
   have HES := Aid.hid hes
   have hq : ((s.es.length : Int) == 0) = true := by rw [hes]; rfl
   obtain rfl : 0 = r := by have h := HR.out; rw [HES.out, List.map_nil, Rf.returned_nil, HAN.out] at h; simpa using h
   clear hes
   go_wp2_with fail
   go_ret
   exact ⟨rfl, (K0.out).alloc (K0.out).size _⟩
  ·
   have hq0 : ((s.es.length : Int) == 0) = false := by simpa [List.length_eq_zero_iff] using hes
   go_wp2_with fail
   (try clear hW)
   obtain ⟨X1, hX⟩ : ∃ X, W.alloc (.cells #[.int .i64 0, .int .i64 0, .int .i64 0, .string ⟨#[]⟩] 36) = X := ⟨_, rfl⟩
   have Nu_1 := na hX Nu
   have Np_1 := na hX Np
   have Ns_1 := na hX Ns
   have Nwt_1 := nw hX
   have Kx1 := nk hX K0
   have Qs1 := nq hX
   rw [hX]
   clear xu0 lu xp0 xp1 lp xs0 xs1 xs2 xs3 xs4 xs5 ls
   clear hX
   obtain ⟨e, l, hel⟩ : ∃ e l, s.es = e :: l := List.exists_cons_of_ne_nil hes
   have hq : ((s.es.length : Int) == 0) = false := by simpa [List.length_eq_zero_iff] using hes
   have hi0n : 0 < s.es.length := by rw [hel]; simp
   have HEL := Aid.hid hel
   obtain ⟨⟨t1, d1⟩, h1⟩ : ∃ r, Rf.expr p e = r := ⟨_, rfl⟩
   have HE1 := Aid.hid h1
   have HR2 := Aid.hid (show (if d1 = 0 ∧ (p.answers = false ∨ Ty.fits p.u p.res t1 = false) then 14 else d1) = r by rw [← HR.out, HEL.out, Rf.returned_cons, h1])
   have HX1 := Aid.hid (HX.out e (by rw [hel]; simp))
   obtain ⟨eb, off, hA, hebB, hc, hs⟩ := Ex.at1 (HE.out.below Kx1.out hB) (i := 0) (e := e) (by rw [hel]; rfl)
   have c0 := hc 0 _ rfl
   have c1 := hc 1 _ rfl
   have c2 := hc 2 _ rfl
   have c3 := hc 3 _ rfl
   have c4 := hc 4 _ rfl
   simp only [Nat.add_zero, Nat.zero_mul] at c0 c1 c2 c3 c4
   have leb : eb < X1.heap.size := Nat.lt_of_lt_of_le hebB (Nat.le_trans hB (Kx1.out).size)
   have HS := Aid.hid hs
   clear hes hel h1 hc hs
   obtain ⟨xu0, lu⟩ := xc1 Nu_1
   obtain ⟨xp0, xp1, lp⟩ := xc2 Np_1
   have xs3 := Ns_1.out.cell 3 _ rfl
   have ls := Ns_1.out.lt
   rw [hA] at xs3
   have HA := Aid.hid hA
   clear hA
   go_wp2_with fail
   refine wp_cut (fun a0 e a' w' => e = .normal ∧ Aid.Kept (∃ (g : Nat) (v34 v35 v36 v37 v38 v39 v40 v33 v41 v42 : Value), a' = putL a0 [(34, v34), (35, v35), (36, v36), (37, v37), (38, v38), (39, v39), (40, v40), (33, v33), (41, v41), (42, v42), (8, .pointer (some ⟨g, 0, none⟩)), (9, .int .i64 d1)] ∧ Aid.Has w' g [.int .i64 t1.k, .int .i64 t1.lo, .int .i64 t1.hi, .string t1.name] 36 ∧ X1.heap.size ≤ g ∧ Below X1.heap.size X1 w')) ?_ ?_
   ·
    have HZ := Aid.hid (fun (w' : World) (hSw : Below X1.heap.size X1 w') => (⟨kc hSw xu0 lu, kc hSw xp0 lp, kc hSw xp1 lp, kc hSw xs3 ls, kc hSw c0 leb, kc hSw c1 leb, kc hSw c2 leb, kc hSw c3 leb, kc hSw c4 leb⟩ : _ ∧ _ ∧ _ ∧ _ ∧ _ ∧ _ ∧ _ ∧ _ ∧ _))
    have hb : Below X1.heap.size X1 X1.drew := (Below.refl _ _).drew
    refine Ord.wp_region_go (fun w' => Below X1.heap.size X1 w') 12 [0, 1, 2, 3, 4, 5, 7, 8, 9] (by kernel_rfl) (by kernel_rfl) (fun _ _ _ _ _ h => by cases h.1) (hb) ?_
    clear hb
    have hb : Below X1.heap.size X1 X1.drew := (Below.refl _ _).drew
    generalize X1.drew = wd0 at *
    apply Ord.go_light (i := 0) (by kernel_rfl)
    next => (simp only [la0, la1, la2]; rfl)
    next => rfl
    next => (intro w' hSw; have z := HZ.out w' hSw; clear hSw; go_simp; first | done | with_reducible rfl)
    simp only [Act.put, la3, la4, la5]
    apply Ord.go_light (i := 1) (by kernel_rfl)
    next => (simp only [la0, la1, la2]; rfl)
    next => rfl
    next => (intro w' hSw; have z := HZ.out w' hSw; clear hSw; go_simp; first | done | with_reducible rfl)
    simp only [Act.put, la3, la4, la5]
    apply Ord.go_light (i := 2) (by kernel_rfl)
    next => (simp only [la0, la1, la2]; rfl)
    next => rfl
    next => (intro w' hSw; have z := HZ.out w' hSw; clear hSw; go_simp; first | done | with_reducible rfl)
    simp only [Act.put, la3, la4, la5]
    apply Ord.go_light (i := 3) (by kernel_rfl)
    next => (simp only [la0, la1, la2]; rfl)
    next => rfl
    next => (intro w' hSw; have z := HZ.out w' hSw; clear hSw; go_simp; first | done | with_reducible rfl)
    simp only [Act.put, la3, la4, la5]
    apply Ord.go_light (i := 4) (by kernel_rfl)
    next => (simp only [la0, la1, la2]; rfl)
    next => rfl
    next => (intro w' hSw; have z := HZ.out w' hSw; clear hSw; go_simp; first | done | with_reducible rfl)
    simp only [Act.put, la3, la4, la5]
    apply Ord.go_light (i := 5) (by kernel_rfl)
    next => (simp only [la0, la1, la2]; rfl)
    next => rfl
    next => (intro w' hSw; have z := HZ.out w' hSw; clear hSw; go_simp; first | done | with_reducible rfl)
    simp only [Act.put, la3, la4, la5]
    refine Ord.go_two (i := 6) (j := 10) (by kernel_rfl) (by kernel_rfl) ?_ ?_
    ·
     apply Ord.go_done1
     next => (simp only [la0, la1, la2]; rfl)
     next => rfl
     intro K hK
     go_wp2_with fail
     refine (HX1.out _ t1 d1 HE1.out (HU.out.below (((Kx1.out).trans (hb.mono (Kx1.out).size))) hB) (Nat.le_trans hB (((Kx1.out).trans (hb.mono (Kx1.out).size))).size) (HS.out.below (hb.mono (Nat.le_trans hB (Kx1.out).size)) (Nat.le_refl _))).mono ?_; rintro _ vc ⟨rfl, hb'⟩; dsimp only
     refine hK.out _ _ (hb.trans (hb'.mono hb.size)) (fun hHeld => ?_)
     clear hb hb'
     have hb := hHeld
     clear hK K
     try simp only [Act.put, la3, la4, la5]
     apply Ord.go_light (i := 7) (by kernel_rfl)
     next => (simp only [la0, la1, la2]; rfl)
     next => rfl
     next => (intro w' hSw; have z := HZ.out w' hSw; clear hSw; go_simp; first | done | with_reducible rfl)
     simp only [Act.put, la3, la4, la5]
     apply Ord.go_light (i := 8) (by kernel_rfl)
     next => (simp only [la0, la1, la2]; rfl)
     next => rfl
     next => (intro w' hSw; have z := HZ.out w' hSw; clear hSw; go_simp; first | done | with_reducible rfl)
     simp only [Act.put, la3, la4, la5]
     apply Ord.go_light (i := 9) (by kernel_rfl)
     next => (simp only [la0, la1, la2]; rfl)
     next => rfl
     next => (intro w' hSw; have z := HZ.out w' hSw; clear hSw; go_simp; first | done | with_reducible rfl)
     simp only [Act.put, la3, la4, la5]
     refine Ord.go_one (i := 10) (by kernel_rfl) (by kernel_rfl) ?_
     apply Ord.go_done1
     next => (simp only [la0, la1, la2]; rfl)
     next => rfl
     intro K hK
     go_wp2_with fail
     have hg := Aid.Has.new vc [.int .i64 0, .int .i64 0, .int .i64 0, .string ⟨#[]⟩] 36
     have hgs := hb.size
     refine hK.out _ _ (hb.alloc hb.size _) (fun hHeld => ?_)
     clear hb
     have hb := hHeld
     generalize hX : vc.alloc _ = wx at *
     clear hX
     clear hK K
     try simp only [Act.put, la3, la4, la5]
     refine Ord.go_one (i := 11) (by kernel_rfl) (by kernel_rfl) ?_
     apply Ord.go_done1
     next => (simp only [la0, la1, la2]; rfl)
     next => rfl
     intro K hK
     refine wp_store_row 36 _ _ rfl (vc.heap.size) _ rfl rfl 36 _ hg (by kernel_rfl) rfl (by simp [Value.oneCell']) ?_
     refine hK.out _ _ (row_below hb hgs _) (fun hHeld => ?_)
     have hg := row_has (ys := [.int .i64 t1.k, .int .i64 t1.lo, .int .i64 t1.hi, .string t1.name]) hg
     clear hb
     have hb := hHeld
     generalize hX : World.setRow _ _ _ = ws at *
     clear hX
     clear hK K
     refine Ord.go_tail ?_; simp only [List.drop_succ_cons, List.drop_zero]
     go_wp2_with fail
     (try refine ⟨rfl, ?_⟩)
     unfold Aid.Kept
     refine ⟨vc.heap.size, ?_⟩
     all_goals (repeat' apply And.intro)
     all_goals first | exact hg | exact hgs | exact hb | (simp only [putL, Act.put, la3, la4, la5]; exact ⟨_, _, _, _, _, _, _, _, _, _, rfl⟩)
    ·
     apply Ord.go_done1
     next => (simp only [la0, la1, la2]; rfl)
     next => rfl
     intro K hK
     go_wp2_with fail
     have hg := Aid.Has.new wd0 [.int .i64 0, .int .i64 0, .int .i64 0, .string ⟨#[]⟩] 36
     have hgs := hb.size
     refine hK.out _ _ (hb.alloc hb.size _) (fun hHeld => ?_)
     clear hb
     have hb := hHeld
     generalize hX : wd0.alloc _ = wx at *
     clear hX
     clear hK K
     try simp only [Act.put, la3, la4, la5]
     refine Ord.go_one (i := 6) (by kernel_rfl) (by kernel_rfl) ?_
     apply Ord.go_done1
     next => (simp only [la0, la1, la2]; rfl)
     next => rfl
     intro K hK
     go_wp2_with fail
     refine (HX1.out _ t1 d1 HE1.out (HU.out.below (((Kx1.out).trans (hb.mono (Kx1.out).size))) hB) (Nat.le_trans hB (((Kx1.out).trans (hb.mono (Kx1.out).size))).size) (HS.out.below (hb.mono (Nat.le_trans hB (Kx1.out).size)) (Nat.le_refl _))).mono ?_; rintro _ vc ⟨rfl, hb'⟩; dsimp only
     refine hK.out _ _ (hb.trans (hb'.mono hb.size)) (fun hHeld => ?_)
     have hg := hg.below hb' hg.lt
     clear hb hb'
     have hb := hHeld
     clear hK K
     try simp only [Act.put, la3, la4, la5]
     apply Ord.go_light (i := 7) (by kernel_rfl)
     next => (simp only [la0, la1, la2]; rfl)
     next => rfl
     next => (intro w' hSw; have z := HZ.out w' hSw; clear hSw; go_simp; first | done | with_reducible rfl)
     simp only [Act.put, la3, la4, la5]
     apply Ord.go_light (i := 8) (by kernel_rfl)
     next => (simp only [la0, la1, la2]; rfl)
     next => rfl
     next => (intro w' hSw; have z := HZ.out w' hSw; clear hSw; go_simp; first | done | with_reducible rfl)
     simp only [Act.put, la3, la4, la5]
     apply Ord.go_light (i := 9) (by kernel_rfl)
     next => (simp only [la0, la1, la2]; rfl)
     next => rfl
     next => (intro w' hSw; have z := HZ.out w' hSw; clear hSw; go_simp; first | done | with_reducible rfl)
     simp only [Act.put, la3, la4, la5]
     refine Ord.go_one (i := 11) (by kernel_rfl) (by kernel_rfl) ?_
     apply Ord.go_done1
     next => (simp only [la0, la1, la2]; rfl)
     next => rfl
     intro K hK
     refine wp_store_row 36 _ _ rfl (wd0.heap.size) _ rfl rfl 36 _ hg (by kernel_rfl) rfl (by simp [Value.oneCell']) ?_
     refine hK.out _ _ (row_below hb hgs _) (fun hHeld => ?_)
     have hg := row_has (ys := [.int .i64 t1.k, .int .i64 t1.lo, .int .i64 t1.hi, .string t1.name]) hg
     clear hb
     have hb := hHeld
     generalize hX : World.setRow _ _ _ = ws at *
     clear hX
     clear hK K
     refine Ord.go_tail ?_; simp only [List.drop_succ_cons, List.drop_zero]
     go_wp2_with fail
     (try refine ⟨rfl, ?_⟩)
     unfold Aid.Kept
     refine ⟨wd0.heap.size, ?_⟩
     all_goals (repeat' apply And.intro)
     all_goals first | exact hg | exact hgs | exact hb | (simp only [putL, Act.put, la3, la4, la5]; exact ⟨_, _, _, _, _, _, _, _, _, _, rfl⟩)
   rintro e' a' w2 ⟨rfl, g2, v34, v35, v36, v37, v38, v39, v40, v33, v41, v42, rfl, hg2, hgl2, hb2⟩
   simp only [putL, Act.put, la3, la4, la5]
   have Nnew2 := Aid.hid hg2
   clear hg2
   have hbq2 := hb2
   have Kx2 := kb Kx1 hb2
   have Nu_2 := nb hb2 Nu_1
   have Np_2 := nb hb2 Np_1
   have Ns_2 := nb hb2 Ns_1
   have Nwt_2 := nb hb2 Nwt_1
   clear xu0 lu xp0 xp1 lp xs3 ls c0 c1 c2 c3 c4 leb
   clear hb2
   obtain ⟨xu0, lu⟩ := xc1 Nu_2
   obtain ⟨xwt0, xwt1, xwt2, xwt3, lwt⟩ := xc4 Nwt_2
   obtain ⟨xnew20, xnew21, xnew22, xnew23, lnew2⟩ := xc4 Nnew2
   by_cases hd : d1 = 0
   ·
    subst hd
    obtain rfl : 14 = r := by have h := HR2.out; rw [HAN.out] at h; simpa using h
    go_wp2_with fail
    go_ret
    exact ⟨rfl, Kx2.out⟩
   ·
    have f2 : (d1 != 0) = true := by simpa using hd
    obtain rfl : d1 = r := by have h := HR2.out; simpa [hd] using h
    clear hd
    go_wp2_with fail
    go_ret
    exact ⟨rfl, Kx2.out⟩
 ·
  have HAN : Hid (p.answers = decide (m.res.k ≠ 0)) := Aid.hid (by rw [hpe]; rfl)
  have HRS : Hid (p.res = m.res) := Aid.hid (by rw [hpe]; rfl)
  clear hpe HC
  have HM := Aid.hid hm
  have hj0 : decide ((0 : Int) ≤ (j : Int)) = true := by simp
  have hj1 : (j : Int) < (d.ms.length : Int) := by omega
  have hi1 : (i : Int) < (u.length : Int) := by omega
  have hi0 : (0 : Int) ≤ (i : Int) := by omega
  clear hm
  go_wp2_with fail
  (try clear hW)
  have HWZ := Aid.hid (K0.out).size
  have HLu := Aid.hid Nu.out.lt
  have HLp := Aid.hid Np.out.lt
  have HLs := Aid.hid Ns.out.lt
  obtain ⟨X1, hX⟩ : ∃ X, W.alloc (.cells #[.int .i64 0, .int .i64 0, .int .i64 0, .string ⟨#[]⟩] 36) = X := ⟨_, rfl⟩
  have Nu_1 := na hX Nu
  have Np_1 := na hX Np
  have Ns_1 := na hX Ns
  have Nwt_1 := nw hX
  have Kx1 := nk hX K0
  have Qs1 := nq hX
  rw [hX]
  clear xu0 lu xp0 xp1 lp xs0 xs1 xs2 xs3 xs4 xs5 ls
  clear hX
  obtain ⟨xu0, lu⟩ := xc1 Nu_1
  obtain ⟨xp0, xp1, lp⟩ := xc2 Np_1
  obtain ⟨ub, uo, hA, hub, hc⟩ := (HU.out.below Kx1.out hB).at_ (by omega)
  have hdd := (HU.out.below Kx1.out hB).decls d (List.mem_of_getElem? HD.out)
  have smm := hdd.smallM
  have u7 := hc i d HD.out 7 _ rfl
  obtain ⟨mb, mo, hmA, hmb, hc2⟩ := hdd.meth (by omega)
  have m5 := hc2 j m HM.out 5 _ rfl
  have m6 := hc2 j m HM.out 6 _ rfl
  have m7 := hc2 j m HM.out 7 _ rfl
  have m8 := hc2 j m HM.out 8 _ rfl
  rw [hA] at xu0
  rw [hmA] at u7
  have lub : ub < X1.heap.size := Nat.lt_of_lt_of_le hub (Nat.le_trans hB (Kx1.out).size)
  have lmb : mb < X1.heap.size := Nat.lt_of_lt_of_le hmb (Nat.le_trans hB (Kx1.out).size)
  have HA0 := Aid.hid hA
  clear hc hc2 hdd hmA hA smm
  have HZ := Aid.hid (fun (w' : World) (hSw : Below X1.heap.size X1 w') => (⟨kc hSw xu0 lu, kc hSw xp0 lp, kc hSw xp1 lp, kc hSw u7 lub, kc hSw m5 lmb, kc hSw m6 lmb, kc hSw m7 lmb, kc hSw m8 lmb⟩ : _ ∧ _ ∧ _ ∧ _ ∧ _ ∧ _ ∧ _ ∧ _))
  have hb : Below X1.heap.size X1 X1.drew := (Below.refl _ _).drew
  refine Ord.wp_region_walk (fun w' => Below X1.heap.size X1 w') 12 [(true, 0), (true, 1), (true, 2), (true, 3), (true, 4), (true, 5), (true, 6), (true, 7), (true, 8), (true, 9), (true, 10), (true, 11)] (by kernel_rfl) (by kernel_rfl) (fun _ _ d _ _ h => by cases d <;> exact h) (hb) ?_
  clear hb
  have hb : Below X1.heap.size X1 X1.drew := (Below.refl _ _).drew
  generalize X1.drew = wd1 at *
  iterate 12
   apply Ord.walk_light
   next => (simp only [la0, la1, la2]; rfl)
   next => rfl
   next => (intro w' hSw; have z := HZ.out w' hSw; clear hSw; go_simp; first | done | with_reducible rfl)
   simp only [Act.put, la3, la4, la5]
  refine Ord.walk_tail ?_; simp only [List.drop_succ_cons, List.drop_zero]
  have hbx := hb
  clear hb HZ
  have Kx2 := kb Kx1 hbx
  have Nu_2 := nb hbx Nu_1
  have Np_2 := nb hbx Np_1
  have Ns_2 := nb hbx Ns_1
  have Nwt_2 := nb hbx Nwt_1
  clear xu0 lu xp0 xp1 lp u7 lub m5 m6 m7 m8 lmb
  clear hbx
  go_upto_region 4 with (refine stT Nwt_2 rfl rfl rfl rfl rfl rfl (by simp [Value.oneCell']) ?_)
  have qwt := row_has (ys := [.int .i64 m.res.k, .int .i64 m.res.lo, .int .i64 m.res.hi, .string m.res.name]) Nwt_2.out
  have hbw : Below wd1.heap.size wd1 wd1 := Below.refl _ _
  have szw := HWZ.out
  have qu := row_keep Nu_2.out Nwt_2.out (Nat.ne_of_lt HLu.out) #[.int .i64 m.res.k, .int .i64 m.res.lo, .int .i64 m.res.hi, .string m.res.name]
  have qp := row_keep Np_2.out Nwt_2.out (Nat.ne_of_lt HLp.out) #[.int .i64 m.res.k, .int .i64 m.res.lo, .int .i64 m.res.hi, .string m.res.name]
  have qs := row_keep Ns_2.out Nwt_2.out (Nat.ne_of_lt HLs.out) #[.int .i64 m.res.k, .int .i64 m.res.lo, .int .i64 m.res.hi, .string m.res.name]
  have qqk := row_below (Kx2.out) HWZ.out #[.int .i64 m.res.k, .int .i64 m.res.lo, .int .i64 m.res.hi, .string m.res.name]
  obtain ⟨Y, hY⟩ : ∃ Y, wd1.setRow (W.heap.size) #[.int .i64 m.res.k, .int .i64 m.res.lo, .int .i64 m.res.hi, .string m.res.name] = Y := ⟨_, rfl⟩
  rw [hY] at qwt qu qp qs qqk ⊢
  clear hY hbw szw
  have Nu_y := Aid.hid qu; have Np_y := Aid.hid qp; have Ns_y := Aid.hid qs; have Nwt_y := Aid.hid qwt; have Ky := Aid.hid qqk
  clear qu qp qs qwt qqk
  by_cases hes : s.es = []
  ·
   have HES := Aid.hid hes
   have hq : ((s.es.length : Int) == 0) = true := by rw [hes]; rfl
   clear hes
   by_cases hk0 : m.res.k = 0
   ·
    have q0 : (m.res.k != 0) = false := by simp [hk0]
    obtain rfl : 0 = r := by have h := HR.out; rw [HES.out, List.map_nil, Rf.returned_nil, HAN.out] at h; simpa [hk0] using h
    clear hk0
    have xs3 := Ns_y.out.cell 3 _ rfl
    have ls := Ns_y.out.lt
    obtain ⟨xwt0, lwt⟩ := xc1 Nwt_y
    go_wp2_with fail
    go_ret
    exact ⟨rfl, Ky.out⟩
   ·
    have q0 : (m.res.k != 0) = true := by simpa using hk0
    obtain rfl : 14 = r := by have h := HR.out; rw [HES.out, List.map_nil, Rf.returned_nil, HAN.out] at h; simpa [hk0] using h
    clear hk0
    have xs3 := Ns_y.out.cell 3 _ rfl
    have ls := Ns_y.out.lt
    obtain ⟨xwt0, lwt⟩ := xc1 Nwt_y
    go_wp2_with fail
    go_ret
    exact ⟨rfl, Ky.out⟩
  ·
   obtain ⟨e, l, hel⟩ : ∃ e l, s.es = e :: l := List.exists_cons_of_ne_nil hes
   have hq : ((s.es.length : Int) == 0) = false := by simpa [List.length_eq_zero_iff] using hes
   have hi0n : 0 < s.es.length := by rw [hel]; simp
   have HEL := Aid.hid hel
   obtain ⟨⟨t1, d1⟩, h1⟩ : ∃ r, Rf.expr p e = r := ⟨_, rfl⟩
   have HE1 := Aid.hid h1
   have HR2 := Aid.hid (show (if d1 = 0 ∧ (p.answers = false ∨ Ty.fits p.u p.res t1 = false) then 14 else d1) = r by rw [← HR.out, HEL.out, Rf.returned_cons, h1])
   have HX1 := Aid.hid (HX.out e (by rw [hel]; simp))
   obtain ⟨eb, off, hA, hebB, hc, hs⟩ := Ex.at1 (HE.out.below Ky.out hB) (i := 0) (e := e) (by rw [hel]; rfl)
   have c0 := hc 0 _ rfl
   have c1 := hc 1 _ rfl
   have c2 := hc 2 _ rfl
   have c3 := hc 3 _ rfl
   have c4 := hc 4 _ rfl
   simp only [Nat.add_zero, Nat.zero_mul] at c0 c1 c2 c3 c4
   have leb : eb < Y.heap.size := Nat.lt_of_lt_of_le hebB (Nat.le_trans hB (Ky.out).size)
   have HS := Aid.hid hs
   clear hes hel h1 hc hs
   obtain ⟨xu0, lu⟩ := xc1 Nu_y
   obtain ⟨xp0, xp1, lp⟩ := xc2 Np_y
   have xs3 := Ns_y.out.cell 3 _ rfl
   have ls := Ns_y.out.lt
   rw [hA] at xs3
   have HA := Aid.hid hA
   clear hA
   go_wp2_with fail
   refine wp_cut (fun a0 e a' w' => e = .normal ∧ Aid.Kept (∃ (g : Nat) (v34 v35 v36 v37 v38 v39 v40 v33 v41 v42 : Value), a' = putL a0 [(34, v34), (35, v35), (36, v36), (37, v37), (38, v38), (39, v39), (40, v40), (33, v33), (41, v41), (42, v42), (8, .pointer (some ⟨g, 0, none⟩)), (9, .int .i64 d1)] ∧ Aid.Has w' g [.int .i64 t1.k, .int .i64 t1.lo, .int .i64 t1.hi, .string t1.name] 36 ∧ Y.heap.size ≤ g ∧ Below Y.heap.size Y w')) ?_ ?_
   ·
    have HZ := Aid.hid (fun (w' : World) (hSw : Below Y.heap.size Y w') => (⟨kc hSw xu0 lu, kc hSw xp0 lp, kc hSw xp1 lp, kc hSw xs3 ls, kc hSw c0 leb, kc hSw c1 leb, kc hSw c2 leb, kc hSw c3 leb, kc hSw c4 leb⟩ : _ ∧ _ ∧ _ ∧ _ ∧ _ ∧ _ ∧ _ ∧ _ ∧ _))
    have hb : Below Y.heap.size Y Y.drew := (Below.refl _ _).drew
    refine Ord.wp_region_go (fun w' => Below Y.heap.size Y w') 12 [0, 1, 2, 3, 4, 5, 7, 8, 9] (by kernel_rfl) (by kernel_rfl) (fun _ _ _ _ _ h => by cases h.1) (hb) ?_
    clear hb
    have hb : Below Y.heap.size Y Y.drew := (Below.refl _ _).drew
    generalize Y.drew = wd0 at *
    apply Ord.go_light (i := 0) (by kernel_rfl)
    next => (simp only [la0, la1, la2]; rfl)
    next => rfl
    next => (intro w' hSw; have z := HZ.out w' hSw; clear hSw; go_simp; first | done | with_reducible rfl)
    simp only [Act.put, la3, la4, la5]
    apply Ord.go_light (i := 1) (by kernel_rfl)
    next => (simp only [la0, la1, la2]; rfl)
    next => rfl
    next => (intro w' hSw; have z := HZ.out w' hSw; clear hSw; go_simp; first | done | with_reducible rfl)
    simp only [Act.put, la3, la4, la5]
    apply Ord.go_light (i := 2) (by kernel_rfl)
    next => (simp only [la0, la1, la2]; rfl)
    next => rfl
    next => (intro w' hSw; have z := HZ.out w' hSw; clear hSw; go_simp; first | done | with_reducible rfl)
    simp only [Act.put, la3, la4, la5]
    apply Ord.go_light (i := 3) (by kernel_rfl)
    next => (simp only [la0, la1, la2]; rfl)
    next => rfl
    next => (intro w' hSw; have z := HZ.out w' hSw; clear hSw; go_simp; first | done | with_reducible rfl)
    simp only [Act.put, la3, la4, la5]
    apply Ord.go_light (i := 4) (by kernel_rfl)
    next => (simp only [la0, la1, la2]; rfl)
    next => rfl
    next => (intro w' hSw; have z := HZ.out w' hSw; clear hSw; go_simp; first | done | with_reducible rfl)
    simp only [Act.put, la3, la4, la5]
    apply Ord.go_light (i := 5) (by kernel_rfl)
    next => (simp only [la0, la1, la2]; rfl)
    next => rfl
    next => (intro w' hSw; have z := HZ.out w' hSw; clear hSw; go_simp; first | done | with_reducible rfl)
    simp only [Act.put, la3, la4, la5]
    refine Ord.go_two (i := 6) (j := 10) (by kernel_rfl) (by kernel_rfl) ?_ ?_
    ·
     apply Ord.go_done1
     next => (simp only [la0, la1, la2]; rfl)
     next => rfl
     intro K hK
     go_wp2_with fail
     refine (HX1.out _ t1 d1 HE1.out (HU.out.below (((Ky.out).trans (hb.mono (Ky.out).size))) hB) (Nat.le_trans hB (((Ky.out).trans (hb.mono (Ky.out).size))).size) (HS.out.below (hb.mono (Nat.le_trans hB (Ky.out).size)) (Nat.le_refl _))).mono ?_; rintro _ vc ⟨rfl, hb'⟩; dsimp only
     refine hK.out _ _ (hb.trans (hb'.mono hb.size)) (fun hHeld => ?_)
     clear hb hb'
     have hb := hHeld
     clear hK K
     try simp only [Act.put, la3, la4, la5]
     apply Ord.go_light (i := 7) (by kernel_rfl)
     next => (simp only [la0, la1, la2]; rfl)
     next => rfl
     next => (intro w' hSw; have z := HZ.out w' hSw; clear hSw; go_simp; first | done | with_reducible rfl)
     simp only [Act.put, la3, la4, la5]
     apply Ord.go_light (i := 8) (by kernel_rfl)
     next => (simp only [la0, la1, la2]; rfl)
     next => rfl
     next => (intro w' hSw; have z := HZ.out w' hSw; clear hSw; go_simp; first | done | with_reducible rfl)
     simp only [Act.put, la3, la4, la5]
     apply Ord.go_light (i := 9) (by kernel_rfl)
     next => (simp only [la0, la1, la2]; rfl)
     next => rfl
     next => (intro w' hSw; have z := HZ.out w' hSw; clear hSw; go_simp; first | done | with_reducible rfl)
     simp only [Act.put, la3, la4, la5]
     refine Ord.go_one (i := 10) (by kernel_rfl) (by kernel_rfl) ?_
     apply Ord.go_done1
     next => (simp only [la0, la1, la2]; rfl)
     next => rfl
     intro K hK
     go_wp2_with fail
     have hg := Aid.Has.new vc [.int .i64 0, .int .i64 0, .int .i64 0, .string ⟨#[]⟩] 36
     have hgs := hb.size
     refine hK.out _ _ (hb.alloc hb.size _) (fun hHeld => ?_)
     clear hb
     have hb := hHeld
     generalize hX : vc.alloc _ = wx at *
     clear hX
     clear hK K
     try simp only [Act.put, la3, la4, la5]
     refine Ord.go_one (i := 11) (by kernel_rfl) (by kernel_rfl) ?_
     apply Ord.go_done1
     next => (simp only [la0, la1, la2]; rfl)
     next => rfl
     intro K hK
     refine wp_store_row 36 _ _ rfl (vc.heap.size) _ rfl rfl 36 _ hg (by kernel_rfl) rfl (by simp [Value.oneCell']) ?_
     refine hK.out _ _ (row_below hb hgs _) (fun hHeld => ?_)
     have hg := row_has (ys := [.int .i64 t1.k, .int .i64 t1.lo, .int .i64 t1.hi, .string t1.name]) hg
     clear hb
     have hb := hHeld
     generalize hX : World.setRow _ _ _ = ws at *
     clear hX
     clear hK K
     refine Ord.go_tail ?_; simp only [List.drop_succ_cons, List.drop_zero]
     go_wp2_with fail
     (try refine ⟨rfl, ?_⟩)
     unfold Aid.Kept
     refine ⟨vc.heap.size, ?_⟩
     all_goals (repeat' apply And.intro)
     all_goals first | exact hg | exact hgs | exact hb | (simp only [putL, Act.put, la3, la4, la5]; exact ⟨_, _, _, _, _, _, _, _, _, _, rfl⟩)
    ·
     apply Ord.go_done1
     next => (simp only [la0, la1, la2]; rfl)
     next => rfl
     intro K hK
     go_wp2_with fail
     have hg := Aid.Has.new wd0 [.int .i64 0, .int .i64 0, .int .i64 0, .string ⟨#[]⟩] 36
     have hgs := hb.size
     refine hK.out _ _ (hb.alloc hb.size _) (fun hHeld => ?_)
     clear hb
     have hb := hHeld
     generalize hX : wd0.alloc _ = wx at *
     clear hX
     clear hK K
     try simp only [Act.put, la3, la4, la5]
     refine Ord.go_one (i := 6) (by kernel_rfl) (by kernel_rfl) ?_
     apply Ord.go_done1
     next => (simp only [la0, la1, la2]; rfl)
     next => rfl
     intro K hK
     go_wp2_with fail
     refine (HX1.out _ t1 d1 HE1.out (HU.out.below (((Ky.out).trans (hb.mono (Ky.out).size))) hB) (Nat.le_trans hB (((Ky.out).trans (hb.mono (Ky.out).size))).size) (HS.out.below (hb.mono (Nat.le_trans hB (Ky.out).size)) (Nat.le_refl _))).mono ?_; rintro _ vc ⟨rfl, hb'⟩; dsimp only
     refine hK.out _ _ (hb.trans (hb'.mono hb.size)) (fun hHeld => ?_)
     have hg := hg.below hb' hg.lt
     clear hb hb'
     have hb := hHeld
     clear hK K
     try simp only [Act.put, la3, la4, la5]
     apply Ord.go_light (i := 7) (by kernel_rfl)
     next => (simp only [la0, la1, la2]; rfl)
     next => rfl
     next => (intro w' hSw; have z := HZ.out w' hSw; clear hSw; go_simp; first | done | with_reducible rfl)
     simp only [Act.put, la3, la4, la5]
     apply Ord.go_light (i := 8) (by kernel_rfl)
     next => (simp only [la0, la1, la2]; rfl)
     next => rfl
     next => (intro w' hSw; have z := HZ.out w' hSw; clear hSw; go_simp; first | done | with_reducible rfl)
     simp only [Act.put, la3, la4, la5]
     apply Ord.go_light (i := 9) (by kernel_rfl)
     next => (simp only [la0, la1, la2]; rfl)
     next => rfl
     next => (intro w' hSw; have z := HZ.out w' hSw; clear hSw; go_simp; first | done | with_reducible rfl)
     simp only [Act.put, la3, la4, la5]
     refine Ord.go_one (i := 11) (by kernel_rfl) (by kernel_rfl) ?_
     apply Ord.go_done1
     next => (simp only [la0, la1, la2]; rfl)
     next => rfl
     intro K hK
     refine wp_store_row 36 _ _ rfl (wd0.heap.size) _ rfl rfl 36 _ hg (by kernel_rfl) rfl (by simp [Value.oneCell']) ?_
     refine hK.out _ _ (row_below hb hgs _) (fun hHeld => ?_)
     have hg := row_has (ys := [.int .i64 t1.k, .int .i64 t1.lo, .int .i64 t1.hi, .string t1.name]) hg
     clear hb
     have hb := hHeld
     generalize hX : World.setRow _ _ _ = ws at *
     clear hX
     clear hK K
     refine Ord.go_tail ?_; simp only [List.drop_succ_cons, List.drop_zero]
     go_wp2_with fail
     (try refine ⟨rfl, ?_⟩)
     unfold Aid.Kept
     refine ⟨wd0.heap.size, ?_⟩
     all_goals (repeat' apply And.intro)
     all_goals first | exact hg | exact hgs | exact hb | (simp only [putL, Act.put, la3, la4, la5]; exact ⟨_, _, _, _, _, _, _, _, _, _, rfl⟩)
   rintro e' a' w3 ⟨rfl, g3, v34, v35, v36, v37, v38, v39, v40, v33, v41, v42, rfl, hg3, hgl3, hb3⟩
   simp only [putL, Act.put, la3, la4, la5]
   have Nnew3 := Aid.hid hg3
   clear hg3
   have hbq3 := hb3
   have Kx3 := kb Ky hb3
   have Nu_3 := nb hb3 Nu_y
   have Np_3 := nb hb3 Np_y
   have Ns_3 := nb hb3 Ns_y
   have Nwt_3 := nb hb3 Nwt_y
   clear xu0 lu xp0 xp1 lp xs3 ls c0 c1 c2 c3 c4 leb
   clear hb3
   obtain ⟨xu0, lu⟩ := xc1 Nu_3
   obtain ⟨xwt0, xwt1, xwt2, xwt3, lwt⟩ := xc4 Nwt_3
   obtain ⟨xnew30, xnew31, xnew32, xnew33, lnew3⟩ := xc4 Nnew3
   by_cases hd : d1 = 0
   ·
    subst hd
    by_cases hk0 : m.res.k = 0
    ·
     have q0 : (m.res.k == 0) = true := by simp [hk0]
     obtain rfl : 14 = r := by have h := HR2.out; rw [HAN.out] at h; simpa [hk0] using h
     clear hk0
     go_wp2_with fail
     go_ret
     exact ⟨rfl, Kx3.out⟩
    ·
     have q0 : (m.res.k == 0) = false := by simpa using hk0
     obtain ⟨ff, hff⟩ : ∃ q, Ty.fits u m.res t1 = q := ⟨_, rfl⟩
     have HF := Aid.hid hff
     have HR3 := Aid.hid (show (if ff = false then (14 : Int) else 0) = r by
      have h := HR2.out
      rw [HAN.out, HPU.out, HRS.out, hff] at h
      rw [← h]; cases ff <;> simp [hk0])
     clear hk0 hff
     go_wp2_with fail
     refine (rfits_is u a B cap m.res t1 ff _ HF.out (HU.out.below (Kx3.out) hB) (Nat.le_trans hB (Kx3.out).size)).mono ?_; rintro _ w4 ⟨rfl, hb4⟩
     have Kx4 := kb Kx3 hb4
     have Nu_4 := nb hb4 Nu_3
     have Np_4 := nb hb4 Np_3
     have Ns_4 := nb hb4 Ns_3
     have Nwt_4 := nb hb4 Nwt_3
     have Nnew3_4 := nb hb4 Nnew3
     clear xu0 lu xwt0 xwt1 xwt2 xwt3 lwt xnew30 xnew31 xnew32 xnew33 lnew3
     clear hb4
     cases ff
     ·
      obtain rfl : 14 = r := by simpa using HR3.out
      go_wp2_with fail
      go_ret
      exact ⟨rfl, Kx4.out⟩
     ·
      obtain rfl : 0 = r := by simpa using HR3.out
      go_wp2_with fail
      go_ret
      exact ⟨rfl, Kx4.out⟩
   ·
    have f2 : (d1 != 0) = true := by simpa using hd
    obtain rfl : d1 = r := by have h := HR2.out; simpa [hd] using h
    clear hd
    go_wp2_with fail
    go_ret
    exact ⟨rfl, Kx3.out⟩
end Go.Proofs.Ytmhdcehpddbjaaa
/- The document's onVar, as a walk. -/
namespace Go.Proofs.Ytmhdcehpddbjaaa
open Go.RowKit

/-- Statements' code is the document's. -/
def RStsOK (f : Nat) (u : List Dk) (a : Option Addr) (B cap : Nat) (x y : Int) (p : Pl) (l : List St) : Prop :=
 ∀ (w : World) (A : Option Addr) (c : Nat) (lo : Bool) (r : Int), Ty.stmts p lo l = r → UnitAt w B a u → B ≤ w.heap.size → StsAt f w B A l →
  Calls Try.prog 42 #[.agg #[.slice a u.length cap], .agg #[.int .i64 x, .int .i64 y], .slice A l.length c, .bool lo] w fun z w' => z = .returned (.int .i64 r) ∧ Below w.heap.size w w'
theorem Ty.hd_norm (rs : List Rs) : Ty.hd (rs.map Rf.norm) = Rf.norm (Ty.hd rs) := by cases rs <;> rfl
theorem Ty.kindsGo_norm : ∀ (rs : List Rs) (ks : List Int) (bad : Bool), Ty.kindsGo (rs.map Rf.norm) ks bad = Ty.kindsGo rs ks bad
 | [], _, _ => by simp [Ty.kindsGo]
 | a :: rs, [], _ => by simp [Ty.kindsGo]
 | a :: rs, k :: ks, bad => by
  simp only [List.map_cons, Ty.kindsGo, Rf.norm_code]
  by_cases h : a.2 = 0
  ·
   simp only [Rf.norm_type h, Ty.kindsGo_norm rs ks]
  ·
   simp [h]
theorem Ty.changed_norm (p : Pl) (k n : Int) (name : ByteArray) (rs : List Rs) (bt : List Int) : Ty.changed p k n name (rs.map Rf.norm) bt = Ty.changed p k n name rs bt := by
 unfold Ty.changed
 cases p.var name with
 | none => rfl
 | some v =>
  simp only [Ty.kindsGo_norm, Ty.hd_norm, Rf.norm_code]
  by_cases h : (Ty.hd rs).2 = 0
  ·
   simp only [Rf.norm_type h]
  ·
   simp [h]
theorem Rf.changed_eq (p : Pl) (k n : Int) (name : ByteArray) (es : List Ex) (bt : List Int) : Ty.changed p k n name (es.map (Ty.expr p)) bt = Ty.changed p k n name (es.map (Rf.expr p)) bt := by
 rw [← Ty.changed_norm, List.map_map]; rfl
def KG (k1 k2 : Int) (t1 : Ty) (c1 : Int) (t2 : Ty) (c2 : Int) : Int := if c1 ≠ 0 then c1 else if c2 ≠ 0 then c2 else if t1.k ≠ k1 ∨ t2.k ≠ k2 then 14 else 0
theorem KG_eq (k1 k2 : Int) (t1 : Ty) (c1 : Int) (t2 : Ty) (c2 : Int) : Ty.kindsGo [(t1, c1), (t2, c2)] [k1, k2] false = KG k1 k2 t1 c1 t2 c2 := by
 unfold KG; simp only [Ty.kindsGo]; simp
set_option maxRecDepth 100000 in
set_option maxHeartbeats 4000000 in
theorem ronVar_1 (f : Nat) (u : List Dk) (a : Option Addr) (B cap : Nat) (x y : Int) (p : Pl) (s : St) (r : Int) (w : World) (hr : Ty.changed p s.k s.n s.name (s.es.map (Ty.expr p)) (s.bs.map fun b => Ty.stmts p true b.l) = r) (hp : Pl.at u x y = some p) (hl : ULim u) (hX : ∀ q ∈ s.es, RExOK f u a B cap x y p q) (hu : UnitAt w B a u) (hB : B ≤ w.heap.size) (he : ExsAt (f + 1) w B s.eA s.es) (hcap : s.es.length ≤ s.ec) (hk : s.k = 1) (hlen : s.es.length = 1) :
  Calls Try.prog 89 #[.agg #[.slice a u.length cap], .agg #[.int .i64 x, .int .i64 y], .agg #[.int .i64 s.k, .int .i64 s.n, .string s.name, .slice s.eA s.es.length s.ec, .slice s.lA s.ls.length s.lc, .slice s.bA s.bs.length s.bc]] w fun z w' => z = .returned (.int .i64 r) ∧ Below w.heap.size w w' := by
 have HU := Aid.hid hu; have HUL := Aid.hid hl; have HPP := Aid.hid hp; have HX := Aid.hid hX; have HE := Aid.hid he; have HCP := Aid.hid hcap; have HPU := Aid.hid (Pl.at_u hp)
 have k1 : (s.k == 1) = true := by simp [hk]
 obtain ⟨k2, k3, k8, k11, -⟩ : nes s.k [2, 3, 8, 11] := by simp [nes, hk]
 obtain ⟨o, ho⟩ : ∃ o, p.var s.name = o := ⟨_, rfl⟩
 obtain ⟨v, hv⟩ : ∃ v, Ty.vof o = v := ⟨_, rfl⟩
 obtain ⟨is, his⟩ : ∃ b, o.isSome = b := ⟨_, rfl⟩
 have HO := Aid.hid ho; have HV := Aid.hid hv; have HIS := Aid.hid his
 have HR : Hid (Ty.changed p s.k s.n s.name (s.es.map (Rf.expr p)) (s.bs.map fun b => Ty.stmts p true b.l) = r) := Aid.hid (by rw [← Rf.changed_eq]; exact hr)
 have HKK := Aid.hid hk
 have HLN := Aid.hid hlen
 obtain ⟨W, hW, Nu, Np, Ns, K0⟩ := newh3 w [.slice a u.length cap] [.int .i64 x, .int .i64 y] [.int .i64 s.k, .int .i64 s.n, .string s.name, .slice s.eA s.es.length s.ec, .slice s.lA s.ls.length s.lc, .slice s.bA s.bs.length s.bc] 24 26 58
 clear hu hl hp hX he hcap hr hk hlen ho hv his
 obtain ⟨xu0, lu⟩ := xc1 Nu
 obtain ⟨xp0, xp1, lp⟩ := xc2 Np
 obtain ⟨xs0, xs1, xs2, xs3, xs4, xs5, ls⟩ := xc6 Ns
 go_enter Try.func89, Try.ntmps89
 try simp only [List.append_eq, List.cons_append, List.nil_append]
 go_wp2_with fail
 (try clear hW)
 refine (rvar_x u a B cap x y p s.name o v is _ HO.out HV.out HIS.out HPP.out (HU.out.below (K0.out) hB) (Nat.le_trans hB (K0.out).size) HUL.out).mono ?_; rintro _ w1 ⟨rfl, hb1⟩
 have Kx1 := kb K0 hb1
 have Nu_1 := nb hb1 Nu
 have Np_1 := nb hb1 Np
 have Ns_1 := nb hb1 Ns
 clear xu0 lu xp0 xp1 lp xs0 xs1 xs2 xs3 xs4 xs5 ls
 clear hb1
 obtain ⟨X2, hX⟩ : ∃ X, w1.alloc (.cells #[.string v.name, .int .i64 v.ty.k, .int .i64 v.ty.lo, .int .i64 v.ty.hi, .string v.ty.name, .int .i64 v.init, .int .i64 v.dir, .int .i64 v.slot] 74) = X := ⟨_, rfl⟩
 have Nu_2 := na hX Nu_1
 have Np_2 := na hX Np_1
 have Ns_2 := na hX Ns_1
 have Nv_2 := nw hX
 have Kx2 := nk hX Kx1
 have Qs2 := nq hX
 cases o with
 | none =>
   obtain rfl : false = is := HIS.out
   obtain rfl : 13 = r := by have h := HR.out; rw [Ty.changed, HO.out] at h; exact h
   go_wp2_with fail
   go_ret
   exact ⟨rfl, Kx2.out⟩
 | some vv =>
   obtain rfl : true = is := HIS.out
   obtain rfl : vv = v := HV.out
   obtain ⟨xu0, lu⟩ := xc1 Nu_2
   obtain ⟨xp0, xp1, lp⟩ := xc2 Np_2
   obtain ⟨xs0, xs1, xs2, xs3, xs4, xs5, ls⟩ := xc6 Ns_2
   obtain ⟨xv0, xv1, xv2, xv3, xv4, xv5, xv6, xv7, lv⟩ := xc8 Nv_2
   obtain ⟨q, hq⟩ := List.length_eq_one_iff.1 HLN.out
   have HQ := Aid.hid hq
   obtain ⟨⟨t1, c1⟩, he1⟩ : ∃ r, Rf.expr p q = r := ⟨_, rfl⟩
   have HA : Hid (Rf.all (s.es.map (Rf.expr p)) = if c1 ≠ 0 then ([], c1) else ([t1], 0)) := Aid.hid (by rw [hq]; simp only [List.map_cons, List.map_nil, he1]; exact Rf.all_one (t1, c1))
   have HR2 : Hid ((if vv.dir = 1 then 14 else if c1 = 0 ∧ Ty.fits u vv.ty t1 = false then 14 else c1) = r) := Aid.hid (by have h := HR.out; rw [HKK.out, hq] at h; simp only [List.map_cons, List.map_nil, he1] at h; simp [Ty.changed, HO.out, HPU.out, Ty.hd] at h; simpa using h)
   clear hq he1
   by_cases hbad : vv.dir = 1
   ·
    have f0 : (vv.dir == 1) = true := by simp [hbad]
    obtain rfl : 14 = r := by have h := HR2.out; simpa [hbad] using h
    clear hbad
    go_wp2_with fail
    go_ret
    exact ⟨rfl, Kx2.out⟩
   ·
    have f0 : (vv.dir == 1) = false := by simpa using hbad
    have HR3 : Hid ((if c1 = 0 ∧ Ty.fits u vv.ty t1 = false then 14 else c1) = r) := Aid.hid (by have h := HR2.out; simpa [hbad] using h)
    clear hbad
    obtain ⟨eb, off, hA, hebB, _, _⟩ := Ex.at1 (HE.out.below Kx2.out hB) (i := 0) (e := q) (by rw [HQ.out]; rfl)
    have HEA := Aid.hid hA
    have hln := HLN.out
    have hcc : ((1 : Int) ≤ (s.ec : Int)) := by have := HCP.out; omega
    clear hA
    rw [HEA.out, hln] at xs3
    clear hln
    go_wp2_with fail
    (try clear hX)
    obtain ⟨ts, ca, hal⟩ : ∃ ts ca, Rf.all (s.es.map (Rf.expr p)) = (ts, ca) := ⟨_, _, rfl⟩
    have HAX := Aid.hid hal
    clear hal
    have HZ := Aid.hid (fun (w' : World) (hSw : Below X2.heap.size X2 w') => (⟨kc hSw xu0 lu, kc hSw xp0 lp, kc hSw xp1 lp, kc hSw xs0 ls, kc hSw xs1 ls, kc hSw xs2 ls, kc hSw xs3 ls, kc hSw xs4 ls, kc hSw xs5 ls, kc hSw xv0 lv, kc hSw xv1 lv, kc hSw xv2 lv, kc hSw xv3 lv, kc hSw xv4 lv, kc hSw xv5 lv, kc hSw xv6 lv, kc hSw xv7 lv⟩ : _ ∧ _ ∧ _ ∧ _ ∧ _ ∧ _ ∧ _ ∧ _ ∧ _ ∧ _ ∧ _ ∧ _ ∧ _ ∧ _ ∧ _ ∧ _ ∧ _))
    have hb : Below X2.heap.size X2 X2.drew := (Below.refl _ _).drew
    refine Ord.wp_region_walk (fun w' => Below X2.heap.size X2 w') 11 [(true, 0), (true, 1), (true, 2), (true, 3), (true, 4), (true, 5), (false, 6), (true, 7), (true, 8), (true, 9), (true, 10)] (by kernel_rfl) (by kernel_rfl) (fun _ _ d _ _ h => by cases d <;> exact h) (hb) ?_
    clear hb
    have hb : Below X2.heap.size X2 X2.drew := (Below.refl _ _).drew
    generalize X2.drew = wd2 at *
    iterate 6
     apply Ord.walk_light
     next => (simp only [la0, la1, la2]; rfl)
     next => rfl
     next => (intro w' hSw; have z := HZ.out w' hSw; clear hSw; go_simp; first | done | with_reducible rfl)
     simp only [Act.put, la3, la4, la5]
    apply Ord.walk_heavy
    next => (simp only [la0, la1, la2]; rfl)
    next => rfl
    intro K hK
    go_wp2_with fail
    refine ((show Calls Try.prog 38 #[.agg #[.slice a u.length cap], .agg #[.int .i64 x, .int .i64 y], .slice (some ⟨eb, off, none⟩) 1 s.ec] _ _ by have h := rall_is f u a B cap x y p s.es (some ⟨eb, off, none⟩) s.ec ts ca _ HAX.out HX.out (HU.out.below (((Kx2.out).trans (hb.mono (Kx2.out).size))) hB) (Nat.le_trans hB (((Kx2.out).trans (hb.mono (Kx2.out).size))).size) (HEA.out ▸ HE.out.below (((Kx2.out).trans (hb.mono (Kx2.out).size))) hB) (by rw [HLN.out]; decide); rw [HLN.out] at h; exact h)).mono ?_; rintro _ v2_1 ⟨A9, c9, rfl, rw9, hb'⟩; dsimp only
    refine hK.out _ _ (hb.trans (hb'.mono hb.size)) (fun hHeld => ?_)
    clear hb hb'
    have hb := hHeld
    clear hK K
    try simp only [Act.put, la3, la4, la5]
    iterate 4
     apply Ord.walk_light
     next => (simp only [la0, la1, la2]; rfl)
     next => rfl
     next => (intro w' hSw; have z := HZ.out w' hSw; clear hSw; go_simp; first | done | with_reducible rfl)
     simp only [Act.put, la3, la4, la5]
    refine Ord.walk_tail ?_; simp only [List.drop_succ_cons, List.drop_zero]
    have hbx := hb
    clear hb HZ
    have Kx3 := kb Kx2 hbx
    have Nu_3 := nb hbx Nu_2
    have Np_3 := nb hbx Np_2
    have Ns_3 := nb hbx Ns_2
    have Nv_3 := nb hbx Nv_2
    clear xu0 lu xp0 xp1 lp xs0 xs1 xs2 xs3 xs4 xs5 ls xv0 xv1 xv2 xv3 xv4 xv5 xv6 xv7 lv
    clear hbx
    have HRW := Aid.hid rw9
    clear rw9
    have HAE := Aid.hid (HAX.out.symm.trans HA.out)
    obtain ⟨xu0, lu⟩ := xc1 Nu_3
    obtain ⟨xp0, xp1, lp⟩ := xc2 Np_3
    obtain ⟨xs0, xs1, xs2, xs3, xs4, xs5, ls⟩ := xc6 Ns_3
    obtain ⟨xv0, xv1, xv2, xv3, xv4, xv5, xv6, xv7, lv⟩ := xc8 Nv_3
    by_cases h1 : c1 = 0
    ·
     subst h1
     obtain ⟨rfl, rfl⟩ : ts = [t1] ∧ ca = 0 := by have h := HAE.out; simpa using h
     obtain ⟨tb, to, hA9, htb, htc⟩ := HRW.out.tyr_ (by simp)
     have d00 := htc 0 _ rfl 0 _ rfl
     have d01 := htc 0 _ rfl 1 _ rfl
     have d02 := htc 0 _ rfl 2 _ rfl
     have d03 := htc 0 _ rfl 3 _ rfl
     simp only [Nat.add_zero, Nat.zero_mul, Nat.one_mul] at d00 d01 d02 d03
     subst hA9
     clear htc
     obtain ⟨ff, hff⟩ : ∃ q, Ty.fits u vv.ty t1 = q := ⟨_, rfl⟩
     have HF := Aid.hid hff
     have HR4 : Hid ((if ff = false then (14 : Int) else 0) = r) := Aid.hid (by have h := HR3.out; rw [hff] at h; simpa using h)
     clear hff
     go_wp2_with fail
     have HZ := Aid.hid (fun (w' : World) (hSw : Below v2_1.heap.size v2_1 w') => (⟨kc hSw xu0 lu, kc hSw xp0 lp, kc hSw xp1 lp, kc hSw xs0 ls, kc hSw xs1 ls, kc hSw xs2 ls, kc hSw xs3 ls, kc hSw xs4 ls, kc hSw xs5 ls, kc hSw xv0 lv, kc hSw xv1 lv, kc hSw xv2 lv, kc hSw xv3 lv, kc hSw xv4 lv, kc hSw xv5 lv, kc hSw xv6 lv, kc hSw xv7 lv, kc hSw d00 htb, kc hSw d01 htb, kc hSw d02 htb, kc hSw d03 htb⟩ : _ ∧ _ ∧ _ ∧ _ ∧ _ ∧ _ ∧ _ ∧ _ ∧ _ ∧ _ ∧ _ ∧ _ ∧ _ ∧ _ ∧ _ ∧ _ ∧ _ ∧ _ ∧ _ ∧ _ ∧ _))
     have hb : Below v2_1.heap.size v2_1 v2_1.drew := (Below.refl _ _).drew
     refine Ord.wp_region_walk (fun w' => Below v2_1.heap.size v2_1 w') 7 [(true, 0), (true, 1), (true, 2), (true, 3), (true, 4), (true, 5), (false, 6)] (by kernel_rfl) (by kernel_rfl) (fun _ _ d _ _ h => by cases d <;> exact h) (hb) ?_
     clear hb
     have hb : Below v2_1.heap.size v2_1 v2_1.drew := (Below.refl _ _).drew
     generalize v2_1.drew = wd3 at *
     iterate 6
      apply Ord.walk_light
      next => (simp only [la0, la1, la2]; rfl)
      next => rfl
      next => (intro w' hSw; have z := HZ.out w' hSw; clear hSw; go_simp; first | done | with_reducible rfl)
      simp only [Act.put, la3, la4, la5]
     apply Ord.walk_heavy
     next => (simp only [la0, la1, la2]; rfl)
     next => rfl
     intro K hK
     go_wp2_with fail
     refine (rfits_is u a B cap vv.ty t1 ff _ HF.out (HU.out.below (((Kx3.out).trans (hb.mono (Kx3.out).size))) hB) (Nat.le_trans hB (((Kx3.out).trans (hb.mono (Kx3.out).size))).size)).mono ?_; rintro _ v3_1 ⟨rfl, hb'⟩; dsimp only
     refine hK.out _ _ (hb.trans (hb'.mono hb.size)) (fun hHeld => ?_)
     clear hb hb'
     have hb := hHeld
     clear hK K
     try simp only [Act.put, la3, la4, la5]
     refine Ord.walk_tail ?_; simp only [List.drop_succ_cons, List.drop_zero]
     have hbx := hb
     clear hb HZ
     have Kx4 := kb Kx3 hbx
     have Nu_4 := nb hbx Nu_3
     have Np_4 := nb hbx Np_3
     have Ns_4 := nb hbx Ns_3
     have Nv_4 := nb hbx Nv_3
     clear xu0 lu xp0 xp1 lp xs0 xs1 xs2 xs3 xs4 xs5 ls xv0 xv1 xv2 xv3 xv4 xv5 xv6 xv7 lv d00 d01 d02 d03 htb
     clear hbx
     obtain ⟨xs0, ls⟩ := xc1 Ns_4
     cases ff
     ·
      obtain rfl : 14 = r := by simpa using HR4.out
      go_wp2_with fail
      go_ret
      exact ⟨rfl, Kx4.out⟩
     ·
      obtain rfl : 0 = r := by simpa using HR4.out
      go_wp2_with fail
      go_ret
      exact ⟨rfl, Kx4.out⟩
    ·
     obtain ⟨rfl, rfl⟩ : ts = [] ∧ c1 = ca := by have h := HAE.out; simp [h1] at h; exact ⟨h.1, h.2.symm⟩
     have f9 : (c1 != 0) = true := by simpa using h1
     obtain rfl : c1 = r := by have h := HR3.out; simpa [KG, h1] using h
     clear h1
     go_wp2_with fail
     go_ret
     exact ⟨rfl, Kx3.out⟩
set_option maxRecDepth 100000 in
set_option maxHeartbeats 4000000 in
theorem ronVar_3 (f : Nat) (u : List Dk) (a : Option Addr) (B cap : Nat) (x y : Int) (p : Pl) (s : St) (r : Int) (w : World) (hr : Ty.changed p s.k s.n s.name (s.es.map (Ty.expr p)) (s.bs.map fun b => Ty.stmts p true b.l) = r) (hp : Pl.at u x y = some p) (hl : ULim u) (hX : ∀ q ∈ s.es, RExOK f u a B cap x y p q) (hu : UnitAt w B a u) (hB : B ≤ w.heap.size) (he : ExsAt (f + 1) w B s.eA s.es) (hcap : s.es.length ≤ s.ec) (hk : s.k = 3) (hlen : s.es.length = 1) :
  Calls Try.prog 89 #[.agg #[.slice a u.length cap], .agg #[.int .i64 x, .int .i64 y], .agg #[.int .i64 s.k, .int .i64 s.n, .string s.name, .slice s.eA s.es.length s.ec, .slice s.lA s.ls.length s.lc, .slice s.bA s.bs.length s.bc]] w fun z w' => z = .returned (.int .i64 r) ∧ Below w.heap.size w w' := by
 have HU := Aid.hid hu; have HUL := Aid.hid hl; have HPP := Aid.hid hp; have HX := Aid.hid hX; have HE := Aid.hid he; have HCP := Aid.hid hcap; have HPU := Aid.hid (Pl.at_u hp)
 have k1 : (s.k == 1) = false := by simp [hk]
 have k2 : (s.k == 2) = false := by simp [hk]
 have k3 : (s.k == 3) = true := by simp [hk]
 have k8 : (s.k == 8) = false := by simp [hk]
 have k11 : (s.k == 11) = false := by simp [hk]
 obtain ⟨o, ho⟩ : ∃ o, p.var s.name = o := ⟨_, rfl⟩
 obtain ⟨v, hv⟩ : ∃ v, Ty.vof o = v := ⟨_, rfl⟩
 obtain ⟨is, his⟩ : ∃ b, o.isSome = b := ⟨_, rfl⟩
 have HO := Aid.hid ho; have HV := Aid.hid hv; have HIS := Aid.hid his
 have HR : Hid (Ty.changed p s.k s.n s.name (s.es.map (Rf.expr p)) (s.bs.map fun b => Ty.stmts p true b.l) = r) := Aid.hid (by rw [← Rf.changed_eq]; exact hr)
 have HKK := Aid.hid hk
 have HLN := Aid.hid hlen
 obtain ⟨W, hW, Nu, Np, Ns, K0⟩ := newh3 w [.slice a u.length cap] [.int .i64 x, .int .i64 y] [.int .i64 s.k, .int .i64 s.n, .string s.name, .slice s.eA s.es.length s.ec, .slice s.lA s.ls.length s.lc, .slice s.bA s.bs.length s.bc] 24 26 58
 clear hu hl hp hX he hcap hr hk hlen ho hv his
 obtain ⟨xu0, lu⟩ := xc1 Nu
 obtain ⟨xp0, xp1, lp⟩ := xc2 Np
 obtain ⟨xs0, xs1, xs2, xs3, xs4, xs5, ls⟩ := xc6 Ns
 go_enter Try.func89, Try.ntmps89
 try simp only [List.append_eq, List.cons_append, List.nil_append]
 go_wp2_with fail
 (try clear hW)
 refine (rvar_x u a B cap x y p s.name o v is _ HO.out HV.out HIS.out HPP.out (HU.out.below (K0.out) hB) (Nat.le_trans hB (K0.out).size) HUL.out).mono ?_; rintro _ w1 ⟨rfl, hb1⟩
 have Kx1 := kb K0 hb1
 have Nu_1 := nb hb1 Nu
 have Np_1 := nb hb1 Np
 have Ns_1 := nb hb1 Ns
 clear xu0 lu xp0 xp1 lp xs0 xs1 xs2 xs3 xs4 xs5 ls
 clear hb1
 obtain ⟨X2, hX⟩ : ∃ X, w1.alloc (.cells #[.string v.name, .int .i64 v.ty.k, .int .i64 v.ty.lo, .int .i64 v.ty.hi, .string v.ty.name, .int .i64 v.init, .int .i64 v.dir, .int .i64 v.slot] 74) = X := ⟨_, rfl⟩
 have Nu_2 := na hX Nu_1
 have Np_2 := na hX Np_1
 have Ns_2 := na hX Ns_1
 have Nv_2 := nw hX
 have Kx2 := nk hX Kx1
 have Qs2 := nq hX
 cases o with
 | none =>
   obtain rfl : false = is := HIS.out
   obtain rfl : 13 = r := by have h := HR.out; rw [Ty.changed, HO.out] at h; exact h
   go_wp2_with fail
   go_ret
   exact ⟨rfl, Kx2.out⟩
 | some vv =>
   obtain rfl : true = is := HIS.out
   obtain rfl : vv = v := HV.out
   obtain ⟨xu0, lu⟩ := xc1 Nu_2
   obtain ⟨xp0, xp1, lp⟩ := xc2 Np_2
   obtain ⟨xs0, xs1, xs2, xs3, xs4, xs5, ls⟩ := xc6 Ns_2
   obtain ⟨xv0, xv1, xv2, xv3, xv4, xv5, xv6, xv7, lv⟩ := xc8 Nv_2
   obtain ⟨q, hq⟩ := List.length_eq_one_iff.1 HLN.out
   have HQ := Aid.hid hq
   obtain ⟨⟨t1, c1⟩, he1⟩ : ∃ r, Rf.expr p q = r := ⟨_, rfl⟩
   have HA : Hid (Rf.all (s.es.map (Rf.expr p)) = if c1 ≠ 0 then ([], c1) else ([t1], 0)) := Aid.hid (by rw [hq]; simp only [List.map_cons, List.map_nil, he1]; exact Rf.all_one (t1, c1))
   have HR2 : Hid ((if vv.ty.k = 5 then (if c1 ≠ 0 then c1 else if t1.k ≠ 5 then 14 else 0) else 14) = r) := Aid.hid (by have h := HR.out; rw [HKK.out, hq] at h; simp only [List.map_cons, List.map_nil, he1] at h; simp only [Ty.changed, HO.out] at h; simp [Ty.kindsGo] at h; simpa using h)
   clear hq he1
   by_cases hbad : vv.ty.k = 5
   ·
    have f0 : (vv.ty.k != 5) = false := by simp [hbad]
    have HR3 : Hid ((if c1 ≠ 0 then c1 else if t1.k ≠ 5 then 14 else 0) = r) := Aid.hid (by have h := HR2.out; simpa [hbad] using h)
    clear hbad
    obtain ⟨eb, off, hA, hebB, _, _⟩ := Ex.at1 (HE.out.below Kx2.out hB) (i := 0) (e := q) (by rw [HQ.out]; rfl)
    have HEA := Aid.hid hA
    have hln := HLN.out
    have hcc : ((1 : Int) ≤ (s.ec : Int)) := by have := HCP.out; omega
    clear hA
    rw [HEA.out, hln] at xs3
    clear hln
    go_wp2_with fail
    (try clear hX)
    obtain ⟨ts, ca, hal⟩ : ∃ ts ca, Rf.all (s.es.map (Rf.expr p)) = (ts, ca) := ⟨_, _, rfl⟩
    have HAX := Aid.hid hal
    clear hal
    have HZ := Aid.hid (fun (w' : World) (hSw : Below X2.heap.size X2 w') => (⟨kc hSw xu0 lu, kc hSw xp0 lp, kc hSw xp1 lp, kc hSw xs0 ls, kc hSw xs1 ls, kc hSw xs2 ls, kc hSw xs3 ls, kc hSw xs4 ls, kc hSw xs5 ls, kc hSw xv0 lv, kc hSw xv1 lv, kc hSw xv2 lv, kc hSw xv3 lv, kc hSw xv4 lv, kc hSw xv5 lv, kc hSw xv6 lv, kc hSw xv7 lv⟩ : _ ∧ _ ∧ _ ∧ _ ∧ _ ∧ _ ∧ _ ∧ _ ∧ _ ∧ _ ∧ _ ∧ _ ∧ _ ∧ _ ∧ _ ∧ _ ∧ _))
    have hb : Below X2.heap.size X2 X2.drew := (Below.refl _ _).drew
    refine Ord.wp_region_walk (fun w' => Below X2.heap.size X2 w') 11 [(true, 0), (true, 1), (true, 2), (true, 3), (true, 4), (true, 5), (false, 6), (true, 7), (true, 8), (true, 9), (true, 10)] (by kernel_rfl) (by kernel_rfl) (fun _ _ d _ _ h => by cases d <;> exact h) (hb) ?_
    clear hb
    have hb : Below X2.heap.size X2 X2.drew := (Below.refl _ _).drew
    generalize X2.drew = wd2 at *
    iterate 6
     apply Ord.walk_light
     next => (simp only [la0, la1, la2]; rfl)
     next => rfl
     next => (intro w' hSw; have z := HZ.out w' hSw; clear hSw; go_simp; first | done | with_reducible rfl)
     simp only [Act.put, la3, la4, la5]
    apply Ord.walk_heavy
    next => (simp only [la0, la1, la2]; rfl)
    next => rfl
    intro K hK
    go_wp2_with fail
    refine ((show Calls Try.prog 38 #[.agg #[.slice a u.length cap], .agg #[.int .i64 x, .int .i64 y], .slice (some ⟨eb, off, none⟩) 1 s.ec] _ _ by have h := rall_is f u a B cap x y p s.es (some ⟨eb, off, none⟩) s.ec ts ca _ HAX.out HX.out (HU.out.below (((Kx2.out).trans (hb.mono (Kx2.out).size))) hB) (Nat.le_trans hB (((Kx2.out).trans (hb.mono (Kx2.out).size))).size) (HEA.out ▸ HE.out.below (((Kx2.out).trans (hb.mono (Kx2.out).size))) hB) (by rw [HLN.out]; decide); rw [HLN.out] at h; exact h)).mono ?_; rintro _ v2_1 ⟨A9, c9, rfl, rw9, hb'⟩; dsimp only
    refine hK.out _ _ (hb.trans (hb'.mono hb.size)) (fun hHeld => ?_)
    clear hb hb'
    have hb := hHeld
    clear hK K
    try simp only [Act.put, la3, la4, la5]
    iterate 4
     apply Ord.walk_light
     next => (simp only [la0, la1, la2]; rfl)
     next => rfl
     next => (intro w' hSw; have z := HZ.out w' hSw; clear hSw; go_simp; first | done | with_reducible rfl)
     simp only [Act.put, la3, la4, la5]
    refine Ord.walk_tail ?_; simp only [List.drop_succ_cons, List.drop_zero]
    have hbx := hb
    clear hb HZ
    have Kx3 := kb Kx2 hbx
    have Nu_3 := nb hbx Nu_2
    have Np_3 := nb hbx Np_2
    have Ns_3 := nb hbx Ns_2
    have Nv_3 := nb hbx Nv_2
    clear xu0 lu xp0 xp1 lp xs0 xs1 xs2 xs3 xs4 xs5 ls xv0 xv1 xv2 xv3 xv4 xv5 xv6 xv7 lv
    clear hbx
    have HRW := Aid.hid rw9
    clear rw9
    have HAE := Aid.hid (HAX.out.symm.trans HA.out)
    obtain ⟨xu0, lu⟩ := xc1 Nu_3
    obtain ⟨xp0, xp1, lp⟩ := xc2 Np_3
    obtain ⟨xs0, xs1, xs2, xs3, xs4, xs5, ls⟩ := xc6 Ns_3
    obtain ⟨xv0, xv1, xv2, xv3, xv4, xv5, xv6, xv7, lv⟩ := xc8 Nv_3
    by_cases h1 : c1 = 0
    ·
     subst h1
     obtain ⟨rfl, rfl⟩ : ts = [t1] ∧ ca = 0 := by have h := HAE.out; simpa using h
     obtain ⟨tb, to, hA9, htb, htc⟩ := HRW.out.tyr_ (by simp)
     have d00 := htc 0 _ rfl 0 _ rfl
     have d01 := htc 0 _ rfl 1 _ rfl
     have d02 := htc 0 _ rfl 2 _ rfl
     have d03 := htc 0 _ rfl 3 _ rfl
     simp only [Nat.add_zero, Nat.zero_mul, Nat.one_mul] at d00 d01 d02 d03
     subst hA9
     clear htc
     by_cases h5 : t1.k = 5
     ·
      have g0 : (t1.k == 5) = true := by simp [h5]
      obtain rfl : 0 = r := by have h := HR3.out; simpa [h5] using h
      clear h5
      go_wp2_with fail
      go_ret
      exact ⟨rfl, Kx3.out⟩
     ·
      have g0 : (t1.k == 5) = false := by simpa using h5
      obtain rfl : 14 = r := by have h := HR3.out; simpa [h5] using h
      clear h5
      go_wp2_with fail
      go_ret
      exact ⟨rfl, Kx3.out⟩
    ·
     obtain ⟨rfl, rfl⟩ : ts = [] ∧ c1 = ca := by have h := HAE.out; simp [h1] at h; exact ⟨h.1, h.2.symm⟩
     have f9 : (c1 != 0) = true := by simpa using h1
     obtain rfl : c1 = r := by have h := HR3.out; simpa [KG, h1] using h
     clear h1
     go_wp2_with fail
     go_ret
     exact ⟨rfl, Kx3.out⟩
   ·
    have f0 : (vv.ty.k != 5) = true := by simpa using hbad
    obtain rfl : 14 = r := by have h := HR2.out; simpa [hbad] using h
    clear hbad
    go_wp2_with fail
    go_ret
    exact ⟨rfl, Kx2.out⟩
set_option maxRecDepth 100000 in
set_option maxHeartbeats 4000000 in
theorem ronVar_2 (f : Nat) (u : List Dk) (a : Option Addr) (B cap : Nat) (x y : Int) (p : Pl) (s : St) (r : Int) (w : World) (hr : Ty.changed p s.k s.n s.name (s.es.map (Ty.expr p)) (s.bs.map fun b => Ty.stmts p true b.l) = r) (hp : Pl.at u x y = some p) (hl : ULim u) (hX : ∀ q ∈ s.es, RExOK f u a B cap x y p q) (hu : UnitAt w B a u) (hB : B ≤ w.heap.size) (he : ExsAt (f + 1) w B s.eA s.es) (hcap : s.es.length ≤ s.ec) (hk : s.k = 2) (hlen : s.es.length = 2) :
  Calls Try.prog 89 #[.agg #[.slice a u.length cap], .agg #[.int .i64 x, .int .i64 y], .agg #[.int .i64 s.k, .int .i64 s.n, .string s.name, .slice s.eA s.es.length s.ec, .slice s.lA s.ls.length s.lc, .slice s.bA s.bs.length s.bc]] w fun z w' => z = .returned (.int .i64 r) ∧ Below w.heap.size w w' := by
 have HU := Aid.hid hu; have HUL := Aid.hid hl; have HPP := Aid.hid hp; have HX := Aid.hid hX; have HE := Aid.hid he; have HCP := Aid.hid hcap; have HPU := Aid.hid (Pl.at_u hp)
 have k1 : (s.k == 1) = false := by simp [hk]
 have k2 : (s.k == 2) = true := by simp [hk]
 obtain ⟨k3, k8, k11, -⟩ : nes s.k [3, 8, 11] := by simp [nes, hk]
 obtain ⟨o, ho⟩ : ∃ o, p.var s.name = o := ⟨_, rfl⟩
 obtain ⟨v, hv⟩ : ∃ v, Ty.vof o = v := ⟨_, rfl⟩
 obtain ⟨is, his⟩ : ∃ b, o.isSome = b := ⟨_, rfl⟩
 have HO := Aid.hid ho; have HV := Aid.hid hv; have HIS := Aid.hid his
 have HR : Hid (Ty.changed p s.k s.n s.name (s.es.map (Rf.expr p)) (s.bs.map fun b => Ty.stmts p true b.l) = r) := Aid.hid (by rw [← Rf.changed_eq]; exact hr)
 have HKK := Aid.hid hk
 have HLN := Aid.hid hlen
 obtain ⟨W, hW, Nu, Np, Ns, K0⟩ := newh3 w [.slice a u.length cap] [.int .i64 x, .int .i64 y] [.int .i64 s.k, .int .i64 s.n, .string s.name, .slice s.eA s.es.length s.ec, .slice s.lA s.ls.length s.lc, .slice s.bA s.bs.length s.bc] 24 26 58
 clear hu hl hp hX he hcap hr hk hlen ho hv his
 obtain ⟨xu0, lu⟩ := xc1 Nu
 obtain ⟨xp0, xp1, lp⟩ := xc2 Np
 obtain ⟨xs0, xs1, xs2, xs3, xs4, xs5, ls⟩ := xc6 Ns
 go_enter Try.func89, Try.ntmps89
 try simp only [List.append_eq, List.cons_append, List.nil_append]
 go_wp2_with fail
 (try clear hW)
 refine (rvar_x u a B cap x y p s.name o v is _ HO.out HV.out HIS.out HPP.out (HU.out.below (K0.out) hB) (Nat.le_trans hB (K0.out).size) HUL.out).mono ?_; rintro _ w1 ⟨rfl, hb1⟩
 have Kx1 := kb K0 hb1
 have Nu_1 := nb hb1 Nu
 have Np_1 := nb hb1 Np
 have Ns_1 := nb hb1 Ns
 clear xu0 lu xp0 xp1 lp xs0 xs1 xs2 xs3 xs4 xs5 ls
 clear hb1
 obtain ⟨X2, hX⟩ : ∃ X, w1.alloc (.cells #[.string v.name, .int .i64 v.ty.k, .int .i64 v.ty.lo, .int .i64 v.ty.hi, .string v.ty.name, .int .i64 v.init, .int .i64 v.dir, .int .i64 v.slot] 74) = X := ⟨_, rfl⟩
 have Nu_2 := na hX Nu_1
 have Np_2 := na hX Np_1
 have Ns_2 := na hX Ns_1
 have Nv_2 := nw hX
 have Kx2 := nk hX Kx1
 have Qs2 := nq hX
 cases o with
 | none =>
   obtain rfl : false = is := HIS.out
   obtain rfl : 13 = r := by have h := HR.out; rw [Ty.changed, HO.out] at h; exact h
   go_wp2_with fail
   go_ret
   exact ⟨rfl, Kx2.out⟩
 | some vv =>
   obtain rfl : true = is := HIS.out
   obtain rfl : vv = v := HV.out
   obtain ⟨xu0, lu⟩ := xc1 Nu_2
   obtain ⟨xp0, xp1, lp⟩ := xc2 Np_2
   obtain ⟨xs0, xs1, xs2, xs3, xs4, xs5, ls⟩ := xc6 Ns_2
   obtain ⟨xv0, xv1, xv2, xv3, xv4, xv5, xv6, xv7, lv⟩ := xc8 Nv_2
   obtain ⟨q, q2, hq⟩ : ∃ a b, s.es = [a, b] := len2 HLN.out
   have HQ := Aid.hid hq
   obtain ⟨⟨t1, c1⟩, he1⟩ : ∃ r, Rf.expr p q = r := ⟨_, rfl⟩
   obtain ⟨⟨t2, c2⟩, he2⟩ : ∃ r, Rf.expr p q2 = r := ⟨_, rfl⟩
   have HA : Hid (Rf.all (s.es.map (Rf.expr p)) = if c1 ≠ 0 then ([], c1) else if c2 ≠ 0 then ([], c2) else ([t1, t2], 0)) := Aid.hid (by rw [hq]; simp only [List.map_cons, List.map_nil, he1, he2]; exact Rf.all_two (t1, c1) (t2, c2))
   have HR2 : Hid ((if vv.ty.k = 4 then KG 1 1 t1 c1 t2 c2 else 14) = r) := Aid.hid (by have h := HR.out; rw [HKK.out, hq] at h; simp only [List.map_cons, List.map_nil, he1, he2] at h; simp only [Ty.changed, HO.out, KG_eq] at h; simpa using h)
   clear hq he1 he2
   by_cases hbad : vv.ty.k = 4
   ·
    have f0 : (vv.ty.k != 4) = false := by simp [hbad]
    have HR3 : Hid (KG 1 1 t1 c1 t2 c2 = r) := Aid.hid (by have h := HR2.out; simpa [hbad] using h)
    clear hbad
    obtain ⟨eb, off, hA, hebB, _, _⟩ := Ex.at1 (HE.out.below Kx2.out hB) (i := 0) (e := q) (by rw [HQ.out]; rfl)
    have HEA := Aid.hid hA
    have hln := HLN.out
    have hcc : ((2 : Int) ≤ (s.ec : Int)) := by have := HCP.out; omega
    clear hA
    rw [HEA.out, hln] at xs3
    clear hln
    go_wp2_with fail
    (try clear hX)
    obtain ⟨ts, ca, hal⟩ : ∃ ts ca, Rf.all (s.es.map (Rf.expr p)) = (ts, ca) := ⟨_, _, rfl⟩
    have HAX := Aid.hid hal
    clear hal
    have HZ := Aid.hid (fun (w' : World) (hSw : Below X2.heap.size X2 w') => (⟨kc hSw xu0 lu, kc hSw xp0 lp, kc hSw xp1 lp, kc hSw xs0 ls, kc hSw xs1 ls, kc hSw xs2 ls, kc hSw xs3 ls, kc hSw xs4 ls, kc hSw xs5 ls, kc hSw xv0 lv, kc hSw xv1 lv, kc hSw xv2 lv, kc hSw xv3 lv, kc hSw xv4 lv, kc hSw xv5 lv, kc hSw xv6 lv, kc hSw xv7 lv⟩ : _ ∧ _ ∧ _ ∧ _ ∧ _ ∧ _ ∧ _ ∧ _ ∧ _ ∧ _ ∧ _ ∧ _ ∧ _ ∧ _ ∧ _ ∧ _ ∧ _))
    have hb : Below X2.heap.size X2 X2.drew := (Below.refl _ _).drew
    refine Ord.wp_region_walk (fun w' => Below X2.heap.size X2 w') 11 [(true, 0), (true, 1), (true, 2), (true, 3), (true, 4), (true, 5), (false, 6), (true, 7), (true, 8), (true, 9), (true, 10)] (by kernel_rfl) (by kernel_rfl) (fun _ _ d _ _ h => by cases d <;> exact h) (hb) ?_
    clear hb
    have hb : Below X2.heap.size X2 X2.drew := (Below.refl _ _).drew
    generalize X2.drew = wd2 at *
    iterate 6
     apply Ord.walk_light
     next => (simp only [la0, la1, la2]; rfl)
     next => rfl
     next => (intro w' hSw; have z := HZ.out w' hSw; clear hSw; go_simp; first | done | with_reducible rfl)
     simp only [Act.put, la3, la4, la5]
    apply Ord.walk_heavy
    next => (simp only [la0, la1, la2]; rfl)
    next => rfl
    intro K hK
    go_wp2_with fail
    refine ((show Calls Try.prog 38 #[.agg #[.slice a u.length cap], .agg #[.int .i64 x, .int .i64 y], .slice (some ⟨eb, off, none⟩) 2 s.ec] _ _ by have h := rall_is f u a B cap x y p s.es (some ⟨eb, off, none⟩) s.ec ts ca _ HAX.out HX.out (HU.out.below (((Kx2.out).trans (hb.mono (Kx2.out).size))) hB) (Nat.le_trans hB (((Kx2.out).trans (hb.mono (Kx2.out).size))).size) (HEA.out ▸ HE.out.below (((Kx2.out).trans (hb.mono (Kx2.out).size))) hB) (by rw [HLN.out]; decide); rw [HLN.out] at h; exact h)).mono ?_; rintro _ v2_1 ⟨A9, c9, rfl, rw9, hb'⟩; dsimp only
    refine hK.out _ _ (hb.trans (hb'.mono hb.size)) (fun hHeld => ?_)
    clear hb hb'
    have hb := hHeld
    clear hK K
    try simp only [Act.put, la3, la4, la5]
    iterate 4
     apply Ord.walk_light
     next => (simp only [la0, la1, la2]; rfl)
     next => rfl
     next => (intro w' hSw; have z := HZ.out w' hSw; clear hSw; go_simp; first | done | with_reducible rfl)
     simp only [Act.put, la3, la4, la5]
    refine Ord.walk_tail ?_; simp only [List.drop_succ_cons, List.drop_zero]
    have hbx := hb
    clear hb HZ
    have Kx3 := kb Kx2 hbx
    have Nu_3 := nb hbx Nu_2
    have Np_3 := nb hbx Np_2
    have Ns_3 := nb hbx Ns_2
    have Nv_3 := nb hbx Nv_2
    clear xu0 lu xp0 xp1 lp xs0 xs1 xs2 xs3 xs4 xs5 ls xv0 xv1 xv2 xv3 xv4 xv5 xv6 xv7 lv
    clear hbx
    have HRW := Aid.hid rw9
    clear rw9
    have HAE := Aid.hid (HAX.out.symm.trans HA.out)
    obtain ⟨xu0, lu⟩ := xc1 Nu_3
    obtain ⟨xp0, xp1, lp⟩ := xc2 Np_3
    obtain ⟨xs0, xs1, xs2, xs3, xs4, xs5, ls⟩ := xc6 Ns_3
    obtain ⟨xv0, xv1, xv2, xv3, xv4, xv5, xv6, xv7, lv⟩ := xc8 Nv_3
    by_cases h1 : c1 = 0
    ·
     subst h1
     by_cases h2 : c2 = 0
     ·
      subst h2
      obtain ⟨rfl, rfl⟩ : ts = [t1, t2] ∧ ca = 0 := by have h := HAE.out; simpa using h
      obtain ⟨tb, to, hA9, htb, htc⟩ := HRW.out.tyr_ (by simp)
      have d00 := htc 0 _ rfl 0 _ rfl
      have d01 := htc 0 _ rfl 1 _ rfl
      have d02 := htc 0 _ rfl 2 _ rfl
      have d03 := htc 0 _ rfl 3 _ rfl
      have d10 := htc 1 _ rfl 0 _ rfl
      have d11 := htc 1 _ rfl 1 _ rfl
      have d12 := htc 1 _ rfl 2 _ rfl
      have d13 := htc 1 _ rfl 3 _ rfl
      simp only [Nat.add_zero, Nat.zero_mul, Nat.one_mul] at d00 d01 d02 d03 d10 d11 d12 d13
      subst hA9
      clear htc
      by_cases g1 : t1.k = 1
      ·
       have e1 : (t1.k == 1) = true := by simp [g1]
       by_cases g2 : t2.k = 1
       ·
        have e2 : (t2.k == 1) = true := by simp [g2]
        obtain rfl : 0 = r := by have h := HR3.out; simpa [KG, g1, g2] using h
        clear g1 g2
        go_wp2_with fail
        go_ret
        exact ⟨rfl, Kx3.out⟩
       ·
        have e2 : (t2.k == 1) = false := by simpa using g2
        obtain rfl : 14 = r := by have h := HR3.out; simpa [KG, g1, g2] using h
        clear g1 g2
        go_wp2_with fail
        go_ret
        exact ⟨rfl, Kx3.out⟩
      ·
       have e1 : (t1.k == 1) = false := by simpa using g1
       obtain rfl : 14 = r := by have h := HR3.out; simpa [KG, g1] using h
       clear g1
       go_wp2_with fail
       go_ret
       exact ⟨rfl, Kx3.out⟩
     ·
      obtain ⟨rfl, rfl⟩ : ts = [] ∧ c2 = ca := by have h := HAE.out; simp [h2] at h; exact ⟨h.1, h.2.symm⟩
      have f9 : (c2 != 0) = true := by simpa using h2
      obtain rfl : c2 = r := by have h := HR3.out; simpa [KG, h2] using h
      clear h2
      go_wp2_with fail
      go_ret
      exact ⟨rfl, Kx3.out⟩
    ·
     obtain ⟨rfl, rfl⟩ : ts = [] ∧ c1 = ca := by have h := HAE.out; simp [h1] at h; exact ⟨h.1, h.2.symm⟩
     have f9 : (c1 != 0) = true := by simpa using h1
     obtain rfl : c1 = r := by have h := HR3.out; simpa [KG, h1] using h
     clear h1
     go_wp2_with fail
     go_ret
     exact ⟨rfl, Kx3.out⟩
   ·
    have f0 : (vv.ty.k != 4) = true := by simpa using hbad
    obtain rfl : 14 = r := by have h := HR2.out; simpa [hbad] using h
    clear hbad
    go_wp2_with fail
    go_ret
    exact ⟨rfl, Kx2.out⟩
set_option maxRecDepth 100000 in
set_option maxHeartbeats 4000000 in
theorem ronVar_11 (f : Nat) (u : List Dk) (a : Option Addr) (B cap : Nat) (x y : Int) (p : Pl) (s : St) (r : Int) (w : World) (hr : Ty.changed p s.k s.n s.name (s.es.map (Ty.expr p)) (s.bs.map fun b => Ty.stmts p true b.l) = r) (hp : Pl.at u x y = some p) (hl : ULim u) (hX : ∀ q ∈ s.es, RExOK f u a B cap x y p q) (hu : UnitAt w B a u) (hB : B ≤ w.heap.size) (he : ExsAt (f + 1) w B s.eA s.es) (hcap : s.es.length ≤ s.ec) (hk : s.k = 11) (hlen : s.es.length = 2) :
  Calls Try.prog 89 #[.agg #[.slice a u.length cap], .agg #[.int .i64 x, .int .i64 y], .agg #[.int .i64 s.k, .int .i64 s.n, .string s.name, .slice s.eA s.es.length s.ec, .slice s.lA s.ls.length s.lc, .slice s.bA s.bs.length s.bc]] w fun z w' => z = .returned (.int .i64 r) ∧ Below w.heap.size w w' := by
 have HU := Aid.hid hu; have HUL := Aid.hid hl; have HPP := Aid.hid hp; have HX := Aid.hid hX; have HE := Aid.hid he; have HCP := Aid.hid hcap; have HPU := Aid.hid (Pl.at_u hp)
 obtain ⟨k1, k2, k3, k8, -⟩ : nes s.k [1, 2, 3, 8] := by simp [nes, hk]
 have k11 : (s.k == 11) = true := by simp [hk]
 obtain ⟨o, ho⟩ : ∃ o, p.var s.name = o := ⟨_, rfl⟩
 obtain ⟨v, hv⟩ : ∃ v, Ty.vof o = v := ⟨_, rfl⟩
 obtain ⟨is, his⟩ : ∃ b, o.isSome = b := ⟨_, rfl⟩
 have HO := Aid.hid ho; have HV := Aid.hid hv; have HIS := Aid.hid his
 have HR : Hid (Ty.changed p s.k s.n s.name (s.es.map (Rf.expr p)) (s.bs.map fun b => Ty.stmts p true b.l) = r) := Aid.hid (by rw [← Rf.changed_eq]; exact hr)
 have HKK := Aid.hid hk
 have HLN := Aid.hid hlen
 obtain ⟨W, hW, Nu, Np, Ns, K0⟩ := newh3 w [.slice a u.length cap] [.int .i64 x, .int .i64 y] [.int .i64 s.k, .int .i64 s.n, .string s.name, .slice s.eA s.es.length s.ec, .slice s.lA s.ls.length s.lc, .slice s.bA s.bs.length s.bc] 24 26 58
 clear hu hl hp hX he hcap hr hk hlen ho hv his
 obtain ⟨xu0, lu⟩ := xc1 Nu
 obtain ⟨xp0, xp1, lp⟩ := xc2 Np
 obtain ⟨xs0, xs1, xs2, xs3, xs4, xs5, ls⟩ := xc6 Ns
 go_enter Try.func89, Try.ntmps89
 try simp only [List.append_eq, List.cons_append, List.nil_append]
 go_wp2_with fail
 (try clear hW)
 refine (rvar_x u a B cap x y p s.name o v is _ HO.out HV.out HIS.out HPP.out (HU.out.below (K0.out) hB) (Nat.le_trans hB (K0.out).size) HUL.out).mono ?_; rintro _ w1 ⟨rfl, hb1⟩
 have Kx1 := kb K0 hb1
 have Nu_1 := nb hb1 Nu
 have Np_1 := nb hb1 Np
 have Ns_1 := nb hb1 Ns
 clear xu0 lu xp0 xp1 lp xs0 xs1 xs2 xs3 xs4 xs5 ls
 clear hb1
 obtain ⟨X2, hX⟩ : ∃ X, w1.alloc (.cells #[.string v.name, .int .i64 v.ty.k, .int .i64 v.ty.lo, .int .i64 v.ty.hi, .string v.ty.name, .int .i64 v.init, .int .i64 v.dir, .int .i64 v.slot] 74) = X := ⟨_, rfl⟩
 have Nu_2 := na hX Nu_1
 have Np_2 := na hX Np_1
 have Ns_2 := na hX Ns_1
 have Nv_2 := nw hX
 have Kx2 := nk hX Kx1
 have Qs2 := nq hX
 cases o with
 | none =>
   obtain rfl : false = is := HIS.out
   obtain rfl : 13 = r := by have h := HR.out; rw [Ty.changed, HO.out] at h; exact h
   go_wp2_with fail
   go_ret
   exact ⟨rfl, Kx2.out⟩
 | some vv =>
   obtain rfl : true = is := HIS.out
   obtain rfl : vv = v := HV.out
   obtain ⟨xu0, lu⟩ := xc1 Nu_2
   obtain ⟨xp0, xp1, lp⟩ := xc2 Np_2
   obtain ⟨xs0, xs1, xs2, xs3, xs4, xs5, ls⟩ := xc6 Ns_2
   obtain ⟨xv0, xv1, xv2, xv3, xv4, xv5, xv6, xv7, lv⟩ := xc8 Nv_2
   obtain ⟨q, q2, hq⟩ : ∃ a b, s.es = [a, b] := len2 HLN.out
   have HQ := Aid.hid hq
   obtain ⟨⟨t1, c1⟩, he1⟩ : ∃ r, Rf.expr p q = r := ⟨_, rfl⟩
   obtain ⟨⟨t2, c2⟩, he2⟩ : ∃ r, Rf.expr p q2 = r := ⟨_, rfl⟩
   have HA : Hid (Rf.all (s.es.map (Rf.expr p)) = if c1 ≠ 0 then ([], c1) else if c2 ≠ 0 then ([], c2) else ([t1, t2], 0)) := Aid.hid (by rw [hq]; simp only [List.map_cons, List.map_nil, he1, he2]; exact Rf.all_two (t1, c1) (t2, c2))
   have HR2 : Hid ((if vv.ty.k = 7 then KG 2 1 t1 c1 t2 c2 else 14) = r) := Aid.hid (by have h := HR.out; rw [HKK.out, hq] at h; simp only [List.map_cons, List.map_nil, he1, he2] at h; simp only [Ty.changed, HO.out, KG_eq] at h; simpa using h)
   clear hq he1 he2
   by_cases hbad : vv.ty.k = 7
   ·
    have f0 : (vv.ty.k != 7) = false := by simp [hbad]
    have HR3 : Hid (KG 2 1 t1 c1 t2 c2 = r) := Aid.hid (by have h := HR2.out; simpa [hbad] using h)
    clear hbad
    obtain ⟨eb, off, hA, hebB, _, _⟩ := Ex.at1 (HE.out.below Kx2.out hB) (i := 0) (e := q) (by rw [HQ.out]; rfl)
    have HEA := Aid.hid hA
    have hln := HLN.out
    have hcc : ((2 : Int) ≤ (s.ec : Int)) := by have := HCP.out; omega
    clear hA
    rw [HEA.out, hln] at xs3
    clear hln
    go_wp2_with fail
    (try clear hX)
    obtain ⟨ts, ca, hal⟩ : ∃ ts ca, Rf.all (s.es.map (Rf.expr p)) = (ts, ca) := ⟨_, _, rfl⟩
    have HAX := Aid.hid hal
    clear hal
    have HZ := Aid.hid (fun (w' : World) (hSw : Below X2.heap.size X2 w') => (⟨kc hSw xu0 lu, kc hSw xp0 lp, kc hSw xp1 lp, kc hSw xs0 ls, kc hSw xs1 ls, kc hSw xs2 ls, kc hSw xs3 ls, kc hSw xs4 ls, kc hSw xs5 ls, kc hSw xv0 lv, kc hSw xv1 lv, kc hSw xv2 lv, kc hSw xv3 lv, kc hSw xv4 lv, kc hSw xv5 lv, kc hSw xv6 lv, kc hSw xv7 lv⟩ : _ ∧ _ ∧ _ ∧ _ ∧ _ ∧ _ ∧ _ ∧ _ ∧ _ ∧ _ ∧ _ ∧ _ ∧ _ ∧ _ ∧ _ ∧ _ ∧ _))
    have hb : Below X2.heap.size X2 X2.drew := (Below.refl _ _).drew
    refine Ord.wp_region_walk (fun w' => Below X2.heap.size X2 w') 11 [(true, 0), (true, 1), (true, 2), (true, 3), (true, 4), (true, 5), (false, 6), (true, 7), (true, 8), (true, 9), (true, 10)] (by kernel_rfl) (by kernel_rfl) (fun _ _ d _ _ h => by cases d <;> exact h) (hb) ?_
    clear hb
    have hb : Below X2.heap.size X2 X2.drew := (Below.refl _ _).drew
    generalize X2.drew = wd2 at *
    iterate 6
     apply Ord.walk_light
     next => (simp only [la0, la1, la2]; rfl)
     next => rfl
     next => (intro w' hSw; have z := HZ.out w' hSw; clear hSw; go_simp; first | done | with_reducible rfl)
     simp only [Act.put, la3, la4, la5]
    apply Ord.walk_heavy
    next => (simp only [la0, la1, la2]; rfl)
    next => rfl
    intro K hK
    go_wp2_with fail
    refine ((show Calls Try.prog 38 #[.agg #[.slice a u.length cap], .agg #[.int .i64 x, .int .i64 y], .slice (some ⟨eb, off, none⟩) 2 s.ec] _ _ by have h := rall_is f u a B cap x y p s.es (some ⟨eb, off, none⟩) s.ec ts ca _ HAX.out HX.out (HU.out.below (((Kx2.out).trans (hb.mono (Kx2.out).size))) hB) (Nat.le_trans hB (((Kx2.out).trans (hb.mono (Kx2.out).size))).size) (HEA.out ▸ HE.out.below (((Kx2.out).trans (hb.mono (Kx2.out).size))) hB) (by rw [HLN.out]; decide); rw [HLN.out] at h; exact h)).mono ?_; rintro _ v2_1 ⟨A9, c9, rfl, rw9, hb'⟩; dsimp only
    refine hK.out _ _ (hb.trans (hb'.mono hb.size)) (fun hHeld => ?_)
    clear hb hb'
    have hb := hHeld
    clear hK K
    try simp only [Act.put, la3, la4, la5]
    iterate 4
     apply Ord.walk_light
     next => (simp only [la0, la1, la2]; rfl)
     next => rfl
     next => (intro w' hSw; have z := HZ.out w' hSw; clear hSw; go_simp; first | done | with_reducible rfl)
     simp only [Act.put, la3, la4, la5]
    refine Ord.walk_tail ?_; simp only [List.drop_succ_cons, List.drop_zero]
    have hbx := hb
    clear hb HZ
    have Kx3 := kb Kx2 hbx
    have Nu_3 := nb hbx Nu_2
    have Np_3 := nb hbx Np_2
    have Ns_3 := nb hbx Ns_2
    have Nv_3 := nb hbx Nv_2
    clear xu0 lu xp0 xp1 lp xs0 xs1 xs2 xs3 xs4 xs5 ls xv0 xv1 xv2 xv3 xv4 xv5 xv6 xv7 lv
    clear hbx
    have HRW := Aid.hid rw9
    clear rw9
    have HAE := Aid.hid (HAX.out.symm.trans HA.out)
    obtain ⟨xu0, lu⟩ := xc1 Nu_3
    obtain ⟨xp0, xp1, lp⟩ := xc2 Np_3
    obtain ⟨xs0, xs1, xs2, xs3, xs4, xs5, ls⟩ := xc6 Ns_3
    obtain ⟨xv0, xv1, xv2, xv3, xv4, xv5, xv6, xv7, lv⟩ := xc8 Nv_3
    by_cases h1 : c1 = 0
    ·
     subst h1
     by_cases h2 : c2 = 0
     ·
      subst h2
      obtain ⟨rfl, rfl⟩ : ts = [t1, t2] ∧ ca = 0 := by have h := HAE.out; simpa using h
      obtain ⟨tb, to, hA9, htb, htc⟩ := HRW.out.tyr_ (by simp)
      have d00 := htc 0 _ rfl 0 _ rfl
      have d01 := htc 0 _ rfl 1 _ rfl
      have d02 := htc 0 _ rfl 2 _ rfl
      have d03 := htc 0 _ rfl 3 _ rfl
      have d10 := htc 1 _ rfl 0 _ rfl
      have d11 := htc 1 _ rfl 1 _ rfl
      have d12 := htc 1 _ rfl 2 _ rfl
      have d13 := htc 1 _ rfl 3 _ rfl
      simp only [Nat.add_zero, Nat.zero_mul, Nat.one_mul] at d00 d01 d02 d03 d10 d11 d12 d13
      subst hA9
      clear htc
      by_cases g1 : t1.k = 2
      ·
       have e1 : (t1.k == 2) = true := by simp [g1]
       by_cases g2 : t2.k = 1
       ·
        have e2 : (t2.k == 1) = true := by simp [g2]
        obtain rfl : 0 = r := by have h := HR3.out; simpa [KG, g1, g2] using h
        clear g1 g2
        go_wp2_with fail
        go_ret
        exact ⟨rfl, Kx3.out⟩
       ·
        have e2 : (t2.k == 1) = false := by simpa using g2
        obtain rfl : 14 = r := by have h := HR3.out; simpa [KG, g1, g2] using h
        clear g1 g2
        go_wp2_with fail
        go_ret
        exact ⟨rfl, Kx3.out⟩
      ·
       have e1 : (t1.k == 2) = false := by simpa using g1
       obtain rfl : 14 = r := by have h := HR3.out; simpa [KG, g1] using h
       clear g1
       go_wp2_with fail
       go_ret
       exact ⟨rfl, Kx3.out⟩
     ·
      obtain ⟨rfl, rfl⟩ : ts = [] ∧ c2 = ca := by have h := HAE.out; simp [h2] at h; exact ⟨h.1, h.2.symm⟩
      have f9 : (c2 != 0) = true := by simpa using h2
      obtain rfl : c2 = r := by have h := HR3.out; simpa [KG, h2] using h
      clear h2
      go_wp2_with fail
      go_ret
      exact ⟨rfl, Kx3.out⟩
    ·
     obtain ⟨rfl, rfl⟩ : ts = [] ∧ c1 = ca := by have h := HAE.out; simp [h1] at h; exact ⟨h.1, h.2.symm⟩
     have f9 : (c1 != 0) = true := by simpa using h1
     obtain rfl : c1 = r := by have h := HR3.out; simpa [KG, h1] using h
     clear h1
     go_wp2_with fail
     go_ret
     exact ⟨rfl, Kx3.out⟩
   ·
    have f0 : (vv.ty.k != 7) = true := by simpa using hbad
    obtain rfl : 14 = r := by have h := HR2.out; simpa [hbad] using h
    clear hbad
    go_wp2_with fail
    go_ret
    exact ⟨rfl, Kx2.out⟩
set_option maxRecDepth 100000 in
set_option maxHeartbeats 4000000 in
theorem ronVar_8 (f : Nat) (u : List Dk) (a : Option Addr) (B cap : Nat) (x y : Int) (p : Pl) (s : St) (r : Int) (w : World) (hr : Ty.changed p s.k s.n s.name (s.es.map (Ty.expr p)) (s.bs.map fun b => Ty.stmts p true b.l) = r) (hp : Pl.at u x y = some p) (hl : ULim u) (hX : ∀ q ∈ s.es, RExOK f u a B cap x y p q) (hu : UnitAt w B a u) (hB : B ≤ w.heap.size) (he : ExsAt (f + 1) w B s.eA s.es) (hcap : s.es.length ≤ s.ec) (hk : s.k = 8) (hlen : s.es.length = 2) (rb : Int) (hbr : (s.bs.map fun b => Ty.stmts p true b.l).headD 0 = rb) (hS : ∀ b ∈ s.bs, RStsOK f u a B cap x y p b.l) (hsb : (Rows w B 1 s.bA (s.bs.map Bk.cells) ∧ ∀ b ∈ s.bs, StsAt f w B b.A b.l) ∧ s.bs.length = 1) :
  Calls Try.prog 89 #[.agg #[.slice a u.length cap], .agg #[.int .i64 x, .int .i64 y], .agg #[.int .i64 s.k, .int .i64 s.n, .string s.name, .slice s.eA s.es.length s.ec, .slice s.lA s.ls.length s.lc, .slice s.bA s.bs.length s.bc]] w fun z w' => z = .returned (.int .i64 r) ∧ Below w.heap.size w w' := by
 have HU := Aid.hid hu; have HUL := Aid.hid hl; have HPP := Aid.hid hp; have HX := Aid.hid hX; have HE := Aid.hid he; have HCP := Aid.hid hcap; have HPU := Aid.hid (Pl.at_u hp)
 have HS := Aid.hid hS; have HSB := Aid.hid hsb; have HBR := Aid.hid hbr
 obtain ⟨k1, k2, k3, -⟩ : nes s.k [1, 2, 3] := by simp [nes, hk]
 have k8 : (s.k == 8) = true := by simp [hk]
 have k11 : (s.k == 11) = false := by simp [hk]
 obtain ⟨o, ho⟩ : ∃ o, p.var s.name = o := ⟨_, rfl⟩
 obtain ⟨v, hv⟩ : ∃ v, Ty.vof o = v := ⟨_, rfl⟩
 obtain ⟨is, his⟩ : ∃ b, o.isSome = b := ⟨_, rfl⟩
 have HO := Aid.hid ho; have HV := Aid.hid hv; have HIS := Aid.hid his
 have HR : Hid (Ty.changed p s.k s.n s.name (s.es.map (Rf.expr p)) (s.bs.map fun b => Ty.stmts p true b.l) = r) := Aid.hid (by rw [← Rf.changed_eq]; exact hr)
 have HKK := Aid.hid hk
 have HLN := Aid.hid hlen
 obtain ⟨W, hW, Nu, Np, Ns, K0⟩ := newh3 w [.slice a u.length cap] [.int .i64 x, .int .i64 y] [.int .i64 s.k, .int .i64 s.n, .string s.name, .slice s.eA s.es.length s.ec, .slice s.lA s.ls.length s.lc, .slice s.bA s.bs.length s.bc] 24 26 58
 clear hu hl hp hX he hcap hr hk hlen ho hv his hS hsb hbr
 obtain ⟨xu0, lu⟩ := xc1 Nu
 obtain ⟨xp0, xp1, lp⟩ := xc2 Np
 obtain ⟨xs0, xs1, xs2, xs3, xs4, xs5, ls⟩ := xc6 Ns
 go_enter Try.func89, Try.ntmps89
 try simp only [List.append_eq, List.cons_append, List.nil_append]
 go_wp2_with fail
 (try clear hW)
 refine (rvar_x u a B cap x y p s.name o v is _ HO.out HV.out HIS.out HPP.out (HU.out.below (K0.out) hB) (Nat.le_trans hB (K0.out).size) HUL.out).mono ?_; rintro _ w1 ⟨rfl, hb1⟩
 have Kx1 := kb K0 hb1
 have Nu_1 := nb hb1 Nu
 have Np_1 := nb hb1 Np
 have Ns_1 := nb hb1 Ns
 clear xu0 lu xp0 xp1 lp xs0 xs1 xs2 xs3 xs4 xs5 ls
 clear hb1
 obtain ⟨X2, hX⟩ : ∃ X, w1.alloc (.cells #[.string v.name, .int .i64 v.ty.k, .int .i64 v.ty.lo, .int .i64 v.ty.hi, .string v.ty.name, .int .i64 v.init, .int .i64 v.dir, .int .i64 v.slot] 74) = X := ⟨_, rfl⟩
 have Nu_2 := na hX Nu_1
 have Np_2 := na hX Np_1
 have Ns_2 := na hX Ns_1
 have Nv_2 := nw hX
 have Kx2 := nk hX Kx1
 have Qs2 := nq hX
 cases o with
 | none =>
   obtain rfl : false = is := HIS.out
   obtain rfl : 13 = r := by have h := HR.out; rw [Ty.changed, HO.out] at h; exact h
   go_wp2_with fail
   go_ret
   exact ⟨rfl, Kx2.out⟩
 | some vv =>
   obtain rfl : true = is := HIS.out
   obtain rfl : vv = v := HV.out
   obtain ⟨xu0, lu⟩ := xc1 Nu_2
   obtain ⟨xp0, xp1, lp⟩ := xc2 Np_2
   obtain ⟨xs0, xs1, xs2, xs3, xs4, xs5, ls⟩ := xc6 Ns_2
   obtain ⟨xv0, xv1, xv2, xv3, xv4, xv5, xv6, xv7, lv⟩ := xc8 Nv_2
   obtain ⟨q, q2, hq⟩ : ∃ a b, s.es = [a, b] := len2 HLN.out
   have HQ := Aid.hid hq
   obtain ⟨⟨t1, c1⟩, he1⟩ : ∃ r, Rf.expr p q = r := ⟨_, rfl⟩
   obtain ⟨⟨t2, c2⟩, he2⟩ : ∃ r, Rf.expr p q2 = r := ⟨_, rfl⟩
   have HA : Hid (Rf.all (s.es.map (Rf.expr p)) = if c1 ≠ 0 then ([], c1) else if c2 ≠ 0 then ([], c2) else ([t1, t2], 0)) := Aid.hid (by rw [hq]; simp only [List.map_cons, List.map_nil, he1, he2]; exact Rf.all_two (t1, c1) (t2, c2))
   have HR2 : Hid ((if vv.ty.k = 1 ∧ vv.dir ≠ 1 ∧ s.n ≠ 0 then (if KG 1 1 t1 c1 t2 c2 ≠ 0 then KG 1 1 t1 c1 t2 c2 else rb) else 14) = r) := Aid.hid (by have h := HR.out; rw [HKK.out, hq] at h; simp only [List.map_cons, List.map_nil, he1, he2] at h; simp only [Ty.changed, HO.out, KG_eq, HBR.out] at h; simpa using h)
   clear hq he1 he2
   by_cases h1 : vv.ty.k = 1
   ·
    have f0 : (vv.ty.k != 1) = false := by simp [h1]
    by_cases h2 : vv.dir = 1
    ·
     have f1 : (vv.dir == 1) = true := by simp [h2]
     obtain rfl : 14 = r := by have h := HR2.out; simpa [h2] using h
     clear h1 h2
     go_wp2_with fail
     go_ret
     exact ⟨rfl, Kx2.out⟩
    ·
     have f1 : (vv.dir == 1) = false := by simpa using h2
     by_cases h3 : s.n = 0
     ·
      have f2 : (s.n == 0) = true := by simp [h3]
      obtain rfl : 14 = r := by have h := HR2.out; simpa [h3] using h
      clear h1 h2 h3
      go_wp2_with fail
      go_ret
      exact ⟨rfl, Kx2.out⟩
     ·
      have f2 : (s.n == 0) = false := by simpa using h3
      have HR3 : Hid ((if KG 1 1 t1 c1 t2 c2 ≠ 0 then KG 1 1 t1 c1 t2 c2 else rb) = r) := Aid.hid (by have h := HR2.out; simpa [h1, h2, h3] using h)
      clear h1 h2 h3
      obtain ⟨eb, off, hA, hebB, _, _⟩ := Ex.at1 (HE.out.below Kx2.out hB) (i := 0) (e := q) (by rw [HQ.out]; rfl)
      have HEA := Aid.hid hA
      have hln := HLN.out
      have hcc : ((2 : Int) ≤ (s.ec : Int)) := by have := HCP.out; omega
      clear hA
      rw [HEA.out, hln] at xs3
      clear hln
      go_wp2_with fail
      (try clear hX)
      obtain ⟨ts, ca, hal⟩ : ∃ ts ca, Rf.all (s.es.map (Rf.expr p)) = (ts, ca) := ⟨_, _, rfl⟩
      have HAX := Aid.hid hal
      clear hal
      have HZ := Aid.hid (fun (w' : World) (hSw : Below X2.heap.size X2 w') => (⟨kc hSw xu0 lu, kc hSw xp0 lp, kc hSw xp1 lp, kc hSw xs0 ls, kc hSw xs1 ls, kc hSw xs2 ls, kc hSw xs3 ls, kc hSw xs4 ls, kc hSw xs5 ls, kc hSw xv0 lv, kc hSw xv1 lv, kc hSw xv2 lv, kc hSw xv3 lv, kc hSw xv4 lv, kc hSw xv5 lv, kc hSw xv6 lv, kc hSw xv7 lv⟩ : _ ∧ _ ∧ _ ∧ _ ∧ _ ∧ _ ∧ _ ∧ _ ∧ _ ∧ _ ∧ _ ∧ _ ∧ _ ∧ _ ∧ _ ∧ _ ∧ _))
      have hb : Below X2.heap.size X2 X2.drew := (Below.refl _ _).drew
      refine Ord.wp_region_walk (fun w' => Below X2.heap.size X2 w') 11 [(true, 0), (true, 1), (true, 2), (true, 3), (true, 4), (true, 5), (false, 6), (true, 7), (true, 8), (true, 9), (true, 10)] (by kernel_rfl) (by kernel_rfl) (fun _ _ d _ _ h => by cases d <;> exact h) (hb) ?_
      clear hb
      have hb : Below X2.heap.size X2 X2.drew := (Below.refl _ _).drew
      generalize X2.drew = wd2 at *
      iterate 6
       apply Ord.walk_light
       next => (simp only [la0, la1, la2]; rfl)
       next => rfl
       next => (intro w' hSw; have z := HZ.out w' hSw; clear hSw; go_simp; first | done | with_reducible rfl)
       simp only [Act.put, la3, la4, la5]
      apply Ord.walk_heavy
      next => (simp only [la0, la1, la2]; rfl)
      next => rfl
      intro K hK
      go_wp2_with fail
      refine ((show Calls Try.prog 38 #[.agg #[.slice a u.length cap], .agg #[.int .i64 x, .int .i64 y], .slice (some ⟨eb, off, none⟩) 2 s.ec] _ _ by have h := rall_is f u a B cap x y p s.es (some ⟨eb, off, none⟩) s.ec ts ca _ HAX.out HX.out (HU.out.below (((Kx2.out).trans (hb.mono (Kx2.out).size))) hB) (Nat.le_trans hB (((Kx2.out).trans (hb.mono (Kx2.out).size))).size) (HEA.out ▸ HE.out.below (((Kx2.out).trans (hb.mono (Kx2.out).size))) hB) (by rw [HLN.out]; decide); rw [HLN.out] at h; exact h)).mono ?_; rintro _ v2_1 ⟨A9, c9, rfl, rw9, hb'⟩; dsimp only
      refine hK.out _ _ (hb.trans (hb'.mono hb.size)) (fun hHeld => ?_)
      clear hb hb'
      have hb := hHeld
      clear hK K
      try simp only [Act.put, la3, la4, la5]
      iterate 4
       apply Ord.walk_light
       next => (simp only [la0, la1, la2]; rfl)
       next => rfl
       next => (intro w' hSw; have z := HZ.out w' hSw; clear hSw; go_simp; first | done | with_reducible rfl)
       simp only [Act.put, la3, la4, la5]
      refine Ord.walk_tail ?_; simp only [List.drop_succ_cons, List.drop_zero]
      have hbx := hb
      clear hb HZ
      have Kx3 := kb Kx2 hbx
      have Nu_3 := nb hbx Nu_2
      have Np_3 := nb hbx Np_2
      have Ns_3 := nb hbx Ns_2
      have Nv_3 := nb hbx Nv_2
      clear xu0 lu xp0 xp1 lp xs0 xs1 xs2 xs3 xs4 xs5 ls xv0 xv1 xv2 xv3 xv4 xv5 xv6 xv7 lv
      clear hbx
      have HRW := Aid.hid rw9
      clear rw9
      have HAE := Aid.hid (HAX.out.symm.trans HA.out)
      obtain ⟨xu0, lu⟩ := xc1 Nu_3
      obtain ⟨xp0, xp1, lp⟩ := xc2 Np_3
      obtain ⟨xs0, xs1, xs2, xs3, xs4, xs5, ls⟩ := xc6 Ns_3
      obtain ⟨xv0, xv1, xv2, xv3, xv4, xv5, xv6, xv7, lv⟩ := xc8 Nv_3
      by_cases h1 : c1 = 0
      ·
       subst h1
       by_cases h2 : c2 = 0
       ·
        subst h2
        obtain ⟨rfl, rfl⟩ : ts = [t1, t2] ∧ ca = 0 := by have h := HAE.out; simpa using h
        obtain ⟨tb, to, hA9, htb, htc⟩ := HRW.out.tyr_ (by simp)
        have d00 := htc 0 _ rfl 0 _ rfl
        have d01 := htc 0 _ rfl 1 _ rfl
        have d02 := htc 0 _ rfl 2 _ rfl
        have d03 := htc 0 _ rfl 3 _ rfl
        have d10 := htc 1 _ rfl 0 _ rfl
        have d11 := htc 1 _ rfl 1 _ rfl
        have d12 := htc 1 _ rfl 2 _ rfl
        have d13 := htc 1 _ rfl 3 _ rfl
        simp only [Nat.add_zero, Nat.zero_mul, Nat.one_mul] at d00 d01 d02 d03 d10 d11 d12 d13
        subst hA9
        clear htc
        by_cases g1 : t1.k = 1
        ·
         have e1 : (t1.k == 1) = true := by simp [g1]
         by_cases g2 : t2.k = 1
         ·
          have e2 : (t2.k == 1) = true := by simp [g2]
          obtain rfl : rb = r := by have h := HR3.out; simpa [KG, g1, g2] using h
          clear g1 g2
          obtain ⟨bk, hbk⟩ := List.length_eq_one_iff.1 HSB.out.2
          have HBK := Aid.hid hbk
          obtain ⟨bb, bo, hbA, hbb, hbc⟩ := (HSB.out.1.1.below Kx3.out hB) (by rw [hbk]; simp)
          have cb := hbc 0 bk.cells (by rw [hbk]; rfl) 0 _ rfl
          simp only [Nat.add_zero, Nat.zero_mul] at cb
          have lbb : bb < v2_1.heap.size := Nat.lt_of_lt_of_le hbb (Nat.le_trans hB (Kx3.out).size)
          have HSB1 := Aid.hid (HSB.out.1.2 bk (by rw [hbk]; simp))
          have HSK := Aid.hid (HS.out bk (by rw [hbk]; simp))
          have hb1 : s.bs.length = 1 := HSB.out.2
          rw [hbA, hb1] at xs5
          have HBR2 : Hid (Ty.stmts p true bk.l = rb) := Aid.hid (by have h := HBR.out; rw [hbk] at h; simpa using h)
          clear hbk hbc hbA hb1
          go_wp2_with fail
          have HZ := Aid.hid (fun (w' : World) (hSw : Below v2_1.heap.size v2_1 w') => (⟨kc hSw xu0 lu, kc hSw xp0 lp, kc hSw xp1 lp, kc hSw xs0 ls, kc hSw xs1 ls, kc hSw xs2 ls, kc hSw xs3 ls, kc hSw xs4 ls, kc hSw xs5 ls, kc hSw xv0 lv, kc hSw xv1 lv, kc hSw xv2 lv, kc hSw xv3 lv, kc hSw xv4 lv, kc hSw xv5 lv, kc hSw xv6 lv, kc hSw xv7 lv, kc hSw d00 htb, kc hSw d01 htb, kc hSw d02 htb, kc hSw d03 htb, kc hSw d10 htb, kc hSw d11 htb, kc hSw d12 htb, kc hSw d13 htb, kc hSw cb lbb⟩ : _ ∧ _ ∧ _ ∧ _ ∧ _ ∧ _ ∧ _ ∧ _ ∧ _ ∧ _ ∧ _ ∧ _ ∧ _ ∧ _ ∧ _ ∧ _ ∧ _ ∧ _ ∧ _ ∧ _ ∧ _ ∧ _ ∧ _ ∧ _ ∧ _ ∧ _))
          have hb : Below v2_1.heap.size v2_1 v2_1.drew := (Below.refl _ _).drew
          refine Ord.wp_region_walk (fun w' => Below v2_1.heap.size v2_1 w') 7 [(true, 0), (true, 1), (true, 2), (true, 3), (true, 4), (true, 5), (false, 6)] (by kernel_rfl) (by kernel_rfl) (fun _ _ d _ _ h => by cases d <;> exact h) (hb) ?_
          clear hb
          have hb : Below v2_1.heap.size v2_1 v2_1.drew := (Below.refl _ _).drew
          generalize v2_1.drew = wd3 at *
          iterate 6
           apply Ord.walk_light
           next => (simp only [la0, la1, la2]; rfl)
           next => rfl
           next => (intro w' hSw; have z := HZ.out w' hSw; clear hSw; go_simp; first | done | with_reducible rfl)
           simp only [Act.put, la3, la4, la5]
          apply Ord.walk_heavy
          next => (simp only [la0, la1, la2]; rfl)
          next => rfl
          intro K hK
          go_wp2_with fail
          refine (HSK.out _ bk.A bk.c true rb HBR2.out (HU.out.below (((Kx3.out).trans (hb.mono (Kx3.out).size))) hB) (Nat.le_trans hB (((Kx3.out).trans (hb.mono (Kx3.out).size))).size) (HSB1.out.below (((Kx3.out).trans (hb.mono (Kx3.out).size))) hB)).mono ?_; rintro _ v3_1 ⟨rfl, hb'⟩; dsimp only
          refine hK.out _ _ (hb.trans (hb'.mono hb.size)) (fun hHeld => ?_)
          clear hb hb'
          have hb := hHeld
          clear hK K
          try simp only [Act.put, la3, la4, la5]
          refine Ord.walk_tail ?_; simp only [List.drop_succ_cons, List.drop_zero]
          have hbx := hb
          clear hb HZ
          have Kx4 := kb Kx3 hbx
          have Nu_4 := nb hbx Nu_3
          have Np_4 := nb hbx Np_3
          have Ns_4 := nb hbx Ns_3
          have Nv_4 := nb hbx Nv_3
          clear xu0 lu xp0 xp1 lp xs0 xs1 xs2 xs3 xs4 xs5 ls xv0 xv1 xv2 xv3 xv4 xv5 xv6 xv7 lv d00 d01 d02 d03 d10 d11 d12 d13 htb cb lbb
          clear hbx
          go_wp2_with fail
          go_ret
          exact ⟨rfl, Kx4.out⟩
         ·
          have e2 : (t2.k == 1) = false := by simpa using g2
          obtain rfl : 14 = r := by have h := HR3.out; simpa [KG, g1, g2] using h
          clear g1 g2
          go_wp2_with fail
          go_ret
          exact ⟨rfl, Kx3.out⟩
        ·
         have e1 : (t1.k == 1) = false := by simpa using g1
         obtain rfl : 14 = r := by have h := HR3.out; simpa [KG, g1] using h
         clear g1
         go_wp2_with fail
         go_ret
         exact ⟨rfl, Kx3.out⟩
       ·
        obtain ⟨rfl, rfl⟩ : ts = [] ∧ c2 = ca := by have h := HAE.out; simp [h2] at h; exact ⟨h.1, h.2.symm⟩
        have f9 : (c2 != 0) = true := by simpa using h2
        obtain rfl : c2 = r := by have h := HR3.out; simpa [KG, h2] using h
        clear h2
        go_wp2_with fail
        go_ret
        exact ⟨rfl, Kx3.out⟩
      ·
       obtain ⟨rfl, rfl⟩ : ts = [] ∧ c1 = ca := by have h := HAE.out; simp [h1] at h; exact ⟨h.1, h.2.symm⟩
       have f9 : (c1 != 0) = true := by simpa using h1
       obtain rfl : c1 = r := by have h := HR3.out; simpa [KG, h1] using h
       clear h1
       go_wp2_with fail
       go_ret
       exact ⟨rfl, Kx3.out⟩
   ·
    have f0 : (vv.ty.k != 1) = true := by simpa using h1
    obtain rfl : 14 = r := by have h := HR2.out; simpa [h1] using h
    clear h1
    go_wp2_with fail
    go_ret
    exact ⟨rfl, Kx2.out⟩
end Go.Proofs.Ytmhdcehpddbjaaa
