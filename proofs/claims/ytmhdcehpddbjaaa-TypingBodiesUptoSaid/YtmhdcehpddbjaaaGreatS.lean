/- Statements, gone through: how many parts. -/
import Derived.Test.YtmhdcehpddbjaaaGreat
namespace Go.Proofs.Ytmhdcehpddbjaaa
open Go.RowKit

theorem labelsGo_cons (m : Int) (x : Lb) (r : List Lb) (n : Int) : labelsGo m (x :: r) n = if n ≤ m then labelsGo m r (wrap64 (wrap64 (n + 1) + x.xs.length)) else n := rfl
set_option maxRecDepth 100000 in
set_option maxHeartbeats 8000000 in
theorem stmts_is : ∀ (f : Nat) (A : Option Addr) (B cap : Nat) (l : List St) (m r : Int) (w : World), stmtsGo l m 0 = r → StsAt f w B A l →
    Calls Try.prog 28 #[.slice A l.length cap, .int .i64 m] w fun e w' => e = .returned (.int .i64 r) ∧ w = w' := by
  intro f
  induction f with
  | zero =>
    intro A B cap l m r w hr h
    obtain rfl : l = [] := h
    obtain rfl : 0 = r := by rw [← hr, stmtsGo_nil]
    clear hr
    go_enter Try.func28, Try.ntmps28
    try simp only [List.append_eq, List.cons_append, List.nil_append]
    go_wp2_with fail
    go_loopw [5, 6] (fun vn vi wr => vn = .int .i64 0 ∧ vi = .int .i64 0 ∧ wr = w) (fun _ _ _ => 0)
    case atStart => exact ⟨rfl, rfl, rfl⟩
    case round =>
      obtain ⟨rfl, rfl, rfl⟩ := hrel
      go_wp2_with fail
      go_ret
      exact ⟨rfl, rfl⟩
  | succ f ih =>
    intro A B cap l m r w hr h
    obtain ⟨hn, h1, h2⟩ := h
    have H := Aid.hid h1
    have HS := Aid.hid h2
    have IH := Aid.hid ih
    have HR := Aid.hid hr
    clear h1 h2 ih hr
    go_enter Try.func28, Try.ntmps28
    try simp only [List.append_eq, List.cons_append, List.nil_append]
    go_wp2_with fail
    go_loopw [5, 6] (fun vn vi wr => ∃ (k : Nat) (s : Int), vn = .int .i64 s ∧ vi = .int .i64 k ∧ k ≤ l.length ∧ Hid (stmtsGo (l.drop k) m s = r) ∧ wr = w) (fun _ vi _ => l.length - (intOf vi).toNat)
    case atStart => exact ⟨0, 0, rfl, rfl, Nat.zero_le _, HR, rfl⟩
    case round =>
      obtain ⟨k, s, rfl, rfl, hk, HK, rfl⟩ := hrel
      by_cases hlt : k < l.length
      · obtain ⟨b, off, rfl, _, hc⟩ := H.out (by simpa using Nat.lt_of_le_of_lt (Nat.zero_le _) hlt)
        obtain ⟨e, he⟩ : ∃ e, l[k]? = some e := ⟨_, List.getElem?_eq_getElem hlt⟩
        have hce := hc k e.cells (by simp [he])
        have q2 := hce 2 _ rfl
        have q3 := hce 3 _ rfl
        have q4 := hce 4 _ rfl
        have q5 := hce 5 _ rfl
        have HD : Hid ((if s ≤ m then (if 60 < e.name.size then wrap64 (m + 1) else stmtsGo (l.drop (k + 1)) m (blocksGo e.bs m (labelsGo m e.ls (wrap64 (wrap64 (s + 1) + exprsGo e.es (wrap64 (m - s)) 0))))) else s) = r) := Aid.hid (by rw [← stmtsGo_cons, ← drop_cons he]; exact HK.out)
        obtain ⟨g1, ⟨ll, g2, g3⟩, bl, g4, g5⟩ := HS.out e (List.mem_of_getElem? he)
        have G1 := Aid.hid g1; have G2 := Aid.hid g2; have G3 := Aid.hid g3; have G4 := Aid.hid g4; have G5 := Aid.hid g5
        clear hc he hce HK g1 g2 g3 g4 g5
        by_cases hm : s ≤ m
        · by_cases h1 : (60 : Int) < (e.name.size : Int)
          · obtain rfl : wrap64 (m + 1) = r := by have := HD.out; rwa [if_pos hm, if_pos (by omega)] at this
            go_wp2_with fail
            go_ret
            exact ⟨rfl, rfl⟩
          · have h1b : decide ((60 : Int) < (e.name.size : Int)) = false := by simpa using h1
            have HE : Hid (stmtsGo (l.drop (k + 1)) m (blocksGo e.bs m (labelsGo m e.ls (wrap64 (wrap64 (s + 1) + exprsGo e.es (wrap64 (m - s)) 0)))) = r) := Aid.hid (by have := HD.out; rwa [if_pos hm, if_neg (by omega)] at this)
            clear HD
            go_wp2_with fail
            refine (exprs_is f e.eA B e.ec e.es _ _ _ rfl G1.out).mono ?_; rintro e' w' ⟨rfl, rfl⟩
            generalize exprsGo e.es (wrap64 (m - s)) 0 = q at HE ⊢
            go_wp2_with fail
            generalize wrap64 (wrap64 (s + 1) + q) = n1 at HE ⊢
            go_loopw [5, 7] (fun vn vj wi => ∃ (j : Nat) (n : Int), vn = .int .i64 n ∧ vj = .int .i64 j ∧ j ≤ e.ls.length ∧ Hid (stmtsGo (l.drop (k + 1)) m (blocksGo e.bs m (labelsGo m (e.ls.drop j) n)) = r) ∧ wi = wr) (fun _ vj _ => e.ls.length - (intOf vj).toNat)
            case atStart => exact ⟨0, n1, rfl, rfl, Nat.zero_le _, HE, rfl⟩
            case round =>
              clear HE
              obtain ⟨j, n, rfl, rfl, hj, HJ, rfl⟩ := hrel
              by_cases hjl : j < e.ls.length ∧ n ≤ m
              · obtain ⟨hjl, hnm⟩ := hjl
                obtain ⟨b2, off2, hA2, _, hc2⟩ := G2.out (by simpa using Nat.lt_of_le_of_lt (Nat.zero_le _) hjl)
                rw [hA2] at q4
                obtain ⟨x, hx⟩ : ∃ x, e.ls[j]? = some x := ⟨_, List.getElem?_eq_getElem hjl⟩
                have c2 := hc2 j x.cells (by simp [hx]) 0 _ rfl
                simp only [Nat.mul_one, Nat.add_zero] at c2
                have HL : Hid (stmtsGo (l.drop (k + 1)) m (blocksGo e.bs m (labelsGo m (e.ls.drop (j + 1)) (wrap64 (wrap64 (n + 1) + x.xs.length)))) = r) := Aid.hid (by have := HJ.out; rwa [drop_cons hx, labelsGo_cons, if_pos hnm] at this)
                have xl := (G3.out x (List.mem_of_getElem? hx)).1
                clear hc2 hx HJ
                go_wp2_with fail
                go_roundw
                case rel => exact ⟨j + 1, _, rfl, by go_num, by omega, HL, trivial⟩
                case measure => simp [intOf]; omega
              · have HL : Hid (stmtsGo (l.drop (k + 1)) m (blocksGo e.bs m n) = r) := Aid.hid (by
                  have := HJ.out
                  by_cases hjl2 : j < e.ls.length
                  · obtain ⟨x, hx⟩ : ∃ x, e.ls[j]? = some x := ⟨_, List.getElem?_eq_getElem hjl2⟩
                    rwa [drop_cons hx, labelsGo_cons, if_neg (fun h => hjl ⟨hjl2, h⟩)] at this
                  · rwa [show e.ls.drop j = [] from List.drop_eq_nil_of_le (by omega), show labelsGo m [] n = n from rfl] at this)
                clear HJ
                have key : (j < e.ls.length ∧ ¬ n ≤ m) ∨ ¬ j < e.ls.length := by
                  by_cases h : j < e.ls.length
                  · exact Or.inl ⟨h, fun h' => hjl ⟨h, h'⟩⟩
                  · exact Or.inr h
                clear hjl
                rcases key with ⟨hjl, hnm⟩ | hjl
                all_goals
                  (try have hnm2 : decide (n ≤ m) = false := by simpa using hnm)
                  go_wp2_with fail
                  go_loopw [5, 8] (fun vn vj wi => ∃ (i : Nat) (n : Int), vn = .int .i64 n ∧ vj = .int .i64 i ∧ i ≤ e.bs.length ∧ Hid (stmtsGo (l.drop (k + 1)) m (blocksGo (e.bs.drop i) m n) = r) ∧ wi = wr) (fun _ vj _ => e.bs.length - (intOf vj).toNat)
                  case atStart => exact ⟨0, n, rfl, rfl, Nat.zero_le _, HL, rfl⟩
                  case round =>
                    clear HL
                    obtain ⟨i, n', rfl, rfl, hi, HI, rfl⟩ := hrel
                    by_cases hil : i < e.bs.length
                    · obtain ⟨x, hx⟩ : ∃ x, e.bs[i]? = some x := ⟨_, List.getElem?_eq_getElem hil⟩
                      have HL : Hid (stmtsGo (l.drop (k + 1)) m (if n' ≤ m then blocksGo (e.bs.drop (i + 1)) m (wrap64 (wrap64 (n' + 1) + stmtsGo x.l (wrap64 (m - n')) 0)) else n') = r) := Aid.hid (by have := HI.out; rwa [drop_cons hx, blocksGo_cons] at this)
                      by_cases hnm : n' ≤ m
                      · obtain ⟨b2, off2, hA2, _, hc2⟩ := G4.out (by simpa using Nat.lt_of_le_of_lt (Nat.zero_le _) hil)
                        rw [hA2] at q5
                        have c2 := hc2 i x.cells (by simp [hx]) 0 _ rfl
                        simp only [Nat.mul_one, Nat.add_zero] at c2
                        have HL2 : Hid (stmtsGo (l.drop (k + 1)) m (blocksGo (e.bs.drop (i + 1)) m (wrap64 (wrap64 (n' + 1) + stmtsGo x.l (wrap64 (m - n')) 0))) = r) := Aid.hid (by have := HL.out; rwa [if_pos hnm] at this)
                        have HX := Aid.hid (G5.out x (List.mem_of_getElem? hx))
                        clear hc2 hx HI HL
                        go_wp2_with fail
                        refine (IH.out x.A B x.c x.l _ _ _ rfl HX.out).mono ?_; rintro e' w' ⟨rfl, rfl⟩
                        generalize stmtsGo x.l (wrap64 (m - n')) 0 = q2 at HL2 ⊢
                        go_wp2_with fail
                        go_roundw
                        case rel => exact ⟨i + 1, _, rfl, by go_num, by omega, HL2, trivial⟩
                        case measure => simp [intOf]; omega
                      · have hnm2' : decide (n' ≤ m) = false := by simpa using hnm
                        have HL2 : Hid (stmtsGo (l.drop (k + 1)) m n' = r) := Aid.hid (by have := HL.out; rwa [if_neg hnm] at this)
                        clear hx HI HL
                        go_wp2_with fail
                        go_roundw
                        case rel => exact ⟨k + 1, _, rfl, by go_num, by omega, HL2, trivial⟩
                        case measure => simp [intOf]; omega
                    · have HL2 : Hid (stmtsGo (l.drop (k + 1)) m n' = r) := Aid.hid (by have := HI.out; rwa [show e.bs.drop i = [] from List.drop_eq_nil_of_le (by omega), blocksGo_nil] at this)
                      clear HI
                      go_wp2_with fail
                      go_roundw
                      case rel => exact ⟨k + 1, _, rfl, by go_num, by omega, HL2, trivial⟩
                      case measure => simp [intOf]; omega
        · obtain rfl : s = r := by have := HD.out; rwa [if_neg hm] at this
          have hm2 : decide (s ≤ m) = false := by simpa using hm
          go_wp2_with fail
          go_ret
          exact ⟨rfl, rfl⟩
      · obtain rfl : s = r := by have := HK.out; rwa [List.drop_eq_nil_of_le (by omega), stmtsGo_nil] at this
        go_wp2_with fail
        go_ret
        exact ⟨rfl, rfl⟩
end Go.Proofs.Ytmhdcehpddbjaaa
